/-
  Plain: what is wrong with a type is never told as 0; how the document goes over the parts. No program in sight. Plain: the fields of a record's type, part by ..
-/
import Derived.Test.YtjcdeikbghjpkaaGreatDoorQ5
import Derived.Test.YtjcdeikbghjpkaaGreatDoorQ9
set_option maxRecDepth 100000
namespace Go.Wk
theorem zlC(k:Kd):za6 k≠ .error 0:=by
 unfold za6;split
 ·intro h;injection h with h;exact absurd h (by decide)
 ·intro h;cases h
theorem zod(g:Fl)(s:ByteArray)(b:Bool):zaM g s b≠ .error 0:=by
 unfold zaM;split
 ·split
  ·intro h;cases h
  ·intro h;injection h with h;exact absurd h (by decide)
 ·intro h;injection h with h;exact absurd h (by decide)
theorem zr7(τ:Stg)(k:Kd)(s:ByteArray)(b:Bool):zca τ k s b≠ .error 0:=by
 cases k with
 | base x =>
  simp only [zca]
  split
  ·intro h;cases h
  ·intro h;injection h with h;exact absurd h (by decide)
 | set p=>simp only [zca];intro h;injection h with h;exact absurd h (by decide)
 | ent u =>
  simp only [zca]
  split
  ·intro h;injection h with h;exact absurd h (by decide)
  ·exact zod _ _ _
 | fs g=>exact zod _ _ _
theorem zoy(τ:Stg)(s:ByteArray):jF τ s≠ .error 0:=by
 unfold jF
 repeat' split
 all_goals
  intro h
  first
   | cases h;done
   |(injection h with h;exact absurd h (by decide))
theorem zj3:∀(L:List Kd) (k:Kd),zaF k L≠ .error 0
 | [],k=>zlC _
 | p :: r,k=>by
  unfold zaF;split
  ·intro h;injection h with h;exact absurd h (by decide)
  ·exact zj3 r _
theorem zqP(op:Int)(L:List Kd):zG op L≠ .error 0:=by
 unfold zG;split
 ·intro h;cases h
 ·intro h;injection h with h;exact absurd h (by decide)
mutual
theorem zdW(τ:Stg):∀(x:Ex) (f:Bool) (F:zy),x.valid f→tyX τ x F≠ .error 0
 | .node n ps,f,F,h=>by
  have hl:=h.2.1;unfold tyX;by_cases h11:n.op=11
  ·rw [if_pos h11];refine zpy τ ps _ _ F h.2.2 ?_;unfold zp at hl
   repeat' split at hl
   all_goals omega
  rw [if_neg h11];by_cases h13:n.op=13
  ·rw [if_pos h13];refine zrR τ ps _ _ F h.2.2 ?_;unfold zp at hl
   repeat' split at hl
   all_goals omega
  rw [if_neg h13];by_cases h6:n.op=6
  ·rw [if_pos h6];have hv:=h.2.2;rw [show zA n=true by unfold zA;exact decide_eq_true h6] at hv;have:=zp1 τ ps _ F 1 hv;split
   ·rename_i e he;intro q;injection q with q;subst q;exact this he
   ·intro q;cases q
  rw [if_neg h6];have hS:=zpl τ ps _ _ F h.2.2;split
  ·rename_i e he;intro q;injection q with q;subst q;exact hS he
  ·rename_i L he;split
   ·intro q;cases q
   ·split
    ·intro q;cases q
    ·split
     ·intro q;cases q
     ·split
      ·intro q;cases q
      ·split
       ·exact zoy _ _
       ·split
        ·exact zj3 _ _
        ·split
         ·rename_i h22
          cases L with
          | nil =>
           exfalso
           have:=zk6 he
           unfold zp at hl
           simp at this
           repeat' split at hl
           all_goals omega
          | cons k r=>exact zr7 _ _ _ _
         ·exact zqP _ _
theorem zpy(τ:Stg):∀(ps:Exs) (c:Bool) (l:ByteArray) (F:zy),ps.valid c l→ps.len=2→zbL τ ps F≠ .error 0
 | .nil,_,_,_,_,h2=>by simp [Exs.len] at h2
 | .cons a r,c,l,F,h,h2=>by
  have h1:=zdW τ a c F h.2.1;have h3:=zf8 τ r c a.head.s (zbw a F) h.2.2 (by simp [Exs.len] at h2;omega);unfold zbL;split
  ·rename_i e he;intro q;injection q with q;subst q;exact h1 he
  ·split
   ·rename_i e he;intro q;injection q with q;subst q;exact h3 he
   ·split
    ·intro q;cases q
    ·intro q;injection q with q;exact absurd q (by decide)
theorem zrR(τ:Stg):∀(ps:Exs) (c:Bool) (l:ByteArray) (F:zy),ps.valid c l→ps.len=3→zdQ τ ps F≠ .error 0
 | .nil,_,_,_,_,h2=>by simp [Exs.len] at h2
 | .cons a r,c,l,F,h,h2=>by
  have h1:=zdW τ a c F h.2.1;have h3:=zf8 τ r c a.head.s (zbw a F) h.2.2 (by simp [Exs.len] at h2;omega);have h4:=zq0 τ r c a.head.s F h.2.2 (by simp [Exs.len] at h2;omega);unfold zdQ;split
  ·rename_i e he;intro q;injection q with q;subst q;exact h1 he
  ·split
   ·rename_i e he;intro q;injection q with q;subst q;exact h3 he
   ·split
    ·rename_i e he;intro q;injection q with q;subst q;exact h4 he
    ·split
     ·exact zlC _
     ·intro q;injection q with q;exact absurd q (by decide)
theorem zf8(τ:Stg):∀(ps:Exs) (c:Bool) (l:ByteArray) (F:zy),ps.valid c l→1≤ps.len→za2 τ ps F≠ .error 0
 | .nil,_,_,_,_,h2=>by simp [Exs.len] at h2
 | .cons a r,c,l,F,h,_=>zdW τ a c F h.2.1
theorem zq0(τ:Stg):∀(ps:Exs) (c:Bool) (l:ByteArray) (F:zy),ps.valid c l→2≤ps.len→zd2 τ ps F≠ .error 0
 | .nil,_,_,_,_,h2=>by simp [Exs.len] at h2
 | .cons a r,c,l,F,h,h2=>zf8 τ r c a.head.s F h.2.2 (by simp [Exs.len] at h2;omega)
theorem zpl(τ:Stg):∀(ps:Exs) (c:Bool) (l:ByteArray) (F:zy),ps.valid c l→tyS τ ps F≠ .error 0
 | .nil,_,_,_,_=>by unfold tyS;intro q;cases q
 | .cons a r,c,l,F,h=>by
  have h1:=zdW τ a c F h.2.1;have h3:=zpl τ r c a.head.s F h.2.2;unfold tyS;split
  ·rename_i e he;intro q;injection q with q;subst q;exact h1 he
  ·split
   ·rename_i e he;intro q;injection q with q;subst q;exact h3 he
   ·intro q;cases q
theorem zp1(τ:Stg):∀(ps:Exs) (l:ByteArray) (F:zy) (c:Nat),ps.valid true l→tyF τ ps F c≠ .error 0
 | .nil,_,_,_,_=>by unfold tyF;intro q;cases q
 | .cons a r,l,F,c,h=>by
  have h1:=zqk τ a F h.2.1;unfold tyF;split
  ·rename_i e he;intro q;injection q with q;subst q;exact h1 he
  ·split
   ·intro q;injection q with q;exact absurd q (by decide)
   ·rename_i k he hs;have h3:=zp1 τ r a.head.s F (c+1+k.sz) h.2.2;split
    ·rename_i e he;intro q;injection q with q;subst q;exact h3 he
    ·intro q;cases q
theorem zqk(τ:Stg):∀(x:Ex) (F:zy),x.valid true→zbN τ x F≠ .error 0
 | .node n ps,F,h=>by
  have h0:=h.1;have hl:=h.2.1;unfold zad at h0;rw [Bool.and_eq_true] at h0;have h7:n.op=7:=by simpa using h0.2
  refine zf8 τ ps _ _ F h.2.2 ?_;unfold zp at hl
  repeat' split at hl
  all_goals omega
end
def tyM(τ:Stg):List (Ex × zy)→Except Int (List Kd)
 | [] => .ok []
 | x :: r=>match tyX τ x.1 x.2 with
  | .error e => .error e
  | .ok k=>match tyM τ r with
   | .error e => .error e
   | .ok L => .ok (k :: L)
theorem zlr(τ:Stg)(F:zy):∀ps:Exs,tyS τ ps F=tyM τ (ps.list.map fun x=>(x,F))
 | .nil=>by rw [tyS];rfl
 | .cons x r=>by rw [tyS,zlr τ F r];rfl
theorem zfz{τ:Stg}:∀ {L:List (Ex × zy)} {j:Nat} (h:j<L.length) {V:List Kd},tyM τ (L.take j)= .ok V→
 (∀k,tyX τ L[j].1 L[j].2 = .ok k→tyM τ (L.take (j+1))= .ok (V ++ [k]))∧(∀u,tyX τ L[j].1 L[j].2 = .error u→tyM τ L = .error u)
 | x :: r,0,h,V,hV=>by
  simp only [List.take_zero,tyM] at hV;injection hV with hV;subst hV;refine⟨fun k hk=>?_,fun u hu=>?_⟩
  ·simp only [List.getElem_cons_zero] at hk;simp [tyM,hk]
  ·simp only [List.getElem_cons_zero] at hu;simp [tyM,hu]
 | x :: r,j+1,h,V,hV=>by
  simp only [List.take_succ_cons,tyM] at hV;rcases hx:tyX τ x.1 x.2 with e|k0
  ·rw [hx] at hV;cases hV
  ·rw [hx] at hV;simp only at hV;rcases hr:tyM τ (r.take j) with e|V'
   ·rw [hr] at hV;cases hV
   ·rw [hr] at hV;simp only at hV;injection hV with hV;subst hV;obtain⟨h1,h2⟩:=zfz (L:=r) (j:=j) (by simpa using h) hr;refine⟨fun k hk=>?_,fun u hu=>?_⟩
    ·rw [List.take_succ_cons,tyM,hx];simp only;rw [h1 k (by simpa using hk)];simp
    ·rw [tyM,hx];simp only;rw [h2 u (by simpa using hu)]
theorem zkm{τ:Stg}(hτ:zcF τ):∀ {L:List (Ex × zy)} {V:List Kd},(∀x∈L,x.1.valid false)→tyM τ L = .ok V→∀k∈V,KOk k
 | [],V,_,h,k,hk=>by
  simp only [tyM] at h;injection h with h;subst h;cases hk
 | x :: r,V,hv,h,k,hk=>by
  simp only [tyM] at h;have h1:=zc2 hτ x.1 false x.2 (hv x (by simp));rcases hx:tyX τ x.1 x.2 with e|k0
  ·rw [hx] at h;cases h
  ·rw [hx] at h h1;simp only at h;rcases hr:tyM τ r with e|V'
   ·rw [hr] at h;cases h
   ·rw [hr] at h;simp only at h;injection h with h;subst h;rcases List.mem_cons.1 hk with rfl|hk
    ·exact h1
    ·exact zkm hτ (fun y hy=>hv y (by simp [hy])) hr k hk
theorem zrl{τ:Stg}{n:Nd}{a b:Ex}{F G:zy}(h:n.op=11)(hG:za7 (zbw a F) G):
 tyX τ (.node n (.cons a (.cons b .nil))) F=(match tyM τ [(a,F),(b,G)] with
  | .error e => .error e
  | .ok L=>if L.all (zj [41])=true then .ok (.base 41) else .error 2):=by
 rw [tyX,if_pos h];simp only [zbL,za2,tyM];rw [zc8 τ b hG];rcases tyX τ a F with e|k
 ·rfl
 ·simp only;rcases tyX τ b G with e|j
  ·rfl
  ·simp
theorem zsZ{τ:Stg}{n:Nd}{a b c:Ex}{F G:zy}(h:n.op=13)(hG:za7 (zbw a F) G):
 tyX τ (.node n (.cons a (.cons b (.cons c .nil)))) F=(match tyM τ [(a,F),(b,G),(c,F)] with
  | .error e => .error e
  | .ok L=>match L with
   | [k,i,j]=>if zj [41] k=true then za6 (zm i j) else .error 2
   | _ => .error 2):=by
 rw [tyX,if_neg (by omega),if_pos h];simp only [zdQ,za2,zd2,tyM];rw [zc8 τ b hG];rcases tyX τ a F with e|k
 ·rfl
 ·simp only;rcases tyX τ b G with e|i
  ·rfl
  ·simp only;rcases tyX τ c F with e|j
   ·rfl
   ·rfl
theorem zop{τ:Stg}{n:Nd}{ps:Exs}{F:zy}(h11:n.op≠11)(h13:n.op≠13)(h6:n.op≠6):tyX τ (.node n ps) F=(match tyM τ (ps.list.map fun x=>(x,F)) with
 | .error e => .error e
 | .ok L=>zb2 τ n ps F L):=by
 rw [zmy h11 h13 h6,zlr];cases tyM τ (ps.list.map fun x=>(x,F))<;> rfl
def zd5(τ:Stg)(F:zy):List Ex→Nat→Except Int Fl
 | [],_ => .ok .nil
 | x :: r,c=>match zbN τ x F with
  | .error e => .error e
  | .ok k=>if 200<c+1+k.sz then .error 4 else match zd5 τ F r (c+1+k.sz) with
   | .error e => .error e
   | .ok f => .ok (.cons x.head.s true k f)
theorem zlj(τ:Stg)(F:zy):∀(ps:Exs) (c:Nat),tyF τ ps F c=zd5 τ F ps.list c
 | .nil,_=>by rw [tyF];rfl
 | .cons x r,c=>by
  rw [tyF];simp only [Exs.list,zd5];rcases zbN τ x F with e|k
  ·rfl
  ·simp only [zlj τ F r];split
   ·rfl
   ·rcases zd5 τ F r.list (c+1+k.sz) with e|f <;> rfl
theorem zne(τ:Stg)(x:Ex)(F:zy)(h:x.valid true):zbN τ x F=tyX τ (zba true x) F:=by
 obtain⟨n,y,rfl,-⟩:=(XAt.all h).field;rfl
theorem zoj{τ:Stg}{F:zy}{L:List (ByteArray × Kd)}{y:Ex}{r:List Ex}{c:Nat}{e:Int}(h:zbN τ y F = .error e):zdN L (zd5 τ F (y :: r) c)= .error e:=by
 rw [zd5,h];rfl
theorem zoI{τ:Stg}{F:zy}{L:List (ByteArray × Kd)}{y:Ex}{r:List Ex}{c:Nat}{k:Kd}(h:zbN τ y F = .ok k)(hb:200<c+1+k.sz):zdN L (zd5 τ F (y :: r) c)= .error 4:=by
 rw [zd5,h];simp only;rw [if_pos hb];rfl
theorem zqt{τ:Stg}{F:zy}{L:List (ByteArray × Kd)}{y:Ex}{r:List Ex}{c:Nat}{k:Kd}(h:zbN τ y F = .ok k)(hb:¬200<c+1+k.sz):zdN L (zd5 τ F (y :: r) c)=zdN (L ++ [(y.head.s,k)]) (zd5 τ F r (c+1+k.sz)):=by
 simp only [zd5,h,if_neg hb];rcases zd5 τ F r (c+1+k.sz) with e|f
 ·rfl
 ·simp only [zdN,ziE,zcm]
end Go.Wk
