/-
  Plain: where the fields of a type stand; below, and the least above two, as the reference has them. No program in sight. What an expression's type is, or what ..
-/
import Derived.Test.YtlkfaliomdbaoaaGreatDoorQ1
import Derived.Test.YtlkfaliomdbaoaaGreatDoorQ2
import Derived.Test.YtlkfaliomdbaoaaGreatDoorQ3
import Derived.Test.YtlkfaliomdbaoaaGreatDoorQ4
set_option maxRecDepth 100000
namespace Go.Wk
def zkc(s:ByteArray)(m:Bool):Nd:=⟨47,if m=true then 1 else 0,s,emp⟩
structure zjO(t:List Nd)(q:Nat)(s:ByteArray)(m:Bool)(k:Kd):Prop where
 nd:t[q]?=some (zkc s m)
 valid:k.valid
 drop:∃r,t.drop (q+1)=k.flat ++ r
theorem zaa(k:Kd):1≤k.flat.length:=by cases k <;> simp [Kd.flat]
theorem zjO.le{t:List Nd}{q:Nat}{s:ByteArray}{m:Bool}{k:Kd}(h:zjO t q s m k):q+1+k.flat.length≤t.length:=by
 obtain⟨r,e⟩:=h.drop;have h1:=congrArg List.length e;rw [List.length_drop,List.length_append] at h1;have:=zaa k;omega
theorem zjO.seg{t:List Nd}{q:Nat}{s:ByteArray}{m:Bool}{k:Kd}(h:zjO t q s m k):seg t (q+1) (q+1+k.flat.length)=k.flat:=by
 obtain⟨r,e⟩:=h.drop;unfold Wk.seg;rw [e,show q+1+k.flat.length-(q+1)=k.flat.length by omega,List.take_left]
structure zcK(t:List Nd)(p:Nat)(g:Fl):Prop where
 valid:∃x,g.validFrom x
 drop:∃r,t.drop p=g.flat ++ r
theorem zcK.head{t:List Nd}{p:Nat}{s:ByteArray}{m:Bool}{k:Kd}{r:Fl}(h:zcK t p (.cons s m k r)):zjO t p s m k∧zcK t (p+1+k.flat.length) r:=by
 obtain⟨⟨x,v1,v2,v3,v4⟩,⟨u,e⟩⟩:=h;simp only [Fl.flat,List.cons_append,List.append_assoc] at e;have h0:t[p]?=some (zkc s m):=by
  have:=congrArg (fun l=>l[0]?) e;simpa [zkc] using this
 have h1:t.drop (p+1)=k.flat ++(r.flat ++ u):=by
  have:=congrArg (List.drop 1) e;rw [List.drop_drop] at this;simpa using this
 refine⟨⟨h0,v3,_,h1⟩,⟨s,v4⟩,u,?_⟩;have:=congrArg (List.drop k.flat.length) h1;rw [List.drop_drop,List.drop_left] at this;exact this
theorem zcK.start{f:Fl}(h:f.validFrom emp):zcK (Kd.fs f).flat 1 f:=⟨⟨_,h⟩,[],by simp [Kd.flat]⟩
theorem zcK.at{t:List Nd}:∀ {f:Fl} {p:Nat},zcK t p f→∀(i:Nat) (y:Kfd),f.list[i]?=some y→∃q:Nat,(zoE p f)[i]?=some q∧zjO t q y.1 y.2.1 y.2.2
 | .nil,_,_,i,y,h=>by simp [Fl.list] at h
 | .cons s m k r,p,hL,i,y,h=>by
  obtain⟨h1,h2⟩:=hL.head
  cases i with
  | zero =>
   simp only [Fl.list,List.getElem?_cons_zero,Option.some.injEq] at h
   subst h
   exact⟨p,by simp [zoE],h1⟩
  | succ i =>
   simp only [Fl.list,List.getElem?_cons_succ] at h
   obtain⟨q,e1,e2⟩:=h2.at i y h
   exact⟨q,by simpa [zoE] using e1,e2⟩
theorem zlQ:∀n:Nat,(∀k:Kd,k.sz≤n→k.flat.length=k.sz)∧(∀f:Fl,f.sz≤n→f.flat.length=f.sz)
 | 0=>by
  refine⟨fun k h=>by cases k <;> simp [Kd.sz] at h,fun f h=>?_⟩
  cases f with
  | nil=>rfl
  | cons s m k r=>simp [Fl.sz] at h
 | n+1=>by
  obtain⟨ihK,ihF⟩:=zlQ n;refine⟨fun k h=>?_,fun f h=>?_⟩
  ·cases k with
   | base x=>rfl
   | ent s=>rfl
   | set p=>simp only [Kd.sz] at h;simp only [Kd.flat,Kd.sz,List.length_cons];rw [ihK p (by omega)]
   | fs f=>simp only [Kd.sz] at h;simp only [Kd.flat,Kd.sz,List.length_cons];rw [ihF f (by omega)]
  ·cases f with
   | nil=>rfl
   | cons s m k r =>
    simp only [Fl.sz] at h
    simp only [Fl.flat,Fl.sz,List.length_cons,List.length_append]
    rw [ihK k (by omega),ihF r (by omega)]
theorem zad(k:Kd):k.flat.length=k.sz:=(zlQ _).1 k (Nat.le_refl _)
theorem zkm{s:ByteArray}(h:zf s=0):s.size≤20:=by
 unfold zf at h;split at h
 ·split at h
  ·cases h
  ·omega
 ·cases h
structure Stg where
 K:List KD
 a:AD
 who:ByteArray
 what:ByteArray
abbrev zW:=List (List Nd × ByteArray)
abbrev zbk:=Except Int Kd
def za7(F:zW)(P:List Nd)(s:ByteArray):Bool:=F.any fun x=>decide (x.2=s)&& decide (z8 x.1 P=0)
def kOp:Kd→Int
 | .base x=>x
 | .ent _=>44
 | .set _=>45
 | .fs _=>46
def zB(l:List Int)(k:Kd):Bool:=decide (kOp k=49)|| l.contains (kOp k)
def zc2(k:Kd):zbk:=if 200<k.sz then .error 4 else .ok k
def zgX(P:List Nd):Fl:=match zcG P with
 | some (.fs f)=>f
 | _ => .nil
def zbg:ByteArray:=⟨#[112,114,105,110,99,105,112,97,108]⟩
def zdh:ByteArray:=⟨#[97,99,116,105,111,110]⟩
def zaS:ByteArray:=⟨#[114,101,115,111,117,114,99,101]⟩
def za4:ByteArray:=⟨#[99,111,110,116,101,120,116]⟩
def zfX:ByteArray:=⟨#[65,99,116,105,111,110]⟩
def jY(τ:Stg)(s:ByteArray):zbk :=
 if s=zbg then .ok (.ent τ.who) else if s=zdh then .ok (.ent zfX) else if s=zaS then .ok (.ent τ.what) else if s=za4 then .ok (.fs (zgX τ.a.P)) else .error 3
def zcs(g:Fl)(s:ByteArray)(known:Bool):zbk:=match g.find s with
 | some (m,k)=>if m || known then .ok k else .error 3
 | none => .error 3
def zft(τ:Stg)(k:Kd)(s:ByteArray)(known:Bool):zbk:=match k with
 | .base x=>if x=49 then .ok (.base x) else .error 2
 | .set _ => .error 2
 | .ent u=>match za5 τ.K u with
  | none => .error 3
  | some d=>zcs (zgX d.P) s known
 | .fs g=>zcs g s known
def zaR:Kd→List Kd→zbk
 | k,[]=>zc2 (.set k)
 | k,p :: r=>if 200<(zl k p).sz then .error 4 else zaR (zl k p) r
def zba:Kd→Bool
 | .set p=>zB [44] p
 | k=>zB [44] k
def zcW(op:Int)(L:List Kd):Bool :=
 if op=9∨op=12 then L.all (zB [41])
 else if op=10∨15≤op∧op≤19 then L.all (zB [42])
 else if op=23 then(L.take 1).all (zB [43])
 else if op=24 then(L.take 1).all (zB [44])
 else if op=21 then(L.take 1).all (zB [46,44])
 else if op=25 then(L.take 1).all (zB [45])
 else if op=26∨op=27 then L.all (zB [45])
 else if op=20 then(L.take 1).all (zB [44])&&(L.drop 1).all zba
 else true
def zU(op:Int)(L:List Kd):zbk:=if zcW op L=true then .ok (.base (if op=10∨17≤op∧op≤19 then 42 else 41)) else .error 2
def znN:Exs→List Nd
 | .nil => []
 | .cons x _=>x.flat
mutual
def zb7:Ex→zW→zW
 | .node n ps,F=>if n.op=21 then(znN ps,n.s):: F else if n.op=11 then zn8 ps F else F
def zn8:Exs→zW→zW
 | .nil,F=>F
 | .cons x r,F=>zn8 r (zb7 x F)
end
mutual
def tyX(τ:Stg):Ex→zW→zbk
 | .node n ps,F =>
  if n.op=11 then zea τ ps F
  else if n.op=13 then zhq τ ps F
  else if n.op=6 then(match tyF τ ps F 1 with
   | .error e => .error e
   | .ok f => .ok (.fs f))
  else match tyS τ ps F with
   | .error e => .error e
   | .ok L =>
    if n.op=1 then .ok (.base 41) else if n.op=2 then .ok (.base 42) else if n.op=3 then .ok (.base 43) else if n.op=4 then .ok (.ent n.s)
    else if n.op=8 then jY τ n.s
    else if n.op=5 then zaR (.base 49) L
    else if n.op=22 then(match L with
     | k :: _=>zft τ k n.s (za7 F (znN ps) n.s)
     | [] => .error 0)
    else zU n.op L
def zea(τ:Stg):Exs→zW→zbk
 | .nil,_ => .error 0
 | .cons a r,F=>match tyX τ a F with
  | .error e => .error e
  | .ok k=>match zbw τ r (zb7 a F) with
   | .error e => .error e
   | .ok j=>if zB [41] k && zB [41] j then .ok (.base 41) else .error 2
def zhq(τ:Stg):Exs→zW→zbk
 | .nil,_ => .error 0
 | .cons c r,F=>match tyX τ c F with
  | .error e => .error e
  | .ok k=>match zbw τ r (zb7 c F) with
   | .error e => .error e
   | .ok a=>match zlp τ r F with
    | .error e => .error e
    | .ok b=>if zB [41] k then zc2 (zl a b) else .error 2
def zbw(τ:Stg):Exs→zW→zbk
 | .nil,_ => .error 0
 | .cons a _,F=>tyX τ a F
def zlp(τ:Stg):Exs→zW→zbk
 | .nil,_ => .error 0
 | .cons _ r,F=>zbw τ r F
def tyS(τ:Stg):Exs→zW→Except Int (List Kd)
 | .nil,_ => .ok []
 | .cons x r,F=>match tyX τ x F with
  | .error e => .error e
  | .ok k=>match tyS τ r F with
   | .error e => .error e
   | .ok L => .ok (k :: L)
def tyF(τ:Stg):Exs→zW→Nat→Except Int Fl
 | .nil,_,_ => .ok .nil
 | .cons x r,F,c=>match zeb τ x F with
  | .error e => .error e
  | .ok k=>if 200<c+1+k.sz then .error 4 else match tyF τ r F (c+1+k.sz) with
   | .error e => .error e
   | .ok f => .ok (.cons x.head.s true k f)
def zeb(τ:Stg):Ex→zW→zbk
 | .node _ ps,F=>zbw τ ps F
end
structure zcH(τ:Stg):Prop where
 kds:∀d∈τ.K,∃f,Kin d.P (.fs f)
 ctx:∃f,Kin τ.a.P (.fs f)
 who:zf τ.who=0
 what:zf τ.what=0
def KOk(k:Kd):Prop:=k.valid∧k.sz≤200
def TOk:zbk→Prop
 | .error _=>True
 | .ok k=>KOk k
theorem zbK{x:Int}(h:jm x):KOk (.base x):=⟨h,by simp [Kd.sz]⟩
theorem ziJ{s:ByteArray}(h:zf s=0):KOk (.ent s):=⟨h,by simp [Kd.sz]⟩
theorem zko{P:List Nd}{k:Kd}(h:Kin P k):KOk k:=⟨h.v,by have:=h.l;rw [h.e,zad] at this;exact this⟩
theorem KOk.kin{k:Kd}(h:KOk k):Kin k.flat k:=⟨h.1,rfl,by rw [zad];exact h.2⟩
theorem zdl{P:List Nd}{f:Fl}(h:Kin P (.fs f)):zgX P=f:=by unfold zgX;rw [h.read]
theorem zjI{k:Kd}(h:k.valid):TOk (zc2 k):=by
 unfold zc2;split
 ·trivial
 ·rename_i h1;exact⟨h,by omega⟩
theorem znD{g:Fl}(h:KOk (.fs g))(s:ByteArray)(b:Bool):TOk (zcs g s b):=by
 unfold zcs;rcases hf:g.find s with _|⟨m,k⟩
 ·trivial
 ·simp only;split
  ·have h1:=zbc hf;have h2:=h.2;simp only [Kd.sz] at h2;exact⟨zcm (zaI.1 h.1).2 hf,by omega⟩
  ·trivial
theorem zkP{K:List KD}{s:ByteArray}{d:KD}(h:za5 K s=some d):d∈K:=List.mem_of_find?_eq_some h
theorem zpx{τ:Stg}(hτ:zcH τ){k:Kd}(h:KOk k)(s:ByteArray)(b:Bool):TOk (zft τ k s b):=by
 unfold zft
 cases k with
 | base x => simp only; split
             ·exact h
             ·trivial
 | set p=>trivial
 | ent u =>
  simp only
  rcases hk:za5 τ.K u with _|d
  ·trivial
  ·obtain⟨f,hf⟩:=hτ.kds d (zkP hk)
   simp only;rw [zdl hf];exact znD (zko hf) s b
 | fs g=>exact znD h s b
theorem zn4{τ:Stg}(hτ:zcH τ)(s:ByteArray):TOk (jY τ s):=by
 unfold jY;split
 ·exact ziJ hτ.who
 ·split
  ·exact ziJ (by decide)
  ·split
   ·exact ziJ hτ.what
   ·split
    ·obtain⟨f,hf⟩:=hτ.ctx;rw [zdl hf];exact zko hf
    ·trivial
theorem zjk:∀(L:List Kd) {k:Kd},KOk k→(∀p∈L,KOk p)→TOk (zaR k L)
 | [],k,h,_=>zjI (show(Kd.set k).valid from h.1)
 | p :: r,k,h,hL=>by
  unfold zaR;split
  ·trivial
  ·rename_i h1;exact zjk r ⟨zab _ k p (Nat.le_refl _) h.1 (hL p (by simp)).1,by omega⟩ fun q hq=>hL q (by simp [hq])
theorem zoF(op:Int)(L:List Kd):TOk (zU op L):=by
 unfold zU;split
 ·split
  ·exact zbK (by decide)
  ·exact zbK (by decide)
 ·trivial
def zqa:Except Int (List Kd)→Prop
 | .error _=>True
 | .ok L=>∀k∈L,KOk k
def FOk(c:Nat)(x:ByteArray):Except Int Fl→Prop
 | .error _=>True
 | .ok f=>f.validFrom x∧c+f.sz≤200
theorem zpi{x:Ex}(h:x.valid true):zf x.head.s=0:=by
 obtain⟨n,ps⟩:=x;have h1:=h.1;unfold jT at h1;rw [Bool.and_eq_true] at h1;have h7:n.op=7:=by simpa using h1.2
 have h2:=h1.1;unfold jo at h2;rw [if_pos (by omega)] at h2;unfold zp at h2;simp only [Ex.head];simp [h7] at h2;exact h2.2
theorem zob(τ:Stg):∀(ps:Exs) (F:zW),TOk (zea τ ps F)
 | .nil,_=>trivial
 | .cons _ _,_=>by
  unfold zea;split
  ·trivial
  ·split
   ·trivial
   ·split
    ·exact zbK (by decide)
    ·trivial
mutual
theorem zd7{τ:Stg}(hτ:zcH τ):∀(x:Ex) (f:Bool) (F:zW),x.valid f→TOk (tyX τ x F)
 | .node n ps,f,F,h=>by
  unfold tyX;split
  ·exact zob τ ps F
  ·split
   ·exact zoM hτ ps _ _ F h.2.2
   ·split
    ·rename_i h6;have hv:=h.2.2;rw [show jU n=true by unfold jU;exact decide_eq_true h6] at hv;have:=zkY hτ ps emp F 1 (by omega) hv;rcases hr:tyF τ ps F 1 with e|g
     ·trivial
     ·rw [hr] at this;exact⟨this.1,by simp only [Kd.sz];have:=this.2;omega⟩
    ·have hS:=znd hτ ps _ _ F h.2.2;rcases hr:tyS τ ps F with e|L
     ·trivial
     ·rw [hr] at hS;simp only;split
      ·exact zbK (by decide)
      ·split
       ·exact zbK (by decide)
       ·split
        ·exact zbK (by decide)
        ·split
         ·rename_i h4;have h1:=h.1;unfold jT at h1;rw [Bool.and_eq_true] at h1;have h2:=h1.1;unfold jo at h2;rw [if_pos (by omega)] at h2;unfold zp at h2;refine ziJ ?_;simp [h4] at h2;exact h2.1.2
         ·split
          ·exact zn4 hτ _
          ·split
           ·exact zjk L (zbK (by decide)) hS
           ·split
            ·cases L with
             | nil=>trivial
             | cons k r=>exact zpx hτ (hS k (by simp)) _ _
            ·exact zoF _ _
theorem zoM{τ:Stg}(hτ:zcH τ):∀(ps:Exs) (c:Bool) (l:ByteArray) (F:zW),ps.valid c l→TOk (zhq τ ps F)
 | .nil,_,_,_,_=>trivial
 | .cons a r,c,l,F,h=>by
  have h1:=zg4 hτ r _ _ (zb7 a F) h.2.2;have h2:=znS hτ r _ _ F h.2.2;unfold zhq;split
  ·trivial
  ·split
   ·trivial
   ·rename_i e1;rw [e1] at h1;split
    ·trivial
    ·rename_i e2;rw [e2] at h2;split
     ·exact zjI (zab _ _ _ (Nat.le_refl _) h1.1 h2.1)
     ·trivial
theorem zg4{τ:Stg}(hτ:zcH τ):∀(ps:Exs) (c:Bool) (l:ByteArray) (F:zW),ps.valid c l→TOk (zbw τ ps F)
 | .nil,_,_,_,_=>trivial
 | .cons a _,_,_,F,h=>zd7 hτ a _ F h.2.1
theorem znS{τ:Stg}(hτ:zcH τ):∀(ps:Exs) (c:Bool) (l:ByteArray) (F:zW),ps.valid c l→TOk (zlp τ ps F)
 | .nil,_,_,_,_=>trivial
 | .cons _ r,_,_,F,h=>zg4 hτ r _ _ F h.2.2
theorem znd{τ:Stg}(hτ:zcH τ):∀(ps:Exs) (c:Bool) (l:ByteArray) (F:zW),ps.valid c l→zqa (tyS τ ps F)
 | .nil,_,_,_,_=>by unfold tyS;exact fun _ h=>nomatch h
 | .cons a r,c,l,F,h=>by
  have h1:=zd7 hτ a _ F h.2.1;have h2:=znd hτ r _ _ F h.2.2;unfold tyS;split
  ·trivial
  ·rename_i e1;rw [e1] at h1;split
   ·trivial
   ·rename_i e2;rw [e2] at h2;intro k hk;rcases List.mem_cons.1 hk with rfl|hk
    ·exact h1
    ·exact h2 k hk
theorem zkY{τ:Stg}(hτ:zcH τ):∀(ps:Exs) (l:ByteArray) (F:zW) (c:Nat),c≤200→ps.valid true l→FOk c l (tyF τ ps F c)
 | .nil,_,_,c,hc,_=>by unfold tyF;exact⟨trivial,by simp only [Fl.sz];omega⟩
 | .cons a r,l,F,c,hc,h=>by
  have h1:=znh hτ a _ F h.2.1;unfold tyF;split
  ·trivial
  ·rename_i k e1;rw [e1] at h1;split
   ·trivial
   ·rename_i hs;have h2:=zkY hτ r _ F (c+1+k.sz) (by omega) h.2.2;split
    ·trivial
    ·rename_i e2;rw [e2] at h2;refine⟨⟨h.1 rfl,zpi h.2.1,h1.1,h2.1⟩,?_⟩;have:=h2.2;simp only [Fl.sz];omega
theorem znh{τ:Stg}(hτ:zcH τ):∀(x:Ex) (f:Bool) (F:zW),x.valid f→TOk (zeb τ x F)
 | .node _ ps,_,F,h=>zg4 hτ ps _ _ F h.2.2
end
def Exs.app:Exs→Exs→Exs
 | .nil,q=>q
 | .cons x r,q => .cons x (r.app q)
theorem zgI:∀(a b:Exs),(a.app b).flat=a.flat ++ b.flat
 | .nil,b=>rfl
 | .cons x r,b=>by simp [Exs.app,Exs.flat,zgI r b]
theorem zln:∀(a b:Exs),(a.app b).len=a.len+b.len
 | .nil,b=>by simp [Exs.app,Exs.len]
 | .cons x r,b=>by simp only [Exs.app,Exs.len,zln r b];omega
mutual
def Ex.cnt:Ex→Prop
 | .node n ps=>(ps.len:Int)=zL n∧ps.cnt
def Exs.cnt:Exs→Prop
 | .nil=>True
 | .cons x r=>x.cnt∧r.cnt
end
theorem zls:∀(a b:Exs),(a.app b).cnt↔a.cnt∧b.cnt
 | .nil,b=>by simp [Exs.app,Exs.cnt]
 | .cons x r,b=>by simp only [Exs.app,Exs.cnt,zls r b,and_assoc]
mutual
theorem Ex.valid.cnt:∀ {x:Ex} {f:Bool},x.valid f→x.cnt
 | .node _ _,_,h=>⟨h.2.1,h.2.2.cnts⟩
theorem Exs.valid.cnts:∀ {r:Exs} {c:Bool} {s:ByteArray},r.valid c s→r.cnt
 | .nil,_,_,_=>trivial
 | .cons _ _,_,_,h=>⟨h.2.1.cnt,h.2.2.cnts⟩
end
structure zfi(t:List Nd)(p:Nat)(L:Exs):Prop where
 cnt:L.cnt
 drop:∃r,t.drop p=L.flat ++ r
theorem zfi.start{t:List Nd}{p:Nat}{f:Bool}{x:Ex}{r:List Nd}(hx:x.valid f)(h:t.drop p=x.flat ++ r):zfi t p (.cons x .nil):=
 ⟨⟨hx.cnt,trivial⟩,r,by simp [Exs.flat,h]⟩
theorem zfi.step{t:List Nd}{p:Nat}{n:Nd}{ps q:Exs}(h:zfi t p (.cons (.node n ps) q)):t[p]?=some n∧zfi t (p+1) (ps.app q)∧((ps.app q).len:Int)=q.len+zL n∧p+1+(ps.app q).flat.length=p+(Exs.cons (.node n ps) q).flat.length:=by
 obtain⟨⟨⟨h1,h2⟩,h3⟩,r,e⟩:=h;simp only [Exs.flat,Ex.flat,List.cons_append,List.append_assoc] at e;refine⟨?_,⟨(zls _ _).2 ⟨h2,h3⟩,r,?_⟩,?_,?_⟩
 ·have:=congrArg (fun l=>l[0]?) e;simpa using this
 ·have:=congrArg (List.drop 1) e;rw [List.drop_drop] at this;rw [zgI,List.append_assoc];simpa using this
 ·rw [zln,←h1];omega
 ·rw [zgI];simp only [Exs.flat,Ex.flat,List.length_cons,List.length_append];omega
theorem zfi.left{t:List Nd}{p:Nat}{L:Exs}(h:zfi t p L)(hl:0<L.len):∃n ps q,L = .cons (.node n ps) q:=by
 cases L with
 | nil=>simp [Exs.len] at hl
 | cons x q=>obtain⟨n,ps⟩:=x;exact⟨n,ps,q,rfl⟩
theorem zbi:∀r:Exs,r.len≤r.flat.length
 | .nil=>Nat.le_refl _
 | .cons x r=>by have:=zV x;have:=zbi r;simp only [Exs.len,Exs.flat,List.length_append];omega
theorem zfi.le{t:List Nd}{p:Nat}{L:Exs}(h:zfi t p L)(hl:0<L.len):p+L.flat.length≤t.length:=by
 obtain⟨r,e⟩:=h.drop;have h1:=congrArg List.length e;rw [List.length_drop,List.length_append] at h1;have:=zbi L;omega
structure XAt(t:List Nd)(p:Nat)(f:Bool)(x:Ex):Prop where
 valid:x.valid f
 drop:∃r,t.drop p=x.flat ++ r
structure zlk(t:List Nd)(p:Nat)(c:Bool)(r:Exs):Prop where
 valid:∃s,r.valid c s
 drop:∃u,t.drop p=r.flat ++ u
theorem XAt.all{x:Ex}{f:Bool}(h:x.valid f):XAt x.flat 0 f x:=⟨h,[],by simp⟩
theorem XAt.head{t:List Nd}{p:Nat}{f:Bool}{x:Ex}(h:XAt t p f x):t[p]?=some x.head:=by
 obtain⟨r,e⟩:=h.drop;obtain⟨u,hu⟩:=zdC x;rw [hu] at e;have:=congrArg (fun l=>l[0]?) e;simpa using this
theorem XAt.le{t:List Nd}{p:Nat}{f:Bool}{x:Ex}(h:XAt t p f x):p+x.flat.length≤t.length:=by
 obtain⟨r,e⟩:=h.drop;have h1:=congrArg List.length e;rw [List.length_drop,List.length_append] at h1;have:=zV x;omega
theorem XAt.seg{t:List Nd}{p:Nat}{f:Bool}{x:Ex}(h:XAt t p f x):Go.Wk.seg t p (p+x.flat.length)=x.flat:=by
 obtain⟨r,e⟩:=h.drop;unfold Go.Wk.seg;rw [e,show p+x.flat.length-p=x.flat.length by omega,List.take_left]
theorem XAt.parts{t:List Nd}{p:Nat}{f:Bool}{x:Ex}(h:XAt t p f x):zlk t (p+1) (jU x.head) x.parts:=by
 obtain⟨n,ps⟩:=x;obtain⟨r,e⟩:=h.drop;refine⟨⟨_,h.valid.2.2⟩,r,?_⟩;simp only [Ex.flat,List.cons_append] at e;have:=congrArg (List.drop 1) e;rw [List.drop_drop] at this;simpa [Ex.parts] using this
theorem zlk.head{t:List Nd}{p:Nat}{c:Bool}{x:Ex}{r:Exs}(h:zlk t p c (.cons x r)):XAt t p c x∧zlk t (p+x.flat.length) c r:=by
 obtain⟨⟨s,v⟩,u,e⟩:=h;simp only [Exs.flat,List.append_assoc] at e;refine⟨⟨v.2.1,_,e⟩,⟨_,v.2.2⟩,u,?_⟩;have:=congrArg (List.drop x.flat.length) e;rw [List.drop_drop,List.drop_left] at this;exact this
theorem XAt.field{t:List Nd}{p:Nat}{x:Ex}(h:XAt t p true x):∃n y,x = .node n (.cons y .nil)∧n.op=7∧zf n.s=0∧XAt t (p+1) false y∧x.flat.length=y.flat.length+1:=by
 obtain⟨n,ps⟩:=x;have hv:=h.valid;obtain⟨v1,v2,v3⟩:=hv;unfold jT at v1;rw [Bool.and_eq_true] at v1;have h7:n.op=7:=by simpa using v1.2
 have e1:zL n=1:=by unfold zL;rw [if_neg (by omega),if_neg (by omega),if_pos (by omega)]
 have e2:jU n=false:=by unfold jU;rw [decide_eq_false];omega
 have hnf:zf n.s=0:=by
  have h0:=v1.1;unfold jo at h0;rw [if_pos (by omega)] at h0;unfold zp at h0;rw [if_neg (by omega),if_neg (by omega),if_neg (by omega),if_neg (by omega),if_neg (by omega),if_pos h7] at h0;simp only [Bool.and_eq_true,decide_eq_true_eq] at h0;exact h0.2
 rw [e1] at v2
 cases ps with
 | nil=>simp [Exs.len] at v2
 | cons y q =>
  cases q with
  | cons z q=>simp only [Exs.len] at v2;omega
  | nil =>
   have hp:=h.parts
   rw [show(Ex.node n (Exs.cons y Exs.nil)).head=n from rfl,e2] at hp
   exact⟨n,y,rfl,h7,hnf,hp.head.1,by simp [Ex.flat,Exs.flat]⟩
def Exs.list:Exs→List Ex
 | .nil => []
 | .cons x r=>x :: r.list
theorem zdd:∀r:Exs,r.list.length=r.len
 | .nil=>rfl
 | .cons x r=>by simp [Exs.list,Exs.len,zdd r]
def zfk(c:Bool):Nat→Exs→List Nat
 | p,.nil => [p]
 | p,.cons x r=>(if c=true then p+1 else p):: zfk c (p+x.flat.length) r
def zlq(c:Bool)(x:Ex):Ex:=match c,x with
 | true,.node _ (.cons y _)=>y
 | _,x=>x
theorem zlk.at{t:List Nd}{c:Bool}:∀ {r:Exs} {p:Nat},zlk t p c r→∀(i:Nat) (x:Ex),r.list[i]?=some x→∃q:Nat,(zfk c p r)[i]?=some q∧XAt t q false (zlq c x)∧(c=true→0<q∧t[q-1]?=some x.head)∧((zfk c p r)[i+1]?=some (q+(zlq c x).flat.length+(if c=true∧i+1<r.len then 1 else 0)))
 | .nil,_,_,i,x,h=>by simp [Exs.list] at h
 | .cons y r,p,hA,i,x,h=>by
  obtain⟨h1,h2⟩:=hA.head
  cases i with
  | zero =>
   simp only [Exs.list,List.getElem?_cons_zero,Option.some.injEq] at h
   subst h
   have hr:(zfk c (p+y.flat.length) r)[0]?=some (p+y.flat.length+if c=true∧0<r.len then 1 else 0):=by
    cases r with
    | nil=>simp [zfk,Exs.len]
    | cons z r=>simp only [zfk,List.getElem?_cons_zero,Exs.len];cases c <;> simp
   cases c with
   | false =>
    refine⟨p,by simp [zfk],h1,(fun e=>nomatch e),?_⟩
    simp only [zfk,List.getElem?_cons_succ]
    rw [hr]
    simp [zlq]
   | true =>
    have hh:=h1.head
    obtain⟨n,z,rfl,h7,-,hz,hl⟩:=h1.field
    refine⟨p+1,by simp [zfk],hz,fun _=>⟨by omega,by simpa using hh⟩,?_⟩
    simp only [zfk,List.getElem?_cons_succ]
    rw [hr,hl]
    simp only [zlq,Exs.len,true_and]
    congr 1
    by_cases hr0:0<r.len
    ·rw [if_pos hr0,if_pos (by omega)];omega
    ·rw [if_neg hr0,if_neg (by omega)];omega
  | succ i =>
   simp only [Exs.list,List.getElem?_cons_succ] at h
   obtain⟨q,e1,e2,e3,e4⟩:=h2.at i x h
   refine⟨q,by simpa [zfk] using e1,e2,e3,?_⟩
   simp only [zfk,List.getElem?_cons_succ]
   rw [e4]
   simp [Exs.len]
end Go.Wk
