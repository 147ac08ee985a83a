/-
  Plain: the parts of sets and records; where a value ends hangs on its own nodes ..
-/
import Derived.Test.YthidiimbeaabhaaGreatDoorQ1
set_option maxRecDepth 100000
namespace Go.Wk
def vt(f:Nat->Option Nat):Prop:=∀p e,f p=some e->p<e
theorem j3(v:List Nd)(m:Nat):vt (zm v m):=λp e h=>(jH m p e h).1
theorem nR{v:List Nd}{f:Nat->Option Nat}(hf:vt f):∀k last p e,zR v f k last p=some e->p<=e:=by
 intro k
 induction k with
 | zero=>intro last p e h;simp only [zR,Option.some.injEq] at h;omega
 | succ k ih =>
  intro last p e h
  simp only [zR] at h
  split at h
  ·cases h
  ·rename_i q hq
   have:=hf p q hq;split at h
   ·have:=ih _ _ _ h;omega
   ·cases h
theorem nT{v:List Nd}{f:Nat->Option Nat}(hf:vt f):∀k last p e,zS v f k last p=some e->p<=e:=by
 intro k
 induction k with
 | zero=>intro last p e h;simp only [zS,Option.some.injEq] at h;omega
 | succ k ih =>
  intro last p e h
  simp only [zS] at h
  split at h
  ·cases h
  ·split at h
   ·cases h
   ·rename_i q hq;have:=hf _ q hq;have:=ih _ _ _ h;omega
def ft(u v:List Nd)(a b L:Nat):Prop:=∀k,k<L->u[a+k]?=v[b+k]?
theorem ft.symm{u v:List Nd}{a b L:Nat}(h:ft u v a b L):ft v u b a L:=λk hk=>(h k hk).symm
theorem ft.seg{u v:List Nd}{a b L:Nat}(h:ft u v a b L){i j:Nat}(hj:j<=L):seg u (a+i) (a+j)=seg v (b+i) (b+j):=by
 unfold Wk.seg;apply List.ext_getElem?;intro k;rw [List.getElem?_take,List.getElem?_take,show a+j-(a+i)=j-i by omega,show b+j-(b+i)=j-i by omega];by_cases hk:k<j-i
 ·rw [if_pos hk,if_pos hk,List.getElem?_drop,List.getElem?_drop,Nat.add_assoc,Nat.add_assoc];exact h (i+k) (by omega)
 ·rw [if_neg hk,if_neg hk]
section
variable {u v:List Nd} {a b L:Nat}
theorem iV(h:ft u v a b L){f g:Nat->Option Nat}(hf:vt f)(hg:∀p e,f (a+p)=some (a+e)->e<=L->g (b+p)=some (b+e)):
 ∀k (lo:Option Nat) p e,(∀l,lo=some l->l<=p)->zR u f k (lo.map (a+·)) (a+p)=some (a+e)->e<=L->zR v g k (lo.map (b+·)) (b+p)=some (b+e):=by
 intro k
 induction k with
 | zero=>intro lo p e _ h1 h2;simp only [zR,Option.some.injEq] at h1 ⊢;omega
 | succ k ih =>
  intro lo p e uN h1 h2
  simp only [zR] at h1 ⊢
  split at h1
  ·cases h1
  ·rename_i q hq
   have hlt:=hf _ _ hq;obtain⟨s,rfl⟩:∃s,q=a+s:=⟨q-a,by omega⟩
   split at h1
   ·rename_i hr;have J4:=nR hf _ _ _ _ h1;have hs:s<=L:=by omega
    rw [hg p s hq hs];simp only;have GT:lH v (lo.map (b+·)) (b+p) (b+s)=true:=by
     rw [<-hr];rcases lo with _|l
     ·rfl
     ·have:=uN l rfl;simp only [Option.map_some,lH];rw [h.seg (i:=l) (j:=p) (by omega),h.seg (i:=p) (j:=s) hs]
    rw [if_pos GT];exact ih (some p) s e (λl hl=>by cases hl;omega) h1 h2
   ·cases h1
theorem ry(h:ft u v a b L){last:ByteArray}{p:Nat}(hp:p<L):jT u last (a+p)=jT v last (b+p):=by
 unfold jT;rw [h p hp]
theorem kq(h:ft u v a b L){f g:Nat->Option Nat}(hf:vt f)(hg:∀p e,f (a+p)=some (a+e)->e<=L->g (b+p)=some (b+e)):
 ∀k (last:ByteArray) p e,zS u f k last (a+p)=some (a+e)->e<=L->zS v g k last (b+p)=some (b+e):=by
 intro k
 induction k with
 | zero=>intro last p e h1 h2;simp only [zS,Option.some.injEq] at h1 ⊢;omega
 | succ k ih =>
  intro last p e h1 h2
  simp only [zS] at h1 ⊢
  split at h1
  ·cases h1
  ·rename_i s hs
   split at h1
   ·cases h1
   ·rename_i q hq;have hlt:=hf _ _ hq;obtain⟨r,rfl⟩:∃r,q=a+r:=⟨q-a,by omega⟩
    have J4:=nT hf _ _ _ _ h1;rw [<-ry h (by omega:p<L),hs];have:=hg (p+1) r (by rw [<-Nat.add_assoc];exact hq) (by omega);rw [<-Nat.add_assoc] at this;simp only [this];exact ih s r e h1 h2
theorem iK(h:ft u v a b L):∀m p e,zm u m (a+p)=some (a+e)->e<=L->zm v m (b+p)=some (b+e):=by
 intro m
 induction m with
 | zero=>intro p e h1 _;cases h1
 | succ m ih =>
  intro p e h1 h2
  have hlt:=(jH _ _ _ h1).1
  have hp:=h p (by omega)
  simp only [zm] at h1 ⊢
  rw [<-hp]
  split at h1
  ·cases h1
  ·rename_i x hx
   split at h1
   ·rename_i hs;simp only [hs,if_true];split at h1
    ·rename_i h5;rw [if_pos h5];have:=iV h (j3 u m) ih x.n.toNat none (p+1) e (λl hl=>by cases hl) (by rw [<-Nat.add_assoc];exact h1) h2;rw [<-Nat.add_assoc] at this;exact this
    ·rename_i h5;rw [if_neg h5];split at h1
     ·rename_i h6;rw [if_pos h6];have:=kq h (j3 u m) ih x.n.toNat .empty (p+1) e (by rw [<-Nat.add_assoc];exact h1) h2;rw [<-Nat.add_assoc] at this;exact this
     ·rename_i h6;rw [if_neg h6];split at h1
      ·cases h1
      ·rename_i h7;rw [if_neg h7];simp only [Option.some.injEq] at h1 ⊢;omega
   ·cases h1
end
theorem fe{v:List Nd}{f g:Nat->Option Nat}(hf:vt f){q0:Nat}(h:∀r,q0<=r->f r=g r):∀k lo q,q0<=q->zR v f k lo q=zR v g k lo q:=by
 intro k
 induction k with
 | zero=>intro lo q _;rfl
 | succ k ih =>
  intro lo q hq
  simp only [zR]
  rw [<-h q hq]
  split
  ·rfl
  ·rename_i e he
   have:=hf _ _ he;rw [ih _ e (by omega)]
theorem fa{v:List Nd}{f g:Nat->Option Nat}(hf:vt f){q0:Nat}(h:∀r,q0<=r->f r=g r):∀k lo q,q0<=q->zS v f k lo q=zS v g k lo q:=by
 intro k
 induction k with
 | zero=>intro lo q _;rfl
 | succ k ih =>
  intro lo q hq
  simp only [zS]
  split
  ·rfl
  ·rw [<-h (q+1) (by omega)]
   split
   ·rfl
   ·rename_i e he;have:=hf _ _ he;rw [ih _ e (by omega)]
theorem bn{v:List Nd}:∀m m' p,v.length-p<m->v.length-p<m'->zm v m p=zm v m' p:=by
 intro m
 induction m with
 | zero=>intro m' p h;omega
 | succ m ih =>
  intro m' p h1 h2
  obtain⟨k,rfl⟩:∃k,m'=k+1:=⟨m'-1,by omega⟩
  simp only [zm]
  by_cases hp:p<v.length
  ·rw [List.getElem?_eq_getElem hp]
   simp only;have hs:=fe (v:=v) (j3 v m) (q0:=p+1) (λr hr=>ih k r (by omega) (by omega));have hr:=fa (v:=v) (j3 v m) (q0:=p+1) (λr hr=>ih k r (by omega) (by omega));rw [hs _ _ _ (Nat.le_refl _),hr _ _ _ (Nat.le_refl _)]
  ·rw [List.getElem?_eq_none (by omega)]
def IsV(P:List Nd):Prop:=zm P (P.length+1) 0=some P.length
theorem zL{P:List Nd}:zc P=0↔P.length<=200/\IsV P:=by
 unfold zc IsV;by_cases h:200<P.length
 ·rw [if_pos h];omega
 ·rw [if_neg h];by_cases hv:zm P (P.length+1) 0=some P.length
  ·rw [if_pos hv];exact⟨λ_=>⟨by omega,hv⟩,λ_=>rfl⟩
  ·rw [if_neg hv];exact⟨λq=>by omega,λq=>absurd q.2 hv⟩
theorem IsV.pos{P:List Nd}(h:IsV P):0<P.length:=(jH _ _ _ h).1
theorem Bi{v:List Nd}{p e k:Nat}(hk:k<e-p):(seg v p e)[k]?=v[p+k]?:=by
 unfold seg;rw [List.getElem?_take,if_pos hk,List.getElem?_drop]
theorem nH(v:List Nd):ft v v 0 0 v.length:=λ_ _=>rfl
theorem iG{v:List Nd}:∀m m' p e,m<=m'->zm v m p=some e->zm v m' p=some e:=by
 intro m
 induction m with
 | zero=>intro m' p e _ h;cases h
 | succ m ih =>
  intro m' p e hm h
  have hle:=(jH _ _ _ h).2
  obtain⟨k,rfl⟩:∃k,m'=k+1:=⟨m'-1,by omega⟩
  have ihk:∀p e,zm v m (0+p)=some (0+e)->e<=v.length->zm v k (0+p)=some (0+e):=λp e h _=>by
   simp only [Nat.zero_add] at h ⊢;exact ih k p e (by omega) h
  have hS:=iV (nH v) (j3 v m) ihk
  have hR:=kq (nH v) (j3 v m) ihk
  simp only [Nat.zero_add] at hS hR
  rcases hx:v[p]? with _|x
  ·simp only [zm,hx] at h;cases h
  ·simp only [zm,hx] at h ⊢
   by_cases hs:zD x=true
   ·rw [if_pos hs] at h ⊢;by_cases h5:x.op=5
    ·rw [if_pos h5] at h ⊢;have:=hS x.n.toNat none (p+1) e (λl hl=>by cases hl) h hle;exact this
    ·rw [if_neg h5] at h ⊢;by_cases h6:x.op=6
     ·rw [if_pos h6] at h ⊢;exact hR _ _ _ _ h hle
     ·rw [if_neg h6] at h ⊢;exact h
   ·rw [if_neg hs] at h;cases h
theorem xc{v:List Nd}{m p e:Nat}(h:zm v m p=some e):IsV (seg v p e):=by
 have hle:=jH _ _ _ h;have hl:(seg v p e).length=e-p:=jv hle.2;have hA:ft v (seg v p e) p 0 (e-p):=λk hk=>by rw [Nat.zero_add,Bi hk]
 have:=iK hA m 0 (e-p) (by rw [Nat.add_zero,h];congr 1;omega) (Nat.le_refl _);unfold IsV;rw [hl];have h2:zm (seg v p e) m 0=some (e-p):=by simpa using this
 have h3:=iG m (m+(e-p)+1) 0 (e-p) (by omega) h2;rw [<-h3];exact bn _ _ _ (by omega) (by omega)
theorem Di{v Q:List Nd}{p m:Nat}(hQ:IsV Q)(_hp:p+Q.length<=v.length)(hs:seg v p (p+Q.length)=Q)(hm:v.length-p<m):zm v m p=some (p+Q.length):=by
 have hA:ft Q v 0 p Q.length:=λk hk=>by
  rw [Nat.zero_add,<-Bi (e:=p+Q.length) (by omega),hs]
 have h1:=iG _ (m+Q.length+1) _ _ (by omega) hQ;have:=iK hA _ 0 Q.length (by simpa using h1) (Nat.le_refl _);rw [Nat.add_zero] at this;rw [<-this];exact bn _ _ _ (by omega) (by omega)
theorem dV{s:ByteArray}(h:noB s=true):s=⟨#[]⟩:=by
 unfold noB at h;exact j4 (List.eq_nil_of_length_eq_zero (by rw [Array.length_toList];exact of_decide_eq_true h))
def aL(v:List Nd)(f:Nat->Option Nat):Nat->Nat->List (List Nd)
 | 0,_ => []
 | k+1,p =>
  match f p with
  | none => []
  | some e=>seg v p e :: aL v f k e
def y8(v:List Nd)(p:Nat):ByteArray :=
 match v[p]? with
 | none => .empty
 | some x=>x.s
def aG(v:List Nd)(f:Nat->Option Nat):Nat->Nat->List (ByteArray × List Nd)
 | 0,_ => []
 | k+1,p =>
  match f (p+1) with
  | none => []
  | some e=>(y8 v p,seg v (p+1) e):: aG v f k e
def iS:List Nd->Nat
 | []=>0
 | x :: _=>x.n.toNat
def zg:List Nd->Int
 | []=>0
 | x :: _=>x.op
def zy(P:List Nd):List (List Nd):=aL P (zm P (P.length+1)) (iS P) 1
def zX(P:List Nd):List (ByteArray × List Nd):=aG P (zm P (P.length+1)) (iS P) 1
def Up:List (List Nd)->Prop
 | []=>True
 | [_]=>True
 | a :: b :: r=>zx a b<0/\Up (b :: r)
def fF(o:Option (List Nd))(l:List (List Nd)):Prop:=match o with|none=>Up l|some a=>Up (a :: l)
def cF(s:ByteArray):Nd:=⟨7,0,s,⟨#[]⟩⟩
def zY:List (ByteArray × List Nd)->List Nd
 | [] => []
 | x :: r=>cF x.1 ::(x.2 ++ zY r)
def UpB(last:ByteArray):List (ByteArray × List Nd)->Prop
 | []=>True
 | x :: r=>ai last x.1<0/\UpB x.1 r
theorem eh{v:List Nd}{p q e:Nat}(h1:p<=q)(h2:q<=e):seg v p q ++ seg v q e=seg v p e:=by
 unfold seg;rw [show e-p=(q-p)+(e-q) by omega,List.take_add,List.drop_drop,show p+(q-p)=q by omega]
theorem sJ(v:List Nd)(p:Nat):seg v p p = []:=by unfold seg;simp
theorem sQ{v:List Nd}{p e:Nat}(h:p<v.length)(h2:p<e):seg v p e=v[p] :: seg v (p+1) e:=by
 unfold seg;rw [List.drop_eq_getElem_cons h,show e-p=(e-(p+1))+1 by omega,List.take_succ_cons]
theorem mi(v:List Nd)(p:Nat):seg v p v.length=v.drop p:=by
 unfold seg;rw [List.take_of_length_le (by simp)]
theorem pp{v:List Nd}{m:Nat}:∀k lo p e,(∀l,lo=some l->l<=p)->p<=v.length->zR v (zm v m) k lo p=some e->
 (aL v (zm v m) k p).length=k/\(aL v (zm v m) k p).flatten=seg v p e/\(∀Q∈aL v (zm v m) k p,IsV Q)/\fF (lo.map λl=>seg v l p) (aL v (zm v m) k p):=by
 intro k
 induction k with
 | zero =>
  intro lo p e _ _ h
  simp only [zR,Option.some.injEq] at h
  subst h
  refine⟨rfl,by rw [sJ];rfl,(λQ h=>by cases h),?_⟩
  rcases lo with _|l <;> trivial
 | succ k ih =>
  intro lo p e uN hp h
  simp only [zR] at h
  simp only [aL]
  split at h
  ·cases h
  ·rename_i q hq
   have hle:=jH _ _ _ hq;split at h
   ·rename_i hr;obtain⟨h1,h2,h3,h4⟩:=ih (some p) q e (λl hl=>by cases hl;omega) hle.2 h;have J4:=nR (j3 v m) _ _ _ _ h;(try rw [hq]);refine⟨by simp [h1],?_,?_,?_⟩
    ·rw [List.flatten_cons,h2,eh (by omega) J4]
    ·intro Q hQ;rcases List.mem_cons.1 hQ with rfl|hQ
     ·exact xc hq
     ·exact h3 Q hQ
    ·simp only [Option.map_some,fF] at h4;rcases lo with _|l
     ·exact h4
     ·simp only [lH,decide_eq_true_eq] at hr;exact⟨hr,h4⟩
   ·cases h
theorem vg{v:List Nd}{m:Nat}:∀(L:List (List Nd)) lo p e,(∀l,lo=some l->l<=p)->e<=v.length->p<=e->seg v p e=L.flatten->(∀Q∈L,IsV Q)->fF (lo.map λl=>seg v l p) L->v.length-p<m->
 zR v (zm v m) L.length lo p=some e/\aL v (zm v m) L.length p=L:=by
 intro L
 induction L with
 | nil =>
  intro lo p e _ h1 h2 h3 _ _ _
  have hl:=congrArg List.length h3
  rw [jv h1] at hl
  simp at hl
  simp only [List.length_nil,zR,aL,and_true]
  congr 1;omega
 | cons Q L ih =>
  intro lo p e uN h1 h2 h3 h4 h5 h6
  have hQ:=h4 Q (by simp)
  rw [List.flatten_cons] at h3
  have hl:=congrArg List.length h3
  rw [jv h1,List.length_append] at hl
  have hq:seg v p (p+Q.length)=Q:=by
   have:=eh (v:=v) (p:=p) (q:=p+Q.length) (e:=e) (by omega) (by omega);rw [h3] at this;exact(List.append_inj this (by rw [jv (by omega)];omega)).1
  have GU:seg v (p+Q.length) e=L.flatten:=by
   have:=eh (v:=v) (p:=p) (q:=p+Q.length) (e:=e) (by omega) (by omega);rw [h3] at this;exact(List.append_inj this (by rw [jv (by omega)];omega)).2
  have cd:=hQ.pos
  have hend:=Di hQ (by omega) hq h6
  have hup:fF ((some p).map λl=>seg v l (p+Q.length)) L:=by
   simp only [Option.map_some,fF,hq];rcases lo with _|l
   ·simp only [Option.map_none,fF] at h5;exact h5
   ·simp only [Option.map_some,fF] at h5;exact h5.2
  have hr:lH v lo p (p+Q.length)=true:=by
   rcases lo with _|l
   ·rfl
   ·simp only [Option.map_some,fF] at h5;simp only [lH,hq,decide_eq_true_eq];exact h5.1
  obtain⟨g1,g2⟩:=ih (some p) (p+Q.length) e (λl hl=>by cases hl;omega) h1 (by omega) GU (λQ' h=>h4 Q' (by simp [h])) hup (by omega)
  simp only [List.length_cons,zR,aL,hend,hr,if_true]
  exact⟨g1,by rw [g2,hq]⟩
theorem ow{v:List Nd}{m:Nat}:∀k last p e,p<=v.length->zS v (zm v m) k last p=some e->
 (aG v (zm v m) k p).length=k/\zY (aG v (zm v m) k p)=seg v p e/\(∀x∈aG v (zm v m) k p,IsV x.2/\zk x.1=0)/\UpB last (aG v (zm v m) k p):=by
 intro k
 induction k with
 | zero =>
  intro last p e _ h
  simp only [zS,Option.some.injEq] at h
  subst h
  exact⟨rfl,by rw [sJ];rfl,(λQ h=>by cases h),trivial⟩
 | succ k ih =>
  intro last p e hp h
  simp only [zS] at h
  simp only [aG]
  split at h
  ·cases h
  ·rename_i s hs
   split at h
   ·cases h
   ·rename_i q hq;have hle:=jH _ _ _ hq;obtain⟨h1,h2,h3,h4⟩:=ih s q e hle.2 h;have J4:=nT (j3 v m) _ _ _ _ h;unfold jT at hs;split at hs
    ·cases hs
    ·rename_i x hx;split at hs
     ·rename_i hc;simp only [Option.some.injEq] at hs;subst hs;simp only [Bool.and_eq_true,decide_eq_true_eq] at hc;obtain⟨⟨c1,c2⟩,c3⟩:=hc;have K6:=c2;unfold zD at K6;rw [c1] at K6;simp at K6;obtain⟨⟨n1,n2⟩,n3⟩:=K6;have Ed:y8 v p=x.s:=by unfold y8;rw [hx]
      have fj:p<v.length:=(List.getElem?_eq_some_iff.1 hx).1;have Lq:v[p]=x:=by rw [List.getElem?_eq_getElem fj] at hx;injection hx
      have hxf:x=cF x.s:=Nd.ext4 c1 n1 rfl (dV n2);(try rw [hq]);(try simp only);refine⟨by simp [h1],?_,?_,?_⟩
      ·rw [zY,h2,Ed,eh (by omega) J4,sQ fj (by omega),Lq,<-hxf]
      ·intro y hy;rcases List.mem_cons.1 hy with rfl|hy
       ·exact⟨xc hq,by rw [Ed];exact n3⟩
       ·exact h3 y hy
      ·simp only [UpB,Ed];exact⟨c3,h4⟩
     ·cases hs
theorem oV{s:ByteArray}(h:zk s=0):zD (cF s)=true:=by
 unfold zD cF;simp [h,noB];rfl
theorem wm{v:List Nd}{m:Nat}:∀(L:List (ByteArray × List Nd)) last p e,e<=v.length->p<=e->seg v p e=zY L->(∀x∈L,IsV x.2/\zk x.1=0)->UpB last L->v.length-p<m->
 zS v (zm v m) L.length last p=some e/\aG v (zm v m) L.length p=L:=by
 intro L
 induction L with
 | nil =>
  intro last p e h1 h2 h3 _ _ _
  have hl:=congrArg List.length h3
  rw [jv h1] at hl
  simp [zY] at hl
  simp only [List.length_nil,zS,aG,and_true]
  congr 1;omega
 | cons x L ih =>
  intro last p e h1 h2 h3 h4 h5 h6
  obtain⟨hQ,hN⟩:=h4 x (by simp)
  rw [zY] at h3
  have hl:=congrArg List.length h3
  rw [jv h1,List.length_cons,List.length_append] at hl
  have fj:p<v.length:=by omega
  rw [sQ fj (by omega)] at h3
  injection h3 with e1 e2
  have hq:seg v (p+1) (p+1+x.2.length)=x.2:=by
   have:=eh (v:=v) (p:=p+1) (q:=p+1+x.2.length) (e:=e) (by omega) (by omega);rw [e2] at this;exact(List.append_inj this (by rw [jv (by omega)];omega)).1
  have GU:seg v (p+1+x.2.length) e=zY L:=by
   have:=eh (v:=v) (p:=p+1) (q:=p+1+x.2.length) (e:=e) (by omega) (by omega);rw [e2] at this;exact(List.append_inj this (by rw [jv (by omega)];omega)).2
  have hend:=Di hQ (by omega) hq (m:=m) (by omega)
  have Ed:y8 v p=x.1:=by unfold y8;rw [List.getElem?_eq_getElem fj,e1];rfl
  have hf:jT v last p=some x.1:=by
   unfold jT;rw [List.getElem?_eq_getElem fj,e1];simp only [oV hN];have:decide (ai last (cF x.1).s<0)=true:=decide_eq_true h5.1;rw [this];rfl
  obtain⟨g1,g2⟩:=ih x.1 (p+1+x.2.length) e h1 (by omega) GU (λy h=>h4 y (by simp [h])) h5.2 (by omega)
  simp only [List.length_cons,zS,aG,hend,hf]
  exact⟨g1,by rw [g2,hq,Ed]⟩
def aI(n:Int):Nd:=⟨5,n,⟨#[]⟩,⟨#[]⟩⟩
def zP(n:Int):Nd:=⟨6,n,⟨#[]⟩,⟨#[]⟩⟩
theorem nr(x:Nd)(r:List Nd):iS (x :: r)=x.n.toNat:=rfl
theorem rK{P:List Nd}(h:IsV P)(h5:zg P=5):
 P=aI (zy P).length ::(zy P).flatten/\(zy P).length=iS P/\(∀Q∈zy P,IsV Q)/\Up (zy P):=by
 have cd:=h.pos;unfold IsV at h;rcases P with _|⟨x,r⟩
 ·simp at cd
 have h5':x.op=5:=h5;simp only [zm,List.getElem?_cons_zero] at h;by_cases hs:zD x=true
 ·rw [if_pos hs,if_pos h5'] at h;unfold zD at hs;rw [h5'] at hs;simp at hs;have hx:x=aI x.n:=Nd.ext4 h5' rfl (dV hs.1.2) (dV hs.2);have h':zR (x :: r) (zm (x :: r) ((x :: r).length+1)) x.n.toNat none 1=some (x :: r).length:=by
   rw [<-h];exact(fe (j3 _ _) (q0:=1) (λq hq=>bn _ _ _ (by simp only [List.length_cons];omega) (by simp only [List.length_cons];omega)) _ _ _ (Nat.le_refl _))
  obtain⟨g1,g2,g3,g4⟩:=pp _ none 1 _ (λl hl=>by cases hl) (by simp) h';have e:zy (x :: r)=aL (x :: r) (zm (x :: r) ((x :: r).length+1)) x.n.toNat 1:=rfl;rw [<-e] at g1 g2 g3 g4;refine⟨?_,g1,g3,g4⟩;rw [g2,mi,g1,Int.toNat_of_nonneg hs.1.1,<-hx];rfl
 ·rw [if_neg hs] at h;cases h
theorem Gg{L:List (List Nd)}(h:∀Q∈L,IsV Q)(hu:Up L):IsV (aI L.length :: L.flatten)/\zy (aI L.length :: L.flatten)=L:=by
 have hs:zD (aI L.length)=true:=by unfold zD aI;simp [noB];rfl
 have key:=λm hm=>vg (v:=aI L.length :: L.flatten) (m:=m) L none 1 (L.flatten.length+1) (λl hl=>by cases hl) (by simp) (by omega) (by
  have:=mi (aI L.length :: L.flatten) 1
  simpa using this) h hu hm
 refine⟨?_,?_⟩
 ·unfold IsV;simp only [zm,List.getElem?_cons_zero,hs,if_true];have h5:(aI L.length).op=5:=rfl;rw [if_pos h5];exact(key _ (by simp only [List.length_cons];omega)).1
 ·unfold zy;rw [nr];exact(key _ (by simp only [List.length_cons];omega)).2
theorem xr{P:List Nd}(h:IsV P)(h6:zg P=6):
 P=zP (zX P).length :: zY (zX P)/\(zX P).length=iS P/\(∀x∈zX P,IsV x.2/\zk x.1=0)/\UpB .empty (zX P):=by
 have cd:=h.pos;unfold IsV at h;rcases P with _|⟨x,r⟩
 ·simp at cd
 have h6':x.op=6:=h6;simp only [zm,List.getElem?_cons_zero] at h;by_cases hs:zD x=true
 ·rw [if_pos hs,if_neg (by omega),if_pos h6'] at h;unfold zD at hs;rw [h6'] at hs;simp at hs;have hx:x=zP x.n:=Nd.ext4 h6' rfl (dV hs.1.2) (dV hs.2);have h':zS (x :: r) (zm (x :: r) ((x :: r).length+1)) x.n.toNat .empty 1=some (x :: r).length:=by
   rw [<-h];exact(fa (j3 _ _) (q0:=1) (λq hq=>bn _ _ _ (by simp only [List.length_cons];omega) (by simp only [List.length_cons];omega)) _ _ _ (Nat.le_refl _))
  obtain⟨g1,g2,g3,g4⟩:=ow _ .empty 1 _ (by simp) h';have e:zX (x :: r)=aG (x :: r) (zm (x :: r) ((x :: r).length+1)) x.n.toNat 1:=rfl;rw [<-e] at g1 g2 g3 g4;refine⟨?_,g1,g3,g4⟩;rw [g2,mi,g1,Int.toNat_of_nonneg hs.1.1,<-hx];rfl
 ·rw [if_neg hs] at h;cases h
theorem Gn{L:List (ByteArray × List Nd)}(h:∀x∈L,IsV x.2/\zk x.1=0)(hu:UpB .empty L):IsV (zP L.length :: zY L)/\zX (zP L.length :: zY L)=L:=by
 have hs:zD (zP L.length)=true:=by unfold zD zP;simp [noB];rfl
 have key:=λm hm=>wm (v:=zP L.length :: zY L) (m:=m) L .empty 1 ((zY L).length+1) (by simp) (by omega) (by
  have:=mi (zP L.length :: zY L) 1
  simpa using this) h hu hm
 refine⟨?_,?_⟩
 ·unfold IsV;simp only [zm,List.getElem?_cons_zero,hs,if_true];have h6:(zP L.length).op=6:=rfl;rw [if_neg (by rw [h6];omega),if_pos h6];exact(key _ (by simp only [List.length_cons];omega)).1
 ·unfold zX;rw [nr];exact(key _ (by simp only [List.length_cons];omega)).2
theorem Do{P:List Nd}(h:IsV P)(h5:zg P=5):zR P (zm P (P.length+1)) (iS P) none 1=some P.length/\∃hp:0<P.length,P[0].op=5/\0<=P[0].n/\iS P=P[0].n.toNat:=by
 have cd:=h.pos;unfold IsV at h;rcases P with _|⟨x,r⟩
 ·simp at cd
 have h5':x.op=5:=h5;simp only [zm,List.getElem?_cons_zero] at h;by_cases hs:zD x=true
 ·rw [if_pos hs,if_pos h5'] at h;unfold zD at hs;rw [h5'] at hs;simp at hs;refine⟨?_,cd,h5',hs.1.1,rfl⟩;rw [<-h];exact(fe (j3 _ _) (q0:=1) (λq hq=>bn _ _ _ (by simp only [List.length_cons];omega) (by simp only [List.length_cons];omega)) _ _ _ (Nat.le_refl _))
 ·rw [if_neg hs] at h;cases h
theorem Bb{P:List Nd}(h:IsV P)(h6:zg P=6):zS P (zm P (P.length+1)) (iS P) .empty 1=some P.length/\∃hp:0<P.length,P[0].op=6/\0<=P[0].n/\iS P=P[0].n.toNat:=by
 have cd:=h.pos;unfold IsV at h;rcases P with _|⟨x,r⟩
 ·simp at cd
 have h6':x.op=6:=h6;simp only [zm,List.getElem?_cons_zero] at h;by_cases hs:zD x=true
 ·rw [if_pos hs,if_neg (by omega),if_pos h6'] at h;unfold zD at hs;rw [h6'] at hs;simp at hs;refine⟨?_,cd,h6',hs.1.1,rfl⟩;rw [<-h];exact(fa (j3 _ _) (q0:=1) (λq hq=>bn _ _ _ (by simp only [List.length_cons];omega) (by simp only [List.length_cons];omega)) _ _ _ (Nat.le_refl _))
 ·rw [if_neg hs] at h;cases h
def dW:List (List Nd)->Int
 | []=>0
 | P :: r=>or2 (zc P) (dW r)
mutual
inductive Kd
 | base (op:Int)
 | ent (s:ByteArray)
 | set (p:Kd)
 | fs (f:Fl)
inductive Fl
 | nil
 | cons (s:ByteArray) (m:Bool) (k:Kd) (r:Fl)
end
mutual
def Kd.sz:Kd->Nat
 | .base _=>1
 | .ent _=>1
 | .set p=>p.sz+1
 | .fs f=>f.sz+1
def Fl.sz:Fl->Nat
 | .nil=>0
 | .cons _ _ k r=>k.sz+r.sz+1
end
def Fl.find:Fl->ByteArray->Option (Bool × Kd)
 | .nil,_=>none
 | .cons s m k r,x=>if s=x then some (m,k) else r.find x
def lq:Kd->Bool
 | .base x=>x==48
 | _=>false
def isNone:Kd->Bool
 | .base x=>x==49
 | _=>false
def GZ:Fl->Fl->Bool
 | .nil,_=>true
 | .cons s m _ r,f=>(!m ||(f.find s).isSome)&& GZ r f
mutual
def wa:Kd->Kd->Bool
 | .base x,b=>x==49 || lq b ||(match b with | .base y=>x==y|_=>false)
 | .ent s,b=>lq b ||(match b with | .ent t=>decide (s=t)|_=>false)
 | .set p,b=>lq b ||(match b with | .set q=>wa p q|_=>false)
 | .fs f,b=>lq b ||(match b with | .fs g=>Dg f g && GZ g f|_=>false)
def Dg:Fl->Fl->Bool
 | .nil,_=>true
 | .cons s m k r,g=>(match g.find s with|none=>false|some (m',k')=>(!m' || m)&& wa k k')&& Dg r g
end
def Fl.ascFrom:ByteArray->Fl->Prop
 | _,.nil=>True
 | x,.cons s _ _ r=>ai x s<0/\r.ascFrom s
def Fl.asc:Fl->Prop
 | .nil=>True
 | .cons s _ _ r=>r.ascFrom s
mutual
def Kd.ok:Kd->Prop
 | .base _=>True
 | .ent _=>True
 | .set p=>p.ok
 | .fs f=>f.asc/\f.ok
def Fl.ok:Fl->Prop
 | .nil=>True
 | .cons _ _ k r=>k.ok/\r.ok
end
theorem Dz{x:ByteArray}{f:Fl}(h:f.ascFrom x):f.asc:=by
 cases f with
 | nil=>trivial
 | cons s m k r=>exact h.2
def emp:ByteArray:=⟨#[]⟩
mutual
def Kd.flat:Kd->List Nd
 | .base x => [⟨x,0,emp,emp⟩]
 | .ent s => [⟨44,0,s,emp⟩]
 | .set p=>⟨45,0,emp,emp⟩:: p.flat
 | .fs f=>⟨46,f.len,emp,emp⟩:: f.flat
def Fl.len:Fl->Nat
 | .nil=>0
 | .cons _ _ _ r=>r.len+1
def Fl.flat:Fl->List Nd
 | .nil => []
 | .cons s m k r=>⟨47,if m=true then 1 else 0,s,emp⟩::(k.flat ++ r.flat)
end
def qO(x:Int):Prop:=x=41\/x=42\/x=43\/x=48\/x=49
instance (x:Int):Decidable (qO x):=by unfold qO;infer_instance
mutual
def Kd.valid:Kd->Prop
 | .base x=>qO x
 | .ent s=>zk s=0
 | .set p=>p.valid
 | .fs f=>f.validFrom emp
def Fl.validFrom:Fl->ByteArray->Prop
 | .nil,_=>True
 | .cons s _ k r,x=>ai x s<0/\zk s=0/\k.valid/\r.validFrom s
end
def Il(x:ByteArray)(y:Nd):Prop:=y.op=47/\(y.n=0\/y.n=1)/\y.t=emp/\zk y.s=0/\ai x y.s<0
instance (x:ByteArray) (y:Nd):Decidable (Il x y):=by unfold Il;infer_instance
mutual
def vc:Nat->List Nd->Option (Kd × List Nd)
 | 0,_=>none
 | _+1,[]=>none
 | n+1,x :: r =>
  if qO x.op then(if x.n=0/\x.s=emp/\x.t=emp then some (.base x.op,r) else none)
  else if x.op=44 then(if x.n=0/\zk x.s=0/\x.t=emp then some (.ent x.s,r) else none)
  else if x.op=45 then(match vc n r with
   | none=>none
   | some (p,r')=>if x.n=0/\x.s=emp/\x.t=emp then some (.set p,r') else none)
  else if x.op=46 then(match Cb n x.n.toNat emp r with
   | none=>none
   | some (f,r')=>if 0<=x.n/\x.s=emp/\x.t=emp then some (.fs f,r') else none)
  else none
def Cb:Nat->Nat->ByteArray->List Nd->Option (Fl × List Nd)
 | _,0,_,r=>some (.nil,r)
 | 0,_+1,_,_=>none
 | _+1,_+1,_,[]=>none
 | n+1,c+1,x,y :: r =>
  if Il x y then(match vc n r with
   | none=>none
   | some (k,r')=>match Cb n c y.s r' with
    | none=>none
    | some (f,r'')=>some (.cons y.s (y.n==1) k f,r''))
  else none
end
def G6(P:List Nd):Option Kd:=match vc P.length P with
 | some (k,[])=>some k
 | _=>none
def pJ(t:List Nd):Int:=if 200<t.length then 4 else if(G6 t).isSome then 0 else 1
end Go.Wk
