/-
  Plain: the parts of sets and records; where a value ends hangs on its own nodes ..
-/
import Derived.Test.YthifljpkgfpkiaaGreatDoorQ1
set_option maxRecDepth 100000
namespace Go.Wk
def FZ(f:Nat->Option Nat):Prop:=∀p e,f p=some e->p<e
theorem aZ(v:List Nd)(m:Nat):FZ (zq v m):=λp e h=>(aC m p e h).1
theorem vI{v:List Nd}{f:Nat->Option Nat}(hf:FZ f):∀k last p e,jb v f k last p=some e->p<=e:=by
 intro k
 induction k with
 | zero=>intro last p e h;simp only [jb,Option.some.injEq] at h;omega
 | succ k ih =>
  intro last p e h
  simp only [jb] at h
  split at h
  ·cases h
  ·rename_i q hq
   have:=hf p q hq;split at h
   ·have:=ih _ _ _ h;omega
   ·cases h
theorem tw{v:List Nd}{f:Nat->Option Nat}(hf:FZ f):∀k last p e,ja v f k last p=some e->p<=e:=by
 intro k
 induction k with
 | zero=>intro last p e h;simp only [ja,Option.some.injEq] at h;omega
 | succ k ih =>
  intro last p e h
  simp only [ja] at h
  split at h
  ·cases h
  ·split at h
   ·cases h
   ·rename_i q hq;have:=hf _ q hq;have:=ih _ _ _ h;omega
def lh(u v:List Nd)(a b L:Nat):Prop:=∀k,k<L->u[a+k]?=v[b+k]?
theorem lh.symm{u v:List Nd}{a b L:Nat}(h:lh u v a b L):lh v u b a L:=λk hk=>(h k hk).symm
theorem lh.seg{u v:List Nd}{a b L:Nat}(h:lh u v a b L){i j:Nat}(hj:j<=L):seg u (a+i) (a+j)=seg v (b+i) (b+j):=by
 unfold Wk.seg;apply List.ext_getElem?;intro k;rw [List.getElem?_take,List.getElem?_take,show a+j-(a+i)=j-i by omega,show b+j-(b+i)=j-i by omega];by_cases hk:k<j-i
 ·rw [if_pos hk,if_pos hk,List.getElem?_drop,List.getElem?_drop,Nat.add_assoc,Nat.add_assoc];exact h (i+k) (by omega)
 ·rw [if_neg hk,if_neg hk]
section
variable {u v:List Nd} {a b L:Nat}
theorem qi(h:lh u v a b L){f g:Nat->Option Nat}(hf:FZ f)(hg:∀p e,f (a+p)=some (a+e)->e<=L->g (b+p)=some (b+e)):
 ∀k (lo:Option Nat) p e,(∀l,lo=some l->l<=p)->jb u f k (lo.map (a+·)) (a+p)=some (a+e)->e<=L->jb v g k (lo.map (b+·)) (b+p)=some (b+e):=by
 intro k
 induction k with
 | zero=>intro lo p e _ h1 h2;simp only [jb,Option.some.injEq] at h1 ⊢;omega
 | succ k ih =>
  intro lo p e MC h1 h2
  simp only [jb] at h1 ⊢
  split at h1
  ·cases h1
  ·rename_i q hq
   have hlt:=hf _ _ hq;obtain⟨s,rfl⟩:∃s,q=a+s:=⟨q-a,by omega⟩
   split at h1
   ·rename_i hr;have WW:=vI hf _ _ _ _ h1;have hs:s<=L:=by omega
    rw [hg p s hq hs];simp only;have wh:rE v (lo.map (b+·)) (b+p) (b+s)=true:=by
     rw [<-hr];rcases lo with _|l
     ·rfl
     ·have:=MC l rfl;simp only [Option.map_some,rE];rw [h.seg (i:=l) (j:=p) (by omega),h.seg (i:=p) (j:=s) hs]
    rw [if_pos wh];exact ih (some p) s e (λl hl=>by cases hl;omega) h1 h2
   ·cases h1
theorem Ax(h:lh u v a b L){last:ByteArray}{p:Nat}(hp:p<L):aR u last (a+p)=aR v last (b+p):=by
 unfold aR;rw [h p hp]
theorem oK(h:lh u v a b L){f g:Nat->Option Nat}(hf:FZ f)(hg:∀p e,f (a+p)=some (a+e)->e<=L->g (b+p)=some (b+e)):
 ∀k (last:ByteArray) p e,ja u f k last (a+p)=some (a+e)->e<=L->ja v g k last (b+p)=some (b+e):=by
 intro k
 induction k with
 | zero=>intro last p e h1 h2;simp only [ja,Option.some.injEq] at h1 ⊢;omega
 | succ k ih =>
  intro last p e h1 h2
  simp only [ja] at h1 ⊢
  split at h1
  ·cases h1
  ·rename_i s hs
   split at h1
   ·cases h1
   ·rename_i q hq;have hlt:=hf _ _ hq;obtain⟨r,rfl⟩:∃r,q=a+r:=⟨q-a,by omega⟩
    have WW:=tw hf _ _ _ _ h1;rw [<-Ax h (by omega:p<L),hs];have:=hg (p+1) r (by rw [<-Nat.add_assoc];exact hq) (by omega);rw [<-Nat.add_assoc] at this;simp only [this];exact ih s r e h1 h2
theorem pP(h:lh u v a b L):∀m p e,zq u m (a+p)=some (a+e)->e<=L->zq v m (b+p)=some (b+e):=by
 intro m
 induction m with
 | zero=>intro p e h1 _;cases h1
 | succ m ih =>
  intro p e h1 h2
  have hlt:=(aC _ _ _ h1).1
  have hp:=h p (by omega)
  simp only [zq] at h1 ⊢
  rw [<-hp]
  split at h1
  ·cases h1
  ·rename_i x hx
   split at h1
   ·rename_i hs;simp only [hs,if_true];split at h1
    ·rename_i h5;rw [if_pos h5];have:=qi h (aZ u m) ih x.n.toNat none (p+1) e (λl hl=>by cases hl) (by rw [<-Nat.add_assoc];exact h1) h2;rw [<-Nat.add_assoc] at this;exact this
    ·rename_i h5;rw [if_neg h5];split at h1
     ·rename_i h6;rw [if_pos h6];have:=oK h (aZ u m) ih x.n.toNat .empty (p+1) e (by rw [<-Nat.add_assoc];exact h1) h2;rw [<-Nat.add_assoc] at this;exact this
     ·rename_i h6;rw [if_neg h6];split at h1
      ·cases h1
      ·rename_i h7;rw [if_neg h7];simp only [Option.some.injEq] at h1 ⊢;omega
   ·cases h1
end
theorem kK{v:List Nd}{f g:Nat->Option Nat}(hf:FZ f){q0:Nat}(h:∀r,q0<=r->f r=g r):∀k lo q,q0<=q->jb v f k lo q=jb v g k lo q:=by
 intro k
 induction k with
 | zero=>intro lo q _;rfl
 | succ k ih =>
  intro lo q hq
  simp only [jb]
  rw [<-h q hq]
  split
  ·rfl
  ·rename_i e he
   have:=hf _ _ he;rw [ih _ e (by omega)]
theorem kA{v:List Nd}{f g:Nat->Option Nat}(hf:FZ f){q0:Nat}(h:∀r,q0<=r->f r=g r):∀k lo q,q0<=q->ja v f k lo q=ja v g k lo q:=by
 intro k
 induction k with
 | zero=>intro lo q _;rfl
 | succ k ih =>
  intro lo q hq
  simp only [ja]
  split
  ·rfl
  ·rw [<-h (q+1) (by omega)]
   split
   ·rfl
   ·rename_i e he;have:=hf _ _ he;rw [ih _ e (by omega)]
theorem cI{v:List Nd}:∀m m' p,v.length-p<m->v.length-p<m'->zq v m p=zq v m' p:=by
 intro m
 induction m with
 | zero=>intro m' p h;omega
 | succ m ih =>
  intro m' p h1 h2
  obtain⟨k,rfl⟩:∃k,m'=k+1:=⟨m'-1,by omega⟩
  simp only [zq]
  by_cases hp:p<v.length
  ·rw [List.getElem?_eq_getElem hp]
   simp only;have hs:=kK (v:=v) (aZ v m) (q0:=p+1) (λr hr=>ih k r (by omega) (by omega));have hr:=kA (v:=v) (aZ v m) (q0:=p+1) (λr hr=>ih k r (by omega) (by omega));rw [hs _ _ _ (Nat.le_refl _),hr _ _ _ (Nat.le_refl _)]
  ·rw [List.getElem?_eq_none (by omega)]
def IsV(P:List Nd):Prop:=zq P (P.length+1) 0=some P.length
theorem zy{P:List Nd}:zh P=0↔P.length<=200/\IsV P:=by
 unfold zh IsV;by_cases h:200<P.length
 ·rw [if_pos h];omega
 ·rw [if_neg h];by_cases hv:zq P (P.length+1) 0=some P.length
  ·rw [if_pos hv];exact⟨λ_=>⟨by omega,hv⟩,λ_=>rfl⟩
  ·rw [if_neg hv];exact⟨λq=>by omega,λq=>absurd q.2 hv⟩
theorem IsV.pos{P:List Nd}(h:IsV P):0<P.length:=(aC _ _ _ h).1
theorem Qx{v:List Nd}{p e k:Nat}(hk:k<e-p):(seg v p e)[k]?=v[p+k]?:=by
 unfold seg;rw [List.getElem?_take,if_pos hk,List.getElem?_drop]
theorem s9(v:List Nd):lh v v 0 0 v.length:=λ_ _=>rfl
theorem pG{v:List Nd}:∀m m' p e,m<=m'->zq v m p=some e->zq v m' p=some e:=by
 intro m
 induction m with
 | zero=>intro m' p e _ h;cases h
 | succ m ih =>
  intro m' p e hm h
  have hle:=(aC _ _ _ h).2
  obtain⟨k,rfl⟩:∃k,m'=k+1:=⟨m'-1,by omega⟩
  have ihk:∀p e,zq v m (0+p)=some (0+e)->e<=v.length->zq v k (0+p)=some (0+e):=λp e h _=>by
   simp only [Nat.zero_add] at h ⊢;exact ih k p e (by omega) h
  have hS:=qi (s9 v) (aZ v m) ihk
  have hR:=oK (s9 v) (aZ v m) ihk
  simp only [Nat.zero_add] at hS hR
  rcases hx:v[p]? with _|x
  ·simp only [zq,hx] at h;cases h
  ·simp only [zq,hx] at h ⊢
   by_cases hs:zC x=true
   ·rw [if_pos hs] at h ⊢;by_cases h5:x.op=5
    ·rw [if_pos h5] at h ⊢;have:=hS x.n.toNat none (p+1) e (λl hl=>by cases hl) h hle;exact this
    ·rw [if_neg h5] at h ⊢;by_cases h6:x.op=6
     ·rw [if_pos h6] at h ⊢;exact hR _ _ _ _ h hle
     ·rw [if_neg h6] at h ⊢;exact h
   ·rw [if_neg hs] at h;cases h
theorem I9{v:List Nd}{m p e:Nat}(h:zq v m p=some e):IsV (seg v p e):=by
 have hle:=aC _ _ _ h;have hl:(seg v p e).length=e-p:=jV hle.2;have hA:lh v (seg v p e) p 0 (e-p):=λk hk=>by rw [Nat.zero_add,Qx hk]
 have:=pP hA m 0 (e-p) (by rw [Nat.add_zero,h];congr 1;omega) (Nat.le_refl _);unfold IsV;rw [hl];have h2:zq (seg v p e) m 0=some (e-p):=by simpa using this
 have h3:=pG m (m+(e-p)+1) 0 (e-p) (by omega) h2;rw [<-h3];exact cI _ _ _ (by omega) (by omega)
theorem NE{v Q:List Nd}{p m:Nat}(hQ:IsV Q)(_hp:p+Q.length<=v.length)(hs:seg v p (p+Q.length)=Q)(hm:v.length-p<m):zq v m p=some (p+Q.length):=by
 have hA:lh Q v 0 p Q.length:=λk hk=>by
  rw [Nat.zero_add,<-Qx (e:=p+Q.length) (by omega),hs]
 have h1:=pG _ (m+Q.length+1) _ _ (by omega) hQ;have:=pP hA _ 0 Q.length (by simpa using h1) (Nat.le_refl _);rw [Nat.add_zero] at this;rw [<-this];exact cI _ _ _ (by omega) (by omega)
theorem ia{s:ByteArray}(h:noB s=true):s=⟨#[]⟩:=by
 unfold noB at h;exact bB (List.eq_nil_of_length_eq_zero (by rw [Array.length_toList];exact of_decide_eq_true h))
def bL(v:List Nd)(f:Nat->Option Nat):Nat->Nat->List (List Nd)
 | 0,_ => []
 | k+1,p =>
  match f p with
  | none => []
  | some e=>seg v p e :: bL v f k e
def Kv(v:List Nd)(p:Nat):ByteArray :=
 match v[p]? with
 | none => .empty
 | some x=>x.s
def bJ(v:List Nd)(f:Nat->Option Nat):Nat->Nat->List (ByteArray × List Nd)
 | 0,_ => []
 | k+1,p =>
  match f (p+1) with
  | none => []
  | some e=>(Kv v p,seg v (p+1) e):: bJ v f k e
def qd:List Nd->Nat
 | []=>0
 | x :: _=>x.n.toNat
def zg:List Nd->Int
 | []=>0
 | x :: _=>x.op
def zn(P:List Nd):List (List Nd):=bL P (zq P (P.length+1)) (qd P) 1
def zo(P:List Nd):List (ByteArray × List Nd):=bJ P (zq P (P.length+1)) (qd P) 1
def Up:List (List Nd)->Prop
 | []=>True
 | [_]=>True
 | a :: b :: r=>zJ a b<0/\Up (b :: r)
def mb(o:Option (List Nd))(l:List (List Nd)):Prop:=match o with|none=>Up l|some a=>Up (a :: l)
def dm(s:ByteArray):Nd:=⟨7,0,s,⟨#[]⟩⟩
def zV:List (ByteArray × List Nd)->List Nd
 | [] => []
 | x :: r=>dm x.1 ::(x.2 ++ zV r)
def UpB(last:ByteArray):List (ByteArray × List Nd)->Prop
 | []=>True
 | x :: r=>js last x.1<0/\UpB x.1 r
theorem iH{v:List Nd}{p q e:Nat}(h1:p<=q)(h2:q<=e):seg v p q ++ seg v q e=seg v p e:=by
 unfold seg;rw [show e-p=(q-p)+(e-q) by omega,List.take_add,List.drop_drop,show p+(q-p)=q by omega]
theorem Cv(v:List Nd)(p:Nat):seg v p p = []:=by unfold seg;simp
theorem Dk{v:List Nd}{p e:Nat}(h:p<v.length)(h2:p<e):seg v p e=v[p] :: seg v (p+1) e:=by
 unfold seg;rw [List.drop_eq_getElem_cons h,show e-p=(e-(p+1))+1 by omega,List.take_succ_cons]
theorem sj(v:List Nd)(p:Nat):seg v p v.length=v.drop p:=by
 unfold seg;rw [List.take_of_length_le (by simp)]
theorem wZ{v:List Nd}{m:Nat}:∀k lo p e,(∀l,lo=some l->l<=p)->p<=v.length->jb v (zq v m) k lo p=some e->
 (bL v (zq v m) k p).length=k/\(bL v (zq v m) k p).flatten=seg v p e/\(∀Q∈bL v (zq v m) k p,IsV Q)/\mb (lo.map λl=>seg v l p) (bL v (zq v m) k p):=by
 intro k
 induction k with
 | zero =>
  intro lo p e _ _ h
  simp only [jb,Option.some.injEq] at h
  subst h
  refine⟨rfl,by rw [Cv];rfl,(λQ h=>by cases h),?_⟩
  rcases lo with _|l <;> trivial
 | succ k ih =>
  intro lo p e MC hp h
  simp only [jb] at h
  simp only [bL]
  split at h
  ·cases h
  ·rename_i q hq
   have hle:=aC _ _ _ hq;split at h
   ·rename_i hr;obtain⟨h1,h2,h3,h4⟩:=ih (some p) q e (λl hl=>by cases hl;omega) hle.2 h;have WW:=vI (aZ v m) _ _ _ _ h;(try rw [hq]);refine⟨by simp [h1],?_,?_,?_⟩
    ·rw [List.flatten_cons,h2,iH (by omega) WW]
    ·intro Q hQ;rcases List.mem_cons.1 hQ with rfl|hQ
     ·exact I9 hq
     ·exact h3 Q hQ
    ·simp only [Option.map_some,mb] at h4;rcases lo with _|l
     ·exact h4
     ·simp only [rE,decide_eq_true_eq] at hr;exact⟨hr,h4⟩
   ·cases h
theorem GE{v:List Nd}{m:Nat}:∀(L:List (List Nd)) lo p e,(∀l,lo=some l->l<=p)->e<=v.length->p<=e->seg v p e=L.flatten->(∀Q∈L,IsV Q)->mb (lo.map λl=>seg v l p) L->v.length-p<m->
 jb v (zq v m) L.length lo p=some e/\bL v (zq v m) L.length p=L:=by
 intro L
 induction L with
 | nil =>
  intro lo p e _ h1 h2 h3 _ _ _
  have hl:=congrArg List.length h3
  rw [jV h1] at hl
  simp at hl
  simp only [List.length_nil,jb,bL,and_true]
  congr 1;omega
 | cons Q L ih =>
  intro lo p e MC h1 h2 h3 h4 h5 h6
  have hQ:=h4 Q (by simp)
  rw [List.flatten_cons] at h3
  have hl:=congrArg List.length h3
  rw [jV h1,List.length_append] at hl
  have hq:seg v p (p+Q.length)=Q:=by
   have:=iH (v:=v) (p:=p) (q:=p+Q.length) (e:=e) (by omega) (by omega);rw [h3] at this;exact(List.append_inj this (by rw [jV (by omega)];omega)).1
  have YT:seg v (p+Q.length) e=L.flatten:=by
   have:=iH (v:=v) (p:=p) (q:=p+Q.length) (e:=e) (by omega) (by omega);rw [h3] at this;exact(List.append_inj this (by rw [jV (by omega)];omega)).2
  have cg:=hQ.pos
  have hend:=NE hQ (by omega) hq h6
  have ZM:mb ((some p).map λl=>seg v l (p+Q.length)) L:=by
   simp only [Option.map_some,mb,hq];rcases lo with _|l
   ·simp only [Option.map_none,mb] at h5;exact h5
   ·simp only [Option.map_some,mb] at h5;exact h5.2
  have hr:rE v lo p (p+Q.length)=true:=by
   rcases lo with _|l
   ·rfl
   ·simp only [Option.map_some,mb] at h5;simp only [rE,hq,decide_eq_true_eq];exact h5.1
  obtain⟨g1,g2⟩:=ih (some p) (p+Q.length) e (λl hl=>by cases hl;omega) h1 (by omega) YT (λQ' h=>h4 Q' (by simp [h])) ZM (by omega)
  simp only [List.length_cons,jb,bL,hend,hr,if_true]
  exact⟨g1,by rw [g2,hq]⟩
theorem wG{v:List Nd}{m:Nat}:∀k last p e,p<=v.length->ja v (zq v m) k last p=some e->
 (bJ v (zq v m) k p).length=k/\zV (bJ v (zq v m) k p)=seg v p e/\(∀x∈bJ v (zq v m) k p,IsV x.2/\zk x.1=0)/\UpB last (bJ v (zq v m) k p):=by
 intro k
 induction k with
 | zero =>
  intro last p e _ h
  simp only [ja,Option.some.injEq] at h
  subst h
  exact⟨rfl,by rw [Cv];rfl,(λQ h=>by cases h),trivial⟩
 | succ k ih =>
  intro last p e hp h
  simp only [ja] at h
  simp only [bJ]
  split at h
  ·cases h
  ·rename_i s hs
   split at h
   ·cases h
   ·rename_i q hq;have hle:=aC _ _ _ hq;obtain⟨h1,h2,h3,h4⟩:=ih s q e hle.2 h;have WW:=tw (aZ v m) _ _ _ _ h;unfold aR at hs;split at hs
    ·cases hs
    ·rename_i x hx;split at hs
     ·rename_i hc;simp only [Option.some.injEq] at hs;subst hs;simp only [Bool.and_eq_true,decide_eq_true_eq] at hc;obtain⟨⟨c1,c2⟩,c3⟩:=hc;have Zi:=c2;unfold zC at Zi;rw [c1] at Zi;simp at Zi;obtain⟨⟨n1,n2⟩,n3⟩:=Zi;have JM:Kv v p=x.s:=by unfold Kv;rw [hx]
      have iV:p<v.length:=(List.getElem?_eq_some_iff.1 hx).1;have Z9:v[p]=x:=by rw [List.getElem?_eq_getElem iV] at hx;injection hx
      have hxf:x=dm x.s:=Nd.ext4 c1 n1 rfl (ia n2);(try rw [hq]);(try simp only);refine⟨by simp [h1],?_,?_,?_⟩
      ·rw [zV,h2,JM,iH (by omega) WW,Dk iV (by omega),Z9,<-hxf]
      ·intro y hy;rcases List.mem_cons.1 hy with rfl|hy
       ·exact⟨I9 hq,by rw [JM];exact n3⟩
       ·exact h3 y hy
      ·simp only [UpB,JM];exact⟨c3,h4⟩
     ·cases hs
theorem wu{s:ByteArray}(h:zk s=0):zC (dm s)=true:=by
 unfold zC dm;simp [h,noB];rfl
theorem Ip{v:List Nd}{m:Nat}:∀(L:List (ByteArray × List Nd)) last p e,e<=v.length->p<=e->seg v p e=zV L->(∀x∈L,IsV x.2/\zk x.1=0)->UpB last L->v.length-p<m->
 ja v (zq v m) L.length last p=some e/\bJ v (zq v m) L.length p=L:=by
 intro L
 induction L with
 | nil =>
  intro last p e h1 h2 h3 _ _ _
  have hl:=congrArg List.length h3
  rw [jV h1] at hl
  simp [zV] at hl
  simp only [List.length_nil,ja,bJ,and_true]
  congr 1;omega
 | cons x L ih =>
  intro last p e h1 h2 h3 h4 h5 h6
  obtain⟨hQ,hN⟩:=h4 x (by simp)
  rw [zV] at h3
  have hl:=congrArg List.length h3
  rw [jV h1,List.length_cons,List.length_append] at hl
  have iV:p<v.length:=by omega
  rw [Dk iV (by omega)] at h3
  injection h3 with e1 e2
  have hq:seg v (p+1) (p+1+x.2.length)=x.2:=by
   have:=iH (v:=v) (p:=p+1) (q:=p+1+x.2.length) (e:=e) (by omega) (by omega);rw [e2] at this;exact(List.append_inj this (by rw [jV (by omega)];omega)).1
  have YT:seg v (p+1+x.2.length) e=zV L:=by
   have:=iH (v:=v) (p:=p+1) (q:=p+1+x.2.length) (e:=e) (by omega) (by omega);rw [e2] at this;exact(List.append_inj this (by rw [jV (by omega)];omega)).2
  have hend:=NE hQ (by omega) hq (m:=m) (by omega)
  have JM:Kv v p=x.1:=by unfold Kv;rw [List.getElem?_eq_getElem iV,e1];rfl
  have hf:aR v last p=some x.1:=by
   unfold aR;rw [List.getElem?_eq_getElem iV,e1];simp only [wu hN];have:decide (js last (dm x.1).s<0)=true:=decide_eq_true h5.1;rw [this];rfl
  obtain⟨g1,g2⟩:=ih x.1 (p+1+x.2.length) e h1 (by omega) YT (λy h=>h4 y (by simp [h])) h5.2 (by omega)
  simp only [List.length_cons,ja,bJ,hend,hf]
  exact⟨g1,by rw [g2,hq,JM]⟩
def bI(n:Int):Nd:=⟨5,n,⟨#[]⟩,⟨#[]⟩⟩
def zY(n:Int):Nd:=⟨6,n,⟨#[]⟩,⟨#[]⟩⟩
theorem rf(x:Nd)(r:List Nd):zg (x :: r)=x.op:=rfl
theorem vu(x:Nd)(r:List Nd):qd (x :: r)=x.n.toNat:=rfl
theorem dc{P:List Nd}(h:IsV P)(h5:zg P=5):
 P=bI (zn P).length ::(zn P).flatten/\(zn P).length=qd P/\(∀Q∈zn P,IsV Q)/\Up (zn P):=by
 have cg:=h.pos;unfold IsV at h;rcases P with _|⟨x,r⟩
 ·simp at cg
 have h5':x.op=5:=h5;simp only [zq,List.getElem?_cons_zero] at h;by_cases hs:zC x=true
 ·rw [if_pos hs,if_pos h5'] at h;unfold zC at hs;rw [h5'] at hs;simp at hs;have hx:x=bI x.n:=Nd.ext4 h5' rfl (ia hs.1.2) (ia hs.2);have h':jb (x :: r) (zq (x :: r) ((x :: r).length+1)) x.n.toNat none 1=some (x :: r).length:=by
   rw [<-h];exact(kK (aZ _ _) (q0:=1) (λq hq=>cI _ _ _ (by simp only [List.length_cons];omega) (by simp only [List.length_cons];omega)) _ _ _ (Nat.le_refl _))
  obtain⟨g1,g2,g3,g4⟩:=wZ _ none 1 _ (λl hl=>by cases hl) (by simp) h';have e:zn (x :: r)=bL (x :: r) (zq (x :: r) ((x :: r).length+1)) x.n.toNat 1:=rfl;rw [<-e] at g1 g2 g3 g4;refine⟨?_,g1,g3,g4⟩;rw [g2,sj,g1,Int.toNat_of_nonneg hs.1.1,<-hx];rfl
 ·rw [if_neg hs] at h;cases h
theorem TI{L:List (List Nd)}(h:∀Q∈L,IsV Q)(hu:Up L):IsV (bI L.length :: L.flatten)/\zn (bI L.length :: L.flatten)=L:=by
 have hs:zC (bI L.length)=true:=by unfold zC bI;simp [noB];rfl
 have key:=λm hm=>GE (v:=bI L.length :: L.flatten) (m:=m) L none 1 (L.flatten.length+1) (λl hl=>by cases hl) (by simp) (by omega) (by
  have:=sj (bI L.length :: L.flatten) 1
  simpa using this) h hu hm
 refine⟨?_,?_⟩
 ·unfold IsV;simp only [zq,List.getElem?_cons_zero,hs,if_true];have h5:(bI L.length).op=5:=rfl;rw [if_pos h5];exact(key _ (by simp only [List.length_cons];omega)).1
 ·unfold zn;rw [vu];exact(key _ (by simp only [List.length_cons];omega)).2
theorem dD{P:List Nd}(h:IsV P)(h6:zg P=6):
 P=zY (zo P).length :: zV (zo P)/\(zo P).length=qd P/\(∀x∈zo P,IsV x.2/\zk x.1=0)/\UpB .empty (zo P):=by
 have cg:=h.pos;unfold IsV at h;rcases P with _|⟨x,r⟩
 ·simp at cg
 have h6':x.op=6:=h6;simp only [zq,List.getElem?_cons_zero] at h;by_cases hs:zC x=true
 ·rw [if_pos hs,if_neg (by omega),if_pos h6'] at h;unfold zC at hs;rw [h6'] at hs;simp at hs;have hx:x=zY x.n:=Nd.ext4 h6' rfl (ia hs.1.2) (ia hs.2);have h':ja (x :: r) (zq (x :: r) ((x :: r).length+1)) x.n.toNat .empty 1=some (x :: r).length:=by
   rw [<-h];exact(kA (aZ _ _) (q0:=1) (λq hq=>cI _ _ _ (by simp only [List.length_cons];omega) (by simp only [List.length_cons];omega)) _ _ _ (Nat.le_refl _))
  obtain⟨g1,g2,g3,g4⟩:=wG _ .empty 1 _ (by simp) h';have e:zo (x :: r)=bJ (x :: r) (zq (x :: r) ((x :: r).length+1)) x.n.toNat 1:=rfl;rw [<-e] at g1 g2 g3 g4;refine⟨?_,g1,g3,g4⟩;rw [g2,sj,g1,Int.toNat_of_nonneg hs.1.1,<-hx];rfl
 ·rw [if_neg hs] at h;cases h
theorem TC{L:List (ByteArray × List Nd)}(h:∀x∈L,IsV x.2/\zk x.1=0)(hu:UpB .empty L):IsV (zY L.length :: zV L)/\zo (zY L.length :: zV L)=L:=by
 have hs:zC (zY L.length)=true:=by unfold zC zY;simp [noB];rfl
 have key:=λm hm=>Ip (v:=zY L.length :: zV L) (m:=m) L .empty 1 ((zV L).length+1) (by simp) (by omega) (by
  have:=sj (zY L.length :: zV L) 1
  simpa using this) h hu hm
 refine⟨?_,?_⟩
 ·unfold IsV;simp only [zq,List.getElem?_cons_zero,hs,if_true];have h6:(zY L.length).op=6:=rfl;rw [if_neg (by rw [h6];omega),if_pos h6];exact(key _ (by simp only [List.length_cons];omega)).1
 ·unfold zo;rw [vu];exact(key _ (by simp only [List.length_cons];omega)).2
theorem NH{P:List Nd}(h:IsV P)(h5:zg P=5):jb P (zq P (P.length+1)) (qd P) none 1=some P.length/\∃hp:0<P.length,P[0].op=5/\0<=P[0].n/\qd P=P[0].n.toNat:=by
 have cg:=h.pos;unfold IsV at h;rcases P with _|⟨x,r⟩
 ·simp at cg
 have h5':x.op=5:=h5;simp only [zq,List.getElem?_cons_zero] at h;by_cases hs:zC x=true
 ·rw [if_pos hs,if_pos h5'] at h;unfold zC at hs;rw [h5'] at hs;simp at hs;refine⟨?_,cg,h5',hs.1.1,rfl⟩;rw [<-h];exact(kK (aZ _ _) (q0:=1) (λq hq=>cI _ _ _ (by simp only [List.length_cons];omega) (by simp only [List.length_cons];omega)) _ _ _ (Nat.le_refl _))
 ·rw [if_neg hs] at h;cases h
theorem NV{P:List Nd}(h:IsV P)(h6:zg P=6):ja P (zq P (P.length+1)) (qd P) .empty 1=some P.length/\∃hp:0<P.length,P[0].op=6/\0<=P[0].n/\qd P=P[0].n.toNat:=by
 have cg:=h.pos;unfold IsV at h;rcases P with _|⟨x,r⟩
 ·simp at cg
 have h6':x.op=6:=h6;simp only [zq,List.getElem?_cons_zero] at h;by_cases hs:zC x=true
 ·rw [if_pos hs,if_neg (by omega),if_pos h6'] at h;unfold zC at hs;rw [h6'] at hs;simp at hs;refine⟨?_,cg,h6',hs.1.1,rfl⟩;rw [<-h];exact(kA (aZ _ _) (q0:=1) (λq hq=>cI _ _ _ (by simp only [List.length_cons];omega) (by simp only [List.length_cons];omega)) _ _ _ (Nat.le_refl _))
 ·rw [if_neg hs] at h;cases h
def fS:List (List Nd)->Int
 | []=>0
 | P :: r=>or2 (zh P) (fS r)
mutual
inductive Kd
 | base (op:Int)
 | ent (s:ByteArray)
 | set (p:Kd)
 | fs (f:Fl)
inductive Fl
 | nil
 | cons (s:ByteArray) (m:Bool) (k:Kd) (r:Fl)
end
mutual
def Kd.sz:Kd->Nat
 | .base _=>1
 | .ent _=>1
 | .set p=>p.sz+1
 | .fs f=>f.sz+1
def Fl.sz:Fl->Nat
 | .nil=>0
 | .cons _ _ k r=>k.sz+r.sz+1
end
def Fl.find:Fl->ByteArray->Option (Bool × Kd)
 | .nil,_=>none
 | .cons s m k r,x=>if s=x then some (m,k) else r.find x
def du:Kd->Bool
 | .base x=>x==48
 | _=>false
def isNone:Kd->Bool
 | .base x=>x==49
 | _=>false
def kZ:Fl->Fl->Bool
 | .nil,_=>true
 | .cons s m _ r,f=>(!m ||(f.find s).isSome)&& kZ r f
mutual
def zO:Kd->Kd->Bool
 | .base x,b=>x==49 || du b ||(match b with | .base y=>x==y|_=>false)
 | .ent s,b=>du b ||(match b with | .ent t=>decide (s=t)|_=>false)
 | .set p,b=>du b ||(match b with | .set q=>zO p q|_=>false)
 | .fs f,b=>du b ||(match b with | .fs g=>fc f g && kZ g f|_=>false)
def fc:Fl->Fl->Bool
 | .nil,_=>true
 | .cons s m k r,g=>(match g.find s with|none=>false|some (m',k')=>(!m' || m)&& zO k k')&& fc r g
end
def Fl.ascFrom:ByteArray->Fl->Prop
 | _,.nil=>True
 | x,.cons s _ _ r=>js x s<0/\r.ascFrom s
def Fl.asc:Fl->Prop
 | .nil=>True
 | .cons s _ _ r=>r.ascFrom s
mutual
def Kd.ok:Kd->Prop
 | .base _=>True
 | .ent _=>True
 | .set p=>p.ok
 | .fs f=>f.asc/\f.ok
def Fl.ok:Fl->Prop
 | .nil=>True
 | .cons _ _ k r=>k.ok/\r.ok
end
theorem bT{x:ByteArray}{f:Fl}(h:f.ascFrom x):f.asc:=by
 cases f with
 | nil=>trivial
 | cons s m k r=>exact h.2
theorem gp{x:ByteArray}{f:Fl}(h:f.ascFrom x){s:ByteArray}{v:Bool × Kd}(hf:f.find s=some v):js x s<0:=by
 induction f using Fl.rec (motive_1:=λ_=>True) generalizing x with
 | nil=>cases hf
 | cons t m k r _ ih =>
  simp only [Fl.find] at hf
  split at hf
  ·rename_i e;subst e;exact h.1
  ·exact zw.lt_le h.1 (by have:=ih h.2 hf;omega)
 | _=>trivial
theorem dM{f:Fl}{s:ByteArray}{m:Bool}{k:Kd}(hf:f.find s=some (m,k)):k.sz<f.sz:=by
 induction f using Fl.rec (motive_1:=λ_=>True) with
 | nil=>cases hf
 | cons t m' k' r _ ih =>
  simp only [Fl.find] at hf
  simp only [Fl.sz]
  split at hf
  ·injection hf with hf;injection hf with h1 h2;subst h2;omega
  ·have:=ih hf;omega
 | _=>trivial
theorem bg{f:Fl}(h:f.ok){s:ByteArray}{m:Bool}{k:Kd}(hf:f.find s=some (m,k)):k.ok:=by
 induction f using Fl.rec (motive_1:=λ_=>True) with
 | nil=>cases hf
 | cons t m' k' r _ ih =>
  simp only [Fl.find] at hf
  simp only [Fl.ok] at h
  split at hf
  ·injection hf with hf;injection hf with h1 h2;subst h2;exact h.1
  ·exact ih h.2 hf
 | _=>trivial
theorem km{f g:Fl}(h:f.asc):fc f g=true↔∀s m k,f.find s=some (m,k)->∃m' k',g.find s=some (m',k')/\(m'=true->m=true)/\zO k k'=true:=by
 induction f using Fl.rec (motive_1:=λ_=>True) with
 | nil=>simp [fc,Fl.find]
 | cons t m k r _ ih =>
  have ih:=ih (bT h)
  simp only [fc,Bool.and_eq_true,ih]
  constructor
  ·rintro ⟨h1,h2⟩ s m0 k0 hf
   simp only [Fl.find] at hf;split at hf
   ·rename_i e;subst e;injection hf with hf;injection hf with e1 e2;subst e1 e2;rcases hg:g.find t with _|⟨m',k'⟩
    ·rw [hg] at h1;cases h1
    ·rw [hg] at h1;simp only [Bool.and_eq_true,Bool.or_eq_true,Bool.not_eq_true'] at h1
     exact ⟨m', k', rfl, fun e => by rcases h1.1 with h | h; · rw [e] at h; cases h
                                     ·exact h,h1.2⟩
   ·exact h2 s m0 k0 hf
  ·intro hall
   constructor
   ·obtain⟨m',k',hg,h1,h2⟩:=hall t m k (by simp [Fl.find]);rw [hg];simp only [Bool.and_eq_true,Bool.or_eq_true,Bool.not_eq_true'];exact⟨by cases m' with
     | false=>exact .inl rfl
     | true=>exact .inr (h1 rfl),h2⟩
   ·intro s m0 k0 hf;refine hall s m0 k0 ?_;have hlt:=gp h hf;simp only [Fl.find];rw [if_neg (λe=>by subst e;rw [zw.self] at hlt;omega)];exact hf
 | _=>trivial
theorem mD{g f:Fl}(h:g.asc):kZ g f=true↔∀s k,g.find s=some (true,k)->(f.find s).isSome=true:=by
 induction g using Fl.rec (motive_1:=λ_=>True) with
 | nil=>simp [kZ,Fl.find]
 | cons t m k r _ ih =>
  have ih:=ih (bT h)
  simp only [kZ,Bool.and_eq_true,ih,Bool.or_eq_true,Bool.not_eq_true']
  constructor
  ·rintro ⟨h1,h2⟩ s k0 hf
   simp only [Fl.find] at hf;split at hf
   ·rename_i e;subst e;injection hf with hf;injection hf with e1 e2;subst e1 e2;rcases h1 with h1|h1
    ·cases h1
    ·exact h1
   ·exact h2 s k0 hf
  ·intro hall
   constructor
   ·cases m with
    | false=>exact .inl rfl
    | true=>exact .inr (hall t k (by simp [Fl.find]))
   ·intro s k0 hf;refine hall s k0 ?_;have hlt:=gp h hf;simp only [Fl.find];rw [if_neg (λe=>by subst e;rw [zw.self] at hlt;omega)];exact hf
 | _=>trivial
theorem xW(a b:Kd)(h:du b=true):zO a b=true:=by cases a <;> simp [zO,h]
theorem kD(a b:Kd)(h:isNone a=true):zO a b=true:=by
 cases a with
 | base x=>simp only [isNone] at h;simp [zO,h]
 | _=>cases h
theorem jD:∀(n:Nat) (a:Kd),a.sz<=n->a.ok->zO a a=true
 | 0,a,h,_=>by cases a <;> simp [Kd.sz] at h
 | n+1,a,h,de=>by
  cases a with
  | base x=>simp [zO]
  | ent s=>simp [zO]
  | set p =>
   simp only [Kd.sz] at h
   simp [zO,jD n p (by omega) de]
  | fs f =>
   simp only [Kd.sz] at h
   simp only [zO,Bool.or_eq_true,Bool.and_eq_true]
   refine .inr ⟨(km de.1).2 λs m k hf=>⟨m,k,hf,id,jD n k (by have:=dM hf;omega) (bg de.2 hf)⟩,(mD de.1).2 λs k hf=>by rw [hf];rfl⟩
def emp:ByteArray:=⟨#[]⟩
mutual
def Kd.flat:Kd->List Nd
 | .base x => [⟨x,0,emp,emp⟩]
 | .ent s => [⟨44,0,s,emp⟩]
 | .set p=>⟨45,0,emp,emp⟩:: p.flat
 | .fs f=>⟨46,f.len,emp,emp⟩:: f.flat
def Fl.len:Fl->Nat
 | .nil=>0
 | .cons _ _ _ r=>r.len+1
def Fl.flat:Fl->List Nd
 | .nil => []
 | .cons s m k r=>⟨47,if m=true then 1 else 0,s,emp⟩::(k.flat ++ r.flat)
end
def ah(x:Int):Prop:=x=41\/x=42\/x=43\/x=48\/x=49
instance (x:Int):Decidable (ah x):=by unfold ah;infer_instance
mutual
def Kd.valid:Kd->Prop
 | .base x=>ah x
 | .ent s=>zk s=0
 | .set p=>p.valid
 | .fs f=>f.validFrom emp
def Fl.validFrom:Fl->ByteArray->Prop
 | .nil,_=>True
 | .cons s _ k r,x=>js x s<0/\zk s=0/\k.valid/\r.validFrom s
end
def ED(x:ByteArray)(y:Nd):Prop:=y.op=47/\(y.n=0\/y.n=1)/\y.t=emp/\zk y.s=0/\js x y.s<0
instance (x:ByteArray) (y:Nd):Decidable (ED x y):=by unfold ED;infer_instance
mutual
def zT:Nat->List Nd->Option (Kd × List Nd)
 | 0,_=>none
 | _+1,[]=>none
 | n+1,x :: r =>
  if ah x.op then(if x.n=0/\x.s=emp/\x.t=emp then some (.base x.op,r) else none)
  else if x.op=44 then(if x.n=0/\zk x.s=0/\x.t=emp then some (.ent x.s,r) else none)
  else if x.op=45 then(match zT n r with
   | none=>none
   | some (p,r')=>if x.n=0/\x.s=emp/\x.t=emp then some (.set p,r') else none)
  else if x.op=46 then(match jS n x.n.toNat emp r with
   | none=>none
   | some (f,r')=>if 0<=x.n/\x.s=emp/\x.t=emp then some (.fs f,r') else none)
  else none
def jS:Nat->Nat->ByteArray->List Nd->Option (Fl × List Nd)
 | _,0,_,r=>some (.nil,r)
 | 0,_+1,_,_=>none
 | _+1,_+1,_,[]=>none
 | n+1,c+1,x,y :: r =>
  if ED x y then(match zT n r with
   | none=>none
   | some (k,r')=>match jS n c y.s r' with
    | none=>none
    | some (f,r'')=>some (.cons y.s (y.n==1) k f,r''))
  else none
end
theorem CM{y:Nd}{a b:Int}{c d:ByteArray}(h1:y.op=a)(h2:y.n=b)(h3:y.s=c)(h4:y.t=d):y=⟨a,b,c,d⟩:=by cases y;simp_all
theorem dp:∀n:Nat,(∀P k r,zT n P=some (k,r)->k.valid/\P=k.flat ++ r)/\(∀c x P f r,jS n c x P=some (f,r)->f.validFrom x/\f.len=c/\P=f.flat ++ r)
 | 0=>by
  refine⟨λP k r h=>by simp [zT] at h,λc x P f r h=>?_⟩
  cases c with
  | zero =>
   simp only [jS,Option.some.injEq,Prod.mk.injEq] at h
   obtain⟨rfl,rfl⟩:=h
   exact⟨trivial,rfl,rfl⟩
  | succ c=>simp [jS] at h
 | n+1=>by
  obtain⟨ihK,ihF⟩:=dp n;refine⟨λP k r h=>?_,λc x P f r h=>?_⟩
  ·cases P with
   | nil=>simp [zT] at h
   | cons y P =>
    simp only [zT] at h
    split at h
    ·rename_i hb
     split at h
     ·rename_i hc;simp only [Option.some.injEq,Prod.mk.injEq] at h;obtain⟨rfl,rfl⟩:=h;exact⟨hb,by simp only [Kd.flat];rw [CM rfl hc.1 hc.2.1 hc.2.2];rfl⟩
     ·cases h
    ·split at h
     ·rename_i ho;split at h
      ·rename_i hc;simp only [Option.some.injEq,Prod.mk.injEq] at h;obtain⟨rfl,rfl⟩:=h;exact⟨hc.2.1,by simp only [Kd.flat];rw [CM ho hc.1 rfl hc.2.2];rfl⟩
      ·cases h
     ·split at h
      ·rename_i ho;rcases hp:zT n P with _|⟨p,r'⟩
       ·rw [hp] at h;cases h
       ·rw [hp] at h;simp only at h;split at h
        ·rename_i hc;simp only [Option.some.injEq,Prod.mk.injEq] at h;obtain⟨rfl,rfl⟩:=h;obtain⟨v,e⟩:=ihK _ _ _ hp;exact⟨v,by simp only [Kd.flat];rw [CM ho hc.1 hc.2.1 hc.2.2,e];rfl⟩
        ·cases h
      ·split at h
       ·rename_i ho;rcases hp:jS n y.n.toNat emp P with _|⟨f,r'⟩
        ·rw [hp] at h;cases h
        ·rw [hp] at h;simp only at h;split at h
         ·rename_i hc;simp only [Option.some.injEq,Prod.mk.injEq] at h;obtain⟨rfl,rfl⟩:=h;obtain⟨v,el,e⟩:=ihF _ _ _ _ _ hp;have en:y.n=(f.len:Int):=by rw [el];omega
          exact⟨v,by simp only [Kd.flat];rw [CM ho en hc.2.1 hc.2.2,e];rfl⟩
         ·cases h
       ·cases h
  ·cases c with
   | zero =>
    simp only [jS,Option.some.injEq,Prod.mk.injEq] at h
    obtain⟨rfl,rfl⟩:=h
    exact⟨trivial,rfl,rfl⟩
   | succ c =>
    cases P with
    | nil=>simp [jS] at h
    | cons y P =>
     simp only [jS] at h
     split at h
     ·rename_i hf
      rcases hp:zT n P with _|⟨p,r'⟩
      ·rw [hp] at h;cases h
      ·rw [hp] at h;simp only at h;rcases hq:jS n c y.s r' with _|⟨g,r''⟩
       ·rw [hq] at h;cases h
       ·rw [hq] at h;simp only [Option.some.injEq,Prod.mk.injEq] at h;obtain⟨rfl,rfl⟩:=h;obtain⟨v1,e1⟩:=ihK _ _ _ hp;obtain⟨v2,el,e2⟩:=ihF _ _ _ _ _ hq;refine⟨⟨hf.2.2.2.2,hf.2.2.2.1,v1,v2⟩,by simp [Fl.len,el],?_⟩;have en:y.n=if(y.n==1)=true then 1 else 0:=by
         rcases hf.2.1 with q|q <;> simp [q]
        simp only [Fl.flat,List.cons_append,List.append_assoc];rw [<-e2,<-e1];congr 1;exact CM hf.1 en rfl hf.2.2.1
     ·cases h
theorem kR:∀n:Nat,(∀k r,k.valid->k.flat.length<=n->zT n (k.flat ++ r)=some (k,r))/\(∀f x r,f.validFrom x->f.flat.length<=n->jS n f.len x (f.flat ++ r)=some (f,r))
 | 0=>by
  refine⟨λk r _ h=>by cases k <;> simp [Kd.flat] at h,λf x r _ h=>?_⟩
  cases f with
  | nil=>simp [Fl.len,jS,Fl.flat]
  | cons s m k q=>simp [Fl.flat] at h
 | n+1=>by
  obtain⟨ihK,ihF⟩:=kR n;refine⟨λk r hv hl=>?_,λf x r hv hl=>?_⟩
  ·cases k with
   | base y =>
    have hb:ah y:=hv
    simp [Kd.flat,zT,hb]
   | ent s =>
    have h1:¬ah 44:=by decide
    have h2:zk s=0:=hv
    simp [Kd.flat,zT,h1,h2]
   | set p =>
    have h1:¬ah 45:=by decide
    simp only [Kd.flat,List.length_cons] at hl
    simp [Kd.flat,zT,h1,ihK p r hv (by omega)]
   | fs f =>
    have h1:¬ah 46:=by decide
    simp only [Kd.flat,List.length_cons] at hl
    simp [Kd.flat,zT,h1,ihF f emp r hv (by omega)]
  ·cases f with
   | nil=>cases n <;> simp [Fl.len,jS,Fl.flat]
   | cons s m k q =>
    obtain⟨v1,v2,v3,v4⟩:=hv
    simp only [Fl.flat,List.length_cons,List.length_append] at hl
    have hf:ED x ⟨47,if m=true then 1 else 0,s,emp⟩:=⟨rfl,by cases m <;> simp,rfl,v2,v1⟩
    have hm:(((if m=true then 1 else 0:Int))==1)=m:=by cases m <;> rfl
    simp only [Fl.flat,Fl.len,List.cons_append,List.append_assoc,jS,if_pos hf,ihK k (q.flat ++ r) v3 (by omega),ihF q s r v4 (by omega),hm]
def kU(P:List Nd):Option Kd:=match zT P.length P with
 | some (k,[])=>some k
 | _=>none
theorem iP{P:List Nd}{k:Kd}:kU P=some k↔k.valid/\P=k.flat:=by
 unfold kU;constructor
 ·intro h;rcases hp:zT P.length P with _|⟨k',r⟩
  ·rw [hp] at h;cases h
  ·rw [hp] at h
   cases r with
   | cons a r=>cases h
   | nil =>
    simp only [Option.some.injEq] at h
    subst h
    obtain⟨v,e⟩:=(dp _).1 _ _ _ hp
    exact⟨v,by simpa using e⟩
 ·rintro ⟨v,rfl⟩;have:=(kR k.flat.length).1 k [] v (Nat.le_refl _);rw [List.append_nil] at this;rw [this]
theorem Pz{a b:Kd}(ha:a.valid)(hb:b.valid)(h:a.flat=b.flat):a=b:=by
 have h1:=iP.2 ⟨ha,rfl⟩;have h2:=iP.2 ⟨hb,rfl⟩;rw [h,h2] at h1;injection h1 with h1;exact h1.symm
theorem ug{n n':Nat}{P r:List Nd}{k:Kd}(h:zT n P=some (k,r))(h':P.length<=n'):zT n' P=some (k,r):=by
 obtain⟨v,e⟩:=(dp n).1 P k r h;have hl:k.flat.length<=n':=by rw [e,List.length_append] at h';omega
 have:=(kR n').1 k r v hl;rwa [<-e] at this
theorem rH{n n' c:Nat}{x:ByteArray}{P r:List Nd}{f:Fl}(h:jS n c x P=some (f,r))(h':P.length<=n'):jS n' c x P=some (f,r):=by
 obtain⟨v,e1,e⟩:=(dp n).2 c x P f r h;have hl:f.flat.length<=n':=by rw [e,List.length_append] at h';omega
 have:=(kR n').2 f x r v hl;rwa [<-e,e1] at this
theorem tZ{n n':Nat}{P:List Nd}(h:P.length<=n)(h':P.length<=n'):zT n P=zT n' P:=by
 rcases e:zT n P with _|⟨k,r⟩
 ·rcases e':zT n' P with _|⟨k,r⟩
  ·rfl
  ·rw [ug e' h] at e;cases e
 ·exact(ug e h').symm
theorem Ci{n n' c:Nat}{x:ByteArray}{P:List Nd}(h:P.length<=n)(h':P.length<=n'):jS n c x P=jS n' c x P:=by
 rcases e:jS n c x P with _|⟨k,r⟩
 ·rcases e':jS n' c x P with _|⟨k,r⟩
  ·rfl
  ·rw [rH e' h] at e;cases e
 ·exact(rH e h').symm
def i9(m:Nat)(x:ByteArray):List Nd->Option (ByteArray × Bool × Kd × List Nd)
 | []=>none
 | y :: r=>if ED x y then(match zT m r with
  | none=>none
  | some (k,r')=>some (y.s,y.n==1,k,r')) else none
theorem na{n:Nat}{P r:List Nd}{k:Kd}(h:zT n P=some (k,r)):r.length<P.length:=by
 obtain⟨v,e⟩:=(dp n).1 P k r h;have h2:0<k.flat.length:=by cases k <;> simp [Kd.flat]
 rw [e,List.length_append];omega
theorem vd{m:Nat}{x s:ByteArray}{b:Bool}{k:Kd}{Q r:List Nd}(h:i9 m x Q=some (s,b,k,r)):r.length+2<=Q.length:=by
 cases Q with
 | nil=>cases h
 | cons y Q =>
  simp only [i9] at h
  split at h
  ·rcases hp:zT m Q with _|⟨k',r'⟩
   ·rw [hp] at h;cases h
   ·rw [hp] at h;simp only [Option.some.injEq,Prod.mk.injEq] at h;have:=na hp;rw [<-h.2.2.2,List.length_cons];omega
  ·cases h
theorem DJ{m c:Nat}{x:ByteArray}{Q:List Nd}(h:Q.length<=m):jS m (c+1) x Q=(match i9 m x Q with
 | none=>none
 | some (s,b,k,r')=>match jS m c s r' with
  | none=>none
  | some (f,r'')=>some (.cons s b k f,r'')):=by
 cases Q with
 | nil=>cases m <;> rfl
 | cons y r =>
  rw [List.length_cons] at h
  cases m with
  | zero=>omega
  | succ m =>
   simp only [jS,i9]
   by_cases hk:ED x y
   ·simp only [if_pos hk]
    rw [tZ (n:=m) (n':=m+1) (by omega) (by omega)];rcases hp:zT (m+1) r with _|⟨k,r'⟩
    ·rfl
    ·have:=na hp;simp only;rw [Ci (n:=m) (n':=m+1) (by omega) (by omega)]
     try (rcases jS (m+1) c y.s r' with _|⟨f,r''⟩<;> rfl)
   ·simp only [if_neg hk]
theorem uE{x:Int}(h:x=44\/x=45\/x=46):¬ah x:=by unfold ah;omega
def zK(t:List Nd):Int:=if 200<t.length then 4 else if(kU t).isSome then 0 else 1
theorem cm{t:List Nd}:zK t=0↔t.length<=200/\∃k:Kd,k.valid/\t=k.flat:=by
 unfold zK;by_cases h:200<t.length
 ·rw [if_pos h];omega
 ·rw [if_neg h];rcases hr:kU t with _|k
  ·simp only [Option.isSome_none,Bool.false_eq_true,if_false];constructor
   ·intro q;omega
   ·rintro ⟨-,k,v,e⟩;rw [iP.2 ⟨v,e⟩] at hr;cases hr
  ·simp only [Option.isSome_some,if_true,true_iff];exact⟨by omega,k,iP.1 hr⟩
def SZ:Nat->Fl->List Nat
 | _,.nil => []
 | p,.cons _ _ k r=>p :: SZ (p+1+k.flat.length) r
theorem iN{a:Kd}:du a=true↔a = .base 48:=by
 cases a with
 | base x=>simp [du]
 | _=>simp [du]
theorem Is{a:Kd}:isNone a=true↔a = .base 49:=by
 cases a with
 | base x=>simp [isNone]
 | _=>simp [isNone]
theorem jm{x:Int}{b:Kd}:zO (.base x) b=true↔x=49\/b = .base 48\/b = .base x:=by
 simp only [zO,Bool.or_eq_true,beq_iff_eq,iN,or_assoc]
 cases b with
 | base y =>
  have e:x=y↔y=x:=eq_comm
  simp [e]
 | _=>simp
theorem ao{s:ByteArray}{b:Kd}:zO (.ent s) b=true↔b = .base 48\/b = .ent s:=by
 simp only [zO,Bool.or_eq_true,iN]
 cases b with
 | ent t =>
  have e:s=t↔t=s:=eq_comm
  simp [e]
 | _=>simp
theorem jB{p:Kd}{b:Kd}:zO (.set p) b=true↔b = .base 48\/∃q,b = .set q/\zO p q=true:=by
 simp only [zO,Bool.or_eq_true,iN]
 cases b with
 | set q=>simp
 | _=>simp
theorem jW{f:Fl}{b:Kd}:zO (.fs f) b=true↔b = .base 48\/∃g,b = .fs g/\fc f g=true/\kZ g f=true:=by
 simp only [zO,Bool.or_eq_true,iN]
 cases b with
 | fs g=>simp
 | _=>simp
def Zy(f g:Fl):Prop:=(∀s m k,f.find s=some (m,k)->∃m' k',g.find s=some (m',k')/\(m'=true->m=true)/\zO k k'=true)/\(∀s k,g.find s=some (true,k)->(f.find s).isSome=true)
theorem cZ{f g:Fl}(hf:f.asc)(hg:g.asc):fc f g=true/\kZ g f=true↔Zy f g:=by
 rw [km hf,mD hg];rfl
theorem cz:∀(n:Nat) (a b c:Kd),a.sz<=n->a.ok->b.ok->c.ok->zO a b=true->zO b c=true->zO a c=true
 | 0,a,_,_,h,_,_,_,_,_=>by cases a <;> simp [Kd.sz] at h
 | n+1,a,b,c,h,ha,hb,hc,h1,h2=>by
  have Uj:b = .base 48->c = .base 48:=λe=>by
   subst e;rcases jm.1 h2 with h3|h3|h3
   ·cases h3
   ·exact h3
   ·exact h3
  cases a with
  | base x =>
   rcases jm.1 h1 with rfl|h3|h3
   ·exact jm.2 (.inl rfl)
   ·exact jm.2 (.inr (.inl (Uj h3)))
   ·subst h3;exact h2
  | ent s =>
   rcases ao.1 h1 with h3|h3
   ·exact ao.2 (.inl (Uj h3))
   ·subst h3;exact h2
  | set p =>
   simp only [Kd.sz] at h
   rcases jB.1 h1 with h3|⟨q,rfl,h3⟩
   ·exact jB.2 (.inl (Uj h3))
   ·rcases jB.1 h2 with h4|⟨r,rfl,h4⟩
    ·exact jB.2 (.inl h4)
    ·exact jB.2 (.inr ⟨r,rfl,cz n p q r (by omega) ha hb hc h3 h4⟩)
  | fs f =>
   simp only [Kd.sz] at h
   rcases jW.1 h1 with h3|⟨g,rfl,h3⟩
   ·exact jW.2 (.inl (Uj h3))
   ·rcases jW.1 h2 with h4|⟨e,rfl,h4⟩
    ·exact jW.2 (.inl h4)
    ·obtain⟨p1,p2⟩:=(cZ ha.1 hb.1).1 h3;obtain⟨q1,q2⟩:=(cZ hb.1 hc.1).1 h4;refine jW.2 (.inr ⟨e,rfl,(cZ ha.1 hc.1).2 ⟨λs m k hf=>?_,λs k hf=>?_⟩⟩)
     ·obtain⟨m',k',hg,e1,e2⟩:=p1 s m k hf;obtain⟨m'',k'',he,e3,e4⟩:=q1 s m' k' hg;exact⟨m'',k'',he,λe=>e1 (e3 e),cz n k k' k'' (by have:=dM hf;omega) (bg ha.2 hf) (bg hb.2 hg) (bg hc.2 he) e2 e4⟩
     ·have h5:=q2 s k hf;rcases hg:g.find s with _|⟨m',k'⟩
      ·rw [hg] at h5;cases h5
      ·obtain⟨m'',k'',he,e3,-⟩:=q1 s m' k' hg;rw [hf] at he;injection he with he;injection he with he1 he2;have:=e3 he1.symm;subst this;exact p2 s k' hg
theorem Gn:∀(f g:Fl),f.asc->g.asc->(∀s,f.find s=g.find s)->f=g
 | .nil,.nil,_,_,_=>rfl
 | .nil,.cons s m k r,_,_,h=>by have:=h s;simp [Fl.find] at this
 | .cons s m k r,.nil,_,_,h=>by have:=h s;simp [Fl.find] at this
 | .cons s m k r,.cons t m' k' r',h1,h2,h=>by
  have hs:=h s;have ht:=h t;have e:s=t:=by
   simp only [Fl.find,if_pos] at hs ht;by_cases e:t=s
   ·exact e.symm
   ·rw [if_neg e] at hs;have l1:=gp h2 hs.symm;rw [if_neg (λq=>e q.symm)] at ht;have l2:=gp h1 ht;have:=zw.anti s t;omega
  subst e;simp only [Fl.find,if_pos,Option.some.injEq,Prod.mk.injEq] at hs;obtain⟨e1,e2⟩:=hs;have hr:r=r':=Gn r r' (bT h1) (bT h2) λx=>by
   have hx:=h x;simp only [Fl.find] at hx;by_cases e:s=x
   ·subst e;rcases hg:r.find s with _|v
    ·rcases yx:r'.find s with _|v'
     ·rfl
     ·have:=gp h2 yx;rw [zw.self] at this;omega
    ·have:=gp h1 hg;rw [zw.self] at this;omega
   ·rwa [if_neg e,if_neg e] at hx
  rw [e1,e2,hr]
theorem kL:∀(n:Nat) (a b:Kd),a.sz<=n->a.ok->b.ok->zO a b=true->zO b a=true->a=b
 | 0,a,_,h,_,_,_,_=>by cases a <;> simp [Kd.sz] at h
 | n+1,a,b,h,ha,hb,h1,h2=>by
  cases a with
  | base x =>
   rcases jm.1 h1 with rfl|h3|h3
   ·cases b with
    | base y =>
     rcases jm.1 h2 with h4|h4|h4
     ·rw [h4]
     ·cases h4
     ·exact h4
    | ent t=>rcases ao.1 h2 with h4|h4 <;> cases h4
    | set t=>rcases jB.1 h2 with h4|⟨q,h4,_⟩<;> cases h4
    | fs t=>rcases jW.1 h2 with h4|⟨q,h4,_⟩<;> cases h4
   ·subst h3
    rcases jm.1 h2 with h4|h4|h4
    ·cases h4
    ·exact h4
    ·exact h4
   ·exact h3.symm
  | ent s =>
   rcases ao.1 h1 with h3|h3
   ·subst h3
    rcases jm.1 h2 with h4|h4|h4 <;> cases h4
   ·exact h3.symm
  | set p =>
   simp only [Kd.sz] at h
   rcases jB.1 h1 with h3|⟨q,rfl,h3⟩
   ·subst h3
    rcases jm.1 h2 with h4|h4|h4 <;> cases h4
   ·rcases jB.1 h2 with h4|⟨r,h4,h5⟩
    ·cases h4
    ·injection h4 with h4;subst h4;rw [kL n p q (by omega) ha hb h3 h5]
  | fs f =>
   simp only [Kd.sz] at h
   rcases jW.1 h1 with h3|⟨g,rfl,h3⟩
   ·subst h3
    rcases jm.1 h2 with h4|h4|h4 <;> cases h4
   ·rcases jW.1 h2 with h4|⟨e,h4,h5⟩
    ·cases h4
    ·injection h4 with h4;subst h4;obtain⟨p1,-⟩:=(cZ ha.1 hb.1).1 h3;obtain⟨q1,-⟩:=(cZ hb.1 ha.1).1 h5;congr 1;refine Gn f g ha.1 hb.1 λs=>?_;rcases hf:f.find s with _|⟨m,k⟩
     ·rcases hg:g.find s with _|⟨m',k'⟩
      ·rfl
      ·obtain⟨_,_,e,_⟩:=q1 s m' k' hg;rw [hf] at e;cases e
     ·obtain⟨m',k',hg,e1,e2⟩:=p1 s m k hf;obtain⟨m2,k2,hf2,e3,e4⟩:=q1 s m' k' hg;rw [hf] at hf2;injection hf2 with hf2;injection hf2 with f1 f2;subst f1 f2;rw [hg,kL n k k' (by have:=dM hf;omega) (bg ha.2 hf) (bg hb.2 hg) e2 e4];have:m=m':=by cases m <;> cases m' <;> simp_all
      rw [this]
end Go.Wk
