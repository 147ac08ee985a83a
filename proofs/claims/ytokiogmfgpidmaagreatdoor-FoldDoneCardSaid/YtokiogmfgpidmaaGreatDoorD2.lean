/-
  Plain: the parts of sets and records; where a value ends hangs on its own nodes ..
-/
import Derived.Test.YtokiogmfgpidmaaGreatDoorD1
set_option maxRecDepth 100000
namespace Go.Wk
def zc2(f:Nat->Option Nat):Prop:=∀p e,f p=some e->p<e
theorem qb(v:List Nd)(m:Nat):zc2 (zl v m):=λp e h=>(jN m p e h).1
theorem Ul{v:List Nd}{f:Nat->Option Nat}(hf:zc2 f):∀k last p e,zY v f k last p=some e->p<=e:=by
 intro k
 induction k with
 | zero=>intro last p e h;simp only [zY,Option.some.injEq] at h;omega
 | succ k ih =>
  intro last p e h
  simp only [zY] at h
  split at h
  ·cases h
  ·rename_i q hq
   have:=hf p q hq;split at h
   ·have:=ih _ _ _ h;omega
   ·cases h
theorem UX{v:List Nd}{f:Nat->Option Nat}(hf:zc2 f):∀k last p e,zV v f k last p=some e->p<=e:=by
 intro k
 induction k with
 | zero=>intro last p e h;simp only [zV,Option.some.injEq] at h;omega
 | succ k ih =>
  intro last p e h
  simp only [zV] at h
  split at h
  ·cases h
  ·split at h
   ·cases h
   ·rename_i q hq;have:=hf _ q hq;have:=ih _ _ _ h;omega
def Nk(u v:List Nd)(a b L:Nat):Prop:=∀k,k<L->u[a+k]?=v[b+k]?
theorem Nk.symm{u v:List Nd}{a b L:Nat}(h:Nk u v a b L):Nk v u b a L:=λk hk=>(h k hk).symm
theorem Nk.seg{u v:List Nd}{a b L:Nat}(h:Nk u v a b L){i j:Nat}(hj:j<=L):seg u (a+i) (a+j)=seg v (b+i) (b+j):=by
 unfold Wk.seg;apply List.ext_getElem?;intro k;rw [List.getElem?_take,List.getElem?_take,show a+j-(a+i)=j-i by omega,show b+j-(b+i)=j-i by omega];by_cases hk:k<j-i
 ·rw [if_pos hk,if_pos hk,List.getElem?_drop,List.getElem?_drop,Nat.add_assoc,Nat.add_assoc];exact h (i+k) (by omega)
 ·rw [if_neg hk,if_neg hk]
section
variable {u v:List Nd} {a b L:Nat}
theorem PE(h:Nk u v a b L){f g:Nat->Option Nat}(hf:zc2 f)(hg:∀p e,f (a+p)=some (a+e)->e<=L->g (b+p)=some (b+e)):
 ∀k (lo:Option Nat) p e,(∀l,lo=some l->l<=p)->zY u f k (lo.map (a+·)) (a+p)=some (a+e)->e<=L->zY v g k (lo.map (b+·)) (b+p)=some (b+e):=by
 intro k
 induction k with
 | zero=>intro lo p e _ h1 h2;simp only [zY,Option.some.injEq] at h1 ⊢;omega
 | succ k ih =>
  intro lo p e SV h1 h2
  simp only [zY] at h1 ⊢
  split at h1
  ·cases h1
  ·rename_i q hq
   have hlt:=hf _ _ hq;obtain⟨s,rfl⟩:∃s,q=a+s:=⟨q-a,by omega⟩
   split at h1
   ·rename_i hr;have hge:=Ul hf _ _ _ _ h1;have hs:s<=L:=by omega
    rw [hg p s hq hs];simp only;have hr':Qc v (lo.map (b+·)) (b+p) (b+s)=true:=by
     rw [<-hr];rcases lo with _|l
     ·rfl
     ·have:=SV l rfl;simp only [Option.map_some,Qc];rw [h.seg (i:=l) (j:=p) (by omega),h.seg (i:=p) (j:=s) hs]
    rw [if_pos hr'];exact ih (some p) s e (λl hl=>by cases hl;omega) h1 h2
   ·cases h1
theorem XQ(h:Nk u v a b L){last:ByteArray}{p:Nat}(hp:p<L):bJ u last (a+p)=bJ v last (b+p):=by
 unfold bJ;rw [h p hp]
theorem Qp(h:Nk u v a b L){f g:Nat->Option Nat}(hf:zc2 f)(hg:∀p e,f (a+p)=some (a+e)->e<=L->g (b+p)=some (b+e)):
 ∀k (last:ByteArray) p e,zV u f k last (a+p)=some (a+e)->e<=L->zV v g k last (b+p)=some (b+e):=by
 intro k
 induction k with
 | zero=>intro last p e h1 h2;simp only [zV,Option.some.injEq] at h1 ⊢;omega
 | succ k ih =>
  intro last p e h1 h2
  simp only [zV] at h1 ⊢
  split at h1
  ·cases h1
  ·rename_i s hs
   split at h1
   ·cases h1
   ·rename_i q hq;have hlt:=hf _ _ hq;obtain⟨r,rfl⟩:∃r,q=a+r:=⟨q-a,by omega⟩
    have hge:=UX hf _ _ _ _ h1;rw [<-XQ h (by omega:p<L),hs];have:=hg (p+1) r (by rw [<-Nat.add_assoc];exact hq) (by omega);rw [<-Nat.add_assoc] at this;simp only [this];exact ih s r e h1 h2
theorem Pt(h:Nk u v a b L):∀m p e,zl u m (a+p)=some (a+e)->e<=L->zl v m (b+p)=some (b+e):=by
 intro m
 induction m with
 | zero=>intro p e h1 _;cases h1
 | succ m ih =>
  intro p e h1 h2
  have hlt:=(jN _ _ _ h1).1
  have hp:=h p (by omega)
  simp only [zl] at h1 ⊢
  rw [<-hp]
  split at h1
  ·cases h1
  ·rename_i x hx
   split at h1
   ·rename_i hs;simp only [hs,if_true];split at h1
    ·rename_i h5;rw [if_pos h5];have:=PE h (qb u m) ih x.n.toNat none (p+1) e (λl hl=>by cases hl) (by rw [<-Nat.add_assoc];exact h1) h2;rw [<-Nat.add_assoc] at this;exact this
    ·rename_i h5;rw [if_neg h5];split at h1
     ·rename_i h6;rw [if_pos h6];have:=Qp h (qb u m) ih x.n.toNat .empty (p+1) e (by rw [<-Nat.add_assoc];exact h1) h2;rw [<-Nat.add_assoc] at this;exact this
     ·rename_i h6;rw [if_neg h6];split at h1
      ·cases h1
      ·rename_i h7;rw [if_neg h7];simp only [Option.some.injEq] at h1 ⊢;omega
   ·cases h1
end
theorem MS{v:List Nd}{f g:Nat->Option Nat}(hf:zc2 f){q0:Nat}(h:∀r,q0<=r->f r=g r):∀k lo q,q0<=q->zY v f k lo q=zY v g k lo q:=by
 intro k
 induction k with
 | zero=>intro lo q _;rfl
 | succ k ih =>
  intro lo q hq
  simp only [zY]
  rw [<-h q hq]
  split
  ·rfl
  ·rename_i e he
   have:=hf _ _ he;rw [ih _ e (by omega)]
theorem MW{v:List Nd}{f g:Nat->Option Nat}(hf:zc2 f){q0:Nat}(h:∀r,q0<=r->f r=g r):∀k lo q,q0<=q->zV v f k lo q=zV v g k lo q:=by
 intro k
 induction k with
 | zero=>intro lo q _;rfl
 | succ k ih =>
  intro lo q hq
  simp only [zV]
  split
  ·rfl
  ·rw [<-h (q+1) (by omega)]
   split
   ·rfl
   ·rename_i e he;have:=hf _ _ he;rw [ih _ e (by omega)]
theorem E4{v:List Nd}:∀m m' p,v.length-p<m->v.length-p<m'->zl v m p=zl v m' p:=by
 intro m
 induction m with
 | zero=>intro m' p h;omega
 | succ m ih =>
  intro m' p h1 h2
  obtain⟨k,rfl⟩:∃k,m'=k+1:=⟨m'-1,by omega⟩
  simp only [zl]
  by_cases hp:p<v.length
  ·rw [List.getElem?_eq_getElem hp]
   simp only;have hs:=MS (v:=v) (qb v m) (q0:=p+1) (λr hr=>ih k r (by omega) (by omega));have hr:=MW (v:=v) (qb v m) (q0:=p+1) (λr hr=>ih k r (by omega) (by omega));rw [hs _ _ _ (Nat.le_refl _),hr _ _ _ (Nat.le_refl _)]
  ·rw [List.getElem?_eq_none (by omega)]
def IsV(P:List Nd):Prop:=zl P (P.length+1) 0=some P.length
theorem zH{P:List Nd}:zc P=0↔P.length<=200/\IsV P:=by
 unfold zc IsV;by_cases h:200<P.length
 ·rw [if_pos h];omega
 ·rw [if_neg h];by_cases hv:zl P (P.length+1) 0=some P.length
  ·rw [if_pos hv];exact⟨λ_=>⟨by omega,hv⟩,λ_=>rfl⟩
  ·rw [if_neg hv];exact⟨λq=>by omega,λq=>absurd q.2 hv⟩
theorem IsV.pos{P:List Nd}(h:IsV P):0<P.length:=(jN _ _ _ h).1
theorem ziu{v:List Nd}{p e k:Nat}(hk:k<e-p):(seg v p e)[k]?=v[p+k]?:=by
 unfold seg;rw [List.getElem?_take,if_pos hk,List.getElem?_drop]
theorem TK(v:List Nd):Nk v v 0 0 v.length:=λ_ _=>rfl
theorem Qq{v:List Nd}:∀m m' p e,m<=m'->zl v m p=some e->zl v m' p=some e:=by
 intro m
 induction m with
 | zero=>intro m' p e _ h;cases h
 | succ m ih =>
  intro m' p e hm h
  have hle:=(jN _ _ _ h).2
  obtain⟨k,rfl⟩:∃k,m'=k+1:=⟨m'-1,by omega⟩
  have ihk:∀p e,zl v m (0+p)=some (0+e)->e<=v.length->zl v k (0+p)=some (0+e):=λp e h _=>by
   simp only [Nat.zero_add] at h ⊢;exact ih k p e (by omega) h
  have hS:=PE (TK v) (qb v m) ihk
  have hR:=Qp (TK v) (qb v m) ihk
  simp only [Nat.zero_add] at hS hR
  rcases hx:v[p]? with _|x
  ·simp only [zl,hx] at h;cases h
  ·simp only [zl,hx] at h ⊢
   by_cases hs:zq x=true
   ·rw [if_pos hs] at h ⊢;by_cases h5:x.op=5
    ·rw [if_pos h5] at h ⊢;have:=hS x.n.toNat none (p+1) e (λl hl=>by cases hl) h hle;exact this
    ·rw [if_neg h5] at h ⊢;by_cases h6:x.op=6
     ·rw [if_pos h6] at h ⊢;exact hR _ _ _ _ h hle
     ·rw [if_neg h6] at h ⊢;exact h
   ·rw [if_neg hs] at h;cases h
theorem zey{v:List Nd}{m p e:Nat}(h:zl v m p=some e):IsV (seg v p e):=by
 have hle:=jN _ _ _ h;have hl:(seg v p e).length=e-p:=jL hle.2;have hA:Nk v (seg v p e) p 0 (e-p):=λk hk=>by rw [Nat.zero_add,ziu hk]
 have:=Pt hA m 0 (e-p) (by rw [Nat.add_zero,h];congr 1;omega) (Nat.le_refl _);unfold IsV;rw [hl];have h2:zl (seg v p e) m 0=some (e-p):=by simpa using this
 have h3:=Qq m (m+(e-p)+1) 0 (e-p) (by omega) h2;rw [<-h3];exact E4 _ _ _ (by omega) (by omega)
theorem zhU{v Q:List Nd}{p m:Nat}(hQ:IsV Q)(_hp:p+Q.length<=v.length)(hs:seg v p (p+Q.length)=Q)(hm:v.length-p<m):zl v m p=some (p+Q.length):=by
 have hA:Nk Q v 0 p Q.length:=λk hk=>by
  rw [Nat.zero_add,<-ziu (e:=p+Q.length) (by omega),hs]
 have h1:=Qq _ (m+Q.length+1) _ _ (by omega) hQ;have:=Pt hA _ 0 Q.length (by simpa using h1) (Nat.le_refl _);rw [Nat.add_zero] at this;rw [<-this];exact E4 _ _ _ (by omega) (by omega)
theorem Ga{s:ByteArray}(h:noB s=true):s=⟨#[]⟩:=by
 unfold noB at h;exact ql (List.eq_nil_of_length_eq_zero (by rw [Array.length_toList];exact of_decide_eq_true h))
def kn(v:List Nd)(f:Nat->Option Nat):Nat->Nat->List (List Nd)
 | 0,_ => []
 | k+1,p =>
  match f p with
  | none => []
  | some e=>seg v p e :: kn v f k e
def zfl(v:List Nd)(p:Nat):ByteArray :=
 match v[p]? with
 | none => .empty
 | some x=>x.s
def lS(v:List Nd)(f:Nat->Option Nat):Nat->Nat->List (ByteArray × List Nd)
 | 0,_ => []
 | k+1,p =>
  match f (p+1) with
  | none => []
  | some e=>(zfl v p,seg v (p+1) e):: lS v f k e
def Qk:List Nd->Nat
 | []=>0
 | x :: _=>x.n.toNat
def zf:List Nd->Int
 | []=>0
 | x :: _=>x.op
def zg(P:List Nd):List (List Nd):=kn P (zl P (P.length+1)) (Qk P) 1
def zo(P:List Nd):List (ByteArray × List Nd):=lS P (zl P (P.length+1)) (Qk P) 1
def Up:List (List Nd)->Prop
 | []=>True
 | [_]=>True
 | a :: b :: r=>zu a b<0/\Up (b :: r)
def Nr(o:Option (List Nd))(l:List (List Nd)):Prop:=match o with|none=>Up l|some a=>Up (a :: l)
def bX(s:ByteArray):Nd:=⟨7,0,s,⟨#[]⟩⟩
def zw:List (ByteArray × List Nd)->List Nd
 | [] => []
 | x :: r=>bX x.1 ::(x.2 ++ zw r)
def UpB(last:ByteArray):List (ByteArray × List Nd)->Prop
 | []=>True
 | x :: r=>jh last x.1<0/\UpB x.1 r
theorem Mf{v:List Nd}{p q e:Nat}(h1:p<=q)(h2:q<=e):seg v p q ++ seg v q e=seg v p e:=by
 unfold seg;rw [show e-p=(q-p)+(e-q) by omega,List.take_add,List.drop_drop,show p+(q-p)=q by omega]
theorem zaH(v:List Nd)(p:Nat):seg v p p = []:=by unfold seg;simp
theorem ZN{v:List Nd}{p e:Nat}(h:p<v.length)(h2:p<e):seg v p e=v[p] :: seg v (p+1) e:=by
 unfold seg;rw [List.drop_eq_getElem_cons h,show e-p=(e-(p+1))+1 by omega,List.take_succ_cons]
theorem Te(v:List Nd)(p:Nat):seg v p v.length=v.drop p:=by
 unfold seg;rw [List.take_of_length_le (by simp)]
theorem WE{v:List Nd}{m:Nat}:∀k lo p e,(∀l,lo=some l->l<=p)->p<=v.length->zY v (zl v m) k lo p=some e->
 (kn v (zl v m) k p).length=k/\(kn v (zl v m) k p).flatten=seg v p e/\(∀Q∈kn v (zl v m) k p,IsV Q)/\Nr (lo.map λl=>seg v l p) (kn v (zl v m) k p):=by
 intro k
 induction k with
 | zero =>
  intro lo p e _ _ h
  simp only [zY,Option.some.injEq] at h
  subst h
  refine⟨rfl,by rw [zaH];rfl,(λQ h=>by cases h),?_⟩
  rcases lo with _|l <;> trivial
 | succ k ih =>
  intro lo p e SV hp h
  simp only [zY] at h
  simp only [kn]
  split at h
  ·cases h
  ·rename_i q hq
   have hle:=jN _ _ _ hq;split at h
   ·rename_i hr;obtain⟨h1,h2,h3,h4⟩:=ih (some p) q e (λl hl=>by cases hl;omega) hle.2 h;have hge:=Ul (qb v m) _ _ _ _ h;(try rw [hq]);refine⟨by simp [h1],?_,?_,?_⟩
    ·rw [List.flatten_cons,h2,Mf (by omega) hge]
    ·intro Q hQ;rcases List.mem_cons.1 hQ with rfl|hQ
     ·exact zey hq
     ·exact h3 Q hQ
    ·simp only [Option.map_some,Nr] at h4;rcases lo with _|l
     ·exact h4
     ·simp only [Qc,decide_eq_true_eq] at hr;exact⟨hr,h4⟩
   ·cases h
theorem zed{v:List Nd}{m:Nat}:∀(L:List (List Nd)) lo p e,(∀l,lo=some l->l<=p)->e<=v.length->p<=e->seg v p e=L.flatten->(∀Q∈L,IsV Q)->Nr (lo.map λl=>seg v l p) L->v.length-p<m->
 zY v (zl v m) L.length lo p=some e/\kn v (zl v m) L.length p=L:=by
 intro L
 induction L with
 | nil =>
  intro lo p e _ h1 h2 h3 _ _ _
  have hl:=congrArg List.length h3
  rw [jL h1] at hl
  simp at hl
  simp only [List.length_nil,zY,kn,and_true]
  congr 1;omega
 | cons Q L ih =>
  intro lo p e SV h1 h2 h3 h4 h5 h6
  have hQ:=h4 Q (by simp)
  rw [List.flatten_cons] at h3
  have hl:=congrArg List.length h3
  rw [jL h1,List.length_append] at hl
  have hq:seg v p (p+Q.length)=Q:=by
   have:=Mf (v:=v) (p:=p) (q:=p+Q.length) (e:=e) (by omega) (by omega);rw [h3] at this;exact(List.append_inj this (by rw [jL (by omega)];omega)).1
  have hq2:seg v (p+Q.length) e=L.flatten:=by
   have:=Mf (v:=v) (p:=p) (q:=p+Q.length) (e:=e) (by omega) (by omega);rw [h3] at this;exact(List.append_inj this (by rw [jL (by omega)];omega)).2
  have hpos:=hQ.pos
  have hend:=zhU hQ (by omega) hq h6
  have hup:Nr ((some p).map λl=>seg v l (p+Q.length)) L:=by
   simp only [Option.map_some,Nr,hq];rcases lo with _|l
   ·simp only [Option.map_none,Nr] at h5;exact h5
   ·simp only [Option.map_some,Nr] at h5;exact h5.2
  have hr:Qc v lo p (p+Q.length)=true:=by
   rcases lo with _|l
   ·rfl
   ·simp only [Option.map_some,Nr] at h5;simp only [Qc,hq,decide_eq_true_eq];exact h5.1
  obtain⟨g1,g2⟩:=ih (some p) (p+Q.length) e (λl hl=>by cases hl;omega) h1 (by omega) hq2 (λQ' h=>h4 Q' (by simp [h])) hup (by omega)
  simp only [List.length_cons,zY,kn,hend,hr,if_true]
  exact⟨g1,by rw [g2,hq]⟩
theorem VP{v:List Nd}{m:Nat}:∀k last p e,p<=v.length->zV v (zl v m) k last p=some e->
 (lS v (zl v m) k p).length=k/\zw (lS v (zl v m) k p)=seg v p e/\(∀x∈lS v (zl v m) k p,IsV x.2/\zh x.1=0)/\UpB last (lS v (zl v m) k p):=by
 intro k
 induction k with
 | zero =>
  intro last p e _ h
  simp only [zV,Option.some.injEq] at h
  subst h
  exact⟨rfl,by rw [zaH];rfl,(λQ h=>by cases h),trivial⟩
 | succ k ih =>
  intro last p e hp h
  simp only [zV] at h
  simp only [lS]
  split at h
  ·cases h
  ·rename_i s hs
   split at h
   ·cases h
   ·rename_i q hq;have hle:=jN _ _ _ hq;obtain⟨h1,h2,h3,h4⟩:=ih s q e hle.2 h;have hge:=UX (qb v m) _ _ _ _ h;unfold bJ at hs;split at hs
    ·cases hs
    ·rename_i x hx;split at hs
     ·rename_i hc;simp only [Option.some.injEq] at hs;subst hs;simp only [Bool.and_eq_true,decide_eq_true_eq] at hc;obtain⟨⟨c1,c2⟩,c3⟩:=hc;have hsh:=c2;unfold zq at hsh;rw [c1] at hsh;simp at hsh;obtain⟨⟨n1,n2⟩,n3⟩:=hsh;have VE:zfl v p=x.s:=by unfold zfl;rw [hx]
      have Iy:p<v.length:=(List.getElem?_eq_some_iff.1 hx).1;have hxe:v[p]=x:=by rw [List.getElem?_eq_getElem Iy] at hx;injection hx
      have hxf:x=bX x.s:=Nd.ext4 c1 n1 rfl (Ga n2);(try rw [hq]);(try simp only);refine⟨by simp [h1],?_,?_,?_⟩
      ·rw [zw,h2,VE,Mf (by omega) hge,ZN Iy (by omega),hxe,<-hxf]
      ·intro y hy;rcases List.mem_cons.1 hy with rfl|hy
       ·exact⟨zey hq,by rw [VE];exact n3⟩
       ·exact h3 y hy
      ·simp only [UpB,VE];exact⟨c3,h4⟩
     ·cases hs
theorem We{s:ByteArray}(h:zh s=0):zq (bX s)=true:=by
 unfold zq bX;simp [h,noB];rfl
theorem zds{v:List Nd}{m:Nat}:∀(L:List (ByteArray × List Nd)) last p e,e<=v.length->p<=e->seg v p e=zw L->(∀x∈L,IsV x.2/\zh x.1=0)->UpB last L->v.length-p<m->
 zV v (zl v m) L.length last p=some e/\lS v (zl v m) L.length p=L:=by
 intro L
 induction L with
 | nil =>
  intro last p e h1 h2 h3 _ _ _
  have hl:=congrArg List.length h3
  rw [jL h1] at hl
  simp [zw] at hl
  simp only [List.length_nil,zV,lS,and_true]
  congr 1;omega
 | cons x L ih =>
  intro last p e h1 h2 h3 h4 h5 h6
  obtain⟨hQ,hN⟩:=h4 x (by simp)
  rw [zw] at h3
  have hl:=congrArg List.length h3
  rw [jL h1,List.length_cons,List.length_append] at hl
  have Iy:p<v.length:=by omega
  rw [ZN Iy (by omega)] at h3
  injection h3 with e1 e2
  have hq:seg v (p+1) (p+1+x.2.length)=x.2:=by
   have:=Mf (v:=v) (p:=p+1) (q:=p+1+x.2.length) (e:=e) (by omega) (by omega);rw [e2] at this;exact(List.append_inj this (by rw [jL (by omega)];omega)).1
  have hq2:seg v (p+1+x.2.length) e=zw L:=by
   have:=Mf (v:=v) (p:=p+1) (q:=p+1+x.2.length) (e:=e) (by omega) (by omega);rw [e2] at this;exact(List.append_inj this (by rw [jL (by omega)];omega)).2
  have hend:=zhU hQ (by omega) hq (m:=m) (by omega)
  have VE:zfl v p=x.1:=by unfold zfl;rw [List.getElem?_eq_getElem Iy,e1];rfl
  have hf:bJ v last p=some x.1:=by
   unfold bJ;rw [List.getElem?_eq_getElem Iy,e1];simp only [We hN];have:decide (jh last (bX x.1).s<0)=true:=decide_eq_true h5.1;rw [this];rfl
  obtain⟨g1,g2⟩:=ih x.1 (p+1+x.2.length) e h1 (by omega) hq2 (λy h=>h4 y (by simp [h])) h5.2 (by omega)
  simp only [List.length_cons,zV,lS,hend,hf]
  exact⟨g1,by rw [g2,hq,VE]⟩
def jm(n:Int):Nd:=⟨5,n,⟨#[]⟩,⟨#[]⟩⟩
def zG(n:Int):Nd:=⟨6,n,⟨#[]⟩,⟨#[]⟩⟩
theorem NE(x:Nd)(r:List Nd):zf (x :: r)=x.op:=rfl
theorem Um(x:Nd)(r:List Nd):Qk (x :: r)=x.n.toNat:=rfl
theorem ER{P:List Nd}(h:IsV P)(h5:zf P=5):
 P=jm (zg P).length ::(zg P).flatten/\(zg P).length=Qk P/\(∀Q∈zg P,IsV Q)/\Up (zg P):=by
 have hpos:=h.pos;unfold IsV at h;rcases P with _|⟨x,r⟩
 ·simp at hpos
 have h5':x.op=5:=h5;simp only [zl,List.getElem?_cons_zero] at h;by_cases hs:zq x=true
 ·rw [if_pos hs,if_pos h5'] at h;unfold zq at hs;rw [h5'] at hs;simp at hs;have hx:x=jm x.n:=Nd.ext4 h5' rfl (Ga hs.1.2) (Ga hs.2);have h':zY (x :: r) (zl (x :: r) ((x :: r).length+1)) x.n.toNat none 1=some (x :: r).length:=by
   rw [<-h];exact(MS (qb _ _) (q0:=1) (λq hq=>E4 _ _ _ (by simp only [List.length_cons];omega) (by simp only [List.length_cons];omega)) _ _ _ (Nat.le_refl _))
  obtain⟨g1,g2,g3,g4⟩:=WE _ none 1 _ (λl hl=>by cases hl) (by simp) h';have e:zg (x :: r)=kn (x :: r) (zl (x :: r) ((x :: r).length+1)) x.n.toNat 1:=rfl;rw [<-e] at g1 g2 g3 g4;refine⟨?_,g1,g3,g4⟩;rw [g2,Te,g1,Int.toNat_of_nonneg hs.1.1,<-hx];rfl
 ·rw [if_neg hs] at h;cases h
theorem zkM{L:List (List Nd)}(h:∀Q∈L,IsV Q)(hu:Up L):IsV (jm L.length :: L.flatten)/\zg (jm L.length :: L.flatten)=L:=by
 have hs:zq (jm L.length)=true:=by unfold zq jm;simp [noB];rfl
 have key:=λm hm=>zed (v:=jm L.length :: L.flatten) (m:=m) L none 1 (L.flatten.length+1) (λl hl=>by cases hl) (by simp) (by omega) (by
  have:=Te (jm L.length :: L.flatten) 1
  simpa using this) h hu hm
 refine⟨?_,?_⟩
 ·unfold IsV;simp only [zl,List.getElem?_cons_zero,hs,if_true];have h5:(jm L.length).op=5:=rfl;rw [if_pos h5];exact(key _ (by simp only [List.length_cons];omega)).1
 ·unfold zg;rw [Um];exact(key _ (by simp only [List.length_cons];omega)).2
theorem Kh{P:List Nd}(h:IsV P)(h6:zf P=6):
 P=zG (zo P).length :: zw (zo P)/\(zo P).length=Qk P/\(∀x∈zo P,IsV x.2/\zh x.1=0)/\UpB .empty (zo P):=by
 have hpos:=h.pos;unfold IsV at h;rcases P with _|⟨x,r⟩
 ·simp at hpos
 have h6':x.op=6:=h6;simp only [zl,List.getElem?_cons_zero] at h;by_cases hs:zq x=true
 ·rw [if_pos hs,if_neg (by omega),if_pos h6'] at h;unfold zq at hs;rw [h6'] at hs;simp at hs;have hx:x=zG x.n:=Nd.ext4 h6' rfl (Ga hs.1.2) (Ga hs.2);have h':zV (x :: r) (zl (x :: r) ((x :: r).length+1)) x.n.toNat .empty 1=some (x :: r).length:=by
   rw [<-h];exact(MW (qb _ _) (q0:=1) (λq hq=>E4 _ _ _ (by simp only [List.length_cons];omega) (by simp only [List.length_cons];omega)) _ _ _ (Nat.le_refl _))
  obtain⟨g1,g2,g3,g4⟩:=VP _ .empty 1 _ (by simp) h';have e:zo (x :: r)=lS (x :: r) (zl (x :: r) ((x :: r).length+1)) x.n.toNat 1:=rfl;rw [<-e] at g1 g2 g3 g4;refine⟨?_,g1,g3,g4⟩;rw [g2,Te,g1,Int.toNat_of_nonneg hs.1.1,<-hx];rfl
 ·rw [if_neg hs] at h;cases h
theorem zlI{L:List (ByteArray × List Nd)}(h:∀x∈L,IsV x.2/\zh x.1=0)(hu:UpB .empty L):IsV (zG L.length :: zw L)/\zo (zG L.length :: zw L)=L:=by
 have hs:zq (zG L.length)=true:=by unfold zq zG;simp [noB];rfl
 have key:=λm hm=>zds (v:=zG L.length :: zw L) (m:=m) L .empty 1 ((zw L).length+1) (by simp) (by omega) (by
  have:=Te (zG L.length :: zw L) 1
  simpa using this) h hu hm
 refine⟨?_,?_⟩
 ·unfold IsV;simp only [zl,List.getElem?_cons_zero,hs,if_true];have h6:(zG L.length).op=6:=rfl;rw [if_neg (by rw [h6];omega),if_pos h6];exact(key _ (by simp only [List.length_cons];omega)).1
 ·unfold zo;rw [Um];exact(key _ (by simp only [List.length_cons];omega)).2
theorem za2{P:List Nd}(h:IsV P)(h5:zf P=5):zY P (zl P (P.length+1)) (Qk P) none 1=some P.length/\∃hp:0<P.length,P[0].op=5/\0<=P[0].n/\Qk P=P[0].n.toNat:=by
 have hpos:=h.pos;unfold IsV at h;rcases P with _|⟨x,r⟩
 ·simp at hpos
 have h5':x.op=5:=h5;simp only [zl,List.getElem?_cons_zero] at h;by_cases hs:zq x=true
 ·rw [if_pos hs,if_pos h5'] at h;unfold zq at hs;rw [h5'] at hs;simp at hs;refine⟨?_,hpos,h5',hs.1.1,rfl⟩;rw [<-h];exact(MS (qb _ _) (q0:=1) (λq hq=>E4 _ _ _ (by simp only [List.length_cons];omega) (by simp only [List.length_cons];omega)) _ _ _ (Nat.le_refl _))
 ·rw [if_neg hs] at h;cases h
theorem zb5{P:List Nd}(h:IsV P)(h6:zf P=6):zV P (zl P (P.length+1)) (Qk P) .empty 1=some P.length/\∃hp:0<P.length,P[0].op=6/\0<=P[0].n/\Qk P=P[0].n.toNat:=by
 have hpos:=h.pos;unfold IsV at h;rcases P with _|⟨x,r⟩
 ·simp at hpos
 have h6':x.op=6:=h6;simp only [zl,List.getElem?_cons_zero] at h;by_cases hs:zq x=true
 ·rw [if_pos hs,if_neg (by omega),if_pos h6'] at h;unfold zq at hs;rw [h6'] at hs;simp at hs;refine⟨?_,hpos,h6',hs.1.1,rfl⟩;rw [<-h];exact(MW (qb _ _) (q0:=1) (λq hq=>E4 _ _ _ (by simp only [List.length_cons];omega) (by simp only [List.length_cons];omega)) _ _ _ (Nat.le_refl _))
 ·rw [if_neg hs] at h;cases h
def IZ:List (List Nd)->Int
 | []=>0
 | P :: r=>or2 (zc P) (IZ r)
end Go.Wk
