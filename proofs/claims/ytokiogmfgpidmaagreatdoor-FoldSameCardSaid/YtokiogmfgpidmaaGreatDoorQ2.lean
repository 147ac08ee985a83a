/-
  Plain: the parts of sets and records; where a value ends hangs on its own nodes ..
-/
import Derived.Test.YtokiogmfgpidmaaGreatDoorQ1
set_option maxRecDepth 100000
namespace Go.Wk
def wa(f:Nat->Option Nat):Prop:=∀p e,f p=some e->p<e
theorem j8(v:List Nd)(m:Nat):wa (zm v m):=λp e h=>(jJ m p e h).1
theorem m0{v:List Nd}{f:Nat->Option Nat}(hf:wa f):∀k last p e,zX v f k last p=some e->p<=e:=by
 intro k
 induction k with
 | zero=>intro last p e h;simp only [zX,Option.some.injEq] at h;omega
 | succ k ih =>
  intro last p e h
  simp only [zX] at h
  split at h
  ·cases h
  ·rename_i q hq
   have:=hf p q hq;split at h
   ·have:=ih _ _ _ h;omega
   ·cases h
theorem nW{v:List Nd}{f:Nat->Option Nat}(hf:wa f):∀k last p e,zW v f k last p=some e->p<=e:=by
 intro k
 induction k with
 | zero=>intro last p e h;simp only [zW,Option.some.injEq] at h;omega
 | succ k ih =>
  intro last p e h
  simp only [zW] at h
  split at h
  ·cases h
  ·split at h
   ·cases h
   ·rename_i q hq;have:=hf _ q hq;have:=ih _ _ _ h;omega
def eW(u v:List Nd)(a b L:Nat):Prop:=∀k,k<L->u[a+k]?=v[b+k]?
theorem eW.symm{u v:List Nd}{a b L:Nat}(h:eW u v a b L):eW v u b a L:=λk hk=>(h k hk).symm
theorem eW.seg{u v:List Nd}{a b L:Nat}(h:eW u v a b L){i j:Nat}(hj:j<=L):seg u (a+i) (a+j)=seg v (b+i) (b+j):=by
 unfold Wk.seg;apply List.ext_getElem?;intro k;rw [List.getElem?_take,List.getElem?_take,show a+j-(a+i)=j-i by omega,show b+j-(b+i)=j-i by omega];by_cases hk:k<j-i
 ·rw [if_pos hk,if_pos hk,List.getElem?_drop,List.getElem?_drop,Nat.add_assoc,Nat.add_assoc];exact h (i+k) (by omega)
 ·rw [if_neg hk,if_neg hk]
section
variable {u v:List Nd} {a b L:Nat}
theorem im(h:eW u v a b L){f g:Nat->Option Nat}(hf:wa f)(hg:∀p e,f (a+p)=some (a+e)->e<=L->g (b+p)=some (b+e)):
 ∀k (lo:Option Nat) p e,(∀l,lo=some l->l<=p)->zX u f k (lo.map (a+·)) (a+p)=some (a+e)->e<=L->zX v g k (lo.map (b+·)) (b+p)=some (b+e):=by
 intro k
 induction k with
 | zero=>intro lo p e _ h1 h2;simp only [zX,Option.some.injEq] at h1 ⊢;omega
 | succ k ih =>
  intro lo p e CM h1 h2
  simp only [zX] at h1 ⊢
  split at h1
  ·cases h1
  ·rename_i q hq
   have hlt:=hf _ _ hq;obtain⟨s,rfl⟩:∃s,q=a+s:=⟨q-a,by omega⟩
   split at h1
   ·rename_i hr;have MC:=m0 hf _ _ _ _ h1;have hs:s<=L:=by omega
    rw [hg p s hq hs];simp only;have Iy:k6 v (lo.map (b+·)) (b+p) (b+s)=true:=by
     rw [<-hr];rcases lo with _|l
     ·rfl
     ·have:=CM l rfl;simp only [Option.map_some,k6];rw [h.seg (i:=l) (j:=p) (by omega),h.seg (i:=p) (j:=s) hs]
    rw [if_pos Iy];exact ih (some p) s e (λl hl=>by cases hl;omega) h1 h2
   ·cases h1
theorem qM(h:eW u v a b L){last:ByteArray}{p:Nat}(hp:p<L):jV u last (a+p)=jV v last (b+p):=by
 unfold jV;rw [h p hp]
theorem iR(h:eW u v a b L){f g:Nat->Option Nat}(hf:wa f)(hg:∀p e,f (a+p)=some (a+e)->e<=L->g (b+p)=some (b+e)):
 ∀k (last:ByteArray) p e,zW u f k last (a+p)=some (a+e)->e<=L->zW v g k last (b+p)=some (b+e):=by
 intro k
 induction k with
 | zero=>intro last p e h1 h2;simp only [zW,Option.some.injEq] at h1 ⊢;omega
 | succ k ih =>
  intro last p e h1 h2
  simp only [zW] at h1 ⊢
  split at h1
  ·cases h1
  ·rename_i s hs
   split at h1
   ·cases h1
   ·rename_i q hq;have hlt:=hf _ _ hq;obtain⟨r,rfl⟩:∃r,q=a+r:=⟨q-a,by omega⟩
    have MC:=nW hf _ _ _ _ h1;rw [<-qM h (by omega:p<L),hs];have:=hg (p+1) r (by rw [<-Nat.add_assoc];exact hq) (by omega);rw [<-Nat.add_assoc] at this;simp only [this];exact ih s r e h1 h2
theorem ir(h:eW u v a b L):∀m p e,zm u m (a+p)=some (a+e)->e<=L->zm v m (b+p)=some (b+e):=by
 intro m
 induction m with
 | zero=>intro p e h1 _;cases h1
 | succ m ih =>
  intro p e h1 h2
  have hlt:=(jJ _ _ _ h1).1
  have hp:=h p (by omega)
  simp only [zm] at h1 ⊢
  rw [<-hp]
  split at h1
  ·cases h1
  ·rename_i x hx
   split at h1
   ·rename_i hs;simp only [hs,if_true];split at h1
    ·rename_i h5;rw [if_pos h5];have:=im h (j8 u m) ih x.n.toNat none (p+1) e (λl hl=>by cases hl) (by rw [<-Nat.add_assoc];exact h1) h2;rw [<-Nat.add_assoc] at this;exact this
    ·rename_i h5;rw [if_neg h5];split at h1
     ·rename_i h6;rw [if_pos h6];have:=iR h (j8 u m) ih x.n.toNat .empty (p+1) e (by rw [<-Nat.add_assoc];exact h1) h2;rw [<-Nat.add_assoc] at this;exact this
     ·rename_i h6;rw [if_neg h6];split at h1
      ·cases h1
      ·rename_i h7;rw [if_neg h7];simp only [Option.some.injEq] at h1 ⊢;omega
   ·cases h1
end
theorem eN{v:List Nd}{f g:Nat->Option Nat}(hf:wa f){q0:Nat}(h:∀r,q0<=r->f r=g r):∀k lo q,q0<=q->zX v f k lo q=zX v g k lo q:=by
 intro k
 induction k with
 | zero=>intro lo q _;rfl
 | succ k ih =>
  intro lo q hq
  simp only [zX]
  rw [<-h q hq]
  split
  ·rfl
  ·rename_i e he
   have:=hf _ _ he;rw [ih _ e (by omega)]
theorem eJ{v:List Nd}{f g:Nat->Option Nat}(hf:wa f){q0:Nat}(h:∀r,q0<=r->f r=g r):∀k lo q,q0<=q->zW v f k lo q=zW v g k lo q:=by
 intro k
 induction k with
 | zero=>intro lo q _;rfl
 | succ k ih =>
  intro lo q hq
  simp only [zW]
  split
  ·rfl
  ·rw [<-h (q+1) (by omega)]
   split
   ·rfl
   ·rename_i e he;have:=hf _ _ he;rw [ih _ e (by omega)]
theorem bg{v:List Nd}:∀m m' p,v.length-p<m->v.length-p<m'->zm v m p=zm v m' p:=by
 intro m
 induction m with
 | zero=>intro m' p h;omega
 | succ m ih =>
  intro m' p h1 h2
  obtain⟨k,rfl⟩:∃k,m'=k+1:=⟨m'-1,by omega⟩
  simp only [zm]
  by_cases hp:p<v.length
  ·rw [List.getElem?_eq_getElem hp]
   simp only;have hs:=eN (v:=v) (j8 v m) (q0:=p+1) (λr hr=>ih k r (by omega) (by omega));have hr:=eJ (v:=v) (j8 v m) (q0:=p+1) (λr hr=>ih k r (by omega) (by omega));rw [hs _ _ _ (Nat.le_refl _),hr _ _ _ (Nat.le_refl _)]
  ·rw [List.getElem?_eq_none (by omega)]
def IsV(P:List Nd):Prop:=zm P (P.length+1) 0=some P.length
theorem zH{P:List Nd}:zc P=0↔P.length<=200/\IsV P:=by
 unfold zc IsV;by_cases h:200<P.length
 ·rw [if_pos h];omega
 ·rw [if_neg h];by_cases hv:zm P (P.length+1) 0=some P.length
  ·rw [if_pos hv];exact⟨λ_=>⟨by omega,hv⟩,λ_=>rfl⟩
  ·rw [if_neg hv];exact⟨λq=>by omega,λq=>absurd q.2 hv⟩
theorem IsV.pos{P:List Nd}(h:IsV P):0<P.length:=(jJ _ _ _ h).1
theorem EO{v:List Nd}{p e k:Nat}(hk:k<e-p):(seg v p e)[k]?=v[p+k]?:=by
 unfold seg;rw [List.getElem?_take,if_pos hk,List.getElem?_drop]
theorem nF(v:List Nd):eW v v 0 0 v.length:=λ_ _=>rfl
theorem iy{v:List Nd}:∀m m' p e,m<=m'->zm v m p=some e->zm v m' p=some e:=by
 intro m
 induction m with
 | zero=>intro m' p e _ h;cases h
 | succ m ih =>
  intro m' p e hm h
  have hle:=(jJ _ _ _ h).2
  obtain⟨k,rfl⟩:∃k,m'=k+1:=⟨m'-1,by omega⟩
  have ihk:∀p e,zm v m (0+p)=some (0+e)->e<=v.length->zm v k (0+p)=some (0+e):=λp e h _=>by
   simp only [Nat.zero_add] at h ⊢;exact ih k p e (by omega) h
  have hS:=im (nF v) (j8 v m) ihk
  have hR:=iR (nF v) (j8 v m) ihk
  simp only [Nat.zero_add] at hS hR
  rcases hx:v[p]? with _|x
  ·simp only [zm,hx] at h;cases h
  ·simp only [zm,hx] at h ⊢
   by_cases hs:zu x=true
   ·rw [if_pos hs] at h ⊢;by_cases h5:x.op=5
    ·rw [if_pos h5] at h ⊢;have:=hS x.n.toNat none (p+1) e (λl hl=>by cases hl) h hle;exact this
    ·rw [if_neg h5] at h ⊢;by_cases h6:x.op=6
     ·rw [if_pos h6] at h ⊢;exact hR _ _ _ _ h hle
     ·rw [if_neg h6] at h ⊢;exact h
   ·rw [if_neg hs] at h;cases h
theorem Ac{v:List Nd}{m p e:Nat}(h:zm v m p=some e):IsV (seg v p e):=by
 have hle:=jJ _ _ _ h;have hl:(seg v p e).length=e-p:=jy hle.2;have hA:eW v (seg v p e) p 0 (e-p):=λk hk=>by rw [Nat.zero_add,EO hk]
 have:=ir hA m 0 (e-p) (by rw [Nat.add_zero,h];congr 1;omega) (Nat.le_refl _);unfold IsV;rw [hl];have h2:zm (seg v p e) m 0=some (e-p):=by simpa using this
 have h3:=iy m (m+(e-p)+1) 0 (e-p) (by omega) h2;rw [<-h3];exact bg _ _ _ (by omega) (by omega)
theorem DF{v Q:List Nd}{p m:Nat}(hQ:IsV Q)(_hp:p+Q.length<=v.length)(hs:seg v p (p+Q.length)=Q)(hm:v.length-p<m):zm v m p=some (p+Q.length):=by
 have hA:eW Q v 0 p Q.length:=λk hk=>by
  rw [Nat.zero_add,<-EO (e:=p+Q.length) (by omega),hs]
 have h1:=iy _ (m+Q.length+1) _ _ (by omega) hQ;have:=ir hA _ 0 Q.length (by simpa using h1) (Nat.le_refl _);rw [Nat.add_zero] at this;rw [<-this];exact bg _ _ _ (by omega) (by omega)
theorem bk{s:ByteArray}(h:noB s=true):s=⟨#[]⟩:=by
 unfold noB at h;exact ag (List.eq_nil_of_length_eq_zero (by rw [Array.length_toList];exact of_decide_eq_true h))
def aL(v:List Nd)(f:Nat->Option Nat):Nat->Nat->List (List Nd)
 | 0,_ => []
 | k+1,p =>
  match f p with
  | none => []
  | some e=>seg v p e :: aL v f k e
def Bo(v:List Nd)(p:Nat):ByteArray :=
 match v[p]? with
 | none => .empty
 | some x=>x.s
def aM(v:List Nd)(f:Nat->Option Nat):Nat->Nat->List (ByteArray × List Nd)
 | 0,_ => []
 | k+1,p =>
  match f (p+1) with
  | none => []
  | some e=>(Bo v p,seg v (p+1) e):: aM v f k e
def iH:List Nd->Nat
 | []=>0
 | x :: _=>x.n.toNat
def zf:List Nd->Int
 | []=>0
 | x :: _=>x.op
def zq(P:List Nd):List (List Nd):=aL P (zm P (P.length+1)) (iH P) 1
def zr(P:List Nd):List (ByteArray × List Nd):=aM P (zm P (P.length+1)) (iH P) 1
def Up:List (List Nd)->Prop
 | []=>True
 | [_]=>True
 | a :: b :: r=>zC a b<0/\Up (b :: r)
def fG(o:Option (List Nd))(l:List (List Nd)):Prop:=match o with|none=>Up l|some a=>Up (a :: l)
def aX(s:ByteArray):Nd:=⟨7,0,s,⟨#[]⟩⟩
def zL:List (ByteArray × List Nd)->List Nd
 | [] => []
 | x :: r=>aX x.1 ::(x.2 ++ zL r)
def UpB(last:ByteArray):List (ByteArray × List Nd)->Prop
 | []=>True
 | x :: r=>js last x.1<0/\UpB x.1 r
theorem dL{v:List Nd}{p q e:Nat}(h1:p<=q)(h2:q<=e):seg v p q ++ seg v q e=seg v p e:=by
 unfold seg;rw [show e-p=(q-p)+(e-q) by omega,List.take_add,List.drop_drop,show p+(q-p)=q by omega]
theorem sT(v:List Nd)(p:Nat):seg v p p = []:=by unfold seg;simp
theorem sQ{v:List Nd}{p e:Nat}(h:p<v.length)(h2:p<e):seg v p e=v[p] :: seg v (p+1) e:=by
 unfold seg;rw [List.drop_eq_getElem_cons h,show e-p=(e-(p+1))+1 by omega,List.take_succ_cons]
theorem l6(v:List Nd)(p:Nat):seg v p v.length=v.drop p:=by
 unfold seg;rw [List.take_of_length_le (by simp)]
theorem pe{v:List Nd}{m:Nat}:∀k lo p e,(∀l,lo=some l->l<=p)->p<=v.length->zX v (zm v m) k lo p=some e->
 (aL v (zm v m) k p).length=k/\(aL v (zm v m) k p).flatten=seg v p e/\(∀Q∈aL v (zm v m) k p,IsV Q)/\fG (lo.map λl=>seg v l p) (aL v (zm v m) k p):=by
 intro k
 induction k with
 | zero =>
  intro lo p e _ _ h
  simp only [zX,Option.some.injEq] at h
  subst h
  refine⟨rfl,by rw [sT];rfl,(λQ h=>by cases h),?_⟩
  rcases lo with _|l <;> trivial
 | succ k ih =>
  intro lo p e CM hp h
  simp only [zX] at h
  simp only [aL]
  split at h
  ·cases h
  ·rename_i q hq
   have hle:=jJ _ _ _ hq;split at h
   ·rename_i hr;obtain⟨h1,h2,h3,h4⟩:=ih (some p) q e (λl hl=>by cases hl;omega) hle.2 h;have MC:=m0 (j8 v m) _ _ _ _ h;(try rw [hq]);refine⟨by simp [h1],?_,?_,?_⟩
    ·rw [List.flatten_cons,h2,dL (by omega) MC]
    ·intro Q hQ;rcases List.mem_cons.1 hQ with rfl|hQ
     ·exact Ac hq
     ·exact h3 Q hQ
    ·simp only [Option.map_some,fG] at h4;rcases lo with _|l
     ·exact h4
     ·simp only [k6,decide_eq_true_eq] at hr;exact⟨hr,h4⟩
   ·cases h
theorem xE{v:List Nd}{m:Nat}:∀(L:List (List Nd)) lo p e,(∀l,lo=some l->l<=p)->e<=v.length->p<=e->seg v p e=L.flatten->(∀Q∈L,IsV Q)->fG (lo.map λl=>seg v l p) L->v.length-p<m->
 zX v (zm v m) L.length lo p=some e/\aL v (zm v m) L.length p=L:=by
 intro L
 induction L with
 | nil =>
  intro lo p e _ h1 h2 h3 _ _ _
  have hl:=congrArg List.length h3
  rw [jy h1] at hl
  simp at hl
  simp only [List.length_nil,zX,aL,and_true]
  congr 1;omega
 | cons Q L ih =>
  intro lo p e CM h1 h2 h3 h4 h5 h6
  have hQ:=h4 Q (by simp)
  rw [List.flatten_cons] at h3
  have hl:=congrArg List.length h3
  rw [jy h1,List.length_append] at hl
  have hq:seg v p (p+Q.length)=Q:=by
   have:=dL (v:=v) (p:=p) (q:=p+Q.length) (e:=e) (by omega) (by omega);rw [h3] at this;exact(List.append_inj this (by rw [jy (by omega)];omega)).1
  have Mf:seg v (p+Q.length) e=L.flatten:=by
   have:=dL (v:=v) (p:=p) (q:=p+Q.length) (e:=e) (by omega) (by omega);rw [h3] at this;exact(List.append_inj this (by rw [jy (by omega)];omega)).2
  have hpos:=hQ.pos
  have hend:=DF hQ (by omega) hq h6
  have Ma:fG ((some p).map λl=>seg v l (p+Q.length)) L:=by
   simp only [Option.map_some,fG,hq];rcases lo with _|l
   ·simp only [Option.map_none,fG] at h5;exact h5
   ·simp only [Option.map_some,fG] at h5;exact h5.2
  have hr:k6 v lo p (p+Q.length)=true:=by
   rcases lo with _|l
   ·rfl
   ·simp only [Option.map_some,fG] at h5;simp only [k6,hq,decide_eq_true_eq];exact h5.1
  obtain⟨g1,g2⟩:=ih (some p) (p+Q.length) e (λl hl=>by cases hl;omega) h1 (by omega) Mf (λQ' h=>h4 Q' (by simp [h])) Ma (by omega)
  simp only [List.length_cons,zX,aL,hend,hr,if_true]
  exact⟨g1,by rw [g2,hq]⟩
theorem pi{v:List Nd}{m:Nat}:∀k last p e,p<=v.length->zW v (zm v m) k last p=some e->
 (aM v (zm v m) k p).length=k/\zL (aM v (zm v m) k p)=seg v p e/\(∀x∈aM v (zm v m) k p,IsV x.2/\zh x.1=0)/\UpB last (aM v (zm v m) k p):=by
 intro k
 induction k with
 | zero =>
  intro last p e _ h
  simp only [zW,Option.some.injEq] at h
  subst h
  exact⟨rfl,by rw [sT];rfl,(λQ h=>by cases h),trivial⟩
 | succ k ih =>
  intro last p e hp h
  simp only [zW] at h
  simp only [aM]
  split at h
  ·cases h
  ·rename_i s hs
   split at h
   ·cases h
   ·rename_i q hq;have hle:=jJ _ _ _ hq;obtain⟨h1,h2,h3,h4⟩:=ih s q e hle.2 h;have MC:=nW (j8 v m) _ _ _ _ h;unfold jV at hs;split at hs
    ·cases hs
    ·rename_i x hx;split at hs
     ·rename_i hc;simp only [Option.some.injEq] at hs;subst hs;simp only [Bool.and_eq_true,decide_eq_true_eq] at hc;obtain⟨⟨c1,c2⟩,c3⟩:=hc;have Li:=c2;unfold zu at Li;rw [c1] at Li;simp at Li;obtain⟨⟨n1,n2⟩,n3⟩:=Li;have C6:Bo v p=x.s:=by unfold Bo;rw [hx]
      have eO:p<v.length:=(List.getElem?_eq_some_iff.1 hx).1;have Oi:v[p]=x:=by rw [List.getElem?_eq_getElem eO] at hx;injection hx
      have hxf:x=aX x.s:=Nd.ext4 c1 n1 rfl (bk n2);(try rw [hq]);(try simp only);refine⟨by simp [h1],?_,?_,?_⟩
      ·rw [zL,h2,C6,dL (by omega) MC,sQ eO (by omega),Oi,<-hxf]
      ·intro y hy;rcases List.mem_cons.1 hy with rfl|hy
       ·exact⟨Ac hq,by rw [C6];exact n3⟩
       ·exact h3 y hy
      ·simp only [UpB,C6];exact⟨c3,h4⟩
     ·cases hs
theorem o5{s:ByteArray}(h:zh s=0):zu (aX s)=true:=by
 unfold zu aX;simp [h,noB];rfl
theorem wJ{v:List Nd}{m:Nat}:∀(L:List (ByteArray × List Nd)) last p e,e<=v.length->p<=e->seg v p e=zL L->(∀x∈L,IsV x.2/\zh x.1=0)->UpB last L->v.length-p<m->
 zW v (zm v m) L.length last p=some e/\aM v (zm v m) L.length p=L:=by
 intro L
 induction L with
 | nil =>
  intro last p e h1 h2 h3 _ _ _
  have hl:=congrArg List.length h3
  rw [jy h1] at hl
  simp [zL] at hl
  simp only [List.length_nil,zW,aM,and_true]
  congr 1;omega
 | cons x L ih =>
  intro last p e h1 h2 h3 h4 h5 h6
  obtain⟨hQ,hN⟩:=h4 x (by simp)
  rw [zL] at h3
  have hl:=congrArg List.length h3
  rw [jy h1,List.length_cons,List.length_append] at hl
  have eO:p<v.length:=by omega
  rw [sQ eO (by omega)] at h3
  injection h3 with e1 e2
  have hq:seg v (p+1) (p+1+x.2.length)=x.2:=by
   have:=dL (v:=v) (p:=p+1) (q:=p+1+x.2.length) (e:=e) (by omega) (by omega);rw [e2] at this;exact(List.append_inj this (by rw [jy (by omega)];omega)).1
  have Mf:seg v (p+1+x.2.length) e=zL L:=by
   have:=dL (v:=v) (p:=p+1) (q:=p+1+x.2.length) (e:=e) (by omega) (by omega);rw [e2] at this;exact(List.append_inj this (by rw [jy (by omega)];omega)).2
  have hend:=DF hQ (by omega) hq (m:=m) (by omega)
  have C6:Bo v p=x.1:=by unfold Bo;rw [List.getElem?_eq_getElem eO,e1];rfl
  have hf:jV v last p=some x.1:=by
   unfold jV;rw [List.getElem?_eq_getElem eO,e1];simp only [o5 hN];have:decide (js last (aX x.1).s<0)=true:=decide_eq_true h5.1;rw [this];rfl
  obtain⟨g1,g2⟩:=ih x.1 (p+1+x.2.length) e h1 (by omega) Mf (λy h=>h4 y (by simp [h])) h5.2 (by omega)
  simp only [List.length_cons,zW,aM,hend,hf]
  exact⟨g1,by rw [g2,hq,C6]⟩
def jI(n:Int):Nd:=⟨5,n,⟨#[]⟩,⟨#[]⟩⟩
def zM(n:Int):Nd:=⟨6,n,⟨#[]⟩,⟨#[]⟩⟩
theorem uy(x:Nd)(r:List Nd):zf (x :: r)=x.op:=rfl
theorem nH(x:Nd)(r:List Nd):iH (x :: r)=x.n.toNat:=rfl
theorem eB{P:List Nd}(h:IsV P)(h5:zf P=5):
 P=jI (zq P).length ::(zq P).flatten/\(zq P).length=iH P/\(∀Q∈zq P,IsV Q)/\Up (zq P):=by
 have hpos:=h.pos;unfold IsV at h;rcases P with _|⟨x,r⟩
 ·simp at hpos
 have h5':x.op=5:=h5;simp only [zm,List.getElem?_cons_zero] at h;by_cases hs:zu x=true
 ·rw [if_pos hs,if_pos h5'] at h;unfold zu at hs;rw [h5'] at hs;simp at hs;have hx:x=jI x.n:=Nd.ext4 h5' rfl (bk hs.1.2) (bk hs.2);have h':zX (x :: r) (zm (x :: r) ((x :: r).length+1)) x.n.toNat none 1=some (x :: r).length:=by
   rw [<-h];exact(eN (j8 _ _) (q0:=1) (λq hq=>bg _ _ _ (by simp only [List.length_cons];omega) (by simp only [List.length_cons];omega)) _ _ _ (Nat.le_refl _))
  obtain⟨g1,g2,g3,g4⟩:=pe _ none 1 _ (λl hl=>by cases hl) (by simp) h';have e:zq (x :: r)=aL (x :: r) (zm (x :: r) ((x :: r).length+1)) x.n.toNat 1:=rfl;rw [<-e] at g1 g2 g3 g4;refine⟨?_,g1,g3,g4⟩;rw [g2,l6,g1,Int.toNat_of_nonneg hs.1.1,<-hx];rfl
 ·rw [if_neg hs] at h;cases h
theorem Iq{L:List (List Nd)}(h:∀Q∈L,IsV Q)(hu:Up L):IsV (jI L.length :: L.flatten)/\zq (jI L.length :: L.flatten)=L:=by
 have hs:zu (jI L.length)=true:=by unfold zu jI;simp [noB];rfl
 have key:=λm hm=>xE (v:=jI L.length :: L.flatten) (m:=m) L none 1 (L.flatten.length+1) (λl hl=>by cases hl) (by simp) (by omega) (by
  have:=l6 (jI L.length :: L.flatten) 1
  simpa using this) h hu hm
 refine⟨?_,?_⟩
 ·unfold IsV;simp only [zm,List.getElem?_cons_zero,hs,if_true];have h5:(jI L.length).op=5:=rfl;rw [if_pos h5];exact(key _ (by simp only [List.length_cons];omega)).1
 ·unfold zq;rw [nH];exact(key _ (by simp only [List.length_cons];omega)).2
theorem eF{P:List Nd}(h:IsV P)(h6:zf P=6):
 P=zM (zr P).length :: zL (zr P)/\(zr P).length=iH P/\(∀x∈zr P,IsV x.2/\zh x.1=0)/\UpB .empty (zr P):=by
 have hpos:=h.pos;unfold IsV at h;rcases P with _|⟨x,r⟩
 ·simp at hpos
 have h6':x.op=6:=h6;simp only [zm,List.getElem?_cons_zero] at h;by_cases hs:zu x=true
 ·rw [if_pos hs,if_neg (by omega),if_pos h6'] at h;unfold zu at hs;rw [h6'] at hs;simp at hs;have hx:x=zM x.n:=Nd.ext4 h6' rfl (bk hs.1.2) (bk hs.2);have h':zW (x :: r) (zm (x :: r) ((x :: r).length+1)) x.n.toNat .empty 1=some (x :: r).length:=by
   rw [<-h];exact(eJ (j8 _ _) (q0:=1) (λq hq=>bg _ _ _ (by simp only [List.length_cons];omega) (by simp only [List.length_cons];omega)) _ _ _ (Nat.le_refl _))
  obtain⟨g1,g2,g3,g4⟩:=pi _ .empty 1 _ (by simp) h';have e:zr (x :: r)=aM (x :: r) (zm (x :: r) ((x :: r).length+1)) x.n.toNat 1:=rfl;rw [<-e] at g1 g2 g3 g4;refine⟨?_,g1,g3,g4⟩;rw [g2,l6,g1,Int.toNat_of_nonneg hs.1.1,<-hx];rfl
 ·rw [if_neg hs] at h;cases h
theorem H'{L:List (ByteArray × List Nd)}(h:∀x∈L,IsV x.2/\zh x.1=0)(hu:UpB .empty L):IsV (zM L.length :: zL L)/\zr (zM L.length :: zL L)=L:=by
 have hs:zu (zM L.length)=true:=by unfold zu zM;simp [noB];rfl
 have key:=λm hm=>wJ (v:=zM L.length :: zL L) (m:=m) L .empty 1 ((zL L).length+1) (by simp) (by omega) (by
  have:=l6 (zM L.length :: zL L) 1
  simpa using this) h hu hm
 refine⟨?_,?_⟩
 ·unfold IsV;simp only [zm,List.getElem?_cons_zero,hs,if_true];have h6:(zM L.length).op=6:=rfl;rw [if_neg (by rw [h6];omega),if_pos h6];exact(key _ (by simp only [List.length_cons];omega)).1
 ·unfold zr;rw [nH];exact(key _ (by simp only [List.length_cons];omega)).2
theorem F'{P:List Nd}(h:IsV P)(h5:zf P=5):zX P (zm P (P.length+1)) (iH P) none 1=some P.length/\∃hp:0<P.length,P[0].op=5/\0<=P[0].n/\iH P=P[0].n.toNat:=by
 have hpos:=h.pos;unfold IsV at h;rcases P with _|⟨x,r⟩
 ·simp at hpos
 have h5':x.op=5:=h5;simp only [zm,List.getElem?_cons_zero] at h;by_cases hs:zu x=true
 ·rw [if_pos hs,if_pos h5'] at h;unfold zu at hs;rw [h5'] at hs;simp at hs;refine⟨?_,hpos,h5',hs.1.1,rfl⟩;rw [<-h];exact(eN (j8 _ _) (q0:=1) (λq hq=>bg _ _ _ (by simp only [List.length_cons];omega) (by simp only [List.length_cons];omega)) _ _ _ (Nat.le_refl _))
 ·rw [if_neg hs] at h;cases h
theorem ED{P:List Nd}(h:IsV P)(h6:zf P=6):zW P (zm P (P.length+1)) (iH P) .empty 1=some P.length/\∃hp:0<P.length,P[0].op=6/\0<=P[0].n/\iH P=P[0].n.toNat:=by
 have hpos:=h.pos;unfold IsV at h;rcases P with _|⟨x,r⟩
 ·simp at hpos
 have h6':x.op=6:=h6;simp only [zm,List.getElem?_cons_zero] at h;by_cases hs:zu x=true
 ·rw [if_pos hs,if_neg (by omega),if_pos h6'] at h;unfold zu at hs;rw [h6'] at hs;simp at hs;refine⟨?_,hpos,h6',hs.1.1,rfl⟩;rw [<-h];exact(eJ (j8 _ _) (q0:=1) (λq hq=>bg _ _ _ (by simp only [List.length_cons];omega) (by simp only [List.length_cons];omega)) _ _ _ (Nat.le_refl _))
 ·rw [if_neg hs] at h;cases h
def cF:List (List Nd)->Int
 | []=>0
 | P :: r=>or2 (zc P) (cF r)
end Go.Wk
