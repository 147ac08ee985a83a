/-
  Plain: the set of values: each of them once, in order; the least above one. No ..
-/
import Derived.Test.YtokiogmfgpidmaaGreatDoorQ2
set_option maxRecDepth 100000
namespace Go.Wk
def mQ(p:List Nd):List (List Nd)->List (List Nd)
 | [] => [p]
 | q :: r=>if zC p q<0 then p :: q :: r else if zC p q=0 then q :: r else q :: mQ p r
def cT:List (List Nd)->List (List Nd)
 | [] => []
 | p :: r=>mQ p (cT r)
theorem vI{p x:List Nd}{l:List (List Nd)}:x∈mQ p l↔x=p\/x∈l:=by
 induction l with
 | nil=>simp [mQ]
 | cons q r ih =>
  simp only [mQ]
  split
  ·simp
  ·split
   ·rename_i h0;have e:=(z7.zero p q).1 h0;subst e;simp
   ·simp only [List.mem_cons,ih];constructor
    ·rintro (h|h|h)<;> simp [h]
    ·rintro (h|h|h)<;> simp [h]
theorem iE{x:List Nd}{l:List (List Nd)}:x∈cT l↔x∈l:=by
 induction l with
 | nil=>simp [cT]
 | cons p r ih=>simp only [cT,vI,ih,List.mem_cons]
theorem lU{l:List (List Nd)}:Up l↔l.Pairwise (λa b=>zC a b<0):=by
 induction l with
 | nil=>simp [Up]
 | cons a r ih =>
  rcases r with _|⟨b,r⟩
  ·simp [Up]
  ·simp only [Up,ih]
   constructor
   ·rintro ⟨h1,h2⟩;refine List.pairwise_cons.2 ⟨λx hx=>?_,h2⟩;rcases List.mem_cons.1 hx with rfl|hx
    ·exact h1
    ·have:=(List.pairwise_cons.1 h2).1 x hx;exact z7.lt_le h1 (by omega)
   ·intro h;exact⟨(List.pairwise_cons.1 h).1 b (by simp),(List.pairwise_cons.1 h).2⟩
theorem Hf{p:List Nd}{l:List (List Nd)}(h:Up l):Up (mQ p l):=by
 rw [lU] at h ⊢
 induction l with
 | nil=>simp [mQ]
 | cons q r ih =>
  obtain⟨h1,h2⟩:=List.pairwise_cons.1 h
  simp only [mQ]
  split
  ·rename_i hlt
   refine List.pairwise_cons.2 ⟨λx hx=>?_,h⟩;rcases List.mem_cons.1 hx with rfl|hx
   ·exact hlt
   ·have:=h1 x hx;exact z7.lt_le hlt (by omega)
  ·split
   ·exact h
   ·rename_i hn h0;refine List.pairwise_cons.2 ⟨λx hx=>?_,ih h2⟩;rcases vI.1 hx with rfl|hx
    ·have:=z7.anti x q;omega
    ·exact h1 x hx
theorem rT(l:List (List Nd)):Up (cT l):=by
 induction l with
 | nil=>trivial
 | cons p r ih=>exact Hf ih
theorem yA{a:List Nd}{l:List (List Nd)}(h:Up (a :: l)):Up l:=by
 rw [lU] at h ⊢;exact(List.pairwise_cons.1 h).2
theorem Av:∀ {l m:List (List Nd)},Up l->Up m->(∀x,x∈l↔x∈m)->l=m:=by
 intro l
 induction l with
 | nil =>
  intro m _ _ h
  rcases m with _|⟨b,m⟩
  ·rfl
  ·have:=(h b).2 (by simp);cases this
 | cons a l ih =>
  intro m hl hm h
  rcases m with _|⟨b,m⟩
  ·have:=(h a).1 (by simp);cases this
  have pl:=lU.1 hl
  have pm:=lU.1 hm
  obtain⟨l1,l2⟩:=List.pairwise_cons.1 pl
  obtain⟨m1,m2⟩:=List.pairwise_cons.1 pm
  have e:a=b:=by
   rcases List.mem_cons.1 ((h a).1 (by simp)) with e|ha
   ·exact e
   rcases List.mem_cons.1 ((h b).2 (by simp)) with e|hb
   ·exact e.symm
   have q1:=m1 a ha;have q2:=l1 b hb;have:=z7.anti a b;omega
  subst e
  have hl':=yA hl
  have Kj:=yA hm
  rw [ih hl' Kj λx=>?_]
  have hx:=h x
  simp only [List.mem_cons] at hx
  constructor
  ·intro k
   rcases hx.1 (.inr k) with e|k'
   ·subst e;have:=l1 x k;rw [z7.self] at this;omega
   ·exact k'
  ·intro k
   rcases hx.2 (.inr k) with e|k'
   ·subst e;have:=m1 x k;rw [z7.self] at this;omega
   ·exact k'
theorem sk{l m:List (List Nd)}(h:Up m)(hm:∀x,x∈m↔x∈l):cT l=m :=
 Av (rT l) h λx=>by rw [iE,hm]
theorem xC{l m:List (List Nd)}(h:∀x,x∈l↔x∈m):cT l=cT m :=
 sk (rT m) λx=>by rw [iE,h]
theorem y6{l:List (List Nd)}(h:Up l):cT l=l:=sk h λ_=>Iff.rfl
def Ln(lo:Option (List Nd))(p:List Nd):Bool:=match lo with|none=>true|some l=>decide (zC p l > 0)
def LA(cur:Option (List Nd))(p:List Nd):Bool:=match cur with|none=>true|some c=>decide (zC p c<0)
def least(lo cur:Option (List Nd))(p:List Nd):Option (List Nd):=if Ln lo p && LA cur p then some p else cur
theorem fM{L:List (List Nd)}:cF L=0↔∀P∈L,zc P=0:=by
 induction L with
 | nil=>simp [cF]
 | cons P r ih =>
  simp only [cF,or2,List.mem_cons,forall_eq_or_imp]
  by_cases h:zc P=0
  ·rw [if_pos h,ih];exact⟨λq=>⟨h,q⟩,λq=>q.2⟩
  ·rw [if_neg h];exact⟨λq=>absurd q h,λq=>absurd q.1 h⟩
def setE(L:List (List Nd)):Int:=or2 (cF L) (if 200<(cT L).flatten.length+1 then 4 else 0)
def dH(L:List (List Nd)):List Nd:=if setE L=0 then jI (cT L).length ::(cT L).flatten else []
theorem kP{L:List (List Nd)}:setE L=0↔cF L=0/\(cT L).flatten.length+1<=200:=by
 unfold setE or2;by_cases h:cF L=0
 ·rw [if_pos h];by_cases h2:200<(cT L).flatten.length+1
  ·rw [if_pos h2];exact⟨λq=>by omega,λq=>by omega⟩
  ·rw [if_neg h2];exact⟨λ_=>⟨h,by omega⟩,λ_=>rfl⟩
 ·rw [if_neg h];exact⟨λq=>absurd q h,λq=>absurd q.1 h⟩
theorem mb{L:List (List Nd)}(h:setE L=0):dH L=jI (cT L).length ::(cT L).flatten:=if_pos h
theorem tN{L:List (List Nd)}(h:setE L≠0):dH L = []:=if_neg h
theorem Dq{L:List (List Nd)}(h:setE L=0):zc (dH L)=0/\zf (dH L)=5/\zq (dH L)=cT L:=by
 obtain⟨h1,h2⟩:=kP.1 h;have hV:∀Q∈cT L,IsV Q:=λQ hQ=>(zH.1 (fM.1 h1 Q (iE.1 hQ))).2;obtain⟨a,b⟩:=Iq hV (rT L);rw [mb h];exact⟨zH.2 ⟨by simp only [List.length_cons];omega,a⟩,rfl,b⟩
theorem yS{L:List (List Nd)}{Q:List Nd}(h:Q∈L):Q.length<=L.flatten.length:=by
 induction L with
 | nil=>cases h
 | cons P r ih =>
  simp only [List.flatten_cons,List.length_append]
  rcases List.mem_cons.1 h with rfl|h
  ·omega
  ·have:=ih h;omega
theorem wP{P:List Nd}(h:zc P=0)(h5:zf P=5):cF (zq P)=0/\Up (zq P)/\setE (zq P)=0/\dH (zq P)=P:=by
 obtain⟨h1,h2⟩:=zH.1 h;obtain⟨a,b,c,d⟩:=eB h2 h5;have hl:=congrArg List.length a;simp only [List.length_cons] at hl;have hf:cF (zq P)=0:=fM.2 λQ hQ=>zH.2 ⟨by have:=yS hQ;omega,c Q hQ⟩;have he:setE (zq P)=0:=kP.2 ⟨hf,by rw [y6 d];omega⟩;exact⟨hf,d,he,by rw [mb he,y6 d,<-a]⟩
abbrev Fld:=ByteArray × List Nd
def wZ(x:Fld):List Fld->List Fld
 | [] => [x]
 | y :: r=>if js x.1 y.1<0 then x :: y :: r else y :: wZ x r
def bZ:List Fld->List Fld
 | [] => []
 | x :: r=>wZ x (bZ r)
theorem pC(x:Fld)(l:List Fld):(wZ x l).Perm (x :: l):=by
 induction l with
 | nil=>exact List.Perm.refl _
 | cons y r ih =>
  simp only [wZ]
  split
  ·exact List.Perm.refl _
  ·exact(List.Perm.cons y ih).trans (List.Perm.swap x y r)
theorem ao(l:List Fld):(bZ l).Perm l:=by
 induction l with
 | nil=>exact List.Perm.refl _
 | cons x r ih=>exact(pC x _).trans (List.Perm.cons x ih)
abbrev uW (l:List Fld):Prop:=l.Pairwise λa b=>js a.1 b.1<0
theorem FQ{x:Fld}{l:List Fld}(h:uW l)(hx:∀y∈l,y.1≠x.1):uW (wZ x l):=by
 induction l with
 | nil=>simp [wZ,uW]
 | cons y r ih =>
  obtain⟨h1,h2⟩:=List.pairwise_cons.1 h
  simp only [wZ]
  split
  ·rename_i hlt
   refine List.pairwise_cons.2 ⟨λz hz=>?_,h⟩;rcases List.mem_cons.1 hz with rfl|hz
   ·exact hlt
   ·have:=h1 z hz;exact jf.lt_le hlt (by omega)
  ·rename_i hn
   refine List.pairwise_cons.2 ⟨λz hz=>?_,ih h2 λz hz=>hx z (by simp [hz])⟩;rcases List.mem_cons.1 ((pC x r).mem_iff.1 hz) with rfl|hz
   ·have a:=jf.anti z.1 y.1;have:js z.1 y.1≠0:=λe=>hx y (by simp) ((jf.zero _ _).1 e).symm;omega
   ·exact h1 z hz
theorem ka{l:List Fld}(h:(l.map (·.1)).Nodup):uW (bZ l):=by
 induction l with
 | nil=>exact List.Pairwise.nil
 | cons x r ih =>
  simp only [List.map_cons,List.nodup_cons] at h
  refine FQ (ih h.2) λy hy e=>h.1 ?_
  rw [<-e]
  exact List.mem_map_of_mem ((ao r).mem_iff.1 hy)
theorem xZ:∀ {l m:List Fld},uW l->uW m->(∀x,x∈l↔x∈m)->l=m:=by
 intro l
 induction l with
 | nil =>
  intro m _ _ h
  rcases m with _|⟨b,m⟩
  ·rfl
  ·have:=(h b).2 (by simp);cases this
 | cons a l ih =>
  intro m hl hm h
  rcases m with _|⟨b,m⟩
  ·have:=(h a).1 (by simp);cases this
  obtain⟨l1,l2⟩:=List.pairwise_cons.1 hl
  obtain⟨m1,m2⟩:=List.pairwise_cons.1 hm
  have e:a=b:=by
   rcases List.mem_cons.1 ((h a).1 (by simp)) with e|ha
   ·exact e
   rcases List.mem_cons.1 ((h b).2 (by simp)) with e|hb
   ·exact e.symm
   have q1:=m1 a ha;have q2:=l1 b hb;have:=jf.anti a.1 b.1;omega
  subst e
  rw [ih l2 m2 λx=>?_]
  have hx:=h x
  simp only [List.mem_cons] at hx
  constructor
  ·intro k
   rcases hx.1 (.inr k) with e|k'
   ·subst e;have:=l1 x k;rw [jf.self] at this;omega
   ·exact k'
  ·intro k
   rcases hx.2 (.inr k) with e|k'
   ·subst e;have:=m1 x k;rw [jf.self] at this;omega
   ·exact k'
theorem i4(a b:List Fld):zL (a ++ b)=zL a ++ zL b:=by
 induction a with
 | nil=>rfl
 | cons x r ih=>simp only [List.cons_append,zL,ih,List.append_assoc]
theorem gG{a b:List Fld}(h:a.Perm b):(zL a).length=(zL b).length:=by
 induction h with
 | nil=>rfl
 | cons x _ ih=>simp only [zL,List.length_cons,List.length_append,ih]
 | swap x y l=>simp only [zL,List.length_cons,List.length_append];omega
 | trans _ _ h1 h2=>exact h1.trans h2
theorem BE(x:Fld):zL [x]=aX x.1 :: x.2:=by simp [zL]
theorem xT(Z:List Fld)(k:Nat)(h:k<Z.length):zL (Z.take (k+1))=zL (Z.take k)++ aX Z[k].1 :: Z[k].2:=by
 rw [<-List.take_append_getElem h,i4,BE]
theorem oK(Z:List Fld)(k:Nat):(zL (Z.take k)).length<=(zL Z).length:=by
 conv=>rhs;rw [<-List.take_append_drop k Z]
 rw [i4,List.length_append];omega
def lP(N:List ByteArray)(s:ByteArray):Bool:=N.any λy=>decide (js y s=0)
theorem uU{N:List ByteArray}{s:ByteArray}:lP N s=true↔s∈N:=by
 unfold lP;rw [List.any_eq_true];constructor
 ·rintro ⟨y,h1,h2⟩;have e:=(jf.zero y s).1 (by simpa using h2);subst e;exact h1
 ·intro h;exact⟨s,h,by simp [jf.self]⟩
def aY:List ByteArray->List Fld->Int
 | _,[]=>0
 | N,x :: r=>or2 (zh x.1) (or2 (if lP N x.1 then 6 else 0) (or2 (zc x.2) (aY (N ++ [x.1]) r)))
theorem fy{N:List ByteArray}{Z:List Fld}:aY N Z=0↔(∀x∈Z,zh x.1=0/\zc x.2=0)/\(Z.map (·.1)).Nodup/\∀x∈Z,x.1 ∉ N:=by
 induction Z generalizing N with
 | nil=>simp [aY]
 | cons x r ih =>
  simp only [aY,or2]
  by_cases h1:zh x.1=0
  ·rw [if_pos h1]
   by_cases h2:x.1∈N
   ·rw [if_pos (uU.2 h2),if_neg (by omega)];exact⟨λq=>by omega,λq=>absurd h2 (q.2.2 x (by simp))⟩
   ·rw [if_neg (λq=>h2 (uU.1 q)),if_pos rfl];by_cases h3:zc x.2=0
    ·rw [if_pos h3,ih];simp only [List.mem_cons,forall_eq_or_imp,List.map_cons,List.nodup_cons,List.mem_append,List.not_mem_nil,or_false,not_or];constructor
     ·rintro ⟨a,b,c⟩;refine⟨⟨⟨h1,h3⟩,a⟩,⟨λq=>?_,b⟩,h2,λy hy=>(c y hy).1⟩;obtain⟨y,hy,e⟩:=List.mem_map.1 q;exact(c y hy).2 e
     ·rintro ⟨⟨-,a⟩,⟨b,c⟩,-,d⟩;exact⟨a,c,λy hy=>⟨d y hy,λe=>b (by rw [<-e];exact List.mem_map_of_mem hy)⟩⟩
    ·rw [if_neg h3];exact⟨λq=>absurd q h3,λq=>absurd (q.1 x (by simp)).2 h3⟩
  ·rw [if_neg h1]
   exact⟨λq=>absurd q h1,λq=>absurd (q.1 x (by simp)).1 h1⟩
def aU(N:List ByteArray)(L:List (List Nd)):Int :=
 if N.length=L.length then or2 (aY [] (N.zip L)) (if 200<(zL (N.zip L)).length+1 then 4 else 0) else 1
def dJ(N:List ByteArray)(L:List (List Nd)):List Nd:=if aU N L=0 then zM N.length :: zL (bZ (N.zip L)) else []
theorem qj{N:List ByteArray}{L:List (List Nd)}:aU N L=0↔N.length=L.length/\aY [] (N.zip L)=0/\(zL (N.zip L)).length+1<=200:=by
 unfold aU or2;by_cases h0:N.length=L.length
 ·rw [if_pos h0];by_cases h:aY [] (N.zip L)=0
  ·rw [if_pos h];by_cases h2:200<(zL (N.zip L)).length+1
   ·rw [if_pos h2];exact⟨λq=>by omega,λq=>by omega⟩
   ·rw [if_neg h2];exact⟨λ_=>⟨h0,h,by omega⟩,λ_=>rfl⟩
  ·rw [if_neg h];exact⟨λq=>absurd q h,λq=>absurd q.2.1 h⟩
 ·rw [if_neg h0];exact⟨λq=>by omega,λq=>absurd q.1 h0⟩
theorem rG{N:List ByteArray}{L:List (List Nd)}(h:aU N L=0):dJ N L=zM N.length :: zL (bZ (N.zip L)):=if_pos h
theorem DW{N:List ByteArray}{L:List (List Nd)}(h:aU N L≠0):dJ N L = []:=if_neg h
theorem GF{l:List Fld}:∀ {last:ByteArray},uW l->(∀x∈l,js last x.1<0)->UpB last l:=by
 induction l with
 | nil=>intro _ _ _;trivial
 | cons x r ih =>
  intro last h hl
  obtain⟨h1,h2⟩:=List.pairwise_cons.1 h
  exact⟨hl x (by simp),ih h2 h1⟩
theorem El{s:ByteArray}(h:zh s=0):js .empty s<0:=by
 have hs:0<s.size:=by
  rcases Nat.eq_zero_or_pos s.size with h0|h0
  ·have e:s=⟨#[]⟩:=ag (List.eq_nil_of_length_eq_zero (by rw [Array.length_toList];exact h0));subst e;exact absurd h (by decide)
  ·exact h0
 have h1:js .empty s≠0:=λe=>by
  have e':=(jf.zero _ _).1 e;subst e';simp at hs
 have:=jf.rng .empty s;have hle:js .empty s<=0:=by
  unfold js;rcases hd:s.data.toList with _|⟨b,r⟩
  ·show Lib.compareBytes [] []<=0;simp [Lib.compareBytes]
  ·show Lib.compareBytes [] (b :: r)<=0;simp [Lib.compareBytes]
 omega
theorem E6{N:List ByteArray}{L:List (List Nd)}(h:aU N L=0):zc (dJ N L)=0/\zf (dJ N L)=6/\zr (dJ N L)=bZ (N.zip L):=by
 obtain⟨h1,h2,h3⟩:=qj.1 h;obtain⟨a,b,-⟩:=fy.1 h2;have hp:=ao (N.zip L);have hV:∀x∈bZ (N.zip L),IsV x.2/\zh x.1=0:=λx hx =>
  let q:=a x (hp.mem_iff.1 hx);⟨(zH.1 q.2).2,q.1⟩
 obtain⟨c,d⟩:=H' hV (GF (ka b) λx hx=>El (hV x hx).2);have hl:(bZ (N.zip L)).length=N.length:=by rw [hp.length_eq,List.length_zip];omega
 rw [hl] at c d;rw [rG h];refine⟨zH.2 ⟨?_,c⟩,rfl,d⟩;have:=gG hp;simp only [List.length_cons];omega
def qi(t:List Nd):Int:=if 200<t.length then 4 else if(DU t).isSome then 0 else 1
def JO(s:ByteArray)(m:Bool)(k:Kd):Fl->Fl
 | .nil => .cons s m k .nil
 | .cons t m' k' r=>if js s t<0 then .cons s m k (.cons t m' k' r) else .cons t m' k' (JO s m k r)
def FI:Fl->Fl->Fl
 | .nil,_ => .nil
 | .cons s _ k r,f=>if(f.find s).isSome then FI r f else .cons s false k (FI r f)
mutual
def pL:Kd->Kd->Kd
 | .base x,b=>if x=49 then b else if kZ b then b else if isNone b then .base x else if x=48 then .base 48 else(match b with | .base y=>if x=y then .base x else .base 48|_ => .base 48)
 | .ent s,b=>if kZ b then b else if isNone b then .ent s else(match b with | .ent t=>if s=t then .ent s else .base 48|_ => .base 48)
 | .set p,b=>if kZ b then b else if isNone b then .set p else(match b with | .set q => .set (pL p q)|_ => .base 48)
 | .fs f,b=>if kZ b then b else if isNone b then .fs f else(match b with | .fs g => .fs (DX f g (FI g f))|_ => .base 48)
def DX:Fl->Fl->Fl->Fl
 | .nil,_,acc=>acc
 | .cons s m k r,g,acc=>match g.find s with
  | none=>JO s false k (DX r g acc)
  | some (m',k')=>JO s (m && m') (pL k k') (DX r g acc)
end
end Go.Wk
