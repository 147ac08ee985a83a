/-
  Plain: the set of values: each of them once, in order; the least above one. No ..
-/
import Derived.Test.YtokiogmfgpidmaaGreatDoorD2
set_option maxRecDepth 100000
namespace Go.Wk
def NW(p:List Nd):List (List Nd)->List (List Nd)
 | [] => [p]
 | q :: r=>if zu p q<0 then p :: q :: r else if zu p q=0 then q :: r else q :: NW p r
def jT:List (List Nd)->List (List Nd)
 | [] => []
 | p :: r=>NW p (jT r)
theorem zbc{p x:List Nd}{l:List (List Nd)}:x∈NW p l↔x=p\/x∈l:=by
 induction l with
 | nil=>simp [NW]
 | cons q r ih =>
  simp only [NW]
  split
  ·simp
  ·split
   ·rename_i h0;have e:=(zO.zero p q).1 h0;subst e;simp
   ·simp only [List.mem_cons,ih];constructor
    ·rintro (h|h|h)<;> simp [h]
    ·rintro (h|h|h)<;> simp [h]
theorem vT{x:List Nd}{l:List (List Nd)}:x∈jT l↔x∈l:=by
 induction l with
 | nil=>simp [jT]
 | cons p r ih=>simp only [jT,zbc,ih,List.mem_cons]
theorem OD{l:List (List Nd)}:Up l↔l.Pairwise (λa b=>zu a b<0):=by
 induction l with
 | nil=>simp [Up]
 | cons a r ih =>
  rcases r with _|⟨b,r⟩
  ·simp [Up]
  ·simp only [Up,ih]
   constructor
   ·rintro ⟨h1,h2⟩;refine List.pairwise_cons.2 ⟨λx hx=>?_,h2⟩;rcases List.mem_cons.1 hx with rfl|hx
    ·exact h1
    ·have:=(List.pairwise_cons.1 h2).1 x hx;exact zO.lt_le h1 (by omega)
   ·intro h;exact⟨(List.pairwise_cons.1 h).1 b (by simp),(List.pairwise_cons.1 h).2⟩
theorem zlP{p:List Nd}{l:List (List Nd)}(h:Up l):Up (NW p l):=by
 rw [OD] at h ⊢
 induction l with
 | nil=>simp [NW]
 | cons q r ih =>
  obtain⟨h1,h2⟩:=List.pairwise_cons.1 h
  simp only [NW]
  split
  ·rename_i hlt
   refine List.pairwise_cons.2 ⟨λx hx=>?_,h⟩;rcases List.mem_cons.1 hx with rfl|hx
   ·exact hlt
   ·have:=h1 x hx;exact zO.lt_le hlt (by omega)
  ·split
   ·exact h
   ·rename_i hn h0;refine List.pairwise_cons.2 ⟨λx hx=>?_,ih h2⟩;rcases zbc.1 hx with rfl|hx
    ·have:=zO.anti x q;omega
    ·exact h1 x hx
theorem PM(l:List (List Nd)):Up (jT l):=by
 induction l with
 | nil=>trivial
 | cons p r ih=>exact zlP ih
theorem zeL{a:List Nd}{l:List (List Nd)}(h:Up (a :: l)):Up l:=by
 rw [OD] at h ⊢;exact(List.pairwise_cons.1 h).2
theorem zgX:∀ {l m:List (List Nd)},Up l->Up m->(∀x,x∈l↔x∈m)->l=m:=by
 intro l
 induction l with
 | nil =>
  intro m _ _ h
  rcases m with _|⟨b,m⟩
  ·rfl
  ·have:=(h b).2 (by simp);cases this
 | cons a l ih =>
  intro m hl hm h
  rcases m with _|⟨b,m⟩
  ·have:=(h a).1 (by simp);cases this
  have pl:=OD.1 hl
  have pm:=OD.1 hm
  obtain⟨l1,l2⟩:=List.pairwise_cons.1 pl
  obtain⟨m1,m2⟩:=List.pairwise_cons.1 pm
  have e:a=b:=by
   rcases List.mem_cons.1 ((h a).1 (by simp)) with e|ha
   ·exact e
   rcases List.mem_cons.1 ((h b).2 (by simp)) with e|hb
   ·exact e.symm
   have q1:=m1 a ha;have q2:=l1 b hb;have:=zO.anti a b;omega
  subst e
  have hl':=zeL hl
  have hm':=zeL hm
  rw [ih hl' hm' λx=>?_]
  have hx:=h x
  simp only [List.mem_cons] at hx
  constructor
  ·intro k
   rcases hx.1 (.inr k) with e|k'
   ·subst e;have:=l1 x k;rw [zO.self] at this;omega
   ·exact k'
  ·intro k
   rcases hx.2 (.inr k) with e|k'
   ·subst e;have:=m1 x k;rw [zO.self] at this;omega
   ·exact k'
theorem Ze{l m:List (List Nd)}(h:Up m)(hm:∀x,x∈m↔x∈l):jT l=m :=
 zgX (PM l) h λx=>by rw [vT,hm]
theorem zcT{l m:List (List Nd)}(h:∀x,x∈l↔x∈m):jT l=jT m :=
 Ze (PM m) λx=>by rw [vT,h]
theorem zfb{l:List (List Nd)}(h:Up l):jT l=l:=Ze h λ_=>Iff.rfl
theorem ze7{l:List (List Nd)}(h:Up l){i j:Nat}(hij:i<j)(hj:j<l.length):zu (l[i]'(by omega)) l[j]<0 :=
 List.pairwise_iff_getElem.1 (OD.1 h) i j (by omega) hj hij
def Of(lo:Option (List Nd))(p:List Nd):Bool:=match lo with|none=>true|some l=>decide (zu p l > 0)
def zbL(cur:Option (List Nd))(p:List Nd):Bool:=match cur with|none=>true|some c=>decide (zu p c<0)
def WW(lo cur:Option (List Nd))(p:List Nd):Option (List Nd):=if Of lo p && zbL cur p then some p else cur
def OI(lo:Option (List Nd))(l:List (List Nd)):Option (List Nd):=l.foldl (WW lo) none
def Zu(lo:Option (List Nd))(l:List (List Nd)):Option (List Nd)->Prop
 | none=>∀x∈l,Of lo x=false
 | some m=>m∈l/\Of lo m=true/\∀x∈l,Of lo x=true->zu m x<=0
theorem ziR(lo:Option (List Nd)):∀(l k:List (List Nd)) (cur:Option (List Nd)),Zu lo k cur->Zu lo (k ++ l) (l.foldl (WW lo) cur):=by
 intro l
 induction l with
 | nil=>intro k cur h;simpa using h
 | cons p l ih =>
  intro k cur h
  have e:k ++ p :: l=(k ++ [p])++ l:=by simp
  rw [e]
  refine ih (k ++ [p]) _ ?_
  unfold WW zbL
  rcases ha:Of lo p with _|_
  ·simp only [Bool.false_and,Bool.false_eq_true,if_false]
   rcases cur with _|c
   ·intro x hx;rcases List.mem_append.1 hx with hx|hx
    ·exact h x hx
    ·simp only [List.mem_cons,List.not_mem_nil,or_false] at hx;subst hx;exact ha
   ·refine⟨List.mem_append_left _ h.1,h.2.1,λx hx hax=>?_⟩;rcases List.mem_append.1 hx with hx|hx
    ·exact h.2.2 x hx hax
    ·simp only [List.mem_cons,List.not_mem_nil,or_false] at hx;subst hx;rw [ha] at hax;cases hax
  ·rcases cur with _|c
   ·simp only [Bool.true_and,if_true];refine⟨by simp,ha,λx hx hax=>?_⟩;rcases List.mem_append.1 hx with hx|hx
    ·rw [h x hx] at hax;cases hax
    ·simp only [List.mem_cons,List.not_mem_nil,or_false] at hx;subst hx;rw [zO.self];omega
   ·simp only [Bool.true_and,decide_eq_true_eq];split
    ·rename_i hlt;refine⟨by simp,ha,λx hx hax=>?_⟩;rcases List.mem_append.1 hx with hx|hx
     ·have:=h.2.2 x hx hax;have:=zO.lt_le hlt this;omega
     ·simp only [List.mem_cons,List.not_mem_nil,or_false] at hx;subst hx;rw [zO.self];omega
    ·rename_i hge;refine⟨List.mem_append_left _ h.1,h.2.1,λx hx hax=>?_⟩;rcases List.mem_append.1 hx with hx|hx
     ·exact h.2.2 x hx hax
     ·simp only [List.mem_cons,List.not_mem_nil,or_false] at hx;subst hx;have:=zO.anti x c;omega
theorem Tt(lo:Option (List Nd))(l:List (List Nd)):Zu lo l (OI lo l):=by
 exact ziR lo l [] none (λx hx=>by cases hx)
theorem V7(l:List (List Nd)):OI none l=(jT l)[0]?:=by
 have h:=Tt none l;rcases hc:OI none l with _|m
 ·rw [hc] at h;have e:l = []:=by
   rcases l with _|⟨a,l⟩
   ·rfl
   ·have:=h a (by simp);cases this
  subst e;rfl
 ·rw [hc] at h;obtain⟨h1,-,h3⟩:=h;rcases hs:jT l with _|⟨b,r⟩
  ·have:=vT.2 h1;rw [hs] at this;cases this
  ·have hb:b∈l:=vT.1 (by rw [hs];simp);have q:=h3 b hb rfl;have hm:m∈b :: r:=by rw [<-hs];exact vT.2 h1
   rcases List.mem_cons.1 hm with rfl|hm
   ·rfl
   ·have hu:=PM l;rw [hs,OD] at hu;have:=(List.pairwise_cons.1 hu).1 m hm;have:=zO.anti m b;omega
theorem Zh(l:List (List Nd))(i:Nat)(hi:i<(jT l).length):OI (some (jT l)[i]) l=(jT l)[i+1]?:=by
 have h:=Tt (some (jT l)[i]) l;have hu:=PM l;rcases hc:OI (some (jT l)[i]) l with _|m
 ·rw [hc] at h;rcases Nat.lt_or_ge (i+1) (jT l).length with hk|hk
  ·have SQ:(jT l)[i+1]∈l:=vT.1 (List.getElem_mem hk);have:=h _ SQ;have q:=ze7 hu (show i<i+1 by omega) hk;have a:=zO.anti (jT l)[i] (jT l)[i+1];simp only [Of,decide_eq_false_iff_not] at this;omega
  ·rw [List.getElem?_eq_none hk]
 ·rw [hc] at h;obtain⟨h1,h2,h3⟩:=h;obtain⟨j,hj,e⟩:=List.getElem_of_mem (vT.2 h1);simp only [Of,decide_eq_true_eq] at h2;have hij:i<j:=by
   rcases Nat.lt_or_ge i j with h|h
   ·exact h
   rcases Nat.lt_or_ge j i with h'|h'
   ·have:=ze7 hu h' hi;rw [e] at this;omega
   ·have:i=j:=by omega
    subst this;rw [<-e,zO.self] at h2;omega
  have hk:i+1<(jT l).length:=by omega
  rw [List.getElem?_eq_getElem hk];rcases Nat.lt_or_ge (i+1) j with h|h
  ·have q:=ze7 hu h hj;have a:=zO.anti (jT l)[i] (jT l)[i+1];have q2:=ze7 hu (show i<i+1 by omega) hk;have:=h3 (jT l)[i+1] (vT.1 (List.getElem_mem hk)) (by simp only [Of,decide_eq_true_eq];omega);rw [e] at q;have:=zO.anti m (jT l)[i+1];omega
  ·have:j=i+1:=by omega
   subst this;rw [e]
theorem Jg{L:List (List Nd)}:IZ L=0↔∀P∈L,zc P=0:=by
 induction L with
 | nil=>simp [IZ]
 | cons P r ih =>
  simp only [IZ,or2,List.mem_cons,forall_eq_or_imp]
  by_cases h:zc P=0
  ·rw [if_pos h,ih];exact⟨λq=>⟨h,q⟩,λq=>q.2⟩
  ·rw [if_neg h];exact⟨λq=>absurd q h,λq=>absurd q.1 h⟩
def setE(L:List (List Nd)):Int:=or2 (IZ L) (if 200<(jT L).flatten.length+1 then 4 else 0)
def setV(L:List (List Nd)):List Nd:=if setE L=0 then jm (jT L).length ::(jT L).flatten else []
theorem Ov{L:List (List Nd)}:setE L=0↔IZ L=0/\(jT L).flatten.length+1<=200:=by
 unfold setE or2;by_cases h:IZ L=0
 ·rw [if_pos h];by_cases h2:200<(jT L).flatten.length+1
  ·rw [if_pos h2];exact⟨λq=>by omega,λq=>by omega⟩
  ·rw [if_neg h2];exact⟨λ_=>⟨h,by omega⟩,λ_=>rfl⟩
 ·rw [if_neg h];exact⟨λq=>absurd q h,λq=>absurd q.1 h⟩
theorem Pq{L:List (List Nd)}(h:setE L=0):setV L=jm (jT L).length ::(jT L).flatten:=if_pos h
theorem ND{L:List (List Nd)}(h:setE L≠0):setV L = []:=if_neg h
theorem zjv{L:List (List Nd)}(h:setE L=0):zc (setV L)=0/\zf (setV L)=5/\zg (setV L)=jT L:=by
 obtain⟨h1,h2⟩:=Ov.1 h;have hV:∀Q∈jT L,IsV Q:=λQ hQ=>(zH.1 (Jg.1 h1 Q (vT.1 hQ))).2;obtain⟨a,b⟩:=zkM hV (PM L);rw [Pq h];exact⟨zH.2 ⟨by simp only [List.length_cons];omega,a⟩,rfl,b⟩
theorem ze4{L:List (List Nd)}{Q:List Nd}(h:Q∈L):Q.length<=L.flatten.length:=by
 induction L with
 | nil=>cases h
 | cons P r ih =>
  simp only [List.flatten_cons,List.length_append]
  rcases List.mem_cons.1 h with rfl|h
  ·omega
  ·have:=ih h;omega
theorem zcU{P:List Nd}(h:zc P=0)(h5:zf P=5):IZ (zg P)=0/\Up (zg P)/\setE (zg P)=0/\setV (zg P)=P:=by
 obtain⟨h1,h2⟩:=zH.1 h;obtain⟨a,b,c,d⟩:=ER h2 h5;have hl:=congrArg List.length a;simp only [List.length_cons] at hl;have hf:IZ (zg P)=0:=Jg.2 λQ hQ=>zH.2 ⟨by have:=ze4 hQ;omega,c Q hQ⟩;have he:setE (zg P)=0:=Ov.2 ⟨hf,by rw [zfb d];omega⟩;exact⟨hf,d,he,by rw [Pq he,zfb d,<-a]⟩
abbrev Fld:=ByteArray × List Nd
def zc7(x:Fld):List Fld->List Fld
 | [] => [x]
 | y :: r=>if jh x.1 y.1<0 then x :: y :: r else y :: zc7 x r
def sL:List Fld->List Fld
 | [] => []
 | x :: r=>zc7 x (sL r)
theorem WH(x:Fld)(l:List Fld):(zc7 x l).Perm (x :: l):=by
 induction l with
 | nil=>exact List.Perm.refl _
 | cons y r ih =>
  simp only [zc7]
  split
  ·exact List.Perm.refl _
  ·exact(List.Perm.cons y ih).trans (List.Perm.swap x y r)
theorem j9(l:List Fld):(sL l).Perm l:=by
 induction l with
 | nil=>exact List.Perm.refl _
 | cons x r ih=>exact(WH x _).trans (List.Perm.cons x ih)
abbrev Zw (l:List Fld):Prop:=l.Pairwise λa b=>jh a.1 b.1<0
theorem zih{x:Fld}{l:List Fld}(h:Zw l)(hx:∀y∈l,y.1≠x.1):Zw (zc7 x l):=by
 induction l with
 | nil=>simp [zc7,Zw]
 | cons y r ih =>
  obtain⟨h1,h2⟩:=List.pairwise_cons.1 h
  simp only [zc7]
  split
  ·rename_i hlt
   refine List.pairwise_cons.2 ⟨λz hz=>?_,h⟩;rcases List.mem_cons.1 hz with rfl|hz
   ·exact hlt
   ·have:=h1 z hz;exact jf.lt_le hlt (by omega)
  ·rename_i hn
   refine List.pairwise_cons.2 ⟨λz hz=>?_,ih h2 λz hz=>hx z (by simp [hz])⟩;rcases List.mem_cons.1 ((WH x r).mem_iff.1 hz) with rfl|hz
   ·have a:=jf.anti z.1 y.1;have:jh z.1 y.1≠0:=λe=>hx y (by simp) ((jf.zero _ _).1 e).symm;omega
   ·exact h1 z hz
theorem On{l:List Fld}(h:(l.map (·.1)).Nodup):Zw (sL l):=by
 induction l with
 | nil=>exact List.Pairwise.nil
 | cons x r ih =>
  simp only [List.map_cons,List.nodup_cons] at h
  refine zih (ih h.2) λy hy e=>h.1 ?_
  rw [<-e]
  exact List.mem_map_of_mem ((j9 r).mem_iff.1 hy)
theorem zef:∀ {l m:List Fld},Zw l->Zw m->(∀x,x∈l↔x∈m)->l=m:=by
 intro l
 induction l with
 | nil =>
  intro m _ _ h
  rcases m with _|⟨b,m⟩
  ·rfl
  ·have:=(h b).2 (by simp);cases this
 | cons a l ih =>
  intro m hl hm h
  rcases m with _|⟨b,m⟩
  ·have:=(h a).1 (by simp);cases this
  obtain⟨l1,l2⟩:=List.pairwise_cons.1 hl
  obtain⟨m1,m2⟩:=List.pairwise_cons.1 hm
  have e:a=b:=by
   rcases List.mem_cons.1 ((h a).1 (by simp)) with e|ha
   ·exact e
   rcases List.mem_cons.1 ((h b).2 (by simp)) with e|hb
   ·exact e.symm
   have q1:=m1 a ha;have q2:=l1 b hb;have:=jf.anti a.1 b.1;omega
  subst e
  rw [ih l2 m2 λx=>?_]
  have hx:=h x
  simp only [List.mem_cons] at hx
  constructor
  ·intro k
   rcases hx.1 (.inr k) with e|k'
   ·subst e;have:=l1 x k;rw [jf.self] at this;omega
   ·exact k'
  ·intro k
   rcases hx.2 (.inr k) with e|k'
   ·subst e;have:=m1 x k;rw [jf.self] at this;omega
   ·exact k'
def jB(Z:List Fld)(s:ByteArray):Nat:=(Z.filter λy=>decide (jh y.1 s<0)).length
theorem zaa{Z Y:List Fld}(h:Z.Perm Y)(s:ByteArray):jB Z s=jB Y s:=(h.filter _).length_eq
theorem zbY(Z:List Fld)(s:ByteArray)(k:Nat)(h:k<Z.length):jB (Z.take (k+1)) s=jB (Z.take k) s+if jh Z[k].1 s<0 then 1 else 0:=by
 unfold jB;rw [<-List.take_append_getElem h,List.filter_append,List.length_append];by_cases hc:jh Z[k].1 s<0
 ·simp [hc]
 ·simp [hc]
theorem zgU(Z:List Fld)(s:ByteArray):jB Z s<=Z.length:=List.length_filter_le _ _
theorem zdz{S:List Fld}{s:ByteArray}{k:Nat}(hk:k<=S.length)(h1:∀y∈S.take k,jh y.1 s<0)(h2:∀y∈S.drop k,¬jh y.1 s<0):jB S s=k:=by
 unfold jB
 conv=>lhs;rw [<-List.take_append_drop k S]
 rw [List.filter_append,List.filter_eq_self.2 (λy hy=>decide_eq_true (h1 y hy)),List.filter_eq_nil_iff.2 (λy hy=>by rw [decide_eq_true_eq];exact h2 y hy),List.append_nil,List.length_take];omega
theorem zcO{S:List Fld}(h:Zw S)(k:Nat)(hk:k<S.length):jB S S[k].1=k:=by
 refine zdz (by omega) ?_ ?_
 ·intro y hy;obtain⟨j,hj,rfl⟩:=List.getElem_of_mem hy;have hj':j<k:=by simp at hj;omega
  rw [List.getElem_take];exact List.pairwise_iff_getElem.1 h j k (by omega) hk hj'
 ·intro y hy;obtain⟨j,hj,rfl⟩:=List.getElem_of_mem hy;rw [List.getElem_drop];rcases Nat.eq_zero_or_pos j with rfl|h0
  ·simp only [Nat.add_zero];rw [jf.self];omega
  ·have hj':k+j<S.length:=by simp at hj;omega
   have:=List.pairwise_iff_getElem.1 h k (k+j) hk hj' (by omega);have:=jf.anti S[k].1 S[k+j].1;omega
theorem zpt{Z:List Fld}(h:(Z.map (·.1)).Nodup)(r:Nat)(hr:r<(sL Z).length):(Z.filter λx=>decide (jB Z x.1=r))= [(sL Z)[r]]:=by
 have hp:=j9 Z;have hrow:=On h;have e:((sL Z).filter λx=>decide (jB Z x.1=r))= [(sL Z)[r]]:=by
  have hk:∀k,(hk:k<(sL Z).length)->jB Z (sL Z)[k].1=k:=λk hk=>by
   rw [<-zaa hp];exact zcO hrow k hk
  conv=>lhs;rw [<-List.take_append_drop r (sL Z)]
  rw [List.filter_append,List.filter_eq_nil_iff.2,List.nil_append,List.drop_eq_getElem_cons hr,List.filter_cons_of_pos (by rw [hk r hr];simp),List.filter_eq_nil_iff.2]
  ·intro y hy;obtain⟨j,hj,rfl⟩:=List.getElem_of_mem hy;have hj':r+1+j<(sL Z).length:=by simp at hj;omega
   rw [List.getElem_drop,hk _ hj'];simp;omega
  ·intro y hy;obtain⟨j,hj,rfl⟩:=List.getElem_of_mem hy;have hj':j<r:=by simp at hj;omega
   rw [List.getElem_take,hk _ (by omega)];simp;omega
 have:=(hp.filter λx=>decide (jB Z x.1=r)).symm;rw [e] at this;exact List.perm_singleton.1 this
theorem MB(a b:List Fld):zw (a ++ b)=zw a ++ zw b:=by
 induction a with
 | nil=>rfl
 | cons x r ih=>simp only [List.cons_append,zw,ih,List.append_assoc]
theorem Nb{a b:List Fld}(h:a.Perm b):(zw a).length=(zw b).length:=by
 induction h with
 | nil=>rfl
 | cons x _ ih=>simp only [zw,List.length_cons,List.length_append,ih]
 | swap x y l=>simp only [zw,List.length_cons,List.length_append];omega
 | trans _ _ h1 h2=>exact h1.trans h2
theorem Rp(x:Fld):zw [x]=bX x.1 :: x.2:=by simp [zw]
theorem Pm(Z:List Fld)(k:Nat)(h:k<Z.length):zw (Z.take (k+1))=zw (Z.take k)++ bX Z[k].1 :: Z[k].2:=by
 rw [<-List.take_append_getElem h,MB,Rp]
theorem I1(Z:List Fld)(k:Nat):(zw (Z.take k)).length<=(zw Z).length:=by
 conv=>rhs;rw [<-List.take_append_drop k Z]
 rw [MB,List.length_append];omega
def Mt(N:List ByteArray)(s:ByteArray):Bool:=N.any λy=>decide (jh y s=0)
theorem Tz{N:List ByteArray}{s:ByteArray}:Mt N s=true↔s∈N:=by
 unfold Mt;rw [List.any_eq_true];constructor
 ·rintro ⟨y,h1,h2⟩;have e:=(jf.zero y s).1 (by simpa using h2);subst e;exact h1
 ·intro h;exact⟨s,h,by simp [jf.self]⟩
def py:List ByteArray->List Fld->Int
 | _,[]=>0
 | N,x :: r=>or2 (zh x.1) (or2 (if Mt N x.1 then 6 else 0) (or2 (zc x.2) (py (N ++ [x.1]) r)))
theorem Le{N:List ByteArray}{Z:List Fld}:py N Z=0↔(∀x∈Z,zh x.1=0/\zc x.2=0)/\(Z.map (·.1)).Nodup/\∀x∈Z,x.1 ∉ N:=by
 induction Z generalizing N with
 | nil=>simp [py]
 | cons x r ih =>
  simp only [py,or2]
  by_cases h1:zh x.1=0
  ·rw [if_pos h1]
   by_cases h2:x.1∈N
   ·rw [if_pos (Tz.2 h2),if_neg (by omega)];exact⟨λq=>by omega,λq=>absurd h2 (q.2.2 x (by simp))⟩
   ·rw [if_neg (λq=>h2 (Tz.1 q)),if_pos rfl];by_cases h3:zc x.2=0
    ·rw [if_pos h3,ih];simp only [List.mem_cons,forall_eq_or_imp,List.map_cons,List.nodup_cons,List.mem_append,List.not_mem_nil,or_false,not_or];constructor
     ·rintro ⟨a,b,c⟩;refine⟨⟨⟨h1,h3⟩,a⟩,⟨λq=>?_,b⟩,h2,λy hy=>(c y hy).1⟩;obtain⟨y,hy,e⟩:=List.mem_map.1 q;exact(c y hy).2 e
     ·rintro ⟨⟨-,a⟩,⟨b,c⟩,-,d⟩;exact⟨a,c,λy hy=>⟨d y hy,λe=>b (by rw [<-e];exact List.mem_map_of_mem hy)⟩⟩
    ·rw [if_neg h3];exact⟨λq=>absurd q h3,λq=>absurd (q.1 x (by simp)).2 h3⟩
  ·rw [if_neg h1]
   exact⟨λq=>absurd q h1,λq=>absurd (q.1 x (by simp)).1 h1⟩
def oC(N:List ByteArray)(L:List (List Nd)):Int :=
 if N.length=L.length then or2 (py [] (N.zip L)) (if 200<(zw (N.zip L)).length+1 then 4 else 0) else 1
def Ki(N:List ByteArray)(L:List (List Nd)):List Nd:=if oC N L=0 then zG N.length :: zw (sL (N.zip L)) else []
theorem Xq{N:List ByteArray}{L:List (List Nd)}:oC N L=0↔N.length=L.length/\py [] (N.zip L)=0/\(zw (N.zip L)).length+1<=200:=by
 unfold oC or2;by_cases h0:N.length=L.length
 ·rw [if_pos h0];by_cases h:py [] (N.zip L)=0
  ·rw [if_pos h];by_cases h2:200<(zw (N.zip L)).length+1
   ·rw [if_pos h2];exact⟨λq=>by omega,λq=>by omega⟩
   ·rw [if_neg h2];exact⟨λ_=>⟨h0,h,by omega⟩,λ_=>rfl⟩
  ·rw [if_neg h];exact⟨λq=>absurd q h,λq=>absurd q.2.1 h⟩
 ·rw [if_neg h0];exact⟨λq=>by omega,λq=>absurd q.1 h0⟩
theorem S5{N:List ByteArray}{L:List (List Nd)}(h:oC N L=0):Ki N L=zG N.length :: zw (sL (N.zip L)):=if_pos h
theorem UE{N:List ByteArray}{L:List (List Nd)}(h:oC N L≠0):Ki N L = []:=if_neg h
theorem zlU{l:List Fld}:∀ {last:ByteArray},Zw l->(∀x∈l,jh last x.1<0)->UpB last l:=by
 induction l with
 | nil=>intro _ _ _;trivial
 | cons x r ih =>
  intro last h hl
  obtain⟨h1,h2⟩:=List.pairwise_cons.1 h
  exact⟨hl x (by simp),ih h2 h1⟩
theorem zjw{s:ByteArray}(h:zh s=0):jh .empty s<0:=by
 have hs:0<s.size:=by
  rcases Nat.eq_zero_or_pos s.size with h0|h0
  ·have e:s=⟨#[]⟩:=ql (List.eq_nil_of_length_eq_zero (by rw [Array.length_toList];exact h0));subst e;exact absurd h (by decide)
  ·exact h0
 have h1:jh .empty s≠0:=λe=>by
  have e':=(jf.zero _ _).1 e;subst e';simp at hs
 have:=jf.rng .empty s;have hle:jh .empty s<=0:=by
  unfold jh;rcases hd:s.data.toList with _|⟨b,r⟩
  ·show Lib.compareBytes [] []<=0;simp [Lib.compareBytes]
  ·show Lib.compareBytes [] (b :: r)<=0;simp [Lib.compareBytes]
 omega
theorem zia{N:List ByteArray}{L:List (List Nd)}(h:oC N L=0):zc (Ki N L)=0/\zf (Ki N L)=6/\zo (Ki N L)=sL (N.zip L):=by
 obtain⟨h1,h2,h3⟩:=Xq.1 h;obtain⟨a,b,-⟩:=Le.1 h2;have hp:=j9 (N.zip L);have hV:∀x∈sL (N.zip L),IsV x.2/\zh x.1=0:=λx hx =>
  let q:=a x (hp.mem_iff.1 hx);⟨(zH.1 q.2).2,q.1⟩
 obtain⟨c,d⟩:=zlI hV (zlU (On b) λx hx=>zjw (hV x hx).2);have hl:(sL (N.zip L)).length=N.length:=by rw [hp.length_eq,List.length_zip];omega
 rw [hl] at c d;rw [S5 h];refine⟨zH.2 ⟨?_,c⟩,rfl,d⟩;have:=Nb hp;simp only [List.length_cons];omega
def Xi(t:List Nd):Int:=if 200<t.length then 4 else if(zmC t).isSome then 0 else 1
def znd(s:ByteArray)(m:Bool)(k:Kd):Fl->Fl
 | .nil => .cons s m k .nil
 | .cons t m' k' r=>if jh s t<0 then .cons s m k (.cons t m' k' r) else .cons t m' k' (znd s m k r)
def zjt:Fl->Fl->Fl
 | .nil,_ => .nil
 | .cons s _ k r,f=>if(f.find s).isSome then zjt r f else .cons s false k (zjt r f)
mutual
def zil:Kd->Kd->Kd
 | .base x,b=>if x=49 then b else if Ss b then b else if isNone b then .base x else if x=48 then .base 48 else(match b with | .base y=>if x=y then .base x else .base 48|_ => .base 48)
 | .ent s,b=>if Ss b then b else if isNone b then .ent s else(match b with | .ent t=>if s=t then .ent s else .base 48|_ => .base 48)
 | .set p,b=>if Ss b then b else if isNone b then .set p else(match b with | .set q => .set (zil p q)|_ => .base 48)
 | .fs f,b=>if Ss b then b else if isNone b then .fs f else(match b with | .fs g => .fs (zjj f g (zjt g f))|_ => .base 48)
def zjj:Fl->Fl->Fl->Fl
 | .nil,_,acc=>acc
 | .cons s m k r,g,acc=>match g.find s with
  | none=>znd s false k (zjj r g acc)
  | some (m',k')=>znd s (m && m') (zil k k') (zjj r g acc)
end
end Go.Wk
