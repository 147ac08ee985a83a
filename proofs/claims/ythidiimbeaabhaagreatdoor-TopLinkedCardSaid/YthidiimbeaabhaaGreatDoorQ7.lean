/-
  Plain: types and values as nodes that are handed in: below, joined, had, own. ..
-/
import Derived.Test.YthidiimbeaabhaaGreatDoorQ3
import Derived.Test.YthidiimbeaabhaaGreatDoorQ6
set_option maxRecDepth 100000
namespace Go.Wk
def Ju(T V:List Nd):Int:=if pJ T=0 then zc V else pJ T
def Js(T V:List Nd):Bool:=decide (Ju T V=0)&&(match G6 T with
 | some k=>wa (Ln V) k
 | none=>false)
def tl(p:List Nd):List (List Nd)->List (List Nd)
 | [] => [p]
 | q :: r=>if zx p q<0 then p :: q :: r else if zx p q=0 then q :: r else q :: tl p r
def eZ:List (List Nd)->List (List Nd)
 | [] => []
 | p :: r=>tl p (eZ r)
theorem tf{p x:List Nd}{l:List (List Nd)}:x∈tl p l↔x=p\/x∈l:=by
 induction l with
 | nil=>simp [tl]
 | cons q r ih =>
  simp only [tl]
  split
  ·simp
  ·split
   ·rename_i h0;have e:=(zO.zero p q).1 h0;subst e;simp
   ·simp only [List.mem_cons,ih];constructor
    ·rintro (h|h|h)<;> simp [h]
    ·rintro (h|h|h)<;> simp [h]
theorem i4{x:List Nd}{l:List (List Nd)}:x∈eZ l↔x∈l:=by
 induction l with
 | nil=>simp [eZ]
 | cons p r ih=>simp only [eZ,tf,ih,List.mem_cons]
theorem mh{l:List (List Nd)}:Up l↔l.Pairwise (λa b=>zx a b<0):=by
 induction l with
 | nil=>simp [Up]
 | cons a r ih =>
  rcases r with _|⟨b,r⟩
  ·simp [Up]
  ·simp only [Up,ih]
   constructor
   ·rintro ⟨h1,h2⟩;refine List.pairwise_cons.2 ⟨λx hx=>?_,h2⟩;rcases List.mem_cons.1 hx with rfl|hx
    ·exact h1
    ·have:=(List.pairwise_cons.1 h2).1 x hx;exact zO.lt_le h1 (by omega)
   ·intro h;exact⟨(List.pairwise_cons.1 h).1 b (by simp),(List.pairwise_cons.1 h).2⟩
theorem Ff{p:List Nd}{l:List (List Nd)}(h:Up l):Up (tl p l):=by
 rw [mh] at h ⊢
 induction l with
 | nil=>simp [tl]
 | cons q r ih =>
  obtain⟨h1,h2⟩:=List.pairwise_cons.1 h
  simp only [tl]
  split
  ·rename_i hlt
   refine List.pairwise_cons.2 ⟨λx hx=>?_,h⟩;rcases List.mem_cons.1 hx with rfl|hx
   ·exact hlt
   ·have:=h1 x hx;exact zO.lt_le hlt (by omega)
  ·split
   ·exact h
   ·rename_i hn h0;refine List.pairwise_cons.2 ⟨λx hx=>?_,ih h2⟩;rcases tf.1 hx with rfl|hx
    ·have:=zO.anti x q;omega
    ·exact h1 x hx
theorem qK(l:List (List Nd)):Up (eZ l):=by
 induction l with
 | nil=>trivial
 | cons p r ih=>exact Ff ih
theorem xq{a:List Nd}{l:List (List Nd)}(h:Up (a :: l)):Up l:=by
 rw [mh] at h ⊢;exact(List.pairwise_cons.1 h).2
theorem yu:∀ {l m:List (List Nd)},Up l->Up m->(∀x,x∈l↔x∈m)->l=m:=by
 intro l
 induction l with
 | nil =>
  intro m _ _ h
  rcases m with _|⟨b,m⟩
  ·rfl
  ·have:=(h b).2 (by simp);cases this
 | cons a l ih =>
  intro m hl hm h
  rcases m with _|⟨b,m⟩
  ·have:=(h a).1 (by simp);cases this
  have pl:=mh.1 hl
  have pm:=mh.1 hm
  obtain⟨l1,l2⟩:=List.pairwise_cons.1 pl
  obtain⟨m1,m2⟩:=List.pairwise_cons.1 pm
  have e:a=b:=by
   rcases List.mem_cons.1 ((h a).1 (by simp)) with e|ha
   ·exact e
   rcases List.mem_cons.1 ((h b).2 (by simp)) with e|hb
   ·exact e.symm
   have q1:=m1 a ha;have q2:=l1 b hb;have:=zO.anti a b;omega
  subst e
  have hl':=xq hl
  have IR:=xq hm
  rw [ih hl' IR λx=>?_]
  have hx:=h x
  simp only [List.mem_cons] at hx
  constructor
  ·intro k
   rcases hx.1 (.inr k) with e|k'
   ·subst e;have:=l1 x k;rw [zO.self] at this;omega
   ·exact k'
  ·intro k
   rcases hx.2 (.inr k) with e|k'
   ·subst e;have:=m1 x k;rw [zO.self] at this;omega
   ·exact k'
theorem wS{l m:List (List Nd)}(h:Up m)(hm:∀x,x∈m↔x∈l):eZ l=m :=
 yu (qK l) h λx=>by rw [i4,hm]
theorem uQ{l m:List (List Nd)}(h:∀x,x∈l↔x∈m):eZ l=eZ m :=
 wS (qK m) λx=>by rw [i4,h]
def JA(lo:Option (List Nd))(p:List Nd):Bool:=match lo with|none=>true|some l=>decide (zx p l > 0)
def Jy(cur:Option (List Nd))(p:List Nd):Bool:=match cur with|none=>true|some c=>decide (zx p c<0)
def least(lo cur:Option (List Nd))(p:List Nd):Option (List Nd):=if JA lo p && Jy cur p then some p else cur
theorem lh{L:List (List Nd)}:dW L=0↔∀P∈L,zc P=0:=by
 induction L with
 | nil=>simp [dW]
 | cons P r ih =>
  simp only [dW,or2,List.mem_cons,forall_eq_or_imp]
  by_cases h:zc P=0
  ·rw [if_pos h,ih];exact⟨λq=>⟨h,q⟩,λq=>q.2⟩
  ·rw [if_neg h];exact⟨λq=>absurd q h,λq=>absurd q.1 h⟩
def setE(L:List (List Nd)):Int:=or2 (dW L) (if 200<(eZ L).flatten.length+1 then 4 else 0)
def ga(L:List (List Nd)):List Nd:=if setE L=0 then aI (eZ L).length ::(eZ L).flatten else []
theorem qd{L:List (List Nd)}:setE L=0↔dW L=0/\(eZ L).flatten.length+1<=200:=by
 unfold setE or2;by_cases h:dW L=0
 ·rw [if_pos h];by_cases h2:200<(eZ L).flatten.length+1
  ·rw [if_pos h2];exact⟨λq=>by omega,λq=>by omega⟩
  ·rw [if_neg h2];exact⟨λ_=>⟨h,by omega⟩,λ_=>rfl⟩
 ·rw [if_neg h];exact⟨λq=>absurd q h,λq=>absurd q.1 h⟩
theorem xG{L:List (List Nd)}(h:setE L=0):ga L=aI (eZ L).length ::(eZ L).flatten:=if_pos h
theorem uj{L:List (List Nd)}(h:setE L≠0):ga L = []:=if_neg h
theorem DJ{L:List (List Nd)}(h:setE L=0):zc (ga L)=0/\zg (ga L)=5/\zy (ga L)=eZ L:=by
 obtain⟨h1,h2⟩:=qd.1 h;have hV:∀Q∈eZ L,IsV Q:=λQ hQ=>(zL.1 (lh.1 h1 Q (i4.1 hQ))).2;obtain⟨a,b⟩:=Gg hV (qK L);rw [xG h];exact⟨zL.2 ⟨by simp only [List.length_cons];omega,a⟩,rfl,b⟩
abbrev Fld:=ByteArray × List Nd
def wI(x:Fld):List Fld->List Fld
 | [] => [x]
 | y :: r=>if ai x.1 y.1<0 then x :: y :: r else y :: wI x r
def cO:List Fld->List Fld
 | [] => []
 | x :: r=>wI x (cO r)
theorem qh(x:Fld)(l:List Fld):(wI x l).Perm (x :: l):=by
 induction l with
 | nil=>exact List.Perm.refl _
 | cons y r ih =>
  simp only [wI]
  split
  ·exact List.Perm.refl _
  ·exact(List.Perm.cons y ih).trans (List.Perm.swap x y r)
theorem aW(l:List Fld):(cO l).Perm l:=by
 induction l with
 | nil=>exact List.Perm.refl _
 | cons x r ih=>exact(qh x _).trans (List.Perm.cons x ih)
abbrev Dw (l:List Fld):Prop:=l.Pairwise λa b=>ai a.1 b.1<0
theorem C6{x:Fld}{l:List Fld}(h:Dw l)(hx:∀y∈l,y.1≠x.1):Dw (wI x l):=by
 induction l with
 | nil=>simp [wI,Dw]
 | cons y r ih =>
  obtain⟨h1,h2⟩:=List.pairwise_cons.1 h
  simp only [wI]
  split
  ·rename_i hlt
   refine List.pairwise_cons.2 ⟨λz hz=>?_,h⟩;rcases List.mem_cons.1 hz with rfl|hz
   ·exact hlt
   ·have:=h1 z hz;exact jB.lt_le hlt (by omega)
  ·rename_i hn
   refine List.pairwise_cons.2 ⟨λz hz=>?_,ih h2 λz hz=>hx z (by simp [hz])⟩;rcases List.mem_cons.1 ((qh x r).mem_iff.1 hz) with rfl|hz
   ·have a:=jB.anti z.1 y.1;have:ai z.1 y.1≠0:=λe=>hx y (by simp) ((jB.zero _ _).1 e).symm;omega
   ·exact h1 z hz
theorem pW{l:List Fld}(h:(l.map (·.1)).Nodup):Dw (cO l):=by
 induction l with
 | nil=>exact List.Pairwise.nil
 | cons x r ih =>
  simp only [List.map_cons,List.nodup_cons] at h
  refine C6 (ih h.2) λy hy e=>h.1 ?_
  rw [<-e]
  exact List.mem_map_of_mem ((aW r).mem_iff.1 hy)
theorem kw(a b:List Fld):zY (a ++ b)=zY a ++ zY b:=by
 induction a with
 | nil=>rfl
 | cons x r ih=>simp only [List.cons_append,zY,ih,List.append_assoc]
theorem iD{a b:List Fld}(h:a.Perm b):(zY a).length=(zY b).length:=by
 induction h with
 | nil=>rfl
 | cons x _ ih=>simp only [zY,List.length_cons,List.length_append,ih]
 | swap x y l=>simp only [zY,List.length_cons,List.length_append];omega
 | trans _ _ h1 h2=>exact h1.trans h2
theorem Au(x:Fld):zY [x]=cF x.1 :: x.2:=by simp [zY]
theorem vX(Z:List Fld)(k:Nat)(h:k<Z.length):zY (Z.take (k+1))=zY (Z.take k)++ cF Z[k].1 :: Z[k].2:=by
 rw [<-List.take_append_getElem h,kw,Au]
theorem oK(Z:List Fld)(k:Nat):(zY (Z.take k)).length<=(zY Z).length:=by
 conv=>rhs;rw [<-List.take_append_drop k Z]
 rw [kw,List.length_append];omega
def lO(N:List ByteArray)(s:ByteArray):Bool:=N.any λy=>decide (ai y s=0)
theorem ut{N:List ByteArray}{s:ByteArray}:lO N s=true↔s∈N:=by
 unfold lO;rw [List.any_eq_true];constructor
 ·rintro ⟨y,h1,h2⟩;have e:=(jB.zero y s).1 (by simpa using h2);subst e;exact h1
 ·intro h;exact⟨s,h,by simp [jB.self]⟩
def bf:List ByteArray->List Fld->Int
 | _,[]=>0
 | N,x :: r=>or2 (zk x.1) (or2 (if lO N x.1 then 6 else 0) (or2 (zc x.2) (bf (N ++ [x.1]) r)))
theorem lE{N:List ByteArray}{Z:List Fld}:bf N Z=0↔(∀x∈Z,zk x.1=0/\zc x.2=0)/\(Z.map (·.1)).Nodup/\∀x∈Z,x.1 ∉ N:=by
 induction Z generalizing N with
 | nil=>simp [bf]
 | cons x r ih =>
  simp only [bf,or2]
  by_cases h1:zk x.1=0
  ·rw [if_pos h1]
   by_cases h2:x.1∈N
   ·rw [if_pos (ut.2 h2),if_neg (by omega)];exact⟨λq=>by omega,λq=>absurd h2 (q.2.2 x (by simp))⟩
   ·rw [if_neg (λq=>h2 (ut.1 q)),if_pos rfl];by_cases h3:zc x.2=0
    ·rw [if_pos h3,ih];simp only [List.mem_cons,forall_eq_or_imp,List.map_cons,List.nodup_cons,List.mem_append,List.not_mem_nil,or_false,not_or];constructor
     ·rintro ⟨a,b,c⟩;refine⟨⟨⟨h1,h3⟩,a⟩,⟨λq=>?_,b⟩,h2,λy hy=>(c y hy).1⟩;obtain⟨y,hy,e⟩:=List.mem_map.1 q;exact(c y hy).2 e
     ·rintro ⟨⟨-,a⟩,⟨b,c⟩,-,d⟩;exact⟨a,c,λy hy=>⟨d y hy,λe=>b (by rw [<-e];exact List.mem_map_of_mem hy)⟩⟩
    ·rw [if_neg h3];exact⟨λq=>absurd q h3,λq=>absurd (q.1 x (by simp)).2 h3⟩
  ·rw [if_neg h1]
   exact⟨λq=>absurd q h1,λq=>absurd (q.1 x (by simp)).1 h1⟩
def cb(N:List ByteArray)(L:List (List Nd)):Int :=
 if N.length=L.length then or2 (bf [] (N.zip L)) (if 200<(zY (N.zip L)).length+1 then 4 else 0) else 1
def gP(N:List ByteArray)(L:List (List Nd)):List Nd:=if cb N L=0 then zP N.length :: zY (cO (N.zip L)) else []
theorem yL{N:List ByteArray}{L:List (List Nd)}:cb N L=0↔N.length=L.length/\bf [] (N.zip L)=0/\(zY (N.zip L)).length+1<=200:=by
 unfold cb or2;by_cases h0:N.length=L.length
 ·rw [if_pos h0];by_cases h:bf [] (N.zip L)=0
  ·rw [if_pos h];by_cases h2:200<(zY (N.zip L)).length+1
   ·rw [if_pos h2];exact⟨λq=>by omega,λq=>by omega⟩
   ·rw [if_neg h2];exact⟨λ_=>⟨h0,h,by omega⟩,λ_=>rfl⟩
  ·rw [if_neg h];exact⟨λq=>absurd q h,λq=>absurd q.2.1 h⟩
 ·rw [if_neg h0];exact⟨λq=>by omega,λq=>absurd q.1 h0⟩
theorem xB{N:List ByteArray}{L:List (List Nd)}(h:cb N L=0):gP N L=zP N.length :: zY (cO (N.zip L)):=if_pos h
theorem Cv{N:List ByteArray}{L:List (List Nd)}(h:cb N L≠0):gP N L = []:=if_neg h
theorem E8{l:List Fld}:∀ {last:ByteArray},Dw l->(∀x∈l,ai last x.1<0)->UpB last l:=by
 induction l with
 | nil=>intro _ _ _;trivial
 | cons x r ih =>
  intro last h hl
  obtain⟨h1,h2⟩:=List.pairwise_cons.1 h
  exact⟨hl x (by simp),ih h2 h1⟩
theorem Ch{s:ByteArray}(h:zk s=0):ai .empty s<0:=by
 have hs:0<s.size:=by
  rcases Nat.eq_zero_or_pos s.size with h0|h0
  ·have e:s=⟨#[]⟩:=j4 (List.eq_nil_of_length_eq_zero (by rw [Array.length_toList];exact h0));subst e;exact absurd h (by decide)
  ·exact h0
 have h1:ai .empty s≠0:=λe=>by
  have e':=(jB.zero _ _).1 e;subst e';simp at hs
 have:=jB.rng .empty s;have hle:ai .empty s<=0:=by
  unfold ai;rcases hd:s.data.toList with _|⟨b,r⟩
  ·show Lib.compareBytes [] []<=0;simp [Lib.compareBytes]
  ·show Lib.compareBytes [] (b :: r)<=0;simp [Lib.compareBytes]
 omega
theorem Ba{N:List ByteArray}{L:List (List Nd)}(h:cb N L=0):zc (gP N L)=0/\zg (gP N L)=6/\zX (gP N L)=cO (N.zip L):=by
 obtain⟨h1,h2,h3⟩:=yL.1 h;obtain⟨a,b,-⟩:=lE.1 h2;have hp:=aW (N.zip L);have hV:∀x∈cO (N.zip L),IsV x.2/\zk x.1=0:=λx hx =>
  let q:=a x (hp.mem_iff.1 hx);⟨(zL.1 q.2).2,q.1⟩
 obtain⟨c,d⟩:=Gn hV (E8 (pW b) λx hx=>Ch (hV x hx).2);have hl:(cO (N.zip L)).length=N.length:=by rw [hp.length_eq,List.length_zip];omega
 rw [hl] at c d;rw [xB h];refine⟨zL.2 ⟨?_,c⟩,rfl,d⟩;have:=iD hp;simp only [List.length_cons];omega
structure KD where
 nm:ByteArray
 up:List ByteArray
 P:List Nd
structure AD where
 id:ByteArray
 who:List ByteArray
 what:List ByteArray
 P:List Nd
theorem zt{x y:Int}:or2 x y=0↔x=0/\y=0:=by
 unfold or2;split
 ·rename_i h;simp [h]
 ·rename_i h;simp [h]
mutual
inductive Ex
 | node (n:Nd) (ps:Exs)
inductive Exs
 | nil
 | cons (x:Ex) (r:Exs)
end
mutual
def Ex.flat:Ex->List Nd
 | .node n ps=>n :: ps.flat
def Exs.flat:Exs->List Nd
 | .nil => []
 | .cons x r=>x.flat ++ r.flat
end
def Exs.len:Exs->Nat
 | .nil=>0
 | .cons _ r=>r.len+1
def Ex.head:Ex->Nd
 | .node n _=>n
def Ex.parts:Ex->Exs
 | .node _ ps=>ps
def zJ(x:Nd):Int :=
 if x.op=5\/x.op=6 then x.n
 else if 1<=x.op/\x.op<=4\/x.op=8 then 0
 else if x.op=7\/x.op=9\/x.op=10\/21<=x.op/\x.op<=24 then 1
 else if x.op=13 then 3
 else if 11<=x.op/\x.op<=20\/25<=x.op/\x.op<=27 then 2
 else -1
def Jw:List (List UInt8):= [[105,102],[116,104,101,110],[101,108,115,101],[116,114,117,101],[102,97,108,115,101],[105,110],[104,97,115],[108,105,107,101],[105,115]]
def ja(s:ByteArray):Bool:=Jw.contains s.data.toList
def dM(s:ByteArray):Bool :=
 if s.data.toList.head?=some 63 then decide (zk (s.extract 1 s.size)=0) else decide (zk s=0)&& !ja s
def jE(x:Nd):Bool :=
 if 1<=x.op/\x.op<=7 then zD x
 else if zJ x<0\/x.n≠0\/x.t≠emp then false
 else if x.op=8 then dM x.s
 else if x.op=21\/x.op=22\/x.op=24 then decide (zk x.s=0)
 else if x.op=23 then decide (zA x.s=0)
 else decide (x.s=emp)
def cL(f:Bool)(x:Nd):Bool:=jE x &&(decide (x.op=7)==f)
def ae(x:Nd):Bool:=decide (x.op=6)
mutual
def Ex.valid:Ex->Bool->Prop
 | .node n ps,f=>cL f n=true/\(ps.len:Int)=zJ n/\ps.valid (ae n) emp
def Exs.valid:Exs->Bool->ByteArray->Prop
 | .nil,_,_=>True
 | .cons x r,c,s=>(c=true->ai s x.head.s<0)/\x.valid c/\r.valid c x.head.s
end
mutual
def jO:Nat->Bool->List Nd->Option (Ex × List Nd)
 | 0,_,_=>none
 | _+1,_,[]=>none
 | m+1,f,x :: r =>
  if cL f x=true then(match jn m (zJ x).toNat (ae x) emp r with
   | none=>none
   | some (ps,r')=>some (.node x ps,r')) else none
def jn:Nat->Nat->Bool->ByteArray->List Nd->Option (Exs × List Nd)
 | _,0,_,_,r=>some (.nil,r)
 | 0,_+1,_,_,_=>none
 | _+1,_+1,_,_,[]=>none
 | m+1,c+1,k,s,y :: r =>
  if k=true/\¬ai s y.s<0 then none
  else(match jO m k (y :: r) with
   | none=>none
   | some (x,r')=>match jn m c k y.s r' with
    | none=>none
    | some (ps,r'')=>some (.cons x ps,r''))
end
theorem yo{x:Nd}(h:zD x=true)(h5:x.op=5\/x.op=6):0<=x.n:=by
 unfold zD at h;rw [if_neg (by omega),if_neg (by omega),if_neg (by omega),if_neg (by omega),if_pos h5] at h;simp only [Bool.and_eq_true,decide_eq_true_eq] at h;exact h.1.1
theorem nD{x:Nd}(h:jE x=true):0<=zJ x:=by
 unfold jE at h;by_cases h7:1<=x.op/\x.op<=7
 ·rw [if_pos h7] at h;unfold zJ;by_cases h5:x.op=5\/x.op=6
  ·rw [if_pos h5];exact yo h h5
  ·rw [if_neg h5];by_cases Ep:1<=x.op/\x.op<=4\/x.op=8
   ·rw [if_pos Ep];decide
   ·rw [if_neg Ep,if_pos (by omega)];decide
 ·rw [if_neg h7] at h;split at h
  ·cases h
  ·omega
theorem tg{f:Bool}{x:Nd}(h:cL f x=true):0<=zJ x:=by
 unfold cL at h;rw [Bool.and_eq_true] at h;exact nD h.1
theorem j6(x:Ex):1<=x.flat.length:=by cases x;simp [Ex.flat]
theorem ij(x:Ex):∃r,x.flat=x.head :: r:=by cases x;exact⟨_,rfl⟩
theorem aF:∀m:Nat,(∀f P x r,jO m f P=some (x,r)->x.valid f/\P=x.flat ++ r)/\(∀c k s P ps r,jn m c k s P=some (ps,r)->ps.valid k s/\ps.len=c/\P=ps.flat ++ r)
 | 0=>by
  refine⟨λf P x r h=>by simp [jO] at h,λc k s P ps r h=>?_⟩
  cases c with
  | zero =>
   simp only [jn,Option.some.injEq,Prod.mk.injEq] at h
   obtain⟨rfl,rfl⟩:=h
   exact⟨trivial,rfl,rfl⟩
  | succ c=>simp [jn] at h
 | m+1=>by
  obtain⟨ihX,ihS⟩:=aF m;refine⟨λf P x r h=>?_,λc k s P ps r h=>?_⟩
  ·cases P with
   | nil=>simp [jO] at h
   | cons y P =>
    simp only [jO] at h
    split at h
    ·rename_i hh
     rcases hp:jn m (zJ y).toNat (ae y) emp P with _|⟨ps,r'⟩
     ·rw [hp] at h;cases h
     ·rw [hp] at h;simp only [Option.some.injEq,Prod.mk.injEq] at h;obtain⟨rfl,rfl⟩:=h;obtain⟨v,el,e⟩:=ihS _ _ _ _ _ _ hp;have:=tg hh;exact⟨⟨hh,by rw [el];omega,v⟩,by rw [e];rfl⟩
    ·cases h
  ·cases c with
   | zero =>
    simp only [jn,Option.some.injEq,Prod.mk.injEq] at h
    obtain⟨rfl,rfl⟩:=h
    exact⟨trivial,rfl,rfl⟩
   | succ c =>
    cases P with
    | nil=>simp [jn] at h
    | cons y P =>
     simp only [jn] at h
     split at h
     ·cases h
     ·rename_i hc
      rcases hp:jO m k (y :: P) with _|⟨x,r'⟩
      ·rw [hp] at h;cases h
      ·rw [hp] at h;simp only at h;rcases hq:jn m c k y.s r' with _|⟨qs,r''⟩
       ·rw [hq] at h;cases h
       ·rw [hq] at h;simp only [Option.some.injEq,Prod.mk.injEq] at h;obtain⟨rfl,rfl⟩:=h;obtain⟨v1,e1⟩:=ihX _ _ _ _ hp;obtain⟨v2,el,e2⟩:=ihS _ _ _ _ _ _ hq;have hy:x.head=y:=by
         obtain⟨u,hu⟩:=ij x;rw [hu,List.cons_append] at e1;injection e1 with e1 _;exact e1.symm
        refine⟨⟨λhk=>?_,v1,by rw [hy];exact v2⟩,by simp [Exs.len,el],by simp only [Exs.flat,List.append_assoc];rw [<-e2,<-e1]⟩;rw [hy];exact Decidable.byContradiction λe=>hc ⟨hk,e⟩
theorem dJ:∀m:Nat,(∀f x r,x.valid f->2*x.flat.length<=m->jO m f (x.flat ++ r)=some (x,r))/\(∀k s ps r,ps.valid k s->2*ps.flat.length+1<=m->jn m ps.len k s (ps.flat ++ r)=some (ps,r))
 | 0=>by
  refine⟨λf x r _ h=>by have:=j6 x;omega,λk s ps r _ h=>by omega⟩
 | m+1=>by
  obtain⟨ihX,ihS⟩:=dJ m;refine⟨λf x r hv hl=>?_,λk s ps r hv hl=>?_⟩
  ·obtain⟨n,ps⟩:=x;obtain⟨v1,v2,v3⟩:=hv;simp only [Ex.flat,List.length_cons] at hl;have e:(zJ n).toNat=ps.len:=by rw [<-v2];rfl
   simp only [Ex.flat,List.cons_append,jO,if_pos v1,e,ihS _ _ ps r v3 (by omega)]
  ·cases ps with
   | nil=>cases m <;> simp [Exs.len,jn,Exs.flat]
   | cons x q =>
    obtain⟨v1,v2,v3⟩:=hv
    simp only [Exs.flat,List.length_append] at hl
    have hp:=j6 x
    obtain⟨u,hu⟩:=ij x
    have h1:=ihX k x (q.flat ++ r) v2 (by omega)
    have h2:=ihS k x.head.s q r v3 (by omega)
    simp only [Exs.flat,Exs.len,List.append_assoc]
    rw [hu,List.cons_append] at h1 ⊢
    simp only [jn]
    rw [if_neg (λh=>h.2 (v1 h.1)),h1]
    simp only [h2]
theorem lm{m m':Nat}{f:Bool}{P r:List Nd}{x:Ex}(h:jO m f P=some (x,r))(h':2*P.length<=m'):jO m' f P=some (x,r):=by
 obtain⟨v,e⟩:=(aF m).1 f P x r h;have hl:x.flat.length<=P.length:=by rw [e,List.length_append];omega
 have:=(dJ m').1 f x r v (by omega);rwa [<-e] at this
theorem i6{m m' c:Nat}{k:Bool}{s:ByteArray}{P r:List Nd}{ps:Exs}(h:jn m c k s P=some (ps,r))(h':2*P.length+1<=m'):jn m' c k s P=some (ps,r):=by
 obtain⟨v,el,e⟩:=(aF m).2 c k s P ps r h;have hl:ps.flat.length<=P.length:=by rw [e,List.length_append];omega
 have:=(dJ m').2 k s ps r v (by omega);rwa [<-e,el] at this
theorem so{m m':Nat}{f:Bool}{P:List Nd}(h:2*P.length<=m)(h':2*P.length<=m'):jO m f P=jO m' f P:=by
 rcases e:jO m f P with _|⟨x,r⟩
 ·rcases e':jO m' f P with _|⟨x,r⟩
  ·rfl
  ·rw [lm e' h] at e;cases e
 ·exact(lm e h').symm
theorem iW{m m' c:Nat}{k:Bool}{s:ByteArray}{P:List Nd}(h:2*P.length+1<=m)(h':2*P.length+1<=m'):jn m c k s P=jn m' c k s P:=by
 rcases e:jn m c k s P with _|⟨x,r⟩
 ·rcases e':jn m' c k s P with _|⟨x,r⟩
  ·rfl
  ·rw [i6 e' h] at e;cases e
 ·exact(i6 e h').symm
def lB(P:List Nd):Option Ex:=match jO (2*P.length+2) false P with
 | some (x,[])=>some x
 | _=>none
theorem kG{P:List Nd}{x:Ex}:lB P=some x↔x.valid false/\P=x.flat:=by
 unfold lB;constructor
 ·intro h;rcases hp:jO (2*P.length+2) false P with _|⟨y,r⟩
  ·rw [hp] at h;cases h
  ·rw [hp] at h
   cases r with
   | nil =>
    simp only [Option.some.injEq] at h
    subst h
    obtain⟨v,e⟩:=(aF _).1 _ _ _ _ hp
    exact⟨v,by rw [e,List.append_nil]⟩
   | cons a r=>cases h
 ·rintro ⟨v,rfl⟩;have:=(dJ (2*x.flat.length+2)).1 false x [] v (by omega);rw [List.append_nil] at this;rw [this]
def aO(t:List Nd)(p:Nat)(f:Bool):Int:=match jO (2*t.length+2) f (t.drop p) with
 | some (_,r)=>((t.length-r.length:Nat):Int)
 | none => -1
def bD(t:List Nd)(c:Nat)(k:Bool)(s:ByteArray)(p:Nat):Int:=match jn (2*t.length+2) c k s (t.drop p) with
 | some (_,r)=>((t.length-r.length:Nat):Int)
 | none => -1
theorem mY{t:List Nd}{p:Nat}{x:Nd}(h:t[p]?=some x):t.drop p=x :: t.drop (p+1):=by
 obtain⟨hp,e⟩:=List.getElem?_eq_some_iff.1 h;rw [<-e];exact List.drop_eq_getElem_cons hp
theorem sj{t:List Nd}{p:Nat}{f:Bool}(h:t.length<=p):aO t p f = -1:=by
 unfold aO;rw [List.drop_eq_nil_of_le h];rfl
theorem uC{t:List Nd}{p:Nat}{f:Bool}{x:Nd}(h:t[p]?=some x)(hx:cL f x=false):aO t p f = -1:=by
 unfold aO;rw [mY h];simp [jO,hx]
theorem yR{t:List Nd}{p:Nat}{f:Bool}{x:Nd}(h:t[p]?=some x)(hx:cL f x=true):aO t p f=bD t (zJ x).toNat (ae x) emp (p+1):=by
 have hp:=(List.getElem?_eq_some_iff.1 h).1;unfold aO bD;rw [mY h];simp only [jO,if_pos hx];rw [iW (m:=2*t.length+1) (m':=2*t.length+2) (by simp;omega) (by simp;omega)];rcases jn (2*t.length+2) (zJ x).toNat (ae x) emp (t.drop (p+1)) with _|⟨ps,r⟩<;> rfl
theorem vB{t:List Nd}{p:Nat}{k:Bool}{s:ByteArray}(h:p<=t.length):bD t 0 k s p=(p:Int):=by
 unfold bD;simp only [jn,List.length_drop];congr 1;omega
theorem gz{t:List Nd}{p c:Nat}{k:Bool}{s:ByteArray}(h:t.length<=p):bD t (c+1) k s p = -1:=by
 unfold bD;rw [List.drop_eq_nil_of_le h];rfl
theorem xe{t:List Nd}{p:Nat}{f:Bool}(h:0<=aO t p f):∃e:Nat,aO t p f=(e:Int)/\p<e/\e<=t.length:=by
 unfold aO at *;rcases hp:jO (2*t.length+2) f (t.drop p) with _|⟨k,r⟩
 ·rw [hp] at h;simp at h
 ·rw [hp] at h;simp only at h ⊢;obtain⟨v,e⟩:=(aF _).1 _ _ _ _ hp;have h1:(t.drop p).length=k.flat.length+r.length:=by rw [e,List.length_append]
  rw [List.length_drop] at h1;have h2:=j6 k;exact⟨_,rfl,by omega,by omega⟩
theorem uD{t:List Nd}{p:Nat}{f:Bool}(h:¬0<=aO t p f):aO t p f = -1:=by
 unfold aO at *;rcases hp:jO (2*t.length+2) f (t.drop p) with _|⟨k,r⟩
 ·rfl
 ·rw [hp] at h;simp only at h;omega
theorem fb{t:List Nd}{p c:Nat}{k:Bool}{s:ByteArray}{y:Nd}(h:t[p]?=some y):bD t (c+1) k s p=if k=true/\¬ai s y.s<0 then -1 else if 0<=aO t p k then bD t c k y.s (aO t p k).toNat else -1:=by
 have hp:=(List.getElem?_eq_some_iff.1 h).1;unfold bD;have hd:=mY h;rw [hd];simp only [jn];by_cases hk:k=true/\¬ai s y.s<0
 ·rw [if_pos hk,if_pos hk]
 ·rw [if_neg hk,if_neg hk];rw [<-hd];unfold aO;rw [so (m:=2*t.length+1) (m':=2*t.length+2) (by simp;omega) (by simp;omega)];rcases hq:jO (2*t.length+2) k (t.drop p) with _|⟨x,r⟩
  ·simp
  ·simp only;obtain⟨v,e⟩:=(aF _).1 _ _ _ _ hq;have h1:(t.drop p).length=x.flat.length+r.length:=by rw [e,List.length_append]
   rw [List.length_drop] at h1;have h0:=j6 x;rw [if_pos (by omega)];have h3:((t.length-r.length:Nat):Int).toNat=t.length-r.length:=rfl;rw [h3];have h2:t.drop (t.length-r.length)=r:=by
    have:t.drop (t.length-r.length)=(t.drop p).drop x.flat.length:=by rw [List.drop_drop];congr 1;omega
    rw [this,e,List.drop_left]
   rw [h2,iW (m:=2*t.length+1) (m':=2*t.length+2) (by omega) (by omega)];rcases jn (2*t.length+2) c k y.s r with _|⟨f,r'⟩<;> rfl
def jg(t:List Nd):Int:=if 200<t.length then 4 else if(lB t).isSome then 0 else 1
theorem BM{t:List Nd}:aO t 0 false=(t.length:Int)↔(lB t).isSome=true:=by
 unfold aO lB;rw [List.drop_zero];rcases hp:jO (2*t.length+2) false t with _|⟨k,r⟩
 ·simp
 ·simp only;obtain⟨v,e⟩:=(aF _).1 _ _ _ _ hp;have h1:t.length=k.flat.length+r.length:=by rw [<-List.length_append,<-e]
  have h2:=j6 k
  cases r with
  | nil=>simp
  | cons a r =>
   simp only [List.length_cons] at h1 ⊢
   simp
   omega
theorem jq{t:List Nd}:jg t=0↔t.length<=200/\∃x:Ex,x.valid false/\t=x.flat:=by
 unfold jg;by_cases h:200<t.length
 ·rw [if_pos h];omega
 ·rw [if_neg h];rcases hr:lB t with _|k
  ·simp only [Option.isSome_none,Bool.false_eq_true,if_false];constructor
   ·intro q;omega
   ·rintro ⟨-,k,v,e⟩;rw [kG.2 ⟨v,e⟩] at hr;cases hr
  ·simp only [Option.isSome_some,if_true,true_iff];exact⟨by omega,k,kG.1 hr⟩
end Go.Wk
