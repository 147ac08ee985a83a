/-
  Plain: types and values as nodes that are handed in: below, joined, had, own. ..
-/
import Derived.Test.YthifljpkgfpkiaaGreatDoorQ3
import Derived.Test.YthifljpkgfpkiaaGreatDoorQ6
set_option maxRecDepth 100000
namespace Go.Wk
def nz(P Q:List Nd):Int:=if zK P=0 then zK Q else zK P
def ET(P Q:List Nd):List Nd:=match kU P,kU Q with
 | some a,some b=>(zI a b).flat
 | _,_ => []
def joinE(P Q:List Nd):Int:=if nz P Q=0 then(if 200<(ET P Q).length then 4 else 0) else nz P Q
def nb(P Q:List Nd):List Nd:=if joinE P Q=0 then ET P Q else []
def gz(T V:List Nd):Int:=if zK T=0 then zh V else zK T
def gV(T V:List Nd):Bool:=decide (gz T V=0)&&(match kU T with
 | some k=>zO (jJ V) k
 | none=>false)
theorem xM{P Q:List Nd}:nz P Q=0↔zK P=0/\zK Q=0:=by
 unfold nz;split
 ·rename_i h;simp [h]
 ·rename_i h;simp [h]
structure Kin(P:List Nd)(k:Kd):Prop where
 v:k.valid
 e:P=k.flat
 l:P.length<=200
theorem OZ{P:List Nd}(h:zK P=0):∃k,Kin P k:=by
 obtain⟨h1,k,h2,h3⟩:=cm.1 h;exact⟨k,h2,h3,h1⟩
theorem Kin.zero{P:List Nd}{k:Kd}(h:Kin P k):zK P=0:=cm.2 ⟨h.l,k,h.v,h.e⟩
theorem Kin.read{P:List Nd}{k:Kd}(h:Kin P k):kU P=some k:=iP.2 ⟨h.v,h.e⟩
theorem Kin.join{P Q:List Nd}{a b:Kd}(h:Kin P a)(k:Kin Q b):ET P Q=(zI a b).flat:=by
 unfold ET;rw [h.read,k.read]
theorem Kin.joinE{P Q:List Nd}{a b:Kd}(h:Kin P a)(k:Kin Q b):joinE P Q=if 200<(zI a b).flat.length then 4 else 0:=by
 unfold Go.Wk.joinE;rw [if_pos (xM.2 ⟨h.zero,k.zero⟩),h.join k]
theorem Lc{P Q:List Nd}(h:joinE P Q=0):zK P=0/\zK Q=0/\(ET P Q).length<=200:=by
 unfold joinE at h;split at h
 ·rename_i h1;obtain⟨h2,h3⟩:=xM.1 h1;split at h
  ·cases h
  ·exact⟨h2,h3,by omega⟩
 ·rename_i h1;exact absurd h h1
theorem Kin.joined{P Q:List Nd}{a b:Kd}(h:Kin P a)(k:Kin Q b)(hj:Go.Wk.joinE P Q=0):Kin (nb P Q) (zI a b):=by
 obtain⟨-,-,hl⟩:=Lc hj;unfold nb;rw [if_pos hj];rw [h.join k] at hl ⊢;exact⟨cA _ a b (Nat.le_refl _) h.v k.v,rfl,hl⟩
theorem Kin.eq{P Q:List Nd}{a b:Kd}(h:Kin P a)(k:Kin Q b):P=Q↔a=b:=by
 constructor
 ·intro e;refine Pz h.v k.v ?_;rw [<-h.e,<-k.e,e]
 ·intro e;rw [h.e,k.e,e]
theorem Fg{T V:List Nd}:gz T V=0↔zK T=0/\zh V=0:=by
 unfold gz;split
 ·rename_i h;simp [h]
 ·rename_i h;simp [h]
theorem Kin.has{T V:List Nd}{k:Kd}(h:Kin T k)(hv:zh V=0):gV T V=zO (jJ V) k:=by
 unfold gV;rw [Fg.2 ⟨h.zero,hv⟩,h.read];rfl
def vH(p:List Nd):List (List Nd)->List (List Nd)
 | [] => [p]
 | q :: r=>if zJ p q<0 then p :: q :: r else if zJ p q=0 then q :: r else q :: vH p r
def fh:List (List Nd)->List (List Nd)
 | [] => []
 | p :: r=>vH p (fh r)
theorem Di{p x:List Nd}{l:List (List Nd)}:x∈vH p l↔x=p\/x∈l:=by
 induction l with
 | nil=>simp [vH]
 | cons q r ih =>
  simp only [vH]
  split
  ·simp
  ·split
   ·rename_i h0;have e:=(jg.zero p q).1 h0;subst e;simp
   ·simp only [List.mem_cons,ih];constructor
    ·rintro (h|h|h)<;> simp [h]
    ·rintro (h|h|h)<;> simp [h]
theorem dC{x:List Nd}{l:List (List Nd)}:x∈fh l↔x∈l:=by
 induction l with
 | nil=>simp [fh]
 | cons p r ih=>simp only [fh,Di,ih,List.mem_cons]
theorem sx{l:List (List Nd)}:Up l↔l.Pairwise (λa b=>zJ a b<0):=by
 induction l with
 | nil=>simp [Up]
 | cons a r ih =>
  rcases r with _|⟨b,r⟩
  ·simp [Up]
  ·simp only [Up,ih]
   constructor
   ·rintro ⟨h1,h2⟩;refine List.pairwise_cons.2 ⟨λx hx=>?_,h2⟩;rcases List.mem_cons.1 hx with rfl|hx
    ·exact h1
    ·have:=(List.pairwise_cons.1 h2).1 x hx;exact jg.lt_le h1 (by omega)
   ·intro h;exact⟨(List.pairwise_cons.1 h).1 b (by simp),(List.pairwise_cons.1 h).2⟩
theorem Si{p:List Nd}{l:List (List Nd)}(h:Up l):Up (vH p l):=by
 rw [sx] at h ⊢
 induction l with
 | nil=>simp [vH]
 | cons q r ih =>
  obtain⟨h1,h2⟩:=List.pairwise_cons.1 h
  simp only [vH]
  split
  ·rename_i hlt
   refine List.pairwise_cons.2 ⟨λx hx=>?_,h⟩;rcases List.mem_cons.1 hx with rfl|hx
   ·exact hlt
   ·have:=h1 x hx;exact jg.lt_le hlt (by omega)
  ·split
   ·exact h
   ·rename_i hn h0;refine List.pairwise_cons.2 ⟨λx hx=>?_,ih h2⟩;rcases Di.1 hx with rfl|hx
    ·have:=jg.anti x q;omega
    ·exact h1 x hx
theorem yI(l:List (List Nd)):Up (fh l):=by
 induction l with
 | nil=>trivial
 | cons p r ih=>exact Si ih
theorem JA{a:List Nd}{l:List (List Nd)}(h:Up (a :: l)):Up l:=by
 rw [sx] at h ⊢;exact(List.pairwise_cons.1 h).2
theorem J8:∀ {l m:List (List Nd)},Up l->Up m->(∀x,x∈l↔x∈m)->l=m:=by
 intro l
 induction l with
 | nil =>
  intro m _ _ h
  rcases m with _|⟨b,m⟩
  ·rfl
  ·have:=(h b).2 (by simp);cases this
 | cons a l ih =>
  intro m hl hm h
  rcases m with _|⟨b,m⟩
  ·have:=(h a).1 (by simp);cases this
  have pl:=sx.1 hl
  have pm:=sx.1 hm
  obtain⟨l1,l2⟩:=List.pairwise_cons.1 pl
  obtain⟨m1,m2⟩:=List.pairwise_cons.1 pm
  have e:a=b:=by
   rcases List.mem_cons.1 ((h a).1 (by simp)) with e|ha
   ·exact e
   rcases List.mem_cons.1 ((h b).2 (by simp)) with e|hb
   ·exact e.symm
   have q1:=m1 a ha;have q2:=l1 b hb;have:=jg.anti a b;omega
  subst e
  have hl':=JA hl
  have MS:=JA hm
  rw [ih hl' MS λx=>?_]
  have hx:=h x
  simp only [List.mem_cons] at hx
  constructor
  ·intro k
   rcases hx.1 (.inr k) with e|k'
   ·subst e;have:=l1 x k;rw [jg.self] at this;omega
   ·exact k'
  ·intro k
   rcases hx.2 (.inr k) with e|k'
   ·subst e;have:=m1 x k;rw [jg.self] at this;omega
   ·exact k'
theorem Jc{l m:List (List Nd)}(h:Up m)(hm:∀x,x∈m↔x∈l):fh l=m :=
 J8 (yI l) h λx=>by rw [dC,hm]
theorem Io{l m:List (List Nd)}(h:∀x,x∈l↔x∈m):fh l=fh m :=
 Jc (yI m) λx=>by rw [dC,h]
def Xu(lo:Option (List Nd))(p:List Nd):Bool:=match lo with|none=>true|some l=>decide (zJ p l > 0)
def XF(cur:Option (List Nd))(p:List Nd):Bool:=match cur with|none=>true|some c=>decide (zJ p c<0)
def least(lo cur:Option (List Nd))(p:List Nd):Option (List Nd):=if Xu lo p && XF cur p then some p else cur
theorem gY{L:List (List Nd)}:fS L=0↔∀P∈L,zh P=0:=by
 induction L with
 | nil=>simp [fS]
 | cons P r ih =>
  simp only [fS,or2,List.mem_cons,forall_eq_or_imp]
  by_cases h:zh P=0
  ·rw [if_pos h,ih];exact⟨λq=>⟨h,q⟩,λq=>q.2⟩
  ·rw [if_neg h];exact⟨λq=>absurd q h,λq=>absurd q.1 h⟩
def setE(L:List (List Nd)):Int:=or2 (fS L) (if 200<(fh L).flatten.length+1 then 4 else 0)
def kr(L:List (List Nd)):List Nd:=if setE L=0 then bI (fh L).length ::(fh L).flatten else []
theorem qS{L:List (List Nd)}:setE L=0↔fS L=0/\(fh L).flatten.length+1<=200:=by
 unfold setE or2;by_cases h:fS L=0
 ·rw [if_pos h];by_cases h2:200<(fh L).flatten.length+1
  ·rw [if_pos h2];exact⟨λq=>by omega,λq=>by omega⟩
  ·rw [if_neg h2];exact⟨λ_=>⟨h,by omega⟩,λ_=>rfl⟩
 ·rw [if_neg h];exact⟨λq=>absurd q h,λq=>absurd q.1 h⟩
theorem JH{L:List (List Nd)}(h:setE L=0):kr L=bI (fh L).length ::(fh L).flatten:=if_pos h
theorem DO{L:List (List Nd)}(h:setE L≠0):kr L = []:=if_neg h
theorem tM{L:List (List Nd)}(h:setE L=0):zh (kr L)=0/\zg (kr L)=5/\zn (kr L)=fh L:=by
 obtain⟨h1,h2⟩:=qS.1 h;have hV:∀Q∈fh L,IsV Q:=λQ hQ=>(zy.1 (gY.1 h1 Q (dC.1 hQ))).2;obtain⟨a,b⟩:=TI hV (yI L);rw [JH h];exact⟨zy.2 ⟨by simp only [List.length_cons];omega,a⟩,rfl,b⟩
abbrev Fld:=ByteArray × List Nd
def G9(x:Fld):List Fld->List Fld
 | [] => [x]
 | y :: r=>if js x.1 y.1<0 then x :: y :: r else y :: G9 x r
def eO:List Fld->List Fld
 | [] => []
 | x :: r=>G9 x (eO r)
theorem xg(x:Fld)(l:List Fld):(G9 x l).Perm (x :: l):=by
 induction l with
 | nil=>exact List.Perm.refl _
 | cons y r ih =>
  simp only [G9]
  split
  ·exact List.Perm.refl _
  ·exact(List.Perm.cons y ih).trans (List.Perm.swap x y r)
theorem bo(l:List Fld):(eO l).Perm l:=by
 induction l with
 | nil=>exact List.Perm.refl _
 | cons x r ih=>exact(xg x _).trans (List.Perm.cons x ih)
abbrev Qa (l:List Fld):Prop:=l.Pairwise λa b=>js a.1 b.1<0
theorem OI{x:Fld}{l:List Fld}(h:Qa l)(hx:∀y∈l,y.1≠x.1):Qa (G9 x l):=by
 induction l with
 | nil=>simp [G9,Qa]
 | cons y r ih =>
  obtain⟨h1,h2⟩:=List.pairwise_cons.1 h
  simp only [G9]
  split
  ·rename_i hlt
   refine List.pairwise_cons.2 ⟨λz hz=>?_,h⟩;rcases List.mem_cons.1 hz with rfl|hz
   ·exact hlt
   ·have:=h1 z hz;exact zw.lt_le hlt (by omega)
  ·rename_i hn
   refine List.pairwise_cons.2 ⟨λz hz=>?_,ih h2 λz hz=>hx z (by simp [hz])⟩;rcases List.mem_cons.1 ((xg x r).mem_iff.1 hz) with rfl|hz
   ·have a:=zw.anti z.1 y.1;have:js z.1 y.1≠0:=λe=>hx y (by simp) ((zw.zero _ _).1 e).symm;omega
   ·exact h1 z hz
theorem yq{l:List Fld}(h:(l.map (·.1)).Nodup):Qa (eO l):=by
 induction l with
 | nil=>exact List.Pairwise.nil
 | cons x r ih =>
  simp only [List.map_cons,List.nodup_cons] at h
  refine OI (ih h.2) λy hy e=>h.1 ?_
  rw [<-e]
  exact List.mem_map_of_mem ((bo r).mem_iff.1 hy)
theorem pW(a b:List Fld):zV (a ++ b)=zV a ++ zV b:=by
 induction a with
 | nil=>rfl
 | cons x r ih=>simp only [List.cons_append,zV,ih,List.append_assoc]
theorem nS{a b:List Fld}(h:a.Perm b):(zV a).length=(zV b).length:=by
 induction h with
 | nil=>rfl
 | cons x _ ih=>simp only [zV,List.length_cons,List.length_append,ih]
 | swap x y l=>simp only [zV,List.length_cons,List.length_append];omega
 | trans _ _ h1 h2=>exact h1.trans h2
theorem J7(x:Fld):zV [x]=dm x.1 :: x.2:=by simp [zV]
theorem FU(Z:List Fld)(k:Nat)(h:k<Z.length):zV (Z.take (k+1))=zV (Z.take k)++ dm Z[k].1 :: Z[k].2:=by
 rw [<-List.take_append_getElem h,pW,J7]
theorem xc(Z:List Fld)(k:Nat):(zV (Z.take k)).length<=(zV Z).length:=by
 conv=>rhs;rw [<-List.take_append_drop k Z]
 rw [pW,List.length_append];omega
def ai(N:List ByteArray)(s:ByteArray):Bool:=N.any λy=>decide (js y s=0)
theorem lw{N:List ByteArray}{s:ByteArray}:ai N s=true↔s∈N:=by
 unfold ai;rw [List.any_eq_true];constructor
 ·rintro ⟨y,h1,h2⟩;have e:=(zw.zero y s).1 (by simpa using h2);subst e;exact h1
 ·intro h;exact⟨s,h,by simp [zw.self]⟩
def bZ:List ByteArray->List Fld->Int
 | _,[]=>0
 | N,x :: r=>or2 (zk x.1) (or2 (if ai N x.1 then 6 else 0) (or2 (zh x.2) (bZ (N ++ [x.1]) r)))
theorem lF{N:List ByteArray}{Z:List Fld}:bZ N Z=0↔(∀x∈Z,zk x.1=0/\zh x.2=0)/\(Z.map (·.1)).Nodup/\∀x∈Z,x.1 ∉ N:=by
 induction Z generalizing N with
 | nil=>simp [bZ]
 | cons x r ih =>
  simp only [bZ,or2]
  by_cases h1:zk x.1=0
  ·rw [if_pos h1]
   by_cases h2:x.1∈N
   ·rw [if_pos (lw.2 h2),if_neg (by omega)];exact⟨λq=>by omega,λq=>absurd h2 (q.2.2 x (by simp))⟩
   ·rw [if_neg (λq=>h2 (lw.1 q)),if_pos rfl];by_cases h3:zh x.2=0
    ·rw [if_pos h3,ih];simp only [List.mem_cons,forall_eq_or_imp,List.map_cons,List.nodup_cons,List.mem_append,List.not_mem_nil,or_false,not_or];constructor
     ·rintro ⟨a,b,c⟩;refine⟨⟨⟨h1,h3⟩,a⟩,⟨λq=>?_,b⟩,h2,λy hy=>(c y hy).1⟩;obtain⟨y,hy,e⟩:=List.mem_map.1 q;exact(c y hy).2 e
     ·rintro ⟨⟨-,a⟩,⟨b,c⟩,-,d⟩;exact⟨a,c,λy hy=>⟨d y hy,λe=>b (by rw [<-e];exact List.mem_map_of_mem hy)⟩⟩
    ·rw [if_neg h3];exact⟨λq=>absurd q h3,λq=>absurd (q.1 x (by simp)).2 h3⟩
  ·rw [if_neg h1]
   exact⟨λq=>absurd q h1,λq=>absurd (q.1 x (by simp)).1 h1⟩
def cO(N:List ByteArray)(L:List (List Nd)):Int :=
 if N.length=L.length then or2 (bZ [] (N.zip L)) (if 200<(zV (N.zip L)).length+1 then 4 else 0) else 1
def mf(N:List ByteArray)(L:List (List Nd)):List Nd:=if cO N L=0 then zY N.length :: zV (eO (N.zip L)) else []
theorem LU{N:List ByteArray}{L:List (List Nd)}:cO N L=0↔N.length=L.length/\bZ [] (N.zip L)=0/\(zV (N.zip L)).length+1<=200:=by
 unfold cO or2;by_cases h0:N.length=L.length
 ·rw [if_pos h0];by_cases h:bZ [] (N.zip L)=0
  ·rw [if_pos h];by_cases h2:200<(zV (N.zip L)).length+1
   ·rw [if_pos h2];exact⟨λq=>by omega,λq=>by omega⟩
   ·rw [if_neg h2];exact⟨λ_=>⟨h0,h,by omega⟩,λ_=>rfl⟩
  ·rw [if_neg h];exact⟨λq=>absurd q h,λq=>absurd q.2.1 h⟩
 ·rw [if_neg h0];exact⟨λq=>by omega,λq=>absurd q.1 h0⟩
theorem IX{N:List ByteArray}{L:List (List Nd)}(h:cO N L=0):mf N L=zY N.length :: zV (eO (N.zip L)):=if_pos h
theorem Of{N:List ByteArray}{L:List (List Nd)}(h:cO N L≠0):mf N L = []:=if_neg h
theorem RU{l:List Fld}:∀ {last:ByteArray},Qa l->(∀x∈l,js last x.1<0)->UpB last l:=by
 induction l with
 | nil=>intro _ _ _;trivial
 | cons x r ih =>
  intro last h hl
  obtain⟨h1,h2⟩:=List.pairwise_cons.1 h
  exact⟨hl x (by simp),ih h2 h1⟩
theorem OC{s:ByteArray}(h:zk s=0):js .empty s<0:=by
 have hs:0<s.size:=by
  rcases Nat.eq_zero_or_pos s.size with h0|h0
  ·have e:s=⟨#[]⟩:=bB (List.eq_nil_of_length_eq_zero (by rw [Array.length_toList];exact h0));subst e;exact absurd h (by decide)
  ·exact h0
 have h1:js .empty s≠0:=λe=>by
  have e':=(zw.zero _ _).1 e;subst e';simp at hs
 have:=zw.rng .empty s;have hle:js .empty s<=0:=by
  unfold js;rcases hd:s.data.toList with _|⟨b,r⟩
  ·show Lib.compareBytes [] []<=0;simp [Lib.compareBytes]
  ·show Lib.compareBytes [] (b :: r)<=0;simp [Lib.compareBytes]
 omega
theorem C7{N:List ByteArray}{L:List (List Nd)}(h:cO N L=0):zh (mf N L)=0/\zg (mf N L)=6/\zo (mf N L)=eO (N.zip L):=by
 obtain⟨h1,h2,h3⟩:=LU.1 h;obtain⟨a,b,-⟩:=lF.1 h2;have hp:=bo (N.zip L);have hV:∀x∈eO (N.zip L),IsV x.2/\zk x.1=0:=λx hx =>
  let q:=a x (hp.mem_iff.1 hx);⟨(zy.1 q.2).2,q.1⟩
 obtain⟨c,d⟩:=TC hV (RU (yq b) λx hx=>OC (hV x hx).2);have hl:(eO (N.zip L)).length=N.length:=by rw [hp.length_eq,List.length_zip];omega
 rw [hl] at c d;rw [IX h];refine⟨zy.2 ⟨?_,c⟩,rfl,d⟩;have:=nS hp;simp only [List.length_cons];omega
structure KD where
 nm:ByteArray
 up:List ByteArray
 P:List Nd
structure AD where
 id:ByteArray
 who:List ByteArray
 what:List ByteArray
 P:List Nd
def aw:List ByteArray->Int
 | []=>0
 | s :: r=>or2 (zk s) (aw r)
def nM(P:List Nd):Int:=or2 (zK P) (if zg P=46 then 0 else 2)
def kdF(N:List ByteArray)(k:KD):Int:=or2 (zk k.nm) (or2 (if ai N k.nm then 6 else 0) (or2 (if 6<k.up.length then 4 else 0) (or2 (aw k.up) (nM k.P))))
def rQ:List ByteArray->List KD->Int
 | _,[]=>0
 | N,k :: r=>or2 (kdF N k) (rQ (N ++ [k.nm]) r)
def adF(N:List ByteArray)(a:AD):Int:=or2 (zx a.id) (or2 (if ai N a.id then 6 else 0) (or2 (if 6<a.who.length\/6<a.what.length then 4 else 0) (or2 (aw a.who) (or2 (aw a.what) (nM a.P)))))
def nQ:List ByteArray->List AD->Int
 | _,[]=>0
 | N,a :: r=>or2 (adF N a) (nQ (N ++ [a.id]) r)
def bn(K:List KD)(L:List AD):Int:=if 8<K.length\/8<L.length then 4 else or2 (rQ [] K) (nQ [] L)
theorem zB{x y:Int}:or2 x y=0↔x=0/\y=0:=by
 unfold or2;split
 ·rename_i h;simp [h]
 ·rename_i h;simp [h]
theorem LI{K:List KD}{i:Nat}(h:i<K.length):rQ ((K.take i).map KD.nm) (K.drop i)=or2 (kdF ((K.take i).map KD.nm) K[i]) (rQ ((K.take (i+1)).map KD.nm) (K.drop (i+1))):=by
 rw [List.drop_eq_getElem_cons h,List.take_succ_eq_append_getElem h,List.map_append];rfl
theorem LO{K:List AD}{i:Nat}(h:i<K.length):nQ ((K.take i).map AD.id) (K.drop i)=or2 (adF ((K.take i).map AD.id) K[i]) (nQ ((K.take (i+1)).map AD.id) (K.drop (i+1))):=by
 rw [List.drop_eq_getElem_cons h,List.take_succ_eq_append_getElem h,List.map_append];rfl
theorem Eb{N:List ByteArray}{i:Nat}(h:i<N.length):aw (N.drop i)=or2 (zk N[i]) (aw (N.drop (i+1))):=by
 rw [List.drop_eq_getElem_cons h];rfl
theorem vW:∀(K:List KD) (N:List ByteArray),rQ N K=0->∀k∈K,nM k.P=0/\aw k.up=0
 | [],_,_,k,hk=>by cases hk
 | x :: r,N,h,k,hk=>by
  simp only [rQ,zB,kdF] at h;rcases List.mem_cons.1 hk with rfl|hk
  ·exact⟨h.1.2.2.2.2,h.1.2.2.2.1⟩
  ·exact vW r _ h.2 k hk
theorem vM:∀(K:List AD) (N:List ByteArray),nQ N K=0->∀k∈K,nM k.P=0
 | [],_,_,k,hk=>by cases hk
 | x :: r,N,h,k,hk=>by
  simp only [nQ,zB,adF] at h;rcases List.mem_cons.1 hk with rfl|hk
  ·exact h.1.2.2.2.2.2
  ·exact vM r _ h.2 k hk
theorem qx{K:List KD}{L:List AD}:bn K L=0↔K.length<=8/\L.length<=8/\rQ [] K=0/\nQ [] L=0:=by
 unfold bn;split
 ·rename_i h;constructor
  ·intro e;cases e
  ·intro e;omega
 ·rename_i h;rw [zB];omega
theorem mr{P:List Nd}(h:nM P=0):∃f,Kin P (.fs f):=by
 unfold nM at h;rw [zB] at h;obtain⟨h1,h2⟩:=h;obtain⟨k,hk⟩:=OZ h1;by_cases h46:zg P=46
 ·rw [hk.e] at h46
  cases k with
  | base x =>
   have hv:ah x:=hk.v
   have:zg (Kd.base x).flat=x:=rfl
   unfold ah at hv;omega
  | ent s=>have:zg (Kd.ent s).flat=44:=rfl;omega
  | set q=>have:zg (Kd.set q).flat=45:=rfl;omega
  | fs f=>exact⟨f,hk⟩
 ·rw [if_neg h46] at h2;cases h2
def cN(K:List KD)(s:ByteArray):Option KD:=K.find? λk=>decide (k.nm=s)
def fj(L:List AD)(s:ByteArray):Option AD:=L.find? λa=>decide (a.id=s)
def Gr(K:List KD)(u:Ud)(ups:List Ud)(P:List Nd):Int:=match cN K u.1 with
 | none=>3
 | some k=>if ups.all (λp=>ai k.up p.1)&& gV k.P P then 0 else 2
def C9(s:ByteArray)(m:Bool):Nd:=⟨47,if m=true then 1 else 0,s,emp⟩
structure EX(t:List Nd)(q:Nat)(s:ByteArray)(m:Bool)(k:Kd):Prop where
 nd:t[q]?=some (C9 s m)
 valid:k.valid
 drop:∃r,t.drop (q+1)=k.flat ++ r
theorem ct(k:Kd):1<=k.flat.length:=by cases k <;> simp [Kd.flat]
theorem EX.le{t:List Nd}{q:Nat}{s:ByteArray}{m:Bool}{k:Kd}(h:EX t q s m k):q+1+k.flat.length<=t.length:=by
 obtain⟨r,e⟩:=h.drop;have h1:=congrArg List.length e;rw [List.length_drop,List.length_append] at h1;have:=ct k;omega
theorem EX.seg{t:List Nd}{q:Nat}{s:ByteArray}{m:Bool}{k:Kd}(h:EX t q s m k):seg t (q+1) (q+1+k.flat.length)=k.flat:=by
 obtain⟨r,e⟩:=h.drop;unfold Wk.seg;rw [e,show q+1+k.flat.length-(q+1)=k.flat.length by omega,List.take_left]
structure lR(t:List Nd)(p:Nat)(g:Fl):Prop where
 valid:∃x,g.validFrom x
 drop:∃r,t.drop p=g.flat ++ r
theorem lR.head{t:List Nd}{p:Nat}{s:ByteArray}{m:Bool}{k:Kd}{r:Fl}(h:lR t p (.cons s m k r)):EX t p s m k/\lR t (p+1+k.flat.length) r:=by
 obtain⟨⟨x,v1,v2,v3,v4⟩,⟨u,e⟩⟩:=h;simp only [Fl.flat,List.cons_append,List.append_assoc] at e;have h0:t[p]?=some (C9 s m):=by
  have:=congrArg (λl=>l[0]?) e;simpa [C9] using this
 have h1:t.drop (p+1)=k.flat ++(r.flat ++ u):=by
  have:=congrArg (List.drop 1) e;rw [List.drop_drop] at this;simpa using this
 refine⟨⟨h0,v3,_,h1⟩,⟨s,v4⟩,u,?_⟩;have:=congrArg (List.drop k.flat.length) h1;rw [List.drop_drop,List.drop_left] at this;exact this
theorem lR.start{f:Fl}(h:f.validFrom emp):lR (Kd.fs f).flat 1 f:=⟨⟨_,h⟩,[],by simp [Kd.flat]⟩
theorem lR.at{t:List Nd}:∀ {f:Fl} {p:Nat},lR t p f->∀(i:Nat) (y:Kfd),f.list[i]?=some y->∃q:Nat,(SZ p f)[i]?=some q/\EX t q y.1 y.2.1 y.2.2
 | .nil,_,_,i,y,h=>by simp [Fl.list] at h
 | .cons s m k r,p,hL,i,y,h=>by
  obtain⟨h1,h2⟩:=hL.head
  cases i with
  | zero =>
   simp only [Fl.list,List.getElem?_cons_zero,Option.some.injEq] at h
   subst h
   exact⟨p,by simp [SZ],h1⟩
  | succ i =>
   simp only [Fl.list,List.getElem?_cons_succ] at h
   obtain⟨q,e1,e2⟩:=h2.at i y h
   exact⟨q,by simpa [SZ] using e1,e2⟩
theorem Ja:∀n:Nat,(∀k:Kd,k.sz<=n->k.flat.length=k.sz)/\(∀f:Fl,f.sz<=n->f.flat.length=f.sz)
 | 0=>by
  refine⟨λk h=>by cases k <;> simp [Kd.sz] at h,λf h=>?_⟩
  cases f with
  | nil=>rfl
  | cons s m k r=>simp [Fl.sz] at h
 | n+1=>by
  obtain⟨ihK,ihF⟩:=Ja n;refine⟨λk h=>?_,λf h=>?_⟩
  ·cases k with
   | base x=>rfl
   | ent s=>rfl
   | set p=>simp only [Kd.sz] at h;simp only [Kd.flat,Kd.sz,List.length_cons];rw [ihK p (by omega)]
   | fs f=>simp only [Kd.sz] at h;simp only [Kd.flat,Kd.sz,List.length_cons];rw [ihF f (by omega)]
  ·cases f with
   | nil=>rfl
   | cons s m k r =>
    simp only [Fl.sz] at h
    simp only [Fl.flat,Fl.sz,List.length_cons,List.length_append]
    rw [ihK k (by omega),ihF r (by omega)]
theorem bW(k:Kd):k.flat.length=k.sz:=(Ja _).1 k (Nat.le_refl _)
theorem Gt{s:ByteArray}(h:zk s=0):s.size<=20:=by
 unfold zk at h;split at h
 ·split at h
  ·cases h
  ·omega
 ·cases h
end Go.Wk
