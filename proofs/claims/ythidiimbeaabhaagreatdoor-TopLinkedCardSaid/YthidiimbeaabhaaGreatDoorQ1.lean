/-
  Plain: three-way comparisons, of numbers, texts, pairs and lists. No program in ..
-/
import Derived.Lib.Bytealg
set_option maxRecDepth 100000
namespace Go.Wk
structure Cmp{α:Type}(f:α->α->Int):Prop where
 rng:∀a b,f a b = -1\/f a b=0\/f a b=1
 anti:∀a b,f b a = - f a b
 zero:∀a b,f a b=0↔a=b
 trans:∀a b c,f a b<=0->f b c<=0->f a c<=0
theorem Cmp.self{α:Type}{f:α->α->Int}(h:Cmp f)(a:α):f a a=0:=(h.zero a a).2 rfl
theorem Cmp.lt_le{α:Type}{f:α->α->Int}(h:Cmp f){a b c:α}(h1:f a b<0)(h2:f b c<=0):f a c<0:=by
 have h3:=h.trans a b c (by omega) h2;rcases Int.lt_or_eq_of_le h3 with h4|h4
 ·exact h4
 ·have e:=(h.zero a c).1 h4;subst e;have:=h.anti b a;omega
theorem Cmp.on{α β:Type}{f:α->α->Int}(h:Cmp f)(g:β->α)(hg:∀a b,g a=g b->a=b):Cmp (λa b=>f (g a) (g b)):=
 ⟨λa b=>h.rng _ _,λa b=>h.anti _ _,λa b=>(h.zero _ _).trans ⟨hg a b,λe=>by rw [e]⟩,λa b c=>h.trans _ _ _⟩
def or2(x y:Int):Int:=if x=0 then y else x
theorem zn(y:Int):or2 0 y=y:=rfl
theorem zG{x:Int}(h:x≠0)(y:Int):or2 x y=x:=by unfold or2;rw [if_neg h]
theorem Cmp.pair{α β:Type}{f:α->α->Int}{g:β->β->Int}(hf:Cmp f)(hg:Cmp g):Cmp (λ(x y:α × β)=>or2 (f x.1 y.1) (g x.2 y.2)):=by
 refine⟨λa b=>?_,λa b=>?_,λa b=>?_,λa b c h1 h2=>?_⟩
 ·unfold or2;split
  ·exact hg.rng _ _
  ·exact hf.rng _ _
 ·have h1:=hf.anti a.1 b.1;have h2:=hg.anti a.2 b.2;unfold or2;split <;> split <;> omega
 ·have h1:=hf.zero a.1 b.1;have h2:=hg.zero a.2 b.2;unfold or2;rw [Prod.ext_iff];split
  ·rename_i h;rw [h2];exact⟨λe=>⟨h1.1 h,e⟩,λe=>e.2⟩
  ·rename_i h;exact⟨λe=>absurd e h,λe=>absurd (h1.2 e.1) h⟩
 ·by_cases e1:f a.1 b.1=0
  ·have q1:=(hf.zero _ _).1 e1;simp only [e1,zn] at h1;by_cases e2:f b.1 c.1=0
   ·have q2:=(hf.zero _ _).1 e2;simp only [e2,zn] at h2;have e3:f a.1 c.1=0:=(hf.zero _ _).2 (q1.trans q2);simp only [e3,zn];exact hg.trans _ _ _ h1 h2
   ·simp only [zG e2] at h2;rw [q1];simp only [zG e2];exact h2
  ·simp only [zG e1] at h1;have hlt:f a.1 b.1<0:=by omega
   have Ec:f b.1 c.1<=0:=by
    by_cases e2:f b.1 c.1=0
    ·omega
    ·simp only [zG e2] at h2;exact h2
   have h3:=hf.lt_le hlt Ec;simp only [zG (show f a.1 c.1≠0 by omega)];omega
def jJ{α:Type}(f:α->α->Int):List α->List α->Int
 | [],[]=>0
 | [],_ :: _ => -1
 | _ :: _,[]=>1
 | a :: as,b :: bs=>or2 (f a b) (jJ f as bs)
theorem Cmp.list{α:Type}{f:α->α->Int}(hf:Cmp f):Cmp (jJ f):=by
 refine⟨?_,?_,?_,?_⟩
 ·intro a
  induction a with
  | nil=>intro b;cases b <;> simp [jJ]
  | cons x a ih =>
   intro b
   cases b with
   | nil=>simp [jJ]
   | cons y b =>
    simp only [jJ];unfold or2;split
    ·exact ih b
    ·exact hf.rng _ _
 ·intro a
  induction a with
  | nil=>intro b;cases b <;> simp [jJ]
  | cons x a ih =>
   intro b
   cases b with
   | nil=>simp [jJ]
   | cons y b =>
    have h1:=hf.anti x y
    have h2:=ih b
    simp only [jJ];unfold or2;split <;> split <;> omega
 ·intro a
  induction a with
  | nil=>intro b;cases b <;> simp [jJ]
  | cons x a ih =>
   intro b
   cases b with
   | nil=>simp [jJ]
   | cons y b =>
    simp only [jJ]
    rw [List.cons.injEq]
    by_cases e:f x y=0
    ·simp only [e,zn];rw [ih];exact⟨λh=>⟨(hf.zero _ _).1 e,h⟩,λh=>h.2⟩
    ·simp only [zG e];exact⟨λh=>absurd h e,λh=>absurd ((hf.zero _ _).2 h.1) e⟩
 ·intro a
  induction a with
  | nil=>intro b c;cases c <;> simp [jJ]
  | cons x a ih =>
   intro b c h1 h2
   cases b with
   | nil=>simp [jJ] at h1
   | cons y b =>
    cases c with
    | nil=>simp [jJ] at h2
    | cons z c =>
     simp only [jJ] at *
     by_cases e1:f x y=0
     ·have q1:=(hf.zero _ _).1 e1
      subst q1;simp only [e1,zn] at h1;by_cases e2:f x z=0
      ·simp only [e2,zn] at *;exact ih b c h1 h2
      ·simp only [zG e2] at *;exact h2
     ·simp only [zG e1] at h1
      have Ec:f y z<=0:=by
       by_cases e2:f y z=0
       ·omega
       ·simp only [zG e2] at h2;exact h2
      have h3:=hf.lt_le (show f x y<0 by omega) Ec;simp only [zG (show f x z≠0 by omega)];omega
def i8(a b:Int):Int:=if a<b then -1 else if b<a then 1 else 0
theorem mx:Cmp i8 :=
 ⟨λa b=>by unfold i8;split <;>(try split)<;> simp,λa b=>by unfold i8;split <;> split <;>(try split)<;> omega,
  λa b=>by unfold i8;split <;>(try split)<;> omega,λa b c=>by unfold i8;split <;> split <;>(try split)<;>(try split)<;>(try split)<;> omega⟩
def iN(a b:UInt8):Int:=i8 a.toNat b.toNat
theorem tq:Cmp iN:=mx.on (λa:UInt8=>(a.toNat:Int)) (λa b h=>by
 have h':a.toNat=b.toNat:=by omega
 exact UInt8.toNat_inj.1 h')
theorem fp:∀a b:List UInt8,Lib.compareBytes a b=jJ iN a b
 | [],[]=>rfl
 | [],_ :: _=>rfl
 | _ :: _,[]=>rfl
 | a :: as,b :: bs=>by
  simp only [Lib.compareBytes,jJ,fp as bs];have e1:(a<b)↔((a.toNat:Int)<b.toNat):=by rw [UInt8.lt_iff_toNat_lt];omega
  have e2:(b<a)↔((b.toNat:Int)<a.toNat):=by rw [UInt8.lt_iff_toNat_lt];omega
  have h:iN a b=if a<b then -1 else if b<a then 1 else 0:=by
   simp only [iN,i8,e1,e2]
  rw [h];unfold or2;by_cases h1:a<b
  ·simp [h1]
  ·by_cases h2:b<a <;> simp [h1,h2]
def ai(a b:ByteArray):Int:=Lib.compareBytes a.data.toList b.data.toList
theorem j4{a b:ByteArray}(h:a.data.toList=b.data.toList):a=b:=by
 cases a;cases b;simp at h;simp [h]
theorem jB:Cmp ai:=by
 have h:=tq.list.on (λa:ByteArray=>a.data.toList) (λa b h=>j4 h);have e:ai=λa b:ByteArray=>jJ iN a.data.toList b.data.toList:=by
  funext a b;exact fp _ _
 rw [e];exact h
def ka(n:Int):Bool:=(decide (97<=n)&& decide (n<=122))||(decide (65<=n)&& decide (n<=90))||(n==95)
def tN(n:Int):Bool:=decide (48<=n)&& decide (n<=57)
def Bq(n:Int):Bool:=decide (32<=n)&& decide (n<=126)
def ej(b:UInt8):Bool:=ka b.toNat || tN b.toNat
def qW(b:UInt8):Bool:=ka b.toNat
def fi(b:UInt8):Bool:=Bq b.toNat
def ix:List UInt8->Bool
 | []=>false
 | b :: r=>qW b && r.all ej
def zk(s:ByteArray):Int:=if ix s.data.toList then(if 20<s.size then 4 else 0) else 1
def zA(s:ByteArray):Int:=if 60<s.size then 4 else if s.data.toList.all fi then 0 else 1
theorem tu(s:ByteArray)(p:UInt8->Bool){k:Nat}(h:k<s.size):(s.data.toList.take (k+1)).all p=((s.data.toList.take k).all p && p s[k]):=by
 have h':k<s.data.toList.length:=by simpa using h
 rw [List.take_succ_eq_append_getElem h',List.all_append];simp only [List.all_cons,List.all_nil,Bool.and_true];rfl
theorem tM{s:ByteArray}{p:UInt8->Bool}{k:Nat}(h:k<s.size)(hp:p s[k]=false):s.data.toList.all p=false:=by
 have h':k<s.data.toList.length:=by simpa using h
 rw [List.all_eq_false];exact⟨s.data.toList[k],List.getElem_mem h',by rw [show p s.data.toList[k]=false from hp];decide⟩
theorem xi{s:ByteArray}{p:UInt8->Bool}{k:Nat}(h:s.size<=k):(s.data.toList.take k).all p=s.data.toList.all p:=by
 rw [List.take_of_length_le (by simpa using h)]
theorem wz{s:ByteArray}(h:0<s.size)(hl:qW s[0]=true):ix s.data.toList=s.data.toList.all ej:=by
 have h':0<s.data.toList.length:=by simpa using h
 have e:s.data.toList=s[0] :: s.data.toList.drop 1:=List.drop_eq_getElem_cons h';rw [e];simp only [ix,List.all_cons,hl,Bool.true_and];have:ej s[0]=true:=by unfold ej;unfold qW at hl;rw [hl];rfl
 rw [this,Bool.true_and]
theorem rM{s:ByteArray}(h:0<s.size)(hl:qW s[0]=false):ix s.data.toList=false:=by
 have h':0<s.data.toList.length:=by simpa using h
 have e:s.data.toList=s[0] :: s.data.toList.drop 1:=List.drop_eq_getElem_cons h';rw [e];simp only [ix,hl,Bool.false_and]
theorem ru{s:ByteArray}(h:s.size=0):ix s.data.toList=false:=by
 have:s.data.toList = []:=List.eq_nil_of_length_eq_zero (by simpa using h);rw [this];rfl
structure Nd where
 op:Int
 n:Int
 s:ByteArray
 t:ByteArray
theorem Nd.ext4{x y:Nd}(h1:x.op=y.op)(h2:x.n=y.n)(h3:x.s=y.s)(h4:x.t=y.t):x=y:=by
 cases x;cases y;simp_all
def or4(x y z u:Int):Int:=or2 x (or2 y (or2 z u))
def gW(x y:Nd):Int:=or4 (i8 x.op y.op) (i8 x.n y.n) (ai x.s y.s) (ai x.t y.t)
theorem gx:Cmp gW :=
 (mx.pair (mx.pair (jB.pair jB))).on (λx:Nd=>(x.op,x.n,x.s,x.t)) (λa b h=>by
  simp only [Prod.mk.injEq] at h
  exact Nd.ext4 h.1 h.2.1 h.2.2.1 h.2.2.2)
def zx:List Nd->List Nd->Int:=jJ gW
theorem zO:Cmp zx:=gx.list
def noB(s:ByteArray):Bool:=decide (s.size=0)
def zD(x:Nd):Bool :=
 if x.op=1 then(decide (x.n=0)|| decide (x.n=1))&& noB x.s && noB x.t
 else if x.op=2 then noB x.s && noB x.t
 else if x.op=3 then decide (x.n=0)&& noB x.t && decide (zA x.s=0)
 else if x.op=4 then decide (x.n=0)&& decide (zk x.s=0)&& decide (zA x.t=0)
 else if x.op=5\/x.op=6 then decide (0<=x.n)&& noB x.s && noB x.t
 else if x.op=7 then decide (x.n=0)&& noB x.t && decide (zk x.s=0)
 else false
def seg(v:List Nd)(i j:Nat):List Nd:=(v.drop i).take (j-i)
theorem jv{v:List Nd}{i j:Nat}(h:j<=v.length):(seg v i j).length=j-i:=by
 simp [seg];omega
def lH(v:List Nd)(last:Option Nat)(p e:Nat):Bool :=
 match last with
 | none=>true
 | some l=>decide (zx (seg v l p) (seg v p e)<0)
def zR(v:List Nd)(f:Nat->Option Nat):Nat->Option Nat->Nat->Option Nat
 | 0,_,p=>some p
 | k+1,last,p =>
  match f p with
  | none=>none
  | some e=>if lH v last p e then zR v f k (some p) e else none
def jT(v:List Nd)(last:ByteArray)(p:Nat):Option ByteArray :=
 match v[p]? with
 | none=>none
 | some x=>if decide (x.op=7)&& zD x && decide (ai last x.s<0) then some x.s else none
def zS(v:List Nd)(f:Nat->Option Nat):Nat->ByteArray->Nat->Option Nat
 | 0,_,p=>some p
 | k+1,last,p =>
  match jT v last p with
  | none=>none
  | some s =>
   match f (p+1) with
   | none=>none
   | some e=>zS v f k s e
def zm(v:List Nd):Nat->Nat->Option Nat
 | 0,_=>none
 | m+1,p =>
  match v[p]? with
  | none=>none
  | some x =>
   if zD x then
    if x.op=5 then zR v (zm v m) x.n.toNat none (p+1)
    else if x.op=6 then zS v (zm v m) x.n.toNat .empty (p+1)
    else if x.op=7 then none
    else some (p+1)
   else none
def zc(v:List Nd):Int :=
 if 200<v.length then 4 else if zm v (v.length+1) 0=some v.length then 0 else 1
theorem vA{v:List Nd}{f:Nat->Option Nat}(hf:∀p e,f p=some e->p<e/\e<=v.length):
 ∀k last p e,p<=v.length->zR v f k last p=some e->p<=e/\e<=v.length:=by
 intro k
 induction k with
 | zero=>intro last p e hp h;simp only [zR,Option.some.injEq] at h;omega
 | succ k ih =>
  intro last p e hp h
  simp only [zR] at h
  split at h
  ·cases h
  ·rename_i q hq
   have:=hf p q hq;split at h
   ·have:=ih _ _ _ (by omega) h;omega
   ·cases h
theorem wb{v:List Nd}{f:Nat->Option Nat}(hf:∀p e,f p=some e->p<e/\e<=v.length):
 ∀k last p e,p<=v.length->zS v f k last p=some e->p<=e/\e<=v.length:=by
 intro k
 induction k with
 | zero=>intro last p e hp h;simp only [zS,Option.some.injEq] at h;omega
 | succ k ih =>
  intro last p e hp h
  simp only [zS] at h
  split at h
  ·cases h
  ·split at h
   ·cases h
   ·rename_i q hq;have:=hf _ q hq;have:=ih _ _ _ (by omega) h;omega
theorem jH{v:List Nd}:∀m p e,zm v m p=some e->p<e/\e<=v.length:=by
 intro m
 induction m with
 | zero=>intro p e h;cases h
 | succ m ih =>
  intro p e h
  simp only [zm] at h
  split at h
  ·cases h
  ·rename_i x hx
   have hp:p<v.length:=(List.getElem?_eq_some_iff.1 hx).1;split at h
   ·split at h
    ·have:=vA ih _ _ _ _ (by omega) h;omega
    ·split at h
     ·have:=wb ih _ _ _ _ (by omega) h;omega
     ·split at h
      ·cases h
      ·simp only [Option.some.injEq] at h;omega
   ·cases h
end Go.Wk
