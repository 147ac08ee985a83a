/-
  Plain: three-way comparisons, of numbers, texts, pairs and lists. No program in ..
-/
import Derived.Lib.Bytealg
set_option maxRecDepth 100000
namespace Go.Wk
structure Cmp{α:Type}(f:α->α->Int):Prop where
 rng:∀a b,f a b = -1\/f a b=0\/f a b=1
 anti:∀a b,f b a = - f a b
 zero:∀a b,f a b=0↔a=b
 trans:∀a b c,f a b<=0->f b c<=0->f a c<=0
theorem Cmp.self{α:Type}{f:α->α->Int}(h:Cmp f)(a:α):f a a=0:=(h.zero a a).2 rfl
theorem Cmp.lt_le{α:Type}{f:α->α->Int}(h:Cmp f){a b c:α}(h1:f a b<0)(h2:f b c<=0):f a c<0:=by
 have h3:=h.trans a b c (by omega) h2;rcases Int.lt_or_eq_of_le h3 with h4|h4
 ·exact h4
 ·have e:=(h.zero a c).1 h4;subst e;have:=h.anti b a;omega
theorem Cmp.on{α β:Type}{f:α->α->Int}(h:Cmp f)(g:β->α)(hg:∀a b,g a=g b->a=b):Cmp (λa b=>f (g a) (g b)):=
 ⟨λa b=>h.rng _ _,λa b=>h.anti _ _,λa b=>(h.zero _ _).trans ⟨hg a b,λe=>by rw [e]⟩,λa b c=>h.trans _ _ _⟩
def or2(x y:Int):Int:=if x=0 then y else x
theorem zu(y:Int):or2 0 y=y:=rfl
theorem zR{x:Int}(h:x≠0)(y:Int):or2 x y=x:=by unfold or2;rw [if_neg h]
theorem Cmp.pair{α β:Type}{f:α->α->Int}{g:β->β->Int}(hf:Cmp f)(hg:Cmp g):Cmp (λ(x y:α × β)=>or2 (f x.1 y.1) (g x.2 y.2)):=by
 refine⟨λa b=>?_,λa b=>?_,λa b=>?_,λa b c h1 h2=>?_⟩
 ·unfold or2;split
  ·exact hg.rng _ _
  ·exact hf.rng _ _
 ·have h1:=hf.anti a.1 b.1;have h2:=hg.anti a.2 b.2;unfold or2;split <;> split <;> omega
 ·have h1:=hf.zero a.1 b.1;have h2:=hg.zero a.2 b.2;unfold or2;rw [Prod.ext_iff];split
  ·rename_i h;rw [h2];exact⟨λe=>⟨h1.1 h,e⟩,λe=>e.2⟩
  ·rename_i h;exact⟨λe=>absurd e h,λe=>absurd (h1.2 e.1) h⟩
 ·by_cases e1:f a.1 b.1=0
  ·have q1:=(hf.zero _ _).1 e1;simp only [e1,zu] at h1;by_cases e2:f b.1 c.1=0
   ·have q2:=(hf.zero _ _).1 e2;simp only [e2,zu] at h2;have e3:f a.1 c.1=0:=(hf.zero _ _).2 (q1.trans q2);simp only [e3,zu];exact hg.trans _ _ _ h1 h2
   ·simp only [zR e2] at h2;rw [q1];simp only [zR e2];exact h2
  ·simp only [zR e1] at h1;have hlt:f a.1 b.1<0:=by omega
   have Rm:f b.1 c.1<=0:=by
    by_cases e2:f b.1 c.1=0
    ·omega
    ·simp only [zR e2] at h2;exact h2
   have h3:=hf.lt_le hlt Rm;simp only [zR (show f a.1 c.1≠0 by omega)];omega
def aI{α:Type}(f:α->α->Int):List α->List α->Int
 | [],[]=>0
 | [],_ :: _ => -1
 | _ :: _,[]=>1
 | a :: as,b :: bs=>or2 (f a b) (aI f as bs)
theorem Cmp.list{α:Type}{f:α->α->Int}(hf:Cmp f):Cmp (aI f):=by
 refine⟨?_,?_,?_,?_⟩
 ·intro a
  induction a with
  | nil=>intro b;cases b <;> simp [aI]
  | cons x a ih =>
   intro b
   cases b with
   | nil=>simp [aI]
   | cons y b =>
    simp only [aI];unfold or2;split
    ·exact ih b
    ·exact hf.rng _ _
 ·intro a
  induction a with
  | nil=>intro b;cases b <;> simp [aI]
  | cons x a ih =>
   intro b
   cases b with
   | nil=>simp [aI]
   | cons y b =>
    have h1:=hf.anti x y
    have h2:=ih b
    simp only [aI];unfold or2;split <;> split <;> omega
 ·intro a
  induction a with
  | nil=>intro b;cases b <;> simp [aI]
  | cons x a ih =>
   intro b
   cases b with
   | nil=>simp [aI]
   | cons y b =>
    simp only [aI]
    rw [List.cons.injEq]
    by_cases e:f x y=0
    ·simp only [e,zu];rw [ih];exact⟨λh=>⟨(hf.zero _ _).1 e,h⟩,λh=>h.2⟩
    ·simp only [zR e];exact⟨λh=>absurd h e,λh=>absurd ((hf.zero _ _).2 h.1) e⟩
 ·intro a
  induction a with
  | nil=>intro b c;cases c <;> simp [aI]
  | cons x a ih =>
   intro b c h1 h2
   cases b with
   | nil=>simp [aI] at h1
   | cons y b =>
    cases c with
    | nil=>simp [aI] at h2
    | cons z c =>
     simp only [aI] at *
     by_cases e1:f x y=0
     ·have q1:=(hf.zero _ _).1 e1
      subst q1;simp only [e1,zu] at h1;by_cases e2:f x z=0
      ·simp only [e2,zu] at *;exact ih b c h1 h2
      ·simp only [zR e2] at *;exact h2
     ·simp only [zR e1] at h1
      have Rm:f y z<=0:=by
       by_cases e2:f y z=0
       ·omega
       ·simp only [zR e2] at h2;exact h2
      have h3:=hf.lt_le (show f x y<0 by omega) Rm;simp only [zR (show f x z≠0 by omega)];omega
def pf(a b:Int):Int:=if a<b then -1 else if b<a then 1 else 0
theorem vy:Cmp pf :=
 ⟨λa b=>by unfold pf;split <;>(try split)<;> simp,λa b=>by unfold pf;split <;> split <;>(try split)<;> omega,
  λa b=>by unfold pf;split <;>(try split)<;> omega,λa b c=>by unfold pf;split <;> split <;>(try split)<;>(try split)<;>(try split)<;> omega⟩
def pg(a b:UInt8):Int:=pf a.toNat b.toNat
theorem Cw:Cmp pg:=vy.on (λa:UInt8=>(a.toNat:Int)) (λa b h=>by
 have h':a.toNat=b.toNat:=by omega
 exact UInt8.toNat_inj.1 h')
theorem kV:∀a b:List UInt8,Lib.compareBytes a b=aI pg a b
 | [],[]=>rfl
 | [],_ :: _=>rfl
 | _ :: _,[]=>rfl
 | a :: as,b :: bs=>by
  simp only [Lib.compareBytes,aI,kV as bs];have e1:(a<b)↔((a.toNat:Int)<b.toNat):=by rw [UInt8.lt_iff_toNat_lt];omega
  have e2:(b<a)↔((b.toNat:Int)<a.toNat):=by rw [UInt8.lt_iff_toNat_lt];omega
  have h:pg a b=if a<b then -1 else if b<a then 1 else 0:=by
   simp only [pg,pf,e1,e2]
  rw [h];unfold or2;by_cases h1:a<b
  ·simp [h1]
  ·by_cases h2:b<a <;> simp [h1,h2]
def js(a b:ByteArray):Int:=Lib.compareBytes a.data.toList b.data.toList
theorem bB{a b:ByteArray}(h:a.data.toList=b.data.toList):a=b:=by
 cases a;cases b;simp at h;simp [h]
theorem zw:Cmp js:=by
 have h:=Cw.list.on (λa:ByteArray=>a.data.toList) (λa b h=>bB h);have e:js=λa b:ByteArray=>aI pg a.data.toList b.data.toList:=by
  funext a b;exact kV _ _
 rw [e];exact h
def pZ(n:Int):Bool:=(decide (97<=n)&& decide (n<=122))||(decide (65<=n)&& decide (n<=90))||(n==95)
def CU(n:Int):Bool:=decide (48<=n)&& decide (n<=57)
def Qz(n:Int):Bool:=decide (32<=n)&& decide (n<=126)
def iS(b:UInt8):Bool:=pZ b.toNat || CU b.toNat
def Bl(b:UInt8):Bool:=pZ b.toNat
def kE(b:UInt8):Bool:=Qz b.toNat
def nO:List UInt8->Bool
 | []=>false
 | b :: r=>Bl b && r.all iS
def zk(s:ByteArray):Int:=if nO s.data.toList then(if 20<s.size then 4 else 0) else 1
def zx(s:ByteArray):Int:=if 60<s.size then 4 else if s.data.toList.all kE then 0 else 1
theorem DR(s:ByteArray)(p:UInt8->Bool){k:Nat}(h:k<s.size):(s.data.toList.take (k+1)).all p=((s.data.toList.take k).all p && p s[k]):=by
 have h':k<s.data.toList.length:=by simpa using h
 rw [List.take_succ_eq_append_getElem h',List.all_append];simp only [List.all_cons,List.all_nil,Bool.and_true];rfl
theorem Ea{s:ByteArray}{p:UInt8->Bool}{k:Nat}(h:k<s.size)(hp:p s[k]=false):s.data.toList.all p=false:=by
 have h':k<s.data.toList.length:=by simpa using h
 rw [List.all_eq_false];exact⟨s.data.toList[k],List.getElem_mem h',by rw [show p s.data.toList[k]=false from hp];decide⟩
theorem I8{s:ByteArray}{p:UInt8->Bool}{k:Nat}(h:s.size<=k):(s.data.toList.take k).all p=s.data.toList.all p:=by
 rw [List.take_of_length_le (by simpa using h)]
theorem Hy{s:ByteArray}(h:0<s.size)(hl:Bl s[0]=true):nO s.data.toList=s.data.toList.all iS:=by
 have h':0<s.data.toList.length:=by simpa using h
 have e:s.data.toList=s[0] :: s.data.toList.drop 1:=List.drop_eq_getElem_cons h';rw [e];simp only [nO,List.all_cons,hl,Bool.true_and];have:iS s[0]=true:=by unfold iS;unfold Bl at hl;rw [hl];rfl
 rw [this,Bool.true_and]
theorem AH{s:ByteArray}(h:0<s.size)(hl:Bl s[0]=false):nO s.data.toList=false:=by
 have h':0<s.data.toList.length:=by simpa using h
 have e:s.data.toList=s[0] :: s.data.toList.drop 1:=List.drop_eq_getElem_cons h';rw [e];simp only [nO,hl,Bool.false_and]
theorem yE{s:ByteArray}(h:s.size=0):nO s.data.toList=false:=by
 have:s.data.toList = []:=List.eq_nil_of_length_eq_zero (by simpa using h);rw [this];rfl
structure Nd where
 op:Int
 n:Int
 s:ByteArray
 t:ByteArray
theorem Nd.ext4{x y:Nd}(h1:x.op=y.op)(h2:x.n=y.n)(h3:x.s=y.s)(h4:x.t=y.t):x=y:=by
 cases x;cases y;simp_all
def or4(x y z u:Int):Int:=or2 x (or2 y (or2 z u))
def nA(x y:Nd):Int:=or4 (pf x.op y.op) (pf x.n y.n) (js x.s y.s) (js x.t y.t)
theorem mN:Cmp nA :=
 (vy.pair (vy.pair (zw.pair zw))).on (λx:Nd=>(x.op,x.n,x.s,x.t)) (λa b h=>by
  simp only [Prod.mk.injEq] at h
  exact Nd.ext4 h.1 h.2.1 h.2.2.1 h.2.2.2)
def zJ:List Nd->List Nd->Int:=aI nA
theorem jg:Cmp zJ:=mN.list
def noB(s:ByteArray):Bool:=decide (s.size=0)
def zC(x:Nd):Bool :=
 if x.op=1 then(decide (x.n=0)|| decide (x.n=1))&& noB x.s && noB x.t
 else if x.op=2 then noB x.s && noB x.t
 else if x.op=3 then decide (x.n=0)&& noB x.t && decide (zx x.s=0)
 else if x.op=4 then decide (x.n=0)&& decide (zk x.s=0)&& decide (zx x.t=0)
 else if x.op=5\/x.op=6 then decide (0<=x.n)&& noB x.s && noB x.t
 else if x.op=7 then decide (x.n=0)&& noB x.t && decide (zk x.s=0)
 else false
def seg(v:List Nd)(i j:Nat):List Nd:=(v.drop i).take (j-i)
theorem jV{v:List Nd}{i j:Nat}(h:j<=v.length):(seg v i j).length=j-i:=by
 simp [seg];omega
def rE(v:List Nd)(last:Option Nat)(p e:Nat):Bool :=
 match last with
 | none=>true
 | some l=>decide (zJ (seg v l p) (seg v p e)<0)
def jb(v:List Nd)(f:Nat->Option Nat):Nat->Option Nat->Nat->Option Nat
 | 0,_,p=>some p
 | k+1,last,p =>
  match f p with
  | none=>none
  | some e=>if rE v last p e then jb v f k (some p) e else none
def aR(v:List Nd)(last:ByteArray)(p:Nat):Option ByteArray :=
 match v[p]? with
 | none=>none
 | some x=>if decide (x.op=7)&& zC x && decide (js last x.s<0) then some x.s else none
def ja(v:List Nd)(f:Nat->Option Nat):Nat->ByteArray->Nat->Option Nat
 | 0,_,p=>some p
 | k+1,last,p =>
  match aR v last p with
  | none=>none
  | some s =>
   match f (p+1) with
   | none=>none
   | some e=>ja v f k s e
def zq(v:List Nd):Nat->Nat->Option Nat
 | 0,_=>none
 | m+1,p =>
  match v[p]? with
  | none=>none
  | some x =>
   if zC x then
    if x.op=5 then jb v (zq v m) x.n.toNat none (p+1)
    else if x.op=6 then ja v (zq v m) x.n.toNat .empty (p+1)
    else if x.op=7 then none
    else some (p+1)
   else none
def zh(v:List Nd):Int :=
 if 200<v.length then 4 else if zq v (v.length+1) 0=some v.length then 0 else 1
theorem Gq{v:List Nd}{f:Nat->Option Nat}(hf:∀p e,f p=some e->p<e/\e<=v.length):
 ∀k last p e,p<=v.length->jb v f k last p=some e->p<=e/\e<=v.length:=by
 intro k
 induction k with
 | zero=>intro last p e hp h;simp only [jb,Option.some.injEq] at h;omega
 | succ k ih =>
  intro last p e hp h
  simp only [jb] at h
  split at h
  ·cases h
  ·rename_i q hq
   have:=hf p q hq;split at h
   ·have:=ih _ _ _ (by omega) h;omega
   ·cases h
theorem FW{v:List Nd}{f:Nat->Option Nat}(hf:∀p e,f p=some e->p<e/\e<=v.length):
 ∀k last p e,p<=v.length->ja v f k last p=some e->p<=e/\e<=v.length:=by
 intro k
 induction k with
 | zero=>intro last p e hp h;simp only [ja,Option.some.injEq] at h;omega
 | succ k ih =>
  intro last p e hp h
  simp only [ja] at h
  split at h
  ·cases h
  ·split at h
   ·cases h
   ·rename_i q hq;have:=hf _ q hq;have:=ih _ _ _ (by omega) h;omega
theorem aC{v:List Nd}:∀m p e,zq v m p=some e->p<e/\e<=v.length:=by
 intro m
 induction m with
 | zero=>intro p e h;cases h
 | succ m ih =>
  intro p e h
  simp only [zq] at h
  split at h
  ·cases h
  ·rename_i x hx
   have hp:p<v.length:=(List.getElem?_eq_some_iff.1 hx).1;split at h
   ·split at h
    ·have:=Gq ih _ _ _ _ (by omega) h;omega
    ·split at h
     ·have:=FW ih _ _ _ _ (by omega) h;omega
     ·split at h
      ·cases h
      ·simp only [Option.some.injEq] at h;omega
   ·cases h
end Go.Wk
