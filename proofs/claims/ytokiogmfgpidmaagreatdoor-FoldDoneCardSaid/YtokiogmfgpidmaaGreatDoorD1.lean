/-
  Plain: three-way comparisons, of numbers, texts, pairs and lists. No program in ..
-/
import Derived.Lib.Bytealg
set_option maxRecDepth 100000
namespace Go.Wk
structure Cmp{α:Type}(f:α->α->Int):Prop where
 rng:∀a b,f a b = -1\/f a b=0\/f a b=1
 anti:∀a b,f b a = - f a b
 zero:∀a b,f a b=0↔a=b
 trans:∀a b c,f a b<=0->f b c<=0->f a c<=0
theorem Cmp.self{α:Type}{f:α->α->Int}(h:Cmp f)(a:α):f a a=0:=(h.zero a a).2 rfl
theorem Cmp.lt_le{α:Type}{f:α->α->Int}(h:Cmp f){a b c:α}(h1:f a b<0)(h2:f b c<=0):f a c<0:=by
 have h3:=h.trans a b c (by omega) h2;rcases Int.lt_or_eq_of_le h3 with h4|h4
 ·exact h4
 ·have e:=(h.zero a c).1 h4;subst e;have:=h.anti b a;omega
theorem Cmp.on{α β:Type}{f:α->α->Int}(h:Cmp f)(g:β->α)(hg:∀a b,g a=g b->a=b):Cmp (λa b=>f (g a) (g b)):=
 ⟨λa b=>h.rng _ _,λa b=>h.anti _ _,λa b=>(h.zero _ _).trans ⟨hg a b,λe=>by rw [e]⟩,λa b c=>h.trans _ _ _⟩
def or2(x y:Int):Int:=if x=0 then y else x
theorem zM(y:Int):or2 0 y=y:=rfl
theorem jw{x:Int}(h:x≠0)(y:Int):or2 x y=x:=by unfold or2;rw [if_neg h]
theorem Cmp.pair{α β:Type}{f:α->α->Int}{g:β->β->Int}(hf:Cmp f)(hg:Cmp g):Cmp (λ(x y:α × β)=>or2 (f x.1 y.1) (g x.2 y.2)):=by
 refine⟨λa b=>?_,λa b=>?_,λa b=>?_,λa b c h1 h2=>?_⟩
 ·unfold or2;split
  ·exact hg.rng _ _
  ·exact hf.rng _ _
 ·have h1:=hf.anti a.1 b.1;have h2:=hg.anti a.2 b.2;unfold or2;split <;> split <;> omega
 ·have h1:=hf.zero a.1 b.1;have h2:=hg.zero a.2 b.2;unfold or2;rw [Prod.ext_iff];split
  ·rename_i h;rw [h2];exact⟨λe=>⟨h1.1 h,e⟩,λe=>e.2⟩
  ·rename_i h;exact⟨λe=>absurd e h,λe=>absurd (h1.2 e.1) h⟩
 ·by_cases e1:f a.1 b.1=0
  ·have q1:=(hf.zero _ _).1 e1;simp only [e1,zM] at h1;by_cases e2:f b.1 c.1=0
   ·have q2:=(hf.zero _ _).1 e2;simp only [e2,zM] at h2;have e3:f a.1 c.1=0:=(hf.zero _ _).2 (q1.trans q2);simp only [e3,zM];exact hg.trans _ _ _ h1 h2
   ·simp only [jw e2] at h2;rw [q1];simp only [jw e2];exact h2
  ·simp only [jw e1] at h1;have hlt:f a.1 b.1<0:=by omega
   have h2':f b.1 c.1<=0:=by
    by_cases e2:f b.1 c.1=0
    ·omega
    ·simp only [jw e2] at h2;exact h2
   have h3:=hf.lt_le hlt h2';simp only [jw (show f a.1 c.1≠0 by omega)];omega
def lB{α:Type}(f:α->α->Int):List α->List α->Int
 | [],[]=>0
 | [],_ :: _ => -1
 | _ :: _,[]=>1
 | a :: as,b :: bs=>or2 (f a b) (lB f as bs)
theorem Cmp.list{α:Type}{f:α->α->Int}(hf:Cmp f):Cmp (lB f):=by
 refine⟨?_,?_,?_,?_⟩
 ·intro a
  induction a with
  | nil=>intro b;cases b <;> simp [lB]
  | cons x a ih =>
   intro b
   cases b with
   | nil=>simp [lB]
   | cons y b =>
    simp only [lB];unfold or2;split
    ·exact ih b
    ·exact hf.rng _ _
 ·intro a
  induction a with
  | nil=>intro b;cases b <;> simp [lB]
  | cons x a ih =>
   intro b
   cases b with
   | nil=>simp [lB]
   | cons y b =>
    have h1:=hf.anti x y
    have h2:=ih b
    simp only [lB];unfold or2;split <;> split <;> omega
 ·intro a
  induction a with
  | nil=>intro b;cases b <;> simp [lB]
  | cons x a ih =>
   intro b
   cases b with
   | nil=>simp [lB]
   | cons y b =>
    simp only [lB]
    rw [List.cons.injEq]
    by_cases e:f x y=0
    ·simp only [e,zM];rw [ih];exact⟨λh=>⟨(hf.zero _ _).1 e,h⟩,λh=>h.2⟩
    ·simp only [jw e];exact⟨λh=>absurd h e,λh=>absurd ((hf.zero _ _).2 h.1) e⟩
 ·intro a
  induction a with
  | nil=>intro b c;cases c <;> simp [lB]
  | cons x a ih =>
   intro b c h1 h2
   cases b with
   | nil=>simp [lB] at h1
   | cons y b =>
    cases c with
    | nil=>simp [lB] at h2
    | cons z c =>
     simp only [lB] at *
     by_cases e1:f x y=0
     ·have q1:=(hf.zero _ _).1 e1
      subst q1;simp only [e1,zM] at h1;by_cases e2:f x z=0
      ·simp only [e2,zM] at *;exact ih b c h1 h2
      ·simp only [jw e2] at *;exact h2
     ·simp only [jw e1] at h1
      have h2':f y z<=0:=by
       by_cases e2:f y z=0
       ·omega
       ·simp only [jw e2] at h2;exact h2
      have h3:=hf.lt_le (show f x y<0 by omega) h2';simp only [jw (show f x z≠0 by omega)];omega
def Gl(a b:Int):Int:=if a<b then -1 else if b<a then 1 else 0
theorem TR:Cmp Gl :=
 ⟨λa b=>by unfold Gl;split <;>(try split)<;> simp,λa b=>by unfold Gl;split <;> split <;>(try split)<;> omega,
  λa b=>by unfold Gl;split <;>(try split)<;> omega,λa b c=>by unfold Gl;split <;> split <;>(try split)<;>(try split)<;>(try split)<;> omega⟩
def PO(a b:UInt8):Int:=Gl a.toNat b.toNat
theorem za6:Cmp PO:=TR.on (λa:UInt8=>(a.toNat:Int)) (λa b h=>by
 have h':a.toNat=b.toNat:=by omega
 exact UInt8.toNat_inj.1 h')
theorem Ni:∀a b:List UInt8,Lib.compareBytes a b=lB PO a b
 | [],[]=>rfl
 | [],_ :: _=>rfl
 | _ :: _,[]=>rfl
 | a :: as,b :: bs=>by
  simp only [Lib.compareBytes,lB,Ni as bs];have e1:(a<b)↔((a.toNat:Int)<b.toNat):=by rw [UInt8.lt_iff_toNat_lt];omega
  have e2:(b<a)↔((b.toNat:Int)<a.toNat):=by rw [UInt8.lt_iff_toNat_lt];omega
  have h:PO a b=if a<b then -1 else if b<a then 1 else 0:=by
   simp only [PO,Gl,e1,e2]
  rw [h];unfold or2;by_cases h1:a<b
  ·simp [h1]
  ·by_cases h2:b<a <;> simp [h1,h2]
def jh(a b:ByteArray):Int:=Lib.compareBytes a.data.toList b.data.toList
theorem ql{a b:ByteArray}(h:a.data.toList=b.data.toList):a=b:=by
 cases a;cases b;simp at h;simp [h]
theorem jf:Cmp jh:=by
 have h:=za6.list.on (λa:ByteArray=>a.data.toList) (λa b h=>ql h);have e:jh=λa b:ByteArray=>lB PO a.data.toList b.data.toList:=by
  funext a b;exact Ni _ _
 rw [e];exact h
theorem Pr{a b:List UInt8}{k:Nat}(ha:k<a.length)(hb:k<b.length)(he:a[k]=b[k]):
 Lib.compareBytes (a.drop k) (b.drop k)=Lib.compareBytes (a.drop (k+1)) (b.drop (k+1)):=by
 rw [List.drop_eq_getElem_cons ha,List.drop_eq_getElem_cons hb,he];simp [Lib.compareBytes]
theorem Qu{a b:List UInt8}{k:Nat}(ha:k<a.length)(hb:k<b.length)(he:a[k]<b[k]):
 Lib.compareBytes (a.drop k) (b.drop k)= -1:=by
 rw [List.drop_eq_getElem_cons ha,List.drop_eq_getElem_cons hb];simp [Lib.compareBytes,he]
theorem Pz{a b:List UInt8}{k:Nat}(ha:k<a.length)(hb:k<b.length)(he:b[k]<a[k]):
 Lib.compareBytes (a.drop k) (b.drop k)=1:=by
 rw [List.drop_eq_getElem_cons ha,List.drop_eq_getElem_cons hb];have:¬a[k]<b[k]:=λh=>by have h1:a[k].toNat<b[k].toNat:=h;have h2:b[k].toNat<a[k].toNat:=he;omega
 simp [Lib.compareBytes,he,this]
theorem QZ{a b:List UInt8}{k:Nat}(h:a.length<=k\/b.length<=k)(ha:k<=a.length)(hb:k<=b.length):
 Lib.compareBytes (a.drop k) (b.drop k)=Gl a.length b.length:=by
 by_cases h1:a.length<=k
 ·rw [List.drop_of_length_le h1];by_cases h2:b.length<=k
  ·rw [List.drop_of_length_le h2];have:a.length=b.length:=by omega
   simp [Lib.compareBytes,Gl,this]
  ·rw [List.drop_eq_getElem_cons (by omega)];have:a.length<b.length:=by omega
   simp [Lib.compareBytes,Gl,this]
 ·have h2:b.length<=k:=by omega
  rw [List.drop_of_length_le h2,List.drop_eq_getElem_cons (by omega)];have h3:¬a.length<b.length:=by omega
  have h4:b.length<a.length:=by omega
  simp [Lib.compareBytes,Gl,h3,h4]
def J8(n:Int):Bool:=(decide (97<=n)&& decide (n<=122))||(decide (65<=n)&& decide (n<=90))||(n==95)
def Qr(n:Int):Bool:=decide (48<=n)&& decide (n<=57)
def zbG(n:Int):Bool:=decide (32<=n)&& decide (n<=126)
def IK(b:UInt8):Bool:=J8 b.toNat || Qr b.toNat
def RA(b:UInt8):Bool:=J8 b.toNat
def CU(b:UInt8):Bool:=zbG b.toNat
def Ag:List UInt8->Bool
 | []=>false
 | b :: r=>RA b && r.all IK
def zh(s:ByteArray):Int:=if Ag s.data.toList then(if 20<s.size then 4 else 0) else 1
def zt(s:ByteArray):Int:=if 60<s.size then 4 else if s.data.toList.all CU then 0 else 1
theorem TS(s:ByteArray)(p:UInt8->Bool){k:Nat}(h:k<s.size):(s.data.toList.take (k+1)).all p=((s.data.toList.take k).all p && p s[k]):=by
 have h':k<s.data.toList.length:=by simpa using h
 rw [List.take_succ_eq_append_getElem h',List.all_append];simp only [List.all_cons,List.all_nil,Bool.and_true];rfl
theorem QC{s:ByteArray}{p:UInt8->Bool}{k:Nat}(h:k<s.size)(hp:p s[k]=false):s.data.toList.all p=false:=by
 have h':k<s.data.toList.length:=by simpa using h
 rw [List.all_eq_false];exact⟨s.data.toList[k],List.getElem_mem h',by rw [show p s.data.toList[k]=false from hp];decide⟩
theorem Yq{s:ByteArray}{p:UInt8->Bool}{k:Nat}(h:s.size<=k):(s.data.toList.take k).all p=s.data.toList.all p:=by
 rw [List.take_of_length_le (by simpa using h)]
theorem Uz{s:ByteArray}(h:0<s.size)(hl:RA s[0]=true):Ag s.data.toList=s.data.toList.all IK:=by
 have h':0<s.data.toList.length:=by simpa using h
 have e:s.data.toList=s[0] :: s.data.toList.drop 1:=List.drop_eq_getElem_cons h';rw [e];simp only [Ag,List.all_cons,hl,Bool.true_and];have:IK s[0]=true:=by unfold IK;unfold RA at hl;rw [hl];rfl
 rw [this,Bool.true_and]
theorem MM{s:ByteArray}(h:0<s.size)(hl:RA s[0]=false):Ag s.data.toList=false:=by
 have h':0<s.data.toList.length:=by simpa using h
 have e:s.data.toList=s[0] :: s.data.toList.drop 1:=List.drop_eq_getElem_cons h';rw [e];simp only [Ag,hl,Bool.false_and]
theorem Mw{s:ByteArray}(h:s.size=0):Ag s.data.toList=false:=by
 have:s.data.toList = []:=List.eq_nil_of_length_eq_zero (by simpa using h);rw [this];rfl
theorem SG{s:ByteArray}(h:0<s.size)(hl:RA s[0]=true):Ag (s.data.toList.take 1)=true:=by
 have h':0<s.data.toList.length:=by simpa using h
 have e:s.data.toList=s[0] :: s.data.toList.drop 1:=List.drop_eq_getElem_cons h';rw [e];simp [Ag,hl]
theorem Rj{s:ByteArray}{k:Nat}(hk:0<k)(h:k<s.size)(h1:Ag (s.data.toList.take k)=true)(h2:IK s[k]=true):Ag (s.data.toList.take (k+1))=true:=by
 have h':k<s.data.toList.length:=by simpa using h
 rw [List.take_succ_eq_append_getElem h'];have h0:0<s.data.toList.length:=by omega
 have e:s.data.toList.take k=s.data.toList[0] ::(s.data.toList.take k).drop 1:=by
  have hk':0<(s.data.toList.take k).length:=by rw [List.length_take];omega
  have:=List.drop_eq_getElem_cons hk';rw [List.getElem_take] at this;exact this
 rw [e] at h1 ⊢;simp only [Ag,List.cons_append,List.all_append,List.all_cons,List.all_nil,Bool.and_true,Bool.and_eq_true] at h1 ⊢;exact⟨h1.1,h1.2,h2⟩
theorem zbU{s:ByteArray}{k:Nat}(hk:0<k)(h:k<s.size)(h2:IK s[k]=false):Ag s.data.toList=false:=by
 have h0:0<s.size:=by omega
 rcases hl:RA s[0] with _|_
 ·exact MM h0 hl
 ·rw [Uz h0 hl];exact QC h h2
theorem zdM{s:ByteArray}{k:Nat}(h:s.size<=k)(h1:Ag (s.data.toList.take k)=true):Ag s.data.toList=true:=by
 rwa [List.take_of_length_le (by simpa using h)] at h1
structure Nd where
 op:Int
 n:Int
 s:ByteArray
 t:ByteArray
theorem Nd.ext4{x y:Nd}(h1:x.op=y.op)(h2:x.n=y.n)(h3:x.s=y.s)(h4:x.t=y.t):x=y:=by
 cases x;cases y;simp_all
def or4(x y z u:Int):Int:=or2 x (or2 y (or2 z u))
def NH(x y:Nd):Int:=or4 (Gl x.op y.op) (Gl x.n y.n) (jh x.s y.s) (jh x.t y.t)
theorem OG:Cmp NH :=
 (TR.pair (TR.pair (jf.pair jf))).on (λx:Nd=>(x.op,x.n,x.s,x.t)) (λa b h=>by
  simp only [Prod.mk.injEq] at h
  exact Nd.ext4 h.1 h.2.1 h.2.2.1 h.2.2.2)
def zu:List Nd->List Nd->Int:=lB NH
theorem zO:Cmp zu:=OG.list
def noB(s:ByteArray):Bool:=decide (s.size=0)
def zq(x:Nd):Bool :=
 if x.op=1 then(decide (x.n=0)|| decide (x.n=1))&& noB x.s && noB x.t
 else if x.op=2 then noB x.s && noB x.t
 else if x.op=3 then decide (x.n=0)&& noB x.t && decide (zt x.s=0)
 else if x.op=4 then decide (x.n=0)&& decide (zh x.s=0)&& decide (zt x.t=0)
 else if x.op=5\/x.op=6 then decide (0<=x.n)&& noB x.s && noB x.t
 else if x.op=7 then decide (x.n=0)&& noB x.t && decide (zh x.s=0)
 else false
def seg(v:List Nd)(i j:Nat):List Nd:=(v.drop i).take (j-i)
theorem jL{v:List Nd}{i j:Nat}(h:j<=v.length):(seg v i j).length=j-i:=by
 simp [seg];omega
def Qc(v:List Nd)(last:Option Nat)(p e:Nat):Bool :=
 match last with
 | none=>true
 | some l=>decide (zu (seg v l p) (seg v p e)<0)
def zY(v:List Nd)(f:Nat->Option Nat):Nat->Option Nat->Nat->Option Nat
 | 0,_,p=>some p
 | k+1,last,p =>
  match f p with
  | none=>none
  | some e=>if Qc v last p e then zY v f k (some p) e else none
def bJ(v:List Nd)(last:ByteArray)(p:Nat):Option ByteArray :=
 match v[p]? with
 | none=>none
 | some x=>if decide (x.op=7)&& zq x && decide (jh last x.s<0) then some x.s else none
def zV(v:List Nd)(f:Nat->Option Nat):Nat->ByteArray->Nat->Option Nat
 | 0,_,p=>some p
 | k+1,last,p =>
  match bJ v last p with
  | none=>none
  | some s =>
   match f (p+1) with
   | none=>none
   | some e=>zV v f k s e
def zl(v:List Nd):Nat->Nat->Option Nat
 | 0,_=>none
 | m+1,p =>
  match v[p]? with
  | none=>none
  | some x =>
   if zq x then
    if x.op=5 then zY v (zl v m) x.n.toNat none (p+1)
    else if x.op=6 then zV v (zl v m) x.n.toNat .empty (p+1)
    else if x.op=7 then none
    else some (p+1)
   else none
def zc(v:List Nd):Int :=
 if 200<v.length then 4 else if zl v (v.length+1) 0=some v.length then 0 else 1
theorem zc8{v:List Nd}{f:Nat->Option Nat}(hf:∀p e,f p=some e->p<e/\e<=v.length):
 ∀k last p e,p<=v.length->zY v f k last p=some e->p<=e/\e<=v.length:=by
 intro k
 induction k with
 | zero=>intro last p e hp h;simp only [zY,Option.some.injEq] at h;omega
 | succ k ih =>
  intro last p e hp h
  simp only [zY] at h
  split at h
  ·cases h
  ·rename_i q hq
   have:=hf p q hq;split at h
   ·have:=ih _ _ _ (by omega) h;omega
   ·cases h
theorem zc5{v:List Nd}{f:Nat->Option Nat}(hf:∀p e,f p=some e->p<e/\e<=v.length):
 ∀k last p e,p<=v.length->zV v f k last p=some e->p<=e/\e<=v.length:=by
 intro k
 induction k with
 | zero=>intro last p e hp h;simp only [zV,Option.some.injEq] at h;omega
 | succ k ih =>
  intro last p e hp h
  simp only [zV] at h
  split at h
  ·cases h
  ·split at h
   ·cases h
   ·rename_i q hq;have:=hf _ q hq;have:=ih _ _ _ (by omega) h;omega
theorem jN{v:List Nd}:∀m p e,zl v m p=some e->p<e/\e<=v.length:=by
 intro m
 induction m with
 | zero=>intro p e h;cases h
 | succ m ih =>
  intro p e h
  simp only [zl] at h
  split at h
  ·cases h
  ·rename_i x hx
   have hp:p<v.length:=(List.getElem?_eq_some_iff.1 hx).1;split at h
   ·split at h
    ·have:=zc8 ih _ _ _ _ (by omega) h;omega
    ·split at h
     ·have:=zc5 ih _ _ _ _ (by omega) h;omega
     ·split at h
      ·cases h
      ·simp only [Option.some.injEq] at h;omega
   ·cases h
mutual
inductive Kd
 | base (op:Int)
 | ent (s:ByteArray)
 | set (p:Kd)
 | fs (f:Fl)
inductive Fl
 | nil
 | cons (s:ByteArray) (m:Bool) (k:Kd) (r:Fl)
end
mutual
def Kd.sz:Kd->Nat
 | .base _=>1
 | .ent _=>1
 | .set p=>p.sz+1
 | .fs f=>f.sz+1
def Fl.sz:Fl->Nat
 | .nil=>0
 | .cons _ _ k r=>k.sz+r.sz+1
end
def Fl.find:Fl->ByteArray->Option (Bool × Kd)
 | .nil,_=>none
 | .cons s m k r,x=>if s=x then some (m,k) else r.find x
def Ss:Kd->Bool
 | .base x=>x==48
 | _=>false
def isNone:Kd->Bool
 | .base x=>x==49
 | _=>false
def zmz:Fl->Fl->Bool
 | .nil,_=>true
 | .cons s m _ r,f=>(!m ||(f.find s).isSome)&& zmz r f
mutual
def zdO:Kd->Kd->Bool
 | .base x,b=>x==49 || Ss b ||(match b with | .base y=>x==y|_=>false)
 | .ent s,b=>Ss b ||(match b with | .ent t=>decide (s=t)|_=>false)
 | .set p,b=>Ss b ||(match b with | .set q=>zdO p q|_=>false)
 | .fs f,b=>Ss b ||(match b with | .fs g=>zjf f g && zmz g f|_=>false)
def zjf:Fl->Fl->Bool
 | .nil,_=>true
 | .cons s m k r,g=>(match g.find s with|none=>false|some (m',k')=>(!m' || m)&& zdO k k')&& zjf r g
end
def Fl.ascFrom:ByteArray->Fl->Prop
 | _,.nil=>True
 | x,.cons s _ _ r=>jh x s<0/\r.ascFrom s
def Fl.asc:Fl->Prop
 | .nil=>True
 | .cons s _ _ r=>r.ascFrom s
mutual
def Kd.ok:Kd->Prop
 | .base _=>True
 | .ent _=>True
 | .set p=>p.ok
 | .fs f=>f.asc/\f.ok
def Fl.ok:Fl->Prop
 | .nil=>True
 | .cons _ _ k r=>k.ok/\r.ok
end
theorem ziV{x:ByteArray}{f:Fl}(h:f.ascFrom x):f.asc:=by
 cases f with
 | nil=>trivial
 | cons s m k r=>exact h.2
def emp:ByteArray:=⟨#[]⟩
mutual
def Kd.flat:Kd->List Nd
 | .base x => [⟨x,0,emp,emp⟩]
 | .ent s => [⟨44,0,s,emp⟩]
 | .set p=>⟨45,0,emp,emp⟩:: p.flat
 | .fs f=>⟨46,f.len,emp,emp⟩:: f.flat
def Fl.len:Fl->Nat
 | .nil=>0
 | .cons _ _ _ r=>r.len+1
def Fl.flat:Fl->List Nd
 | .nil => []
 | .cons s m k r=>⟨47,if m=true then 1 else 0,s,emp⟩::(k.flat ++ r.flat)
end
def Zg(x:Int):Prop:=x=41\/x=42\/x=43\/x=48\/x=49
instance (x:Int):Decidable (Zg x):=by unfold Zg;infer_instance
mutual
def Kd.valid:Kd->Prop
 | .base x=>Zg x
 | .ent s=>zh s=0
 | .set p=>p.valid
 | .fs f=>f.validFrom emp
def Fl.validFrom:Fl->ByteArray->Prop
 | .nil,_=>True
 | .cons s _ k r,x=>jh x s<0/\zh s=0/\k.valid/\r.validFrom s
end
def znD(x:ByteArray)(y:Nd):Prop:=y.op=47/\(y.n=0\/y.n=1)/\y.t=emp/\zh y.s=0/\jh x y.s<0
instance (x:ByteArray) (y:Nd):Decidable (znD x y):=by unfold znD;infer_instance
mutual
def zdN:Nat->List Nd->Option (Kd × List Nd)
 | 0,_=>none
 | _+1,[]=>none
 | n+1,x :: r =>
  if Zg x.op then(if x.n=0/\x.s=emp/\x.t=emp then some (.base x.op,r) else none)
  else if x.op=44 then(if x.n=0/\zh x.s=0/\x.t=emp then some (.ent x.s,r) else none)
  else if x.op=45 then(match zdN n r with
   | none=>none
   | some (p,r')=>if x.n=0/\x.s=emp/\x.t=emp then some (.set p,r') else none)
  else if x.op=46 then(match zhW n x.n.toNat emp r with
   | none=>none
   | some (f,r')=>if 0<=x.n/\x.s=emp/\x.t=emp then some (.fs f,r') else none)
  else none
def zhW:Nat->Nat->ByteArray->List Nd->Option (Fl × List Nd)
 | _,0,_,r=>some (.nil,r)
 | 0,_+1,_,_=>none
 | _+1,_+1,_,[]=>none
 | n+1,c+1,x,y :: r =>
  if znD x y then(match zdN n r with
   | none=>none
   | some (k,r')=>match zhW n c y.s r' with
    | none=>none
    | some (f,r'')=>some (.cons y.s (y.n==1) k f,r''))
  else none
end
def zmC(P:List Nd):Option Kd:=match zdN P.length P with
 | some (k,[])=>some k
 | _=>none
mutual
inductive Ex
 | node (n:Nd) (ps:Exs)
inductive Exs
 | nil
 | cons (x:Ex) (r:Exs)
end
mutual
def Ex.flat:Ex->List Nd
 | .node n ps=>n :: ps.flat
def Exs.flat:Exs->List Nd
 | .nil => []
 | .cons x r=>x.flat ++ r.flat
end
def Exs.len:Exs->Nat
 | .nil=>0
 | .cons _ r=>r.len+1
def Ex.head:Ex->Nd
 | .node n _=>n
def Ex.parts:Ex->Exs
 | .node _ ps=>ps
def zC(x:Nd):Int :=
 if x.op=5\/x.op=6 then x.n
 else if 1<=x.op/\x.op<=4\/x.op=8 then 0
 else if x.op=7\/x.op=9\/x.op=10\/21<=x.op/\x.op<=24 then 1
 else if x.op=13 then 3
 else if 11<=x.op/\x.op<=20\/25<=x.op/\x.op<=27 then 2
 else -1
def znI:List (List UInt8):= [[105,102],[116,104,101,110],[101,108,115,101],[116,114,117,101],[102,97,108,115,101],[105,110],[104,97,115],[108,105,107,101],[105,115]]
def zN(s:ByteArray):Bool:=znI.contains s.data.toList
def Kz(s:ByteArray):Bool :=
 if s.data.toList.head?=some 63 then decide (zh (s.extract 1 s.size)=0) else decide (zh s=0)&& !zN s
def je(x:Nd):Bool :=
 if 1<=x.op/\x.op<=7 then zq x
 else if zC x<0\/x.n≠0\/x.t≠emp then false
 else if x.op=8 then Kz x.s
 else if x.op=21\/x.op=22\/x.op=24 then decide (zh x.s=0)
 else if x.op=23 then decide (zt x.s=0)
 else decide (x.s=emp)
def jC(f:Bool)(x:Nd):Bool:=je x &&(decide (x.op=7)==f)
def zB(x:Nd):Bool:=decide (x.op=6)
mutual
def Ex.valid:Ex->Bool->Prop
 | .node n ps,f=>jC f n=true/\(ps.len:Int)=zC n/\ps.valid (zB n) emp
def Exs.valid:Exs->Bool->ByteArray->Prop
 | .nil,_,_=>True
 | .cons x r,c,s=>(c=true->jh s x.head.s<0)/\x.valid c/\r.valid c x.head.s
end
mutual
def ov:Nat->Bool->List Nd->Option (Ex × List Nd)
 | 0,_,_=>none
 | _+1,_,[]=>none
 | m+1,f,x :: r =>
  if jC f x=true then(match jS m (zC x).toNat (zB x) emp r with
   | none=>none
   | some (ps,r')=>some (.node x ps,r')) else none
def jS:Nat->Nat->Bool->ByteArray->List Nd->Option (Exs × List Nd)
 | _,0,_,_,r=>some (.nil,r)
 | 0,_+1,_,_,_=>none
 | _+1,_+1,_,_,[]=>none
 | m+1,c+1,k,s,y :: r =>
  if k=true/\¬jh s y.s<0 then none
  else(match ov m k (y :: r) with
   | none=>none
   | some (x,r')=>match jS m c k y.s r' with
    | none=>none
    | some (ps,r'')=>some (.cons x ps,r''))
end
theorem zgw{x:Nd}(h:zq x=true)(h5:x.op=5\/x.op=6):0<=x.n:=by
 unfold zq at h;rw [if_neg (by omega),if_neg (by omega),if_neg (by omega),if_neg (by omega),if_pos h5] at h;simp only [Bool.and_eq_true,decide_eq_true_eq] at h;exact h.1.1
theorem Pa{x:Nd}(h:je x=true):0<=zC x:=by
 unfold je at h;by_cases h7:1<=x.op/\x.op<=7
 ·rw [if_pos h7] at h;unfold zC;by_cases h5:x.op=5\/x.op=6
  ·rw [if_pos h5];exact zgw h h5
  ·rw [if_neg h5];by_cases h14:1<=x.op/\x.op<=4\/x.op=8
   ·rw [if_pos h14];decide
   ·rw [if_neg h14,if_pos (by omega)];decide
 ·rw [if_neg h7] at h;split at h
  ·cases h
  ·omega
theorem zbb{f:Bool}{x:Nd}(h:jC f x=true):0<=zC x:=by
 unfold jC at h;rw [Bool.and_eq_true] at h;exact Pa h.1
theorem jp(x:Ex):1<=x.flat.length:=by cases x;simp [Ex.flat]
theorem O'(x:Ex):∃r,x.flat=x.head :: r:=by cases x;exact⟨_,rfl⟩
theorem yq:∀m:Nat,(∀f P x r,ov m f P=some (x,r)->x.valid f/\P=x.flat ++ r)/\(∀c k s P ps r,jS m c k s P=some (ps,r)->ps.valid k s/\ps.len=c/\P=ps.flat ++ r)
 | 0=>by
  refine⟨λf P x r h=>by simp [ov] at h,λc k s P ps r h=>?_⟩
  cases c with
  | zero =>
   simp only [jS,Option.some.injEq,Prod.mk.injEq] at h
   obtain⟨rfl,rfl⟩:=h
   exact⟨trivial,rfl,rfl⟩
  | succ c=>simp [jS] at h
 | m+1=>by
  obtain⟨ihX,ihS⟩:=yq m;refine⟨λf P x r h=>?_,λc k s P ps r h=>?_⟩
  ·cases P with
   | nil=>simp [ov] at h
   | cons y P =>
    simp only [ov] at h
    split at h
    ·rename_i hh
     rcases hp:jS m (zC y).toNat (zB y) emp P with _|⟨ps,r'⟩
     ·rw [hp] at h;cases h
     ·rw [hp] at h;simp only [Option.some.injEq,Prod.mk.injEq] at h;obtain⟨rfl,rfl⟩:=h;obtain⟨v,el,e⟩:=ihS _ _ _ _ _ _ hp;have:=zbb hh;exact⟨⟨hh,by rw [el];omega,v⟩,by rw [e];rfl⟩
    ·cases h
  ·cases c with
   | zero =>
    simp only [jS,Option.some.injEq,Prod.mk.injEq] at h
    obtain⟨rfl,rfl⟩:=h
    exact⟨trivial,rfl,rfl⟩
   | succ c =>
    cases P with
    | nil=>simp [jS] at h
    | cons y P =>
     simp only [jS] at h
     split at h
     ·cases h
     ·rename_i hc
      rcases hp:ov m k (y :: P) with _|⟨x,r'⟩
      ·rw [hp] at h;cases h
      ·rw [hp] at h;simp only at h;rcases hq:jS m c k y.s r' with _|⟨qs,r''⟩
       ·rw [hq] at h;cases h
       ·rw [hq] at h;simp only [Option.some.injEq,Prod.mk.injEq] at h;obtain⟨rfl,rfl⟩:=h;obtain⟨v1,e1⟩:=ihX _ _ _ _ hp;obtain⟨v2,el,e2⟩:=ihS _ _ _ _ _ _ hq;have hy:x.head=y:=by
         obtain⟨u,hu⟩:=O' x;rw [hu,List.cons_append] at e1;injection e1 with e1 _;exact e1.symm
        refine⟨⟨λhk=>?_,v1,by rw [hy];exact v2⟩,by simp [Exs.len,el],by simp only [Exs.flat,List.append_assoc];rw [<-e2,<-e1]⟩;rw [hy];exact Decidable.byContradiction λe=>hc ⟨hk,e⟩
theorem Jf:∀m:Nat,(∀f x r,x.valid f->2*x.flat.length<=m->ov m f (x.flat ++ r)=some (x,r))/\(∀k s ps r,ps.valid k s->2*ps.flat.length+1<=m->jS m ps.len k s (ps.flat ++ r)=some (ps,r))
 | 0=>by
  refine⟨λf x r _ h=>by have:=jp x;omega,λk s ps r _ h=>by omega⟩
 | m+1=>by
  obtain⟨ihX,ihS⟩:=Jf m;refine⟨λf x r hv hl=>?_,λk s ps r hv hl=>?_⟩
  ·obtain⟨n,ps⟩:=x;obtain⟨v1,v2,v3⟩:=hv;simp only [Ex.flat,List.length_cons] at hl;have e:(zC n).toNat=ps.len:=by rw [<-v2];rfl
   simp only [Ex.flat,List.cons_append,ov,if_pos v1,e,ihS _ _ ps r v3 (by omega)]
  ·cases ps with
   | nil=>cases m <;> simp [Exs.len,jS,Exs.flat]
   | cons x q =>
    obtain⟨v1,v2,v3⟩:=hv
    simp only [Exs.flat,List.length_append] at hl
    have hp:=jp x
    obtain⟨u,hu⟩:=O' x
    have h1:=ihX k x (q.flat ++ r) v2 (by omega)
    have h2:=ihS k x.head.s q r v3 (by omega)
    simp only [Exs.flat,Exs.len,List.append_assoc]
    rw [hu,List.cons_append] at h1 ⊢
    simp only [jS]
    rw [if_neg (λh=>h.2 (v1 h.1)),h1]
    simp only [h2]
theorem Sk{m m':Nat}{f:Bool}{P r:List Nd}{x:Ex}(h:ov m f P=some (x,r))(h':2*P.length<=m'):ov m' f P=some (x,r):=by
 obtain⟨v,e⟩:=(yq m).1 f P x r h;have hl:x.flat.length<=P.length:=by rw [e,List.length_append];omega
 have:=(Jf m').1 f x r v (by omega);rwa [<-e] at this
theorem QI{m m' c:Nat}{k:Bool}{s:ByteArray}{P r:List Nd}{ps:Exs}(h:jS m c k s P=some (ps,r))(h':2*P.length+1<=m'):jS m' c k s P=some (ps,r):=by
 obtain⟨v,el,e⟩:=(yq m).2 c k s P ps r h;have hl:ps.flat.length<=P.length:=by rw [e,List.length_append];omega
 have:=(Jf m').2 k s ps r v (by omega);rwa [<-e,el] at this
theorem zbl{m m':Nat}{f:Bool}{P:List Nd}(h:2*P.length<=m)(h':2*P.length<=m'):ov m f P=ov m' f P:=by
 rcases e:ov m f P with _|⟨x,r⟩
 ·rcases e':ov m' f P with _|⟨x,r⟩
  ·rfl
  ·rw [Sk e' h] at e;cases e
 ·exact(Sk e h').symm
theorem Pv{m m' c:Nat}{k:Bool}{s:ByteArray}{P:List Nd}(h:2*P.length+1<=m)(h':2*P.length+1<=m'):jS m c k s P=jS m' c k s P:=by
 rcases e:jS m c k s P with _|⟨x,r⟩
 ·rcases e':jS m' c k s P with _|⟨x,r⟩
  ·rfl
  ·rw [QI e' h] at e;cases e
 ·exact(QI e h').symm
def QF(P:List Nd):Option Ex:=match ov (2*P.length+2) false P with
 | some (x,[])=>some x
 | _=>none
theorem IW{P:List Nd}{x:Ex}:QF P=some x↔x.valid false/\P=x.flat:=by
 unfold QF;constructor
 ·intro h;rcases hp:ov (2*P.length+2) false P with _|⟨y,r⟩
  ·rw [hp] at h;cases h
  ·rw [hp] at h
   cases r with
   | nil =>
    simp only [Option.some.injEq] at h
    subst h
    obtain⟨v,e⟩:=(yq _).1 _ _ _ _ hp
    exact⟨v,by rw [e,List.append_nil]⟩
   | cons a r=>cases h
 ·rintro ⟨v,rfl⟩;have:=(Jf (2*x.flat.length+2)).1 false x [] v (by omega);rw [List.append_nil] at this;rw [this]
def jQ(t:List Nd)(p:Nat)(f:Bool):Int:=match ov (2*t.length+2) f (t.drop p) with
 | some (_,r)=>((t.length-r.length:Nat):Int)
 | none => -1
def px(t:List Nd)(c:Nat)(k:Bool)(s:ByteArray)(p:Nat):Int:=match jS (2*t.length+2) c k s (t.drop p) with
 | some (_,r)=>((t.length-r.length:Nat):Int)
 | none => -1
theorem TY{t:List Nd}{p:Nat}{x:Nd}(h:t[p]?=some x):t.drop p=x :: t.drop (p+1):=by
 obtain⟨hp,e⟩:=List.getElem?_eq_some_iff.1 h;rw [<-e];exact List.drop_eq_getElem_cons hp
theorem QH{t:List Nd}{p:Nat}{f:Bool}(h:t.length<=p):jQ t p f = -1:=by
 unfold jQ;rw [List.drop_eq_nil_of_le h];rfl
theorem NF{t:List Nd}{p:Nat}{f:Bool}{x:Nd}(h:t[p]?=some x)(hx:jC f x=false):jQ t p f = -1:=by
 unfold jQ;rw [TY h];simp [ov,hx]
theorem Rc{t:List Nd}{p:Nat}{f:Bool}{x:Nd}(h:t[p]?=some x)(hx:jC f x=true):jQ t p f=px t (zC x).toNat (zB x) emp (p+1):=by
 have hp:=(List.getElem?_eq_some_iff.1 h).1;unfold jQ px;rw [TY h];simp only [ov,if_pos hx];rw [Pv (m:=2*t.length+1) (m':=2*t.length+2) (by simp;omega) (by simp;omega)];rcases jS (2*t.length+2) (zC x).toNat (zB x) emp (t.drop (p+1)) with _|⟨ps,r⟩<;> rfl
theorem Pf{t:List Nd}{p:Nat}{k:Bool}{s:ByteArray}(h:p<=t.length):px t 0 k s p=(p:Int):=by
 unfold px;simp only [jS,List.length_drop];congr 1;omega
theorem Kk{t:List Nd}{p c:Nat}{k:Bool}{s:ByteArray}(h:t.length<=p):px t (c+1) k s p = -1:=by
 unfold px;rw [List.drop_eq_nil_of_le h];rfl
theorem Qv{t:List Nd}{p:Nat}{f:Bool}(h:0<=jQ t p f):∃e:Nat,jQ t p f=(e:Int)/\p<e/\e<=t.length:=by
 unfold jQ at *;rcases hp:ov (2*t.length+2) f (t.drop p) with _|⟨k,r⟩
 ·rw [hp] at h;simp at h
 ·rw [hp] at h;simp only at h ⊢;obtain⟨v,e⟩:=(yq _).1 _ _ _ _ hp;have h1:(t.drop p).length=k.flat.length+r.length:=by rw [e,List.length_append]
  rw [List.length_drop] at h1;have h2:=jp k;exact⟨_,rfl,by omega,by omega⟩
theorem NV{t:List Nd}{p:Nat}{f:Bool}(h:¬0<=jQ t p f):jQ t p f = -1:=by
 unfold jQ at *;rcases hp:ov (2*t.length+2) f (t.drop p) with _|⟨k,r⟩
 ·rfl
 ·rw [hp] at h;simp only at h;omega
theorem IQ{t:List Nd}{p c:Nat}{k:Bool}{s:ByteArray}{y:Nd}(h:t[p]?=some y):px t (c+1) k s p=if k=true/\¬jh s y.s<0 then -1 else if 0<=jQ t p k then px t c k y.s (jQ t p k).toNat else -1:=by
 have hp:=(List.getElem?_eq_some_iff.1 h).1;unfold px;have hd:=TY h;rw [hd];simp only [jS];by_cases hk:k=true/\¬jh s y.s<0
 ·rw [if_pos hk,if_pos hk]
 ·rw [if_neg hk,if_neg hk];rw [<-hd];unfold jQ;rw [zbl (m:=2*t.length+1) (m':=2*t.length+2) (by simp;omega) (by simp;omega)];rcases hq:ov (2*t.length+2) k (t.drop p) with _|⟨x,r⟩
  ·simp
  ·simp only;obtain⟨v,e⟩:=(yq _).1 _ _ _ _ hq;have h1:(t.drop p).length=x.flat.length+r.length:=by rw [e,List.length_append]
   rw [List.length_drop] at h1;have h0:=jp x;rw [if_pos (by omega)];have h3:((t.length-r.length:Nat):Int).toNat=t.length-r.length:=rfl;rw [h3];have h2:t.drop (t.length-r.length)=r:=by
    have:t.drop (t.length-r.length)=(t.drop p).drop x.flat.length:=by rw [List.drop_drop];congr 1;omega
    rw [this,e,List.drop_left]
   rw [h2,Pv (m:=2*t.length+1) (m':=2*t.length+2) (by omega) (by omega)];rcases jS (2*t.length+2) c k y.s r with _|⟨f,r'⟩<;> rfl
theorem zdT{t:List Nd}{p:Nat}{y:Nd}(h:t[p]?=some y):jQ t p true=if jC true y=true then jQ t (p+1) false else -1:=by
 have hp:=(List.getElem?_eq_some_iff.1 h).1;by_cases hy:jC true y=true
 ·rw [if_pos hy,Rc h hy];have h7:y.op=7:=by
   unfold jC at hy;rw [Bool.and_eq_true] at hy;simpa using hy.2
  have e1:(zC y).toNat=1:=by unfold zC;rw [if_neg (by omega),if_neg (by omega),if_pos (by omega)];rfl
  have e2:zB y=false:=by unfold zB;rw [decide_eq_false];omega
  rw [e1,e2];rcases hz:t[p+1]? with _|z
  ·rw [List.getElem?_eq_none_iff] at hz;rw [QH hz];exact Kk hz
  ·rw [IQ hz,if_neg (by simp)];by_cases h0:0<=jQ t (p+1) false
   ·rw [if_pos h0];obtain⟨e,he,-,Zz⟩:=Qv h0;rw [he];exact Pf Zz
   ·rw [if_neg h0,NV h0]
 ·rw [if_neg hy,NF h (by simpa using hy)]
theorem zf7{t:List Nd}{p:Nat}{f:Bool}{x:Ex}{r:List Nd}(hx:x.valid f)(h:t.drop p=x.flat ++ r):jQ t p f=((p+x.flat.length:Nat):Int):=by
 have h1:(t.drop p).length=x.flat.length+r.length:=by rw [h,List.length_append]
 rw [List.length_drop] at h1;have h2:=jp x;have h3:=(Jf (2*t.length+2)).1 f x r hx (by omega);unfold jQ;rw [h,h3];simp only;congr 1;omega
def vR(t:List Nd):Int:=if 200<t.length then 4 else if(QF t).isSome then 0 else 1
theorem ziD{t:List Nd}:jQ t 0 false=(t.length:Int)↔(QF t).isSome=true:=by
 unfold jQ QF;rw [List.drop_zero];rcases hp:ov (2*t.length+2) false t with _|⟨k,r⟩
 ·simp
 ·simp only;obtain⟨v,e⟩:=(yq _).1 _ _ _ _ hp;have h1:t.length=k.flat.length+r.length:=by rw [<-List.length_append,<-e]
  have h2:=jp k
  cases r with
  | nil=>simp
  | cons a r =>
   simp only [List.length_cons] at h1 ⊢
   simp
   omega
theorem Db{t:List Nd}:vR t=0↔t.length<=200/\∃x:Ex,x.valid false/\t=x.flat:=by
 unfold vR;by_cases h:200<t.length
 ·rw [if_pos h];omega
 ·rw [if_neg h];rcases hr:QF t with _|k
  ·simp only [Option.isSome_none,Bool.false_eq_true,if_false];constructor
   ·intro q;omega
   ·rintro ⟨-,k,v,e⟩;rw [IW.2 ⟨v,e⟩] at hr;cases hr
  ·simp only [Option.isSome_some,if_true,true_iff];exact⟨by omega,k,IW.1 hr⟩
end Go.Wk
namespace Go.Proofs.YtokiogmfgpidmaaGreatDoor
open Go.Wk
def exL:Exs->List Ex
 | .nil => []
 | .cons x r=>x :: exL r
theorem J':∀ps:Exs,(exL ps).length=ps.len
 | .nil=>rfl
 | .cons _ r=>by rw [exL,List.length_cons,J' r];rfl
theorem zaw:∀ps:Exs,ps.flat=((exL ps).map Ex.flat).flatten
 | .nil=>rfl
 | .cons x r=>by rw [exL,Exs.flat,List.map_cons,List.flatten_cons,zaw r]
theorem Ye:∀ {p q:Exs},exL p=exL q->p=q
 | .nil,.nil,_=>rfl
 | .nil,.cons _ _,h=>by simp [exL] at h
 | .cons _ _,.nil,h=>by simp [exL] at h
 | .cons x p,.cons y q,h=>by
  rw [exL,exL] at h;injection h with h1 h2;rw [h1,Ye h2]
end Go.Proofs.YtokiogmfgpidmaaGreatDoor
namespace Go.Wk
def Exs.app:Exs->Exs->Exs
 | .nil,q=>q
 | .cons x r,q => .cons x (r.app q)
theorem Vf:∀(a b:Exs),(a.app b).flat=a.flat ++ b.flat
 | .nil,b=>rfl
 | .cons x r,b=>by simp [Exs.app,Exs.flat,Vf r b]
theorem zeR:∀(a b:Exs),(a.app b).len=a.len+b.len
 | .nil,b=>by simp [Exs.app,Exs.len]
 | .cons x r,b=>by simp only [Exs.app,Exs.len,zeR r b];omega
mutual
def Ex.cnt:Ex->Prop
 | .node n ps=>(ps.len:Int)=zC n/\ps.cnt
def Exs.cnt:Exs->Prop
 | .nil=>True
 | .cons x r=>x.cnt/\r.cnt
end
theorem ze0:∀(a b:Exs),(a.app b).cnt↔a.cnt/\b.cnt
 | .nil,b=>by simp [Exs.app,Exs.cnt]
 | .cons x r,b=>by simp only [Exs.app,Exs.cnt,ze0 r b,and_assoc]
mutual
theorem Ex.valid.cnt:∀ {x:Ex} {f:Bool},x.valid f->x.cnt
 | .node _ _,_,h=>⟨h.2.1,h.2.2.cnts⟩
theorem Exs.valid.cnts:∀ {r:Exs} {c:Bool} {s:ByteArray},r.valid c s->r.cnt
 | .nil,_,_,_=>trivial
 | .cons _ _,_,_,h=>⟨h.2.1.cnt,h.2.2.cnts⟩
end
structure SJ(t:List Nd)(p:Nat)(L:Exs):Prop where
 cnt:L.cnt
 drop:∃r,t.drop p=L.flat ++ r
theorem SJ.start{t:List Nd}{p:Nat}{f:Bool}{x:Ex}{r:List Nd}(hx:x.valid f)(h:t.drop p=x.flat ++ r):SJ t p (.cons x .nil):=
 ⟨⟨hx.cnt,trivial⟩,r,by simp [Exs.flat,h]⟩
theorem SJ.step{t:List Nd}{p:Nat}{n:Nd}{ps q:Exs}(h:SJ t p (.cons (.node n ps) q)):t[p]?=some n/\SJ t (p+1) (ps.app q)/\((ps.app q).len:Int)=q.len+zC n/\p+1+(ps.app q).flat.length=p+(Exs.cons (.node n ps) q).flat.length:=by
 obtain⟨⟨⟨h1,h2⟩,h3⟩,r,e⟩:=h;simp only [Exs.flat,Ex.flat,List.cons_append,List.append_assoc] at e;refine⟨?_,⟨(ze0 _ _).2 ⟨h2,h3⟩,r,?_⟩,?_,?_⟩
 ·have:=congrArg (λl=>l[0]?) e;simpa using this
 ·have:=congrArg (List.drop 1) e;rw [List.drop_drop] at this;rw [Vf,List.append_assoc];simpa using this
 ·rw [zeR,<-h1];omega
 ·rw [Vf];simp only [Exs.flat,Ex.flat,List.length_cons,List.length_append];omega
theorem SJ.left{t:List Nd}{p:Nat}{L:Exs}(h:SJ t p L)(hl:0<L.len):∃n ps q,L = .cons (.node n ps) q:=by
 cases L with
 | nil=>simp [Exs.len] at hl
 | cons x q=>obtain⟨n,ps⟩:=x;exact⟨n,ps,q,rfl⟩
theorem gY:∀r:Exs,r.len<=r.flat.length
 | .nil=>Nat.le_refl _
 | .cons x r=>by have:=jp x;have:=gY r;simp only [Exs.len,Exs.flat,List.length_append];omega
theorem SJ.le{t:List Nd}{p:Nat}{L:Exs}(h:SJ t p L)(hl:0<L.len):p+L.flat.length<=t.length:=by
 obtain⟨r,e⟩:=h.drop;have h1:=congrArg List.length e;rw [List.length_drop,List.length_append] at h1;have:=gY L;omega
structure XAt(t:List Nd)(p:Nat)(f:Bool)(x:Ex):Prop where
 valid:x.valid f
 drop:∃r,t.drop p=x.flat ++ r
structure Pd(t:List Nd)(p:Nat)(c:Bool)(r:Exs):Prop where
 valid:∃s,r.valid c s
 drop:∃u,t.drop p=r.flat ++ u
theorem XAt.all{x:Ex}{f:Bool}(h:x.valid f):XAt x.flat 0 f x:=⟨h,[],by simp⟩
theorem XAt.head{t:List Nd}{p:Nat}{f:Bool}{x:Ex}(h:XAt t p f x):t[p]?=some x.head:=by
 obtain⟨r,e⟩:=h.drop;obtain⟨u,hu⟩:=O' x;rw [hu] at e;have:=congrArg (λl=>l[0]?) e;simpa using this
theorem XAt.le{t:List Nd}{p:Nat}{f:Bool}{x:Ex}(h:XAt t p f x):p+x.flat.length<=t.length:=by
 obtain⟨r,e⟩:=h.drop;have h1:=congrArg List.length e;rw [List.length_drop,List.length_append] at h1;have:=jp x;omega
theorem XAt.end_{t:List Nd}{p:Nat}{f:Bool}{x:Ex}(h:XAt t p f x):jQ t p f=((p+x.flat.length:Nat):Int):=by
 obtain⟨r,e⟩:=h.drop;exact zf7 h.valid e
theorem XAt.seg{t:List Nd}{p:Nat}{f:Bool}{x:Ex}(h:XAt t p f x):Go.Wk.seg t p (p+x.flat.length)=x.flat:=by
 obtain⟨r,e⟩:=h.drop;unfold Go.Wk.seg;rw [e,show p+x.flat.length-p=x.flat.length by omega,List.take_left]
theorem XAt.parts{t:List Nd}{p:Nat}{f:Bool}{x:Ex}(h:XAt t p f x):Pd t (p+1) (zB x.head) x.parts:=by
 obtain⟨n,ps⟩:=x;obtain⟨r,e⟩:=h.drop;refine⟨⟨_,h.valid.2.2⟩,r,?_⟩;simp only [Ex.flat,List.cons_append] at e;have:=congrArg (List.drop 1) e;rw [List.drop_drop] at this;simpa [Ex.parts] using this
theorem Pd.head{t:List Nd}{p:Nat}{c:Bool}{x:Ex}{r:Exs}(h:Pd t p c (.cons x r)):XAt t p c x/\Pd t (p+x.flat.length) c r:=by
 obtain⟨⟨s,v⟩,u,e⟩:=h;simp only [Exs.flat,List.append_assoc] at e;refine⟨⟨v.2.1,_,e⟩,⟨_,v.2.2⟩,u,?_⟩;have:=congrArg (List.drop x.flat.length) e;rw [List.drop_drop,List.drop_left] at this;exact this
theorem XAt.field{t:List Nd}{p:Nat}{x:Ex}(h:XAt t p true x):∃n y,x = .node n (.cons y .nil)/\n.op=7/\zh n.s=0/\XAt t (p+1) false y/\x.flat.length=y.flat.length+1:=by
 obtain⟨n,ps⟩:=x;have hv:=h.valid;obtain⟨v1,v2,v3⟩:=hv;unfold jC at v1;rw [Bool.and_eq_true] at v1;have h7:n.op=7:=by simpa using v1.2
 have e1:zC n=1:=by unfold zC;rw [if_neg (by omega),if_neg (by omega),if_pos (by omega)]
 have e2:zB n=false:=by unfold zB;rw [decide_eq_false];omega
 have hnf:zh n.s=0:=by
  have h0:=v1.1;unfold je at h0;rw [if_pos (by omega)] at h0;unfold zq at h0;rw [if_neg (by omega),if_neg (by omega),if_neg (by omega),if_neg (by omega),if_neg (by omega),if_pos h7] at h0;simp only [Bool.and_eq_true,decide_eq_true_eq] at h0;exact h0.2
 rw [e1] at v2
 cases ps with
 | nil=>simp [Exs.len] at v2
 | cons y q =>
  cases q with
  | cons z q=>simp only [Exs.len] at v2;omega
  | nil =>
   have hp:=h.parts
   rw [show(Ex.node n (Exs.cons y Exs.nil)).head=n from rfl,e2] at hp
   exact⟨n,y,rfl,h7,hnf,hp.head.1,by simp [Ex.flat,Exs.flat]⟩
def Exs.list:Exs->List Ex
 | .nil => []
 | .cons x r=>x :: r.list
theorem Mg:∀r:Exs,r.list.length=r.len
 | .nil=>rfl
 | .cons x r=>by simp [Exs.list,Exs.len,Mg r]
def qm(c:Bool):Nat->Exs->List Nat
 | p,.nil => [p]
 | p,.cons x r=>(if c=true then p+1 else p):: qm c (p+x.flat.length) r
theorem Ty(c:Bool):∀(r:Exs) (p:Nat),(qm c p r).length=r.len+1
 | .nil,_=>rfl
 | .cons x r,p=>by simp [qm,Exs.len,Ty c r]
def E5(c:Bool)(x:Ex):Ex:=match c,x with
 | true,.node _ (.cons y _)=>y
 | _,x=>x
theorem Pd.at{t:List Nd}{c:Bool}:∀ {r:Exs} {p:Nat},Pd t p c r->∀(i:Nat) (x:Ex),r.list[i]?=some x->∃q:Nat,(qm c p r)[i]?=some q/\XAt t q false (E5 c x)/\(c=true->0<q/\t[q-1]?=some x.head)/\((qm c p r)[i+1]?=some (q+(E5 c x).flat.length+(if c=true/\i+1<r.len then 1 else 0)))
 | .nil,_,_,i,x,h=>by simp [Exs.list] at h
 | .cons y r,p,hA,i,x,h=>by
  obtain⟨h1,h2⟩:=hA.head
  cases i with
  | zero =>
   simp only [Exs.list,List.getElem?_cons_zero,Option.some.injEq] at h
   subst h
   have hr:(qm c (p+y.flat.length) r)[0]?=some (p+y.flat.length+if c=true/\0<r.len then 1 else 0):=by
    cases r with
    | nil=>simp [qm,Exs.len]
    | cons z r=>simp only [qm,List.getElem?_cons_zero,Exs.len];cases c <;> simp
   cases c with
   | false =>
    refine⟨p,by simp [qm],h1,(λe=>nomatch e),?_⟩
    simp only [qm,List.getElem?_cons_succ]
    rw [hr]
    simp [E5]
   | true =>
    have hh:=h1.head
    obtain⟨n,z,rfl,h7,-,hz,hl⟩:=h1.field
    refine⟨p+1,by simp [qm],hz,λ_=>⟨by omega,by simpa using hh⟩,?_⟩
    simp only [qm,List.getElem?_cons_succ]
    rw [hr,hl]
    simp only [E5,Exs.len,true_and]
    congr 1
    by_cases hr0:0<r.len
    ·rw [if_pos hr0,if_pos (by omega)];omega
    ·rw [if_neg hr0,if_neg (by omega)];omega
  | succ i =>
   simp only [Exs.list,List.getElem?_cons_succ] at h
   obtain⟨q,e1,e2,e3,e4⟩:=h2.at i x h
   refine⟨q,by simpa [qm] using e1,e2,e3,?_⟩
   simp only [qm,List.getElem?_cons_succ]
   rw [e4]
   simp [Exs.len]
end Go.Wk
