/-
  Plain: three-way comparisons, of numbers, texts, pairs and lists. No program in sight. Plain: names and texts, byte by byte. No program in sight. Plain: nodes, ..
-/
import Derived.Lib.Bytealg
set_option maxRecDepth 100000
namespace Go.Wk
structure Cmp{α:Type}(f:α→α→Int):Prop where
 rng:∀a b,f a b = -1∨f a b=0∨f a b=1
 anti:∀a b,f b a = - f a b
 zero:∀a b,f a b=0↔a=b
 trans:∀a b c,f a b≤0→f b c≤0→f a c≤0
theorem Cmp.self{α:Type}{f:α→α→Int}(h:Cmp f)(a:α):f a a=0:=(h.zero a a).2 rfl
theorem Cmp.lt_le{α:Type}{f:α→α→Int}(h:Cmp f){a b c:α}(h1:f a b<0)(h2:f b c≤0):f a c<0:=by
 have h3:=h.trans a b c (by omega) h2;rcases Int.lt_or_eq_of_le h3 with h4|h4
 ·exact h4
 ·have e:=(h.zero a c).1 h4;subst e;have:=h.anti b a;omega
theorem Cmp.on{α β:Type}{f:α→α→Int}(h:Cmp f)(g:β→α)(hg:∀a b,g a=g b→a=b):Cmp (fun a b=>f (g a) (g b)):=
 ⟨fun a b=>h.rng _ _,fun a b=>h.anti _ _,fun a b=>(h.zero _ _).trans ⟨hg a b,fun e=>by rw [e]⟩,fun a b c=>h.trans _ _ _⟩
def or2(x y:Int):Int:=if x=0 then y else x
theorem zs(y:Int):or2 0 y=y:=rfl
theorem zB{x:Int}(h:x≠0)(y:Int):or2 x y=x:=by unfold or2;rw [if_neg h]
theorem Cmp.pair{α β:Type}{f:α→α→Int}{g:β→β→Int}(hf:Cmp f)(hg:Cmp g):Cmp (fun(x y:α × β)=>or2 (f x.1 y.1) (g x.2 y.2)):=by
 refine⟨fun a b=>?_,fun a b=>?_,fun a b=>?_,fun a b c h1 h2=>?_⟩
 ·unfold or2;split
  ·exact hg.rng _ _
  ·exact hf.rng _ _
 ·have h1:=hf.anti a.1 b.1;have h2:=hg.anti a.2 b.2;unfold or2;split <;> split <;> omega
 ·have h1:=hf.zero a.1 b.1;have h2:=hg.zero a.2 b.2;unfold or2;rw [Prod.ext_iff];split
  ·rename_i h;rw [h2];exact⟨fun e=>⟨h1.1 h,e⟩,fun e=>e.2⟩
  ·rename_i h;exact⟨fun e=>absurd e h,fun e=>absurd (h1.2 e.1) h⟩
 ·by_cases e1:f a.1 b.1=0
  ·have q1:=(hf.zero _ _).1 e1;simp only [e1,zs] at h1;by_cases e2:f b.1 c.1=0
   ·have q2:=(hf.zero _ _).1 e2;simp only [e2,zs] at h2;have e3:f a.1 c.1=0:=(hf.zero _ _).2 (q1.trans q2);simp only [e3,zs];exact hg.trans _ _ _ h1 h2
   ·simp only [zB e2] at h2;rw [q1];simp only [zB e2];exact h2
  ·simp only [zB e1] at h1;have hlt:f a.1 b.1<0:=by omega
   have h2':f b.1 c.1≤0:=by
    by_cases e2:f b.1 c.1=0
    ·omega
    ·simp only [zB e2] at h2;exact h2
   have h3:=hf.lt_le hlt h2';simp only [zB (show f a.1 c.1≠0 by omega)];omega
def jZ{α:Type}(f:α→α→Int):List α→List α→Int
 | [],[]=>0
 | [],_ :: _ => -1
 | _ :: _,[]=>1
 | a :: as,b :: bs=>or2 (f a b) (jZ f as bs)
theorem Cmp.list{α:Type}{f:α→α→Int}(hf:Cmp f):Cmp (jZ f):=by
 refine⟨?_,?_,?_,?_⟩
 ·intro a
  induction a with
  | nil=>intro b;cases b <;> simp [jZ]
  | cons x a ih =>
   intro b
   cases b with
   | nil=>simp [jZ]
   | cons y b =>
    simp only [jZ];unfold or2;split
    ·exact ih b
    ·exact hf.rng _ _
 ·intro a
  induction a with
  | nil=>intro b;cases b <;> simp [jZ]
  | cons x a ih =>
   intro b
   cases b with
   | nil=>simp [jZ]
   | cons y b =>
    have h1:=hf.anti x y
    have h2:=ih b
    simp only [jZ];unfold or2;split <;> split <;> omega
 ·intro a
  induction a with
  | nil=>intro b;cases b <;> simp [jZ]
  | cons x a ih =>
   intro b
   cases b with
   | nil=>simp [jZ]
   | cons y b =>
    simp only [jZ]
    rw [List.cons.injEq]
    by_cases e:f x y=0
    ·simp only [e,zs];rw [ih];exact⟨fun h=>⟨(hf.zero _ _).1 e,h⟩,fun h=>h.2⟩
    ·simp only [zB e];exact⟨fun h=>absurd h e,fun h=>absurd ((hf.zero _ _).2 h.1) e⟩
 ·intro a
  induction a with
  | nil=>intro b c;cases c <;> simp [jZ]
  | cons x a ih =>
   intro b c h1 h2
   cases b with
   | nil=>simp [jZ] at h1
   | cons y b =>
    cases c with
    | nil=>simp [jZ] at h2
    | cons z c =>
     simp only [jZ] at *
     by_cases e1:f x y=0
     ·have q1:=(hf.zero _ _).1 e1
      subst q1;simp only [e1,zs] at h1;by_cases e2:f x z=0
      ·simp only [e2,zs] at *;exact ih b c h1 h2
      ·simp only [zB e2] at *;exact h2
     ·simp only [zB e1] at h1
      have h2':f y z≤0:=by
       by_cases e2:f y z=0
       ·omega
       ·simp only [zB e2] at h2;exact h2
      have h3:=hf.lt_le (show f x y<0 by omega) h2';simp only [zB (show f x z≠0 by omega)];omega
def zbE(a b:Int):Int:=if a<b then -1 else if b<a then 1 else 0
theorem ziG:Cmp zbE :=
 ⟨fun a b=>by unfold zbE;split <;>(try split)<;> simp,fun a b=>by unfold zbE;split <;> split <;>(try split)<;> omega,
  fun a b=>by unfold zbE;split <;>(try split)<;> omega,fun a b c=>by unfold zbE;split <;> split <;>(try split)<;>(try split)<;>(try split)<;> omega⟩
def zfH(a b:UInt8):Int:=zbE a.toNat b.toNat
theorem zlD:Cmp zfH:=ziG.on (fun a:UInt8=>(a.toNat:Int)) (fun a b h=>by
 have h':a.toNat=b.toNat:=by omega
 exact UInt8.toNat_inj.1 h')
theorem zd3:∀a b:List UInt8,Lib.compareBytes a b=jZ zfH a b
 | [],[]=>rfl
 | [],_ :: _=>rfl
 | _ :: _,[]=>rfl
 | a :: as,b :: bs=>by
  simp only [Lib.compareBytes,jZ,zd3 as bs];have e1:(a<b)↔((a.toNat:Int)<b.toNat):=by rw [UInt8.lt_iff_toNat_lt];omega
  have e2:(b<a)↔((b.toNat:Int)<a.toNat):=by rw [UInt8.lt_iff_toNat_lt];omega
  have h:zfH a b=if a<b then -1 else if b<a then 1 else 0:=by
   simp only [zfH,zbE,e1,e2]
  rw [h];unfold or2;by_cases h1:a<b
  ·simp [h1]
  ·by_cases h2:b<a <;> simp [h1,h2]
def zO(a b:ByteArray):Int:=Lib.compareBytes a.data.toList b.data.toList
theorem zaD{a b:ByteArray}(h:a.data.toList=b.data.toList):a=b:=by
 cases a;cases b;simp at h;simp [h]
theorem zt:Cmp zO:=by
 have h:=zlD.list.on (fun a:ByteArray=>a.data.toList) (fun a b h=>zaD h);have e:zO=fun a b:ByteArray=>jZ zfH a.data.toList b.data.toList:=by
  funext a b;exact zd3 _ _
 rw [e];exact h
theorem zfE{a b:List UInt8}{k:Nat}(ha:k<a.length)(hb:k<b.length)(he:a[k]=b[k]):
 Lib.compareBytes (a.drop k) (b.drop k)=Lib.compareBytes (a.drop (k+1)) (b.drop (k+1)):=by
 rw [List.drop_eq_getElem_cons ha,List.drop_eq_getElem_cons hb,he];simp [Lib.compareBytes]
theorem zfv{a b:List UInt8}{k:Nat}(ha:k<a.length)(hb:k<b.length)(he:a[k]<b[k]):
 Lib.compareBytes (a.drop k) (b.drop k)= -1:=by
 rw [List.drop_eq_getElem_cons ha,List.drop_eq_getElem_cons hb];simp [Lib.compareBytes,he]
theorem zfU{a b:List UInt8}{k:Nat}(ha:k<a.length)(hb:k<b.length)(he:b[k]<a[k]):
 Lib.compareBytes (a.drop k) (b.drop k)=1:=by
 rw [List.drop_eq_getElem_cons ha,List.drop_eq_getElem_cons hb];have:¬a[k]<b[k]:=fun h=>by have h1:a[k].toNat<b[k].toNat:=h;have h2:b[k].toNat<a[k].toNat:=he;omega
 simp [Lib.compareBytes,he,this]
theorem zgk{a b:List UInt8}{k:Nat}(h:a.length≤k∨b.length≤k)(ha:k≤a.length)(hb:k≤b.length):
 Lib.compareBytes (a.drop k) (b.drop k)=zbE a.length b.length:=by
 by_cases h1:a.length≤k
 ·rw [List.drop_of_length_le h1];by_cases h2:b.length≤k
  ·rw [List.drop_of_length_le h2];have:a.length=b.length:=by omega
   simp [Lib.compareBytes,zbE,this]
  ·rw [List.drop_eq_getElem_cons (by omega)];have:a.length<b.length:=by omega
   simp [Lib.compareBytes,zbE,this]
 ·have h2:b.length≤k:=by omega
  rw [List.drop_of_length_le h2,List.drop_eq_getElem_cons (by omega)];have h3:¬a.length<b.length:=by omega
  have h4:b.length<a.length:=by omega
  simp [Lib.compareBytes,zbE,h3,h4]
def zcb(n:Int):Bool:=(decide (97≤n)&& decide (n≤122))||(decide (65≤n)&& decide (n≤90))||(n==95)
def zfJ(n:Int):Bool:=decide (48≤n)&& decide (n≤57)
def zmm(n:Int):Bool:=decide (32≤n)&& decide (n≤126)
def zbO(b:UInt8):Bool:=zcb b.toNat || zfJ b.toNat
def zgF(b:UInt8):Bool:=zcb b.toNat
def zaR(b:UInt8):Bool:=zmm b.toNat
def zaG:List UInt8→Bool
 | []=>false
 | b :: r=>zgF b && r.all zbO
def zd(s:ByteArray):Int:=if zaG s.data.toList then(if 20<s.size then 4 else 0) else 1
def zk(s:ByteArray):Int:=if 60<s.size then 4 else if s.data.toList.all zaR then 0 else 1
theorem zhN(s:ByteArray)(p:UInt8→Bool){k:Nat}(h:k<s.size):(s.data.toList.take (k+1)).all p=((s.data.toList.take k).all p && p s[k]):=by
 have h':k<s.data.toList.length:=by simpa using h
 rw [List.take_succ_eq_append_getElem h',List.all_append];simp only [List.all_cons,List.all_nil,Bool.and_true];rfl
theorem zfS{s:ByteArray}{p:UInt8→Bool}{k:Nat}(h:k<s.size)(hp:p s[k]=false):s.data.toList.all p=false:=by
 have h':k<s.data.toList.length:=by simpa using h
 rw [List.all_eq_false];exact⟨s.data.toList[k],List.getElem_mem h',by rw [show p s.data.toList[k]=false from hp];decide⟩
theorem zkT{s:ByteArray}{p:UInt8→Bool}{k:Nat}(h:s.size≤k):(s.data.toList.take k).all p=s.data.toList.all p:=by
 rw [List.take_of_length_le (by simpa using h)]
theorem zhW{s:ByteArray}(h:0<s.size)(hl:zgF s[0]=true):zaG s.data.toList=s.data.toList.all zbO:=by
 have h':0<s.data.toList.length:=by simpa using h
 have e:s.data.toList=s[0] :: s.data.toList.drop 1:=List.drop_eq_getElem_cons h';rw [e];simp only [zaG,List.all_cons,hl,Bool.true_and];have:zbO s[0]=true:=by unfold zbO;unfold zgF at hl;rw [hl];rfl
 rw [this,Bool.true_and]
theorem zdK{s:ByteArray}(h:0<s.size)(hl:zgF s[0]=false):zaG s.data.toList=false:=by
 have h':0<s.data.toList.length:=by simpa using h
 have e:s.data.toList=s[0] :: s.data.toList.drop 1:=List.drop_eq_getElem_cons h';rw [e];simp only [zaG,hl,Bool.false_and]
theorem zfC{s:ByteArray}(h:s.size=0):zaG s.data.toList=false:=by
 have:s.data.toList = []:=List.eq_nil_of_length_eq_zero (by simpa using h);rw [this];rfl
theorem zhg{s:ByteArray}(h:0<s.size)(hl:zgF s[0]=true):zaG (s.data.toList.take 1)=true:=by
 have h':0<s.data.toList.length:=by simpa using h
 have e:s.data.toList=s[0] :: s.data.toList.drop 1:=List.drop_eq_getElem_cons h';rw [e];simp [zaG,hl]
theorem zgc{s:ByteArray}{k:Nat}(hk:0<k)(h:k<s.size)(h1:zaG (s.data.toList.take k)=true)(h2:zbO s[k]=true):zaG (s.data.toList.take (k+1))=true:=by
 have h':k<s.data.toList.length:=by simpa using h
 rw [List.take_succ_eq_append_getElem h'];have h0:0<s.data.toList.length:=by omega
 have e:s.data.toList.take k=s.data.toList[0] ::(s.data.toList.take k).drop 1:=by
  have hk':0<(s.data.toList.take k).length:=by rw [List.length_take];omega
  have:=List.drop_eq_getElem_cons hk';rw [List.getElem_take] at this;exact this
 rw [e] at h1 ⊢;simp only [zaG,List.cons_append,List.all_append,List.all_cons,List.all_nil,Bool.and_true,Bool.and_eq_true] at h1 ⊢;exact⟨h1.1,h1.2,h2⟩
theorem zmA{s:ByteArray}{k:Nat}(hk:0<k)(h:k<s.size)(h2:zbO s[k]=false):zaG s.data.toList=false:=by
 have h0:0<s.size:=by omega
 rcases hl:zgF s[0] with _|_
 ·exact zdK h0 hl
 ·rw [zhW h0 hl];exact zfS h h2
theorem zmZ{s:ByteArray}{k:Nat}(h:s.size≤k)(h1:zaG (s.data.toList.take k)=true):zaG s.data.toList=true:=by
 rwa [List.take_of_length_le (by simpa using h)] at h1
structure Nd where
 op:Int
 n:Int
 s:ByteArray
 t:ByteArray
theorem Nd.ext4{x y:Nd}(h1:x.op=y.op)(h2:x.n=y.n)(h3:x.s=y.s)(h4:x.t=y.t):x=y:=by
 cases x;cases y;simp_all
def or4(x y z u:Int):Int:=or2 x (or2 y (or2 z u))
def zg6(x y:Nd):Int:=or4 (zbE x.op y.op) (zbE x.n y.n) (zO x.s y.s) (zO x.t y.t)
theorem zeL:Cmp zg6 :=
 (ziG.pair (ziG.pair (zt.pair zt))).on (fun x:Nd=>(x.op,x.n,x.s,x.t)) (fun a b h=>by
  simp only [Prod.mk.injEq] at h
  exact Nd.ext4 h.1 h.2.1 h.2.2.1 h.2.2.2)
def zW:List Nd→List Nd→Int:=jZ zg6
theorem zdX:Cmp zW:=zeL.list
def noB(s:ByteArray):Bool:=decide (s.size=0)
def ja(x:Nd):Bool :=
 if x.op=1 then(decide (x.n=0)|| decide (x.n=1))&& noB x.s && noB x.t
 else if x.op=2 then noB x.s && noB x.t
 else if x.op=3 then decide (x.n=0)&& noB x.t && decide (zk x.s=0)
 else if x.op=4 then decide (x.n=0)&& decide (zd x.s=0)&& decide (zk x.t=0)
 else if x.op=5∨x.op=6 then decide (0≤x.n)&& noB x.s && noB x.t
 else if x.op=7 then decide (x.n=0)&& noB x.t && decide (zd x.s=0)
 else false
def seg(v:List Nd)(i j:Nat):List Nd:=(v.drop i).take (j-i)
theorem ze1{v:List Nd}{i j:Nat}(h:j≤v.length):(seg v i j).length=j-i:=by
 simp [seg];omega
def zqs(v:List Nd)(last:Option Nat)(p e:Nat):Bool :=
 match last with
 | none=>true
 | some l=>decide (zW (seg v l p) (seg v p e)<0)
def zaq(v:List Nd)(f:Nat→Option Nat):Nat→Option Nat→Nat→Option Nat
 | 0,_,p=>some p
 | k+1,last,p =>
  match f p with
  | none=>none
  | some e=>if zqs v last p e then zaq v f k (some p) e else none
def zbh(v:List Nd)(last:ByteArray)(p:Nat):Option ByteArray :=
 match v[p]? with
 | none=>none
 | some x=>if decide (x.op=7)&& ja x && decide (zO last x.s<0) then some x.s else none
def zap(v:List Nd)(f:Nat→Option Nat):Nat→ByteArray→Nat→Option Nat
 | 0,_,p=>some p
 | k+1,last,p =>
  match zbh v last p with
  | none=>none
  | some s =>
   match f (p+1) with
   | none=>none
   | some e=>zap v f k s e
def ju(v:List Nd):Nat→Nat→Option Nat
 | 0,_=>none
 | m+1,p =>
  match v[p]? with
  | none=>none
  | some x =>
   if ja x then
    if x.op=5 then zaq v (ju v m) x.n.toNat none (p+1)
    else if x.op=6 then zap v (ju v m) x.n.toNat .empty (p+1)
    else if x.op=7 then none
    else some (p+1)
   else none
def jT(v:List Nd):Int :=
 if 200<v.length then 4 else if ju v (v.length+1) 0=some v.length then 0 else 1
theorem zm7{v:List Nd}{f:Nat→Option Nat}(hf:∀p e,f p=some e→p<e∧e≤v.length):
 ∀k last p e,p≤v.length→zaq v f k last p=some e→p≤e∧e≤v.length:=by
 intro k
 induction k with
 | zero=>intro last p e hp h;simp only [zaq,Option.some.injEq] at h;omega
 | succ k ih =>
  intro last p e hp h
  simp only [zaq] at h
  split at h
  ·cases h
  ·rename_i q hq
   have:=hf p q hq;split at h
   ·have:=ih _ _ _ (by omega) h;omega
   ·cases h
theorem zm5{v:List Nd}{f:Nat→Option Nat}(hf:∀p e,f p=some e→p<e∧e≤v.length):
 ∀k last p e,p≤v.length→zap v f k last p=some e→p≤e∧e≤v.length:=by
 intro k
 induction k with
 | zero=>intro last p e hp h;simp only [zap,Option.some.injEq] at h;omega
 | succ k ih =>
  intro last p e hp h
  simp only [zap] at h
  split at h
  ·cases h
  ·split at h
   ·cases h
   ·rename_i q hq;have:=hf _ q hq;have:=ih _ _ _ (by omega) h;omega
theorem zfh{v:List Nd}:∀m p e,ju v m p=some e→p<e∧e≤v.length:=by
 intro m
 induction m with
 | zero=>intro p e h;cases h
 | succ m ih =>
  intro p e h
  simp only [ju] at h
  split at h
  ·cases h
  ·rename_i x hx
   have hp:p<v.length:=(List.getElem?_eq_some_iff.1 hx).1;split at h
   ·split at h
    ·have:=zm7 ih _ _ _ _ (by omega) h;omega
    ·split at h
     ·have:=zm5 ih _ _ _ _ (by omega) h;omega
     ·split at h
      ·cases h
      ·simp only [Option.some.injEq] at h;omega
   ·cases h
mutual
inductive Kd
 | base (op:Int)
 | ent (s:ByteArray)
 | set (p:Kd)
 | fs (f:Fl)
inductive Fl
 | nil
 | cons (s:ByteArray) (m:Bool) (k:Kd) (r:Fl)
end
mutual
def Kd.sz:Kd→Nat
 | .base _=>1
 | .ent _=>1
 | .set p=>p.sz+1
 | .fs f=>f.sz+1
def Fl.sz:Fl→Nat
 | .nil=>0
 | .cons _ _ k r=>k.sz+r.sz+1
end
def Fl.find:Fl→ByteArray→Option (Bool × Kd)
 | .nil,_=>none
 | .cons s m k r,x=>if s=x then some (m,k) else r.find x
def za5:Kd→Bool
 | .base x=>x==48
 | _=>false
def isNone:Kd→Bool
 | .base x=>x==49
 | _=>false
def ziJ:Fl→Fl→Bool
 | .nil,_=>true
 | .cons s m _ r,f=>(!m ||(f.find s).isSome)&& ziJ r f
mutual
def belowK:Kd→Kd→Bool
 | .base x,b=>x==49 || za5 b ||(match b with | .base y=>x==y|_=>false)
 | .ent s,b=>za5 b ||(match b with | .ent t=>decide (s=t)|_=>false)
 | .set p,b=>za5 b ||(match b with | .set q=>belowK p q|_=>false)
 | .fs f,b=>za5 b ||(match b with | .fs g=>zeZ f g && ziJ g f|_=>false)
def zeZ:Fl→Fl→Bool
 | .nil,_=>true
 | .cons s m k r,g=>(match g.find s with|none=>false|some (m',k')=>(!m' || m)&& belowK k k')&& zeZ r g
end
def Fl.ascFrom:ByteArray→Fl→Prop
 | _,.nil=>True
 | x,.cons s _ _ r=>zO x s<0∧r.ascFrom s
def Fl.asc:Fl→Prop
 | .nil=>True
 | .cons s _ _ r=>r.ascFrom s
mutual
def Kd.ok:Kd→Prop
 | .base _=>True
 | .ent _=>True
 | .set p=>p.ok
 | .fs f=>f.asc∧f.ok
def Fl.ok:Fl→Prop
 | .nil=>True
 | .cons _ _ k r=>k.ok∧r.ok
end
theorem zaC{x:ByteArray}{f:Fl}(h:f.ascFrom x):f.asc:=by
 cases f with
 | nil=>trivial
 | cons s m k r=>exact h.2
theorem zcZ{x:ByteArray}{f:Fl}(h:f.ascFrom x){s:ByteArray}{v:Bool × Kd}(hf:f.find s=some v):zO x s<0:=by
 induction f using Fl.rec (motive_1:=fun _=>True) generalizing x with
 | nil=>cases hf
 | cons t m k r _ ih =>
  simp only [Fl.find] at hf
  split at hf
  ·rename_i e;subst e;exact h.1
  ·exact zt.lt_le h.1 (by have:=ih h.2 hf;omega)
 | _=>trivial
theorem zbG{f:Fl}{s:ByteArray}{m:Bool}{k:Kd}(hf:f.find s=some (m,k)):k.sz<f.sz:=by
 induction f using Fl.rec (motive_1:=fun _=>True) with
 | nil=>cases hf
 | cons t m' k' r _ ih =>
  simp only [Fl.find] at hf
  simp only [Fl.sz]
  split at hf
  ·injection hf with hf;injection hf with h1 h2;subst h2;omega
  ·have:=ih hf;omega
 | _=>trivial
theorem zaJ{f:Fl}(h:f.ok){s:ByteArray}{m:Bool}{k:Kd}(hf:f.find s=some (m,k)):k.ok:=by
 induction f using Fl.rec (motive_1:=fun _=>True) with
 | nil=>cases hf
 | cons t m' k' r _ ih =>
  simp only [Fl.find] at hf
  simp only [Fl.ok] at h
  split at hf
  ·injection hf with hf;injection hf with h1 h2;subst h2;exact h.1
  ·exact ih h.2 hf
 | _=>trivial
theorem zhY{f g:Fl}(h:f.asc):zeZ f g=true↔∀s m k,f.find s=some (m,k)→∃m' k',g.find s=some (m',k')∧(m'=true→m=true)∧belowK k k'=true:=by
 induction f using Fl.rec (motive_1:=fun _=>True) with
 | nil=>simp [zeZ,Fl.find]
 | cons t m k r _ ih =>
  have ih:=ih (zaC h)
  simp only [zeZ,Bool.and_eq_true,ih]
  constructor
  ·rintro ⟨h1,h2⟩ s m0 k0 hf
   simp only [Fl.find] at hf;split at hf
   ·rename_i e;subst e;injection hf with hf;injection hf with e1 e2;subst e1 e2;rcases hg:g.find t with _|⟨m',k'⟩
    ·rw [hg] at h1;cases h1
    ·rw [hg] at h1;simp only [Bool.and_eq_true,Bool.or_eq_true,Bool.not_eq_true'] at h1
     exact ⟨m', k', rfl, fun e => by rcases h1.1 with h | h; · rw [e] at h; cases h
                                     ·exact h,h1.2⟩
   ·exact h2 s m0 k0 hf
  ·intro hall
   constructor
   ·obtain⟨m',k',hg,h1,h2⟩:=hall t m k (by simp [Fl.find]);rw [hg];simp only [Bool.and_eq_true,Bool.or_eq_true,Bool.not_eq_true'];exact⟨by cases m' with
     | false=>exact .inl rfl
     | true=>exact .inr (h1 rfl),h2⟩
   ·intro s m0 k0 hf;refine hall s m0 k0 ?_;have hlt:=zcZ h hf;simp only [Fl.find];rw [if_neg (fun e=>by subst e;rw [zt.self] at hlt;omega)];exact hf
 | _=>trivial
theorem zjS{g f:Fl}(h:g.asc):ziJ g f=true↔∀s k,g.find s=some (true,k)→(f.find s).isSome=true:=by
 induction g using Fl.rec (motive_1:=fun _=>True) with
 | nil=>simp [ziJ,Fl.find]
 | cons t m k r _ ih =>
  have ih:=ih (zaC h)
  simp only [ziJ,Bool.and_eq_true,ih,Bool.or_eq_true,Bool.not_eq_true']
  constructor
  ·rintro ⟨h1,h2⟩ s k0 hf
   simp only [Fl.find] at hf;split at hf
   ·rename_i e;subst e;injection hf with hf;injection hf with e1 e2;subst e1 e2;rcases h1 with h1|h1
    ·cases h1
    ·exact h1
   ·exact h2 s k0 hf
  ·intro hall
   constructor
   ·cases m with
    | false=>exact .inl rfl
    | true=>exact .inr (hall t k (by simp [Fl.find]))
   ·intro s k0 hf;refine hall s k0 ?_;have hlt:=zcZ h hf;simp only [Fl.find];rw [if_neg (fun e=>by subst e;rw [zt.self] at hlt;omega)];exact hf
 | _=>trivial
theorem zol(a b:Kd)(h:za5 b=true):belowK a b=true:=by cases a <;> simp [belowK,h]
theorem zhO(a b:Kd)(h:isNone a=true):belowK a b=true:=by
 cases a with
 | base x=>simp only [isNone] at h;simp [belowK,h]
 | _=>cases h
theorem zaP:∀(n:Nat) (a:Kd),a.sz≤n→a.ok→belowK a a=true
 | 0,a,h,_=>by cases a <;> simp [Kd.sz] at h
 | n+1,a,h,hok=>by
  cases a with
  | base x=>simp [belowK]
  | ent s=>simp [belowK]
  | set p =>
   simp only [Kd.sz] at h
   simp [belowK,zaP n p (by omega) hok]
  | fs f =>
   simp only [Kd.sz] at h
   simp only [belowK,Bool.or_eq_true,Bool.and_eq_true]
   refine .inr ⟨(zhY hok.1).2 fun s m k hf=>⟨m,k,hf,id,zaP n k (by have:=zbG hf;omega) (zaJ hok.2 hf)⟩,(zjS hok.1).2 fun s k hf=>by rw [hf];rfl⟩
def emp:ByteArray:=⟨#[]⟩
mutual
def Kd.flat:Kd→List Nd
 | .base x => [⟨x,0,emp,emp⟩]
 | .ent s => [⟨44,0,s,emp⟩]
 | .set p=>⟨45,0,emp,emp⟩:: p.flat
 | .fs f=>⟨46,f.len,emp,emp⟩:: f.flat
def Fl.len:Fl→Nat
 | .nil=>0
 | .cons _ _ _ r=>r.len+1
def Fl.flat:Fl→List Nd
 | .nil => []
 | .cons s m k r=>⟨47,if m=true then 1 else 0,s,emp⟩::(k.flat ++ r.flat)
end
def jq(x:Int):Prop:=x=41∨x=42∨x=43∨x=48∨x=49
instance (x:Int):Decidable (jq x):=by unfold jq;infer_instance
mutual
def Kd.valid:Kd→Prop
 | .base x=>jq x
 | .ent s=>zd s=0
 | .set p=>p.valid
 | .fs f=>f.validFrom emp
def Fl.validFrom:Fl→ByteArray→Prop
 | .nil,_=>True
 | .cons s _ k r,x=>zO x s<0∧zd s=0∧k.valid∧r.validFrom s
end
def zha(x:ByteArray)(y:Nd):Prop:=y.op=47∧(y.n=0∨y.n=1)∧y.t=emp∧zd y.s=0∧zO x y.s<0
instance (x:ByteArray) (y:Nd):Decidable (zha x y):=by unfold zha;infer_instance
mutual
def zw:Nat→List Nd→Option (Kd × List Nd)
 | 0,_=>none
 | _+1,[]=>none
 | n+1,x :: r =>
  if jq x.op then(if x.n=0∧x.s=emp∧x.t=emp then some (.base x.op,r) else none)
  else if x.op=44 then(if x.n=0∧zd x.s=0∧x.t=emp then some (.ent x.s,r) else none)
  else if x.op=45 then(match zw n r with
   | none=>none
   | some (p,r')=>if x.n=0∧x.s=emp∧x.t=emp then some (.set p,r') else none)
  else if x.op=46 then(match js n x.n.toNat emp r with
   | none=>none
   | some (f,r')=>if 0≤x.n∧x.s=emp∧x.t=emp then some (.fs f,r') else none)
  else none
def js:Nat→Nat→ByteArray→List Nd→Option (Fl × List Nd)
 | _,0,_,r=>some (.nil,r)
 | 0,_+1,_,_=>none
 | _+1,_+1,_,[]=>none
 | n+1,c+1,x,y :: r =>
  if zha x y then(match zw n r with
   | none=>none
   | some (k,r')=>match js n c y.s r' with
    | none=>none
    | some (f,r'')=>some (.cons y.s (y.n==1) k f,r''))
  else none
end
theorem zmw{y:Nd}{a b:Int}{c d:ByteArray}(h1:y.op=a)(h2:y.n=b)(h3:y.s=c)(h4:y.t=d):y=⟨a,b,c,d⟩:=by cases y;simp_all
theorem zai:∀n:Nat,(∀P k r,zw n P=some (k,r)→k.valid∧P=k.flat ++ r)∧(∀c x P f r,js n c x P=some (f,r)→f.validFrom x∧f.len=c∧P=f.flat ++ r)
 | 0=>by
  refine⟨fun P k r h=>by simp [zw] at h,fun c x P f r h=>?_⟩
  cases c with
  | zero =>
   simp only [js,Option.some.injEq,Prod.mk.injEq] at h
   obtain⟨rfl,rfl⟩:=h
   exact⟨trivial,rfl,rfl⟩
  | succ c=>simp [js] at h
 | n+1=>by
  obtain⟨ihK,ihF⟩:=zai n;refine⟨fun P k r h=>?_,fun c x P f r h=>?_⟩
  ·cases P with
   | nil=>simp [zw] at h
   | cons y P =>
    simp only [zw] at h
    split at h
    ·rename_i hb
     split at h
     ·rename_i hc;simp only [Option.some.injEq,Prod.mk.injEq] at h;obtain⟨rfl,rfl⟩:=h;exact⟨hb,by simp only [Kd.flat];rw [zmw rfl hc.1 hc.2.1 hc.2.2];rfl⟩
     ·cases h
    ·split at h
     ·rename_i ho;split at h
      ·rename_i hc;simp only [Option.some.injEq,Prod.mk.injEq] at h;obtain⟨rfl,rfl⟩:=h;exact⟨hc.2.1,by simp only [Kd.flat];rw [zmw ho hc.1 rfl hc.2.2];rfl⟩
      ·cases h
     ·split at h
      ·rename_i ho;rcases hp:zw n P with _|⟨p,r'⟩
       ·rw [hp] at h;cases h
       ·rw [hp] at h;simp only at h;split at h
        ·rename_i hc;simp only [Option.some.injEq,Prod.mk.injEq] at h;obtain⟨rfl,rfl⟩:=h;obtain⟨v,e⟩:=ihK _ _ _ hp;exact⟨v,by simp only [Kd.flat];rw [zmw ho hc.1 hc.2.1 hc.2.2,e];rfl⟩
        ·cases h
      ·split at h
       ·rename_i ho;rcases hp:js n y.n.toNat emp P with _|⟨f,r'⟩
        ·rw [hp] at h;cases h
        ·rw [hp] at h;simp only at h;split at h
         ·rename_i hc;simp only [Option.some.injEq,Prod.mk.injEq] at h;obtain⟨rfl,rfl⟩:=h;obtain⟨v,el,e⟩:=ihF _ _ _ _ _ hp;have en:y.n=(f.len:Int):=by rw [el];omega
          exact⟨v,by simp only [Kd.flat];rw [zmw ho en hc.2.1 hc.2.2,e];rfl⟩
         ·cases h
       ·cases h
  ·cases c with
   | zero =>
    simp only [js,Option.some.injEq,Prod.mk.injEq] at h
    obtain⟨rfl,rfl⟩:=h
    exact⟨trivial,rfl,rfl⟩
   | succ c =>
    cases P with
    | nil=>simp [js] at h
    | cons y P =>
     simp only [js] at h
     split at h
     ·rename_i hf
      rcases hp:zw n P with _|⟨p,r'⟩
      ·rw [hp] at h;cases h
      ·rw [hp] at h;simp only at h;rcases hq:js n c y.s r' with _|⟨g,r''⟩
       ·rw [hq] at h;cases h
       ·rw [hq] at h;simp only [Option.some.injEq,Prod.mk.injEq] at h;obtain⟨rfl,rfl⟩:=h;obtain⟨v1,e1⟩:=ihK _ _ _ hp;obtain⟨v2,el,e2⟩:=ihF _ _ _ _ _ hq;refine⟨⟨hf.2.2.2.2,hf.2.2.2.1,v1,v2⟩,by simp [Fl.len,el],?_⟩;have en:y.n=if(y.n==1)=true then 1 else 0:=by
         rcases hf.2.1 with q|q <;> simp [q]
        simp only [Fl.flat,List.cons_append,List.append_assoc];rw [←e2,←e1];congr 1;exact zmw hf.1 en rfl hf.2.2.1
     ·cases h
theorem zcL:∀n:Nat,(∀k r,k.valid→k.flat.length≤n→zw n (k.flat ++ r)=some (k,r))∧(∀f x r,f.validFrom x→f.flat.length≤n→js n f.len x (f.flat ++ r)=some (f,r))
 | 0=>by
  refine⟨fun k r _ h=>by cases k <;> simp [Kd.flat] at h,fun f x r _ h=>?_⟩
  cases f with
  | nil=>simp [Fl.len,js,Fl.flat]
  | cons s m k q=>simp [Fl.flat] at h
 | n+1=>by
  obtain⟨ihK,ihF⟩:=zcL n;refine⟨fun k r hv hl=>?_,fun f x r hv hl=>?_⟩
  ·cases k with
   | base y =>
    have hb:jq y:=hv
    simp [Kd.flat,zw,hb]
   | ent s =>
    have h1:¬jq 44:=by decide
    have h2:zd s=0:=hv
    simp [Kd.flat,zw,h1,h2]
   | set p =>
    have h1:¬jq 45:=by decide
    simp only [Kd.flat,List.length_cons] at hl
    simp [Kd.flat,zw,h1,ihK p r hv (by omega)]
   | fs f =>
    have h1:¬jq 46:=by decide
    simp only [Kd.flat,List.length_cons] at hl
    simp [Kd.flat,zw,h1,ihF f emp r hv (by omega)]
  ·cases f with
   | nil=>cases n <;> simp [Fl.len,js,Fl.flat]
   | cons s m k q =>
    obtain⟨v1,v2,v3,v4⟩:=hv
    simp only [Fl.flat,List.length_cons,List.length_append] at hl
    have hf:zha x ⟨47,if m=true then 1 else 0,s,emp⟩:=⟨rfl,by cases m <;> simp,rfl,v2,v1⟩
    have hm:(((if m=true then 1 else 0:Int))==1)=m:=by cases m <;> rfl
    simp only [Fl.flat,Fl.len,List.cons_append,List.append_assoc,js,if_pos hf,ihK k (q.flat ++ r) v3 (by omega),ihF q s r v4 (by omega),hm]
def zcY(P:List Nd):Option Kd:=match zw P.length P with
 | some (k,[])=>some k
 | _=>none
theorem zdu{P:List Nd}{k:Kd}:zcY P=some k↔k.valid∧P=k.flat:=by
 unfold zcY;constructor
 ·intro h;rcases hp:zw P.length P with _|⟨k',r⟩
  ·rw [hp] at h;cases h
  ·rw [hp] at h
   cases r with
   | cons a r=>cases h
   | nil =>
    simp only [Option.some.injEq] at h
    subst h
    obtain⟨v,e⟩:=(zai _).1 _ _ _ hp
    exact⟨v,by simpa using e⟩
 ·rintro ⟨v,rfl⟩;have:=(zcL k.flat.length).1 k [] v (Nat.le_refl _);rw [List.append_nil] at this;rw [this]
theorem zqU{a b:Kd}(ha:a.valid)(hb:b.valid)(h:a.flat=b.flat):a=b:=by
 have h1:=zdu.2 ⟨ha,rfl⟩;have h2:=zdu.2 ⟨hb,rfl⟩;rw [h,h2] at h1;injection h1 with h1;exact h1.symm
mutual
inductive Ex
 | node (n:Nd) (ps:Exs)
inductive Exs
 | nil
 | cons (x:Ex) (r:Exs)
end
mutual
def Ex.flat:Ex→List Nd
 | .node n ps=>n :: ps.flat
def Exs.flat:Exs→List Nd
 | .nil => []
 | .cons x r=>x.flat ++ r.flat
end
def Exs.len:Exs→Nat
 | .nil=>0
 | .cons _ r=>r.len+1
def Ex.head:Ex→Nd
 | .node n _=>n
def Ex.parts:Ex→Exs
 | .node _ ps=>ps
def zp(x:Nd):Int :=
 if x.op=5∨x.op=6 then x.n
 else if 1≤x.op∧x.op≤4∨x.op=8 then 0
 else if x.op=7∨x.op=9∨x.op=10∨21≤x.op∧x.op≤24 then 1
 else if x.op=13 then 3
 else if 11≤x.op∧x.op≤20∨25≤x.op∧x.op≤27 then 2
 else -1
def zsq:List (List UInt8):= [[105,102],[116,104,101,110],[101,108,115,101],[116,114,117,101],[102,97,108,115,101],[105,110],[104,97,115],[108,105,107,101],[105,115]]
def zu(s:ByteArray):Bool:=zsq.contains s.data.toList
def zcs(s:ByteArray):Bool :=
 if s.data.toList.head?=some 63 then decide (zd (s.extract 1 s.size)=0) else decide (zd s=0)&& !zu s
def jv(x:Nd):Bool :=
 if 1≤x.op∧x.op≤7 then ja x
 else if zp x<0∨x.n≠0∨x.t≠emp then false
 else if x.op=8 then zcs x.s
 else if x.op=21∨x.op=22∨x.op=24 then decide (zd x.s=0)
 else if x.op=23 then decide (zk x.s=0)
 else decide (x.s=emp)
def zad(f:Bool)(x:Nd):Bool:=jv x &&(decide (x.op=7)==f)
def zA(x:Nd):Bool:=decide (x.op=6)
mutual
def Ex.valid:Ex→Bool→Prop
 | .node n ps,f=>zad f n=true∧(ps.len:Int)=zp n∧ps.valid (zA n) emp
def Exs.valid:Exs→Bool→ByteArray→Prop
 | .nil,_,_=>True
 | .cons x r,c,s=>(c=true→zO s x.head.s<0)∧x.valid c∧r.valid c x.head.s
end
mutual
def zab:Nat→Bool→List Nd→Option (Ex × List Nd)
 | 0,_,_=>none
 | _+1,_,[]=>none
 | m+1,f,x :: r =>
  if zad f x=true then(match jD m (zp x).toNat (zA x) emp r with
   | none=>none
   | some (ps,r')=>some (.node x ps,r')) else none
def jD:Nat→Nat→Bool→ByteArray→List Nd→Option (Exs × List Nd)
 | _,0,_,_,r=>some (.nil,r)
 | 0,_+1,_,_,_=>none
 | _+1,_+1,_,_,[]=>none
 | m+1,c+1,k,s,y :: r =>
  if k=true∧¬zO s y.s<0 then none
  else(match zab m k (y :: r) with
   | none=>none
   | some (x,r')=>match jD m c k y.s r' with
    | none=>none
    | some (ps,r'')=>some (.cons x ps,r''))
end
theorem zpa{x:Nd}(h:ja x=true)(h5:x.op=5∨x.op=6):0≤x.n:=by
 unfold ja at h;rw [if_neg (by omega),if_neg (by omega),if_neg (by omega),if_neg (by omega),if_pos h5] at h;simp only [Bool.and_eq_true,decide_eq_true_eq] at h;exact h.1.1
theorem zfd{x:Nd}(h:jv x=true):0≤zp x:=by
 unfold jv at h;by_cases h7:1≤x.op∧x.op≤7
 ·rw [if_pos h7] at h;unfold zp;by_cases h5:x.op=5∨x.op=6
  ·rw [if_pos h5];exact zpa h h5
  ·rw [if_neg h5];by_cases h14:1≤x.op∧x.op≤4∨x.op=8
   ·rw [if_pos h14];decide
   ·rw [if_neg h14,if_pos (by omega)];decide
 ·rw [if_neg h7] at h;split at h
  ·cases h
  ·omega
theorem zlx{f:Bool}{x:Nd}(h:zad f x=true):0≤zp x:=by
 unfold zad at h;rw [Bool.and_eq_true] at h;exact zfd h.1
theorem zZ(x:Ex):1≤x.flat.length:=by cases x;simp [Ex.flat]
theorem zfo(x:Ex):∃r,x.flat=x.head :: r:=by cases x;exact⟨_,rfl⟩
theorem zaz:∀m:Nat,(∀f P x r,zab m f P=some (x,r)→x.valid f∧P=x.flat ++ r)∧(∀c k s P ps r,jD m c k s P=some (ps,r)→ps.valid k s∧ps.len=c∧P=ps.flat ++ r)
 | 0=>by
  refine⟨fun f P x r h=>by simp [zab] at h,fun c k s P ps r h=>?_⟩
  cases c with
  | zero =>
   simp only [jD,Option.some.injEq,Prod.mk.injEq] at h
   obtain⟨rfl,rfl⟩:=h
   exact⟨trivial,rfl,rfl⟩
  | succ c=>simp [jD] at h
 | m+1=>by
  obtain⟨ihX,ihS⟩:=zaz m;refine⟨fun f P x r h=>?_,fun c k s P ps r h=>?_⟩
  ·cases P with
   | nil=>simp [zab] at h
   | cons y P =>
    simp only [zab] at h
    split at h
    ·rename_i hh
     rcases hp:jD m (zp y).toNat (zA y) emp P with _|⟨ps,r'⟩
     ·rw [hp] at h;cases h
     ·rw [hp] at h;simp only [Option.some.injEq,Prod.mk.injEq] at h;obtain⟨rfl,rfl⟩:=h;obtain⟨v,el,e⟩:=ihS _ _ _ _ _ _ hp;have:=zlx hh;exact⟨⟨hh,by rw [el];omega,v⟩,by rw [e];rfl⟩
    ·cases h
  ·cases c with
   | zero =>
    simp only [jD,Option.some.injEq,Prod.mk.injEq] at h
    obtain⟨rfl,rfl⟩:=h
    exact⟨trivial,rfl,rfl⟩
   | succ c =>
    cases P with
    | nil=>simp [jD] at h
    | cons y P =>
     simp only [jD] at h
     split at h
     ·cases h
     ·rename_i hc
      rcases hp:zab m k (y :: P) with _|⟨x,r'⟩
      ·rw [hp] at h;cases h
      ·rw [hp] at h;simp only at h;rcases hq:jD m c k y.s r' with _|⟨qs,r''⟩
       ·rw [hq] at h;cases h
       ·rw [hq] at h;simp only [Option.some.injEq,Prod.mk.injEq] at h;obtain⟨rfl,rfl⟩:=h;obtain⟨v1,e1⟩:=ihX _ _ _ _ hp;obtain⟨v2,el,e2⟩:=ihS _ _ _ _ _ _ hq;have hy:x.head=y:=by
         obtain⟨u,hu⟩:=zfo x;rw [hu,List.cons_append] at e1;injection e1 with e1 _;exact e1.symm
        refine⟨⟨fun hk=>?_,v1,by rw [hy];exact v2⟩,by simp [Exs.len,el],by simp only [Exs.flat,List.append_assoc];rw [←e2,←e1]⟩;rw [hy];exact Decidable.byContradiction fun e=>hc ⟨hk,e⟩
theorem zb3:∀m:Nat,(∀f x r,x.valid f→2*x.flat.length≤m→zab m f (x.flat ++ r)=some (x,r))∧(∀k s ps r,ps.valid k s→2*ps.flat.length+1≤m→jD m ps.len k s (ps.flat ++ r)=some (ps,r))
 | 0=>by
  refine⟨fun f x r _ h=>by have:=zZ x;omega,fun k s ps r _ h=>by omega⟩
 | m+1=>by
  obtain⟨ihX,ihS⟩:=zb3 m;refine⟨fun f x r hv hl=>?_,fun k s ps r hv hl=>?_⟩
  ·obtain⟨n,ps⟩:=x;obtain⟨v1,v2,v3⟩:=hv;simp only [Ex.flat,List.length_cons] at hl;have e:(zp n).toNat=ps.len:=by rw [←v2];rfl
   simp only [Ex.flat,List.cons_append,zab,if_pos v1,e,ihS _ _ ps r v3 (by omega)]
  ·cases ps with
   | nil=>cases m <;> simp [Exs.len,jD,Exs.flat]
   | cons x q =>
    obtain⟨v1,v2,v3⟩:=hv
    simp only [Exs.flat,List.length_append] at hl
    have hp:=zZ x
    obtain⟨u,hu⟩:=zfo x
    have h1:=ihX k x (q.flat ++ r) v2 (by omega)
    have h2:=ihS k x.head.s q r v3 (by omega)
    simp only [Exs.flat,Exs.len,List.append_assoc]
    rw [hu,List.cons_append] at h1 ⊢
    simp only [jD]
    rw [if_neg (fun h=>h.2 (v1 h.1)),h1]
    simp only [h2]
theorem zgJ{m m':Nat}{f:Bool}{P r:List Nd}{x:Ex}(h:zab m f P=some (x,r))(h':2*P.length≤m'):zab m' f P=some (x,r):=by
 obtain⟨v,e⟩:=(zaz m).1 f P x r h;have hl:x.flat.length≤P.length:=by rw [e,List.length_append];omega
 have:=(zb3 m').1 f x r v (by omega);rwa [←e] at this
theorem zfy{m m' c:Nat}{k:Bool}{s:ByteArray}{P r:List Nd}{ps:Exs}(h:jD m c k s P=some (ps,r))(h':2*P.length+1≤m'):jD m' c k s P=some (ps,r):=by
 obtain⟨v,el,e⟩:=(zaz m).2 c k s P ps r h;have hl:ps.flat.length≤P.length:=by rw [e,List.length_append];omega
 have:=(zb3 m').2 k s ps r v (by omega);rwa [←e,el] at this
theorem zmk{m m':Nat}{f:Bool}{P:List Nd}(h:2*P.length≤m)(h':2*P.length≤m'):zab m f P=zab m' f P:=by
 rcases e:zab m f P with _|⟨x,r⟩
 ·rcases e':zab m' f P with _|⟨x,r⟩
  ·rfl
  ·rw [zgJ e' h] at e;cases e
 ·exact(zgJ e h').symm
theorem zfB{m m' c:Nat}{k:Bool}{s:ByteArray}{P:List Nd}(h:2*P.length+1≤m)(h':2*P.length+1≤m'):jD m c k s P=jD m' c k s P:=by
 rcases e:jD m c k s P with _|⟨x,r⟩
 ·rcases e':jD m' c k s P with _|⟨x,r⟩
  ·rfl
  ·rw [zfy e' h] at e;cases e
 ·exact(zfy e h').symm
def zfL(P:List Nd):Option Ex:=match zab (2*P.length+2) false P with
 | some (x,[])=>some x
 | _=>none
theorem zgf{P:List Nd}{x:Ex}:zfL P=some x↔x.valid false∧P=x.flat:=by
 unfold zfL;constructor
 ·intro h;rcases hp:zab (2*P.length+2) false P with _|⟨y,r⟩
  ·rw [hp] at h;cases h
  ·rw [hp] at h
   cases r with
   | nil =>
    simp only [Option.some.injEq] at h
    subst h
    obtain⟨v,e⟩:=(zaz _).1 _ _ _ _ hp
    exact⟨v,by rw [e,List.append_nil]⟩
   | cons a r=>cases h
 ·rintro ⟨v,rfl⟩;have:=(zb3 (2*x.flat.length+2)).1 false x [] v (by omega);rw [List.append_nil] at this;rw [this]
def jA(t:List Nd)(p:Nat)(f:Bool):Int:=match zab (2*t.length+2) f (t.drop p) with
 | some (_,r)=>((t.length-r.length:Nat):Int)
 | none => -1
def zaf(t:List Nd)(c:Nat)(k:Bool)(s:ByteArray)(p:Nat):Int:=match jD (2*t.length+2) c k s (t.drop p) with
 | some (_,r)=>((t.length-r.length:Nat):Int)
 | none => -1
theorem zhV{t:List Nd}{p:Nat}{x:Nd}(h:t[p]?=some x):t.drop p=x :: t.drop (p+1):=by
 obtain⟨hp,e⟩:=List.getElem?_eq_some_iff.1 h;rw [←e];exact List.drop_eq_getElem_cons hp
theorem zf4{t:List Nd}{p:Nat}{f:Bool}(h:t.length≤p):jA t p f = -1:=by
 unfold jA;rw [List.drop_eq_nil_of_le h];rfl
theorem zec{t:List Nd}{p:Nat}{f:Bool}{x:Nd}(h:t[p]?=some x)(hx:zad f x=false):jA t p f = -1:=by
 unfold jA;rw [zhV h];simp [zab,hx]
theorem zgz{t:List Nd}{p:Nat}{f:Bool}{x:Nd}(h:t[p]?=some x)(hx:zad f x=true):jA t p f=zaf t (zp x).toNat (zA x) emp (p+1):=by
 have hp:=(List.getElem?_eq_some_iff.1 h).1;unfold jA zaf;rw [zhV h];simp only [zab,if_pos hx];rw [zfB (m:=2*t.length+1) (m':=2*t.length+2) (by simp;omega) (by simp;omega)];rcases jD (2*t.length+2) (zp x).toNat (zA x) emp (t.drop (p+1)) with _|⟨ps,r⟩<;> rfl
theorem zfa{t:List Nd}{p:Nat}{k:Bool}{s:ByteArray}(h:p≤t.length):zaf t 0 k s p=(p:Int):=by
 unfold zaf;simp only [jD,List.length_drop];congr 1;omega
theorem zcf{t:List Nd}{p c:Nat}{k:Bool}{s:ByteArray}(h:t.length≤p):zaf t (c+1) k s p = -1:=by
 unfold zaf;rw [List.drop_eq_nil_of_le h];rfl
theorem zf6{t:List Nd}{p:Nat}{f:Bool}(h:0≤jA t p f):∃e:Nat,jA t p f=(e:Int)∧p<e∧e≤t.length:=by
 unfold jA at *;rcases hp:zab (2*t.length+2) f (t.drop p) with _|⟨k,r⟩
 ·rw [hp] at h;simp at h
 ·rw [hp] at h;simp only at h ⊢;obtain⟨v,e⟩:=(zaz _).1 _ _ _ _ hp;have h1:(t.drop p).length=k.flat.length+r.length:=by rw [e,List.length_append]
  rw [List.length_drop] at h1;have h2:=zZ k;exact⟨_,rfl,by omega,by omega⟩
theorem zem{t:List Nd}{p:Nat}{f:Bool}(h:¬0≤jA t p f):jA t p f = -1:=by
 unfold jA at *;rcases hp:zab (2*t.length+2) f (t.drop p) with _|⟨k,r⟩
 ·rfl
 ·rw [hp] at h;simp only at h;omega
theorem zbP{t:List Nd}{p c:Nat}{k:Bool}{s:ByteArray}{y:Nd}(h:t[p]?=some y):zaf t (c+1) k s p=if k=true∧¬zO s y.s<0 then -1 else if 0≤jA t p k then zaf t c k y.s (jA t p k).toNat else -1:=by
 have hp:=(List.getElem?_eq_some_iff.1 h).1;unfold zaf;have hd:=zhV h;rw [hd];simp only [jD];by_cases hk:k=true∧¬zO s y.s<0
 ·rw [if_pos hk,if_pos hk]
 ·rw [if_neg hk,if_neg hk];rw [←hd];unfold jA;rw [zmk (m:=2*t.length+1) (m':=2*t.length+2) (by simp;omega) (by simp;omega)];rcases hq:zab (2*t.length+2) k (t.drop p) with _|⟨x,r⟩
  ·simp
  ·simp only;obtain⟨v,e⟩:=(zaz _).1 _ _ _ _ hq;have h1:(t.drop p).length=x.flat.length+r.length:=by rw [e,List.length_append]
   rw [List.length_drop] at h1;have h0:=zZ x;rw [if_pos (by omega)];have h3:((t.length-r.length:Nat):Int).toNat=t.length-r.length:=rfl;rw [h3];have h2:t.drop (t.length-r.length)=r:=by
    have:t.drop (t.length-r.length)=(t.drop p).drop x.flat.length:=by rw [List.drop_drop];congr 1;omega
    rw [this,e,List.drop_left]
   rw [h2,zfB (m:=2*t.length+1) (m':=2*t.length+2) (by omega) (by omega)];rcases jD (2*t.length+2) c k y.s r with _|⟨f,r'⟩<;> rfl
theorem znI{t:List Nd}{p:Nat}{y:Nd}(h:t[p]?=some y):jA t p true=if zad true y=true then jA t (p+1) false else -1:=by
 have hp:=(List.getElem?_eq_some_iff.1 h).1;by_cases hy:zad true y=true
 ·rw [if_pos hy,zgz h hy];have h7:y.op=7:=by
   unfold zad at hy;rw [Bool.and_eq_true] at hy;simpa using hy.2
  have e1:(zp y).toNat=1:=by unfold zp;rw [if_neg (by omega),if_neg (by omega),if_pos (by omega)];rfl
  have e2:zA y=false:=by unfold zA;rw [decide_eq_false];omega
  rw [e1,e2];rcases hz:t[p+1]? with _|z
  ·rw [List.getElem?_eq_none_iff] at hz;rw [zf4 hz];exact zcf hz
  ·rw [zbP hz,if_neg (by simp)];by_cases h0:0≤jA t (p+1) false
   ·rw [if_pos h0];obtain⟨e,he,-,hel⟩:=zf6 h0;rw [he];exact zfa hel
   ·rw [if_neg h0,zem h0]
 ·rw [if_neg hy,zec h (by simpa using hy)]
theorem zo1{t:List Nd}{p:Nat}{f:Bool}{x:Ex}{r:List Nd}(hx:x.valid f)(h:t.drop p=x.flat ++ r):jA t p f=((p+x.flat.length:Nat):Int):=by
 have h1:(t.drop p).length=x.flat.length+r.length:=by rw [h,List.length_append]
 rw [List.length_drop] at h1;have h2:=zZ x;have h3:=(zb3 (2*t.length+2)).1 f x r hx (by omega);unfold jA;rw [h,h3];simp only;congr 1;omega
def zT(t:List Nd):Int:=if 200<t.length then 4 else if(zfL t).isSome then 0 else 1
theorem zlb{t:List Nd}:jA t 0 false=(t.length:Int)↔(zfL t).isSome=true:=by
 unfold jA zfL;rw [List.drop_zero];rcases hp:zab (2*t.length+2) false t with _|⟨k,r⟩
 ·simp
 ·simp only;obtain⟨v,e⟩:=(zaz _).1 _ _ _ _ hp;have h1:t.length=k.flat.length+r.length:=by rw [←List.length_append,←e]
  have h2:=zZ k
  cases r with
  | nil=>simp
  | cons a r =>
   simp only [List.length_cons] at h1 ⊢
   simp
   omega
theorem zcd{t:List Nd}:zT t=0↔t.length≤200∧∃x:Ex,x.valid false∧t=x.flat:=by
 unfold zT;by_cases h:200<t.length
 ·rw [if_pos h];omega
 ·rw [if_neg h];rcases hr:zfL t with _|k
  ·simp only [Option.isSome_none,Bool.false_eq_true,if_false];constructor
   ·intro q;omega
   ·rintro ⟨-,k,v,e⟩;rw [zgf.2 ⟨v,e⟩] at hr;cases hr
  ·simp only [Option.isSome_some,if_true,true_iff];exact⟨by omega,k,zgf.1 hr⟩
end Go.Wk
