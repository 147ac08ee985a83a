/-
  Plain: three-way comparisons, of numbers, texts, pairs and lists. No program in sight. Plain: names and texts, byte by byte. No program in sight. Plain: nodes, ..
-/
import Derived.Lib.Bytealg
set_option maxRecDepth 100000
namespace Go.Wk
structure Cmp{α:Type}(f:α→α→Int):Prop where
 rng:∀a b,f a b = -1∨f a b=0∨f a b=1
 anti:∀a b,f b a = - f a b
 zero:∀a b,f a b=0↔a=b
 trans:∀a b c,f a b≤0→f b c≤0→f a c≤0
theorem Cmp.self{α:Type}{f:α→α→Int}(h:Cmp f)(a:α):f a a=0:=(h.zero a a).2 rfl
theorem Cmp.lt_le{α:Type}{f:α→α→Int}(h:Cmp f){a b c:α}(h1:f a b<0)(h2:f b c≤0):f a c<0:=by
 have h3:=h.trans a b c (by omega) h2;rcases Int.lt_or_eq_of_le h3 with h4|h4
 ·exact h4
 ·have e:=(h.zero a c).1 h4;subst e;have:=h.anti b a;omega
theorem Cmp.on{α β:Type}{f:α→α→Int}(h:Cmp f)(g:β→α)(hg:∀a b,g a=g b→a=b):Cmp (fun a b=>f (g a) (g b)):=
 ⟨fun a b=>h.rng _ _,fun a b=>h.anti _ _,fun a b=>(h.zero _ _).trans ⟨hg a b,fun e=>by rw [e]⟩,fun a b c=>h.trans _ _ _⟩
def or2(x y:Int):Int:=if x=0 then y else x
theorem zx(y:Int):or2 0 y=y:=rfl
theorem jc{x:Int}(h:x≠0)(y:Int):or2 x y=x:=by unfold or2;rw [if_neg h]
theorem Cmp.pair{α β:Type}{f:α→α→Int}{g:β→β→Int}(hf:Cmp f)(hg:Cmp g):Cmp (fun(x y:α × β)=>or2 (f x.1 y.1) (g x.2 y.2)):=by
 refine⟨fun a b=>?_,fun a b=>?_,fun a b=>?_,fun a b c h1 h2=>?_⟩
 ·unfold or2;split
  ·exact hg.rng _ _
  ·exact hf.rng _ _
 ·have h1:=hf.anti a.1 b.1;have h2:=hg.anti a.2 b.2;unfold or2;split <;> split <;> omega
 ·have h1:=hf.zero a.1 b.1;have h2:=hg.zero a.2 b.2;unfold or2;rw [Prod.ext_iff];split
  ·rename_i h;rw [h2];exact⟨fun e=>⟨h1.1 h,e⟩,fun e=>e.2⟩
  ·rename_i h;exact⟨fun e=>absurd e h,fun e=>absurd (h1.2 e.1) h⟩
 ·by_cases e1:f a.1 b.1=0
  ·have q1:=(hf.zero _ _).1 e1;simp only [e1,zx] at h1;by_cases e2:f b.1 c.1=0
   ·have q2:=(hf.zero _ _).1 e2;simp only [e2,zx] at h2;have e3:f a.1 c.1=0:=(hf.zero _ _).2 (q1.trans q2);simp only [e3,zx];exact hg.trans _ _ _ h1 h2
   ·simp only [jc e2] at h2;rw [q1];simp only [jc e2];exact h2
  ·simp only [jc e1] at h1;have hlt:f a.1 b.1<0:=by omega
   have h2':f b.1 c.1≤0:=by
    by_cases e2:f b.1 c.1=0
    ·omega
    ·simp only [jc e2] at h2;exact h2
   have h3:=hf.lt_le hlt h2';simp only [jc (show f a.1 c.1≠0 by omega)];omega
def j7{α:Type}(f:α→α→Int):List α→List α→Int
 | [],[]=>0
 | [],_ :: _ => -1
 | _ :: _,[]=>1
 | a :: as,b :: bs=>or2 (f a b) (j7 f as bs)
theorem Cmp.list{α:Type}{f:α→α→Int}(hf:Cmp f):Cmp (j7 f):=by
 refine⟨?_,?_,?_,?_⟩
 ·intro a
  induction a with
  | nil=>intro b;cases b <;> simp [j7]
  | cons x a ih =>
   intro b
   cases b with
   | nil=>simp [j7]
   | cons y b =>
    simp only [j7];unfold or2;split
    ·exact ih b
    ·exact hf.rng _ _
 ·intro a
  induction a with
  | nil=>intro b;cases b <;> simp [j7]
  | cons x a ih =>
   intro b
   cases b with
   | nil=>simp [j7]
   | cons y b =>
    have h1:=hf.anti x y
    have h2:=ih b
    simp only [j7];unfold or2;split <;> split <;> omega
 ·intro a
  induction a with
  | nil=>intro b;cases b <;> simp [j7]
  | cons x a ih =>
   intro b
   cases b with
   | nil=>simp [j7]
   | cons y b =>
    simp only [j7]
    rw [List.cons.injEq]
    by_cases e:f x y=0
    ·simp only [e,zx];rw [ih];exact⟨fun h=>⟨(hf.zero _ _).1 e,h⟩,fun h=>h.2⟩
    ·simp only [jc e];exact⟨fun h=>absurd h e,fun h=>absurd ((hf.zero _ _).2 h.1) e⟩
 ·intro a
  induction a with
  | nil=>intro b c;cases c <;> simp [j7]
  | cons x a ih =>
   intro b c h1 h2
   cases b with
   | nil=>simp [j7] at h1
   | cons y b =>
    cases c with
    | nil=>simp [j7] at h2
    | cons z c =>
     simp only [j7] at *
     by_cases e1:f x y=0
     ·have q1:=(hf.zero _ _).1 e1
      subst q1;simp only [e1,zx] at h1;by_cases e2:f x z=0
      ·simp only [e2,zx] at *;exact ih b c h1 h2
      ·simp only [jc e2] at *;exact h2
     ·simp only [jc e1] at h1
      have h2':f y z≤0:=by
       by_cases e2:f y z=0
       ·omega
       ·simp only [jc e2] at h2;exact h2
      have h3:=hf.lt_le (show f x y<0 by omega) h2';simp only [jc (show f x z≠0 by omega)];omega
def zbn(a b:Int):Int:=if a<b then -1 else if b<a then 1 else 0
theorem zik:Cmp zbn :=
 ⟨fun a b=>by unfold zbn;split <;>(try split)<;> simp,fun a b=>by unfold zbn;split <;> split <;>(try split)<;> omega,
  fun a b=>by unfold zbn;split <;>(try split)<;> omega,fun a b c=>by unfold zbn;split <;> split <;>(try split)<;>(try split)<;>(try split)<;> omega⟩
def ze2(a b:UInt8):Int:=zbn a.toNat b.toNat
theorem zm7:Cmp ze2:=zik.on (fun a:UInt8=>(a.toNat:Int)) (fun a b h=>by
 have h':a.toNat=b.toNat:=by omega
 exact UInt8.toNat_inj.1 h')
theorem zdI:∀a b:List UInt8,Lib.compareBytes a b=j7 ze2 a b
 | [],[]=>rfl
 | [],_ :: _=>rfl
 | _ :: _,[]=>rfl
 | a :: as,b :: bs=>by
  simp only [Lib.compareBytes,j7,zdI as bs];have e1:(a<b)↔((a.toNat:Int)<b.toNat):=by rw [UInt8.lt_iff_toNat_lt];omega
  have e2:(b<a)↔((b.toNat:Int)<a.toNat):=by rw [UInt8.lt_iff_toNat_lt];omega
  have h:ze2 a b=if a<b then -1 else if b<a then 1 else 0:=by
   simp only [ze2,zbn,e1,e2]
  rw [h];unfold or2;by_cases h1:a<b
  ·simp [h1]
  ·by_cases h2:b<a <;> simp [h1,h2]
def jk(a b:ByteArray):Int:=Lib.compareBytes a.data.toList b.data.toList
theorem zaq{a b:ByteArray}(h:a.data.toList=b.data.toList):a=b:=by
 cases a;cases b;simp at h;simp [h]
theorem jx:Cmp jk:=by
 have h:=zm7.list.on (fun a:ByteArray=>a.data.toList) (fun a b h=>zaq h);have e:jk=fun a b:ByteArray=>j7 ze2 a.data.toList b.data.toList:=by
  funext a b;exact zdI _ _
 rw [e];exact h
theorem zfn{a b:List UInt8}{k:Nat}(ha:k<a.length)(hb:k<b.length)(he:a[k]=b[k]):
 Lib.compareBytes (a.drop k) (b.drop k)=Lib.compareBytes (a.drop (k+1)) (b.drop (k+1)):=by
 rw [List.drop_eq_getElem_cons ha,List.drop_eq_getElem_cons hb,he];simp [Lib.compareBytes]
theorem zfE{a b:List UInt8}{k:Nat}(ha:k<a.length)(hb:k<b.length)(he:a[k]<b[k]):
 Lib.compareBytes (a.drop k) (b.drop k)= -1:=by
 rw [List.drop_eq_getElem_cons ha,List.drop_eq_getElem_cons hb];simp [Lib.compareBytes,he]
theorem zfl{a b:List UInt8}{k:Nat}(ha:k<a.length)(hb:k<b.length)(he:b[k]<a[k]):
 Lib.compareBytes (a.drop k) (b.drop k)=1:=by
 rw [List.drop_eq_getElem_cons ha,List.drop_eq_getElem_cons hb];have:¬a[k]<b[k]:=fun h=>by have h1:a[k].toNat<b[k].toNat:=h;have h2:b[k].toNat<a[k].toNat:=he;omega
 simp [Lib.compareBytes,he,this]
theorem zf7{a b:List UInt8}{k:Nat}(h:a.length≤k∨b.length≤k)(ha:k≤a.length)(hb:k≤b.length):
 Lib.compareBytes (a.drop k) (b.drop k)=zbn a.length b.length:=by
 by_cases h1:a.length≤k
 ·rw [List.drop_of_length_le h1];by_cases h2:b.length≤k
  ·rw [List.drop_of_length_le h2];have:a.length=b.length:=by omega
   simp [Lib.compareBytes,zbn,this]
  ·rw [List.drop_eq_getElem_cons (by omega)];have:a.length<b.length:=by omega
   simp [Lib.compareBytes,zbn,this]
 ·have h2:b.length≤k:=by omega
  rw [List.drop_of_length_le h2,List.drop_eq_getElem_cons (by omega)];have h3:¬a.length<b.length:=by omega
  have h4:b.length<a.length:=by omega
  simp [Lib.compareBytes,zbn,h3,h4]
def zb5(n:Int):Bool:=(decide (97≤n)&& decide (n≤122))||(decide (65≤n)&& decide (n≤90))||(n==95)
def ze6(n:Int):Bool:=decide (48≤n)&& decide (n≤57)
def zml(n:Int):Bool:=decide (32≤n)&& decide (n≤126)
def zbK(b:UInt8):Bool:=zb5 b.toNat || ze6 b.toNat
def zgd(b:UInt8):Bool:=zb5 b.toNat
def za4(b:UInt8):Bool:=zml b.toNat
def zaT:List UInt8→Bool
 | []=>false
 | b :: r=>zgd b && r.all zbK
def zg(s:ByteArray):Int:=if zaT s.data.toList then(if 20<s.size then 4 else 0) else 1
def zr(s:ByteArray):Int:=if 60<s.size then 4 else if s.data.toList.all za4 then 0 else 1
theorem zho(s:ByteArray)(p:UInt8→Bool){k:Nat}(h:k<s.size):(s.data.toList.take (k+1)).all p=((s.data.toList.take k).all p && p s[k]):=by
 have h':k<s.data.toList.length:=by simpa using h
 rw [List.take_succ_eq_append_getElem h',List.all_append];simp only [List.all_cons,List.all_nil,Bool.and_true];rfl
theorem ze1{s:ByteArray}{p:UInt8→Bool}{k:Nat}(h:k<s.size)(hp:p s[k]=false):s.data.toList.all p=false:=by
 have h':k<s.data.toList.length:=by simpa using h
 rw [List.all_eq_false];exact⟨s.data.toList[k],List.getElem_mem h',by rw [show p s.data.toList[k]=false from hp];decide⟩
theorem zkm{s:ByteArray}{p:UInt8→Bool}{k:Nat}(h:s.size≤k):(s.data.toList.take k).all p=s.data.toList.all p:=by
 rw [List.take_of_length_le (by simpa using h)]
theorem zhB{s:ByteArray}(h:0<s.size)(hl:zgd s[0]=true):zaT s.data.toList=s.data.toList.all zbK:=by
 have h':0<s.data.toList.length:=by simpa using h
 have e:s.data.toList=s[0] :: s.data.toList.drop 1:=List.drop_eq_getElem_cons h';rw [e];simp only [zaT,List.all_cons,hl,Bool.true_and];have:zbK s[0]=true:=by unfold zbK;unfold zgd at hl;rw [hl];rfl
 rw [this,Bool.true_and]
theorem zdg{s:ByteArray}(h:0<s.size)(hl:zgd s[0]=false):zaT s.data.toList=false:=by
 have h':0<s.data.toList.length:=by simpa using h
 have e:s.data.toList=s[0] :: s.data.toList.drop 1:=List.drop_eq_getElem_cons h';rw [e];simp only [zaT,hl,Bool.false_and]
theorem zdA{s:ByteArray}(h:s.size=0):zaT s.data.toList=false:=by
 have:s.data.toList = []:=List.eq_nil_of_length_eq_zero (by simpa using h);rw [this];rfl
theorem zgS{s:ByteArray}(h:0<s.size)(hl:zgd s[0]=true):zaT (s.data.toList.take 1)=true:=by
 have h':0<s.data.toList.length:=by simpa using h
 have e:s.data.toList=s[0] :: s.data.toList.drop 1:=List.drop_eq_getElem_cons h';rw [e];simp [zaT,hl]
theorem zfP{s:ByteArray}{k:Nat}(hk:0<k)(h:k<s.size)(h1:zaT (s.data.toList.take k)=true)(h2:zbK s[k]=true):zaT (s.data.toList.take (k+1))=true:=by
 have h':k<s.data.toList.length:=by simpa using h
 rw [List.take_succ_eq_append_getElem h'];have h0:0<s.data.toList.length:=by omega
 have e:s.data.toList.take k=s.data.toList[0] ::(s.data.toList.take k).drop 1:=by
  have hk':0<(s.data.toList.take k).length:=by rw [List.length_take];omega
  have:=List.drop_eq_getElem_cons hk';rw [List.getElem_take] at this;exact this
 rw [e] at h1 ⊢;simp only [zaT,List.cons_append,List.all_append,List.all_cons,List.all_nil,Bool.and_true,Bool.and_eq_true] at h1 ⊢;exact⟨h1.1,h1.2,h2⟩
theorem zlX{s:ByteArray}{k:Nat}(hk:0<k)(h:k<s.size)(h2:zbK s[k]=false):zaT s.data.toList=false:=by
 have h0:0<s.size:=by omega
 rcases hl:zgd s[0] with _|_
 ·exact zdg h0 hl
 ·rw [zhB h0 hl];exact ze1 h h2
theorem zoa{s:ByteArray}{k:Nat}(h:s.size≤k)(h1:zaT (s.data.toList.take k)=true):zaT s.data.toList=true:=by
 rwa [List.take_of_length_le (by simpa using h)] at h1
structure Nd where
 op:Int
 n:Int
 s:ByteArray
 t:ByteArray
theorem Nd.ext4{x y:Nd}(h1:x.op=y.op)(h2:x.n=y.n)(h3:x.s=y.s)(h4:x.t=y.t):x=y:=by
 cases x;cases y;simp_all
def or4(x y z u:Int):Int:=or2 x (or2 y (or2 z u))
def zea(x y:Nd):Int:=or4 (zbn x.op y.op) (zbn x.n y.n) (jk x.s y.s) (jk x.t y.t)
theorem zej:Cmp zea :=
 (zik.pair (zik.pair (jx.pair jx))).on (fun x:Nd=>(x.op,x.n,x.s,x.t)) (fun a b h=>by
  simp only [Prod.mk.injEq] at h
  exact Nd.ext4 h.1 h.2.1 h.2.2.1 h.2.2.2)
def zu:List Nd→List Nd→Int:=j7 zea
theorem zV:Cmp zu:=zej.list
def noB(s:ByteArray):Bool:=decide (s.size=0)
def zB(x:Nd):Bool :=
 if x.op=1 then(decide (x.n=0)|| decide (x.n=1))&& noB x.s && noB x.t
 else if x.op=2 then noB x.s && noB x.t
 else if x.op=3 then decide (x.n=0)&& noB x.t && decide (zr x.s=0)
 else if x.op=4 then decide (x.n=0)&& decide (zg x.s=0)&& decide (zr x.t=0)
 else if x.op=5∨x.op=6 then decide (0≤x.n)&& noB x.s && noB x.t
 else if x.op=7 then decide (x.n=0)&& noB x.t && decide (zg x.s=0)
 else false
def seg(v:List Nd)(i j:Nat):List Nd:=(v.drop i).take (j-i)
theorem jH{v:List Nd}{i j:Nat}(h:j≤v.length):(seg v i j).length=j-i:=by
 simp [seg];omega
def zfe(v:List Nd)(last:Option Nat)(p e:Nat):Bool :=
 match last with
 | none=>true
 | some l=>decide (zu (seg v l p) (seg v p e)<0)
def z7(v:List Nd)(f:Nat→Option Nat):Nat→Option Nat→Nat→Option Nat
 | 0,_,p=>some p
 | k+1,last,p =>
  match f p with
  | none=>none
  | some e=>if zfe v last p e then z7 v f k (some p) e else none
def jV(v:List Nd)(last:ByteArray)(p:Nat):Option ByteArray :=
 match v[p]? with
 | none=>none
 | some x=>if decide (x.op=7)&& zB x && decide (jk last x.s<0) then some x.s else none
def zY(v:List Nd)(f:Nat→Option Nat):Nat→ByteArray→Nat→Option Nat
 | 0,_,p=>some p
 | k+1,last,p =>
  match jV v last p with
  | none=>none
  | some s =>
   match f (p+1) with
   | none=>none
   | some e=>zY v f k s e
def zn(v:List Nd):Nat→Nat→Option Nat
 | 0,_=>none
 | m+1,p =>
  match v[p]? with
  | none=>none
  | some x =>
   if zB x then
    if x.op=5 then z7 v (zn v m) x.n.toNat none (p+1)
    else if x.op=6 then zY v (zn v m) x.n.toNat .empty (p+1)
    else if x.op=7 then none
    else some (p+1)
   else none
def zc(v:List Nd):Int :=
 if 200<v.length then 4 else if zn v (v.length+1) 0=some v.length then 0 else 1
theorem zol{v:List Nd}{f:Nat→Option Nat}(hf:∀p e,f p=some e→p<e∧e≤v.length):
 ∀k last p e,p≤v.length→z7 v f k last p=some e→p≤e∧e≤v.length:=by
 intro k
 induction k with
 | zero=>intro last p e hp h;simp only [z7,Option.some.injEq] at h;omega
 | succ k ih =>
  intro last p e hp h
  simp only [z7] at h
  split at h
  ·cases h
  ·rename_i q hq
   have:=hf p q hq;split at h
   ·have:=ih _ _ _ (by omega) h;omega
   ·cases h
theorem znw{v:List Nd}{f:Nat→Option Nat}(hf:∀p e,f p=some e→p<e∧e≤v.length):
 ∀k last p e,p≤v.length→zY v f k last p=some e→p≤e∧e≤v.length:=by
 intro k
 induction k with
 | zero=>intro last p e hp h;simp only [zY,Option.some.injEq] at h;omega
 | succ k ih =>
  intro last p e hp h
  simp only [zY] at h
  split at h
  ·cases h
  ·split at h
   ·cases h
   ·rename_i q hq;have:=hf _ q hq;have:=ih _ _ _ (by omega) h;omega
theorem jG{v:List Nd}:∀m p e,zn v m p=some e→p<e∧e≤v.length:=by
 intro m
 induction m with
 | zero=>intro p e h;cases h
 | succ m ih =>
  intro p e h
  simp only [zn] at h
  split at h
  ·cases h
  ·rename_i x hx
   have hp:p<v.length:=(List.getElem?_eq_some_iff.1 hx).1;split at h
   ·split at h
    ·have:=zol ih _ _ _ _ (by omega) h;omega
    ·split at h
     ·have:=znw ih _ _ _ _ (by omega) h;omega
     ·split at h
      ·cases h
      ·simp only [Option.some.injEq] at h;omega
   ·cases h
def zor(f:Nat→Option Nat):Prop:=∀p e,f p=some e→p<e
theorem zar(v:List Nd)(m:Nat):zor (zn v m):=fun p e h=>(jG m p e h).1
theorem zhP{v:List Nd}{f:Nat→Option Nat}(hf:zor f):∀k last p e,z7 v f k last p=some e→p≤e:=by
 intro k
 induction k with
 | zero=>intro last p e h;simp only [z7,Option.some.injEq] at h;omega
 | succ k ih =>
  intro last p e h
  simp only [z7] at h
  split at h
  ·cases h
  ·rename_i q hq
   have:=hf p q hq;split at h
   ·have:=ih _ _ _ h;omega
   ·cases h
theorem zhy{v:List Nd}{f:Nat→Option Nat}(hf:zor f):∀k last p e,zY v f k last p=some e→p≤e:=by
 intro k
 induction k with
 | zero=>intro last p e h;simp only [zY,Option.some.injEq] at h;omega
 | succ k ih =>
  intro last p e h
  simp only [zY] at h
  split at h
  ·cases h
  ·split at h
   ·cases h
   ·rename_i q hq;have:=hf _ q hq;have:=ih _ _ _ h;omega
def zdF(u v:List Nd)(a b L:Nat):Prop:=∀k,k<L→u[a+k]?=v[b+k]?
theorem zdF.symm{u v:List Nd}{a b L:Nat}(h:zdF u v a b L):zdF v u b a L:=fun k hk=>(h k hk).symm
theorem zdF.seg{u v:List Nd}{a b L:Nat}(h:zdF u v a b L){i j:Nat}(hj:j≤L):seg u (a+i) (a+j)=seg v (b+i) (b+j):=by
 unfold Wk.seg;apply List.ext_getElem?;intro k;rw [List.getElem?_take,List.getElem?_take,show a+j-(a+i)=j-i by omega,show b+j-(b+i)=j-i by omega];by_cases hk:k<j-i
 ·rw [if_pos hk,if_pos hk,List.getElem?_drop,List.getElem?_drop,Nat.add_assoc,Nat.add_assoc];exact h (i+k) (by omega)
 ·rw [if_neg hk,if_neg hk]
section
variable {u v:List Nd} {a b L:Nat}
theorem zfg(h:zdF u v a b L){f g:Nat→Option Nat}(hf:zor f)(hg:∀p e,f (a+p)=some (a+e)→e≤L→g (b+p)=some (b+e)):
 ∀k (lo:Option Nat) p e,(∀l,lo=some l→l≤p)→z7 u f k (lo.map (a+·)) (a+p)=some (a+e)→e≤L→z7 v g k (lo.map (b+·)) (b+p)=some (b+e):=by
 intro k
 induction k with
 | zero=>intro lo p e _ h1 h2;simp only [z7,Option.some.injEq] at h1 ⊢;omega
 | succ k ih =>
  intro lo p e hlo h1 h2
  simp only [z7] at h1 ⊢
  split at h1
  ·cases h1
  ·rename_i q hq
   have hlt:=hf _ _ hq;obtain⟨s,rfl⟩:∃s,q=a+s:=⟨q-a,by omega⟩
   split at h1
   ·rename_i hr;have hge:=zhP hf _ _ _ _ h1;have hs:s≤L:=by omega
    rw [hg p s hq hs];simp only;have hr':zfe v (lo.map (b+·)) (b+p) (b+s)=true:=by
     rw [←hr];rcases lo with _|l
     ·rfl
     ·have:=hlo l rfl;simp only [Option.map_some,zfe];rw [h.seg (i:=l) (j:=p) (by omega),h.seg (i:=p) (j:=s) hs]
    rw [if_pos hr'];exact ih (some p) s e (fun l hl=>by cases hl;omega) h1 h2
   ·cases h1
theorem zkq(h:zdF u v a b L){last:ByteArray}{p:Nat}(hp:p<L):jV u last (a+p)=jV v last (b+p):=by
 unfold jV;rw [h p hp]
theorem zfG(h:zdF u v a b L){f g:Nat→Option Nat}(hf:zor f)(hg:∀p e,f (a+p)=some (a+e)→e≤L→g (b+p)=some (b+e)):
 ∀k (last:ByteArray) p e,zY u f k last (a+p)=some (a+e)→e≤L→zY v g k last (b+p)=some (b+e):=by
 intro k
 induction k with
 | zero=>intro last p e h1 h2;simp only [zY,Option.some.injEq] at h1 ⊢;omega
 | succ k ih =>
  intro last p e h1 h2
  simp only [zY] at h1 ⊢
  split at h1
  ·cases h1
  ·rename_i s hs
   split at h1
   ·cases h1
   ·rename_i q hq;have hlt:=hf _ _ hq;obtain⟨r,rfl⟩:∃r,q=a+r:=⟨q-a,by omega⟩
    have hge:=zhy hf _ _ _ _ h1;rw [←zkq h (by omega:p<L),hs];have:=hg (p+1) r (by rw [←Nat.add_assoc];exact hq) (by omega);rw [←Nat.add_assoc] at this;simp only [this];exact ih s r e h1 h2
theorem zfp(h:zdF u v a b L):∀m p e,zn u m (a+p)=some (a+e)→e≤L→zn v m (b+p)=some (b+e):=by
 intro m
 induction m with
 | zero=>intro p e h1 _;cases h1
 | succ m ih =>
  intro p e h1 h2
  have hlt:=(jG _ _ _ h1).1
  have hp:=h p (by omega)
  simp only [zn] at h1 ⊢
  rw [←hp]
  split at h1
  ·cases h1
  ·rename_i x hx
   split at h1
   ·rename_i hs;simp only [hs,if_true];split at h1
    ·rename_i h5;rw [if_pos h5];have:=zfg h (zar u m) ih x.n.toNat none (p+1) e (fun l hl=>by cases hl) (by rw [←Nat.add_assoc];exact h1) h2;rw [←Nat.add_assoc] at this;exact this
    ·rename_i h5;rw [if_neg h5];split at h1
     ·rename_i h6;rw [if_pos h6];have:=zfG h (zar u m) ih x.n.toNat .empty (p+1) e (by rw [←Nat.add_assoc];exact h1) h2;rw [←Nat.add_assoc] at this;exact this
     ·rename_i h6;rw [if_neg h6];split at h1
      ·cases h1
      ·rename_i h7;rw [if_neg h7];simp only [Option.some.injEq] at h1 ⊢;omega
   ·cases h1
end
theorem zdn{v:List Nd}{f g:Nat→Option Nat}(hf:zor f){q0:Nat}(h:∀r,q0≤r→f r=g r):∀k lo q,q0≤q→z7 v f k lo q=z7 v g k lo q:=by
 intro k
 induction k with
 | zero=>intro lo q _;rfl
 | succ k ih =>
  intro lo q hq
  simp only [z7]
  rw [←h q hq]
  split
  ·rfl
  ·rename_i e he
   have:=hf _ _ he;rw [ih _ e (by omega)]
theorem zdy{v:List Nd}{f g:Nat→Option Nat}(hf:zor f){q0:Nat}(h:∀r,q0≤r→f r=g r):∀k lo q,q0≤q→zY v f k lo q=zY v g k lo q:=by
 intro k
 induction k with
 | zero=>intro lo q _;rfl
 | succ k ih =>
  intro lo q hq
  simp only [zY]
  split
  ·rfl
  ·rw [←h (q+1) (by omega)]
   split
   ·rfl
   ·rename_i e he;have:=hf _ _ he;rw [ih _ e (by omega)]
theorem zbc{v:List Nd}:∀m m' p,v.length-p<m→v.length-p<m'→zn v m p=zn v m' p:=by
 intro m
 induction m with
 | zero=>intro m' p h;omega
 | succ m ih =>
  intro m' p h1 h2
  obtain⟨k,rfl⟩:∃k,m'=k+1:=⟨m'-1,by omega⟩
  simp only [zn]
  by_cases hp:p<v.length
  ·rw [List.getElem?_eq_getElem hp]
   simp only;have hs:=zdn (v:=v) (zar v m) (q0:=p+1) (fun r hr=>ih k r (by omega) (by omega));have hr:=zdy (v:=v) (zar v m) (q0:=p+1) (fun r hr=>ih k r (by omega) (by omega));rw [hs _ _ _ (Nat.le_refl _),hr _ _ _ (Nat.le_refl _)]
  ·rw [List.getElem?_eq_none (by omega)]
def IsV(P:List Nd):Prop:=zn P (P.length+1) 0=some P.length
theorem zP{P:List Nd}:zc P=0↔P.length≤200∧IsV P:=by
 unfold zc IsV;by_cases h:200<P.length
 ·rw [if_pos h];omega
 ·rw [if_neg h];by_cases hv:zn P (P.length+1) 0=some P.length
  ·rw [if_pos hv];exact⟨fun _=>⟨by omega,hv⟩,fun _=>rfl⟩
  ·rw [if_neg hv];exact⟨fun q=>by omega,fun q=>absurd q.2 hv⟩
theorem IsV.pos{P:List Nd}(h:IsV P):0<P.length:=(jG _ _ _ h).1
theorem zr9{v:List Nd}{p e k:Nat}(hk:k<e-p):(seg v p e)[k]?=v[p+k]?:=by
 unfold seg;rw [List.getElem?_take,if_pos hk,List.getElem?_drop]
theorem ziM(v:List Nd):zdF v v 0 0 v.length:=fun _ _=>rfl
theorem zfb{v:List Nd}:∀m m' p e,m≤m'→zn v m p=some e→zn v m' p=some e:=by
 intro m
 induction m with
 | zero=>intro m' p e _ h;cases h
 | succ m ih =>
  intro m' p e hm h
  have hle:=(jG _ _ _ h).2
  obtain⟨k,rfl⟩:∃k,m'=k+1:=⟨m'-1,by omega⟩
  have ihk:∀p e,zn v m (0+p)=some (0+e)→e≤v.length→zn v k (0+p)=some (0+e):=fun p e h _=>by
   simp only [Nat.zero_add] at h ⊢;exact ih k p e (by omega) h
  have hS:=zfg (ziM v) (zar v m) ihk
  have hR:=zfG (ziM v) (zar v m) ihk
  simp only [Nat.zero_add] at hS hR
  rcases hx:v[p]? with _|x
  ·simp only [zn,hx] at h;cases h
  ·simp only [zn,hx] at h ⊢
   by_cases hs:zB x=true
   ·rw [if_pos hs] at h ⊢;by_cases h5:x.op=5
    ·rw [if_pos h5] at h ⊢;have:=hS x.n.toNat none (p+1) e (fun l hl=>by cases hl) h hle;exact this
    ·rw [if_neg h5] at h ⊢;by_cases h6:x.op=6
     ·rw [if_pos h6] at h ⊢;exact hR _ _ _ _ h hle
     ·rw [if_neg h6] at h ⊢;exact h
   ·rw [if_neg hs] at h;cases h
theorem zo7{v:List Nd}{m p e:Nat}(h:zn v m p=some e):IsV (seg v p e):=by
 have hle:=jG _ _ _ h;have hl:(seg v p e).length=e-p:=jH hle.2;have hA:zdF v (seg v p e) p 0 (e-p):=fun k hk=>by rw [Nat.zero_add,zr9 hk]
 have:=zfp hA m 0 (e-p) (by rw [Nat.add_zero,h];congr 1;omega) (Nat.le_refl _);unfold IsV;rw [hl];have h2:zn (seg v p e) m 0=some (e-p):=by simpa using this
 have h3:=zfb m (m+(e-p)+1) 0 (e-p) (by omega) h2;rw [←h3];exact zbc _ _ _ (by omega) (by omega)
theorem zrC{v Q:List Nd}{p m:Nat}(hQ:IsV Q)(_hp:p+Q.length≤v.length)(hs:seg v p (p+Q.length)=Q)(hm:v.length-p<m):zn v m p=some (p+Q.length):=by
 have hA:zdF Q v 0 p Q.length:=fun k hk=>by
  rw [Nat.zero_add,←zr9 (e:=p+Q.length) (by omega),hs]
 have h1:=zfb _ (m+Q.length+1) _ _ (by omega) hQ;have:=zfp hA _ 0 Q.length (by simpa using h1) (Nat.le_refl _);rw [Nat.add_zero] at this;rw [←this];exact zbc _ _ _ (by omega) (by omega)
theorem zcR{s:ByteArray}(h:noB s=true):s=⟨#[]⟩:=by
 unfold noB at h;exact zaq (List.eq_nil_of_length_eq_zero (by rw [Array.length_toList];exact of_decide_eq_true h))
def zaa(v:List Nd)(f:Nat→Option Nat):Nat→Nat→List (List Nd)
 | 0,_ => []
 | k+1,p =>
  match f p with
  | none => []
  | some e=>seg v p e :: zaa v f k e
def zqk(v:List Nd)(p:Nat):ByteArray :=
 match v[p]? with
 | none => .empty
 | some x=>x.s
def zac(v:List Nd)(f:Nat→Option Nat):Nat→Nat→List (ByteArray × List Nd)
 | 0,_ => []
 | k+1,p =>
  match f (p+1) with
  | none => []
  | some e=>(zqk v p,seg v (p+1) e):: zac v f k e
def zeZ:List Nd→Nat
 | []=>0
 | x :: _=>x.n.toNat
def zf:List Nd→Int
 | []=>0
 | x :: _=>x.op
def zl(P:List Nd):List (List Nd):=zaa P (zn P (P.length+1)) (zeZ P) 1
def zR(P:List Nd):List (ByteArray × List Nd):=zac P (zn P (P.length+1)) (zeZ P) 1
def Up:List (List Nd)→Prop
 | []=>True
 | [_]=>True
 | a :: b :: r=>zu a b<0∧Up (b :: r)
def zd5(o:Option (List Nd))(l:List (List Nd)):Prop:=match o with|none=>Up l|some a=>Up (a :: l)
def zaS(s:ByteArray):Nd:=⟨7,0,s,⟨#[]⟩⟩
def zK:List (ByteArray × List Nd)→List Nd
 | [] => []
 | x :: r=>zaS x.1 ::(x.2 ++ zK r)
def UpB(last:ByteArray):List (ByteArray × List Nd)→Prop
 | []=>True
 | x :: r=>jk last x.1<0∧UpB x.1 r
theorem zcV{v:List Nd}{p q e:Nat}(h1:p≤q)(h2:q≤e):seg v p q ++ seg v q e=seg v p e:=by
 unfold seg;rw [show e-p=(q-p)+(e-q) by omega,List.take_add,List.drop_drop,show p+(q-p)=q by omega]
theorem zmN(v:List Nd)(p:Nat):seg v p p = []:=by unfold seg;simp
theorem zmF{v:List Nd}{p e:Nat}(h:p<v.length)(h2:p<e):seg v p e=v[p] :: seg v (p+1) e:=by
 unfold seg;rw [List.drop_eq_getElem_cons h,show e-p=(e-(p+1))+1 by omega,List.take_succ_cons]
theorem zhg(v:List Nd)(p:Nat):seg v p v.length=v.drop p:=by
 unfold seg;rw [List.take_of_length_le (by simp)]
theorem zjv{v:List Nd}{m:Nat}:∀k lo p e,(∀l,lo=some l→l≤p)→p≤v.length→z7 v (zn v m) k lo p=some e→
 (zaa v (zn v m) k p).length=k∧(zaa v (zn v m) k p).flatten=seg v p e∧(∀Q∈zaa v (zn v m) k p,IsV Q)∧zd5 (lo.map fun l=>seg v l p) (zaa v (zn v m) k p):=by
 intro k
 induction k with
 | zero =>
  intro lo p e _ _ h
  simp only [z7,Option.some.injEq] at h
  subst h
  refine⟨rfl,by rw [zmN];rfl,(fun Q h=>by cases h),?_⟩
  rcases lo with _|l <;> trivial
 | succ k ih =>
  intro lo p e hlo hp h
  simp only [z7] at h
  simp only [zaa]
  split at h
  ·cases h
  ·rename_i q hq
   have hle:=jG _ _ _ hq;split at h
   ·rename_i hr;obtain⟨h1,h2,h3,h4⟩:=ih (some p) q e (fun l hl=>by cases hl;omega) hle.2 h;have hge:=zhP (zar v m) _ _ _ _ h;(try rw [hq]);refine⟨by simp [h1],?_,?_,?_⟩
    ·rw [List.flatten_cons,h2,zcV (by omega) hge]
    ·intro Q hQ;rcases List.mem_cons.1 hQ with rfl|hQ
     ·exact zo7 hq
     ·exact h3 Q hQ
    ·simp only [Option.map_some,zd5] at h4;rcases lo with _|l
     ·exact h4
     ·simp only [zfe,decide_eq_true_eq] at hr;exact⟨hr,h4⟩
   ·cases h
theorem znp{v:List Nd}{m:Nat}:∀(L:List (List Nd)) lo p e,(∀l,lo=some l→l≤p)→e≤v.length→p≤e→seg v p e=L.flatten→(∀Q∈L,IsV Q)→zd5 (lo.map fun l=>seg v l p) L→v.length-p<m→
 z7 v (zn v m) L.length lo p=some e∧zaa v (zn v m) L.length p=L:=by
 intro L
 induction L with
 | nil =>
  intro lo p e _ h1 h2 h3 _ _ _
  have hl:=congrArg List.length h3
  rw [jH h1] at hl
  simp at hl
  simp only [List.length_nil,z7,zaa,and_true]
  congr 1;omega
 | cons Q L ih =>
  intro lo p e hlo h1 h2 h3 h4 h5 h6
  have hQ:=h4 Q (by simp)
  rw [List.flatten_cons] at h3
  have hl:=congrArg List.length h3
  rw [jH h1,List.length_append] at hl
  have hq:seg v p (p+Q.length)=Q:=by
   have:=zcV (v:=v) (p:=p) (q:=p+Q.length) (e:=e) (by omega) (by omega);rw [h3] at this;exact(List.append_inj this (by rw [jH (by omega)];omega)).1
  have hq2:seg v (p+Q.length) e=L.flatten:=by
   have:=zcV (v:=v) (p:=p) (q:=p+Q.length) (e:=e) (by omega) (by omega);rw [h3] at this;exact(List.append_inj this (by rw [jH (by omega)];omega)).2
  have hpos:=hQ.pos
  have hend:=zrC hQ (by omega) hq h6
  have hup:zd5 ((some p).map fun l=>seg v l (p+Q.length)) L:=by
   simp only [Option.map_some,zd5,hq];rcases lo with _|l
   ·simp only [Option.map_none,zd5] at h5;exact h5
   ·simp only [Option.map_some,zd5] at h5;exact h5.2
  have hr:zfe v lo p (p+Q.length)=true:=by
   rcases lo with _|l
   ·rfl
   ·simp only [Option.map_some,zd5] at h5;simp only [zfe,hq,decide_eq_true_eq];exact h5.1
  obtain⟨g1,g2⟩:=ih (some p) (p+Q.length) e (fun l hl=>by cases hl;omega) h1 (by omega) hq2 (fun Q' h=>h4 Q' (by simp [h])) hup (by omega)
  simp only [List.length_cons,z7,zaa,hend,hr,if_true]
  exact⟨g1,by rw [g2,hq]⟩
theorem zi3{v:List Nd}{m:Nat}:∀k last p e,p≤v.length→zY v (zn v m) k last p=some e→
 (zac v (zn v m) k p).length=k∧zK (zac v (zn v m) k p)=seg v p e∧(∀x∈zac v (zn v m) k p,IsV x.2∧zg x.1=0)∧UpB last (zac v (zn v m) k p):=by
 intro k
 induction k with
 | zero =>
  intro last p e _ h
  simp only [zY,Option.some.injEq] at h
  subst h
  exact⟨rfl,by rw [zmN];rfl,(fun Q h=>by cases h),trivial⟩
 | succ k ih =>
  intro last p e hp h
  simp only [zY] at h
  simp only [zac]
  split at h
  ·cases h
  ·rename_i s hs
   split at h
   ·cases h
   ·rename_i q hq;have hle:=jG _ _ _ hq;obtain⟨h1,h2,h3,h4⟩:=ih s q e hle.2 h;have hge:=zhy (zar v m) _ _ _ _ h;unfold jV at hs;split at hs
    ·cases hs
    ·rename_i x hx;split at hs
     ·rename_i hc;simp only [Option.some.injEq] at hs;subst hs;simp only [Bool.and_eq_true,decide_eq_true_eq] at hc;obtain⟨⟨c1,c2⟩,c3⟩:=hc;have hsh:=c2;unfold zB at hsh;rw [c1] at hsh;simp at hsh;obtain⟨⟨n1,n2⟩,n3⟩:=hsh;have hnm:zqk v p=x.s:=by unfold zqk;rw [hx]
      have hp':p<v.length:=(List.getElem?_eq_some_iff.1 hx).1;have hxe:v[p]=x:=by rw [List.getElem?_eq_getElem hp'] at hx;injection hx
      have hxf:x=zaS x.s:=Nd.ext4 c1 n1 rfl (zcR n2);(try rw [hq]);(try simp only);refine⟨by simp [h1],?_,?_,?_⟩
      ·rw [zK,h2,hnm,zcV (by omega) hge,zmF hp' (by omega),hxe,←hxf]
      ·intro y hy;rcases List.mem_cons.1 hy with rfl|hy
       ·exact⟨zo7 hq,by rw [hnm];exact n3⟩
       ·exact h3 y hy
      ·simp only [UpB,hnm];exact⟨c3,h4⟩
     ·cases hs
theorem zjB{s:ByteArray}(h:zg s=0):zB (zaS s)=true:=by
 unfold zB zaS;simp [h,noB];rfl
theorem znZ{v:List Nd}{m:Nat}:∀(L:List (ByteArray × List Nd)) last p e,e≤v.length→p≤e→seg v p e=zK L→(∀x∈L,IsV x.2∧zg x.1=0)→UpB last L→v.length-p<m→
 zY v (zn v m) L.length last p=some e∧zac v (zn v m) L.length p=L:=by
 intro L
 induction L with
 | nil =>
  intro last p e h1 h2 h3 _ _ _
  have hl:=congrArg List.length h3
  rw [jH h1] at hl
  simp [zK] at hl
  simp only [List.length_nil,zY,zac,and_true]
  congr 1;omega
 | cons x L ih =>
  intro last p e h1 h2 h3 h4 h5 h6
  obtain⟨hQ,hN⟩:=h4 x (by simp)
  rw [zK] at h3
  have hl:=congrArg List.length h3
  rw [jH h1,List.length_cons,List.length_append] at hl
  have hp':p<v.length:=by omega
  rw [zmF hp' (by omega)] at h3
  injection h3 with e1 e2
  have hq:seg v (p+1) (p+1+x.2.length)=x.2:=by
   have:=zcV (v:=v) (p:=p+1) (q:=p+1+x.2.length) (e:=e) (by omega) (by omega);rw [e2] at this;exact(List.append_inj this (by rw [jH (by omega)];omega)).1
  have hq2:seg v (p+1+x.2.length) e=zK L:=by
   have:=zcV (v:=v) (p:=p+1) (q:=p+1+x.2.length) (e:=e) (by omega) (by omega);rw [e2] at this;exact(List.append_inj this (by rw [jH (by omega)];omega)).2
  have hend:=zrC hQ (by omega) hq (m:=m) (by omega)
  have hnm:zqk v p=x.1:=by unfold zqk;rw [List.getElem?_eq_getElem hp',e1];rfl
  have hf:jV v last p=some x.1:=by
   unfold jV;rw [List.getElem?_eq_getElem hp',e1];simp only [zjB hN];have:decide (jk last (zaS x.1).s<0)=true:=decide_eq_true h5.1;rw [this];rfl
  obtain⟨g1,g2⟩:=ih x.1 (p+1+x.2.length) e h1 (by omega) hq2 (fun y h=>h4 y (by simp [h])) h5.2 (by omega)
  simp only [List.length_cons,zY,zac,hend,hf]
  exact⟨g1,by rw [g2,hq,hnm]⟩
def jY(n:Int):Nd:=⟨5,n,⟨#[]⟩,⟨#[]⟩⟩
def zM(n:Int):Nd:=⟨6,n,⟨#[]⟩,⟨#[]⟩⟩
theorem zhJ(x:Nd)(r:List Nd):zeZ (x :: r)=x.n.toNat:=rfl
theorem zdt{P:List Nd}(h:IsV P)(h5:zf P=5):
 P=jY (zl P).length ::(zl P).flatten∧(zl P).length=zeZ P∧(∀Q∈zl P,IsV Q)∧Up (zl P):=by
 have hpos:=h.pos;unfold IsV at h;rcases P with _|⟨x,r⟩
 ·simp at hpos
 have h5':x.op=5:=h5;simp only [zn,List.getElem?_cons_zero] at h;by_cases hs:zB x=true
 ·rw [if_pos hs,if_pos h5'] at h;unfold zB at hs;rw [h5'] at hs;simp at hs;have hx:x=jY x.n:=Nd.ext4 h5' rfl (zcR hs.1.2) (zcR hs.2);have h':z7 (x :: r) (zn (x :: r) ((x :: r).length+1)) x.n.toNat none 1=some (x :: r).length:=by
   rw [←h];exact(zdn (zar _ _) (q0:=1) (fun q hq=>zbc _ _ _ (by simp only [List.length_cons];omega) (by simp only [List.length_cons];omega)) _ _ _ (Nat.le_refl _))
  obtain⟨g1,g2,g3,g4⟩:=zjv _ none 1 _ (fun l hl=>by cases hl) (by simp) h';have e:zl (x :: r)=zaa (x :: r) (zn (x :: r) ((x :: r).length+1)) x.n.toNat 1:=rfl;rw [←e] at g1 g2 g3 g4;refine⟨?_,g1,g3,g4⟩;rw [g2,zhg,g1,Int.toNat_of_nonneg hs.1.1,←hx];rfl
 ·rw [if_neg hs] at h;cases h
theorem zts{L:List (List Nd)}(h:∀Q∈L,IsV Q)(hu:Up L):IsV (jY L.length :: L.flatten)∧zl (jY L.length :: L.flatten)=L:=by
 have hs:zB (jY L.length)=true:=by unfold zB jY;simp [noB];rfl
 have key:=fun m hm=>znp (v:=jY L.length :: L.flatten) (m:=m) L none 1 (L.flatten.length+1) (fun l hl=>by cases hl) (by simp) (by omega) (by
  have:=zhg (jY L.length :: L.flatten) 1
  simpa using this) h hu hm
 refine⟨?_,?_⟩
 ·unfold IsV;simp only [zn,List.getElem?_cons_zero,hs,if_true];have h5:(jY L.length).op=5:=rfl;rw [if_pos h5];exact(key _ (by simp only [List.length_cons];omega)).1
 ·unfold zl;rw [zhJ];exact(key _ (by simp only [List.length_cons];omega)).2
theorem zpk{P:List Nd}(h:IsV P)(h6:zf P=6):
 P=zM (zR P).length :: zK (zR P)∧(zR P).length=zeZ P∧(∀x∈zR P,IsV x.2∧zg x.1=0)∧UpB .empty (zR P):=by
 have hpos:=h.pos;unfold IsV at h;rcases P with _|⟨x,r⟩
 ·simp at hpos
 have h6':x.op=6:=h6;simp only [zn,List.getElem?_cons_zero] at h;by_cases hs:zB x=true
 ·rw [if_pos hs,if_neg (by omega),if_pos h6'] at h;unfold zB at hs;rw [h6'] at hs;simp at hs;have hx:x=zM x.n:=Nd.ext4 h6' rfl (zcR hs.1.2) (zcR hs.2);have h':zY (x :: r) (zn (x :: r) ((x :: r).length+1)) x.n.toNat .empty 1=some (x :: r).length:=by
   rw [←h];exact(zdy (zar _ _) (q0:=1) (fun q hq=>zbc _ _ _ (by simp only [List.length_cons];omega) (by simp only [List.length_cons];omega)) _ _ _ (Nat.le_refl _))
  obtain⟨g1,g2,g3,g4⟩:=zi3 _ .empty 1 _ (by simp) h';have e:zR (x :: r)=zac (x :: r) (zn (x :: r) ((x :: r).length+1)) x.n.toNat 1:=rfl;rw [←e] at g1 g2 g3 g4;refine⟨?_,g1,g3,g4⟩;rw [g2,zhg,g1,Int.toNat_of_nonneg hs.1.1,←hx];rfl
 ·rw [if_neg hs] at h;cases h
theorem zsX{L:List (ByteArray × List Nd)}(h:∀x∈L,IsV x.2∧zg x.1=0)(hu:UpB .empty L):IsV (zM L.length :: zK L)∧zR (zM L.length :: zK L)=L:=by
 have hs:zB (zM L.length)=true:=by unfold zB zM;simp [noB];rfl
 have key:=fun m hm=>znZ (v:=zM L.length :: zK L) (m:=m) L .empty 1 ((zK L).length+1) (by simp) (by omega) (by
  have:=zhg (zM L.length :: zK L) 1
  simpa using this) h hu hm
 refine⟨?_,?_⟩
 ·unfold IsV;simp only [zn,List.getElem?_cons_zero,hs,if_true];have h6:(zM L.length).op=6:=rfl;rw [if_neg (by rw [h6];omega),if_pos h6];exact(key _ (by simp only [List.length_cons];omega)).1
 ·unfold zR;rw [zhJ];exact(key _ (by simp only [List.length_cons];omega)).2
theorem znf{P:List Nd}(h:IsV P)(h5:zf P=5):z7 P (zn P (P.length+1)) (zeZ P) none 1=some P.length∧∃hp:0<P.length,P[0].op=5∧0≤P[0].n∧zeZ P=P[0].n.toNat:=by
 have hpos:=h.pos;unfold IsV at h;rcases P with _|⟨x,r⟩
 ·simp at hpos
 have h5':x.op=5:=h5;simp only [zn,List.getElem?_cons_zero] at h;by_cases hs:zB x=true
 ·rw [if_pos hs,if_pos h5'] at h;unfold zB at hs;rw [h5'] at hs;simp at hs;refine⟨?_,hpos,h5',hs.1.1,rfl⟩;rw [←h];exact(zdn (zar _ _) (q0:=1) (fun q hq=>zbc _ _ _ (by simp only [List.length_cons];omega) (by simp only [List.length_cons];omega)) _ _ _ (Nat.le_refl _))
 ·rw [if_neg hs] at h;cases h
theorem zl6{P:List Nd}(h:IsV P)(h6:zf P=6):zY P (zn P (P.length+1)) (zeZ P) .empty 1=some P.length∧∃hp:0<P.length,P[0].op=6∧0≤P[0].n∧zeZ P=P[0].n.toNat:=by
 have hpos:=h.pos;unfold IsV at h;rcases P with _|⟨x,r⟩
 ·simp at hpos
 have h6':x.op=6:=h6;simp only [zn,List.getElem?_cons_zero] at h;by_cases hs:zB x=true
 ·rw [if_pos hs,if_neg (by omega),if_pos h6'] at h;unfold zB at hs;rw [h6'] at hs;simp at hs;refine⟨?_,hpos,h6',hs.1.1,rfl⟩;rw [←h];exact(zdy (zar _ _) (q0:=1) (fun q hq=>zbc _ _ _ (by simp only [List.length_cons];omega) (by simp only [List.length_cons];omega)) _ _ _ (Nat.le_refl _))
 ·rw [if_neg hs] at h;cases h
def zcm:List (List Nd)→Int
 | []=>0
 | P :: r=>or2 (zc P) (zcm r)
end Go.Wk
