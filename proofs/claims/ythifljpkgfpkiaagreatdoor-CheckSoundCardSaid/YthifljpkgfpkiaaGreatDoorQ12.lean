/-
  Plain: those above one, found step by step, each once. No program in sight. ..
-/
import Derived.Test.YthifljpkgfpkiaaGreatDoorQ7
set_option maxRecDepth 100000
namespace Go.Wk
mutual
inductive Ex
 | node (n:Nd) (ps:Exs)
inductive Exs
 | nil
 | cons (x:Ex) (r:Exs)
end
mutual
def Ex.flat:Ex->List Nd
 | .node n ps=>n :: ps.flat
def Exs.flat:Exs->List Nd
 | .nil => []
 | .cons x r=>x.flat ++ r.flat
end
def Exs.len:Exs->Nat
 | .nil=>0
 | .cons _ r=>r.len+1
def Ex.head:Ex->Nd
 | .node n _=>n
def Ex.parts:Ex->Exs
 | .node _ ps=>ps
def zG(x:Nd):Int :=
 if x.op=5\/x.op=6 then x.n
 else if 1<=x.op/\x.op<=4\/x.op=8 then 0
 else if x.op=7\/x.op=9\/x.op=10\/21<=x.op/\x.op<=24 then 1
 else if x.op=13 then 3
 else if 11<=x.op/\x.op<=20\/25<=x.op/\x.op<=27 then 2
 else -1
def Xz:List (List UInt8):= [[105,102],[116,104,101,110],[101,108,115,101],[116,114,117,101],[102,97,108,115,101],[105,110],[104,97,115],[108,105,107,101],[105,115]]
def jv(s:ByteArray):Bool:=Xz.contains s.data.toList
def iG(s:ByteArray):Bool :=
 if s.data.toList.head?=some 63 then decide (zk (s.extract 1 s.size)=0) else decide (zk s=0)&& !jv s
def aA(x:Nd):Bool :=
 if 1<=x.op/\x.op<=7 then zC x
 else if zG x<0\/x.n≠0\/x.t≠emp then false
 else if x.op=8 then iG x.s
 else if x.op=21\/x.op=22\/x.op=24 then decide (zk x.s=0)
 else if x.op=23 then decide (zx x.s=0)
 else decide (x.s=emp)
def bP(f:Bool)(x:Nd):Bool:=aA x &&(decide (x.op=7)==f)
def jG(x:Nd):Bool:=decide (x.op=6)
mutual
def Ex.valid:Ex->Bool->Prop
 | .node n ps,f=>bP f n=true/\(ps.len:Int)=zG n/\ps.valid (jG n) emp
def Exs.valid:Exs->Bool->ByteArray->Prop
 | .nil,_,_=>True
 | .cons x r,c,s=>(c=true->js s x.head.s<0)/\x.valid c/\r.valid c x.head.s
end
mutual
def aN:Nat->Bool->List Nd->Option (Ex × List Nd)
 | 0,_,_=>none
 | _+1,_,[]=>none
 | m+1,f,x :: r =>
  if bP f x=true then(match jO m (zG x).toNat (jG x) emp r with
   | none=>none
   | some (ps,r')=>some (.node x ps,r')) else none
def jO:Nat->Nat->Bool->ByteArray->List Nd->Option (Exs × List Nd)
 | _,0,_,_,r=>some (.nil,r)
 | 0,_+1,_,_,_=>none
 | _+1,_+1,_,_,[]=>none
 | m+1,c+1,k,s,y :: r =>
  if k=true/\¬js s y.s<0 then none
  else(match aN m k (y :: r) with
   | none=>none
   | some (x,r')=>match jO m c k y.s r' with
    | none=>none
    | some (ps,r'')=>some (.cons x ps,r''))
end
theorem Me{x:Nd}(h:zC x=true)(h5:x.op=5\/x.op=6):0<=x.n:=by
 unfold zC at h;rw [if_neg (by omega),if_neg (by omega),if_neg (by omega),if_neg (by omega),if_pos h5] at h;simp only [Bool.and_eq_true,decide_eq_true_eq] at h;exact h.1.1
theorem s8{x:Nd}(h:aA x=true):0<=zG x:=by
 unfold aA at h;by_cases h7:1<=x.op/\x.op<=7
 ·rw [if_pos h7] at h;unfold zG;by_cases h5:x.op=5\/x.op=6
  ·rw [if_pos h5];exact Me h h5
  ·rw [if_neg h5];by_cases h14:1<=x.op/\x.op<=4\/x.op=8
   ·rw [if_pos h14];decide
   ·rw [if_neg h14,if_pos (by omega)];decide
 ·rw [if_neg h7] at h;split at h
  ·cases h
  ·omega
theorem Cd{f:Bool}{x:Nd}(h:bP f x=true):0<=zG x:=by
 unfold bP at h;rw [Bool.and_eq_true] at h;exact s8 h.1
theorem jq(x:Ex):1<=x.flat.length:=by cases x;simp [Ex.flat]
theorem nW(x:Ex):∃r,x.flat=x.head :: r:=by cases x;exact⟨_,rfl⟩
theorem bK:∀m:Nat,(∀f P x r,aN m f P=some (x,r)->x.valid f/\P=x.flat ++ r)/\(∀c k s P ps r,jO m c k s P=some (ps,r)->ps.valid k s/\ps.len=c/\P=ps.flat ++ r)
 | 0=>by
  refine⟨λf P x r h=>by simp [aN] at h,λc k s P ps r h=>?_⟩
  cases c with
  | zero =>
   simp only [jO,Option.some.injEq,Prod.mk.injEq] at h
   obtain⟨rfl,rfl⟩:=h
   exact⟨trivial,rfl,rfl⟩
  | succ c=>simp [jO] at h
 | m+1=>by
  obtain⟨ihX,ihS⟩:=bK m;refine⟨λf P x r h=>?_,λc k s P ps r h=>?_⟩
  ·cases P with
   | nil=>simp [aN] at h
   | cons y P =>
    simp only [aN] at h
    split at h
    ·rename_i hh
     rcases hp:jO m (zG y).toNat (jG y) emp P with _|⟨ps,r'⟩
     ·rw [hp] at h;cases h
     ·rw [hp] at h;simp only [Option.some.injEq,Prod.mk.injEq] at h;obtain⟨rfl,rfl⟩:=h;obtain⟨v,el,e⟩:=ihS _ _ _ _ _ _ hp;have:=Cd hh;exact⟨⟨hh,by rw [el];omega,v⟩,by rw [e];rfl⟩
    ·cases h
  ·cases c with
   | zero =>
    simp only [jO,Option.some.injEq,Prod.mk.injEq] at h
    obtain⟨rfl,rfl⟩:=h
    exact⟨trivial,rfl,rfl⟩
   | succ c =>
    cases P with
    | nil=>simp [jO] at h
    | cons y P =>
     simp only [jO] at h
     split at h
     ·cases h
     ·rename_i hc
      rcases hp:aN m k (y :: P) with _|⟨x,r'⟩
      ·rw [hp] at h;cases h
      ·rw [hp] at h;simp only at h;rcases hq:jO m c k y.s r' with _|⟨qs,r''⟩
       ·rw [hq] at h;cases h
       ·rw [hq] at h;simp only [Option.some.injEq,Prod.mk.injEq] at h;obtain⟨rfl,rfl⟩:=h;obtain⟨v1,e1⟩:=ihX _ _ _ _ hp;obtain⟨v2,el,e2⟩:=ihS _ _ _ _ _ _ hq;have hy:x.head=y:=by
         obtain⟨u,hu⟩:=nW x;rw [hu,List.cons_append] at e1;injection e1 with e1 _;exact e1.symm
        refine⟨⟨λhk=>?_,v1,by rw [hy];exact v2⟩,by simp [Exs.len,el],by simp only [Exs.flat,List.append_assoc];rw [<-e2,<-e1]⟩;rw [hy];exact Decidable.byContradiction λe=>hc ⟨hk,e⟩
theorem gq:∀m:Nat,(∀f x r,x.valid f->2*x.flat.length<=m->aN m f (x.flat ++ r)=some (x,r))/\(∀k s ps r,ps.valid k s->2*ps.flat.length+1<=m->jO m ps.len k s (ps.flat ++ r)=some (ps,r))
 | 0=>by
  refine⟨λf x r _ h=>by have:=jq x;omega,λk s ps r _ h=>by omega⟩
 | m+1=>by
  obtain⟨ihX,ihS⟩:=gq m;refine⟨λf x r hv hl=>?_,λk s ps r hv hl=>?_⟩
  ·obtain⟨n,ps⟩:=x;obtain⟨v1,v2,v3⟩:=hv;simp only [Ex.flat,List.length_cons] at hl;have e:(zG n).toNat=ps.len:=by rw [<-v2];rfl
   simp only [Ex.flat,List.cons_append,aN,if_pos v1,e,ihS _ _ ps r v3 (by omega)]
  ·cases ps with
   | nil=>cases m <;> simp [Exs.len,jO,Exs.flat]
   | cons x q =>
    obtain⟨v1,v2,v3⟩:=hv
    simp only [Exs.flat,List.length_append] at hl
    have hp:=jq x
    obtain⟨u,hu⟩:=nW x
    have h1:=ihX k x (q.flat ++ r) v2 (by omega)
    have h2:=ihS k x.head.s q r v3 (by omega)
    simp only [Exs.flat,Exs.len,List.append_assoc]
    rw [hu,List.cons_append] at h1 ⊢
    simp only [jO]
    rw [if_neg (λh=>h.2 (v1 h.1)),h1]
    simp only [h2]
theorem ru{m m':Nat}{f:Bool}{P r:List Nd}{x:Ex}(h:aN m f P=some (x,r))(h':2*P.length<=m'):aN m' f P=some (x,r):=by
 obtain⟨v,e⟩:=(bK m).1 f P x r h;have hl:x.flat.length<=P.length:=by rw [e,List.length_append];omega
 have:=(gq m').1 f x r v (by omega);rwa [<-e] at this
theorem pe{m m' c:Nat}{k:Bool}{s:ByteArray}{P r:List Nd}{ps:Exs}(h:jO m c k s P=some (ps,r))(h':2*P.length+1<=m'):jO m' c k s P=some (ps,r):=by
 obtain⟨v,el,e⟩:=(bK m).2 c k s P ps r h;have hl:ps.flat.length<=P.length:=by rw [e,List.length_append];omega
 have:=(gq m').2 k s ps r v (by omega);rwa [<-e,el] at this
theorem EJ{m m':Nat}{f:Bool}{P:List Nd}(h:2*P.length<=m)(h':2*P.length<=m'):aN m f P=aN m' f P:=by
 rcases e:aN m f P with _|⟨x,r⟩
 ·rcases e':aN m' f P with _|⟨x,r⟩
  ·rfl
  ·rw [ru e' h] at e;cases e
 ·exact(ru e h').symm
theorem oN{m m' c:Nat}{k:Bool}{s:ByteArray}{P:List Nd}(h:2*P.length+1<=m)(h':2*P.length+1<=m'):jO m c k s P=jO m' c k s P:=by
 rcases e:jO m c k s P with _|⟨x,r⟩
 ·rcases e':jO m' c k s P with _|⟨x,r⟩
  ·rfl
  ·rw [pe e' h] at e;cases e
 ·exact(pe e h').symm
def py(P:List Nd):Option Ex:=match aN (2*P.length+2) false P with
 | some (x,[])=>some x
 | _=>none
theorem fC{P:List Nd}{x:Ex}:py P=some x↔x.valid false/\P=x.flat:=by
 unfold py;constructor
 ·intro h;rcases hp:aN (2*P.length+2) false P with _|⟨y,r⟩
  ·rw [hp] at h;cases h
  ·rw [hp] at h
   cases r with
   | nil =>
    simp only [Option.some.injEq] at h
    subst h
    obtain⟨v,e⟩:=(bK _).1 _ _ _ _ hp
    exact⟨v,by rw [e,List.append_nil]⟩
   | cons a r=>cases h
 ·rintro ⟨v,rfl⟩;have:=(gq (2*x.flat.length+2)).1 false x [] v (by omega);rw [List.append_nil] at this;rw [this]
def bU(t:List Nd)(p:Nat)(f:Bool):Int:=match aN (2*t.length+2) f (t.drop p) with
 | some (_,r)=>((t.length-r.length:Nat):Int)
 | none => -1
def da(t:List Nd)(c:Nat)(k:Bool)(s:ByteArray)(p:Nat):Int:=match jO (2*t.length+2) c k s (t.drop p) with
 | some (_,r)=>((t.length-r.length:Nat):Int)
 | none => -1
theorem tz{t:List Nd}{p:Nat}{x:Nd}(h:t[p]?=some x):t.drop p=x :: t.drop (p+1):=by
 obtain⟨hp,e⟩:=List.getElem?_eq_some_iff.1 h;rw [<-e];exact List.drop_eq_getElem_cons hp
theorem D8{t:List Nd}{p:Nat}{f:Bool}(h:t.length<=p):bU t p f = -1:=by
 unfold bU;rw [List.drop_eq_nil_of_le h];rfl
theorem Eo{t:List Nd}{p:Nat}{f:Bool}{x:Nd}(h:t[p]?=some x)(hx:bP f x=false):bU t p f = -1:=by
 unfold bU;rw [tz h];simp [aN,hx]
theorem LS{t:List Nd}{p:Nat}{f:Bool}{x:Nd}(h:t[p]?=some x)(hx:bP f x=true):bU t p f=da t (zG x).toNat (jG x) emp (p+1):=by
 have hp:=(List.getElem?_eq_some_iff.1 h).1;unfold bU da;rw [tz h];simp only [aN,if_pos hx];rw [oN (m:=2*t.length+1) (m':=2*t.length+2) (by simp;omega) (by simp;omega)];rcases jO (2*t.length+2) (zG x).toNat (jG x) emp (t.drop (p+1)) with _|⟨ps,r⟩<;> rfl
theorem It{t:List Nd}{p:Nat}{k:Bool}{s:ByteArray}(h:p<=t.length):da t 0 k s p=(p:Int):=by
 unfold da;simp only [jO,List.length_drop];congr 1;omega
theorem mz{t:List Nd}{p c:Nat}{k:Bool}{s:ByteArray}(h:t.length<=p):da t (c+1) k s p = -1:=by
 unfold da;rw [List.drop_eq_nil_of_le h];rfl
theorem JD{t:List Nd}{p:Nat}{f:Bool}(h:0<=bU t p f):∃e:Nat,bU t p f=(e:Int)/\p<e/\e<=t.length:=by
 unfold bU at *;rcases hp:aN (2*t.length+2) f (t.drop p) with _|⟨k,r⟩
 ·rw [hp] at h;simp at h
 ·rw [hp] at h;simp only at h ⊢;obtain⟨v,e⟩:=(bK _).1 _ _ _ _ hp;have h1:(t.drop p).length=k.flat.length+r.length:=by rw [e,List.length_append]
  rw [List.length_drop] at h1;have h2:=jq k;exact⟨_,rfl,by omega,by omega⟩
theorem Ff{t:List Nd}{p:Nat}{f:Bool}(h:¬0<=bU t p f):bU t p f = -1:=by
 unfold bU at *;rcases hp:aN (2*t.length+2) f (t.drop p) with _|⟨k,r⟩
 ·rfl
 ·rw [hp] at h;simp only at h;omega
theorem kp{t:List Nd}{p c:Nat}{k:Bool}{s:ByteArray}{y:Nd}(h:t[p]?=some y):da t (c+1) k s p=if k=true/\¬js s y.s<0 then -1 else if 0<=bU t p k then da t c k y.s (bU t p k).toNat else -1:=by
 have hp:=(List.getElem?_eq_some_iff.1 h).1;unfold da;have hd:=tz h;rw [hd];simp only [jO];by_cases hk:k=true/\¬js s y.s<0
 ·rw [if_pos hk,if_pos hk]
 ·rw [if_neg hk,if_neg hk];rw [<-hd];unfold bU;rw [EJ (m:=2*t.length+1) (m':=2*t.length+2) (by simp;omega) (by simp;omega)];rcases hq:aN (2*t.length+2) k (t.drop p) with _|⟨x,r⟩
  ·simp
  ·simp only;obtain⟨v,e⟩:=(bK _).1 _ _ _ _ hq;have h1:(t.drop p).length=x.flat.length+r.length:=by rw [e,List.length_append]
   rw [List.length_drop] at h1;have h0:=jq x;rw [if_pos (by omega)];have h3:((t.length-r.length:Nat):Int).toNat=t.length-r.length:=rfl;rw [h3];have h2:t.drop (t.length-r.length)=r:=by
    have:t.drop (t.length-r.length)=(t.drop p).drop x.flat.length:=by rw [List.drop_drop];congr 1;omega
    rw [this,e,List.drop_left]
   rw [h2,oN (m:=2*t.length+1) (m':=2*t.length+2) (by omega) (by omega)];rcases jO (2*t.length+2) c k y.s r with _|⟨f,r'⟩<;> rfl
def jz(t:List Nd):Int:=if 200<t.length then 4 else if(py t).isSome then 0 else 1
theorem PT{t:List Nd}:bU t 0 false=(t.length:Int)↔(py t).isSome=true:=by
 unfold bU py;rw [List.drop_zero];rcases hp:aN (2*t.length+2) false t with _|⟨k,r⟩
 ·simp
 ·simp only;obtain⟨v,e⟩:=(bK _).1 _ _ _ _ hp;have h1:t.length=k.flat.length+r.length:=by rw [<-List.length_append,<-e]
  have h2:=jq k
  cases r with
  | nil=>simp
  | cons a r =>
   simp only [List.length_cons] at h1 ⊢
   simp
   omega
theorem cB{t:List Nd}:jz t=0↔t.length<=200/\∃x:Ex,x.valid false/\t=x.flat:=by
 unfold jz;by_cases h:200<t.length
 ·rw [if_pos h];omega
 ·rw [if_neg h];rcases hr:py t with _|k
  ·simp only [Option.isSome_none,Bool.false_eq_true,if_false];constructor
   ·intro q;omega
   ·rintro ⟨-,k,v,e⟩;rw [fC.2 ⟨v,e⟩] at hr;cases hr
  ·simp only [Option.isSome_some,if_true,true_iff];exact⟨by omega,k,fC.1 hr⟩
structure Stg where
 K:List KD
 a:AD
 who:ByteArray
 what:ByteArray
abbrev jl:=List (List Nd × ByteArray)
abbrev eR:=Except Int Kd
def dL(F:jl)(P:List Nd)(s:ByteArray):Bool:=F.any λx=>decide (x.2=s)&& decide (zJ x.1 P=0)
def kOp:Kd->Int
 | .base x=>x
 | .ent _=>44
 | .set _=>45
 | .fs _=>46
def zQ(l:List Int)(k:Kd):Bool:=decide (kOp k=49)|| l.contains (kOp k)
def ix(k:Kd):eR:=if 200<k.sz then .error 4 else .ok k
def lu(P:List Nd):Fl:=match kU P with
 | some (.fs f)=>f
 | _ => .nil
def eo:ByteArray:=⟨#[112,114,105,110,99,105,112,97,108]⟩
def kd:ByteArray:=⟨#[97,99,116,105,111,110]⟩
def dq:ByteArray:=⟨#[114,101,115,111,117,114,99,101]⟩
def dK:ByteArray:=⟨#[99,111,110,116,101,120,116]⟩
def eG:ByteArray:=⟨#[65,99,116,105,111,110]⟩
def bH(τ:Stg)(s:ByteArray):eR :=
 if s=eo then .ok (.ent τ.who) else if s=kd then .ok (.ent eG) else if s=dq then .ok (.ent τ.what) else if s=dK then .ok (.fs (lu τ.a.P)) else .error 3
def gm(g:Fl)(s:ByteArray)(known:Bool):eR:=match g.find s with
 | some (m,k)=>if m || known then .ok k else .error 3
 | none => .error 3
def mS(τ:Stg)(k:Kd)(s:ByteArray)(known:Bool):eR:=match k with
 | .base x=>if x=49 then .ok (.base x) else .error 2
 | .set _ => .error 2
 | .ent u=>match cN τ.K u with
  | none => .error 3
  | some d=>gm (lu d.P) s known
 | .fs g=>gm g s known
def dH:Kd->List Kd->eR
 | k,[]=>ix (.set k)
 | k,p :: r=>if 200<(zI k p).sz then .error 4 else dH (zI k p) r
def dP:Kd->Bool
 | .set p=>zQ [44] p
 | k=>zQ [44] k
def bR(op:Int)(L:List Kd):Bool :=
 if op=9\/op=12 then L.all (zQ [41])
 else if op=10\/15<=op/\op<=19 then L.all (zQ [42])
 else if op=23 then(L.take 1).all (zQ [43])
 else if op=24 then(L.take 1).all (zQ [44])
 else if op=21 then(L.take 1).all (zQ [46,44])
 else if op=25 then(L.take 1).all (zQ [45])
 else if op=26\/op=27 then L.all (zQ [45])
 else if op=20 then(L.take 1).all (zQ [44])&&(L.drop 1).all dP
 else true
def jp(op:Int)(L:List Kd):eR:=if bR op L=true then .ok (.base (if op=10\/17<=op/\op<=19 then 42 else 41)) else .error 2
def Oj:Exs->List Nd
 | .nil => []
 | .cons x _=>x.flat
mutual
def cR:Ex->jl->jl
 | .node n ps,F=>if n.op=21 then(Oj ps,n.s):: F else if n.op=11 then xI ps F else F
def xI:Exs->jl->jl
 | .nil,F=>F
 | .cons x r,F=>xI r (cR x F)
end
mutual
def tyX(τ:Stg):Ex->jl->eR
 | .node n ps,F =>
  if n.op=11 then lA τ ps F
  else if n.op=13 then rY τ ps F
  else if n.op=6 then(match tyF τ ps F 1 with
   | .error e => .error e
   | .ok f => .ok (.fs f))
  else match tyS τ ps F with
   | .error e => .error e
   | .ok L =>
    if n.op=1 then .ok (.base 41) else if n.op=2 then .ok (.base 42) else if n.op=3 then .ok (.base 43) else if n.op=4 then .ok (.ent n.s)
    else if n.op=8 then bH τ n.s
    else if n.op=5 then dH (.base 49) L
    else if n.op=22 then(match L with
     | k :: _=>mS τ k n.s (dL F (Oj ps) n.s)
     | [] => .error 0)
    else jp n.op L
def lA(τ:Stg):Exs->jl->eR
 | .nil,_ => .error 0
 | .cons a r,F=>match tyX τ a F with
  | .error e => .error e
  | .ok k=>match dU τ r (cR a F) with
   | .error e => .error e
   | .ok j=>if zQ [41] k && zQ [41] j then .ok (.base 41) else .error 2
def rY(τ:Stg):Exs->jl->eR
 | .nil,_ => .error 0
 | .cons c r,F=>match tyX τ c F with
  | .error e => .error e
  | .ok k=>match dU τ r (cR c F) with
   | .error e => .error e
   | .ok a=>match yb τ r F with
    | .error e => .error e
    | .ok b=>if zQ [41] k then ix (zI a b) else .error 2
def dU(τ:Stg):Exs->jl->eR
 | .nil,_ => .error 0
 | .cons a _,F=>tyX τ a F
def yb(τ:Stg):Exs->jl->eR
 | .nil,_ => .error 0
 | .cons _ r,F=>dU τ r F
def tyS(τ:Stg):Exs->jl->Except Int (List Kd)
 | .nil,_ => .ok []
 | .cons x r,F=>match tyX τ x F with
  | .error e => .error e
  | .ok k=>match tyS τ r F with
   | .error e => .error e
   | .ok L => .ok (k :: L)
def tyF(τ:Stg):Exs->jl->Nat->Except Int Fl
 | .nil,_,_ => .ok .nil
 | .cons x r,F,c=>match pF τ x F with
  | .error e => .error e
  | .ok k=>if 200<c+1+k.sz then .error 4 else match tyF τ r F (c+1+k.sz) with
   | .error e => .error e
   | .ok f => .ok (.cons x.head.s true k f)
def pF(τ:Stg):Ex->jl->eR
 | .node _ ps,F=>dU τ ps F
end
structure gW(τ:Stg):Prop where
 kds:∀d∈τ.K,∃f,Kin d.P (.fs f)
 ctx:∃f,Kin τ.a.P (.fs f)
 who:zk τ.who=0
 what:zk τ.what=0
def KOk(k:Kd):Prop:=k.valid/\k.sz<=200
def TOk:eR->Prop
 | .error _=>True
 | .ok k=>KOk k
theorem gP{x:Int}(h:ah x):KOk (.base x):=⟨h,by simp [Kd.sz]⟩
theorem yT{s:ByteArray}(h:zk s=0):KOk (.ent s):=⟨h,by simp [Kd.sz]⟩
theorem Bt{P:List Nd}{k:Kd}(h:Kin P k):KOk k:=⟨h.v,by have:=h.l;rw [h.e,bW] at this;exact this⟩
theorem KOk.kin{k:Kd}(h:KOk k):Kin k.flat k:=⟨h.1,rfl,by rw [bW];exact h.2⟩
theorem fB{P:List Nd}{f:Fl}(h:Kin P (.fs f)):lu P=f:=by unfold lu;rw [h.read]
theorem Fh{k:Kd}(h:k.valid):TOk (ix k):=by
 unfold ix;split
 ·trivial
 ·rename_i h1;exact⟨h,by omega⟩
theorem PX{g:Fl}(h:KOk (.fs g))(s:ByteArray)(b:Bool):TOk (gm g s b):=by
 unfold gm;rcases hf:g.find s with _|⟨m,k⟩
 ·trivial
 ·simp only;split
  ·have h1:=dM hf;have h2:=h.2;simp only [Kd.sz] at h2;exact⟨dX (bw.1 h.1).2 hf,by omega⟩
  ·trivial
theorem vh{K:List KD}{s:ByteArray}{d:KD}(h:cN K s=some d):d∈K:=List.mem_of_find?_eq_some h
theorem VM{τ:Stg}(hτ:gW τ){k:Kd}(h:KOk k)(s:ByteArray)(b:Bool):TOk (mS τ k s b):=by
 unfold mS
 cases k with
 | base x => simp only; split
             ·exact h
             ·trivial
 | set p=>trivial
 | ent u =>
  simp only
  rcases hk:cN τ.K u with _|d
  ·trivial
  ·obtain⟨f,hf⟩:=hτ.kds d (vh hk)
   simp only;rw [fB hf];exact PX (Bt hf) s b
 | fs g=>exact PX h s b
theorem Nj{τ:Stg}(hτ:gW τ)(s:ByteArray):TOk (bH τ s):=by
 unfold bH;split
 ·exact yT hτ.who
 ·split
  ·exact yT (by decide)
  ·split
   ·exact yT hτ.what
   ·split
    ·obtain⟨f,hf⟩:=hτ.ctx;rw [fB hf];exact Bt hf
    ·trivial
theorem D9:∀(L:List Kd) {k:Kd},KOk k->(∀p∈L,KOk p)->TOk (dH k L)
 | [],k,h,_=>Fh (show(Kd.set k).valid from h.1)
 | p :: r,k,h,hL=>by
  unfold dH;split
  ·trivial
  ·rename_i h1;exact D9 r ⟨cA _ k p (Nat.le_refl _) h.1 (hL p (by simp)).1,by omega⟩ λq hq=>hL q (by simp [hq])
theorem SH(op:Int)(L:List Kd):TOk (jp op L):=by
 unfold jp;split
 ·split
  ·exact gP (by decide)
  ·exact gP (by decide)
 ·trivial
def Zz:Except Int (List Kd)->Prop
 | .error _=>True
 | .ok L=>∀k∈L,KOk k
def FOk(c:Nat)(x:ByteArray):Except Int Fl->Prop
 | .error _=>True
 | .ok f=>f.validFrom x/\c+f.sz<=200
theorem SJ{x:Ex}(h:x.valid true):zk x.head.s=0:=by
 obtain⟨n,ps⟩:=x;have h1:=h.1;unfold bP at h1;rw [Bool.and_eq_true] at h1;have h7:n.op=7:=by simpa using h1.2
 have h2:=h1.1;unfold aA at h2;rw [if_pos (by omega)] at h2;unfold zC at h2;simp only [Ex.head];simp [h7] at h2;exact h2.2
theorem OS(τ:Stg):∀(ps:Exs) (F:jl),TOk (lA τ ps F)
 | .nil,_=>trivial
 | .cons _ _,_=>by
  unfold lA;split
  ·trivial
  ·split
   ·trivial
   ·split
    ·exact gP (by decide)
    ·trivial
mutual
theorem nj{τ:Stg}(hτ:gW τ):∀(x:Ex) (f:Bool) (F:jl),x.valid f->TOk (tyX τ x F)
 | .node n ps,f,F,h=>by
  unfold tyX;split
  ·exact OS τ ps F
  ·split
   ·exact Sv hτ ps _ _ F h.2.2
   ·split
    ·rename_i h6;have hv:=h.2.2;rw [show jG n=true by unfold jG;exact decide_eq_true h6] at hv;have:=Am hτ ps emp F 1 (by omega) hv;rcases hr:tyF τ ps F 1 with e|g
     ·trivial
     ·rw [hr] at this;exact⟨this.1,by simp only [Kd.sz];have:=this.2;omega⟩
    ·have hS:=G8 hτ ps _ _ F h.2.2;rcases hr:tyS τ ps F with e|L
     ·trivial
     ·rw [hr] at hS;simp only;split
      ·exact gP (by decide)
      ·split
       ·exact gP (by decide)
       ·split
        ·exact gP (by decide)
        ·split
         ·rename_i h4;have h1:=h.1;unfold bP at h1;rw [Bool.and_eq_true] at h1;have h2:=h1.1;unfold aA at h2;rw [if_pos (by omega)] at h2;unfold zC at h2;refine yT ?_;simp [h4] at h2;exact h2.1.2
         ·split
          ·exact Nj hτ _
          ·split
           ·exact D9 L (gP (by decide)) hS
           ·split
            ·cases L with
             | nil=>trivial
             | cons k r=>exact VM hτ (hS k (by simp)) _ _
            ·exact SH _ _
theorem Sv{τ:Stg}(hτ:gW τ):∀(ps:Exs) (c:Bool) (l:ByteArray) (F:jl),ps.valid c l->TOk (rY τ ps F)
 | .nil,_,_,_,_=>trivial
 | .cons a r,c,l,F,h=>by
  have h1:=pT hτ r _ _ (cR a F) h.2.2;have h2:=Er hτ r _ _ F h.2.2;unfold rY;split
  ·trivial
  ·split
   ·trivial
   ·rename_i e1;rw [e1] at h1;split
    ·trivial
    ·rename_i e2;rw [e2] at h2;split
     ·exact Fh (cA _ _ _ (Nat.le_refl _) h1.1 h2.1)
     ·trivial
theorem pT{τ:Stg}(hτ:gW τ):∀(ps:Exs) (c:Bool) (l:ByteArray) (F:jl),ps.valid c l->TOk (dU τ ps F)
 | .nil,_,_,_,_=>trivial
 | .cons a _,_,_,F,h=>nj hτ a _ F h.2.1
theorem Er{τ:Stg}(hτ:gW τ):∀(ps:Exs) (c:Bool) (l:ByteArray) (F:jl),ps.valid c l->TOk (yb τ ps F)
 | .nil,_,_,_,_=>trivial
 | .cons _ r,_,_,F,h=>pT hτ r _ _ F h.2.2
theorem G8{τ:Stg}(hτ:gW τ):∀(ps:Exs) (c:Bool) (l:ByteArray) (F:jl),ps.valid c l->Zz (tyS τ ps F)
 | .nil,_,_,_,_=>by unfold tyS;exact λ_ h=>nomatch h
 | .cons a r,c,l,F,h=>by
  have h1:=nj hτ a _ F h.2.1;have h2:=G8 hτ r _ _ F h.2.2;unfold tyS;split
  ·trivial
  ·rename_i e1;rw [e1] at h1;split
   ·trivial
   ·rename_i e2;rw [e2] at h2;intro k hk;rcases List.mem_cons.1 hk with rfl|hk
    ·exact h1
    ·exact h2 k hk
theorem Am{τ:Stg}(hτ:gW τ):∀(ps:Exs) (l:ByteArray) (F:jl) (c:Nat),c<=200->ps.valid true l->FOk c l (tyF τ ps F c)
 | .nil,_,_,c,hc,_=>by unfold tyF;exact⟨trivial,by simp only [Fl.sz];omega⟩
 | .cons a r,l,F,c,hc,h=>by
  have h1:=Ql hτ a _ F h.2.1;unfold tyF;split
  ·trivial
  ·rename_i k e1;rw [e1] at h1;split
   ·trivial
   ·rename_i hs;have h2:=Am hτ r _ F (c+1+k.sz) (by omega) h.2.2;split
    ·trivial
    ·rename_i e2;rw [e2] at h2;refine⟨⟨h.1 rfl,SJ h.2.1,h1.1,h2.1⟩,?_⟩;have:=h2.2;simp only [Fl.sz];omega
theorem Ql{τ:Stg}(hτ:gW τ):∀(x:Ex) (f:Bool) (F:jl),x.valid f->TOk (pF τ x F)
 | .node _ ps,_,F,h=>pT hτ ps _ _ F h.2.2
end
def Exs.app:Exs->Exs->Exs
 | .nil,q=>q
 | .cons x r,q => .cons x (r.app q)
theorem sS:∀(a b:Exs),(a.app b).flat=a.flat ++ b.flat
 | .nil,b=>rfl
 | .cons x r,b=>by simp [Exs.app,Exs.flat,sS r b]
theorem Jh:∀(a b:Exs),(a.app b).len=a.len+b.len
 | .nil,b=>by simp [Exs.app,Exs.len]
 | .cons x r,b=>by simp only [Exs.app,Exs.len,Jh r b];omega
mutual
def Ex.cnt:Ex->Prop
 | .node n ps=>(ps.len:Int)=zG n/\ps.cnt
def Exs.cnt:Exs->Prop
 | .nil=>True
 | .cons x r=>x.cnt/\r.cnt
end
theorem I7:∀(a b:Exs),(a.app b).cnt↔a.cnt/\b.cnt
 | .nil,b=>by simp [Exs.app,Exs.cnt]
 | .cons x r,b=>by simp only [Exs.app,Exs.cnt,I7 r b,and_assoc]
mutual
theorem Ex.valid.cnt:∀ {x:Ex} {f:Bool},x.valid f->x.cnt
 | .node _ _,_,h=>⟨h.2.1,h.2.2.cnts⟩
theorem Exs.valid.cnts:∀ {r:Exs} {c:Bool} {s:ByteArray},r.valid c s->r.cnt
 | .nil,_,_,_=>trivial
 | .cons _ _,_,_,h=>⟨h.2.1.cnt,h.2.2.cnts⟩
end
structure sc(t:List Nd)(p:Nat)(L:Exs):Prop where
 cnt:L.cnt
 drop:∃r,t.drop p=L.flat ++ r
theorem sc.start{t:List Nd}{p:Nat}{f:Bool}{x:Ex}{r:List Nd}(hx:x.valid f)(h:t.drop p=x.flat ++ r):sc t p (.cons x .nil):=
 ⟨⟨hx.cnt,trivial⟩,r,by simp [Exs.flat,h]⟩
theorem sc.step{t:List Nd}{p:Nat}{n:Nd}{ps q:Exs}(h:sc t p (.cons (.node n ps) q)):t[p]?=some n/\sc t (p+1) (ps.app q)/\((ps.app q).len:Int)=q.len+zG n/\p+1+(ps.app q).flat.length=p+(Exs.cons (.node n ps) q).flat.length:=by
 obtain⟨⟨⟨h1,h2⟩,h3⟩,r,e⟩:=h;simp only [Exs.flat,Ex.flat,List.cons_append,List.append_assoc] at e;refine⟨?_,⟨(I7 _ _).2 ⟨h2,h3⟩,r,?_⟩,?_,?_⟩
 ·have:=congrArg (λl=>l[0]?) e;simpa using this
 ·have:=congrArg (List.drop 1) e;rw [List.drop_drop] at this;rw [sS,List.append_assoc];simpa using this
 ·rw [Jh,<-h1];omega
 ·rw [sS];simp only [Exs.flat,Ex.flat,List.length_cons,List.length_append];omega
theorem sc.left{t:List Nd}{p:Nat}{L:Exs}(h:sc t p L)(hl:0<L.len):∃n ps q,L = .cons (.node n ps) q:=by
 cases L with
 | nil=>simp [Exs.len] at hl
 | cons x q=>obtain⟨n,ps⟩:=x;exact⟨n,ps,q,rfl⟩
theorem dn:∀r:Exs,r.len<=r.flat.length
 | .nil=>Nat.le_refl _
 | .cons x r=>by have:=jq x;have:=dn r;simp only [Exs.len,Exs.flat,List.length_append];omega
theorem sc.le{t:List Nd}{p:Nat}{L:Exs}(h:sc t p L)(hl:0<L.len):p+L.flat.length<=t.length:=by
 obtain⟨r,e⟩:=h.drop;have h1:=congrArg List.length e;rw [List.length_drop,List.length_append] at h1;have:=dn L;omega
structure XAt(t:List Nd)(p:Nat)(f:Bool)(x:Ex):Prop where
 valid:x.valid f
 drop:∃r,t.drop p=x.flat ++ r
structure mT(t:List Nd)(p:Nat)(c:Bool)(r:Exs):Prop where
 valid:∃s,r.valid c s
 drop:∃u,t.drop p=r.flat ++ u
theorem XAt.all{x:Ex}{f:Bool}(h:x.valid f):XAt x.flat 0 f x:=⟨h,[],by simp⟩
theorem XAt.head{t:List Nd}{p:Nat}{f:Bool}{x:Ex}(h:XAt t p f x):t[p]?=some x.head:=by
 obtain⟨r,e⟩:=h.drop;obtain⟨u,hu⟩:=nW x;rw [hu] at e;have:=congrArg (λl=>l[0]?) e;simpa using this
theorem XAt.le{t:List Nd}{p:Nat}{f:Bool}{x:Ex}(h:XAt t p f x):p+x.flat.length<=t.length:=by
 obtain⟨r,e⟩:=h.drop;have h1:=congrArg List.length e;rw [List.length_drop,List.length_append] at h1;have:=jq x;omega
theorem XAt.seg{t:List Nd}{p:Nat}{f:Bool}{x:Ex}(h:XAt t p f x):Go.Wk.seg t p (p+x.flat.length)=x.flat:=by
 obtain⟨r,e⟩:=h.drop;unfold Go.Wk.seg;rw [e,show p+x.flat.length-p=x.flat.length by omega,List.take_left]
theorem XAt.parts{t:List Nd}{p:Nat}{f:Bool}{x:Ex}(h:XAt t p f x):mT t (p+1) (jG x.head) x.parts:=by
 obtain⟨n,ps⟩:=x;obtain⟨r,e⟩:=h.drop;refine⟨⟨_,h.valid.2.2⟩,r,?_⟩;simp only [Ex.flat,List.cons_append] at e;have:=congrArg (List.drop 1) e;rw [List.drop_drop] at this;simpa [Ex.parts] using this
theorem mT.head{t:List Nd}{p:Nat}{c:Bool}{x:Ex}{r:Exs}(h:mT t p c (.cons x r)):XAt t p c x/\mT t (p+x.flat.length) c r:=by
 obtain⟨⟨s,v⟩,u,e⟩:=h;simp only [Exs.flat,List.append_assoc] at e;refine⟨⟨v.2.1,_,e⟩,⟨_,v.2.2⟩,u,?_⟩;have:=congrArg (List.drop x.flat.length) e;rw [List.drop_drop,List.drop_left] at this;exact this
theorem XAt.field{t:List Nd}{p:Nat}{x:Ex}(h:XAt t p true x):∃n y,x = .node n (.cons y .nil)/\n.op=7/\zk n.s=0/\XAt t (p+1) false y/\x.flat.length=y.flat.length+1:=by
 obtain⟨n,ps⟩:=x;have hv:=h.valid;obtain⟨v1,v2,v3⟩:=hv;unfold bP at v1;rw [Bool.and_eq_true] at v1;have h7:n.op=7:=by simpa using v1.2
 have e1:zG n=1:=by unfold zG;rw [if_neg (by omega),if_neg (by omega),if_pos (by omega)]
 have e2:jG n=false:=by unfold jG;rw [decide_eq_false];omega
 have hnf:zk n.s=0:=by
  have h0:=v1.1;unfold aA at h0;rw [if_pos (by omega)] at h0;unfold zC at h0;rw [if_neg (by omega),if_neg (by omega),if_neg (by omega),if_neg (by omega),if_neg (by omega),if_pos h7] at h0;simp only [Bool.and_eq_true,decide_eq_true_eq] at h0;exact h0.2
 rw [e1] at v2
 cases ps with
 | nil=>simp [Exs.len] at v2
 | cons y q =>
  cases q with
  | cons z q=>simp only [Exs.len] at v2;omega
  | nil =>
   have hp:=h.parts
   rw [show(Ex.node n (Exs.cons y Exs.nil)).head=n from rfl,e2] at hp
   exact⟨n,y,rfl,h7,hnf,hp.head.1,by simp [Ex.flat,Exs.flat]⟩
def Exs.list:Exs->List Ex
 | .nil => []
 | .cons x r=>x :: r.list
theorem mh:∀r:Exs,r.list.length=r.len
 | .nil=>rfl
 | .cons x r=>by simp [Exs.list,Exs.len,mh r]
def sb(c:Bool):Nat->Exs->List Nat
 | p,.nil => [p]
 | p,.cons x r=>(if c=true then p+1 else p):: sb c (p+x.flat.length) r
def Jk(c:Bool)(x:Ex):Ex:=match c,x with
 | true,.node _ (.cons y _)=>y
 | _,x=>x
theorem mT.at{t:List Nd}{c:Bool}:∀ {r:Exs} {p:Nat},mT t p c r->∀(i:Nat) (x:Ex),r.list[i]?=some x->∃q:Nat,(sb c p r)[i]?=some q/\XAt t q false (Jk c x)/\(c=true->0<q/\t[q-1]?=some x.head)/\((sb c p r)[i+1]?=some (q+(Jk c x).flat.length+(if c=true/\i+1<r.len then 1 else 0)))
 | .nil,_,_,i,x,h=>by simp [Exs.list] at h
 | .cons y r,p,hA,i,x,h=>by
  obtain⟨h1,h2⟩:=hA.head
  cases i with
  | zero =>
   simp only [Exs.list,List.getElem?_cons_zero,Option.some.injEq] at h
   subst h
   have hr:(sb c (p+y.flat.length) r)[0]?=some (p+y.flat.length+if c=true/\0<r.len then 1 else 0):=by
    cases r with
    | nil=>simp [sb,Exs.len]
    | cons z r=>simp only [sb,List.getElem?_cons_zero,Exs.len];cases c <;> simp
   cases c with
   | false =>
    refine⟨p,by simp [sb],h1,(λe=>nomatch e),?_⟩
    simp only [sb,List.getElem?_cons_succ]
    rw [hr]
    simp [Jk]
   | true =>
    have hh:=h1.head
    obtain⟨n,z,rfl,h7,-,hz,hl⟩:=h1.field
    refine⟨p+1,by simp [sb],hz,λ_=>⟨by omega,by simpa using hh⟩,?_⟩
    simp only [sb,List.getElem?_cons_succ]
    rw [hr,hl]
    simp only [Jk,Exs.len,true_and]
    congr 1
    by_cases hr0:0<r.len
    ·rw [if_pos hr0,if_pos (by omega)];omega
    ·rw [if_neg hr0,if_neg (by omega)];omega
  | succ i =>
   simp only [Exs.list,List.getElem?_cons_succ] at h
   obtain⟨q,e1,e2,e3,e4⟩:=h2.at i x h
   refine⟨q,by simpa [sb] using e1,e2,e3,?_⟩
   simp only [sb,List.getElem?_cons_succ]
   rw [e4]
   simp [Exs.len]
inductive Pc
 | ty (k:Kd)
 | fd (s:ByteArray) (m:Bool) (k:Kd)
def Pc.flat:Pc->List Nd
 | .ty k=>k.flat
 | .fd s m k=>⟨47,if m=true then 1 else 0,s,emp⟩:: k.flat
def Pc.ok:Pc->Prop
 | .ty k=>k.valid
 | .fd _ _ k=>k.valid
def pcs:Fl->List Pc
 | .nil => []
 | .cons s m k r => .fd s m k :: pcs r
def cw:List Pc->List Nd
 | [] => []
 | x :: r=>x.flat ++ cw r
theorem o9:∀a b:List Pc,cw (a ++ b)=cw a ++ cw b
 | [],_=>rfl
 | x :: a,b=>by simp [cw,o9 a b]
theorem Cm:∀f:Fl,cw (pcs f)=f.flat
 | .nil=>rfl
 | .cons s m k r=>by simp [pcs,cw,Pc.flat,Fl.flat,Cm r]
theorem Je:∀f:Fl,(pcs f).length=f.len
 | .nil=>rfl
 | .cons s m k r=>by simp [pcs,Fl.len,Je r]
theorem QG:∀(f:Fl) (x:ByteArray),f.validFrom x->∀p∈pcs f,p.ok
 | .nil,_,_,p,h=>by simp [pcs] at h
 | .cons s m k r,_,hv,p,h=>by
  rcases List.mem_cons.1 h with rfl|h
  ·exact hv.2.2.1
  ·exact QG r s hv.2.2.2 p h
theorem U1(x:Pc):1<=x.flat.length:=by
 cases x with
 | ty k=>exact ct k
 | fd s m k=>simp [Pc.flat]
theorem mo:∀L:List Pc,L.length<=(cw L).length
 | []=>Nat.le_refl _
 | x :: r=>by have:=U1 x;have:=mo r;simp only [cw,List.length_cons,List.length_append];omega
structure lO(t:List Nd)(p:Nat)(L:List Pc):Prop where
 ok:∀y∈L,y.ok
 drop:∃r,t.drop p=cw L ++ r
def nh(y:Nd):Int:=if y.op=45\/y.op=47 then 1 else if y.op=46 then y.n else 0
theorem lO.go{t:List Nd}{p:Nat}{x:Pc}{q L:List Pc}{y:Nd}(h:lO t p (x :: q))(e:cw (x :: q)=y :: cw L)(de:∀z∈L,z.ok)(hl:(L.length:Int)=q.length+nh y):
 ∃y L,t[p]?=some y/\lO t (p+1) L/\(L.length:Int)=q.length+nh y/\p+1+(cw L).length=p+(cw (x :: q)).length:=by
 obtain⟨r,hr⟩:=h.drop;rw [e] at hr;refine⟨y,L,?_,⟨de,r,?_⟩,hl,by rw [e,List.length_cons];omega⟩
 ·have:=congrArg (λl=>l[0]?) hr;simpa using this
 ·have:=congrArg (List.drop 1) hr;rw [List.drop_drop] at this;simpa using this
theorem lO.step{t:List Nd}{p:Nat}{x:Pc}{q:List Pc}(h:lO t p (x :: q)):
 ∃y L,t[p]?=some y/\lO t (p+1) L/\(L.length:Int)=q.length+nh y/\p+1+(cw L).length=p+(cw (x :: q)).length:=by
 have hq:∀z∈q,z.ok:=λz hz=>h.ok z (List.mem_cons_of_mem _ hz);have hx:x.ok:=h.ok x List.mem_cons_self
 cases x with
 | fd s m k =>
  refine h.go (y:=⟨47,if m=true then 1 else 0,s,emp⟩) (L := .ty k :: q) rfl ?_ ?_
  ·intro z hz
   rcases List.mem_cons.1 hz with rfl|hz
   ·exact hx
   ·exact hq z hz
  ·simp [nh]
 | ty k =>
  cases k with
  | base o =>
   refine h.go (y:=⟨o,0,emp,emp⟩) (L:=q) rfl hq ?_
   have hb:ah o:=hx
   unfold nh ah at *
   simp only
   rw [if_neg (by omega),if_neg (by omega)]
   omega
  | ent s=>exact h.go (y:=⟨44,0,s,emp⟩) (L:=q) rfl hq (by simp [nh])
  | set p =>
   refine h.go (y:=⟨45,0,emp,emp⟩) (L := .ty p :: q) rfl ?_ ?_
   ·intro z hz
    rcases List.mem_cons.1 hz with rfl|hz
    ·exact hx
    ·exact hq z hz
   ·simp [nh]
  | fs f =>
   refine h.go (y:=⟨46,f.len,emp,emp⟩) (L:=pcs f ++ q) ?_ ?_ ?_
   ·simp [cw,Pc.flat,Kd.flat,o9,Cm]
   ·intro z hz
    rcases List.mem_append.1 hz with hz|hz
    ·exact QG f _ hx z hz
    ·exact hq z hz
   ·simp [nh,Je];omega
theorem lO.le{t:List Nd}{p:Nat}{L:List Pc}(h:lO t p L)(h0:0<L.length):p+(cw L).length<=t.length:=by
 obtain⟨r,e⟩:=h.drop;have h1:=congrArg List.length e;rw [List.length_drop,List.length_append] at h1;have:=mo L;omega
theorem EX.over{t:List Nd}{q:Nat}{s:ByteArray}{m:Bool}{k:Kd}(h:EX t q s m k):lO t (q+1) [.ty k]:=by
 obtain⟨r,e⟩:=h.drop;exact⟨λy hy=>by rw [List.mem_singleton.1 hy];exact h.valid,r,by simp [cw,Pc.flat,e]⟩
theorem CO{f:Fl}{s:ByteArray}(h:f.validFrom s):f.find s=none:=by
 rcases hf:f.find s with _|v
 ·rfl
 ·have:=gp ((ii _ _).1 h).1 hf;rw [zw.self] at this;omega
end Go.Wk
