/-
  Plain: types, which are below which, and the least above two. No program in sight. Plain: types as nodes, there and back. No program in sight. Plain: where ..
-/
import Derived.Test.YtkfgabdnppmglaaGreatDoorQ1
set_option maxRecDepth 100000
namespace Go.Wk
mutual
inductive Kd
 | base (op:Int)
 | ent (s:ByteArray)
 | set (p:Kd)
 | fs (f:Fl)
inductive Fl
 | nil
 | cons (s:ByteArray) (m:Bool) (k:Kd) (r:Fl)
end
mutual
def Kd.sz:Kd→Nat
 | .base _=>1
 | .ent _=>1
 | .set p=>p.sz+1
 | .fs f=>f.sz+1
def Fl.sz:Fl→Nat
 | .nil=>0
 | .cons _ _ k r=>k.sz+r.sz+1
end
def Fl.find:Fl→ByteArray→Option (Bool × Kd)
 | .nil,_=>none
 | .cons s m k r,x=>if s=x then some (m,k) else r.find x
def zgv:Kd→Bool
 | .base x=>x==48
 | _=>false
def isNone:Kd→Bool
 | .base x=>x==49
 | _=>false
def zui:Fl→Fl→Bool
 | .nil,_=>true
 | .cons s m _ r,f=>(!m ||(f.find s).isSome)&& zui r f
mutual
def zoc:Kd→Kd→Bool
 | .base x,b=>x==49 || zgv b ||(match b with | .base y=>x==y|_=>false)
 | .ent s,b=>zgv b ||(match b with | .ent t=>decide (s=t)|_=>false)
 | .set p,b=>zgv b ||(match b with | .set q=>zoc p q|_=>false)
 | .fs f,b=>zgv b ||(match b with | .fs g=>zsr f g && zui g f|_=>false)
def zsr:Fl→Fl→Bool
 | .nil,_=>true
 | .cons s m k r,g=>(match g.find s with|none=>false|some (m',k')=>(!m' || m)&& zoc k k')&& zsr r g
end
def Fl.ascFrom:ByteArray→Fl→Prop
 | _,.nil=>True
 | x,.cons s _ _ r=>jk x s<0∧r.ascFrom s
def Fl.asc:Fl→Prop
 | .nil=>True
 | .cons s _ _ r=>r.ascFrom s
mutual
def Kd.ok:Kd→Prop
 | .base _=>True
 | .ent _=>True
 | .set p=>p.ok
 | .fs f=>f.asc∧f.ok
def Fl.ok:Fl→Prop
 | .nil=>True
 | .cons _ _ k r=>k.ok∧r.ok
end
theorem zqV{x:ByteArray}{f:Fl}(h:f.ascFrom x):f.asc:=by
 cases f with
 | nil=>trivial
 | cons s m k r=>exact h.2
def emp:ByteArray:=⟨#[]⟩
mutual
def Kd.flat:Kd→List Nd
 | .base x => [⟨x,0,emp,emp⟩]
 | .ent s => [⟨44,0,s,emp⟩]
 | .set p=>⟨45,0,emp,emp⟩:: p.flat
 | .fs f=>⟨46,f.len,emp,emp⟩:: f.flat
def Fl.len:Fl→Nat
 | .nil=>0
 | .cons _ _ _ r=>r.len+1
def Fl.flat:Fl→List Nd
 | .nil => []
 | .cons s m k r=>⟨47,if m=true then 1 else 0,s,emp⟩::(k.flat ++ r.flat)
end
def zk3(x:Int):Prop:=x=41∨x=42∨x=43∨x=48∨x=49
instance (x:Int):Decidable (zk3 x):=by unfold zk3;infer_instance
mutual
def Kd.valid:Kd→Prop
 | .base x=>zk3 x
 | .ent s=>zg s=0
 | .set p=>p.valid
 | .fs f=>f.validFrom emp
def Fl.validFrom:Fl→ByteArray→Prop
 | .nil,_=>True
 | .cons s _ k r,x=>jk x s<0∧zg s=0∧k.valid∧r.validFrom s
end
def zuK(x:ByteArray)(y:Nd):Prop:=y.op=47∧(y.n=0∨y.n=1)∧y.t=emp∧zg y.s=0∧jk x y.s<0
instance (x:ByteArray) (y:Nd):Decidable (zuK x y):=by unfold zuK;infer_instance
mutual
def zoe:Nat→List Nd→Option (Kd × List Nd)
 | 0,_=>none
 | _+1,[]=>none
 | n+1,x :: r =>
  if zk3 x.op then(if x.n=0∧x.s=emp∧x.t=emp then some (.base x.op,r) else none)
  else if x.op=44 then(if x.n=0∧zg x.s=0∧x.t=emp then some (.ent x.s,r) else none)
  else if x.op=45 then(match zoe n r with
   | none=>none
   | some (p,r')=>if x.n=0∧x.s=emp∧x.t=emp then some (.set p,r') else none)
  else if x.op=46 then(match zsJ n x.n.toNat emp r with
   | none=>none
   | some (f,r')=>if 0≤x.n∧x.s=emp∧x.t=emp then some (.fs f,r') else none)
  else none
def zsJ:Nat→Nat→ByteArray→List Nd→Option (Fl × List Nd)
 | _,0,_,r=>some (.nil,r)
 | 0,_+1,_,_=>none
 | _+1,_+1,_,[]=>none
 | n+1,c+1,x,y :: r =>
  if zuK x y then(match zoe n r with
   | none=>none
   | some (k,r')=>match zsJ n c y.s r' with
    | none=>none
    | some (f,r'')=>some (.cons y.s (y.n==1) k f,r''))
  else none
end
def zug(P:List Nd):Option Kd:=match zoe P.length P with
 | some (k,[])=>some k
 | _=>none
def zjW(t:List Nd):Int:=if 200<t.length then 4 else if(zug t).isSome then 0 else 1
def zuT(s:ByteArray)(m:Bool)(k:Kd):Fl→Fl
 | .nil => .cons s m k .nil
 | .cons t m' k' r=>if jk s t<0 then .cons s m k (.cons t m' k' r) else .cons t m' k' (zuT s m k r)
def zrq:Fl→Fl→Fl
 | .nil,_ => .nil
 | .cons s _ k r,f=>if(f.find s).isSome then zrq r f else .cons s false k (zrq r f)
mutual
def zsD:Kd→Kd→Kd
 | .base x,b=>if x=49 then b else if zgv b then b else if isNone b then .base x else if x=48 then .base 48 else(match b with | .base y=>if x=y then .base x else .base 48|_ => .base 48)
 | .ent s,b=>if zgv b then b else if isNone b then .ent s else(match b with | .ent t=>if s=t then .ent s else .base 48|_ => .base 48)
 | .set p,b=>if zgv b then b else if isNone b then .set p else(match b with | .set q => .set (zsD p q)|_ => .base 48)
 | .fs f,b=>if zgv b then b else if isNone b then .fs f else(match b with | .fs g => .fs (zqW f g (zrq g f))|_ => .base 48)
def zqW:Fl→Fl→Fl→Fl
 | .nil,_,acc=>acc
 | .cons s m k r,g,acc=>match g.find s with
  | none=>zuT s false k (zqW r g acc)
  | some (m',k')=>zuT s (m && m') (zsD k k') (zqW r g acc)
end
end Go.Wk
