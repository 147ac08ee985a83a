/-
  Plain: what has a Bool, or an error; what And, Or, If and Not may be instead. ..
-/
import Derived.Test.YtokiogmfgpidmaaGreatDoorD1
set_option maxRecDepth 100000
namespace Go.Proofs.YtokiogmfgpidmaaGreatDoor
open Go.Wk
def ofT(op:Int):Bool:=decide (op=1\/op=9\/op=11\/op=12\/op=14\/op=15\/op=16\/op=20\/op=21\/23<=op/\op<=27)
def ju:Ex->Option Ex
 | .node n (.cons a .nil)=>match a with
  | .node m (.cons b .nil)=>if n.op=9/\m.op=9/\ofT b.head.op=true then some b else none
  | _=>none
 | .node n (.cons a (.cons b .nil))=>
  if n.op=11\/n.op=12 then
   (if a.head.op=1 then(if decide (a.head.n=1)=decide (n.op=12) then some a else if ofT b.head.op=true then some b else none)
    else if b.head.op=1/\decide (b.head.n=1)≠decide (n.op=12)/\ofT a.head.op=true then some a else none)
  else none
 | .node n (.cons c (.cons a (.cons b .nil)))=>if n.op=13/\c.head.op=1 then(if c.head.n=1 then some a else some b) else none
 | _=>none
end Go.Proofs.YtokiogmfgpidmaaGreatDoor
