/-
  Plain: requests: what is wrong with one, by itself and by a schema; a store by a schema. No program in sight.
-/
import Derived.Test.YtcdpoamiejompaaGreatDoorQe9
namespace Go.Wk

/-- What is wrong with a request by itself. -/
def askF (a b c : Ud) (P : List Nd) : Int := or2 (uidFault a) (or2 (uidFault b) (or2 (uidFault c) (or2 (valFault P) (if headOp P = 6 then 0 else 2))))
/-- .. by an act. -/
def takes (x : AD) (a c : Ud) (P : List Nd) : Int := if hadB x.who a.1 && hadB x.what c.1 && kHasB x.P P then 0 else 2
end Go.Wk
