/-
  Plain: requests: what is wrong with one, by itself and by a schema; a store by ..
-/
import Derived.Test.YthidiimbeaabhaaGreatDoorQ4
import Derived.Test.YthidiimbeaabhaaGreatDoorQ7
set_option maxRecDepth 100000
namespace Go.Wk
def cz(a b c:Ud)(P:List Nd):Int:=or2 (zq a) (or2 (zq b) (or2 (zq c) (or2 (zc P) (if zg P=6 then 0 else 2))))
def takes(x:AD)(a c:Ud)(P:List Nd):Int:=if lO x.who a.1 && lO x.what c.1 && Js x.P P then 0 else 2
end Go.Wk
