/-
  Plain: requests: what is wrong with one, by itself and by a schema; a store by a schema. No program in sight.
-/
import Derived.Test.YtkfgabdnppmglaaGreatDoorQ5
import Derived.Test.YtkfgabdnppmglaaGreatDoorQ8
set_option maxRecDepth 100000
namespace Go.Wk
def zdJ(a b c:Ud)(P:List Nd):Int:=or2 (zw a) (or2 (zw b) (or2 (zw c) (or2 (zc P) (if zf P=6 then 0 else 2))))
def takes(x:AD)(a c:Ud)(P:List Nd):Int:=if zds x.who a.1 && zds x.what c.1 && zvn x.P P then 0 else 2
end Go.Wk
