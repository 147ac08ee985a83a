/-
  Plain: requests: what is wrong with one, by itself and by a schema; a store by ..
-/
import Derived.Test.YtokiogmfgpidmaaGreatDoorD7
import Derived.Test.YtokiogmfgpidmaaGreatDoorD11
set_option maxRecDepth 100000
namespace Go.Wk
def takes(x:AD)(a c:Ud)(P:List Nd):Int:=if Mt x.who a.1 && Mt x.what c.1 && zpk x.P P then 0 else 2
end Go.Wk
