/-
  Plain: requests: what is wrong with one, by itself and by a schema; a store by ..
-/
import Derived.Test.YtokiogmfgpidmaaGreatDoorQ7
import Derived.Test.YtokiogmfgpidmaaGreatDoorQ11
set_option maxRecDepth 100000
namespace Go.Wk
def qn(a b c:Ud)(P:List Nd):Int:=or2 (zI a) (or2 (zI b) (or2 (zI c) (or2 (zc P) (if zf P=6 then 0 else 2))))
def takes(x:AD)(a c:Ud)(P:List Nd):Int:=if lP x.who a.1 && lP x.what c.1 && Lx x.P P then 0 else 2
end Go.Wk
