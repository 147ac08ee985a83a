/-
  Plain: requests: what is wrong with one, by itself and by a schema; a store by ..
-/
import Derived.Test.YthifljpkgfpkiaaGreatDoorQ4
import Derived.Test.YthifljpkgfpkiaaGreatDoorQ7
set_option maxRecDepth 100000
namespace Go.Wk
def oS(a b c:Ud)(P:List Nd):Int:=or2 (zN a) (or2 (zN b) (or2 (zN c) (or2 (zh P) (if zg P=6 then 0 else 2))))
def takes(x:AD)(a c:Ud)(P:List Nd):Int:=if ai x.who a.1 && ai x.what c.1 && gV x.P P then 0 else 2
def L9(T:ByteArray)(L:List AD)(a b c:Ud)(P:List Nd):Int:=match fj L b.2 with
 | none=>3
 | some x=>if b.1=T then takes x a c P else 3
def pH(T:ByteArray)(K:List KD)(L:List AD)(a b c:Ud)(P:List Nd):Int:=or2 (bn K L) (or2 (oS a b c P) (L9 T L a b c P))
end Go.Wk
