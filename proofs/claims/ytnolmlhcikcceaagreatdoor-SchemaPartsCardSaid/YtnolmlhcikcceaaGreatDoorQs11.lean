/-
  Plain: requests: what is wrong with one, by itself and by a schema; a store by a schema. No program in sight.
-/
import Derived.Test.YtnolmlhcikcceaaGreatDoorQs10
namespace Go.Wk

/-- What is wrong with a request by itself. -/
def askF (a b c : Ud) (P : List Nd) : Int := or2 (uidFault a) (or2 (uidFault b) (or2 (uidFault c) (or2 (valFault P) (if headOp P = 6 then 0 else 2))))
/-- .. by an act. -/
def takes (x : AD) (a c : Ud) (P : List Nd) : Int := if hadB x.who a.1 && hadB x.what c.1 && kHasB x.P P then 0 else 2
/-- .. by a schema's acts; T is the type of an act's name. -/
def fitA (T : ByteArray) (L : List AD) (a b c : Ud) (P : List Nd) : Int := match actOf L b.2 with
  | none => 3
  | some x => if b.1 = T then takes x a c P else 3
def asksF (T : ByteArray) (K : List KD) (L : List AD) (a b c : Ud) (P : List Nd) : Int := or2 (schF K L) (or2 (askF a b c P) (fitA T L a b c P))
end Go.Wk
