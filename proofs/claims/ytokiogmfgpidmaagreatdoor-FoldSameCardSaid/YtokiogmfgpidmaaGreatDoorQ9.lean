/-
  Plain: sums, differences and products that are numbers of 64 bits, or not. No ..
-/
import Derived.RowKit
set_option maxRecDepth 100000
namespace Go.Wk
open Go.RowKit
def I64(a:Int):Prop := -9223372036854775808<=a/\a<=9223372036854775807
def bR(x:Int):Bool:=decide (-9223372036854775808<=x)&& decide (x<=9223372036854775807)
theorem fw(x:Int):bR x=true↔I64 x:=by unfold bR I64;simp
theorem uV(x:Int):bR x=false↔x < -9223372036854775808\/9223372036854775807<x:=by
 rw [<-Bool.not_eq_true,fw];unfold I64;omega
def vm(op a b:Int):Int:=if op=17 then a+b else if op=18 then a-b else a*b
def dn(op a b:Int):Int:=if op=17\/op=18\/op=19 then(if bR (vm op a b) then vm op a b else 0) else 0
def cM(op a b:Int):Int:=if op=17\/op=18\/op=19 then(if bR (vm op a b) then 0 else 5) else 1
def yP(x y:Nat):Nat:=x*y / 18446744073709551616
def yw(x y:Nat):Nat:=x*y % 18446744073709551616
theorem GO(a b:Int):(a*b).natAbs=a.natAbs*b.natAbs:=Int.natAbs_mul a b
theorem Dz{a b:Int}(h:a<0↔b<0):0<=a*b:=by
 by_cases ha:a<0
 ·exact Int.le_of_lt (Int.mul_pos_of_neg_of_neg ha (h.1 ha))
 ·exact Int.mul_nonneg (by omega) (by have:=mt h.2 ha;omega)
theorem BJ{a b:Int}(h:¬(a<0↔b<0)):a*b<=0:=by
 by_cases ha:a<0
 ·have hb:0<=b:=by
   by_cases hb:b<0
   ·exact absurd ⟨λ_=>hb,λ_=>ha⟩ h
   ·omega
  exact Int.mul_nonpos_of_nonpos_of_nonneg (by omega) hb
 ·have hb:b<0:=by
   by_cases hb:b<0
   ·exact hb
   ·exact absurd ⟨λq=>absurd q ha,λq=>absurd q hb⟩ h
  exact Int.mul_nonpos_of_nonneg_of_nonpos (by omega) (by omega)
theorem DJ{a b:Int}(d:Nat)(hd:d=if(a<0↔b<0) then 0 else 1):
 bR (a*b)=true↔yP a.natAbs b.natAbs=0/\yw a.natAbs b.natAbs<=9223372036854775807+d:=by
 rw [fw];unfold I64 yP yw;have h:=GO a b;generalize a.natAbs*b.natAbs=m at *;by_cases hs:a<0↔b<0
 ·have h1:=Dz hs;rw [if_pos hs] at hd;generalize a*b=p at *;omega
 ·have h1:=BJ hs;rw [if_neg hs] at hd;generalize a*b=p at *;omega
theorem Ce{x:Int}(h:bR x=true):wrap64 x=x:=by
 rw [fw] at h;unfold I64 at h;unfold wrap64;omega
end Go.Wk
