/-
  Plain: sums, differences and products that are numbers of 64 bits, or not. No ..
-/
import Derived.RowKit
set_option maxRecDepth 100000
namespace Go.Wk
open Go.RowKit
def I64(a:Int):Prop := -9223372036854775808<=a/\a<=9223372036854775807
def cq(x:Int):Bool:=decide (-9223372036854775808<=x)&& decide (x<=9223372036854775807)
theorem fK(x:Int):cq x=true↔I64 x:=by unfold cq I64;simp
theorem rY(x:Int):cq x=false↔x < -9223372036854775808\/9223372036854775807<x:=by
 rw [<-Bool.not_eq_true,fK];unfold I64;omega
def um(op a b:Int):Int:=if op=17 then a+b else if op=18 then a-b else a*b
def dr(op a b:Int):Int:=if op=17\/op=18\/op=19 then(if cq (um op a b) then um op a b else 0) else 0
def db(op a b:Int):Int:=if op=17\/op=18\/op=19 then(if cq (um op a b) then 0 else 5) else 1
def xF(x y:Nat):Nat:=x*y / 18446744073709551616
def wU(x y:Nat):Nat:=x*y % 18446744073709551616
theorem FU(a b:Int):(a*b).natAbs=a.natAbs*b.natAbs:=Int.natAbs_mul a b
theorem Dv{a b:Int}(h:a<0↔b<0):0<=a*b:=by
 by_cases ha:a<0
 ·exact Int.le_of_lt (Int.mul_pos_of_neg_of_neg ha (h.1 ha))
 ·exact Int.mul_nonneg (by omega) (by have:=mt h.2 ha;omega)
theorem yD{a b:Int}(h:¬(a<0↔b<0)):a*b<=0:=by
 by_cases ha:a<0
 ·have hb:0<=b:=by
   by_cases hb:b<0
   ·exact absurd ⟨λ_=>hb,λ_=>ha⟩ h
   ·omega
  exact Int.mul_nonpos_of_nonpos_of_nonneg (by omega) hb
 ·have hb:b<0:=by
   by_cases hb:b<0
   ·exact hb
   ·exact absurd ⟨λq=>absurd q ha,λq=>absurd q hb⟩ h
  exact Int.mul_nonpos_of_nonneg_of_nonpos (by omega) (by omega)
theorem BQ{a b:Int}(d:Nat)(hd:d=if(a<0↔b<0) then 0 else 1):
 cq (a*b)=true↔xF a.natAbs b.natAbs=0/\wU a.natAbs b.natAbs<=9223372036854775807+d:=by
 rw [fK];unfold I64 xF wU;have h:=FU a b;generalize a.natAbs*b.natAbs=m at *;by_cases hs:a<0↔b<0
 ·have h1:=Dv hs;rw [if_pos hs] at hd;generalize a*b=p at *;omega
 ·have h1:=yD hs;rw [if_neg hs] at hd;generalize a*b=p at *;omega
theorem xY{x:Int}(h:cq x=true):wrap64 x=x:=by
 rw [fK] at h;unfold I64 at h;unfold wrap64;omega
end Go.Wk
