/-
  Plain: sums, differences and products that are numbers of 64 bits, or not. No ..
-/
import Derived.RowKit
set_option maxRecDepth 100000
namespace Go.Wk
open Go.RowKit
def I64(a:Int):Prop := -9223372036854775808<=a/\a<=9223372036854775807
def pV(x:Int):Bool:=decide (-9223372036854775808<=x)&& decide (x<=9223372036854775807)
theorem ID(x:Int):pV x=true↔I64 x:=by unfold pV I64;simp
theorem QB(x:Int):pV x=false↔x < -9223372036854775808\/9223372036854775807<x:=by
 rw [<-Bool.not_eq_true,ID];unfold I64;omega
def Rf(op a b:Int):Int:=if op=17 then a+b else if op=18 then a-b else a*b
def vP(op a b:Int):Int:=if op=17\/op=18\/op=19 then(if pV (Rf op a b) then Rf op a b else 0) else 0
def pU(op a b:Int):Int:=if op=17\/op=18\/op=19 then(if pV (Rf op a b) then 0 else 5) else 1
def zeI(x y:Nat):Nat:=x*y / 18446744073709551616
def zeY(x y:Nat):Nat:=x*y % 18446744073709551616
theorem zl0(a b:Int):(a*b).natAbs=a.natAbs*b.natAbs:=Int.natAbs_mul a b
theorem ziT{a b:Int}(h:a<0↔b<0):0<=a*b:=by
 by_cases ha:a<0
 ·exact Int.le_of_lt (Int.mul_pos_of_neg_of_neg ha (h.1 ha))
 ·exact Int.mul_nonneg (by omega) (by have:=mt h.2 ha;omega)
theorem zf4{a b:Int}(h:¬(a<0↔b<0)):a*b<=0:=by
 by_cases ha:a<0
 ·have hb:0<=b:=by
   by_cases hb:b<0
   ·exact absurd ⟨λ_=>hb,λ_=>ha⟩ h
   ·omega
  exact Int.mul_nonpos_of_nonpos_of_nonneg (by omega) hb
 ·have hb:b<0:=by
   by_cases hb:b<0
   ·exact hb
   ·exact absurd ⟨λq=>absurd q ha,λq=>absurd q hb⟩ h
  exact Int.mul_nonpos_of_nonneg_of_nonpos (by omega) (by omega)
theorem zjB{a b:Int}(d:Nat)(hd:d=if(a<0↔b<0) then 0 else 1):
 pV (a*b)=true↔zeI a.natAbs b.natAbs=0/\zeY a.natAbs b.natAbs<=9223372036854775807+d:=by
 rw [ID];unfold I64 zeI zeY;have h:=zl0 a b;generalize a.natAbs*b.natAbs=m at *;by_cases hs:a<0↔b<0
 ·have h1:=ziT hs;rw [if_pos hs] at hd;generalize a*b=p at *;omega
 ·have h1:=zf4 hs;rw [if_neg hs] at hd;generalize a*b=p at *;omega
theorem OJ{x:Int}(h:pV x=true):wrap64 x=x:=by
 rw [ID] at h;unfold I64 at h;unfold wrap64;omega
theorem zdW{c a:Int}(hc:I64 c)(h1:a≠-1):I64 (c.tdiv a):=by
 have hn:(c.tdiv a).natAbs=c.natAbs / a.natAbs:=Int.natAbs_tdiv c a;have hc2:c.natAbs<=9223372036854775808:=by unfold I64 at hc;omega
 by_cases ha:a.natAbs<=1
 ·by_cases h0:a=0
  ·subst h0;rw [Int.tdiv_zero];unfold I64;omega
  ·have:a=1:=by omega
   subst this;rw [Int.tdiv_one];exact hc
 ·have hd:c.natAbs / a.natAbs<=c.natAbs / 2:=Nat.div_le_div_left (by omega) (by omega);unfold I64;omega
theorem Uh(x:Int):I64 (wrap64 x):=by unfold I64 wrap64;omega
theorem zhK{a b:Int}(ha:a≠0)(h1:a≠-1):
 pV (a*b)=((wrap64 ((wrap64 (a*b)).tdiv a)==b)&&((wrap64 (a*b)).tmod a==0)):=by
 have hr:wrap64 ((wrap64 (a*b)).tdiv a)=(wrap64 (a*b)).tdiv a:=OJ ((ID _).2 (zdW (Uh _) h1));rw [hr,Bool.eq_iff_iff,Bool.and_eq_true,beq_iff_eq,beq_iff_eq];constructor
 ·intro h;rw [OJ h];exact⟨Int.mul_tdiv_cancel_left b ha,Int.mul_tmod_right a b⟩
 ·rintro ⟨q1,q2⟩;have h:=Int.mul_tdiv_add_tmod (wrap64 (a*b)) a;rw [q1,q2,Int.add_zero] at h;rw [h];exact(ID _).2 (Uh _)
end Go.Wk
