/-
  Plain: sums, differences and products that are numbers of 64 bits, or not. No program in sight.
-/
import Derived.RowKit
set_option maxRecDepth 100000
namespace Go.Wk
open Go.RowKit
def I64(a:Int):Prop := -9223372036854775808≤a∧a≤9223372036854775807
def zak(x:Int):Bool:=decide (-9223372036854775808≤x)&& decide (x≤9223372036854775807)
theorem zbJ(x:Int):zak x=true↔I64 x:=by unfold zak I64;simp
theorem zfv(x:Int):zak x=false↔x < -9223372036854775808∨9223372036854775807<x:=by
 rw [←Bool.not_eq_true,zbJ];unfold I64;omega
def zfS(op a b:Int):Int:=if op=17 then a+b else if op=18 then a-b else a*b
def zaE(op a b:Int):Int:=if op=17∨op=18∨op=19 then(if zak (zfS op a b) then zfS op a b else 0) else 0
def zan(op a b:Int):Int:=if op=17∨op=18∨op=19 then(if zak (zfS op a b) then 0 else 5) else 1
def zo0(x y:Nat):Nat:=x*y / 18446744073709551616
def zpj(x y:Nat):Nat:=x*y % 18446744073709551616
theorem ztD(a b:Int):(a*b).natAbs=a.natAbs*b.natAbs:=Int.natAbs_mul a b
theorem zrZ{a b:Int}(h:a<0↔b<0):0≤a*b:=by
 by_cases ha:a<0
 ·exact Int.le_of_lt (Int.mul_pos_of_neg_of_neg ha (h.1 ha))
 ·exact Int.mul_nonneg (by omega) (by have:=mt h.2 ha;omega)
theorem zqf{a b:Int}(h:¬(a<0↔b<0)):a*b≤0:=by
 by_cases ha:a<0
 ·have hb:0≤b:=by
   by_cases hb:b<0
   ·exact absurd ⟨fun _=>hb,fun _=>ha⟩ h
   ·omega
  exact Int.mul_nonpos_of_nonpos_of_nonneg (by omega) hb
 ·have hb:b<0:=by
   by_cases hb:b<0
   ·exact hb
   ·exact absurd ⟨fun q=>absurd q ha,fun q=>absurd q hb⟩ h
  exact Int.mul_nonpos_of_nonneg_of_nonpos (by omega) (by omega)
theorem zrN{a b:Int}(d:Nat)(hd:d=if(a<0↔b<0) then 0 else 1):
 zak (a*b)=true↔zo0 a.natAbs b.natAbs=0∧zpj a.natAbs b.natAbs≤9223372036854775807+d:=by
 rw [zbJ];unfold I64 zo0 zpj;have h:=ztD a b;generalize a.natAbs*b.natAbs=m at *;by_cases hs:a<0↔b<0
 ·have h1:=zrZ hs;rw [if_pos hs] at hd;generalize a*b=p at *;omega
 ·have h1:=zqf hs;rw [if_neg hs] at hd;generalize a*b=p at *;omega
theorem zel{x:Int}(h:zak x=true):wrap64 x=x:=by
 rw [zbJ] at h;unfold I64 at h;unfold wrap64;omega
theorem zox{c a:Int}(hc:I64 c)(h1:a≠-1):I64 (c.tdiv a):=by
 have hn:(c.tdiv a).natAbs=c.natAbs / a.natAbs:=Int.natAbs_tdiv c a;have hc2:c.natAbs≤9223372036854775808:=by unfold I64 at hc;omega
 by_cases ha:a.natAbs≤1
 ·by_cases h0:a=0
  ·subst h0;rw [Int.tdiv_zero];unfold I64;omega
  ·have:a=1:=by omega
   subst this;rw [Int.tdiv_one];exact hc
 ·have hd:c.natAbs / a.natAbs≤c.natAbs / 2:=Nat.div_le_div_left (by omega) (by omega);unfold I64;omega
theorem zhG(x:Int):I64 (wrap64 x):=by unfold I64 wrap64;omega
theorem zsd{a b:Int}(ha:a≠0)(h1:a≠-1):
 zak (a*b)=((wrap64 ((wrap64 (a*b)).tdiv a)==b)&&((wrap64 (a*b)).tmod a==0)):=by
 have hr:wrap64 ((wrap64 (a*b)).tdiv a)=(wrap64 (a*b)).tdiv a:=zel ((zbJ _).2 (zox (zhG _) h1));rw [hr,Bool.eq_iff_iff,Bool.and_eq_true,beq_iff_eq,beq_iff_eq];constructor
 ·intro h;rw [zel h];exact⟨Int.mul_tdiv_cancel_left b ha,Int.mul_tmod_right a b⟩
 ·rintro ⟨q1,q2⟩;have h:=Int.mul_tdiv_add_tmod (wrap64 (a*b)) a;rw [q1,q2,Int.add_zero] at h;rw [h];exact(zbJ _).2 (zhG _)
end Go.Wk
