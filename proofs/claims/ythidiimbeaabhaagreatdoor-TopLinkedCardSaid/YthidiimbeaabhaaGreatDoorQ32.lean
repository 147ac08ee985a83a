/-
  The contracts of num.Do, num.Neg and the reference's Done. eval.single: a node ..
-/
import Derived.Test.YthidiimbeaabhaaGreatDoorQ14
import Derived.Test.YthidiimbeaabhaaGreatDoorQ31
set_option maxRecDepth 100000
set_option maxHeartbeats 4000000
namespace Go.Proofs.YthidiimbeaabhaaGreatDoor
open Go.RowKit Go.Wk
theorem bits_Mul64(x y:Nat)(w:World)(hx:x<18446744073709551616)(hy:y<18446744073709551616):
 Calls Tryz.prog 131 #[.int .u64 x,.int .u64 y] w λe w'=>e = .returned (.tuple #[.int .u64 (xF x y:Int),.int .u64 (wU x y:Int)])/\w=w' :=
 (Tryz.bits_Mul64 x y hx hy w).mono λ_ _ ⟨h1,h2⟩=>⟨h1,h2.symm⟩
theorem xn{a b:Int}(h:a=b):Ending.returned (.int .u64 a)= .returned (.int .u64 b):=by rw [h]
theorem je(a:Int)(w:World)(h0 : -9223372036854775808<=a)(h1:a<=9223372036854775807):
 Calls Tryz.prog 132 #[.int .i64 a] w λe w'=>e = .returned (.int .u64 (a.natAbs:Int))/\w=w':=by
 by_cases h:a<0
 ·have H:=O (show IntKind.u64.wrap (-IntKind.u64.wrap a)=(a.natAbs:Int) by simp only [IntKind.wrap_u64];omega);go_enter Tryz.func132,Tryz.ntmps132;go_wp2;go_ret;exact⟨xn H.o,rfl⟩
 ·have H:=O (show a=(a.natAbs:Int) by omega);go_enter Tryz.func132,Tryz.ntmps132;go_wp2;go_ret;exact⟨xn H.o,rfl⟩
theorem vL(a b:Int)(w:World)(ha:I64 a)(hb:I64 b)(h:cq (a+b)=true):
 Calls Tryz.prog 100 #[.int .i64 17,.int .i64 a,.int .i64 b] w λe w'=>e = .returned (.tuple #[.int .i64 (a+b),.nilIface])/\w=w':=by
 obtain⟨f1,f2⟩:=(fK _).1 h;obtain⟨a1,a2⟩:=ha;obtain⟨b1,b2⟩:=hb;clear h;by_cases q1:a<0 <;> by_cases q2:b<0 <;> by_cases q3:a+b<0 <;> first|(exfalso;omega)|skip
 all_goals
  go_enter Tryz.func100,Tryz.ntmps100;go_wp2;go_ret2;exact⟨rfl,rfl⟩
theorem uy(a b:Int)(w:World)(ha:I64 a)(hb:I64 b)(h:cq (a+b)=false):
 Calls Tryz.prog 100 #[.int .i64 17,.int .i64 a,.int .i64 b] w λe w'=>e = .returned (.tuple #[.int .i64 0,zM 5])/\w=w':=by
 have hf:=(rY _).1 h;obtain⟨a1,a2⟩:=ha;obtain⟨b1,b2⟩:=hb;clear h;rcases hf with hf|hf
 ·have q1:a<0:=by omega
  have q2:b<0:=by omega
  have q3:¬wrap64 (a+b)<0:=by unfold wrap64;omega
  clear hf;go_enter Tryz.func100,Tryz.ntmps100;go_wp2;go_ret2;exact⟨rfl,rfl⟩
 ·have q1:¬a<0:=by omega
  have q2:¬b<0:=by omega
  have q3:wrap64 (a+b)<0:=by unfold wrap64;omega
  clear hf;go_enter Tryz.func100,Tryz.ntmps100;go_wp2;go_ret2;exact⟨rfl,rfl⟩
theorem vd(a b:Int)(w:World)(ha:I64 a)(hb:I64 b)(h:cq (a-b)=true):
 Calls Tryz.prog 100 #[.int .i64 18,.int .i64 a,.int .i64 b] w λe w'=>e = .returned (.tuple #[.int .i64 (a-b),.nilIface])/\w=w':=by
 obtain⟨f1,f2⟩:=(fK _).1 h;obtain⟨a1,a2⟩:=ha;obtain⟨b1,b2⟩:=hb;clear h;by_cases q1:a<0 <;> by_cases q2:b<0 <;> by_cases q3:a-b<0 <;> first|(exfalso;omega)|skip
 all_goals
  go_enter Tryz.func100,Tryz.ntmps100;go_wp2;go_ret2;exact⟨rfl,rfl⟩
theorem rZ(a b:Int)(w:World)(ha:I64 a)(hb:I64 b)(h:cq (a-b)=false):
 Calls Tryz.prog 100 #[.int .i64 18,.int .i64 a,.int .i64 b] w λe w'=>e = .returned (.tuple #[.int .i64 0,zM 5])/\w=w':=by
 have hf:=(rY _).1 h;obtain⟨a1,a2⟩:=ha;obtain⟨b1,b2⟩:=hb;clear h;rcases hf with hf|hf
 ·have q1:a<0:=by omega
  have q2:¬b<0:=by omega
  have q3:¬wrap64 (a-b)<0:=by unfold wrap64;omega
  clear hf;go_enter Tryz.func100,Tryz.ntmps100;go_wp2;go_ret2;exact⟨rfl,rfl⟩
 ·have q1:¬a<0:=by omega
  have q2:b<0:=by omega
  have q3:wrap64 (a-b)<0:=by unfold wrap64;omega
  clear hf;go_enter Tryz.func100,Tryz.ntmps100;go_wp2;go_ret2;exact⟨rfl,rfl⟩
theorem Ge(op a b:Int)(w:World)(h1:op≠17)(h2:op≠18)(h3:op≠19):
 Calls Tryz.prog 100 #[.int .i64 op,.int .i64 a,.int .i64 b] w λe w'=>e = .returned (.tuple #[.int .i64 0,zM 1])/\w=w':=by
 have q1:=beq_eq_false_iff_ne.2 h1;have q2:=beq_eq_false_iff_ne.2 h2;have q3:=beq_eq_false_iff_ne.2 h3;clear h1 h2 h3;go_enter Tryz.func100,Tryz.ntmps100;go_wp2;go_ret2;exact⟨rfl,rfl⟩
theorem rJ(a b:Int)(w:World)(a1 : -9223372036854775808<=a)(a2:a<=9223372036854775807)(b1 : -9223372036854775808<=b)(b2:b<=9223372036854775807)(hi lo:Nat)
 (M:Hid (∀w,Calls Tryz.prog 131 #[.int .u64 (a.natAbs:Int),.int .u64 (b.natAbs:Int)] w λe w'=>e = .returned (.tuple #[.int .u64 (hi:Int),.int .u64 (lo:Int)])/\w=w'))
 (q1:¬a<0) (q2:¬b<0) (p1:0<(hi:Int)):
 Calls Tryz.prog 100 #[.int .i64 19,.int .i64 a,.int .i64 b] w λe w'=>e = .returned (.tuple #[.int .i64 0,zM 5])/\w=w':=by
 have S1:=O (λw=>je a w a1 a2);have S2:=O (λw=>je b w b1 b2);have hs:(!decide (a<0)==decide (b<0))=false:=by simp [q1,q2]
 clear a1 a2 b1 b2;go_enter Tryz.func100,Tryz.ntmps100;go_wp2_with fail;refine(S1.o _).mono ?_;rintro e w1 ⟨rfl,rfl⟩;go_wp2_with fail;refine(S2.o _).mono ?_;rintro e w1 ⟨rfl,rfl⟩;generalize hx:(a.natAbs:Int)=x at *;generalize hy:(b.natAbs:Int)=y at *;clear hx hy S1 S2;go_wp2_with fail;refine(M.o _).mono ?_;rintro e w1 ⟨rfl,rfl⟩;clear M;go_wp2;go_ret2;exact⟨rfl,rfl⟩
theorem qt(a b:Int)(w:World)(a1 : -9223372036854775808<=a)(a2:a<=9223372036854775807)(b1 : -9223372036854775808<=b)(b2:b<=9223372036854775807)(hi lo:Nat)
 (M:Hid (∀w,Calls Tryz.prog 131 #[.int .u64 (a.natAbs:Int),.int .u64 (b.natAbs:Int)] w λe w'=>e = .returned (.tuple #[.int .u64 (hi:Int),.int .u64 (lo:Int)])/\w=w'))
 (q1:¬a<0) (q2:¬b<0) (p1:¬0<(hi:Int)) (p2:(9223372036854775807:Int)<(lo:Int)):
 Calls Tryz.prog 100 #[.int .i64 19,.int .i64 a,.int .i64 b] w λe w'=>e = .returned (.tuple #[.int .i64 0,zM 5])/\w=w':=by
 have S1:=O (λw=>je a w a1 a2);have S2:=O (λw=>je b w b1 b2);have hs:(!decide (a<0)==decide (b<0))=false:=by simp [q1,q2]
 clear a1 a2 b1 b2;go_enter Tryz.func100,Tryz.ntmps100;go_wp2_with fail;refine(S1.o _).mono ?_;rintro e w1 ⟨rfl,rfl⟩;go_wp2_with fail;refine(S2.o _).mono ?_;rintro e w1 ⟨rfl,rfl⟩;generalize hx:(a.natAbs:Int)=x at *;generalize hy:(b.natAbs:Int)=y at *;clear hx hy S1 S2;go_wp2_with fail;refine(M.o _).mono ?_;rintro e w1 ⟨rfl,rfl⟩;clear M;go_wp2;go_ret2;exact⟨rfl,rfl⟩
theorem pu(a b:Int)(w:World)(a1 : -9223372036854775808<=a)(a2:a<=9223372036854775807)(b1 : -9223372036854775808<=b)(b2:b<=9223372036854775807)(hi lo:Nat)
 (M:Hid (∀w,Calls Tryz.prog 131 #[.int .u64 (a.natAbs:Int),.int .u64 (b.natAbs:Int)] w λe w'=>e = .returned (.tuple #[.int .u64 (hi:Int),.int .u64 (lo:Int)])/\w=w'))
 (q1:¬a<0) (q2:¬b<0) (p1:¬0<(hi:Int)) (p2:¬(9223372036854775807:Int)<(lo:Int)):
 Calls Tryz.prog 100 #[.int .i64 19,.int .i64 a,.int .i64 b] w λe w'=>e = .returned (.tuple #[.int .i64 (wrap64 (a*b)),.nilIface])/\w=w':=by
 have S1:=O (λw=>je a w a1 a2);have S2:=O (λw=>je b w b1 b2);have hs:(!decide (a<0)==decide (b<0))=false:=by simp [q1,q2]
 clear a1 a2 b1 b2;go_enter Tryz.func100,Tryz.ntmps100;go_wp2_with fail;refine(S1.o _).mono ?_;rintro e w1 ⟨rfl,rfl⟩;go_wp2_with fail;refine(S2.o _).mono ?_;rintro e w1 ⟨rfl,rfl⟩;generalize hx:(a.natAbs:Int)=x at *;generalize hy:(b.natAbs:Int)=y at *;clear hx hy S1 S2;go_wp2_with fail;refine(M.o _).mono ?_;rintro e w1 ⟨rfl,rfl⟩;clear M;go_wp2;go_ret2;exact⟨rfl,rfl⟩
theorem qu(a b:Int)(w:World)(a1 : -9223372036854775808<=a)(a2:a<=9223372036854775807)(b1 : -9223372036854775808<=b)(b2:b<=9223372036854775807)(hi lo:Nat)
 (M:Hid (∀w,Calls Tryz.prog 131 #[.int .u64 (a.natAbs:Int),.int .u64 (b.natAbs:Int)] w λe w'=>e = .returned (.tuple #[.int .u64 (hi:Int),.int .u64 (lo:Int)])/\w=w'))
 (q1:a<0) (q2:b<0) (p1:0<(hi:Int)):
 Calls Tryz.prog 100 #[.int .i64 19,.int .i64 a,.int .i64 b] w λe w'=>e = .returned (.tuple #[.int .i64 0,zM 5])/\w=w':=by
 have S1:=O (λw=>je a w a1 a2);have S2:=O (λw=>je b w b1 b2);have hs:(!decide (a<0)==decide (b<0))=false:=by simp [q1,q2]
 clear a1 a2 b1 b2;go_enter Tryz.func100,Tryz.ntmps100;go_wp2_with fail;refine(S1.o _).mono ?_;rintro e w1 ⟨rfl,rfl⟩;go_wp2_with fail;refine(S2.o _).mono ?_;rintro e w1 ⟨rfl,rfl⟩;generalize hx:(a.natAbs:Int)=x at *;generalize hy:(b.natAbs:Int)=y at *;clear hx hy S1 S2;go_wp2_with fail;refine(M.o _).mono ?_;rintro e w1 ⟨rfl,rfl⟩;clear M;go_wp2;go_ret2;exact⟨rfl,rfl⟩
theorem rm(a b:Int)(w:World)(a1 : -9223372036854775808<=a)(a2:a<=9223372036854775807)(b1 : -9223372036854775808<=b)(b2:b<=9223372036854775807)(hi lo:Nat)
 (M:Hid (∀w,Calls Tryz.prog 131 #[.int .u64 (a.natAbs:Int),.int .u64 (b.natAbs:Int)] w λe w'=>e = .returned (.tuple #[.int .u64 (hi:Int),.int .u64 (lo:Int)])/\w=w'))
 (q1:a<0) (q2:b<0) (p1:¬0<(hi:Int)) (p2:(9223372036854775807:Int)<(lo:Int)):
 Calls Tryz.prog 100 #[.int .i64 19,.int .i64 a,.int .i64 b] w λe w'=>e = .returned (.tuple #[.int .i64 0,zM 5])/\w=w':=by
 have S1:=O (λw=>je a w a1 a2);have S2:=O (λw=>je b w b1 b2);have hs:(!decide (a<0)==decide (b<0))=false:=by simp [q1,q2]
 clear a1 a2 b1 b2;go_enter Tryz.func100,Tryz.ntmps100;go_wp2_with fail;refine(S1.o _).mono ?_;rintro e w1 ⟨rfl,rfl⟩;go_wp2_with fail;refine(S2.o _).mono ?_;rintro e w1 ⟨rfl,rfl⟩;generalize hx:(a.natAbs:Int)=x at *;generalize hy:(b.natAbs:Int)=y at *;clear hx hy S1 S2;go_wp2_with fail;refine(M.o _).mono ?_;rintro e w1 ⟨rfl,rfl⟩;clear M;go_wp2;go_ret2;exact⟨rfl,rfl⟩
theorem oS(a b:Int)(w:World)(a1 : -9223372036854775808<=a)(a2:a<=9223372036854775807)(b1 : -9223372036854775808<=b)(b2:b<=9223372036854775807)(hi lo:Nat)
 (M:Hid (∀w,Calls Tryz.prog 131 #[.int .u64 (a.natAbs:Int),.int .u64 (b.natAbs:Int)] w λe w'=>e = .returned (.tuple #[.int .u64 (hi:Int),.int .u64 (lo:Int)])/\w=w'))
 (q1:a<0) (q2:b<0) (p1:¬0<(hi:Int)) (p2:¬(9223372036854775807:Int)<(lo:Int)):
 Calls Tryz.prog 100 #[.int .i64 19,.int .i64 a,.int .i64 b] w λe w'=>e = .returned (.tuple #[.int .i64 (wrap64 (a*b)),.nilIface])/\w=w':=by
 have S1:=O (λw=>je a w a1 a2);have S2:=O (λw=>je b w b1 b2);have hs:(!decide (a<0)==decide (b<0))=false:=by simp [q1,q2]
 clear a1 a2 b1 b2;go_enter Tryz.func100,Tryz.ntmps100;go_wp2_with fail;refine(S1.o _).mono ?_;rintro e w1 ⟨rfl,rfl⟩;go_wp2_with fail;refine(S2.o _).mono ?_;rintro e w1 ⟨rfl,rfl⟩;generalize hx:(a.natAbs:Int)=x at *;generalize hy:(b.natAbs:Int)=y at *;clear hx hy S1 S2;go_wp2_with fail;refine(M.o _).mono ?_;rintro e w1 ⟨rfl,rfl⟩;clear M;go_wp2;go_ret2;exact⟨rfl,rfl⟩
theorem rQ(a b:Int)(w:World)(a1 : -9223372036854775808<=a)(a2:a<=9223372036854775807)(b1 : -9223372036854775808<=b)(b2:b<=9223372036854775807)(hi lo:Nat)
 (M:Hid (∀w,Calls Tryz.prog 131 #[.int .u64 (a.natAbs:Int),.int .u64 (b.natAbs:Int)] w λe w'=>e = .returned (.tuple #[.int .u64 (hi:Int),.int .u64 (lo:Int)])/\w=w'))
 (q1:a<0) (q2:¬b<0) (p1:0<(hi:Int)):
 Calls Tryz.prog 100 #[.int .i64 19,.int .i64 a,.int .i64 b] w λe w'=>e = .returned (.tuple #[.int .i64 0,zM 5])/\w=w':=by
 have S1:=O (λw=>je a w a1 a2);have S2:=O (λw=>je b w b1 b2);have hs:(!decide (a<0)==decide (b<0))=true:=by simp [q1,q2]
 have hs2:(!decide (b<0))=true:=by simp [q2]
 clear a1 a2 b1 b2;go_enter Tryz.func100,Tryz.ntmps100;go_wp2_with fail;refine(S1.o _).mono ?_;rintro e w1 ⟨rfl,rfl⟩;go_wp2_with fail;refine(S2.o _).mono ?_;rintro e w1 ⟨rfl,rfl⟩;generalize hx:(a.natAbs:Int)=x at *;generalize hy:(b.natAbs:Int)=y at *;clear hx hy S1 S2;go_wp2_with fail;refine(M.o _).mono ?_;rintro e w1 ⟨rfl,rfl⟩;clear M;go_wp2;go_ret2;exact⟨rfl,rfl⟩
theorem rH(a b:Int)(w:World)(a1 : -9223372036854775808<=a)(a2:a<=9223372036854775807)(b1 : -9223372036854775808<=b)(b2:b<=9223372036854775807)(hi lo:Nat)
 (M:Hid (∀w,Calls Tryz.prog 131 #[.int .u64 (a.natAbs:Int),.int .u64 (b.natAbs:Int)] w λe w'=>e = .returned (.tuple #[.int .u64 (hi:Int),.int .u64 (lo:Int)])/\w=w'))
 (q1:a<0) (q2:¬b<0) (p1:¬0<(hi:Int)) (p2:(9223372036854775808:Int)<(lo:Int)):
 Calls Tryz.prog 100 #[.int .i64 19,.int .i64 a,.int .i64 b] w λe w'=>e = .returned (.tuple #[.int .i64 0,zM 5])/\w=w':=by
 have S1:=O (λw=>je a w a1 a2);have S2:=O (λw=>je b w b1 b2);have hs:(!decide (a<0)==decide (b<0))=true:=by simp [q1,q2]
 have hs2:(!decide (b<0))=true:=by simp [q2]
 clear a1 a2 b1 b2;go_enter Tryz.func100,Tryz.ntmps100;go_wp2_with fail;refine(S1.o _).mono ?_;rintro e w1 ⟨rfl,rfl⟩;go_wp2_with fail;refine(S2.o _).mono ?_;rintro e w1 ⟨rfl,rfl⟩;generalize hx:(a.natAbs:Int)=x at *;generalize hy:(b.natAbs:Int)=y at *;clear hx hy S1 S2;go_wp2_with fail;refine(M.o _).mono ?_;rintro e w1 ⟨rfl,rfl⟩;clear M;go_wp2;go_ret2;exact⟨rfl,rfl⟩
theorem oP(a b:Int)(w:World)(a1 : -9223372036854775808<=a)(a2:a<=9223372036854775807)(b1 : -9223372036854775808<=b)(b2:b<=9223372036854775807)(hi lo:Nat)
 (M:Hid (∀w,Calls Tryz.prog 131 #[.int .u64 (a.natAbs:Int),.int .u64 (b.natAbs:Int)] w λe w'=>e = .returned (.tuple #[.int .u64 (hi:Int),.int .u64 (lo:Int)])/\w=w'))
 (q1:a<0) (q2:¬b<0) (p1:¬0<(hi:Int)) (p2:¬(9223372036854775808:Int)<(lo:Int)):
 Calls Tryz.prog 100 #[.int .i64 19,.int .i64 a,.int .i64 b] w λe w'=>e = .returned (.tuple #[.int .i64 (wrap64 (a*b)),.nilIface])/\w=w':=by
 have S1:=O (λw=>je a w a1 a2);have S2:=O (λw=>je b w b1 b2);have hs:(!decide (a<0)==decide (b<0))=true:=by simp [q1,q2]
 have hs2:(!decide (b<0))=true:=by simp [q2]
 clear a1 a2 b1 b2;go_enter Tryz.func100,Tryz.ntmps100;go_wp2_with fail;refine(S1.o _).mono ?_;rintro e w1 ⟨rfl,rfl⟩;go_wp2_with fail;refine(S2.o _).mono ?_;rintro e w1 ⟨rfl,rfl⟩;generalize hx:(a.natAbs:Int)=x at *;generalize hy:(b.natAbs:Int)=y at *;clear hx hy S1 S2;go_wp2_with fail;refine(M.o _).mono ?_;rintro e w1 ⟨rfl,rfl⟩;clear M;go_wp2;go_ret2;exact⟨rfl,rfl⟩
theorem qk(a b:Int)(w:World)(a1 : -9223372036854775808<=a)(a2:a<=9223372036854775807)(b1 : -9223372036854775808<=b)(b2:b<=9223372036854775807)(hi lo:Nat)
 (M:Hid (∀w,Calls Tryz.prog 131 #[.int .u64 (a.natAbs:Int),.int .u64 (b.natAbs:Int)] w λe w'=>e = .returned (.tuple #[.int .u64 (hi:Int),.int .u64 (lo:Int)])/\w=w'))
 (q1:¬a<0) (q2:b<0) (p1:0<(hi:Int)):
 Calls Tryz.prog 100 #[.int .i64 19,.int .i64 a,.int .i64 b] w λe w'=>e = .returned (.tuple #[.int .i64 0,zM 5])/\w=w':=by
 have S1:=O (λw=>je a w a1 a2);have S2:=O (λw=>je b w b1 b2);have hs:(!decide (a<0)==decide (b<0))=true:=by simp [q1,q2]
 have hs2:(!decide (a<0))=true:=by simp [q1]
 clear a1 a2 b1 b2;go_enter Tryz.func100,Tryz.ntmps100;go_wp2_with fail;refine(S1.o _).mono ?_;rintro e w1 ⟨rfl,rfl⟩;go_wp2_with fail;refine(S2.o _).mono ?_;rintro e w1 ⟨rfl,rfl⟩;generalize hx:(a.natAbs:Int)=x at *;generalize hy:(b.natAbs:Int)=y at *;clear hx hy S1 S2;go_wp2_with fail;refine(M.o _).mono ?_;rintro e w1 ⟨rfl,rfl⟩;clear M;go_wp2;go_ret2;exact⟨rfl,rfl⟩
theorem qm(a b:Int)(w:World)(a1 : -9223372036854775808<=a)(a2:a<=9223372036854775807)(b1 : -9223372036854775808<=b)(b2:b<=9223372036854775807)(hi lo:Nat)
 (M:Hid (∀w,Calls Tryz.prog 131 #[.int .u64 (a.natAbs:Int),.int .u64 (b.natAbs:Int)] w λe w'=>e = .returned (.tuple #[.int .u64 (hi:Int),.int .u64 (lo:Int)])/\w=w'))
 (q1:¬a<0) (q2:b<0) (p1:¬0<(hi:Int)) (p2:(9223372036854775808:Int)<(lo:Int)):
 Calls Tryz.prog 100 #[.int .i64 19,.int .i64 a,.int .i64 b] w λe w'=>e = .returned (.tuple #[.int .i64 0,zM 5])/\w=w':=by
 have S1:=O (λw=>je a w a1 a2);have S2:=O (λw=>je b w b1 b2);have hs:(!decide (a<0)==decide (b<0))=true:=by simp [q1,q2]
 have hs2:(!decide (a<0))=true:=by simp [q1]
 clear a1 a2 b1 b2;go_enter Tryz.func100,Tryz.ntmps100;go_wp2_with fail;refine(S1.o _).mono ?_;rintro e w1 ⟨rfl,rfl⟩;go_wp2_with fail;refine(S2.o _).mono ?_;rintro e w1 ⟨rfl,rfl⟩;generalize hx:(a.natAbs:Int)=x at *;generalize hy:(b.natAbs:Int)=y at *;clear hx hy S1 S2;go_wp2_with fail;refine(M.o _).mono ?_;rintro e w1 ⟨rfl,rfl⟩;clear M;go_wp2;go_ret2;exact⟨rfl,rfl⟩
theorem ou(a b:Int)(w:World)(a1 : -9223372036854775808<=a)(a2:a<=9223372036854775807)(b1 : -9223372036854775808<=b)(b2:b<=9223372036854775807)(hi lo:Nat)
 (M:Hid (∀w,Calls Tryz.prog 131 #[.int .u64 (a.natAbs:Int),.int .u64 (b.natAbs:Int)] w λe w'=>e = .returned (.tuple #[.int .u64 (hi:Int),.int .u64 (lo:Int)])/\w=w'))
 (q1:¬a<0) (q2:b<0) (p1:¬0<(hi:Int)) (p2:¬(9223372036854775808:Int)<(lo:Int)):
 Calls Tryz.prog 100 #[.int .i64 19,.int .i64 a,.int .i64 b] w λe w'=>e = .returned (.tuple #[.int .i64 (wrap64 (a*b)),.nilIface])/\w=w':=by
 have S1:=O (λw=>je a w a1 a2);have S2:=O (λw=>je b w b1 b2);have hs:(!decide (a<0)==decide (b<0))=true:=by simp [q1,q2]
 have hs2:(!decide (a<0))=true:=by simp [q1]
 clear a1 a2 b1 b2;go_enter Tryz.func100,Tryz.ntmps100;go_wp2_with fail;refine(S1.o _).mono ?_;rintro e w1 ⟨rfl,rfl⟩;go_wp2_with fail;refine(S2.o _).mono ?_;rintro e w1 ⟨rfl,rfl⟩;generalize hx:(a.natAbs:Int)=x at *;generalize hy:(b.natAbs:Int)=y at *;clear hx hy S1 S2;go_wp2_with fail;refine(M.o _).mono ?_;rintro e w1 ⟨rfl,rfl⟩;clear M;go_wp2;go_ret2;exact⟨rfl,rfl⟩
theorem H7(a b:Int)(w:World)(ha:I64 a)(hb:I64 b):
 Calls Tryz.prog 100 #[.int .i64 19,.int .i64 a,.int .i64 b] w λe w'=>e = .returned (.tuple #[.int .i64 (if cq (a*b) then a*b else 0),zM (if cq (a*b) then 0 else 5)])/\w=w':=by
 obtain⟨a1,a2⟩:=ha;obtain⟨b1,b2⟩:=hb;have M:Hid (∀w,_):=O (λw=>bits_Mul64 a.natAbs b.natAbs w (by omega) (by omega));have T0:=λd hd=>BQ (a:=a) (b:=b) d hd;have W:=λh:cq (a*b)=true=>xY h;generalize xF a.natAbs b.natAbs=hi at *;generalize wU a.natAbs b.natAbs=lo at *;by_cases q1:a<0
 ·by_cases q2:b<0
  ·skip;have T:=T0 0 (by rw [if_pos ⟨λ_=>q2,λ_=>q1⟩]);by_cases p1:0<(hi:Int)
   ·have hf:cq (a*b)=false:=by
     rw [Bool.eq_false_iff];intro q;have:=(T.1 q).1;omega
    rw [hf];exact qu a b w a1 a2 b1 b2 hi lo M q1 q2 p1
   ·by_cases p2:(9223372036854775807:Int)<(lo:Int)
    ·have hf:cq (a*b)=false:=by
      rw [Bool.eq_false_iff];intro q;have:=(T.1 q).2;omega
     rw [hf];exact rm a b w a1 a2 b1 b2 hi lo M q1 q2 p1 p2
    ·have hf:cq (a*b)=true:=T.2 ⟨by omega,by omega⟩;have h:=oS a b w a1 a2 b1 b2 hi lo M q1 q2 p1 p2;rw [W hf] at h;rw [hf];exact h
  ·skip;have T:=T0 1 (by rw [if_neg (λq=>q2 (q.1 q1))]);by_cases p1:0<(hi:Int)
   ·have hf:cq (a*b)=false:=by
     rw [Bool.eq_false_iff];intro q;have:=(T.1 q).1;omega
    rw [hf];exact rQ a b w a1 a2 b1 b2 hi lo M q1 q2 p1
   ·by_cases p2:(9223372036854775808:Int)<(lo:Int)
    ·have hf:cq (a*b)=false:=by
      rw [Bool.eq_false_iff];intro q;have:=(T.1 q).2;omega
     rw [hf];exact rH a b w a1 a2 b1 b2 hi lo M q1 q2 p1 p2
    ·have hf:cq (a*b)=true:=T.2 ⟨by omega,by omega⟩;have h:=oP a b w a1 a2 b1 b2 hi lo M q1 q2 p1 p2;rw [W hf] at h;rw [hf];exact h
 ·by_cases q2:b<0
  ·skip;have T:=T0 1 (by rw [if_neg (λq=>q1 (q.2 q2))]);by_cases p1:0<(hi:Int)
   ·have hf:cq (a*b)=false:=by
     rw [Bool.eq_false_iff];intro q;have:=(T.1 q).1;omega
    rw [hf];exact qk a b w a1 a2 b1 b2 hi lo M q1 q2 p1
   ·by_cases p2:(9223372036854775808:Int)<(lo:Int)
    ·have hf:cq (a*b)=false:=by
      rw [Bool.eq_false_iff];intro q;have:=(T.1 q).2;omega
     rw [hf];exact qm a b w a1 a2 b1 b2 hi lo M q1 q2 p1 p2
    ·have hf:cq (a*b)=true:=T.2 ⟨by omega,by omega⟩;have h:=ou a b w a1 a2 b1 b2 hi lo M q1 q2 p1 p2;rw [W hf] at h;rw [hf];exact h
  ·skip;have T:=T0 0 (by rw [if_pos ⟨λq=>absurd q q1,λq=>absurd q q2⟩]);by_cases p1:0<(hi:Int)
   ·have hf:cq (a*b)=false:=by
     rw [Bool.eq_false_iff];intro q;have:=(T.1 q).1;omega
    rw [hf];exact rJ a b w a1 a2 b1 b2 hi lo M q1 q2 p1
   ·by_cases p2:(9223372036854775807:Int)<(lo:Int)
    ·have hf:cq (a*b)=false:=by
      rw [Bool.eq_false_iff];intro q;have:=(T.1 q).2;omega
     rw [hf];exact qt a b w a1 a2 b1 b2 hi lo M q1 q2 p1 p2
    ·have hf:cq (a*b)=true:=T.2 ⟨by omega,by omega⟩;have h:=pu a b w a1 a2 b1 b2 hi lo M q1 q2 p1 p2;rw [W hf] at h;rw [hf];exact h
theorem Cy(op a b:Int)(w:World)(ha:I64 a)(hb:I64 b):
 Calls Tryz.prog 100 #[.int .i64 op,.int .i64 a,.int .i64 b] w λe w'=>e = .returned (.tuple #[.int .i64 (dr op a b),zM (db op a b)])/\w=w':=by
 by_cases h1:op=17
 ·subst h1;rcases hf:cq (a+b) with _|_
  ·have:=uy a b w ha hb hf;simpa [dr,db,um,hf] using this
  ·have:=vL a b w ha hb hf;simpa [dr,db,um,hf,zf] using this
 ·by_cases h2:op=18
  ·subst h2;rcases hf:cq (a-b) with _|_
   ·have:=rZ a b w ha hb hf;simpa [dr,db,um,hf] using this
   ·have:=vd a b w ha hb hf;simpa [dr,db,um,hf,zf] using this
  ·by_cases h3:op=19
   ·subst h3;have:=H7 a b w ha hb;simpa [dr,db,um] using this
   ·have:=Ge op a b w h1 h2 h3;simpa [dr,db,h1,h2,h3] using this
theorem FP(a:Int)(w:World)(ha:I64 a):
 Calls Tryz.prog 89 #[.int .i64 a] w λe w'=>e = .returned (.tuple #[.int .i64 (dr 18 0 a),zM (db 18 0 a)])/\w=w':=by
 have C:=O (λw=>Cy 18 0 a w (by unfold I64;omega) ha);go_enter Tryz.func89,Tryz.ntmps89;go_wp2_with fail;refine(C.o _).mono ?_;rintro e w1 ⟨rfl,rfl⟩;go_wp2;go_ret2;exact⟨rfl,rfl⟩
end Go.Proofs.YthidiimbeaabhaaGreatDoor
namespace Go.Proofs.YthidiimbeaabhaaGreatDoor
open Go.RowKit Go.Wk Go.Sort
theorem iJ(w:World)(x:Nd)(t:TypeId):Nd4 (w.alloc (.cells #[.int .i64 x.op,.int .i64 x.n,.string x.s,.string x.t] t)) ⟨w.heap.size,0,none⟩ x:=⟨zr (heap_alloc_last w _) rfl,zr (heap_alloc_last w _) rfl,zr (heap_alloc_last w _) rfl,zr (heap_alloc_last w _) rfl⟩
theorem vr{w:World}{R:Nat}{k:Cx}(h:bJ w R k)(x:Nd)(hx:x.op=9)(A:Option Addr)(n c:Nat)(V:List Nd)(hv:Ns w A n c V)(h0:0<V.length):
 Calls Tryz.prog 63 #[.pointer (some ⟨R,0,none⟩),ndV x,.slice A n c] w (zT w (bK k.E x V)):=by
 have KM:=O (λw' hb=>zB A n c V 1 w' (hv.keep (w':=w') hb) h0);have B0:=O (za w (.cells #[.int .i64 9,.int .i64 x.n,.string x.s,.string x.t] 47));obtain⟨a,rfl,hn1,D,dY,-⟩:=jY hv h0;have hn:(0:Int)<(n:Int):=by omega
 have HD:=O D;have rU:=O h.door;unfold ndV;by_cases g:zg V=1
 ·have HR:=O (show bK k.E x V = .ok (zw (decide ((hdN V).n=0))) by unfold bK;rw [if_pos hx,if_pos g]);simp only [if_pos g] at KM;rw [HR.o,hx];generalize hdN V=y at *;clear hv h0 D g hx h;go_enter Tryz.func63,Tryz.ntmps63;go_wp2_with fail;refine(KM.o _ B0.o).mono ?_;rintro e w1 ⟨rfl,b1⟩;have B1:=bh B0 b1;obtain⟨-,d1,-,-⟩:=HD.o.keep B1.o;clear b1 B0 KM;go_wp2_with fail;refine(jp (y.n==0) w1).mono ?_;rintro e w2 hp;have HP:=O (hp.up B1.o);obtain⟨-,A2,n2,c2,rfl,-,-⟩:=hp;go_wp2_with fail;go_ret;exact HP.o
 ·have HR:=O (show bK k.E x V = .error 2 by unfold bK;rw [if_pos hx];rw [if_neg g]);simp only [if_neg g] at KM;rw [HR.o,hx];clear hv h0 D g hx h;go_enter Tryz.func63,Tryz.ntmps63;go_wp2_with fail;refine(KM.o _ B0.o).mono ?_;rintro e w1 ⟨rfl,b1⟩;have B1:=bh B0 b1;clear b1 B0 KM;go_wp2_with fail;exact⟨rfl,js B1.o⟩
theorem vE{w:World}{R:Nat}{k:Cx}(h:bJ w R k)(x:Nd)(hx:x.op=10)(A:Option Addr)(n c:Nat)(V:List Nd)(hv:Ns w A n c V)(h0:0<V.length):
 Calls Tryz.prog 63 #[.pointer (some ⟨R,0,none⟩),ndV x,.slice A n c] w (zT w (bK k.E x V)):=by
 have KM:=O (λw' hb=>zB A n c V 2 w' (hv.keep (w':=w') hb) h0);have B0:=O (za w (.cells #[.int .i64 10,.int .i64 x.n,.string x.s,.string x.t] 47));obtain⟨a,rfl,hn1,D,dY,-⟩:=jY hv h0;have hn:(0:Int)<(n:Int):=by omega
 have HD:=O D;have rU:=O h.door;unfold ndV;by_cases g:zg V=2
 ·have HR:=O (show bK k.E x V=jo (db 18 0 (hdN V).n) (lQ (dr 18 0 (hdN V).n)) by unfold bK;rw [if_neg (by omega),if_pos hx,if_pos g]);simp only [if_pos g] at KM;rw [HR.o,hx];generalize hdN V=y at *;have HI:Hid (I64 y.n):=O ⟨dY.lo,dY.hi⟩;have KN:=O (λw=>FP y.n w HI.o);have Me:=O (sX 18 0 y.n);clear hv h0 D g hx h dY;by_cases z:db 18 0 y.n=0
  ·have KT:=O (λw' (hb:Below w.heap.size w w')=>lr (.int .i64 (dr 18 0 y.n)) w');have HT:=O (show jo (db 18 0 y.n) (lQ (dr 18 0 y.n))= .ok (lQ (dr 18 0 y.n)) by unfold jo;rw [if_pos z]);rw [HT.o];rw [z,zf] at KN;generalize dr 18 0 y.n=r at *;go_enter Tryz.func63,Tryz.ntmps63;go_wp2_with fail;refine(KM.o _ B0.o).mono ?_;rintro e w1 ⟨rfl,b1⟩;have B1:=bh B0 b1;obtain⟨-,d1,-,-⟩:=HD.o.keep B1.o;clear b1 B0 KM;go_wp2_with fail;refine(KN.o _).mono ?_;rintro e w2 ⟨rfl,rfl⟩;go_wp2_with fail;refine(KT.o _ B1.o).mono ?_;rintro e w2 ⟨rfl,b2⟩;have B2:=bh B1 b2;clear b2 B1 KT;go_wp2_with fail;go_ret;exact(iY w2 ⟨2,r,emp,emp⟩ (nP _ _ Me.o)).up B2.o
  ·have KT:=O (λw' (hb:Below w.heap.size w w')=>lk (.int .i64 (dr 18 0 y.n)) (db 18 0 y.n) w' (rU.o.keep hb));have HT:=O (show jo (db 18 0 y.n) (lQ (dr 18 0 y.n))= .error (db 18 0 y.n) by unfold jo;rw [if_neg z]);rw [HT.o];rw [zl z] at KN;generalize dr 18 0 y.n=r at *;generalize db 18 0 y.n=u at *;go_enter Tryz.func63,Tryz.ntmps63;go_wp2_with fail;refine(KM.o _ B0.o).mono ?_;rintro e w1 ⟨rfl,b1⟩;have B1:=bh B0 b1;obtain⟨-,d1,-,-⟩:=HD.o.keep B1.o;clear b1 B0 KM;go_wp2_with fail;refine(KN.o _).mono ?_;rintro e w2 ⟨rfl,rfl⟩;go_wp2_with fail;refine(KT.o _ B1.o).mono ?_;rintro e w2 ⟨rfl,b2⟩;have B2:=bh B1 b2;clear b2 B1 KT;go_wp2_with fail;exact⟨rfl,js B2.o⟩
 ·have HR:=O (show bK k.E x V = .error 2 by unfold bK;rw [if_neg (by omega),if_pos hx];rw [if_neg g]);simp only [if_neg g] at KM;rw [HR.o,hx];clear hv h0 D g hx h;go_enter Tryz.func63,Tryz.ntmps63;go_wp2_with fail;refine(KM.o _ B0.o).mono ?_;rintro e w1 ⟨rfl,b1⟩;have B1:=bh B0 b1;clear b1 B0 KM;go_wp2_with fail;exact⟨rfl,js B1.o⟩
theorem uR{w:World}{R:Nat}{k:Cx}(h:bJ w R k)(x:Nd)(hx:x.op=21)(A:Option Addr)(n c:Nat)(V:List Nd)(hv:Ns w A n c V)(h0:0<V.length):
 Calls Tryz.prog 63 #[.pointer (some ⟨R,0,none⟩),ndV x,.slice A n c] w (zT w (bK k.E x V)):=by
 have B0:=O (za w (.cells #[.int .i64 21,.int .i64 x.n,.string x.s,.string x.t] 47));have X0:=O (iJ w ⟨21,x.n,x.s,x.t⟩ 47);have KR:=O (λw' hb=>lv (h.keep (w':=w') hb) A n c V (hv.keep hb) h0);have rU:=O h.door;have Ee:=λ(a:Addr) (n c:Nat) (w:World)=>Lib.run_eql_slice_nil (P:=Tryz.prog) w 85 47 (some a) n c 0 0 Tryz.underlying85;have Ek:=λ(w:World)=>Lib.run_eql_slice_nil (P:=Tryz.prog) w 85 47 none 0 0 0 0 Tryz.underlying85;simp only [Option.isNone_some,Option.isNone_none] at Ee Ek;have HX:=O (show bK k.E x V=(match dy k.E V with
  | .error e => .error e
  | .ok none => .ok (zw false)
  | .ok (some r)=> .ok (zw (decide (fD r x.s=0)))) by unfold bK;rw [if_neg (by omega),if_neg (by omega),if_neg (by omega),if_neg (by omega)];rcases dy k.E V with e|(_|r)<;> simp [hx])
 rw [HX.o];unfold ndV;rw [hx];rcases hrx:dy k.E V with u|(_|r)
 ·simp only [hrx] at KR;clear hrx;simp only;clear hv h0 hx h HX;go_enter Tryz.func63,Tryz.ntmps63;go_wp2_with fail;refine(KR.o _ B0.o).mono ?_;rintro e w1 ⟨b1,rfl⟩;have B1:=bh B0 b1;clear b1 B0 KR;go_wp2_with fail;exact⟨rfl,js B1.o⟩
 ·simp only [hrx] at KR;clear hrx;simp only;clear hv h0 hx h HX;go_enter Tryz.func63,Tryz.ntmps63;go_wp2_with fail;refine(KR.o _ B0.o).mono ?_;rintro e w1 ⟨b1,rfl⟩;have B1:=bh B0 b1;obtain⟨x0,-,x2,-⟩:=X0.o.keep b1;clear b1 B0 KR X0;go_wp2_with fail;refine(jp false w1).mono ?_;rintro e w2 hp;have HP:=O (hp.up B1.o);obtain⟨-,A2,n2,c2,rfl,-,-⟩:=hp;go_wp2_with fail;go_ret;exact HP.o
 ·simp only [hrx] at KR;clear hrx;simp only;clear hv h0 hx h HX;by_cases z:fD r x.s=0
  ·go_enter Tryz.func63,Tryz.ntmps63;go_wp2_with fail;refine(KR.o _ B0.o).mono ?_;rintro e w1 ⟨b1,a1,n1,c1,rfl,hN⟩;have B1:=bh B0 b1;obtain⟨x0,-,x2,-⟩:=X0.o.keep b1;have G:=O (ml (some a1) n1 c1 r x.s w1 hN);unfold iP at G;rw [z,zf] at G;clear b1 B0 KR hN X0;go_wp2_with fail;refine G.o.mono ?_;rintro e w2 ⟨A2,n2,c2,rfl,uL,hF2,b2⟩;have B2:=bh B1 b2;have AL:=O uL;have qj:=O (λa e=>Nat.le_trans B1.o.size (hF2 a e));clear b2 B1 G uL hF2;go_wp2_with fail;refine(jp true w2).mono ?_;rintro e w3 hp;have HP:=O (hp.up B2.o);obtain⟨-,A3,n3,c3,rfl,-,-⟩:=hp;go_wp2_with fail;go_ret;rw [decide_eq_true z];exact HP.o
  ·have j7:=O (zl z);go_enter Tryz.func63,Tryz.ntmps63;go_wp2_with fail;refine(KR.o _ B0.o).mono ?_;rintro e w1 ⟨b1,a1,n1,c1,rfl,hN⟩;have B1:=bh B0 b1;obtain⟨x0,-,x2,-⟩:=X0.o.keep b1;have G:=O (ml (some a1) n1 c1 r x.s w1 hN);unfold iP at G;rw [j7.o] at G;clear b1 B0 KR hN X0;go_wp2_with fail;refine G.o.mono ?_;rintro e w2 ⟨A2,n2,c2,rfl,-,-,b2⟩;have B2:=bh B1 b2;clear b2 B1 G;go_wp2_with fail;refine(jp false w2).mono ?_;rintro e w3 hp;have HP:=O (hp.up B2.o);obtain⟨-,A3,n3,c3,rfl,-,-⟩:=hp;go_wp2_with fail;go_ret;rw [decide_eq_false z];exact HP.o
theorem wB{w:World}{R:Nat}{k:Cx}(h:bJ w R k)(x:Nd)(hx:x.op=22)(A:Option Addr)(n c:Nat)(V:List Nd)(hv:Ns w A n c V)(h0:0<V.length):
 Calls Tryz.prog 63 #[.pointer (some ⟨R,0,none⟩),ndV x,.slice A n c] w (zT w (bK k.E x V)):=by
 have B0:=O (za w (.cells #[.int .i64 22,.int .i64 x.n,.string x.s,.string x.t] 47));have X0:=O (iJ w ⟨22,x.n,x.s,x.t⟩ 47);have KR:=O (λw' hb=>lv (h.keep (w':=w') hb) A n c V (hv.keep hb) h0);have rU:=O h.door;have Ee:=λ(a:Addr) (n c:Nat) (w:World)=>Lib.run_eql_slice_nil (P:=Tryz.prog) w 85 47 (some a) n c 0 0 Tryz.underlying85;have Ek:=λ(w:World)=>Lib.run_eql_slice_nil (P:=Tryz.prog) w 85 47 none 0 0 0 0 Tryz.underlying85;simp only [Option.isNone_some,Option.isNone_none] at Ee Ek;have HX:=O (show bK k.E x V=(match dy k.E V with
  | .error e => .error e
  | .ok none => .error 8
  | .ok (some r)=>jo (fD r x.s) (kz r x.s)) by unfold bK;rw [if_neg (by omega),if_neg (by omega),if_neg (by omega),if_neg (by omega)];rcases dy k.E V with e|(_|r)<;> simp [hx])
 rw [HX.o];unfold ndV;rw [hx];rcases hrx:dy k.E V with u|(_|r)
 ·simp only [hrx] at KR;clear hrx;simp only;clear hv h0 hx h HX;go_enter Tryz.func63,Tryz.ntmps63;go_wp2_with fail;refine(KR.o _ B0.o).mono ?_;rintro e w1 ⟨b1,rfl⟩;have B1:=bh B0 b1;clear b1 B0 KR;go_wp2_with fail;exact⟨rfl,js B1.o⟩
 ·simp only [hrx] at KR;clear hrx;simp only;clear hv h0 hx h HX;go_enter Tryz.func63,Tryz.ntmps63;go_wp2_with fail;refine(KR.o _ B0.o).mono ?_;rintro e w1 ⟨b1,rfl⟩;have B1:=bh B0 b1;obtain⟨x0,-,x2,-⟩:=X0.o.keep b1;clear b1 B0 KR X0;go_wp2_with fail;exact⟨rfl,js B1.o⟩
 ·simp only [hrx] at KR;clear hrx;simp only;clear hv h0 hx h HX;by_cases z:fD r x.s=0
  ·go_enter Tryz.func63,Tryz.ntmps63;go_wp2_with fail;refine(KR.o _ B0.o).mono ?_;rintro e w1 ⟨b1,a1,n1,c1,rfl,hN⟩;have B1:=bh B0 b1;obtain⟨x0,-,x2,-⟩:=X0.o.keep b1;have G:=O (ml (some a1) n1 c1 r x.s w1 hN);unfold iP at G;rw [z,zf] at G;clear b1 B0 KR hN X0;go_wp2_with fail;refine G.o.mono ?_;rintro e w2 ⟨A2,n2,c2,rfl,uL,hF2,b2⟩;have B2:=bh B1 b2;have AL:=O uL;have qj:=O (λa e=>Nat.le_trans B1.o.size (hF2 a e));clear b2 B1 G uL hF2;go_wp2_with fail;refine(fE (.slice A2 n2 c2) w2).mono ?_;rintro e w3 ⟨rfl,b3⟩;have B3:=bh B2 b3;have G9:=O (AL.o.keep b3);clear b3 B2 AL;go_wp2_with fail;go_ret;unfold jo;rw [if_pos z];exact⟨B3.o,A2,n2,c2,rfl,G9.o,qj.o⟩
  ·have j7:=O (zl z);go_enter Tryz.func63,Tryz.ntmps63;go_wp2_with fail;refine(KR.o _ B0.o).mono ?_;rintro e w1 ⟨b1,a1,n1,c1,rfl,hN⟩;have B1:=bh B0 b1;obtain⟨x0,-,x2,-⟩:=X0.o.keep b1;have G:=O (ml (some a1) n1 c1 r x.s w1 hN);unfold iP at G;rw [j7.o] at G;clear b1 B0 KR hN X0;go_wp2_with fail;refine G.o.mono ?_;rintro e w2 ⟨A2,n2,c2,rfl,-,-,b2⟩;have B2:=bh B1 b2;clear b2 B1 G;go_wp2_with fail;refine(fS (.slice A2 n2 c2) _ w2 (rU.o.keep B2.o)).mono ?_;rintro e w3 ⟨rfl,b3⟩;have B3:=bh B2 b3;clear b3 B2;go_wp2_with fail;unfold jo;rw [if_neg z];exact⟨rfl,js B3.o⟩
theorem yO{w:World}{R:Nat}{k:Cx}(_h:bJ w R k)(x:Nd)(hx:x.op=24)(A:Option Addr)(n c:Nat)(V:List Nd)(hv:Ns w A n c V)(h0:0<V.length):
 Calls Tryz.prog 63 #[.pointer (some ⟨R,0,none⟩),ndV x,.slice A n c] w (zT w (bK k.E x V)):=by
 have Gv:=O (show bK k.E x V=if zg V=4 then .ok (zw (decide ((hdN V).s=x.s))) else .error 2 by unfold bK;rw [if_neg (by omega),if_neg (by omega),if_neg (by omega),if_pos hx]);have B0:=O (za w (.cells #[.int .i64 24,.int .i64 x.n,.string x.s,.string x.t] 47));have X0:=O (iJ w ⟨24,x.n,x.s,x.t⟩ 47);obtain⟨a,rfl,hn1,D,dY,-⟩:=jY hv h0;have hn:(0:Int)<(n:Int):=by omega
 have hn0:0<n:=hn1;have HD:=O D;rw [Gv.o];unfold ndV;rw [hx];obtain⟨w0,hw0⟩:∃w0,w.alloc (.cells #[.int .i64 24,.int .i64 x.n,.string x.s,.string x.t] 47)=w0:=⟨_,rfl⟩
 rw [hw0] at B0 X0;obtain⟨x0,x1,x2,x3⟩:=X0.o;have k0:=cell_regrown x2;by_cases g:zg V=4
 ·rw [if_pos g];have KM:=O (λw' hb=>by have:=zB (some a) n c V 4 w' (hv.keep (B0.o.trans (Below.mono (w':=w') hb B0.o.size))) h0;rwa [if_pos g] at this);have y2:=(HD.o.keep B0.o).c2;generalize hdN V=y at *;clear hv h0 D g hx dY Gv;by_cases z:y.s=x.s
  ·have f1:(y.s.toList==x.s.toList)=true:=by rw [z];exact beq_self_eq_true _
   rw [decide_eq_true z];clear z;go_enter Tryz.func63,Tryz.ntmps63;go_wp2_with fail;go_region_held3 (λw':World=>w'.cell? ⟨w.heap.size,2,none⟩=some (.string x.s)/\w'.cell? ⟨a.block,a.off+2,none⟩=some (.string y.s)) (first|exact⟨x2,y2⟩|exact⟨s0,s1⟩|exact⟨t0,t1⟩) (first
    |(go_at_call 84;refine(KM.o _ (zo w0)).mono ?_;rintro e w1 ⟨rfl,b1⟩;have s0:=zb b1 x2;have s1:=zb b1 y2;have B1:=O (B0.o.trans (((zo w0).trans b1).mono B0.o.size)))
    |(go_at_call 87;refine(jp _ _).mono ?_;rintro e w2 hp;have HP:=O (hp.up B1.o);obtain⟨b2,A2,n2,c2,rfl,-,-⟩:=hp;have t0:=zb b2 s0;have t1:=zb b2 s1))
   go_wp2_with fail;go_ret;exact HP.o
  ·have f1:(y.s.toList==x.s.toList)=false:=beq_eq_false_iff_ne.2 λq=>z (toList_inj q);rw [decide_eq_false z];clear z;go_enter Tryz.func63,Tryz.ntmps63;go_wp2_with fail;go_region_held3 (λw':World=>w'.cell? ⟨w.heap.size,2,none⟩=some (.string x.s)/\w'.cell? ⟨a.block,a.off+2,none⟩=some (.string y.s)) (first|exact⟨x2,y2⟩|exact⟨s0,s1⟩|exact⟨t0,t1⟩) (first
    |(go_at_call 84;refine(KM.o _ (zo w0)).mono ?_;rintro e w1 ⟨rfl,b1⟩;have s0:=zb b1 x2;have s1:=zb b1 y2;have B1:=O (B0.o.trans (((zo w0).trans b1).mono B0.o.size)))
    |(go_at_call 87;refine(jp _ _).mono ?_;rintro e w2 hp;have HP:=O (hp.up B1.o);obtain⟨b2,A2,n2,c2,rfl,-,-⟩:=hp;have t0:=zb b2 s0;have t1:=zb b2 s1))
   go_wp2_with fail;go_ret;exact HP.o
 ·rw [if_neg g];have KM:=O (λd os=>zB (some a) n c V 4 (grow (redrawn w0 d) os) (hv.keep (B0.o.trans ((below_regrown w0 d os).mono B0.o.size))) h0);simp only [if_neg g] at KM;clear hv h0 D g hx dY Gv;go_enter Tryz.func63,Tryz.ntmps63;go_wp2_with fail;refine aN (l := [_,_,_]) [0,5,6] [1] (by kernel_rfl) (by decide) (by kernel_rfl) rfl (λw'=>∃p:Regrown,w'=grow (redrawn w0 p.d) p.os) (λch w'=>ch=bz 2/\Below w.heap.size w w') ⟨⟨w0.drawn+1,#[]⟩,by rw [grow_empty];rfl⟩ ?_ ?_
  ·rintro a' ch w' hd ⟨rfl,hg⟩;exact⟨hd,js hg⟩
  ·repeat (first|go_big_quiet_step (fail)|quiet_step (fail))
   refine wpQuiet_nil ?_;refine⟨λo ho=>?_,trivial⟩;injection ho with ho;subst ho;refine⟨by go_simp,?_⟩;rintro w' ⟨⟨d',os⟩,rfl⟩;go_wp2_with fail;refine(KM.o d' os).mono ?_;rintro e w4 ⟨rfl,b4⟩;exact⟨rfl,B0.o.trans (((below_regrown w0 d' os).trans (b4.mono (below_regrown w0 d' os).size)).mono B0.o.size)⟩
theorem sk{w:World}{R:Nat}{k:Cx}(h:bJ w R k)(x:Nd)(hx:x.op=23)(hs:x.s.size<=maxLen)(A:Option Addr)(n c:Nat)(V:List Nd)(hv:Ns w A n c V)(h0:0<V.length):
 Calls Tryz.prog 63 #[.pointer (some ⟨R,0,none⟩),ndV x,.slice A n c] w (zT w (bK k.E x V)):=by
 have Gv:=O (show bK k.E x V=if zg V=3 then ao (eC x.s (hdN V).s) (gZ x.s (hdN V).s) else .error 2 by unfold bK;rw [if_neg (by omega),if_neg (by omega),if_pos hx]);have B0:=O (za w (.cells #[.int .i64 23,.int .i64 x.n,.string x.s,.string x.t] 47));have X0:=O (iJ w ⟨23,x.n,x.s,x.t⟩ 47);obtain⟨a,rfl,hn1,D,dY,-⟩:=jY hv h0;have hn:(0:Int)<(n:Int):=by omega
 have hn0:0<n:=hn1;have HD:=O D;have rU:=O h.door;have KL:=O (λw=>My x.s (hdN V).s w hs dY.s);rw [Gv.o];unfold ndV;rw [hx];obtain⟨w0,hw0⟩:∃w0,w.alloc (.cells #[.int .i64 23,.int .i64 x.n,.string x.s,.string x.t] 47)=w0:=⟨_,rfl⟩
 rw [hw0] at B0 X0;obtain⟨x0,x1,x2,x3⟩:=X0.o;have k0:=cell_regrown x2;by_cases g:zg V=3
 ·rw [if_pos g];have KM:=O (λw' hb=>by have:=zB (some a) n c V 3 w' (hv.keep (B0.o.trans (Below.mono (w':=w') hb B0.o.size))) h0;rwa [if_pos g] at this);have y2:=(HD.o.keep B0.o).c2;generalize hdN V=y at *;clear hv h0 D g hx dY Gv hs h;generalize gZ x.s y.s=b at *;by_cases z:eC x.s y.s=0
  ·have HT:=O (show ao (eC x.s y.s) b = .ok (zw b) by unfold ao;rw [if_pos z]);rw [HT.o];simp only [z,zf] at KL;clear z;go_enter Tryz.func63,Tryz.ntmps63;go_wp2_with fail;go_region_held3 (λw':World=>w'.cell? ⟨w.heap.size,2,none⟩=some (.string x.s)/\w'.cell? ⟨a.block,a.off+2,none⟩=some (.string y.s)) (first|exact⟨x2,y2⟩|exact⟨s0,s1⟩|exact⟨t0,t1⟩|exact⟨u0,u1⟩|exact⟨v0,v1⟩) (first
    |(go_at_call 84;refine(KM.o _ (zo w0)).mono ?_;rintro e w1 ⟨rfl,b1⟩;have s0:=zb b1 x2;have s1:=zb b1 y2;have B1:=O (B0.o.trans (((zo w0).trans b1).mono B0.o.size)))
    |(go_at_call 91;refine(KL.o _).mono ?_;rintro e w2 ⟨rfl,b2⟩;have t0:=zb b2 s0;have t1:=zb b2 s1;have B2:=bh B1 b2)
    |(go_at_call 90;refine(ck _ _).mono ?_;rintro e w3 ⟨rfl,b3⟩;have u0:=zb b3 t0;have u1:=zb b3 t1;have B3:=bh B2 b3)
    |(go_at_call 87;refine(jp _ _).mono ?_;rintro e w4 hp;have HP:=O (hp.up B3.o);obtain⟨b4,A2,n2,c2,rfl,-,-⟩:=hp;have v0:=zb b4 u0;have v1:=zb b4 u1))
   go_wp2_with fail;go_ret;exact HP.o
  ·have HT:=O (show ao (eC x.s y.s) b = .error (eC x.s y.s) by unfold ao;rw [if_neg z]);rw [HT.o];simp only [zl z] at KL;generalize eC x.s y.s=u at *;clear z;have R1:=rq (w:=w0) (λw' hb=>KM.o w' hb);have R3:=rq (w:=w0) (λw' _=>KL.o w');have k2:=cell_regrown y2;have KT:=O (λd' os=>df (.bool b) u (grow (redrawn w0 d') os) ((rU.o.keep B0.o).keep (below_regrown w0 d' os)));go_enter Tryz.func63,Tryz.ntmps63;go_wp2_with fail;refine aN (l := [_,_,_,_,_,_,_,_,_,_]) [0,1,2,3,4,5,6,7,8,9] [10] (by kernel_rfl) (by decide) (by kernel_rfl) rfl (λw'=>∃p:Regrown,w'=grow (redrawn w0 p.d) p.os) (λch w'=>ch=bz u/\Below w.heap.size w w') ⟨⟨w0.drawn+1,#[]⟩,by rw [grow_empty];rfl⟩ ?_ ?_
   ·rintro a' ch w' hd ⟨rfl,hg⟩;exact⟨hd,js hg⟩
   ·repeat (first|go_big_quiet_step (first|with_reducible exact R1 _ _|with_reducible exact R3 _ _)|quiet_step (first|with_reducible exact R1 _ _|with_reducible exact R3 _ _))
    refine wpQuiet_nil ?_;refine⟨λo ho=>?_,trivial⟩;injection ho with ho;subst ho;refine⟨by go_simp,?_⟩;rintro w' ⟨⟨d',os⟩,rfl⟩;go_wp2_with fail;refine(KT.o d' os).mono ?_;rintro e w4 ⟨rfl,b4⟩;exact⟨rfl,B0.o.trans (((below_regrown w0 d' os).trans (b4.mono (below_regrown w0 d' os).size)).mono B0.o.size)⟩
 ·rw [if_neg g];have KM:=O (λd os=>zB (some a) n c V 3 (grow (redrawn w0 d) os) (hv.keep (B0.o.trans ((below_regrown w0 d os).mono B0.o.size))) h0);simp only [if_neg g] at KM;clear hv h0 D g hx dY Gv hs h;go_enter Tryz.func63,Tryz.ntmps63;go_wp2_with fail;refine aN (l := [_,_,_]) [0,1,2] [3] (by kernel_rfl) (by decide) (by kernel_rfl) rfl (λw'=>∃p:Regrown,w'=grow (redrawn w0 p.d) p.os) (λch w'=>ch=bz 2/\Below w.heap.size w w') ⟨⟨w0.drawn+1,#[]⟩,by rw [grow_empty];rfl⟩ ?_ ?_
  ·rintro a' ch w' hd ⟨rfl,hg⟩;exact⟨hd,js hg⟩
  ·repeat (first|go_big_quiet_step (fail)|quiet_step (fail))
   refine wpQuiet_nil ?_;refine⟨λo ho=>?_,trivial⟩;injection ho with ho;subst ho;refine⟨by go_simp,?_⟩;rintro w' ⟨⟨d',os⟩,rfl⟩;go_wp2_with fail;refine(KM.o d' os).mono ?_;rintro e w4 ⟨rfl,b4⟩;exact⟨rfl,B0.o.trans (((below_regrown w0 d' os).trans (b4.mono (below_regrown w0 d' os).size)).mono B0.o.size)⟩
theorem ua(A B:Option Addr)(n m c d:Nat)(P Q:List Nd)(w:World)(hn:n=P.length)(hm:m=Q.length)(uJ:n<=maxLen)(wM:m<=maxLen)(hP:jk w A P)(hQ:jk w B Q):
 Calls Tryz.prog 95 #[.slice A n c,.slice B m d] w λe w'=>e = .returned (.bool (decide (zx P Q=0)))/\Below w.heap.size w w':=by
 unfold maxLen at uJ wM;have HN:=O hn;have HM:=O hm;have HP:=O hP;have HQ:=O hQ;clear hn hm hP hQ;by_cases hl:n=m
 ·subst hl;go_enter Tryz.func95,Tryz.ntmps95;go_wp2_with fail;go_loopw [5,13] (λ_ i wr=>∃k:Nat,k<=n/\i = .int .i64 k/\Hid (zx P Q=zx (P.drop k) (Q.drop k))/\Hid (Below w.heap.size w wr)) (λ_ i _=>n-(intOf i).toNat)
  case atStart=>exact⟨0,Nat.zero_le _,rfl,rfl,Below.refl _ _⟩
  case round =>
   obtain⟨k,hk,rfl,hE,hB⟩:=hrel;by_cases hlt:k<n
   ·have h1:k<P.length:=by rw [<-HN.o];exact hlt
    have h2:k<Q.length:=by rw [<-HM.o];exact hlt
    obtain⟨a,rfl,a1,a2,a3,a4⟩:=(HP.o.keep hB.o) k P[k] (List.getElem?_eq_getElem h1);obtain⟨b,rfl,b1,b2,b3,b4⟩:=(HQ.o.keep hB.o) k Q[k] (List.getElem?_eq_getElem h2);by_cases he:P[k]=Q[k]
    ·have HE:=O (hE.o.trans ((dl h1 h2).trans (by rw [mL he,zn])));rw [he] at a1 a2 a3 a4;generalize Q[k]=y at *;clear he hE;go_wp2_with fail;go_quiet (fail);go_wp2_with fail;go_roundw
     case rel=>exact⟨k+1,by omega,by go_num,HE,hB.o.drewN _⟩
     case measure=>simp [intOf];omega
    ·have HE:=O (dt h1 h2 he hE.o);have hne:=λw=>wF he w;generalize P[k]=x at *;generalize Q[k]=y at *;clear he hE;go_wp2_with fail;go_quiet (fail);go_wp2_with fail;go_ret;exact⟨zC (decide_eq_false HE.o).symm,hB.o.drewN _⟩
   ·have HE:=O (hE.o.trans (cP (by rw [<-HN.o];omega) (by rw [<-HM.o];omega)));clear hE;go_wp2_with fail;go_ret;exact⟨zC (decide_eq_true HE.o).symm,hB.o⟩
 ·have HE:=O (show zx P Q≠0 from λh=>hl (by rw [HN.o,HM.o,(zO.zero _ _).1 h]));have h3:(n != m)=true:=by rw [bne_iff_ne];exact hl
  clear hl;go_enter Tryz.func95,Tryz.ntmps95;go_wp2_with fail;go_ret;exact⟨zC (decide_eq_false HE.o).symm,Below.refl _ _⟩
theorem sB(a:Addr)(n c:Nat)(P:List Nd)(w:World)(h:Ns w (some a) n c P)(hl:P.length<=100000):
 Calls Tryz.prog 33 #[.slice (some a) n c] w (xx w P):=by
 obtain⟨i0,hi,hz0,hz1,hz2⟩:=info_parts kC;have hn:=h.len;have HC:=O (λw' hb=>(h.at_.keep (w':=w') hb).cells);have HO:=O h.ok;have HL:=O hl;clear h hl;subst hn;have hnil:=λw:World=>Lib.run_eql_slice_nil (P:=Tryz.prog) w 85 47 (some a) P.length c 0 0 Tryz.underlying85;simp only [Option.isNone_some] at hnil;go_enter Tryz.func33,Tryz.ntmps33;have hB:∀W:World,(W.alloc (.cells #[] 47)).ownsRow W.heap.size 47 4 (.slice (some ⟨W.heap.size,0,none⟩) 0 0) 0 []:=λW =>
  ⟨rfl,.inr ⟨_,0,#[],rfl,Nat.le_refl _,heap_alloc_new W _,Nat.le_refl _,by unfold maxLen;omega,rfl,rfl⟩⟩
 go_wp2_with (at_builtin;refine wpList_append_own _ rfl _ _ 85 rfl w.heap.size 47 i0 _ 4 48 Tryz.underlying85 hi hz0 hz1 hz2 rfl (by decide) _ 0 [] rfl (hB w) a P.length c (zH P) rfl (az P) (HC.o _ (za _ _)) (bR P) ?c1 ?c2 ?c3 ?_)
 case c1=>have:=HL.o;unfold maxLen;omega
 case c2=>have:=HL.o;omega
 case c3=>simp
 intro v1 w1 hown hgrow _;have HW:=O hown;have HG:=O hgrow;clear hown hgrow hnil;go_wp2_with fail;go_ret;obtain⟨A,c',rfl,h1,h2,h3⟩:=a6 HW.o;refine⟨A,c',rfl,⟨rfl,h1,by have:=HL.o;unfold maxLen;omega,h2,HO.o⟩,h3,?_⟩;exact(za w _).grown HG.o (by simp) (λk hk=>by simp [Value.ownBlock] at hk;omega)
theorem y6{w:World}{R:Nat}{k:Cx}(_h:bJ w R k)(A B:Option Addr)(n m c d:Nat)(P Q:List Nd)(hP:Ns w A n c P)(hQ:Ns w B m d Q):
 Calls Tryz.prog 64 #[.pointer (some ⟨R,0,none⟩),.int .i64 14,.slice A n c,.slice B m d] w (zT w (aT k.E 14 P Q)):=by
 have K:=O (ua A B n m c d P Q w hP.len hQ.len hP.max hQ.max hP.at_ hQ.at_);have HR:=O (show aT k.E 14 P Q = .ok (zw (decide (zx P Q=0))) by unfold aT;rw [if_pos rfl]);rw [HR.o];generalize decide (zx P Q=0)=b at *;clear hP hQ;go_enter Tryz.func64,Tryz.ntmps64;go_wp2_with fail;refine K.o.mono ?_;rintro e w1 ⟨rfl,b1⟩;have B1:=O b1;clear b1 K;go_wp2_with fail;refine(jp b w1).mono ?_;rintro e w2 hp;have HP:=O (hp.up B1.o);obtain⟨-,A2,n2,c2,rfl,-,-⟩:=hp;go_wp2_with fail;go_ret;exact HP.o
theorem vG{w:World}{R:Nat}{k:Cx}(h:bJ w R k)(A B:Option Addr)(n m c d:Nat)(P Q:List Nd)(hP:Ns w A n c P)(hQ:Ns w B m d Q):
 Calls Tryz.prog 64 #[.pointer (some ⟨R,0,none⟩),.int .i64 25,.slice A n c,.slice B m d] w (zT w (aT k.E 25 P Q)):=by
 have K:=O (Fv A B n m c d P Q w hP hQ);have rU:=O h.door;have HR:=O (show aT k.E 25 P Q=ao (kT P Q) (lJ P Q) by unfold aT;rw [if_neg (by decide),if_neg (by decide),if_pos rfl]);rw [HR.o];generalize lJ P Q=b at *;generalize kT P Q=u at *;clear h hP hQ;by_cases z:u=0
 ·subst z;rw [zf] at K;have HT:=O (show ao 0 b = .ok (zw b) by unfold ao;rw [if_pos rfl]);rw [HT.o];go_enter Tryz.func64,Tryz.ntmps64;go_wp2_with fail;refine K.o.mono ?_;rintro e w1 ⟨rfl,b1⟩;have B1:=O b1;clear b1 K;go_wp2_with fail;refine(ck (.bool b) w1).mono ?_;rintro e w2 ⟨rfl,b2⟩;have B2:=bh B1 b2;clear b2 B1;go_wp2_with fail;refine(jp b w2).mono ?_;rintro e w3 hp;have HP:=O (hp.up B2.o);obtain⟨-,A2,n2,c2,rfl,-,-⟩:=hp;go_wp2_with fail;go_ret;exact HP.o
 ·rw [zl z] at K;have HT:=O (show ao u b = .error u by unfold ao;rw [if_neg z]);rw [HT.o];clear z;go_enter Tryz.func64,Tryz.ntmps64;go_wp2_with fail;refine K.o.mono ?_;rintro e w1 ⟨rfl,b1⟩;have B1:=O b1;clear b1 K;go_wp2_with fail;refine(df (.bool b) u w1 (rU.o.keep B1.o)).mono ?_;rintro e w2 ⟨rfl,b2⟩;have B2:=bh B1 b2;clear b2 B1;go_wp2_with fail;exact⟨rfl,js B2.o⟩
theorem uZ{w:World}{R:Nat}{k:Cx}(h:bJ w R k)(A B:Option Addr)(n m c d:Nat)(P Q:List Nd)(hP:Ns w A n c P)(hQ:Ns w B m d Q):
 Calls Tryz.prog 64 #[.pointer (some ⟨R,0,none⟩),.int .i64 26,.slice A n c,.slice B m d] w (zT w (aT k.E 26 P Q)):=by
 have K:=O (EH A B n m c d P Q w hP hQ);have rU:=O h.door;have HR:=O (show aT k.E 26 P Q=ao (jQ P Q) (qx P Q) by unfold aT;rw [if_neg (by decide),if_neg (by decide),if_neg (by decide),if_pos rfl]);rw [HR.o];generalize qx P Q=b at *;generalize jQ P Q=u at *;clear h hP hQ;by_cases z:u=0
 ·subst z;rw [zf] at K;have HT:=O (show ao 0 b = .ok (zw b) by unfold ao;rw [if_pos rfl]);rw [HT.o];go_enter Tryz.func64,Tryz.ntmps64;go_wp2_with fail;refine K.o.mono ?_;rintro e w1 ⟨rfl,b1⟩;have B1:=O b1;clear b1 K;go_wp2_with fail;refine(ck (.bool b) w1).mono ?_;rintro e w2 ⟨rfl,b2⟩;have B2:=bh B1 b2;clear b2 B1;go_wp2_with fail;refine(jp b w2).mono ?_;rintro e w3 hp;have HP:=O (hp.up B2.o);obtain⟨-,A2,n2,c2,rfl,-,-⟩:=hp;go_wp2_with fail;go_ret;exact HP.o
 ·rw [zl z] at K;have HT:=O (show ao u b = .error u by unfold ao;rw [if_neg z]);rw [HT.o];clear z;go_enter Tryz.func64,Tryz.ntmps64;go_wp2_with fail;refine K.o.mono ?_;rintro e w1 ⟨rfl,b1⟩;have B1:=O b1;clear b1 K;go_wp2_with fail;refine(df (.bool b) u w1 (rU.o.keep B1.o)).mono ?_;rintro e w2 ⟨rfl,b2⟩;have B2:=bh B1 b2;clear b2 B1;go_wp2_with fail;exact⟨rfl,js B2.o⟩
theorem uT{w:World}{R:Nat}{k:Cx}(h:bJ w R k)(A B:Option Addr)(n m c d:Nat)(P Q:List Nd)(hP:Ns w A n c P)(hQ:Ns w B m d Q):
 Calls Tryz.prog 64 #[.pointer (some ⟨R,0,none⟩),.int .i64 27,.slice A n c,.slice B m d] w (zT w (aT k.E 27 P Q)):=by
 have K:=O (F9 A B n m c d P Q w hP hQ);have rU:=O h.door;have HR:=O (show aT k.E 27 P Q=ao (jQ P Q) (uq P Q) by unfold aT;rw [if_neg (by decide),if_neg (by decide),if_neg (by decide),if_neg (by decide),if_pos rfl]);rw [HR.o];generalize uq P Q=b at *;generalize jQ P Q=u at *;clear h hP hQ;by_cases z:u=0
 ·subst z;rw [zf] at K;have HT:=O (show ao 0 b = .ok (zw b) by unfold ao;rw [if_pos rfl]);rw [HT.o];go_enter Tryz.func64,Tryz.ntmps64;go_wp2_with fail;refine K.o.mono ?_;rintro e w1 ⟨rfl,b1⟩;have B1:=O b1;clear b1 K;go_wp2_with fail;refine(ck (.bool b) w1).mono ?_;rintro e w2 ⟨rfl,b2⟩;have B2:=bh B1 b2;clear b2 B1;go_wp2_with fail;refine(jp b w2).mono ?_;rintro e w3 hp;have HP:=O (hp.up B2.o);obtain⟨-,A2,n2,c2,rfl,-,-⟩:=hp;go_wp2_with fail;go_ret;exact HP.o
 ·rw [zl z] at K;have HT:=O (show ao u b = .error u by unfold ao;rw [if_neg z]);rw [HT.o];clear z;go_enter Tryz.func64,Tryz.ntmps64;go_wp2_with fail;refine K.o.mono ?_;rintro e w1 ⟨rfl,b1⟩;have B1:=O b1;clear b1 K;go_wp2_with fail;refine(df (.bool b) u w1 (rU.o.keep B1.o)).mono ?_;rintro e w2 ⟨rfl,b2⟩;have B2:=bh B1 b2;clear b2 B1;go_wp2_with fail;exact⟨rfl,js B2.o⟩
end Go.Proofs.YthidiimbeaabhaaGreatDoor
