/-
  The contracts of num.Do, num.Neg and the reference's Done. eval.single: a node ..
-/
import Derived.Test.YtokiogmfgpidmaaGreatDoorQ14
import Derived.Test.YtokiogmfgpidmaaGreatDoorQ33
set_option maxRecDepth 100000
set_option maxHeartbeats 4000000
namespace Go.Proofs.YtokiogmfgpidmaaGreatDoor
open Go.RowKit Go.Wk
theorem bits_Mul64(x y:Nat)(w:World)(hx:x<18446744073709551616)(hy:y<18446744073709551616):
 Calls Tryz.prog 154 #[.int .u64 x,.int .u64 y] w λe w'=>e = .returned (.tuple #[.int .u64 (yP x y:Int),.int .u64 (yw x y:Int)])/\w=w' :=
 (Tryz.bits_Mul64 x y hx hy w).mono λ_ _ ⟨h1,h2⟩=>⟨h1,h2.symm⟩
theorem yu{a b:Int}(h:a=b):Ending.returned (.int .u64 a)= .returned (.int .u64 b):=by rw [h]
theorem jg(a:Int)(w:World)(h0 : -9223372036854775808<=a)(h1:a<=9223372036854775807):
 Calls Tryz.prog 155 #[.int .i64 a] w λe w'=>e = .returned (.int .u64 (a.natAbs:Int))/\w=w':=by
 by_cases h:a<0
 ·have H:=O (show IntKind.u64.wrap (-IntKind.u64.wrap a)=(a.natAbs:Int) by simp only [IntKind.wrap_u64];omega);go_enter Tryz.func155,Tryz.ntmps155;go_wp2;go_ret;exact⟨yu H.o,rfl⟩
 ·have H:=O (show a=(a.natAbs:Int) by omega);go_enter Tryz.func155,Tryz.ntmps155;go_wp2;go_ret;exact⟨yu H.o,rfl⟩
theorem wq(a b:Int)(w:World)(ha:I64 a)(hb:I64 b)(h:bR (a+b)=true):
 Calls Tryz.prog 112 #[.int .i64 17,.int .i64 a,.int .i64 b] w λe w'=>e = .returned (.tuple #[.int .i64 (a+b),.nilIface])/\w=w':=by
 obtain⟨f1,f2⟩:=(fw _).1 h;obtain⟨a1,a2⟩:=ha;obtain⟨b1,b2⟩:=hb;clear h;by_cases q1:a<0 <;> by_cases q2:b<0 <;> by_cases q3:a+b<0 <;> first|(exfalso;omega)|skip
 all_goals
  go_enter Tryz.func112,Tryz.ntmps112;go_wp2;go_ret2;exact⟨rfl,rfl⟩
theorem uN(a b:Int)(w:World)(ha:I64 a)(hb:I64 b)(h:bR (a+b)=false):
 Calls Tryz.prog 112 #[.int .i64 17,.int .i64 a,.int .i64 b] w λe w'=>e = .returned (.tuple #[.int .i64 0,jr 5])/\w=w':=by
 have hf:=(uV _).1 h;obtain⟨a1,a2⟩:=ha;obtain⟨b1,b2⟩:=hb;clear h;rcases hf with hf|hf
 ·have q1:a<0:=by omega
  have q2:b<0:=by omega
  have q3:¬wrap64 (a+b)<0:=by unfold wrap64;omega
  clear hf;go_enter Tryz.func112,Tryz.ntmps112;go_wp2;go_ret2;exact⟨rfl,rfl⟩
 ·have q1:¬a<0:=by omega
  have q2:¬b<0:=by omega
  have q3:wrap64 (a+b)<0:=by unfold wrap64;omega
  clear hf;go_enter Tryz.func112,Tryz.ntmps112;go_wp2;go_ret2;exact⟨rfl,rfl⟩
theorem wL(a b:Int)(w:World)(ha:I64 a)(hb:I64 b)(h:bR (a-b)=true):
 Calls Tryz.prog 112 #[.int .i64 18,.int .i64 a,.int .i64 b] w λe w'=>e = .returned (.tuple #[.int .i64 (a-b),.nilIface])/\w=w':=by
 obtain⟨f1,f2⟩:=(fw _).1 h;obtain⟨a1,a2⟩:=ha;obtain⟨b1,b2⟩:=hb;clear h;by_cases q1:a<0 <;> by_cases q2:b<0 <;> by_cases q3:a-b<0 <;> first|(exfalso;omega)|skip
 all_goals
  go_enter Tryz.func112,Tryz.ntmps112;go_wp2;go_ret2;exact⟨rfl,rfl⟩
theorem uE(a b:Int)(w:World)(ha:I64 a)(hb:I64 b)(h:bR (a-b)=false):
 Calls Tryz.prog 112 #[.int .i64 18,.int .i64 a,.int .i64 b] w λe w'=>e = .returned (.tuple #[.int .i64 0,jr 5])/\w=w':=by
 have hf:=(uV _).1 h;obtain⟨a1,a2⟩:=ha;obtain⟨b1,b2⟩:=hb;clear h;rcases hf with hf|hf
 ·have q1:a<0:=by omega
  have q2:¬b<0:=by omega
  have q3:¬wrap64 (a-b)<0:=by unfold wrap64;omega
  clear hf;go_enter Tryz.func112,Tryz.ntmps112;go_wp2;go_ret2;exact⟨rfl,rfl⟩
 ·have q1:¬a<0:=by omega
  have q2:b<0:=by omega
  have q3:wrap64 (a-b)<0:=by unfold wrap64;omega
  clear hf;go_enter Tryz.func112,Tryz.ntmps112;go_wp2;go_ret2;exact⟨rfl,rfl⟩
theorem GU(op a b:Int)(w:World)(h1:op≠17)(h2:op≠18)(h3:op≠19):
 Calls Tryz.prog 112 #[.int .i64 op,.int .i64 a,.int .i64 b] w λe w'=>e = .returned (.tuple #[.int .i64 0,jr 1])/\w=w':=by
 have q1:=beq_eq_false_iff_ne.2 h1;have q2:=beq_eq_false_iff_ne.2 h2;have q3:=beq_eq_false_iff_ne.2 h3;clear h1 h2 h3;go_enter Tryz.func112,Tryz.ntmps112;go_wp2;go_ret2;exact⟨rfl,rfl⟩
theorem rp(a b:Int)(w:World)(a1 : -9223372036854775808<=a)(a2:a<=9223372036854775807)(b1 : -9223372036854775808<=b)(b2:b<=9223372036854775807)(hi lo:Nat)
 (M:Hid (∀w,Calls Tryz.prog 154 #[.int .u64 (a.natAbs:Int),.int .u64 (b.natAbs:Int)] w λe w'=>e = .returned (.tuple #[.int .u64 (hi:Int),.int .u64 (lo:Int)])/\w=w'))
 (q1:¬a<0) (q2:¬b<0) (p1:0<(hi:Int)):
 Calls Tryz.prog 112 #[.int .i64 19,.int .i64 a,.int .i64 b] w λe w'=>e = .returned (.tuple #[.int .i64 0,jr 5])/\w=w':=by
 have S1:=O (λw=>jg a w a1 a2);have S2:=O (λw=>jg b w b1 b2);have hs:(!decide (a<0)==decide (b<0))=false:=by simp [q1,q2]
 clear a1 a2 b1 b2;go_enter Tryz.func112,Tryz.ntmps112;go_wp2_with fail;refine(S1.o _).mono ?_;rintro e w1 ⟨rfl,rfl⟩;go_wp2_with fail;refine(S2.o _).mono ?_;rintro e w1 ⟨rfl,rfl⟩;generalize hx:(a.natAbs:Int)=x at *;generalize hy:(b.natAbs:Int)=y at *;clear hx hy S1 S2;go_wp2_with fail;refine(M.o _).mono ?_;rintro e w1 ⟨rfl,rfl⟩;clear M;go_wp2;go_ret2;exact⟨rfl,rfl⟩
theorem rM(a b:Int)(w:World)(a1 : -9223372036854775808<=a)(a2:a<=9223372036854775807)(b1 : -9223372036854775808<=b)(b2:b<=9223372036854775807)(hi lo:Nat)
 (M:Hid (∀w,Calls Tryz.prog 154 #[.int .u64 (a.natAbs:Int),.int .u64 (b.natAbs:Int)] w λe w'=>e = .returned (.tuple #[.int .u64 (hi:Int),.int .u64 (lo:Int)])/\w=w'))
 (q1:¬a<0) (q2:¬b<0) (p1:¬0<(hi:Int)) (p2:(9223372036854775807:Int)<(lo:Int)):
 Calls Tryz.prog 112 #[.int .i64 19,.int .i64 a,.int .i64 b] w λe w'=>e = .returned (.tuple #[.int .i64 0,jr 5])/\w=w':=by
 have S1:=O (λw=>jg a w a1 a2);have S2:=O (λw=>jg b w b1 b2);have hs:(!decide (a<0)==decide (b<0))=false:=by simp [q1,q2]
 clear a1 a2 b1 b2;go_enter Tryz.func112,Tryz.ntmps112;go_wp2_with fail;refine(S1.o _).mono ?_;rintro e w1 ⟨rfl,rfl⟩;go_wp2_with fail;refine(S2.o _).mono ?_;rintro e w1 ⟨rfl,rfl⟩;generalize hx:(a.natAbs:Int)=x at *;generalize hy:(b.natAbs:Int)=y at *;clear hx hy S1 S2;go_wp2_with fail;refine(M.o _).mono ?_;rintro e w1 ⟨rfl,rfl⟩;clear M;go_wp2;go_ret2;exact⟨rfl,rfl⟩
theorem oO(a b:Int)(w:World)(a1 : -9223372036854775808<=a)(a2:a<=9223372036854775807)(b1 : -9223372036854775808<=b)(b2:b<=9223372036854775807)(hi lo:Nat)
 (M:Hid (∀w,Calls Tryz.prog 154 #[.int .u64 (a.natAbs:Int),.int .u64 (b.natAbs:Int)] w λe w'=>e = .returned (.tuple #[.int .u64 (hi:Int),.int .u64 (lo:Int)])/\w=w'))
 (q1:¬a<0) (q2:¬b<0) (p1:¬0<(hi:Int)) (p2:¬(9223372036854775807:Int)<(lo:Int)):
 Calls Tryz.prog 112 #[.int .i64 19,.int .i64 a,.int .i64 b] w λe w'=>e = .returned (.tuple #[.int .i64 (wrap64 (a*b)),.nilIface])/\w=w':=by
 have S1:=O (λw=>jg a w a1 a2);have S2:=O (λw=>jg b w b1 b2);have hs:(!decide (a<0)==decide (b<0))=false:=by simp [q1,q2]
 clear a1 a2 b1 b2;go_enter Tryz.func112,Tryz.ntmps112;go_wp2_with fail;refine(S1.o _).mono ?_;rintro e w1 ⟨rfl,rfl⟩;go_wp2_with fail;refine(S2.o _).mono ?_;rintro e w1 ⟨rfl,rfl⟩;generalize hx:(a.natAbs:Int)=x at *;generalize hy:(b.natAbs:Int)=y at *;clear hx hy S1 S2;go_wp2_with fail;refine(M.o _).mono ?_;rintro e w1 ⟨rfl,rfl⟩;clear M;go_wp2;go_ret2;exact⟨rfl,rfl⟩
theorem su(a b:Int)(w:World)(a1 : -9223372036854775808<=a)(a2:a<=9223372036854775807)(b1 : -9223372036854775808<=b)(b2:b<=9223372036854775807)(hi lo:Nat)
 (M:Hid (∀w,Calls Tryz.prog 154 #[.int .u64 (a.natAbs:Int),.int .u64 (b.natAbs:Int)] w λe w'=>e = .returned (.tuple #[.int .u64 (hi:Int),.int .u64 (lo:Int)])/\w=w'))
 (q1:a<0) (q2:b<0) (p1:0<(hi:Int)):
 Calls Tryz.prog 112 #[.int .i64 19,.int .i64 a,.int .i64 b] w λe w'=>e = .returned (.tuple #[.int .i64 0,jr 5])/\w=w':=by
 have S1:=O (λw=>jg a w a1 a2);have S2:=O (λw=>jg b w b1 b2);have hs:(!decide (a<0)==decide (b<0))=false:=by simp [q1,q2]
 clear a1 a2 b1 b2;go_enter Tryz.func112,Tryz.ntmps112;go_wp2_with fail;refine(S1.o _).mono ?_;rintro e w1 ⟨rfl,rfl⟩;go_wp2_with fail;refine(S2.o _).mono ?_;rintro e w1 ⟨rfl,rfl⟩;generalize hx:(a.natAbs:Int)=x at *;generalize hy:(b.natAbs:Int)=y at *;clear hx hy S1 S2;go_wp2_with fail;refine(M.o _).mono ?_;rintro e w1 ⟨rfl,rfl⟩;clear M;go_wp2;go_ret2;exact⟨rfl,rfl⟩
theorem qL(a b:Int)(w:World)(a1 : -9223372036854775808<=a)(a2:a<=9223372036854775807)(b1 : -9223372036854775808<=b)(b2:b<=9223372036854775807)(hi lo:Nat)
 (M:Hid (∀w,Calls Tryz.prog 154 #[.int .u64 (a.natAbs:Int),.int .u64 (b.natAbs:Int)] w λe w'=>e = .returned (.tuple #[.int .u64 (hi:Int),.int .u64 (lo:Int)])/\w=w'))
 (q1:a<0) (q2:b<0) (p1:¬0<(hi:Int)) (p2:(9223372036854775807:Int)<(lo:Int)):
 Calls Tryz.prog 112 #[.int .i64 19,.int .i64 a,.int .i64 b] w λe w'=>e = .returned (.tuple #[.int .i64 0,jr 5])/\w=w':=by
 have S1:=O (λw=>jg a w a1 a2);have S2:=O (λw=>jg b w b1 b2);have hs:(!decide (a<0)==decide (b<0))=false:=by simp [q1,q2]
 clear a1 a2 b1 b2;go_enter Tryz.func112,Tryz.ntmps112;go_wp2_with fail;refine(S1.o _).mono ?_;rintro e w1 ⟨rfl,rfl⟩;go_wp2_with fail;refine(S2.o _).mono ?_;rintro e w1 ⟨rfl,rfl⟩;generalize hx:(a.natAbs:Int)=x at *;generalize hy:(b.natAbs:Int)=y at *;clear hx hy S1 S2;go_wp2_with fail;refine(M.o _).mono ?_;rintro e w1 ⟨rfl,rfl⟩;clear M;go_wp2;go_ret2;exact⟨rfl,rfl⟩
theorem po(a b:Int)(w:World)(a1 : -9223372036854775808<=a)(a2:a<=9223372036854775807)(b1 : -9223372036854775808<=b)(b2:b<=9223372036854775807)(hi lo:Nat)
 (M:Hid (∀w,Calls Tryz.prog 154 #[.int .u64 (a.natAbs:Int),.int .u64 (b.natAbs:Int)] w λe w'=>e = .returned (.tuple #[.int .u64 (hi:Int),.int .u64 (lo:Int)])/\w=w'))
 (q1:a<0) (q2:b<0) (p1:¬0<(hi:Int)) (p2:¬(9223372036854775807:Int)<(lo:Int)):
 Calls Tryz.prog 112 #[.int .i64 19,.int .i64 a,.int .i64 b] w λe w'=>e = .returned (.tuple #[.int .i64 (wrap64 (a*b)),.nilIface])/\w=w':=by
 have S1:=O (λw=>jg a w a1 a2);have S2:=O (λw=>jg b w b1 b2);have hs:(!decide (a<0)==decide (b<0))=false:=by simp [q1,q2]
 clear a1 a2 b1 b2;go_enter Tryz.func112,Tryz.ntmps112;go_wp2_with fail;refine(S1.o _).mono ?_;rintro e w1 ⟨rfl,rfl⟩;go_wp2_with fail;refine(S2.o _).mono ?_;rintro e w1 ⟨rfl,rfl⟩;generalize hx:(a.natAbs:Int)=x at *;generalize hy:(b.natAbs:Int)=y at *;clear hx hy S1 S2;go_wp2_with fail;refine(M.o _).mono ?_;rintro e w1 ⟨rfl,rfl⟩;clear M;go_wp2;go_ret2;exact⟨rfl,rfl⟩
theorem rN(a b:Int)(w:World)(a1 : -9223372036854775808<=a)(a2:a<=9223372036854775807)(b1 : -9223372036854775808<=b)(b2:b<=9223372036854775807)(hi lo:Nat)
 (M:Hid (∀w,Calls Tryz.prog 154 #[.int .u64 (a.natAbs:Int),.int .u64 (b.natAbs:Int)] w λe w'=>e = .returned (.tuple #[.int .u64 (hi:Int),.int .u64 (lo:Int)])/\w=w'))
 (q1:a<0) (q2:¬b<0) (p1:0<(hi:Int)):
 Calls Tryz.prog 112 #[.int .i64 19,.int .i64 a,.int .i64 b] w λe w'=>e = .returned (.tuple #[.int .i64 0,jr 5])/\w=w':=by
 have S1:=O (λw=>jg a w a1 a2);have S2:=O (λw=>jg b w b1 b2);have hs:(!decide (a<0)==decide (b<0))=true:=by simp [q1,q2]
 have hs2:(!decide (b<0))=true:=by simp [q2]
 clear a1 a2 b1 b2;go_enter Tryz.func112,Tryz.ntmps112;go_wp2_with fail;refine(S1.o _).mono ?_;rintro e w1 ⟨rfl,rfl⟩;go_wp2_with fail;refine(S2.o _).mono ?_;rintro e w1 ⟨rfl,rfl⟩;generalize hx:(a.natAbs:Int)=x at *;generalize hy:(b.natAbs:Int)=y at *;clear hx hy S1 S2;go_wp2_with fail;refine(M.o _).mono ?_;rintro e w1 ⟨rfl,rfl⟩;clear M;go_wp2;go_ret2;exact⟨rfl,rfl⟩
theorem sq(a b:Int)(w:World)(a1 : -9223372036854775808<=a)(a2:a<=9223372036854775807)(b1 : -9223372036854775808<=b)(b2:b<=9223372036854775807)(hi lo:Nat)
 (M:Hid (∀w,Calls Tryz.prog 154 #[.int .u64 (a.natAbs:Int),.int .u64 (b.natAbs:Int)] w λe w'=>e = .returned (.tuple #[.int .u64 (hi:Int),.int .u64 (lo:Int)])/\w=w'))
 (q1:a<0) (q2:¬b<0) (p1:¬0<(hi:Int)) (p2:(9223372036854775808:Int)<(lo:Int)):
 Calls Tryz.prog 112 #[.int .i64 19,.int .i64 a,.int .i64 b] w λe w'=>e = .returned (.tuple #[.int .i64 0,jr 5])/\w=w':=by
 have S1:=O (λw=>jg a w a1 a2);have S2:=O (λw=>jg b w b1 b2);have hs:(!decide (a<0)==decide (b<0))=true:=by simp [q1,q2]
 have hs2:(!decide (b<0))=true:=by simp [q2]
 clear a1 a2 b1 b2;go_enter Tryz.func112,Tryz.ntmps112;go_wp2_with fail;refine(S1.o _).mono ?_;rintro e w1 ⟨rfl,rfl⟩;go_wp2_with fail;refine(S2.o _).mono ?_;rintro e w1 ⟨rfl,rfl⟩;generalize hx:(a.natAbs:Int)=x at *;generalize hy:(b.natAbs:Int)=y at *;clear hx hy S1 S2;go_wp2_with fail;refine(M.o _).mono ?_;rintro e w1 ⟨rfl,rfl⟩;clear M;go_wp2;go_ret2;exact⟨rfl,rfl⟩
theorem pu(a b:Int)(w:World)(a1 : -9223372036854775808<=a)(a2:a<=9223372036854775807)(b1 : -9223372036854775808<=b)(b2:b<=9223372036854775807)(hi lo:Nat)
 (M:Hid (∀w,Calls Tryz.prog 154 #[.int .u64 (a.natAbs:Int),.int .u64 (b.natAbs:Int)] w λe w'=>e = .returned (.tuple #[.int .u64 (hi:Int),.int .u64 (lo:Int)])/\w=w'))
 (q1:a<0) (q2:¬b<0) (p1:¬0<(hi:Int)) (p2:¬(9223372036854775808:Int)<(lo:Int)):
 Calls Tryz.prog 112 #[.int .i64 19,.int .i64 a,.int .i64 b] w λe w'=>e = .returned (.tuple #[.int .i64 (wrap64 (a*b)),.nilIface])/\w=w':=by
 have S1:=O (λw=>jg a w a1 a2);have S2:=O (λw=>jg b w b1 b2);have hs:(!decide (a<0)==decide (b<0))=true:=by simp [q1,q2]
 have hs2:(!decide (b<0))=true:=by simp [q2]
 clear a1 a2 b1 b2;go_enter Tryz.func112,Tryz.ntmps112;go_wp2_with fail;refine(S1.o _).mono ?_;rintro e w1 ⟨rfl,rfl⟩;go_wp2_with fail;refine(S2.o _).mono ?_;rintro e w1 ⟨rfl,rfl⟩;generalize hx:(a.natAbs:Int)=x at *;generalize hy:(b.natAbs:Int)=y at *;clear hx hy S1 S2;go_wp2_with fail;refine(M.o _).mono ?_;rintro e w1 ⟨rfl,rfl⟩;clear M;go_wp2;go_ret2;exact⟨rfl,rfl⟩
theorem q7(a b:Int)(w:World)(a1 : -9223372036854775808<=a)(a2:a<=9223372036854775807)(b1 : -9223372036854775808<=b)(b2:b<=9223372036854775807)(hi lo:Nat)
 (M:Hid (∀w,Calls Tryz.prog 154 #[.int .u64 (a.natAbs:Int),.int .u64 (b.natAbs:Int)] w λe w'=>e = .returned (.tuple #[.int .u64 (hi:Int),.int .u64 (lo:Int)])/\w=w'))
 (q1:¬a<0) (q2:b<0) (p1:0<(hi:Int)):
 Calls Tryz.prog 112 #[.int .i64 19,.int .i64 a,.int .i64 b] w λe w'=>e = .returned (.tuple #[.int .i64 0,jr 5])/\w=w':=by
 have S1:=O (λw=>jg a w a1 a2);have S2:=O (λw=>jg b w b1 b2);have hs:(!decide (a<0)==decide (b<0))=true:=by simp [q1,q2]
 have hs2:(!decide (a<0))=true:=by simp [q1]
 clear a1 a2 b1 b2;go_enter Tryz.func112,Tryz.ntmps112;go_wp2_with fail;refine(S1.o _).mono ?_;rintro e w1 ⟨rfl,rfl⟩;go_wp2_with fail;refine(S2.o _).mono ?_;rintro e w1 ⟨rfl,rfl⟩;generalize hx:(a.natAbs:Int)=x at *;generalize hy:(b.natAbs:Int)=y at *;clear hx hy S1 S2;go_wp2_with fail;refine(M.o _).mono ?_;rintro e w1 ⟨rfl,rfl⟩;clear M;go_wp2;go_ret2;exact⟨rfl,rfl⟩
theorem q9(a b:Int)(w:World)(a1 : -9223372036854775808<=a)(a2:a<=9223372036854775807)(b1 : -9223372036854775808<=b)(b2:b<=9223372036854775807)(hi lo:Nat)
 (M:Hid (∀w,Calls Tryz.prog 154 #[.int .u64 (a.natAbs:Int),.int .u64 (b.natAbs:Int)] w λe w'=>e = .returned (.tuple #[.int .u64 (hi:Int),.int .u64 (lo:Int)])/\w=w'))
 (q1:¬a<0) (q2:b<0) (p1:¬0<(hi:Int)) (p2:(9223372036854775808:Int)<(lo:Int)):
 Calls Tryz.prog 112 #[.int .i64 19,.int .i64 a,.int .i64 b] w λe w'=>e = .returned (.tuple #[.int .i64 0,jr 5])/\w=w':=by
 have S1:=O (λw=>jg a w a1 a2);have S2:=O (λw=>jg b w b1 b2);have hs:(!decide (a<0)==decide (b<0))=true:=by simp [q1,q2]
 have hs2:(!decide (a<0))=true:=by simp [q1]
 clear a1 a2 b1 b2;go_enter Tryz.func112,Tryz.ntmps112;go_wp2_with fail;refine(S1.o _).mono ?_;rintro e w1 ⟨rfl,rfl⟩;go_wp2_with fail;refine(S2.o _).mono ?_;rintro e w1 ⟨rfl,rfl⟩;generalize hx:(a.natAbs:Int)=x at *;generalize hy:(b.natAbs:Int)=y at *;clear hx hy S1 S2;go_wp2_with fail;refine(M.o _).mono ?_;rintro e w1 ⟨rfl,rfl⟩;clear M;go_wp2;go_ret2;exact⟨rfl,rfl⟩
theorem pp(a b:Int)(w:World)(a1 : -9223372036854775808<=a)(a2:a<=9223372036854775807)(b1 : -9223372036854775808<=b)(b2:b<=9223372036854775807)(hi lo:Nat)
 (M:Hid (∀w,Calls Tryz.prog 154 #[.int .u64 (a.natAbs:Int),.int .u64 (b.natAbs:Int)] w λe w'=>e = .returned (.tuple #[.int .u64 (hi:Int),.int .u64 (lo:Int)])/\w=w'))
 (q1:¬a<0) (q2:b<0) (p1:¬0<(hi:Int)) (p2:¬(9223372036854775808:Int)<(lo:Int)):
 Calls Tryz.prog 112 #[.int .i64 19,.int .i64 a,.int .i64 b] w λe w'=>e = .returned (.tuple #[.int .i64 (wrap64 (a*b)),.nilIface])/\w=w':=by
 have S1:=O (λw=>jg a w a1 a2);have S2:=O (λw=>jg b w b1 b2);have hs:(!decide (a<0)==decide (b<0))=true:=by simp [q1,q2]
 have hs2:(!decide (a<0))=true:=by simp [q1]
 clear a1 a2 b1 b2;go_enter Tryz.func112,Tryz.ntmps112;go_wp2_with fail;refine(S1.o _).mono ?_;rintro e w1 ⟨rfl,rfl⟩;go_wp2_with fail;refine(S2.o _).mono ?_;rintro e w1 ⟨rfl,rfl⟩;generalize hx:(a.natAbs:Int)=x at *;generalize hy:(b.natAbs:Int)=y at *;clear hx hy S1 S2;go_wp2_with fail;refine(M.o _).mono ?_;rintro e w1 ⟨rfl,rfl⟩;clear M;go_wp2;go_ret2;exact⟨rfl,rfl⟩
theorem J5(a b:Int)(w:World)(ha:I64 a)(hb:I64 b):
 Calls Tryz.prog 112 #[.int .i64 19,.int .i64 a,.int .i64 b] w λe w'=>e = .returned (.tuple #[.int .i64 (if bR (a*b) then a*b else 0),jr (if bR (a*b) then 0 else 5)])/\w=w':=by
 obtain⟨a1,a2⟩:=ha;obtain⟨b1,b2⟩:=hb;have M:Hid (∀w,_):=O (λw=>bits_Mul64 a.natAbs b.natAbs w (by omega) (by omega));have T0:=λd hd=>DJ (a:=a) (b:=b) d hd;have W:=λh:bR (a*b)=true=>Ce h;generalize yP a.natAbs b.natAbs=hi at *;generalize yw a.natAbs b.natAbs=lo at *;by_cases q1:a<0
 ·by_cases q2:b<0
  ·skip;have T:=T0 0 (by rw [if_pos ⟨λ_=>q2,λ_=>q1⟩]);by_cases p1:0<(hi:Int)
   ·have hf:bR (a*b)=false:=by
     rw [Bool.eq_false_iff];intro q;have:=(T.1 q).1;omega
    rw [hf];exact su a b w a1 a2 b1 b2 hi lo M q1 q2 p1
   ·by_cases p2:(9223372036854775807:Int)<(lo:Int)
    ·have hf:bR (a*b)=false:=by
      rw [Bool.eq_false_iff];intro q;have:=(T.1 q).2;omega
     rw [hf];exact qL a b w a1 a2 b1 b2 hi lo M q1 q2 p1 p2
    ·have hf:bR (a*b)=true:=T.2 ⟨by omega,by omega⟩;have h:=po a b w a1 a2 b1 b2 hi lo M q1 q2 p1 p2;rw [W hf] at h;rw [hf];exact h
  ·skip;have T:=T0 1 (by rw [if_neg (λq=>q2 (q.1 q1))]);by_cases p1:0<(hi:Int)
   ·have hf:bR (a*b)=false:=by
     rw [Bool.eq_false_iff];intro q;have:=(T.1 q).1;omega
    rw [hf];exact rN a b w a1 a2 b1 b2 hi lo M q1 q2 p1
   ·by_cases p2:(9223372036854775808:Int)<(lo:Int)
    ·have hf:bR (a*b)=false:=by
      rw [Bool.eq_false_iff];intro q;have:=(T.1 q).2;omega
     rw [hf];exact sq a b w a1 a2 b1 b2 hi lo M q1 q2 p1 p2
    ·have hf:bR (a*b)=true:=T.2 ⟨by omega,by omega⟩;have h:=pu a b w a1 a2 b1 b2 hi lo M q1 q2 p1 p2;rw [W hf] at h;rw [hf];exact h
 ·by_cases q2:b<0
  ·skip;have T:=T0 1 (by rw [if_neg (λq=>q1 (q.2 q2))]);by_cases p1:0<(hi:Int)
   ·have hf:bR (a*b)=false:=by
     rw [Bool.eq_false_iff];intro q;have:=(T.1 q).1;omega
    rw [hf];exact q7 a b w a1 a2 b1 b2 hi lo M q1 q2 p1
   ·by_cases p2:(9223372036854775808:Int)<(lo:Int)
    ·have hf:bR (a*b)=false:=by
      rw [Bool.eq_false_iff];intro q;have:=(T.1 q).2;omega
     rw [hf];exact q9 a b w a1 a2 b1 b2 hi lo M q1 q2 p1 p2
    ·have hf:bR (a*b)=true:=T.2 ⟨by omega,by omega⟩;have h:=pp a b w a1 a2 b1 b2 hi lo M q1 q2 p1 p2;rw [W hf] at h;rw [hf];exact h
  ·skip;have T:=T0 0 (by rw [if_pos ⟨λq=>absurd q q1,λq=>absurd q q2⟩]);by_cases p1:0<(hi:Int)
   ·have hf:bR (a*b)=false:=by
     rw [Bool.eq_false_iff];intro q;have:=(T.1 q).1;omega
    rw [hf];exact rp a b w a1 a2 b1 b2 hi lo M q1 q2 p1
   ·by_cases p2:(9223372036854775807:Int)<(lo:Int)
    ·have hf:bR (a*b)=false:=by
      rw [Bool.eq_false_iff];intro q;have:=(T.1 q).2;omega
     rw [hf];exact rM a b w a1 a2 b1 b2 hi lo M q1 q2 p1 p2
    ·have hf:bR (a*b)=true:=T.2 ⟨by omega,by omega⟩;have h:=oO a b w a1 a2 b1 b2 hi lo M q1 q2 p1 p2;rw [W hf] at h;rw [hf];exact h
theorem F6(op a b:Int)(w:World)(ha:I64 a)(hb:I64 b):
 Calls Tryz.prog 112 #[.int .i64 op,.int .i64 a,.int .i64 b] w λe w'=>e = .returned (.tuple #[.int .i64 (dn op a b),jr (cM op a b)])/\w=w':=by
 by_cases h1:op=17
 ·subst h1;rcases hf:bR (a+b) with _|_
  ·have:=uN a b w ha hb hf;simpa [dn,cM,vm,hf] using this
  ·have:=wq a b w ha hb hf;simpa [dn,cM,vm,hf,zk] using this
 ·by_cases h2:op=18
  ·subst h2;rcases hf:bR (a-b) with _|_
   ·have:=uE a b w ha hb hf;simpa [dn,cM,vm,hf] using this
   ·have:=wL a b w ha hb hf;simpa [dn,cM,vm,hf,zk] using this
  ·by_cases h3:op=19
   ·subst h3;have:=J5 a b w ha hb;simpa [dn,cM,vm] using this
   ·have:=GU op a b w h1 h2 h3;simpa [dn,cM,h1,h2,h3] using this
theorem Ic(a:Int)(w:World)(ha:I64 a):
 Calls Tryz.prog 101 #[.int .i64 a] w λe w'=>e = .returned (.tuple #[.int .i64 (dn 18 0 a),jr (cM 18 0 a)])/\w=w':=by
 have C:=O (λw=>F6 18 0 a w (by unfold I64;omega) ha);go_enter Tryz.func101,Tryz.ntmps101;go_wp2_with fail;refine(C.o _).mono ?_;rintro e w1 ⟨rfl,rfl⟩;go_wp2;go_ret2;exact⟨rfl,rfl⟩
end Go.Proofs.YtokiogmfgpidmaaGreatDoor
namespace Go.Proofs.YtokiogmfgpidmaaGreatDoor
open Go.RowKit Go.Wk Go.Sort
theorem fW(w:World)(x:Nd)(t:TypeId):Nd4 (w.alloc (.cells #[.int .i64 x.op,.int .i64 x.n,.string x.s,.string x.t] t)) ⟨w.heap.size,0,none⟩ x:=⟨zV (heap_alloc_last w _) rfl,zV (heap_alloc_last w _) rfl,zV (heap_alloc_last w _) rfl,zV (heap_alloc_last w _) rfl⟩
theorem xB{w:World}{R:Nat}{k:Cx}(h:br w R k)(x:Nd)(hx:x.op=9)(A:Option Addr)(n c:Nat)(V:List Nd)(hv:Ns w A n c V)(h0:0<V.length):
 Calls Tryz.prog 60 #[.pointer (some ⟨R,0,none⟩),ndV x,.slice A n c] w (zU w (ar k.E x V)):=by
 have KM:=O (λw' hb=>zG A n c V 1 w' (hv.keep (w':=w') hb) h0);have B0:=O (zb w (.cells #[.int .i64 9,.int .i64 x.n,.string x.s,.string x.t] 28));obtain⟨a,rfl,hn1,D,ee,-⟩:=jZ hv h0;have hn:(0:Int)<(n:Int):=by omega
 have HD:=O D;have sN:=O h.door;unfold ndV;by_cases g:zf V=1
 ·have HR:=O (show ar k.E x V = .ok (zK (decide ((hdN V).n=0))) by unfold ar;rw [if_pos hx,if_pos g]);simp only [if_pos g] at KM;rw [HR.o,hx];generalize hdN V=y at *;clear hv h0 D g hx h;go_enter Tryz.func60,Tryz.ntmps60;go_wp2_with fail;refine(KM.o _ B0.o).mono ?_;rintro e w1 ⟨rfl,b1⟩;have B1:=bh B0 b1;obtain⟨-,d1,-,-⟩:=HD.o.keep B1.o;clear b1 B0 KM;go_wp2_with fail;refine(jz (y.n==0) w1).mono ?_;rintro e w2 hp;have HP:=O (hp.up B1.o);obtain⟨-,A2,n2,c2,rfl,-,-⟩:=hp;go_wp2_with fail;go_ret;exact HP.o
 ·have HR:=O (show ar k.E x V = .error 2 by unfold ar;rw [if_pos hx];rw [if_neg g]);simp only [if_neg g] at KM;rw [HR.o,hx];clear hv h0 D g hx h;go_enter Tryz.func60,Tryz.ntmps60;go_wp2_with fail;refine(KM.o _ B0.o).mono ?_;rintro e w1 ⟨rfl,b1⟩;have B1:=bh B0 b1;clear b1 B0 KM;go_wp2_with fail;exact⟨rfl,jx B1.o⟩
theorem x9{w:World}{R:Nat}{k:Cx}(h:br w R k)(x:Nd)(hx:x.op=10)(A:Option Addr)(n c:Nat)(V:List Nd)(hv:Ns w A n c V)(h0:0<V.length):
 Calls Tryz.prog 60 #[.pointer (some ⟨R,0,none⟩),ndV x,.slice A n c] w (zU w (ar k.E x V)):=by
 have KM:=O (λw' hb=>zG A n c V 2 w' (hv.keep (w':=w') hb) h0);have B0:=O (zb w (.cells #[.int .i64 10,.int .i64 x.n,.string x.s,.string x.t] 28));obtain⟨a,rfl,hn1,D,ee,-⟩:=jZ hv h0;have hn:(0:Int)<(n:Int):=by omega
 have HD:=O D;have sN:=O h.door;unfold ndV;by_cases g:zf V=2
 ·have HR:=O (show ar k.E x V=je (cM 18 0 (hdN V).n) (fc (dn 18 0 (hdN V).n)) by unfold ar;rw [if_neg (by omega),if_pos hx,if_pos g]);simp only [if_pos g] at KM;rw [HR.o,hx];generalize hdN V=y at *;have HI:Hid (I64 y.n):=O ⟨ee.lo,ee.hi⟩;have KN:=O (λw=>Ic y.n w HI.o);have Oz:=O (vG 18 0 y.n);clear hv h0 D g hx h ee;by_cases z:cM 18 0 y.n=0
  ·have KT:=O (λw' (hb:Below w.heap.size w w')=>kR (.int .i64 (dn 18 0 y.n)) w');have HT:=O (show je (cM 18 0 y.n) (fc (dn 18 0 y.n))= .ok (fc (dn 18 0 y.n)) by unfold je;rw [if_pos z]);rw [HT.o];rw [z,zk] at KN;generalize dn 18 0 y.n=r at *;go_enter Tryz.func60,Tryz.ntmps60;go_wp2_with fail;refine(KM.o _ B0.o).mono ?_;rintro e w1 ⟨rfl,b1⟩;have B1:=bh B0 b1;obtain⟨-,d1,-,-⟩:=HD.o.keep B1.o;clear b1 B0 KM;go_wp2_with fail;refine(KN.o _).mono ?_;rintro e w2 ⟨rfl,rfl⟩;go_wp2_with fail;refine(KT.o _ B1.o).mono ?_;rintro e w2 ⟨rfl,b2⟩;have B2:=bh B1 b2;clear b2 B1 KT;go_wp2_with fail;go_ret;exact(ij w2 ⟨2,r,emp,emp⟩ (nJ _ _ Oz.o)).up B2.o
  ·have KT:=O (λw' (hb:Below w.heap.size w w')=>lz (.int .i64 (dn 18 0 y.n)) (cM 18 0 y.n) w' (sN.o.keep hb));have HT:=O (show je (cM 18 0 y.n) (fc (dn 18 0 y.n))= .error (cM 18 0 y.n) by unfold je;rw [if_neg z]);rw [HT.o];rw [zn z] at KN;generalize dn 18 0 y.n=r at *;generalize cM 18 0 y.n=u at *;go_enter Tryz.func60,Tryz.ntmps60;go_wp2_with fail;refine(KM.o _ B0.o).mono ?_;rintro e w1 ⟨rfl,b1⟩;have B1:=bh B0 b1;obtain⟨-,d1,-,-⟩:=HD.o.keep B1.o;clear b1 B0 KM;go_wp2_with fail;refine(KN.o _).mono ?_;rintro e w2 ⟨rfl,rfl⟩;go_wp2_with fail;refine(KT.o _ B1.o).mono ?_;rintro e w2 ⟨rfl,b2⟩;have B2:=bh B1 b2;clear b2 B1 KT;go_wp2_with fail;exact⟨rfl,jx B2.o⟩
 ·have HR:=O (show ar k.E x V = .error 2 by unfold ar;rw [if_neg (by omega),if_pos hx];rw [if_neg g]);simp only [if_neg g] at KM;rw [HR.o,hx];clear hv h0 D g hx h;go_enter Tryz.func60,Tryz.ntmps60;go_wp2_with fail;refine(KM.o _ B0.o).mono ?_;rintro e w1 ⟨rfl,b1⟩;have B1:=bh B0 b1;clear b1 B0 KM;go_wp2_with fail;exact⟨rfl,jx B1.o⟩
theorem xR{w:World}{R:Nat}{k:Cx}(h:br w R k)(x:Nd)(hx:x.op=21)(A:Option Addr)(n c:Nat)(V:List Nd)(hv:Ns w A n c V)(h0:0<V.length):
 Calls Tryz.prog 60 #[.pointer (some ⟨R,0,none⟩),ndV x,.slice A n c] w (zU w (ar k.E x V)):=by
 have B0:=O (zb w (.cells #[.int .i64 21,.int .i64 x.n,.string x.s,.string x.t] 28));have X0:=O (fW w ⟨21,x.n,x.s,x.t⟩ 28);have KR:=O (λw' hb=>ll (h.keep (w':=w') hb) A n c V (hv.keep hb) h0);have sN:=O h.door;have Gd:=λ(a:Addr) (n c:Nat) (w:World)=>Lib.run_eql_slice_nil (P:=Tryz.prog) w 70 28 (some a) n c 0 0 Tryz.underlying70;have Gg:=λ(w:World)=>Lib.run_eql_slice_nil (P:=Tryz.prog) w 70 28 none 0 0 0 0 Tryz.underlying70;simp only [Option.isNone_some,Option.isNone_none] at Gd Gg;have HX:=O (show ar k.E x V=(match bS k.E V with
  | .error e => .error e
  | .ok none => .ok (zK false)
  | .ok (some r)=> .ok (zK (decide (cq r x.s=0)))) by unfold ar;rw [if_neg (by omega),if_neg (by omega),if_neg (by omega),if_neg (by omega)];rcases bS k.E V with e|(_|r)<;> simp [hx])
 rw [HX.o];unfold ndV;rw [hx];rcases hrx:bS k.E V with u|(_|r)
 ·simp only [hrx] at KR;clear hrx;simp only;clear hv h0 hx h HX;go_enter Tryz.func60,Tryz.ntmps60;go_wp2_with fail;refine(KR.o _ B0.o).mono ?_;rintro e w1 ⟨b1,rfl⟩;have B1:=bh B0 b1;clear b1 B0 KR;go_wp2_with fail;exact⟨rfl,jx B1.o⟩
 ·simp only [hrx] at KR;clear hrx;simp only;clear hv h0 hx h HX;go_enter Tryz.func60,Tryz.ntmps60;go_wp2_with fail;refine(KR.o _ B0.o).mono ?_;rintro e w1 ⟨b1,rfl⟩;have B1:=bh B0 b1;obtain⟨x0,-,x2,-⟩:=X0.o.keep b1;clear b1 B0 KR X0;go_wp2_with fail;refine(jz false w1).mono ?_;rintro e w2 hp;have HP:=O (hp.up B1.o);obtain⟨-,A2,n2,c2,rfl,-,-⟩:=hp;go_wp2_with fail;go_ret;exact HP.o
 ·simp only [hrx] at KR;clear hrx;simp only;clear hv h0 hx h HX;by_cases z:cq r x.s=0
  ·go_enter Tryz.func60,Tryz.ntmps60;go_wp2_with fail;refine(KR.o _ B0.o).mono ?_;rintro e w1 ⟨b1,a1,n1,c1,rfl,hN⟩;have B1:=bh B0 b1;obtain⟨x0,-,x2,-⟩:=X0.o.keep b1;have G:=O (lW (some a1) n1 c1 r x.s w1 hN);unfold iK at G;rw [z,zk] at G;clear b1 B0 KR hN X0;go_wp2_with fail;refine G.o.mono ?_;rintro e w2 ⟨A2,n2,c2,rfl,Gb,hF2,b2⟩;have B2:=bh B1 b2;have vX:=O Gb;have vT:=O (λa e=>Nat.le_trans B1.o.size (hF2 a e));clear b2 B1 G Gb hF2;go_wp2_with fail;refine(jz true w2).mono ?_;rintro e w3 hp;have HP:=O (hp.up B2.o);obtain⟨-,A3,n3,c3,rfl,-,-⟩:=hp;go_wp2_with fail;go_ret;rw [decide_eq_true z];exact HP.o
  ·have hJ:=O (zn z);go_enter Tryz.func60,Tryz.ntmps60;go_wp2_with fail;refine(KR.o _ B0.o).mono ?_;rintro e w1 ⟨b1,a1,n1,c1,rfl,hN⟩;have B1:=bh B0 b1;obtain⟨x0,-,x2,-⟩:=X0.o.keep b1;have G:=O (lW (some a1) n1 c1 r x.s w1 hN);unfold iK at G;rw [hJ.o] at G;clear b1 B0 KR hN X0;go_wp2_with fail;refine G.o.mono ?_;rintro e w2 ⟨A2,n2,c2,rfl,-,-,b2⟩;have B2:=bh B1 b2;clear b2 B1 G;go_wp2_with fail;refine(jz false w2).mono ?_;rintro e w3 hp;have HP:=O (hp.up B2.o);obtain⟨-,A3,n3,c3,rfl,-,-⟩:=hp;go_wp2_with fail;go_ret;rw [decide_eq_false z];exact HP.o
theorem wK{w:World}{R:Nat}{k:Cx}(h:br w R k)(x:Nd)(hx:x.op=22)(A:Option Addr)(n c:Nat)(V:List Nd)(hv:Ns w A n c V)(h0:0<V.length):
 Calls Tryz.prog 60 #[.pointer (some ⟨R,0,none⟩),ndV x,.slice A n c] w (zU w (ar k.E x V)):=by
 have B0:=O (zb w (.cells #[.int .i64 22,.int .i64 x.n,.string x.s,.string x.t] 28));have X0:=O (fW w ⟨22,x.n,x.s,x.t⟩ 28);have KR:=O (λw' hb=>ll (h.keep (w':=w') hb) A n c V (hv.keep hb) h0);have sN:=O h.door;have Gd:=λ(a:Addr) (n c:Nat) (w:World)=>Lib.run_eql_slice_nil (P:=Tryz.prog) w 70 28 (some a) n c 0 0 Tryz.underlying70;have Gg:=λ(w:World)=>Lib.run_eql_slice_nil (P:=Tryz.prog) w 70 28 none 0 0 0 0 Tryz.underlying70;simp only [Option.isNone_some,Option.isNone_none] at Gd Gg;have HX:=O (show ar k.E x V=(match bS k.E V with
  | .error e => .error e
  | .ok none => .error 8
  | .ok (some r)=>je (cq r x.s) (ga r x.s)) by unfold ar;rw [if_neg (by omega),if_neg (by omega),if_neg (by omega),if_neg (by omega)];rcases bS k.E V with e|(_|r)<;> simp [hx])
 rw [HX.o];unfold ndV;rw [hx];rcases hrx:bS k.E V with u|(_|r)
 ·simp only [hrx] at KR;clear hrx;simp only;clear hv h0 hx h HX;go_enter Tryz.func60,Tryz.ntmps60;go_wp2_with fail;refine(KR.o _ B0.o).mono ?_;rintro e w1 ⟨b1,rfl⟩;have B1:=bh B0 b1;clear b1 B0 KR;go_wp2_with fail;exact⟨rfl,jx B1.o⟩
 ·simp only [hrx] at KR;clear hrx;simp only;clear hv h0 hx h HX;go_enter Tryz.func60,Tryz.ntmps60;go_wp2_with fail;refine(KR.o _ B0.o).mono ?_;rintro e w1 ⟨b1,rfl⟩;have B1:=bh B0 b1;obtain⟨x0,-,x2,-⟩:=X0.o.keep b1;clear b1 B0 KR X0;go_wp2_with fail;exact⟨rfl,jx B1.o⟩
 ·simp only [hrx] at KR;clear hrx;simp only;clear hv h0 hx h HX;by_cases z:cq r x.s=0
  ·go_enter Tryz.func60,Tryz.ntmps60;go_wp2_with fail;refine(KR.o _ B0.o).mono ?_;rintro e w1 ⟨b1,a1,n1,c1,rfl,hN⟩;have B1:=bh B0 b1;obtain⟨x0,-,x2,-⟩:=X0.o.keep b1;have G:=O (lW (some a1) n1 c1 r x.s w1 hN);unfold iK at G;rw [z,zk] at G;clear b1 B0 KR hN X0;go_wp2_with fail;refine G.o.mono ?_;rintro e w2 ⟨A2,n2,c2,rfl,Gb,hF2,b2⟩;have B2:=bh B1 b2;have vX:=O Gb;have vT:=O (λa e=>Nat.le_trans B1.o.size (hF2 a e));clear b2 B1 G Gb hF2;go_wp2_with fail;refine(fp (.slice A2 n2 c2) w2).mono ?_;rintro e w3 ⟨rfl,b3⟩;have B3:=bh B2 b3;have Jf:=O (vX.o.keep b3);clear b3 B2 vX;go_wp2_with fail;go_ret;unfold je;rw [if_pos z];exact⟨B3.o,A2,n2,c2,rfl,Jf.o,vT.o⟩
  ·have hJ:=O (zn z);go_enter Tryz.func60,Tryz.ntmps60;go_wp2_with fail;refine(KR.o _ B0.o).mono ?_;rintro e w1 ⟨b1,a1,n1,c1,rfl,hN⟩;have B1:=bh B0 b1;obtain⟨x0,-,x2,-⟩:=X0.o.keep b1;have G:=O (lW (some a1) n1 c1 r x.s w1 hN);unfold iK at G;rw [hJ.o] at G;clear b1 B0 KR hN X0;go_wp2_with fail;refine G.o.mono ?_;rintro e w2 ⟨A2,n2,c2,rfl,-,-,b2⟩;have B2:=bh B1 b2;clear b2 B1 G;go_wp2_with fail;refine(fK (.slice A2 n2 c2) _ w2 (sN.o.keep B2.o)).mono ?_;rintro e w3 ⟨rfl,b3⟩;have B3:=bh B2 b3;clear b3 B2;go_wp2_with fail;unfold je;rw [if_neg z];exact⟨rfl,jx B3.o⟩
theorem Br{w:World}{R:Nat}{k:Cx}(_h:br w R k)(x:Nd)(hx:x.op=24)(A:Option Addr)(n c:Nat)(V:List Nd)(hv:Ns w A n c V)(h0:0<V.length):
 Calls Tryz.prog 60 #[.pointer (some ⟨R,0,none⟩),ndV x,.slice A n c] w (zU w (ar k.E x V)):=by
 have I1:=O (show ar k.E x V=if zf V=4 then .ok (zK (decide ((hdN V).s=x.s))) else .error 2 by unfold ar;rw [if_neg (by omega),if_neg (by omega),if_neg (by omega),if_pos hx]);have B0:=O (zb w (.cells #[.int .i64 24,.int .i64 x.n,.string x.s,.string x.t] 28));have X0:=O (fW w ⟨24,x.n,x.s,x.t⟩ 28);obtain⟨a,rfl,hn1,D,ee,-⟩:=jZ hv h0;have hn:(0:Int)<(n:Int):=by omega
 have hn0:0<n:=hn1;have HD:=O D;rw [I1.o];unfold ndV;rw [hx];obtain⟨w0,hw0⟩:∃w0,w.alloc (.cells #[.int .i64 24,.int .i64 x.n,.string x.s,.string x.t] 28)=w0:=⟨_,rfl⟩
 rw [hw0] at B0 X0;obtain⟨x0,x1,x2,x3⟩:=X0.o;have k0:=cell_regrown x2;by_cases g:zf V=4
 ·rw [if_pos g];have KM:=O (λw' hb=>by have:=zG (some a) n c V 4 w' (hv.keep (B0.o.trans (Below.mono (w':=w') hb B0.o.size))) h0;rwa [if_pos g] at this);have y2:=(HD.o.keep B0.o).c2;generalize hdN V=y at *;clear hv h0 D g hx ee I1;by_cases z:y.s=x.s
  ·have f1:(y.s.toList==x.s.toList)=true:=by rw [z];exact beq_self_eq_true _
   rw [decide_eq_true z];clear z;go_enter Tryz.func60,Tryz.ntmps60;go_wp2_with fail;go_region_held3 (λw':World=>w'.cell? ⟨w.heap.size,2,none⟩=some (.string x.s)/\w'.cell? ⟨a.block,a.off+2,none⟩=some (.string y.s)) (first|exact⟨x2,y2⟩|exact⟨s0,s1⟩|exact⟨t0,t1⟩) (first
    |(go_at_call 96;refine(KM.o _ (z6 w0)).mono ?_;rintro e w1 ⟨rfl,b1⟩;have s0:=za b1 x2;have s1:=za b1 y2;have B1:=O (B0.o.trans (((z6 w0).trans b1).mono B0.o.size)))
    |(go_at_call 99;refine(jz _ _).mono ?_;rintro e w2 hp;have HP:=O (hp.up B1.o);obtain⟨b2,A2,n2,c2,rfl,-,-⟩:=hp;have t0:=za b2 s0;have t1:=za b2 s1))
   go_wp2_with fail;go_ret;exact HP.o
  ·have f1:(y.s.toList==x.s.toList)=false:=beq_eq_false_iff_ne.2 λq=>z (toList_inj q);rw [decide_eq_false z];clear z;go_enter Tryz.func60,Tryz.ntmps60;go_wp2_with fail;go_region_held3 (λw':World=>w'.cell? ⟨w.heap.size,2,none⟩=some (.string x.s)/\w'.cell? ⟨a.block,a.off+2,none⟩=some (.string y.s)) (first|exact⟨x2,y2⟩|exact⟨s0,s1⟩|exact⟨t0,t1⟩) (first
    |(go_at_call 96;refine(KM.o _ (z6 w0)).mono ?_;rintro e w1 ⟨rfl,b1⟩;have s0:=za b1 x2;have s1:=za b1 y2;have B1:=O (B0.o.trans (((z6 w0).trans b1).mono B0.o.size)))
    |(go_at_call 99;refine(jz _ _).mono ?_;rintro e w2 hp;have HP:=O (hp.up B1.o);obtain⟨b2,A2,n2,c2,rfl,-,-⟩:=hp;have t0:=za b2 s0;have t1:=za b2 s1))
   go_wp2_with fail;go_ret;exact HP.o
 ·rw [if_neg g];have KM:=O (λd os=>zG (some a) n c V 4 (grow (redrawn w0 d) os) (hv.keep (B0.o.trans ((below_regrown w0 d os).mono B0.o.size))) h0);simp only [if_neg g] at KM;clear hv h0 D g hx ee I1;go_enter Tryz.func60,Tryz.ntmps60;go_wp2_with fail;refine aN (l := [_,_,_]) [0,5,6] [1] (by kernel_rfl) (by decide) (by kernel_rfl) rfl (λw'=>∃p:Regrown,w'=grow (redrawn w0 p.d) p.os) (λch w'=>ch=bj 2/\Below w.heap.size w w') ⟨⟨w0.drawn+1,#[]⟩,by rw [grow_empty];rfl⟩ ?_ ?_
  ·rintro a' ch w' hd ⟨rfl,hg⟩;exact⟨hd,jx hg⟩
  ·repeat (first|go_big_quiet_step (fail)|quiet_step (fail))
   refine wpQuiet_nil ?_;refine⟨λo ho=>?_,trivial⟩;injection ho with ho;subst ho;refine⟨by go_simp,?_⟩;rintro w' ⟨⟨d',os⟩,rfl⟩;go_wp2_with fail;refine(KM.o d' os).mono ?_;rintro e w4 ⟨rfl,b4⟩;exact⟨rfl,B0.o.trans (((below_regrown w0 d' os).trans (b4.mono (below_regrown w0 d' os).size)).mono B0.o.size)⟩
theorem tB{w:World}{R:Nat}{k:Cx}(h:br w R k)(x:Nd)(hx:x.op=23)(hs:x.s.size<=maxLen)(A:Option Addr)(n c:Nat)(V:List Nd)(hv:Ns w A n c V)(h0:0<V.length):
 Calls Tryz.prog 60 #[.pointer (some ⟨R,0,none⟩),ndV x,.slice A n c] w (zU w (ar k.E x V)):=by
 have I1:=O (show ar k.E x V=if zf V=3 then jP (dM x.s (hdN V).s) (gi x.s (hdN V).s) else .error 2 by unfold ar;rw [if_neg (by omega),if_neg (by omega),if_pos hx]);have B0:=O (zb w (.cells #[.int .i64 23,.int .i64 x.n,.string x.s,.string x.t] 28));have X0:=O (fW w ⟨23,x.n,x.s,x.t⟩ 28);obtain⟨a,rfl,hn1,D,ee,-⟩:=jZ hv h0;have hn:(0:Int)<(n:Int):=by omega
 have hn0:0<n:=hn1;have HD:=O D;have sN:=O h.door;have KL:=O (λw=>ww x.s (hdN V).s w hs ee.s);rw [I1.o];unfold ndV;rw [hx];obtain⟨w0,hw0⟩:∃w0,w.alloc (.cells #[.int .i64 23,.int .i64 x.n,.string x.s,.string x.t] 28)=w0:=⟨_,rfl⟩
 rw [hw0] at B0 X0;obtain⟨x0,x1,x2,x3⟩:=X0.o;have k0:=cell_regrown x2;by_cases g:zf V=3
 ·rw [if_pos g];have KM:=O (λw' hb=>by have:=zG (some a) n c V 3 w' (hv.keep (B0.o.trans (Below.mono (w':=w') hb B0.o.size))) h0;rwa [if_pos g] at this);have y2:=(HD.o.keep B0.o).c2;generalize hdN V=y at *;clear hv h0 D g hx ee I1 hs h;generalize gi x.s y.s=b at *;by_cases z:dM x.s y.s=0
  ·have HT:=O (show jP (dM x.s y.s) b = .ok (zK b) by unfold jP;rw [if_pos z]);rw [HT.o];simp only [z,zk] at KL;clear z;go_enter Tryz.func60,Tryz.ntmps60;go_wp2_with fail;go_region_held3 (λw':World=>w'.cell? ⟨w.heap.size,2,none⟩=some (.string x.s)/\w'.cell? ⟨a.block,a.off+2,none⟩=some (.string y.s)) (first|exact⟨x2,y2⟩|exact⟨s0,s1⟩|exact⟨t0,t1⟩|exact⟨u0,u1⟩|exact⟨v0,v1⟩) (first
    |(go_at_call 96;refine(KM.o _ (z6 w0)).mono ?_;rintro e w1 ⟨rfl,b1⟩;have s0:=za b1 x2;have s1:=za b1 y2;have B1:=O (B0.o.trans (((z6 w0).trans b1).mono B0.o.size)))
    |(go_at_call 103;refine(KL.o _).mono ?_;rintro e w2 ⟨rfl,b2⟩;have t0:=za b2 s0;have t1:=za b2 s1;have B2:=bh B1 b2)
    |(go_at_call 102;refine(bT _ _).mono ?_;rintro e w3 ⟨rfl,b3⟩;have u0:=za b3 t0;have u1:=za b3 t1;have B3:=bh B2 b3)
    |(go_at_call 99;refine(jz _ _).mono ?_;rintro e w4 hp;have HP:=O (hp.up B3.o);obtain⟨b4,A2,n2,c2,rfl,-,-⟩:=hp;have v0:=za b4 u0;have v1:=za b4 u1))
   go_wp2_with fail;go_ret;exact HP.o
  ·have HT:=O (show jP (dM x.s y.s) b = .error (dM x.s y.s) by unfold jP;rw [if_neg z]);rw [HT.o];simp only [zn z] at KL;generalize dM x.s y.s=u at *;clear z;have R1:=rq (w:=w0) (λw' hb=>KM.o w' hb);have R3:=rq (w:=w0) (λw' _=>KL.o w');have k2:=cell_regrown y2;have KT:=O (λd' os=>cO (.bool b) u (grow (redrawn w0 d') os) ((sN.o.keep B0.o).keep (below_regrown w0 d' os)));go_enter Tryz.func60,Tryz.ntmps60;go_wp2_with fail;refine aN (l := [_,_,_,_,_,_,_,_,_,_]) [0,1,2,3,4,5,6,7,8,9] [10] (by kernel_rfl) (by decide) (by kernel_rfl) rfl (λw'=>∃p:Regrown,w'=grow (redrawn w0 p.d) p.os) (λch w'=>ch=bj u/\Below w.heap.size w w') ⟨⟨w0.drawn+1,#[]⟩,by rw [grow_empty];rfl⟩ ?_ ?_
   ·rintro a' ch w' hd ⟨rfl,hg⟩;exact⟨hd,jx hg⟩
   ·repeat (first|go_big_quiet_step (first|with_reducible exact R1 _ _|with_reducible exact R3 _ _)|quiet_step (first|with_reducible exact R1 _ _|with_reducible exact R3 _ _))
    refine wpQuiet_nil ?_;refine⟨λo ho=>?_,trivial⟩;injection ho with ho;subst ho;refine⟨by go_simp,?_⟩;rintro w' ⟨⟨d',os⟩,rfl⟩;go_wp2_with fail;refine(KT.o d' os).mono ?_;rintro e w4 ⟨rfl,b4⟩;exact⟨rfl,B0.o.trans (((below_regrown w0 d' os).trans (b4.mono (below_regrown w0 d' os).size)).mono B0.o.size)⟩
 ·rw [if_neg g];have KM:=O (λd os=>zG (some a) n c V 3 (grow (redrawn w0 d) os) (hv.keep (B0.o.trans ((below_regrown w0 d os).mono B0.o.size))) h0);simp only [if_neg g] at KM;clear hv h0 D g hx ee I1 hs h;go_enter Tryz.func60,Tryz.ntmps60;go_wp2_with fail;refine aN (l := [_,_,_]) [0,1,2] [3] (by kernel_rfl) (by decide) (by kernel_rfl) rfl (λw'=>∃p:Regrown,w'=grow (redrawn w0 p.d) p.os) (λch w'=>ch=bj 2/\Below w.heap.size w w') ⟨⟨w0.drawn+1,#[]⟩,by rw [grow_empty];rfl⟩ ?_ ?_
  ·rintro a' ch w' hd ⟨rfl,hg⟩;exact⟨hd,jx hg⟩
  ·repeat (first|go_big_quiet_step (fail)|quiet_step (fail))
   refine wpQuiet_nil ?_;refine⟨λo ho=>?_,trivial⟩;injection ho with ho;subst ho;refine⟨by go_simp,?_⟩;rintro w' ⟨⟨d',os⟩,rfl⟩;go_wp2_with fail;refine(KM.o d' os).mono ?_;rintro e w4 ⟨rfl,b4⟩;exact⟨rfl,B0.o.trans (((below_regrown w0 d' os).trans (b4.mono (below_regrown w0 d' os).size)).mono B0.o.size)⟩
theorem tK(A B:Option Addr)(n m c d:Nat)(P Q:List Nd)(w:World)(hn:n=P.length)(hm:m=Q.length)(hln:n<=maxLen)(yj:m<=maxLen)(hP:jo w A P)(hQ:jo w B Q):
 Calls Tryz.prog 107 #[.slice A n c,.slice B m d] w λe w'=>e = .returned (.bool (decide (zC P Q=0)))/\Below w.heap.size w w':=by
 unfold maxLen at hln yj;have HN:=O hn;have HM:=O hm;have HP:=O hP;have HQ:=O hQ;clear hn hm hP hQ;by_cases hl:n=m
 ·subst hl;go_enter Tryz.func107,Tryz.ntmps107;go_wp2_with fail;go_loopw [5,13] (λ_ i wr=>∃k:Nat,k<=n/\i = .int .i64 k/\Hid (zC P Q=zC (P.drop k) (Q.drop k))/\Hid (Below w.heap.size w wr)) (λ_ i _=>n-(intOf i).toNat)
  case atStart=>exact⟨0,Nat.zero_le _,rfl,rfl,Below.refl _ _⟩
  case round =>
   obtain⟨k,hk,rfl,hE,hB⟩:=hrel;by_cases hlt:k<n
   ·have h1:k<P.length:=by rw [<-HN.o];exact hlt
    have h2:k<Q.length:=by rw [<-HM.o];exact hlt
    obtain⟨a,rfl,a1,a2,a3,a4⟩:=(HP.o.keep hB.o) k P[k] (List.getElem?_eq_getElem h1);obtain⟨b,rfl,b1,b2,b3,b4⟩:=(HQ.o.keep hB.o) k Q[k] (List.getElem?_eq_getElem h2);by_cases he:P[k]=Q[k]
    ·have HE:=O (hE.o.trans ((cU h1 h2).trans (by rw [nG he,zS])));rw [he] at a1 a2 a3 a4;generalize Q[k]=y at *;clear he hE;go_wp2_with fail;go_quiet (fail);go_wp2_with fail;go_roundw
     case rel=>exact⟨k+1,by omega,by go_num,HE,hB.o.drewN _⟩
     case measure=>simp [intOf];omega
    ·have HE:=O (df h1 h2 he hE.o);have hne:=λw=>xm he w;generalize P[k]=x at *;generalize Q[k]=y at *;clear he hE;go_wp2_with fail;go_quiet (fail);go_wp2_with fail;go_ret;exact⟨zl (decide_eq_false HE.o).symm,hB.o.drewN _⟩
   ·have HE:=O (hE.o.trans (cA (by rw [<-HN.o];omega) (by rw [<-HM.o];omega)));clear hE;go_wp2_with fail;go_ret;exact⟨zl (decide_eq_true HE.o).symm,hB.o⟩
 ·have HE:=O (show zC P Q≠0 from λh=>hl (by rw [HN.o,HM.o,(z7.zero _ _).1 h]));have h3:(n != m)=true:=by rw [bne_iff_ne];exact hl
  clear hl;go_enter Tryz.func107,Tryz.ntmps107;go_wp2_with fail;go_ret;exact⟨zl (decide_eq_false HE.o).symm,Below.refl _ _⟩
theorem uv(a:Addr)(n c:Nat)(P:List Nd)(w:World)(h:Ns w (some a) n c P)(hl:P.length<=100000):
 Calls Tryz.prog 29 #[.slice (some a) n c] w (Dv w P):=by
 obtain⟨i0,hi,hz0,hz1,hz2⟩:=info_parts mS;have hn:=h.len;have HC:=O (λw' hb=>(h.at_.keep (w':=w') hb).cells);have HO:=O h.ok;have HL:=O hl;clear h hl;subst hn;have hnil:=λw:World=>Lib.run_eql_slice_nil (P:=Tryz.prog) w 70 28 (some a) P.length c 0 0 Tryz.underlying70;simp only [Option.isNone_some] at hnil;go_enter Tryz.func29,Tryz.ntmps29;have hB:∀W:World,(W.alloc (.cells #[] 28)).ownsRow W.heap.size 28 4 (.slice (some ⟨W.heap.size,0,none⟩) 0 0) 0 []:=λW =>
  ⟨rfl,.inr ⟨_,0,#[],rfl,Nat.le_refl _,heap_alloc_new W _,Nat.le_refl _,by unfold maxLen;omega,rfl,rfl⟩⟩
 go_wp2_with (at_builtin;refine wpList_append_own _ rfl _ _ 70 rfl w.heap.size 28 i0 _ 4 48 Tryz.underlying70 hi hz0 hz1 hz2 rfl (by decide) _ 0 [] rfl (hB w) a P.length c (zT P) rfl (aZ P) (HC.o _ (zb _ _)) (cz P) ?c1 ?c2 ?c3 ?_)
 case c1=>have:=HL.o;unfold maxLen;omega
 case c2=>have:=HL.o;omega
 case c3=>simp
 intro v1 w1 hown hgrow _;have HW:=O hown;have HG:=O hgrow;clear hown hgrow hnil;go_wp2_with fail;go_ret;obtain⟨A,c',rfl,h1,h2,h3⟩:=aT HW.o;refine⟨A,c',rfl,⟨rfl,h1,by have:=HL.o;unfold maxLen;omega,h2,HO.o⟩,h3,?_⟩;exact(zb w _).grown HG.o (by simp) (λk hk=>by simp [Value.ownBlock] at hk;omega)
theorem Cu{w:World}{R:Nat}{k:Cx}(_h:br w R k)(A B:Option Addr)(n m c d:Nat)(P Q:List Nd)(hP:Ns w A n c P)(hQ:Ns w B m d Q):
 Calls Tryz.prog 61 #[.pointer (some ⟨R,0,none⟩),.int .i64 14,.slice A n c,.slice B m d] w (zU w (j7 k.E 14 P Q)):=by
 have K:=O (tK A B n m c d P Q w hP.len hQ.len hP.max hQ.max hP.at_ hQ.at_);have HR:=O (show j7 k.E 14 P Q = .ok (zK (decide (zC P Q=0))) by unfold j7;rw [if_pos rfl]);rw [HR.o];generalize decide (zC P Q=0)=b at *;clear hP hQ;go_enter Tryz.func61,Tryz.ntmps61;go_wp2_with fail;refine K.o.mono ?_;rintro e w1 ⟨rfl,b1⟩;have B1:=O b1;clear b1 K;go_wp2_with fail;refine(jz b w1).mono ?_;rintro e w2 hp;have HP:=O (hp.up B1.o);obtain⟨-,A2,n2,c2,rfl,-,-⟩:=hp;go_wp2_with fail;go_ret;exact HP.o
theorem xf{w:World}{R:Nat}{k:Cx}(h:br w R k)(A B:Option Addr)(n m c d:Nat)(P Q:List Nd)(hP:Ns w A n c P)(hQ:Ns w B m d Q):
 Calls Tryz.prog 61 #[.pointer (some ⟨R,0,none⟩),.int .i64 25,.slice A n c,.slice B m d] w (zU w (j7 k.E 25 P Q)):=by
 have K:=O (Is A B n m c d P Q w hP hQ);have sN:=O h.door;have HR:=O (show j7 k.E 25 P Q=jP (kH P Q) (lQ P Q) by unfold j7;rw [if_neg (by decide),if_neg (by decide),if_pos rfl]);rw [HR.o];generalize lQ P Q=b at *;generalize kH P Q=u at *;clear h hP hQ;by_cases z:u=0
 ·subst z;rw [zk] at K;have HT:=O (show jP 0 b = .ok (zK b) by unfold jP;rw [if_pos rfl]);rw [HT.o];go_enter Tryz.func61,Tryz.ntmps61;go_wp2_with fail;refine K.o.mono ?_;rintro e w1 ⟨rfl,b1⟩;have B1:=O b1;clear b1 K;go_wp2_with fail;refine(bT (.bool b) w1).mono ?_;rintro e w2 ⟨rfl,b2⟩;have B2:=bh B1 b2;clear b2 B1;go_wp2_with fail;refine(jz b w2).mono ?_;rintro e w3 hp;have HP:=O (hp.up B2.o);obtain⟨-,A2,n2,c2,rfl,-,-⟩:=hp;go_wp2_with fail;go_ret;exact HP.o
 ·rw [zn z] at K;have HT:=O (show jP u b = .error u by unfold jP;rw [if_neg z]);rw [HT.o];clear z;go_enter Tryz.func61,Tryz.ntmps61;go_wp2_with fail;refine K.o.mono ?_;rintro e w1 ⟨rfl,b1⟩;have B1:=O b1;clear b1 K;go_wp2_with fail;refine(cO (.bool b) u w1 (sN.o.keep B1.o)).mono ?_;rintro e w2 ⟨rfl,b2⟩;have B2:=bh B1 b2;clear b2 B1;go_wp2_with fail;exact⟨rfl,jx B2.o⟩
theorem wi{w:World}{R:Nat}{k:Cx}(h:br w R k)(A B:Option Addr)(n m c d:Nat)(P Q:List Nd)(hP:Ns w A n c P)(hQ:Ns w B m d Q):
 Calls Tryz.prog 61 #[.pointer (some ⟨R,0,none⟩),.int .i64 26,.slice A n c,.slice B m d] w (zU w (j7 k.E 26 P Q)):=by
 have K:=O (Hr A B n m c d P Q w hP hQ);have sN:=O h.door;have HR:=O (show j7 k.E 26 P Q=jP (jT P Q) (sd P Q) by unfold j7;rw [if_neg (by decide),if_neg (by decide),if_neg (by decide),if_pos rfl]);rw [HR.o];generalize sd P Q=b at *;generalize jT P Q=u at *;clear h hP hQ;by_cases z:u=0
 ·subst z;rw [zk] at K;have HT:=O (show jP 0 b = .ok (zK b) by unfold jP;rw [if_pos rfl]);rw [HT.o];go_enter Tryz.func61,Tryz.ntmps61;go_wp2_with fail;refine K.o.mono ?_;rintro e w1 ⟨rfl,b1⟩;have B1:=O b1;clear b1 K;go_wp2_with fail;refine(bT (.bool b) w1).mono ?_;rintro e w2 ⟨rfl,b2⟩;have B2:=bh B1 b2;clear b2 B1;go_wp2_with fail;refine(jz b w2).mono ?_;rintro e w3 hp;have HP:=O (hp.up B2.o);obtain⟨-,A2,n2,c2,rfl,-,-⟩:=hp;go_wp2_with fail;go_ret;exact HP.o
 ·rw [zn z] at K;have HT:=O (show jP u b = .error u by unfold jP;rw [if_neg z]);rw [HT.o];clear z;go_enter Tryz.func61,Tryz.ntmps61;go_wp2_with fail;refine K.o.mono ?_;rintro e w1 ⟨rfl,b1⟩;have B1:=O b1;clear b1 K;go_wp2_with fail;refine(cO (.bool b) u w1 (sN.o.keep B1.o)).mono ?_;rintro e w2 ⟨rfl,b2⟩;have B2:=bh B1 b2;clear b2 B1;go_wp2_with fail;exact⟨rfl,jx B2.o⟩
theorem wl{w:World}{R:Nat}{k:Cx}(h:br w R k)(A B:Option Addr)(n m c d:Nat)(P Q:List Nd)(hP:Ns w A n c P)(hQ:Ns w B m d Q):
 Calls Tryz.prog 61 #[.pointer (some ⟨R,0,none⟩),.int .i64 27,.slice A n c,.slice B m d] w (zU w (j7 k.E 27 P Q)):=by
 have K:=O (Hx A B n m c d P Q w hP hQ);have sN:=O h.door;have HR:=O (show j7 k.E 27 P Q=jP (jT P Q) (uR P Q) by unfold j7;rw [if_neg (by decide),if_neg (by decide),if_neg (by decide),if_neg (by decide),if_pos rfl]);rw [HR.o];generalize uR P Q=b at *;generalize jT P Q=u at *;clear h hP hQ;by_cases z:u=0
 ·subst z;rw [zk] at K;have HT:=O (show jP 0 b = .ok (zK b) by unfold jP;rw [if_pos rfl]);rw [HT.o];go_enter Tryz.func61,Tryz.ntmps61;go_wp2_with fail;refine K.o.mono ?_;rintro e w1 ⟨rfl,b1⟩;have B1:=O b1;clear b1 K;go_wp2_with fail;refine(bT (.bool b) w1).mono ?_;rintro e w2 ⟨rfl,b2⟩;have B2:=bh B1 b2;clear b2 B1;go_wp2_with fail;refine(jz b w2).mono ?_;rintro e w3 hp;have HP:=O (hp.up B2.o);obtain⟨-,A2,n2,c2,rfl,-,-⟩:=hp;go_wp2_with fail;go_ret;exact HP.o
 ·rw [zn z] at K;have HT:=O (show jP u b = .error u by unfold jP;rw [if_neg z]);rw [HT.o];clear z;go_enter Tryz.func61,Tryz.ntmps61;go_wp2_with fail;refine K.o.mono ?_;rintro e w1 ⟨rfl,b1⟩;have B1:=O b1;clear b1 K;go_wp2_with fail;refine(cO (.bool b) u w1 (sN.o.keep B1.o)).mono ?_;rintro e w2 ⟨rfl,b2⟩;have B2:=bh B1 b2;clear b2 B1;go_wp2_with fail;exact⟨rfl,jx B2.o⟩
end Go.Proofs.YtokiogmfgpidmaaGreatDoor
