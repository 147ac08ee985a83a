/-
  The contracts of num.Do, num.Neg and the reference's Done. eval.single: a node ..
-/
import Derived.Test.YtokiogmfgpidmaaGreatDoorD14
import Derived.Test.YtokiogmfgpidmaaGreatDoorD34
set_option maxRecDepth 100000
set_option maxHeartbeats 4000000
namespace Go.Proofs.YtokiogmfgpidmaaGreatDoor
open Go.RowKit Go.Wk
theorem bits_Mul64(x y:Nat)(w:World)(hx:x<18446744073709551616)(hy:y<18446744073709551616):
 Calls Tryz.prog 154 #[.int .u64 x,.int .u64 y] w λe w'=>e = .returned (.tuple #[.int .u64 (zeI x y:Int),.int .u64 (zeY x y:Int)])/\w=w' :=
 (Tryz.bits_Mul64 x y hx hy w).mono λ_ _ ⟨h1,h2⟩=>⟨h1,h2.symm⟩
theorem zeQ{a b:Int}(h:a=b):Ending.returned (.int .u64 a)= .returned (.int .u64 b):=by rw [h]
theorem jz(a:Int)(w:World)(h0 : -9223372036854775808<=a)(h1:a<=9223372036854775807):
 Calls Tryz.prog 155 #[.int .i64 a] w λe w'=>e = .returned (.int .u64 (a.natAbs:Int))/\w=w':=by
 by_cases h:a<0
 ·have H:=O (show IntKind.u64.wrap (-IntKind.u64.wrap a)=(a.natAbs:Int) by simp only [IntKind.wrap_u64];omega);go_enter Tryz.func155,Tryz.ntmps155;go_wp2;go_ret;exact⟨zeQ H.o,rfl⟩
 ·have H:=O (show a=(a.natAbs:Int) by omega);go_enter Tryz.func155,Tryz.ntmps155;go_wp2;go_ret;exact⟨zeQ H.o,rfl⟩
theorem zdX(a b:Int)(w:World)(ha:I64 a)(hb:I64 b)(h:pV (a+b)=true):
 Calls Tryz.prog 112 #[.int .i64 17,.int .i64 a,.int .i64 b] w λe w'=>e = .returned (.tuple #[.int .i64 (a+b),.nilIface])/\w=w':=by
 obtain⟨f1,f2⟩:=(ID _).1 h;obtain⟨a1,a2⟩:=ha;obtain⟨b1,b2⟩:=hb;clear h;by_cases q1:a<0 <;> by_cases q2:b<0 <;> by_cases q3:a+b<0 <;> first|(exfalso;omega)|skip
 all_goals
  go_enter Tryz.func112,Tryz.ntmps112;go_wp2;go_ret2;exact⟨rfl,rfl⟩
theorem zby(a b:Int)(w:World)(ha:I64 a)(hb:I64 b)(h:pV (a+b)=false):
 Calls Tryz.prog 112 #[.int .i64 17,.int .i64 a,.int .i64 b] w λe w'=>e = .returned (.tuple #[.int .i64 0,fa 5])/\w=w':=by
 have hf:=(QB _).1 h;obtain⟨a1,a2⟩:=ha;obtain⟨b1,b2⟩:=hb;clear h;rcases hf with hf|hf
 ·have q1:a<0:=by omega
  have q2:b<0:=by omega
  have q3:¬wrap64 (a+b)<0:=by unfold wrap64;omega
  clear hf;go_enter Tryz.func112,Tryz.ntmps112;go_wp2;go_ret2;exact⟨rfl,rfl⟩
 ·have q1:¬a<0:=by omega
  have q2:¬b<0:=by omega
  have q3:wrap64 (a+b)<0:=by unfold wrap64;omega
  clear hf;go_enter Tryz.func112,Tryz.ntmps112;go_wp2;go_ret2;exact⟨rfl,rfl⟩
theorem zdV(a b:Int)(w:World)(ha:I64 a)(hb:I64 b)(h:pV (a-b)=true):
 Calls Tryz.prog 112 #[.int .i64 18,.int .i64 a,.int .i64 b] w λe w'=>e = .returned (.tuple #[.int .i64 (a-b),.nilIface])/\w=w':=by
 obtain⟨f1,f2⟩:=(ID _).1 h;obtain⟨a1,a2⟩:=ha;obtain⟨b1,b2⟩:=hb;clear h;by_cases q1:a<0 <;> by_cases q2:b<0 <;> by_cases q3:a-b<0 <;> first|(exfalso;omega)|skip
 all_goals
  go_enter Tryz.func112,Tryz.ntmps112;go_wp2;go_ret2;exact⟨rfl,rfl⟩
theorem zae(a b:Int)(w:World)(ha:I64 a)(hb:I64 b)(h:pV (a-b)=false):
 Calls Tryz.prog 112 #[.int .i64 18,.int .i64 a,.int .i64 b] w λe w'=>e = .returned (.tuple #[.int .i64 0,fa 5])/\w=w':=by
 have hf:=(QB _).1 h;obtain⟨a1,a2⟩:=ha;obtain⟨b1,b2⟩:=hb;clear h;rcases hf with hf|hf
 ·have q1:a<0:=by omega
  have q2:¬b<0:=by omega
  have q3:¬wrap64 (a-b)<0:=by unfold wrap64;omega
  clear hf;go_enter Tryz.func112,Tryz.ntmps112;go_wp2;go_ret2;exact⟨rfl,rfl⟩
 ·have q1:¬a<0:=by omega
  have q2:b<0:=by omega
  have q3:wrap64 (a-b)<0:=by unfold wrap64;omega
  clear hf;go_enter Tryz.func112,Tryz.ntmps112;go_wp2;go_ret2;exact⟨rfl,rfl⟩
theorem Yn(a b:Int)(w:World)(ha:I64 a)(hb:I64 b)(h:pV (a+b)=true):
 Calls Tryz.prog 79 #[.int .i64 17,.int .i64 a,.int .i64 b] w λe w'=>e = .returned (.tuple #[.int .i64 (a+b),.int .i64 0])/\w=w':=by
 obtain⟨f1,f2⟩:=(ID _).1 h;obtain⟨a1,a2⟩:=ha;obtain⟨b1,b2⟩:=hb;clear h;by_cases q2:b<0
 ·have q3:¬a<a+b:=by omega
  go_enter Tryz.func79,Tryz.ntmps79;go_wp2;go_ret2;exact⟨rfl,rfl⟩
 ·have q3:¬a+b<a:=by omega
  go_enter Tryz.func79,Tryz.ntmps79;go_wp2;go_ret2;exact⟨rfl,rfl⟩
theorem Wp(a b:Int)(w:World)(ha:I64 a)(hb:I64 b)(h:pV (a+b)=false):
 Calls Tryz.prog 79 #[.int .i64 17,.int .i64 a,.int .i64 b] w λe w'=>e = .returned (.tuple #[.int .i64 0,.int .i64 5])/\w=w':=by
 have hf:=(QB _).1 h;obtain⟨a1,a2⟩:=ha;obtain⟨b1,b2⟩:=hb;clear h;rcases hf with hf|hf
 ·have q1:a<0:=by omega
  have q2:b<0:=by omega
  have q3:a<wrap64 (a+b):=by unfold wrap64;omega
  clear hf;go_enter Tryz.func79,Tryz.ntmps79;go_wp2;go_ret2;exact⟨rfl,rfl⟩
 ·have q1:¬a<0:=by omega
  have q2:¬b<0:=by omega
  have q3:wrap64 (a+b)<a:=by unfold wrap64;omega
  clear hf;go_enter Tryz.func79,Tryz.ntmps79;go_wp2;go_ret2;exact⟨rfl,rfl⟩
theorem QA(a b:Int)(w:World)(ha:I64 a)(hb:I64 b)(h:pV (a-b)=true):
 Calls Tryz.prog 79 #[.int .i64 18,.int .i64 a,.int .i64 b] w λe w'=>e = .returned (.tuple #[.int .i64 (a-b),.int .i64 0])/\w=w':=by
 obtain⟨f1,f2⟩:=(ID _).1 h;obtain⟨a1,a2⟩:=ha;obtain⟨b1,b2⟩:=hb;clear h;by_cases q2:b<0
 ·have q3:¬a-b<a:=by omega
  go_enter Tryz.func79,Tryz.ntmps79;go_wp2;go_ret2;exact⟨rfl,rfl⟩
 ·have q3:¬a<a-b:=by omega
  go_enter Tryz.func79,Tryz.ntmps79;go_wp2;go_ret2;exact⟨rfl,rfl⟩
theorem OX(a b:Int)(w:World)(ha:I64 a)(hb:I64 b)(h:pV (a-b)=false):
 Calls Tryz.prog 79 #[.int .i64 18,.int .i64 a,.int .i64 b] w λe w'=>e = .returned (.tuple #[.int .i64 0,.int .i64 5])/\w=w':=by
 have hf:=(QB _).1 h;obtain⟨a1,a2⟩:=ha;obtain⟨b1,b2⟩:=hb;clear h;rcases hf with hf|hf
 ·have q1:a<0:=by omega
  have q2:¬b<0:=by omega
  have q3:a<wrap64 (a-b):=by unfold wrap64;omega
  clear hf;go_enter Tryz.func79,Tryz.ntmps79;go_wp2;go_ret2;exact⟨rfl,rfl⟩
 ·have q1:¬a<0:=by omega
  have q2:b<0:=by omega
  have q3:wrap64 (a-b)<a:=by unfold wrap64;omega
  clear hf;go_enter Tryz.func79,Tryz.ntmps79;go_wp2;go_ret2;exact⟨rfl,rfl⟩
theorem zlz(op a b:Int)(w:World)(h1:op≠17)(h2:op≠18)(h3:op≠19):
 Calls Tryz.prog 112 #[.int .i64 op,.int .i64 a,.int .i64 b] w λe w'=>e = .returned (.tuple #[.int .i64 0,fa 1])/\w=w':=by
 have q1:=beq_eq_false_iff_ne.2 h1;have q2:=beq_eq_false_iff_ne.2 h2;have q3:=beq_eq_false_iff_ne.2 h3;clear h1 h2 h3;go_enter Tryz.func112,Tryz.ntmps112;go_wp2;go_ret2;exact⟨rfl,rfl⟩
theorem zfL(op a b:Int)(w:World)(h1:op≠17)(h2:op≠18)(h3:op≠19):
 Calls Tryz.prog 79 #[.int .i64 op,.int .i64 a,.int .i64 b] w λe w'=>e = .returned (.tuple #[.int .i64 0,.int .i64 1])/\w=w':=by
 have q1:=beq_eq_false_iff_ne.2 h1;have q2:=beq_eq_false_iff_ne.2 h2;have q3:=beq_eq_false_iff_ne.2 h3;clear h1 h2 h3;go_enter Tryz.func79,Tryz.ntmps79;go_wp2;go_ret2;exact⟨rfl,rfl⟩
theorem XU(a b:Int)(w:World)(a1 : -9223372036854775808<=a)(a2:a<=9223372036854775807)(b1 : -9223372036854775808<=b)(b2:b<=9223372036854775807)(hi lo:Nat)
 (M:Hid (∀w,Calls Tryz.prog 154 #[.int .u64 (a.natAbs:Int),.int .u64 (b.natAbs:Int)] w λe w'=>e = .returned (.tuple #[.int .u64 (hi:Int),.int .u64 (lo:Int)])/\w=w'))
 (q1:¬a<0) (q2:¬b<0) (p1:0<(hi:Int)):
 Calls Tryz.prog 112 #[.int .i64 19,.int .i64 a,.int .i64 b] w λe w'=>e = .returned (.tuple #[.int .i64 0,fa 5])/\w=w':=by
 have S1:=O (λw=>jz a w a1 a2);have S2:=O (λw=>jz b w b1 b2);have hs:(!decide (a<0)==decide (b<0))=false:=by simp [q1,q2]
 clear a1 a2 b1 b2;go_enter Tryz.func112,Tryz.ntmps112;go_wp2_with fail;refine(S1.o _).mono ?_;rintro e w1 ⟨rfl,rfl⟩;go_wp2_with fail;refine(S2.o _).mono ?_;rintro e w1 ⟨rfl,rfl⟩;generalize hx:(a.natAbs:Int)=x at *;generalize hy:(b.natAbs:Int)=y at *;clear hx hy S1 S2;go_wp2_with fail;refine(M.o _).mono ?_;rintro e w1 ⟨rfl,rfl⟩;clear M;go_wp2;go_ret2;exact⟨rfl,rfl⟩
theorem Yk(a b:Int)(w:World)(a1 : -9223372036854775808<=a)(a2:a<=9223372036854775807)(b1 : -9223372036854775808<=b)(b2:b<=9223372036854775807)(hi lo:Nat)
 (M:Hid (∀w,Calls Tryz.prog 154 #[.int .u64 (a.natAbs:Int),.int .u64 (b.natAbs:Int)] w λe w'=>e = .returned (.tuple #[.int .u64 (hi:Int),.int .u64 (lo:Int)])/\w=w'))
 (q1:¬a<0) (q2:¬b<0) (p1:¬0<(hi:Int)) (p2:(9223372036854775807:Int)<(lo:Int)):
 Calls Tryz.prog 112 #[.int .i64 19,.int .i64 a,.int .i64 b] w λe w'=>e = .returned (.tuple #[.int .i64 0,fa 5])/\w=w':=by
 have S1:=O (λw=>jz a w a1 a2);have S2:=O (λw=>jz b w b1 b2);have hs:(!decide (a<0)==decide (b<0))=false:=by simp [q1,q2]
 clear a1 a2 b1 b2;go_enter Tryz.func112,Tryz.ntmps112;go_wp2_with fail;refine(S1.o _).mono ?_;rintro e w1 ⟨rfl,rfl⟩;go_wp2_with fail;refine(S2.o _).mono ?_;rintro e w1 ⟨rfl,rfl⟩;generalize hx:(a.natAbs:Int)=x at *;generalize hy:(b.natAbs:Int)=y at *;clear hx hy S1 S2;go_wp2_with fail;refine(M.o _).mono ?_;rintro e w1 ⟨rfl,rfl⟩;clear M;go_wp2;go_ret2;exact⟨rfl,rfl⟩
theorem WC(a b:Int)(w:World)(a1 : -9223372036854775808<=a)(a2:a<=9223372036854775807)(b1 : -9223372036854775808<=b)(b2:b<=9223372036854775807)(hi lo:Nat)
 (M:Hid (∀w,Calls Tryz.prog 154 #[.int .u64 (a.natAbs:Int),.int .u64 (b.natAbs:Int)] w λe w'=>e = .returned (.tuple #[.int .u64 (hi:Int),.int .u64 (lo:Int)])/\w=w'))
 (q1:¬a<0) (q2:¬b<0) (p1:¬0<(hi:Int)) (p2:¬(9223372036854775807:Int)<(lo:Int)):
 Calls Tryz.prog 112 #[.int .i64 19,.int .i64 a,.int .i64 b] w λe w'=>e = .returned (.tuple #[.int .i64 (wrap64 (a*b)),.nilIface])/\w=w':=by
 have S1:=O (λw=>jz a w a1 a2);have S2:=O (λw=>jz b w b1 b2);have hs:(!decide (a<0)==decide (b<0))=false:=by simp [q1,q2]
 clear a1 a2 b1 b2;go_enter Tryz.func112,Tryz.ntmps112;go_wp2_with fail;refine(S1.o _).mono ?_;rintro e w1 ⟨rfl,rfl⟩;go_wp2_with fail;refine(S2.o _).mono ?_;rintro e w1 ⟨rfl,rfl⟩;generalize hx:(a.natAbs:Int)=x at *;generalize hy:(b.natAbs:Int)=y at *;clear hx hy S1 S2;go_wp2_with fail;refine(M.o _).mono ?_;rintro e w1 ⟨rfl,rfl⟩;clear M;go_wp2;go_ret2;exact⟨rfl,rfl⟩
theorem Zx(a b:Int)(w:World)(a1 : -9223372036854775808<=a)(a2:a<=9223372036854775807)(b1 : -9223372036854775808<=b)(b2:b<=9223372036854775807)(hi lo:Nat)
 (M:Hid (∀w,Calls Tryz.prog 154 #[.int .u64 (a.natAbs:Int),.int .u64 (b.natAbs:Int)] w λe w'=>e = .returned (.tuple #[.int .u64 (hi:Int),.int .u64 (lo:Int)])/\w=w'))
 (q1:a<0) (q2:b<0) (p1:0<(hi:Int)):
 Calls Tryz.prog 112 #[.int .i64 19,.int .i64 a,.int .i64 b] w λe w'=>e = .returned (.tuple #[.int .i64 0,fa 5])/\w=w':=by
 have S1:=O (λw=>jz a w a1 a2);have S2:=O (λw=>jz b w b1 b2);have hs:(!decide (a<0)==decide (b<0))=false:=by simp [q1,q2]
 clear a1 a2 b1 b2;go_enter Tryz.func112,Tryz.ntmps112;go_wp2_with fail;refine(S1.o _).mono ?_;rintro e w1 ⟨rfl,rfl⟩;go_wp2_with fail;refine(S2.o _).mono ?_;rintro e w1 ⟨rfl,rfl⟩;generalize hx:(a.natAbs:Int)=x at *;generalize hy:(b.natAbs:Int)=y at *;clear hx hy S1 S2;go_wp2_with fail;refine(M.o _).mono ?_;rintro e w1 ⟨rfl,rfl⟩;clear M;go_wp2;go_ret2;exact⟨rfl,rfl⟩
theorem YW(a b:Int)(w:World)(a1 : -9223372036854775808<=a)(a2:a<=9223372036854775807)(b1 : -9223372036854775808<=b)(b2:b<=9223372036854775807)(hi lo:Nat)
 (M:Hid (∀w,Calls Tryz.prog 154 #[.int .u64 (a.natAbs:Int),.int .u64 (b.natAbs:Int)] w λe w'=>e = .returned (.tuple #[.int .u64 (hi:Int),.int .u64 (lo:Int)])/\w=w'))
 (q1:a<0) (q2:b<0) (p1:¬0<(hi:Int)) (p2:(9223372036854775807:Int)<(lo:Int)):
 Calls Tryz.prog 112 #[.int .i64 19,.int .i64 a,.int .i64 b] w λe w'=>e = .returned (.tuple #[.int .i64 0,fa 5])/\w=w':=by
 have S1:=O (λw=>jz a w a1 a2);have S2:=O (λw=>jz b w b1 b2);have hs:(!decide (a<0)==decide (b<0))=false:=by simp [q1,q2]
 clear a1 a2 b1 b2;go_enter Tryz.func112,Tryz.ntmps112;go_wp2_with fail;refine(S1.o _).mono ?_;rintro e w1 ⟨rfl,rfl⟩;go_wp2_with fail;refine(S2.o _).mono ?_;rintro e w1 ⟨rfl,rfl⟩;generalize hx:(a.natAbs:Int)=x at *;generalize hy:(b.natAbs:Int)=y at *;clear hx hy S1 S2;go_wp2_with fail;refine(M.o _).mono ?_;rintro e w1 ⟨rfl,rfl⟩;clear M;go_wp2;go_ret2;exact⟨rfl,rfl⟩
theorem Wr(a b:Int)(w:World)(a1 : -9223372036854775808<=a)(a2:a<=9223372036854775807)(b1 : -9223372036854775808<=b)(b2:b<=9223372036854775807)(hi lo:Nat)
 (M:Hid (∀w,Calls Tryz.prog 154 #[.int .u64 (a.natAbs:Int),.int .u64 (b.natAbs:Int)] w λe w'=>e = .returned (.tuple #[.int .u64 (hi:Int),.int .u64 (lo:Int)])/\w=w'))
 (q1:a<0) (q2:b<0) (p1:¬0<(hi:Int)) (p2:¬(9223372036854775807:Int)<(lo:Int)):
 Calls Tryz.prog 112 #[.int .i64 19,.int .i64 a,.int .i64 b] w λe w'=>e = .returned (.tuple #[.int .i64 (wrap64 (a*b)),.nilIface])/\w=w':=by
 have S1:=O (λw=>jz a w a1 a2);have S2:=O (λw=>jz b w b1 b2);have hs:(!decide (a<0)==decide (b<0))=false:=by simp [q1,q2]
 clear a1 a2 b1 b2;go_enter Tryz.func112,Tryz.ntmps112;go_wp2_with fail;refine(S1.o _).mono ?_;rintro e w1 ⟨rfl,rfl⟩;go_wp2_with fail;refine(S2.o _).mono ?_;rintro e w1 ⟨rfl,rfl⟩;generalize hx:(a.natAbs:Int)=x at *;generalize hy:(b.natAbs:Int)=y at *;clear hx hy S1 S2;go_wp2_with fail;refine(M.o _).mono ?_;rintro e w1 ⟨rfl,rfl⟩;clear M;go_wp2;go_ret2;exact⟨rfl,rfl⟩
theorem XZ(a b:Int)(w:World)(a1 : -9223372036854775808<=a)(a2:a<=9223372036854775807)(b1 : -9223372036854775808<=b)(b2:b<=9223372036854775807)(hi lo:Nat)
 (M:Hid (∀w,Calls Tryz.prog 154 #[.int .u64 (a.natAbs:Int),.int .u64 (b.natAbs:Int)] w λe w'=>e = .returned (.tuple #[.int .u64 (hi:Int),.int .u64 (lo:Int)])/\w=w'))
 (q1:a<0) (q2:¬b<0) (p1:0<(hi:Int)):
 Calls Tryz.prog 112 #[.int .i64 19,.int .i64 a,.int .i64 b] w λe w'=>e = .returned (.tuple #[.int .i64 0,fa 5])/\w=w':=by
 have S1:=O (λw=>jz a w a1 a2);have S2:=O (λw=>jz b w b1 b2);have hs:(!decide (a<0)==decide (b<0))=true:=by simp [q1,q2]
 have hs2:(!decide (b<0))=true:=by simp [q2]
 clear a1 a2 b1 b2;go_enter Tryz.func112,Tryz.ntmps112;go_wp2_with fail;refine(S1.o _).mono ?_;rintro e w1 ⟨rfl,rfl⟩;go_wp2_with fail;refine(S2.o _).mono ?_;rintro e w1 ⟨rfl,rfl⟩;generalize hx:(a.natAbs:Int)=x at *;generalize hy:(b.natAbs:Int)=y at *;clear hx hy S1 S2;go_wp2_with fail;refine(M.o _).mono ?_;rintro e w1 ⟨rfl,rfl⟩;clear M;go_wp2;go_ret2;exact⟨rfl,rfl⟩
theorem Zb(a b:Int)(w:World)(a1 : -9223372036854775808<=a)(a2:a<=9223372036854775807)(b1 : -9223372036854775808<=b)(b2:b<=9223372036854775807)(hi lo:Nat)
 (M:Hid (∀w,Calls Tryz.prog 154 #[.int .u64 (a.natAbs:Int),.int .u64 (b.natAbs:Int)] w λe w'=>e = .returned (.tuple #[.int .u64 (hi:Int),.int .u64 (lo:Int)])/\w=w'))
 (q1:a<0) (q2:¬b<0) (p1:¬0<(hi:Int)) (p2:(9223372036854775808:Int)<(lo:Int)):
 Calls Tryz.prog 112 #[.int .i64 19,.int .i64 a,.int .i64 b] w λe w'=>e = .returned (.tuple #[.int .i64 0,fa 5])/\w=w':=by
 have S1:=O (λw=>jz a w a1 a2);have S2:=O (λw=>jz b w b1 b2);have hs:(!decide (a<0)==decide (b<0))=true:=by simp [q1,q2]
 have hs2:(!decide (b<0))=true:=by simp [q2]
 clear a1 a2 b1 b2;go_enter Tryz.func112,Tryz.ntmps112;go_wp2_with fail;refine(S1.o _).mono ?_;rintro e w1 ⟨rfl,rfl⟩;go_wp2_with fail;refine(S2.o _).mono ?_;rintro e w1 ⟨rfl,rfl⟩;generalize hx:(a.natAbs:Int)=x at *;generalize hy:(b.natAbs:Int)=y at *;clear hx hy S1 S2;go_wp2_with fail;refine(M.o _).mono ?_;rintro e w1 ⟨rfl,rfl⟩;clear M;go_wp2;go_ret2;exact⟨rfl,rfl⟩
theorem Wz(a b:Int)(w:World)(a1 : -9223372036854775808<=a)(a2:a<=9223372036854775807)(b1 : -9223372036854775808<=b)(b2:b<=9223372036854775807)(hi lo:Nat)
 (M:Hid (∀w,Calls Tryz.prog 154 #[.int .u64 (a.natAbs:Int),.int .u64 (b.natAbs:Int)] w λe w'=>e = .returned (.tuple #[.int .u64 (hi:Int),.int .u64 (lo:Int)])/\w=w'))
 (q1:a<0) (q2:¬b<0) (p1:¬0<(hi:Int)) (p2:¬(9223372036854775808:Int)<(lo:Int)):
 Calls Tryz.prog 112 #[.int .i64 19,.int .i64 a,.int .i64 b] w λe w'=>e = .returned (.tuple #[.int .i64 (wrap64 (a*b)),.nilIface])/\w=w':=by
 have S1:=O (λw=>jz a w a1 a2);have S2:=O (λw=>jz b w b1 b2);have hs:(!decide (a<0)==decide (b<0))=true:=by simp [q1,q2]
 have hs2:(!decide (b<0))=true:=by simp [q2]
 clear a1 a2 b1 b2;go_enter Tryz.func112,Tryz.ntmps112;go_wp2_with fail;refine(S1.o _).mono ?_;rintro e w1 ⟨rfl,rfl⟩;go_wp2_with fail;refine(S2.o _).mono ?_;rintro e w1 ⟨rfl,rfl⟩;generalize hx:(a.natAbs:Int)=x at *;generalize hy:(b.natAbs:Int)=y at *;clear hx hy S1 S2;go_wp2_with fail;refine(M.o _).mono ?_;rintro e w1 ⟨rfl,rfl⟩;clear M;go_wp2;go_ret2;exact⟨rfl,rfl⟩
theorem XG(a b:Int)(w:World)(a1 : -9223372036854775808<=a)(a2:a<=9223372036854775807)(b1 : -9223372036854775808<=b)(b2:b<=9223372036854775807)(hi lo:Nat)
 (M:Hid (∀w,Calls Tryz.prog 154 #[.int .u64 (a.natAbs:Int),.int .u64 (b.natAbs:Int)] w λe w'=>e = .returned (.tuple #[.int .u64 (hi:Int),.int .u64 (lo:Int)])/\w=w'))
 (q1:¬a<0) (q2:b<0) (p1:0<(hi:Int)):
 Calls Tryz.prog 112 #[.int .i64 19,.int .i64 a,.int .i64 b] w λe w'=>e = .returned (.tuple #[.int .i64 0,fa 5])/\w=w':=by
 have S1:=O (λw=>jz a w a1 a2);have S2:=O (λw=>jz b w b1 b2);have hs:(!decide (a<0)==decide (b<0))=true:=by simp [q1,q2]
 have hs2:(!decide (a<0))=true:=by simp [q1]
 clear a1 a2 b1 b2;go_enter Tryz.func112,Tryz.ntmps112;go_wp2_with fail;refine(S1.o _).mono ?_;rintro e w1 ⟨rfl,rfl⟩;go_wp2_with fail;refine(S2.o _).mono ?_;rintro e w1 ⟨rfl,rfl⟩;generalize hx:(a.natAbs:Int)=x at *;generalize hy:(b.natAbs:Int)=y at *;clear hx hy S1 S2;go_wp2_with fail;refine(M.o _).mono ?_;rintro e w1 ⟨rfl,rfl⟩;clear M;go_wp2;go_ret2;exact⟨rfl,rfl⟩
theorem Zr(a b:Int)(w:World)(a1 : -9223372036854775808<=a)(a2:a<=9223372036854775807)(b1 : -9223372036854775808<=b)(b2:b<=9223372036854775807)(hi lo:Nat)
 (M:Hid (∀w,Calls Tryz.prog 154 #[.int .u64 (a.natAbs:Int),.int .u64 (b.natAbs:Int)] w λe w'=>e = .returned (.tuple #[.int .u64 (hi:Int),.int .u64 (lo:Int)])/\w=w'))
 (q1:¬a<0) (q2:b<0) (p1:¬0<(hi:Int)) (p2:(9223372036854775808:Int)<(lo:Int)):
 Calls Tryz.prog 112 #[.int .i64 19,.int .i64 a,.int .i64 b] w λe w'=>e = .returned (.tuple #[.int .i64 0,fa 5])/\w=w':=by
 have S1:=O (λw=>jz a w a1 a2);have S2:=O (λw=>jz b w b1 b2);have hs:(!decide (a<0)==decide (b<0))=true:=by simp [q1,q2]
 have hs2:(!decide (a<0))=true:=by simp [q1]
 clear a1 a2 b1 b2;go_enter Tryz.func112,Tryz.ntmps112;go_wp2_with fail;refine(S1.o _).mono ?_;rintro e w1 ⟨rfl,rfl⟩;go_wp2_with fail;refine(S2.o _).mono ?_;rintro e w1 ⟨rfl,rfl⟩;generalize hx:(a.natAbs:Int)=x at *;generalize hy:(b.natAbs:Int)=y at *;clear hx hy S1 S2;go_wp2_with fail;refine(M.o _).mono ?_;rintro e w1 ⟨rfl,rfl⟩;clear M;go_wp2;go_ret2;exact⟨rfl,rfl⟩
theorem VU(a b:Int)(w:World)(a1 : -9223372036854775808<=a)(a2:a<=9223372036854775807)(b1 : -9223372036854775808<=b)(b2:b<=9223372036854775807)(hi lo:Nat)
 (M:Hid (∀w,Calls Tryz.prog 154 #[.int .u64 (a.natAbs:Int),.int .u64 (b.natAbs:Int)] w λe w'=>e = .returned (.tuple #[.int .u64 (hi:Int),.int .u64 (lo:Int)])/\w=w'))
 (q1:¬a<0) (q2:b<0) (p1:¬0<(hi:Int)) (p2:¬(9223372036854775808:Int)<(lo:Int)):
 Calls Tryz.prog 112 #[.int .i64 19,.int .i64 a,.int .i64 b] w λe w'=>e = .returned (.tuple #[.int .i64 (wrap64 (a*b)),.nilIface])/\w=w':=by
 have S1:=O (λw=>jz a w a1 a2);have S2:=O (λw=>jz b w b1 b2);have hs:(!decide (a<0)==decide (b<0))=true:=by simp [q1,q2]
 have hs2:(!decide (a<0))=true:=by simp [q1]
 clear a1 a2 b1 b2;go_enter Tryz.func112,Tryz.ntmps112;go_wp2_with fail;refine(S1.o _).mono ?_;rintro e w1 ⟨rfl,rfl⟩;go_wp2_with fail;refine(S2.o _).mono ?_;rintro e w1 ⟨rfl,rfl⟩;generalize hx:(a.natAbs:Int)=x at *;generalize hy:(b.natAbs:Int)=y at *;clear hx hy S1 S2;go_wp2_with fail;refine(M.o _).mono ?_;rintro e w1 ⟨rfl,rfl⟩;clear M;go_wp2;go_ret2;exact⟨rfl,rfl⟩
theorem znr(a b:Int)(w:World)(ha:I64 a)(hb:I64 b):
 Calls Tryz.prog 112 #[.int .i64 19,.int .i64 a,.int .i64 b] w λe w'=>e = .returned (.tuple #[.int .i64 (if pV (a*b) then a*b else 0),fa (if pV (a*b) then 0 else 5)])/\w=w':=by
 obtain⟨a1,a2⟩:=ha;obtain⟨b1,b2⟩:=hb;have M:Hid (∀w,_):=O (λw=>bits_Mul64 a.natAbs b.natAbs w (by omega) (by omega));have T0:=λd hd=>zjB (a:=a) (b:=b) d hd;have W:=λh:pV (a*b)=true=>OJ h;generalize zeI a.natAbs b.natAbs=hi at *;generalize zeY a.natAbs b.natAbs=lo at *;by_cases q1:a<0
 ·by_cases q2:b<0
  ·skip;have T:=T0 0 (by rw [if_pos ⟨λ_=>q2,λ_=>q1⟩]);by_cases p1:0<(hi:Int)
   ·have hf:pV (a*b)=false:=by
     rw [Bool.eq_false_iff];intro q;have:=(T.1 q).1;omega
    rw [hf];exact Zx a b w a1 a2 b1 b2 hi lo M q1 q2 p1
   ·by_cases p2:(9223372036854775807:Int)<(lo:Int)
    ·have hf:pV (a*b)=false:=by
      rw [Bool.eq_false_iff];intro q;have:=(T.1 q).2;omega
     rw [hf];exact YW a b w a1 a2 b1 b2 hi lo M q1 q2 p1 p2
    ·have hf:pV (a*b)=true:=T.2 ⟨by omega,by omega⟩;have h:=Wr a b w a1 a2 b1 b2 hi lo M q1 q2 p1 p2;rw [W hf] at h;rw [hf];exact h
  ·skip;have T:=T0 1 (by rw [if_neg (λq=>q2 (q.1 q1))]);by_cases p1:0<(hi:Int)
   ·have hf:pV (a*b)=false:=by
     rw [Bool.eq_false_iff];intro q;have:=(T.1 q).1;omega
    rw [hf];exact XZ a b w a1 a2 b1 b2 hi lo M q1 q2 p1
   ·by_cases p2:(9223372036854775808:Int)<(lo:Int)
    ·have hf:pV (a*b)=false:=by
      rw [Bool.eq_false_iff];intro q;have:=(T.1 q).2;omega
     rw [hf];exact Zb a b w a1 a2 b1 b2 hi lo M q1 q2 p1 p2
    ·have hf:pV (a*b)=true:=T.2 ⟨by omega,by omega⟩;have h:=Wz a b w a1 a2 b1 b2 hi lo M q1 q2 p1 p2;rw [W hf] at h;rw [hf];exact h
 ·by_cases q2:b<0
  ·skip;have T:=T0 1 (by rw [if_neg (λq=>q1 (q.2 q2))]);by_cases p1:0<(hi:Int)
   ·have hf:pV (a*b)=false:=by
     rw [Bool.eq_false_iff];intro q;have:=(T.1 q).1;omega
    rw [hf];exact XG a b w a1 a2 b1 b2 hi lo M q1 q2 p1
   ·by_cases p2:(9223372036854775808:Int)<(lo:Int)
    ·have hf:pV (a*b)=false:=by
      rw [Bool.eq_false_iff];intro q;have:=(T.1 q).2;omega
     rw [hf];exact Zr a b w a1 a2 b1 b2 hi lo M q1 q2 p1 p2
    ·have hf:pV (a*b)=true:=T.2 ⟨by omega,by omega⟩;have h:=VU a b w a1 a2 b1 b2 hi lo M q1 q2 p1 p2;rw [W hf] at h;rw [hf];exact h
  ·skip;have T:=T0 0 (by rw [if_pos ⟨λq=>absurd q q1,λq=>absurd q q2⟩]);by_cases p1:0<(hi:Int)
   ·have hf:pV (a*b)=false:=by
     rw [Bool.eq_false_iff];intro q;have:=(T.1 q).1;omega
    rw [hf];exact XU a b w a1 a2 b1 b2 hi lo M q1 q2 p1
   ·by_cases p2:(9223372036854775807:Int)<(lo:Int)
    ·have hf:pV (a*b)=false:=by
      rw [Bool.eq_false_iff];intro q;have:=(T.1 q).2;omega
     rw [hf];exact Yk a b w a1 a2 b1 b2 hi lo M q1 q2 p1 p2
    ·have hf:pV (a*b)=true:=T.2 ⟨by omega,by omega⟩;have h:=WC a b w a1 a2 b1 b2 hi lo M q1 q2 p1 p2;rw [W hf] at h;rw [hf];exact h
theorem XL(a b:Int)(w:World)(q0:(a==0)=false)(q0':¬a=0)(q1:(b==0)=false)(q2:(a == -1)=false)(t1 t2:Bool)(h1:(wrap64 ((wrap64 (a*b)).tdiv a)==b)=t1)(h2:((wrap64 (a*b)).tmod a==0)=t2):
 Calls Tryz.prog 79 #[.int .i64 19,.int .i64 a,.int .i64 b] w λe w'=>e = .returned (.tuple #[.int .i64 (if(t1 && t2)=true then wrap64 (a*b) else 0),.int .i64 (if(t1 && t2)=true then 0 else 5)])/\w=w':=by
 have h3:(wrap64 ((wrap64 (a*b)).tdiv a) != b)= !t1:=by rw [<-h1];rfl
 have h4:((wrap64 (a*b)).tmod a != 0)= !t2:=by rw [<-h2];rfl
 cases t1 <;> cases t2
 all_goals
  simp only [Bool.not_true,Bool.not_false] at h3 h4;go_enter Tryz.func79,Tryz.ntmps79;go_wp2;go_ret2;exact⟨rfl,rfl⟩
theorem Ws(a b:Int)(w:World)(h:a=0\/b=0):
 Calls Tryz.prog 79 #[.int .i64 19,.int .i64 a,.int .i64 b] w λe w'=>e = .returned (.tuple #[.int .i64 0,.int .i64 0])/\w=w':=by
 by_cases q0:a=0
 ·subst q0;clear h;go_enter Tryz.func79,Tryz.ntmps79;go_wp2;go_ret2;exact⟨rfl,rfl⟩
 ·have q1:b=0:=h.resolve_left q0;have q2:=beq_eq_false_iff_ne.2 q0;clear h q0;subst q1;go_enter Tryz.func79,Tryz.ntmps79;go_wp2;go_ret2;exact⟨rfl,rfl⟩
theorem XV(b:Int)(w:World)(hb:I64 b)(h:b≠0):
 Calls Tryz.prog 79 #[.int .i64 19,.int .i64 (-1),.int .i64 b] w λe w'=>e = .returned (.tuple #[.int .i64 (if pV (0-b)=true then 0-b else 0),.int .i64 (if pV (0-b)=true then 0 else 5)])/\w=w':=by
 have q1:=beq_eq_false_iff_ne.2 h;have z:I64 0:=by unfold I64;omega
 clear h;rcases hf:pV (0-b) with _|_
 ·have C:=O (λw=>OX 0 b w z hb hf);clear hf z;obtain⟨b1,b2⟩:=hb;go_enter Tryz.func79,Tryz.ntmps79;go_wp2_with fail;refine(C.o _).mono ?_;rintro e w1 ⟨rfl,rfl⟩;go_wp2;go_ret2;exact⟨rfl,rfl⟩
 ·have C:=O (λw=>QA 0 b w z hb hf);clear hf z;obtain⟨b1,b2⟩:=hb;go_enter Tryz.func79,Tryz.ntmps79;go_wp2_with fail;refine(C.o _).mono ?_;rintro e w1 ⟨rfl,rfl⟩;go_wp2;go_ret2;exact⟨rfl,rfl⟩
theorem zjN(a b:Int)(w:World)(hb:I64 b):
 Calls Tryz.prog 79 #[.int .i64 19,.int .i64 a,.int .i64 b] w λe w'=>e = .returned (.tuple #[.int .i64 (if pV (a*b)=true then a*b else 0),.int .i64 (if pV (a*b)=true then 0 else 5)])/\w=w':=by
 by_cases h0:a=0\/b=0
 ·have e:a*b=0:=by rcases h0 with h|h <;> simp [h]
  have hf:pV 0=true:=by decide
  rw [e,hf];exact Ws a b w h0
 ·have ha0:a≠0:=λq=>h0 (.inl q);have hb0:b≠0:=λq=>h0 (.inr q);by_cases h1:a = -1
  ·subst h1;have e : -1*b=0-b:=by omega
   rw [e];exact XV b w hb hb0
  ·have h:=XL a b w (beq_eq_false_iff_ne.2 ha0) ha0 (beq_eq_false_iff_ne.2 hb0) (beq_eq_false_iff_ne.2 h1) _ _ rfl rfl;rw [<-zhK ha0 h1] at h;have e:(if pV (a*b)=true then wrap64 (a*b) else 0)=if pV (a*b)=true then a*b else 0:=by
    by_cases hf:pV (a*b)=true
    ·rw [if_pos hf,if_pos hf,OJ hf]
    ·rw [if_neg hf,if_neg hf]
   rw [e] at h;exact h
theorem zhw(op a b:Int)(w:World)(ha:I64 a)(hb:I64 b):
 Calls Tryz.prog 112 #[.int .i64 op,.int .i64 a,.int .i64 b] w λe w'=>e = .returned (.tuple #[.int .i64 (vP op a b),fa (pU op a b)])/\w=w':=by
 by_cases h1:op=17
 ·subst h1;rcases hf:pV (a+b) with _|_
  ·have:=zby a b w ha hb hf;simpa [vP,pU,Rf,hf] using this
  ·have:=zdX a b w ha hb hf;simpa [vP,pU,Rf,hf,zm] using this
 ·by_cases h2:op=18
  ·subst h2;rcases hf:pV (a-b) with _|_
   ·have:=zae a b w ha hb hf;simpa [vP,pU,Rf,hf] using this
   ·have:=zdV a b w ha hb hf;simpa [vP,pU,Rf,hf,zm] using this
  ·by_cases h3:op=19
   ·subst h3;have:=znr a b w ha hb;simpa [vP,pU,Rf] using this
   ·have:=zlz op a b w h1 h2 h3;simpa [vP,pU,h1,h2,h3] using this
theorem zaq(op a b:Int)(w:World)(ha:I64 a)(hb:I64 b):
 Calls Tryz.prog 79 #[.int .i64 op,.int .i64 a,.int .i64 b] w λe w'=>e = .returned (.tuple #[.int .i64 (vP op a b),.int .i64 (pU op a b)])/\w=w':=by
 by_cases h1:op=17
 ·subst h1;rcases hf:pV (a+b) with _|_
  ·have:=Wp a b w ha hb hf;simpa [vP,pU,Rf,hf] using this
  ·have:=Yn a b w ha hb hf;simpa [vP,pU,Rf,hf] using this
 ·by_cases h2:op=18
  ·subst h2;rcases hf:pV (a-b) with _|_
   ·have:=OX a b w ha hb hf;simpa [vP,pU,Rf,hf] using this
   ·have:=QA a b w ha hb hf;simpa [vP,pU,Rf,hf] using this
  ·by_cases h3:op=19
   ·subst h3;have:=zjN a b w hb;simpa [vP,pU,Rf] using this
   ·have:=zfL op a b w h1 h2 h3;simpa [vP,pU,h1,h2,h3] using this
theorem zlX(a:Int)(w:World)(ha:I64 a):
 Calls Tryz.prog 101 #[.int .i64 a] w λe w'=>e = .returned (.tuple #[.int .i64 (vP 18 0 a),fa (pU 18 0 a)])/\w=w':=by
 have C:=O (λw=>zhw 18 0 a w (by unfold I64;omega) ha);go_enter Tryz.func101,Tryz.ntmps101;go_wp2_with fail;refine(C.o _).mono ?_;rintro e w1 ⟨rfl,rfl⟩;go_wp2;go_ret2;exact⟨rfl,rfl⟩
end Go.Proofs.YtokiogmfgpidmaaGreatDoor
namespace Go.Proofs.YtokiogmfgpidmaaGreatDoor
open Go.RowKit Go.Wk Go.Sort
theorem Qo(w:World)(x:Nd)(t:TypeId):Nd4 (w.alloc (.cells #[.int .i64 x.op,.int .i64 x.n,.string x.s,.string x.t] t)) ⟨w.heap.size,0,none⟩ x:=⟨jk (heap_alloc_last w _) rfl,jk (heap_alloc_last w _) rfl,jk (heap_alloc_last w _) rfl,jk (heap_alloc_last w _) rfl⟩
theorem zcZ{w:World}{R:Nat}{k:Cx}(h:Gh w R k)(x:Nd)(hx:x.op=9)(A:Option Addr)(n c:Nat)(V:List Nd)(hv:Ns w A n c V)(h0:0<V.length):
 Calls Tryz.prog 60 #[.pointer (some ⟨R,0,none⟩),ndV x,.slice A n c] w (jl w (jv k.E x V)):=by
 have KM:=O (λw' hb=>jD A n c V 1 w' (hv.keep (w':=w') hb) h0);have B0:=O (zb w (.cells #[.int .i64 9,.int .i64 x.n,.string x.s,.string x.t] 28));obtain⟨a,rfl,hn1,D,hok,-⟩:=jY hv h0;have hn:(0:Int)<(n:Int):=by omega
 have HD:=O D;have HDR:=O h.door;unfold ndV;by_cases g:zf V=1
 ·have HR:=O (show jv k.E x V = .ok (zI (decide ((hdN V).n=0))) by unfold jv;rw [if_pos hx,if_pos g]);simp only [if_pos g] at KM;rw [HR.o,hx];generalize hdN V=y at *;clear hv h0 D g hx h;go_enter Tryz.func60,Tryz.ntmps60;go_wp2_with fail;refine(KM.o _ B0.o).mono ?_;rintro e w1 ⟨rfl,b1⟩;have B1:=bh B0 b1;obtain⟨-,d1,-,-⟩:=HD.o.keep B1.o;clear b1 B0 KM;go_wp2_with fail;refine(j6 (y.n==0) w1).mono ?_;rintro e w2 hp;have HP:=O (hp.up B1.o);obtain⟨-,A2,n2,c2,rfl,-,-⟩:=hp;go_wp2_with fail;go_ret;exact HP.o
 ·have HR:=O (show jv k.E x V = .error 2 by unfold jv;rw [if_pos hx];rw [if_neg g]);simp only [if_neg g] at KM;rw [HR.o,hx];clear hv h0 D g hx h;go_enter Tryz.func60,Tryz.ntmps60;go_wp2_with fail;refine(KM.o _ B0.o).mono ?_;rintro e w1 ⟨rfl,b1⟩;have B1:=bh B0 b1;clear b1 B0 KM;go_wp2_with fail;exact⟨rfl,j8 B1.o⟩
theorem zdS{w:World}{R:Nat}{k:Cx}(h:Gh w R k)(x:Nd)(hx:x.op=10)(A:Option Addr)(n c:Nat)(V:List Nd)(hv:Ns w A n c V)(h0:0<V.length):
 Calls Tryz.prog 60 #[.pointer (some ⟨R,0,none⟩),ndV x,.slice A n c] w (jl w (jv k.E x V)):=by
 have KM:=O (λw' hb=>jD A n c V 2 w' (hv.keep (w':=w') hb) h0);have B0:=O (zb w (.cells #[.int .i64 10,.int .i64 x.n,.string x.s,.string x.t] 28));obtain⟨a,rfl,hn1,D,hok,-⟩:=jY hv h0;have hn:(0:Int)<(n:Int):=by omega
 have HD:=O D;have HDR:=O h.door;unfold ndV;by_cases g:zf V=2
 ·have HR:=O (show jv k.E x V=z6 (pU 18 0 (hdN V).n) (LU (vP 18 0 (hdN V).n)) by unfold jv;rw [if_neg (by omega),if_pos hx,if_pos g]);simp only [if_pos g] at KM;rw [HR.o,hx];generalize hdN V=y at *;have HI:Hid (I64 y.n):=O ⟨hok.lo,hok.hi⟩;have KN:=O (λw=>zlX y.n w HI.o);have HVI:=O (PV 18 0 y.n);clear hv h0 D g hx h hok;by_cases z:pU 18 0 y.n=0
  ·have KT:=O (λw' (hb:Below w.heap.size w w')=>RO (.int .i64 (vP 18 0 y.n)) w');have HT:=O (show z6 (pU 18 0 y.n) (LU (vP 18 0 y.n))= .ok (LU (vP 18 0 y.n)) by unfold z6;rw [if_pos z]);rw [HT.o];rw [z,zm] at KN;generalize vP 18 0 y.n=r at *;go_enter Tryz.func60,Tryz.ntmps60;go_wp2_with fail;refine(KM.o _ B0.o).mono ?_;rintro e w1 ⟨rfl,b1⟩;have B1:=bh B0 b1;obtain⟨-,d1,-,-⟩:=HD.o.keep B1.o;clear b1 B0 KM;go_wp2_with fail;refine(KN.o _).mono ?_;rintro e w2 ⟨rfl,rfl⟩;go_wp2_with fail;refine(KT.o _ B1.o).mono ?_;rintro e w2 ⟨rfl,b2⟩;have B2:=bh B1 b2;clear b2 B1 KT;go_wp2_with fail;go_ret;exact(Tk w2 ⟨2,r,emp,emp⟩ (UF _ _ HVI.o)).up B2.o
  ·have KT:=O (λw' (hb:Below w.heap.size w w')=>Sr (.int .i64 (vP 18 0 y.n)) (pU 18 0 y.n) w' (HDR.o.keep hb));have HT:=O (show z6 (pU 18 0 y.n) (LU (vP 18 0 y.n))= .error (pU 18 0 y.n) by unfold z6;rw [if_neg z]);rw [HT.o];rw [zy z] at KN;generalize vP 18 0 y.n=r at *;generalize pU 18 0 y.n=u at *;go_enter Tryz.func60,Tryz.ntmps60;go_wp2_with fail;refine(KM.o _ B0.o).mono ?_;rintro e w1 ⟨rfl,b1⟩;have B1:=bh B0 b1;obtain⟨-,d1,-,-⟩:=HD.o.keep B1.o;clear b1 B0 KM;go_wp2_with fail;refine(KN.o _).mono ?_;rintro e w2 ⟨rfl,rfl⟩;go_wp2_with fail;refine(KT.o _ B1.o).mono ?_;rintro e w2 ⟨rfl,b2⟩;have B2:=bh B1 b2;clear b2 B1 KT;go_wp2_with fail;exact⟨rfl,j8 B2.o⟩
 ·have HR:=O (show jv k.E x V = .error 2 by unfold jv;rw [if_neg (by omega),if_pos hx];rw [if_neg g]);simp only [if_neg g] at KM;rw [HR.o,hx];clear hv h0 D g hx h;go_enter Tryz.func60,Tryz.ntmps60;go_wp2_with fail;refine(KM.o _ B0.o).mono ?_;rintro e w1 ⟨rfl,b1⟩;have B1:=bh B0 b1;clear b1 B0 KM;go_wp2_with fail;exact⟨rfl,j8 B1.o⟩
theorem zcP{w:World}{R:Nat}{k:Cx}(h:Gh w R k)(x:Nd)(hx:x.op=21)(A:Option Addr)(n c:Nat)(V:List Nd)(hv:Ns w A n c V)(h0:0<V.length):
 Calls Tryz.prog 60 #[.pointer (some ⟨R,0,none⟩),ndV x,.slice A n c] w (jl w (jv k.E x V)):=by
 have B0:=O (zb w (.cells #[.int .i64 21,.int .i64 x.n,.string x.s,.string x.t] 28));have X0:=O (Qo w ⟨21,x.n,x.s,x.t⟩ 28);have KR:=O (λw' hb=>So (h.keep (w':=w') hb) A n c V (hv.keep hb) h0);have HDR:=O h.door;have zkg:=λ(a:Addr) (n c:Nat) (w:World)=>Lib.run_eql_slice_nil (P:=Tryz.prog) w 70 28 (some a) n c 0 0 Tryz.underlying70;have zkl:=λ(w:World)=>Lib.run_eql_slice_nil (P:=Tryz.prog) w 70 28 none 0 0 0 0 Tryz.underlying70;simp only [Option.isNone_some,Option.isNone_none] at zkg zkl;have HX:=O (show jv k.E x V=(match vZ k.E V with
  | .error e => .error e
  | .ok none => .ok (zI false)
  | .ok (some r)=> .ok (zI (decide (dK r x.s=0)))) by unfold jv;rw [if_neg (by omega),if_neg (by omega),if_neg (by omega),if_neg (by omega)];rcases vZ k.E V with e|(_|r)<;> simp [hx])
 rw [HX.o];unfold ndV;rw [hx];rcases hrx:vZ k.E V with u|(_|r)
 ·simp only [hrx] at KR;clear hrx;simp only;clear hv h0 hx h HX;go_enter Tryz.func60,Tryz.ntmps60;go_wp2_with fail;refine(KR.o _ B0.o).mono ?_;rintro e w1 ⟨b1,rfl⟩;have B1:=bh B0 b1;clear b1 B0 KR;go_wp2_with fail;exact⟨rfl,j8 B1.o⟩
 ·simp only [hrx] at KR;clear hrx;simp only;clear hv h0 hx h HX;go_enter Tryz.func60,Tryz.ntmps60;go_wp2_with fail;refine(KR.o _ B0.o).mono ?_;rintro e w1 ⟨b1,rfl⟩;have B1:=bh B0 b1;obtain⟨x0,-,x2,-⟩:=X0.o.keep b1;clear b1 B0 KR X0;go_wp2_with fail;refine(j6 false w1).mono ?_;rintro e w2 hp;have HP:=O (hp.up B1.o);obtain⟨-,A2,n2,c2,rfl,-,-⟩:=hp;go_wp2_with fail;go_ret;exact HP.o
 ·simp only [hrx] at KR;clear hrx;simp only;clear hv h0 hx h HX;by_cases z:dK r x.s=0
  ·go_enter Tryz.func60,Tryz.ntmps60;go_wp2_with fail;refine(KR.o _ B0.o).mono ?_;rintro e w1 ⟨b1,a1,n1,c1,rfl,hN⟩;have B1:=bh B0 b1;obtain⟨x0,-,x2,-⟩:=X0.o.keep b1;have G:=O (S' (some a1) n1 c1 r x.s w1 hN);unfold Qb at G;rw [z,zm] at G;clear b1 B0 KR hN X0;go_wp2_with fail;refine G.o.mono ?_;rintro e w2 ⟨A2,n2,c2,rfl,hN2,hF2,b2⟩;have B2:=bh B1 b2;have VL:=O hN2;have HF2:=O (λa e=>Nat.le_trans B1.o.size (hF2 a e));clear b2 B1 G hN2 hF2;go_wp2_with fail;refine(j6 true w2).mono ?_;rintro e w3 hp;have HP:=O (hp.up B2.o);obtain⟨-,A3,n3,c3,rfl,-,-⟩:=hp;go_wp2_with fail;go_ret;rw [decide_eq_true z];exact HP.o
  ·have HEV:=O (zy z);go_enter Tryz.func60,Tryz.ntmps60;go_wp2_with fail;refine(KR.o _ B0.o).mono ?_;rintro e w1 ⟨b1,a1,n1,c1,rfl,hN⟩;have B1:=bh B0 b1;obtain⟨x0,-,x2,-⟩:=X0.o.keep b1;have G:=O (S' (some a1) n1 c1 r x.s w1 hN);unfold Qb at G;rw [HEV.o] at G;clear b1 B0 KR hN X0;go_wp2_with fail;refine G.o.mono ?_;rintro e w2 ⟨A2,n2,c2,rfl,-,-,b2⟩;have B2:=bh B1 b2;clear b2 B1 G;go_wp2_with fail;refine(j6 false w2).mono ?_;rintro e w3 hp;have HP:=O (hp.up B2.o);obtain⟨-,A3,n3,c3,rfl,-,-⟩:=hp;go_wp2_with fail;go_ret;rw [decide_eq_false z];exact HP.o
theorem zeb{w:World}{R:Nat}{k:Cx}(h:Gh w R k)(x:Nd)(hx:x.op=22)(A:Option Addr)(n c:Nat)(V:List Nd)(hv:Ns w A n c V)(h0:0<V.length):
 Calls Tryz.prog 60 #[.pointer (some ⟨R,0,none⟩),ndV x,.slice A n c] w (jl w (jv k.E x V)):=by
 have B0:=O (zb w (.cells #[.int .i64 22,.int .i64 x.n,.string x.s,.string x.t] 28));have X0:=O (Qo w ⟨22,x.n,x.s,x.t⟩ 28);have KR:=O (λw' hb=>So (h.keep (w':=w') hb) A n c V (hv.keep hb) h0);have HDR:=O h.door;have zkg:=λ(a:Addr) (n c:Nat) (w:World)=>Lib.run_eql_slice_nil (P:=Tryz.prog) w 70 28 (some a) n c 0 0 Tryz.underlying70;have zkl:=λ(w:World)=>Lib.run_eql_slice_nil (P:=Tryz.prog) w 70 28 none 0 0 0 0 Tryz.underlying70;simp only [Option.isNone_some,Option.isNone_none] at zkg zkl;have HX:=O (show jv k.E x V=(match vZ k.E V with
  | .error e => .error e
  | .ok none => .error 8
  | .ok (some r)=>z6 (dK r x.s) (IG r x.s)) by unfold jv;rw [if_neg (by omega),if_neg (by omega),if_neg (by omega),if_neg (by omega)];rcases vZ k.E V with e|(_|r)<;> simp [hx])
 rw [HX.o];unfold ndV;rw [hx];rcases hrx:vZ k.E V with u|(_|r)
 ·simp only [hrx] at KR;clear hrx;simp only;clear hv h0 hx h HX;go_enter Tryz.func60,Tryz.ntmps60;go_wp2_with fail;refine(KR.o _ B0.o).mono ?_;rintro e w1 ⟨b1,rfl⟩;have B1:=bh B0 b1;clear b1 B0 KR;go_wp2_with fail;exact⟨rfl,j8 B1.o⟩
 ·simp only [hrx] at KR;clear hrx;simp only;clear hv h0 hx h HX;go_enter Tryz.func60,Tryz.ntmps60;go_wp2_with fail;refine(KR.o _ B0.o).mono ?_;rintro e w1 ⟨b1,rfl⟩;have B1:=bh B0 b1;obtain⟨x0,-,x2,-⟩:=X0.o.keep b1;clear b1 B0 KR X0;go_wp2_with fail;exact⟨rfl,j8 B1.o⟩
 ·simp only [hrx] at KR;clear hrx;simp only;clear hv h0 hx h HX;by_cases z:dK r x.s=0
  ·go_enter Tryz.func60,Tryz.ntmps60;go_wp2_with fail;refine(KR.o _ B0.o).mono ?_;rintro e w1 ⟨b1,a1,n1,c1,rfl,hN⟩;have B1:=bh B0 b1;obtain⟨x0,-,x2,-⟩:=X0.o.keep b1;have G:=O (S' (some a1) n1 c1 r x.s w1 hN);unfold Qb at G;rw [z,zm] at G;clear b1 B0 KR hN X0;go_wp2_with fail;refine G.o.mono ?_;rintro e w2 ⟨A2,n2,c2,rfl,hN2,hF2,b2⟩;have B2:=bh B1 b2;have VL:=O hN2;have HF2:=O (λa e=>Nat.le_trans B1.o.size (hF2 a e));clear b2 B1 G hN2 hF2;go_wp2_with fail;refine(NI (.slice A2 n2 c2) w2).mono ?_;rintro e w3 ⟨rfl,b3⟩;have B3:=bh B2 b3;have HN3:=O (VL.o.keep b3);clear b3 B2 VL;go_wp2_with fail;go_ret;unfold z6;rw [if_pos z];exact⟨B3.o,A2,n2,c2,rfl,HN3.o,HF2.o⟩
  ·have HEV:=O (zy z);go_enter Tryz.func60,Tryz.ntmps60;go_wp2_with fail;refine(KR.o _ B0.o).mono ?_;rintro e w1 ⟨b1,a1,n1,c1,rfl,hN⟩;have B1:=bh B0 b1;obtain⟨x0,-,x2,-⟩:=X0.o.keep b1;have G:=O (S' (some a1) n1 c1 r x.s w1 hN);unfold Qb at G;rw [HEV.o] at G;clear b1 B0 KR hN X0;go_wp2_with fail;refine G.o.mono ?_;rintro e w2 ⟨A2,n2,c2,rfl,-,-,b2⟩;have B2:=bh B1 b2;clear b2 B1 G;go_wp2_with fail;refine(Nt (.slice A2 n2 c2) _ w2 (HDR.o.keep B2.o)).mono ?_;rintro e w3 ⟨rfl,b3⟩;have B3:=bh B2 b3;clear b3 B2;go_wp2_with fail;unfold z6;rw [if_neg z];exact⟨rfl,j8 B3.o⟩
theorem zgL{w:World}{R:Nat}{k:Cx}(_h:Gh w R k)(x:Nd)(hx:x.op=24)(A:Option Addr)(n c:Nat)(V:List Nd)(hv:Ns w A n c V)(h0:0<V.length):
 Calls Tryz.prog 60 #[.pointer (some ⟨R,0,none⟩),ndV x,.slice A n c] w (jl w (jv k.E x V)):=by
 have SS:=O (show jv k.E x V=if zf V=4 then .ok (zI (decide ((hdN V).s=x.s))) else .error 2 by unfold jv;rw [if_neg (by omega),if_neg (by omega),if_neg (by omega),if_pos hx]);have B0:=O (zb w (.cells #[.int .i64 24,.int .i64 x.n,.string x.s,.string x.t] 28));have X0:=O (Qo w ⟨24,x.n,x.s,x.t⟩ 28);obtain⟨a,rfl,hn1,D,hok,-⟩:=jY hv h0;have hn:(0:Int)<(n:Int):=by omega
 have hn0:0<n:=hn1;have HD:=O D;rw [SS.o];unfold ndV;rw [hx];obtain⟨w0,hw0⟩:∃w0,w.alloc (.cells #[.int .i64 24,.int .i64 x.n,.string x.s,.string x.t] 28)=w0:=⟨_,rfl⟩
 rw [hw0] at B0 X0;obtain⟨x0,x1,x2,x3⟩:=X0.o;have k0:=cell_regrown x2;by_cases g:zf V=4
 ·rw [if_pos g];have KM:=O (λw' hb=>by have:=jD (some a) n c V 4 w' (hv.keep (B0.o.trans (Below.mono (w':=w') hb B0.o.size))) h0;rwa [if_pos g] at this);have y2:=(HD.o.keep B0.o).c2;generalize hdN V=y at *;clear hv h0 D g hx hok SS;by_cases z:y.s=x.s
  ·have f1:(y.s.toList==x.s.toList)=true:=by rw [z];exact beq_self_eq_true _
   rw [decide_eq_true z];clear z;go_enter Tryz.func60,Tryz.ntmps60;go_wp2_with fail;go_region_held3 (λw':World=>w'.cell? ⟨w.heap.size,2,none⟩=some (.string x.s)/\w'.cell? ⟨a.block,a.off+2,none⟩=some (.string y.s)) (first|exact⟨x2,y2⟩|exact⟨s0,s1⟩|exact⟨t0,t1⟩) (first
    |(go_at_call 96;refine(KM.o _ (zW w0)).mono ?_;rintro e w1 ⟨rfl,b1⟩;have s0:=za b1 x2;have s1:=za b1 y2;have B1:=O (B0.o.trans (((zW w0).trans b1).mono B0.o.size)))
    |(go_at_call 99;refine(j6 _ _).mono ?_;rintro e w2 hp;have HP:=O (hp.up B1.o);obtain⟨b2,A2,n2,c2,rfl,-,-⟩:=hp;have t0:=za b2 s0;have t1:=za b2 s1))
   go_wp2_with fail;go_ret;exact HP.o
  ·have f1:(y.s.toList==x.s.toList)=false:=beq_eq_false_iff_ne.2 λq=>z (toList_inj q);rw [decide_eq_false z];clear z;go_enter Tryz.func60,Tryz.ntmps60;go_wp2_with fail;go_region_held3 (λw':World=>w'.cell? ⟨w.heap.size,2,none⟩=some (.string x.s)/\w'.cell? ⟨a.block,a.off+2,none⟩=some (.string y.s)) (first|exact⟨x2,y2⟩|exact⟨s0,s1⟩|exact⟨t0,t1⟩) (first
    |(go_at_call 96;refine(KM.o _ (zW w0)).mono ?_;rintro e w1 ⟨rfl,b1⟩;have s0:=za b1 x2;have s1:=za b1 y2;have B1:=O (B0.o.trans (((zW w0).trans b1).mono B0.o.size)))
    |(go_at_call 99;refine(j6 _ _).mono ?_;rintro e w2 hp;have HP:=O (hp.up B1.o);obtain⟨b2,A2,n2,c2,rfl,-,-⟩:=hp;have t0:=za b2 s0;have t1:=za b2 s1))
   go_wp2_with fail;go_ret;exact HP.o
 ·rw [if_neg g];have KM:=O (λd os=>jD (some a) n c V 4 (grow (redrawn w0 d) os) (hv.keep (B0.o.trans ((below_regrown w0 d os).mono B0.o.size))) h0);simp only [if_neg g] at KM;clear hv h0 D g hx hok SS;go_enter Tryz.func60,Tryz.ntmps60;go_wp2_with fail;refine Ah (l := [_,_,_]) [0,5,6] [1] (by kernel_rfl) (by decide) (by kernel_rfl) rfl (λw'=>∃p:Regrown,w'=grow (redrawn w0 p.d) p.os) (λch w'=>ch=Gd 2/\Below w.heap.size w w') ⟨⟨w0.drawn+1,#[]⟩,by rw [grow_empty];rfl⟩ ?_ ?_
  ·rintro a' ch w' hd ⟨rfl,hg⟩;exact⟨hd,j8 hg⟩
  ·repeat (first|go_big_quiet_step (fail)|quiet_step (fail))
   refine wpQuiet_nil ?_;refine⟨λo ho=>?_,trivial⟩;injection ho with ho;subst ho;refine⟨by go_simp,?_⟩;rintro w' ⟨⟨d',os⟩,rfl⟩;go_wp2_with fail;refine(KM.o d' os).mono ?_;rintro e w4 ⟨rfl,b4⟩;exact⟨rfl,B0.o.trans (((below_regrown w0 d' os).trans (b4.mono (below_regrown w0 d' os).size)).mono B0.o.size)⟩
theorem zaY{w:World}{R:Nat}{k:Cx}(h:Gh w R k)(x:Nd)(hx:x.op=23)(hs:x.s.size<=maxLen)(A:Option Addr)(n c:Nat)(V:List Nd)(hv:Ns w A n c V)(h0:0<V.length):
 Calls Tryz.prog 60 #[.pointer (some ⟨R,0,none⟩),ndV x,.slice A n c] w (jl w (jv k.E x V)):=by
 have SS:=O (show jv k.E x V=if zf V=3 then jo (Jk x.s (hdN V).s) (LR x.s (hdN V).s) else .error 2 by unfold jv;rw [if_neg (by omega),if_neg (by omega),if_pos hx]);have B0:=O (zb w (.cells #[.int .i64 23,.int .i64 x.n,.string x.s,.string x.t] 28));have X0:=O (Qo w ⟨23,x.n,x.s,x.t⟩ 28);obtain⟨a,rfl,hn1,D,hok,-⟩:=jY hv h0;have hn:(0:Int)<(n:Int):=by omega
 have hn0:0<n:=hn1;have HD:=O D;have HDR:=O h.door;have KL:=O (λw=>zdZ x.s (hdN V).s w hs hok.s);rw [SS.o];unfold ndV;rw [hx];obtain⟨w0,hw0⟩:∃w0,w.alloc (.cells #[.int .i64 23,.int .i64 x.n,.string x.s,.string x.t] 28)=w0:=⟨_,rfl⟩
 rw [hw0] at B0 X0;obtain⟨x0,x1,x2,x3⟩:=X0.o;have k0:=cell_regrown x2;by_cases g:zf V=3
 ·rw [if_pos g];have KM:=O (λw' hb=>by have:=jD (some a) n c V 3 w' (hv.keep (B0.o.trans (Below.mono (w':=w') hb B0.o.size))) h0;rwa [if_pos g] at this);have y2:=(HD.o.keep B0.o).c2;generalize hdN V=y at *;clear hv h0 D g hx hok SS hs h;generalize LR x.s y.s=b at *;by_cases z:Jk x.s y.s=0
  ·have HT:=O (show jo (Jk x.s y.s) b = .ok (zI b) by unfold jo;rw [if_pos z]);rw [HT.o];simp only [z,zm] at KL;clear z;go_enter Tryz.func60,Tryz.ntmps60;go_wp2_with fail;go_region_held3 (λw':World=>w'.cell? ⟨w.heap.size,2,none⟩=some (.string x.s)/\w'.cell? ⟨a.block,a.off+2,none⟩=some (.string y.s)) (first|exact⟨x2,y2⟩|exact⟨s0,s1⟩|exact⟨t0,t1⟩|exact⟨u0,u1⟩|exact⟨v0,v1⟩) (first
    |(go_at_call 96;refine(KM.o _ (zW w0)).mono ?_;rintro e w1 ⟨rfl,b1⟩;have s0:=za b1 x2;have s1:=za b1 y2;have B1:=O (B0.o.trans (((zW w0).trans b1).mono B0.o.size)))
    |(go_at_call 103;refine(KL.o _).mono ?_;rintro e w2 ⟨rfl,b2⟩;have t0:=za b2 s0;have t1:=za b2 s1;have B2:=bh B1 b2)
    |(go_at_call 102;refine(IE _ _).mono ?_;rintro e w3 ⟨rfl,b3⟩;have u0:=za b3 t0;have u1:=za b3 t1;have B3:=bh B2 b3)
    |(go_at_call 99;refine(j6 _ _).mono ?_;rintro e w4 hp;have HP:=O (hp.up B3.o);obtain⟨b4,A2,n2,c2,rfl,-,-⟩:=hp;have v0:=za b4 u0;have v1:=za b4 u1))
   go_wp2_with fail;go_ret;exact HP.o
  ·have HT:=O (show jo (Jk x.s y.s) b = .error (Jk x.s y.s) by unfold jo;rw [if_neg z]);rw [HT.o];simp only [zy z] at KL;generalize Jk x.s y.s=u at *;clear z;have R1:=rq (w:=w0) (λw' hb=>KM.o w' hb);have R3:=rq (w:=w0) (λw' _=>KL.o w');have k2:=cell_regrown y2;have KT:=O (λd' os=>Kg (.bool b) u (grow (redrawn w0 d') os) ((HDR.o.keep B0.o).keep (below_regrown w0 d' os)));go_enter Tryz.func60,Tryz.ntmps60;go_wp2_with fail;refine Ah (l := [_,_,_,_,_,_,_,_,_,_]) [0,1,2,3,4,5,6,7,8,9] [10] (by kernel_rfl) (by decide) (by kernel_rfl) rfl (λw'=>∃p:Regrown,w'=grow (redrawn w0 p.d) p.os) (λch w'=>ch=Gd u/\Below w.heap.size w w') ⟨⟨w0.drawn+1,#[]⟩,by rw [grow_empty];rfl⟩ ?_ ?_
   ·rintro a' ch w' hd ⟨rfl,hg⟩;exact⟨hd,j8 hg⟩
   ·repeat (first|go_big_quiet_step (first|with_reducible exact R1 _ _|with_reducible exact R3 _ _)|quiet_step (first|with_reducible exact R1 _ _|with_reducible exact R3 _ _))
    refine wpQuiet_nil ?_;refine⟨λo ho=>?_,trivial⟩;injection ho with ho;subst ho;refine⟨by go_simp,?_⟩;rintro w' ⟨⟨d',os⟩,rfl⟩;go_wp2_with fail;refine(KT.o d' os).mono ?_;rintro e w4 ⟨rfl,b4⟩;exact⟨rfl,B0.o.trans (((below_regrown w0 d' os).trans (b4.mono (below_regrown w0 d' os).size)).mono B0.o.size)⟩
 ·rw [if_neg g];have KM:=O (λd os=>jD (some a) n c V 3 (grow (redrawn w0 d) os) (hv.keep (B0.o.trans ((below_regrown w0 d os).mono B0.o.size))) h0);simp only [if_neg g] at KM;clear hv h0 D g hx hok SS hs h;go_enter Tryz.func60,Tryz.ntmps60;go_wp2_with fail;refine Ah (l := [_,_,_]) [0,1,2] [3] (by kernel_rfl) (by decide) (by kernel_rfl) rfl (λw'=>∃p:Regrown,w'=grow (redrawn w0 p.d) p.os) (λch w'=>ch=Gd 2/\Below w.heap.size w w') ⟨⟨w0.drawn+1,#[]⟩,by rw [grow_empty];rfl⟩ ?_ ?_
  ·rintro a' ch w' hd ⟨rfl,hg⟩;exact⟨hd,j8 hg⟩
  ·repeat (first|go_big_quiet_step (fail)|quiet_step (fail))
   refine wpQuiet_nil ?_;refine⟨λo ho=>?_,trivial⟩;injection ho with ho;subst ho;refine⟨by go_simp,?_⟩;rintro w' ⟨⟨d',os⟩,rfl⟩;go_wp2_with fail;refine(KM.o d' os).mono ?_;rintro e w4 ⟨rfl,b4⟩;exact⟨rfl,B0.o.trans (((below_regrown w0 d' os).trans (b4.mono (below_regrown w0 d' os).size)).mono B0.o.size)⟩
theorem za4(A B:Option Addr)(n m c d:Nat)(P Q:List Nd)(w:World)(hn:n=P.length)(hm:m=Q.length)(hln:n<=maxLen)(hlm:m<=maxLen)(hP:jt w A P)(hQ:jt w B Q):
 Calls Tryz.prog 107 #[.slice A n c,.slice B m d] w λe w'=>e = .returned (.bool (decide (zu P Q=0)))/\Below w.heap.size w w':=by
 unfold maxLen at hln hlm;have HN:=O hn;have HM:=O hm;have HP:=O hP;have HQ:=O hQ;clear hn hm hP hQ;by_cases hl:n=m
 ·subst hl;go_enter Tryz.func107,Tryz.ntmps107;go_wp2_with fail;go_loopw [5,13] (λ_ i wr=>∃k:Nat,k<=n/\i = .int .i64 k/\Hid (zu P Q=zu (P.drop k) (Q.drop k))/\Hid (Below w.heap.size w wr)) (λ_ i _=>n-(intOf i).toNat)
  case atStart=>exact⟨0,Nat.zero_le _,rfl,rfl,Below.refl _ _⟩
  case round =>
   obtain⟨k,hk,rfl,hE,hB⟩:=hrel;by_cases hlt:k<n
   ·have h1:k<P.length:=by rw [<-HN.o];exact hlt
    have h2:k<Q.length:=by rw [<-HM.o];exact hlt
    obtain⟨a,rfl,a1,a2,a3,a4⟩:=(HP.o.keep hB.o) k P[k] (List.getElem?_eq_getElem h1);obtain⟨b,rfl,b1,b2,b3,b4⟩:=(HQ.o.keep hB.o) k Q[k] (List.getElem?_eq_getElem h2);by_cases he:P[k]=Q[k]
    ·have HE:=O (hE.o.trans ((IR h1 h2).trans (by rw [UU he,zM])));rw [he] at a1 a2 a3 a4;generalize Q[k]=y at *;clear he hE;go_wp2_with fail;go_quiet (fail);go_wp2_with fail;go_roundw
     case rel=>exact⟨k+1,by omega,by go_num,HE,hB.o.drewN _⟩
     case measure=>simp [intOf];omega
    ·have HE:=O (Ku h1 h2 he hE.o);have hne:=λw=>zc6 he w;generalize P[k]=x at *;generalize Q[k]=y at *;clear he hE;go_wp2_with fail;go_quiet (fail);go_wp2_with fail;go_ret;exact⟨zn (decide_eq_false HE.o).symm,hB.o.drewN _⟩
   ·have HE:=O (hE.o.trans (Gv (by rw [<-HN.o];omega) (by rw [<-HM.o];omega)));clear hE;go_wp2_with fail;go_ret;exact⟨zn (decide_eq_true HE.o).symm,hB.o⟩
 ·have HE:=O (show zu P Q≠0 from λh=>hl (by rw [HN.o,HM.o,(zO.zero _ _).1 h]));have h3:(n != m)=true:=by rw [bne_iff_ne];exact hl
  clear hl;go_enter Tryz.func107,Tryz.ntmps107;go_wp2_with fail;go_ret;exact⟨zn (decide_eq_false HE.o).symm,Below.refl _ _⟩
theorem zfq{w:World}{R:Nat}{k:Cx}(_h:Gh w R k)(A B:Option Addr)(n m c d:Nat)(P Q:List Nd)(hP:Ns w A n c P)(hQ:Ns w B m d Q):
 Calls Tryz.prog 61 #[.pointer (some ⟨R,0,none⟩),.int .i64 14,.slice A n c,.slice B m d] w (jl w (jO k.E 14 P Q)):=by
 have K:=O (za4 A B n m c d P Q w hP.len hQ.len hP.max hQ.max hP.at_ hQ.at_);have HR:=O (show jO k.E 14 P Q = .ok (zI (decide (zu P Q=0))) by unfold jO;rw [if_pos rfl]);rw [HR.o];generalize decide (zu P Q=0)=b at *;clear hP hQ;go_enter Tryz.func61,Tryz.ntmps61;go_wp2_with fail;refine K.o.mono ?_;rintro e w1 ⟨rfl,b1⟩;have B1:=O b1;clear b1 K;go_wp2_with fail;refine(j6 b w1).mono ?_;rintro e w2 hp;have HP:=O (hp.up B1.o);obtain⟨-,A2,n2,c2,rfl,-,-⟩:=hp;go_wp2_with fail;go_ret;exact HP.o
theorem zdK{w:World}{R:Nat}{k:Cx}(h:Gh w R k)(A B:Option Addr)(n m c d:Nat)(P Q:List Nd)(hP:Ns w A n c P)(hQ:Ns w B m d Q):
 Calls Tryz.prog 61 #[.pointer (some ⟨R,0,none⟩),.int .i64 25,.slice A n c,.slice B m d] w (jl w (jO k.E 25 P Q)):=by
 have K:=O (zlK A B n m c d P Q w hP hQ);have HDR:=O h.door;have HR:=O (show jO k.E 25 P Q=jo (Mr P Q) (OK P Q) by unfold jO;rw [if_neg (by decide),if_neg (by decide),if_pos rfl]);rw [HR.o];generalize OK P Q=b at *;generalize Mr P Q=u at *;clear h hP hQ;by_cases z:u=0
 ·subst z;rw [zm] at K;have HT:=O (show jo 0 b = .ok (zI b) by unfold jo;rw [if_pos rfl]);rw [HT.o];go_enter Tryz.func61,Tryz.ntmps61;go_wp2_with fail;refine K.o.mono ?_;rintro e w1 ⟨rfl,b1⟩;have B1:=O b1;clear b1 K;go_wp2_with fail;refine(IE (.bool b) w1).mono ?_;rintro e w2 ⟨rfl,b2⟩;have B2:=bh B1 b2;clear b2 B1;go_wp2_with fail;refine(j6 b w2).mono ?_;rintro e w3 hp;have HP:=O (hp.up B2.o);obtain⟨-,A2,n2,c2,rfl,-,-⟩:=hp;go_wp2_with fail;go_ret;exact HP.o
 ·rw [zy z] at K;have HT:=O (show jo u b = .error u by unfold jo;rw [if_neg z]);rw [HT.o];clear z;go_enter Tryz.func61,Tryz.ntmps61;go_wp2_with fail;refine K.o.mono ?_;rintro e w1 ⟨rfl,b1⟩;have B1:=O b1;clear b1 K;go_wp2_with fail;refine(Kg (.bool b) u w1 (HDR.o.keep B1.o)).mono ?_;rintro e w2 ⟨rfl,b2⟩;have B2:=bh B1 b2;clear b2 B1;go_wp2_with fail;exact⟨rfl,j8 B2.o⟩
theorem zdk{w:World}{R:Nat}{k:Cx}(h:Gh w R k)(A B:Option Addr)(n m c d:Nat)(P Q:List Nd)(hP:Ns w A n c P)(hQ:Ns w B m d Q):
 Calls Tryz.prog 61 #[.pointer (some ⟨R,0,none⟩),.int .i64 26,.slice A n c,.slice B m d] w (jl w (jO k.E 26 P Q)):=by
 have K:=O (zkL A B n m c d P Q w hP hQ);have HDR:=O h.door;have HR:=O (show jO k.E 26 P Q=jo (jU P Q) (P9 P Q) by unfold jO;rw [if_neg (by decide),if_neg (by decide),if_neg (by decide),if_pos rfl]);rw [HR.o];generalize P9 P Q=b at *;generalize jU P Q=u at *;clear h hP hQ;by_cases z:u=0
 ·subst z;rw [zm] at K;have HT:=O (show jo 0 b = .ok (zI b) by unfold jo;rw [if_pos rfl]);rw [HT.o];go_enter Tryz.func61,Tryz.ntmps61;go_wp2_with fail;refine K.o.mono ?_;rintro e w1 ⟨rfl,b1⟩;have B1:=O b1;clear b1 K;go_wp2_with fail;refine(IE (.bool b) w1).mono ?_;rintro e w2 ⟨rfl,b2⟩;have B2:=bh B1 b2;clear b2 B1;go_wp2_with fail;refine(j6 b w2).mono ?_;rintro e w3 hp;have HP:=O (hp.up B2.o);obtain⟨-,A2,n2,c2,rfl,-,-⟩:=hp;go_wp2_with fail;go_ret;exact HP.o
 ·rw [zy z] at K;have HT:=O (show jo u b = .error u by unfold jo;rw [if_neg z]);rw [HT.o];clear z;go_enter Tryz.func61,Tryz.ntmps61;go_wp2_with fail;refine K.o.mono ?_;rintro e w1 ⟨rfl,b1⟩;have B1:=O b1;clear b1 K;go_wp2_with fail;refine(Kg (.bool b) u w1 (HDR.o.keep B1.o)).mono ?_;rintro e w2 ⟨rfl,b2⟩;have B2:=bh B1 b2;clear b2 B1;go_wp2_with fail;exact⟨rfl,j8 B2.o⟩
theorem zcR{w:World}{R:Nat}{k:Cx}(h:Gh w R k)(A B:Option Addr)(n m c d:Nat)(P Q:List Nd)(hP:Ns w A n c P)(hQ:Ns w B m d Q):
 Calls Tryz.prog 61 #[.pointer (some ⟨R,0,none⟩),.int .i64 27,.slice A n c,.slice B m d] w (jl w (jO k.E 27 P Q)):=by
 have K:=O (zle A B n m c d P Q w hP hQ);have HDR:=O h.door;have HR:=O (show jO k.E 27 P Q=jo (jU P Q) (Ri P Q) by unfold jO;rw [if_neg (by decide),if_neg (by decide),if_neg (by decide),if_neg (by decide),if_pos rfl]);rw [HR.o];generalize Ri P Q=b at *;generalize jU P Q=u at *;clear h hP hQ;by_cases z:u=0
 ·subst z;rw [zm] at K;have HT:=O (show jo 0 b = .ok (zI b) by unfold jo;rw [if_pos rfl]);rw [HT.o];go_enter Tryz.func61,Tryz.ntmps61;go_wp2_with fail;refine K.o.mono ?_;rintro e w1 ⟨rfl,b1⟩;have B1:=O b1;clear b1 K;go_wp2_with fail;refine(IE (.bool b) w1).mono ?_;rintro e w2 ⟨rfl,b2⟩;have B2:=bh B1 b2;clear b2 B1;go_wp2_with fail;refine(j6 b w2).mono ?_;rintro e w3 hp;have HP:=O (hp.up B2.o);obtain⟨-,A2,n2,c2,rfl,-,-⟩:=hp;go_wp2_with fail;go_ret;exact HP.o
 ·rw [zy z] at K;have HT:=O (show jo u b = .error u by unfold jo;rw [if_neg z]);rw [HT.o];clear z;go_enter Tryz.func61,Tryz.ntmps61;go_wp2_with fail;refine K.o.mono ?_;rintro e w1 ⟨rfl,b1⟩;have B1:=O b1;clear b1 K;go_wp2_with fail;refine(Kg (.bool b) u w1 (HDR.o.keep B1.o)).mono ?_;rintro e w2 ⟨rfl,b2⟩;have B2:=bh B1 b2;clear b2 B1;go_wp2_with fail;exact⟨rfl,j8 B2.o⟩
end Go.Proofs.YtokiogmfgpidmaaGreatDoor
