/-
  kinds: Has, Own over nodes that are handed in.
  errors.As at the target '*api.Errno': the contracts of plain.Told, and of the statements' Error and Told: the number of an error.
  plain.Told, and the statements' Error and Told: the number of an error, nil's is 0.
  KindsChecks: the walk of the law.
  KindsChecks: the closed facts of the frame, one by one.
  From the condition on the one listed variable (errors.errorType) to the walk's fact on its cell; a world that meets it.
  KindsChecks: the frame round the walk: for every input the law returns true, and each argument reads behind the call as it read before. No condition.
-/
import Derived.Deep.RegionHeld3
import Derived.LaidEql
import Derived.Stop.Asserts
import Derived.RowKitTokens
import Derived.SevenTiedAt
import Derived.ChangeSame
import Derived.ChangeVars
import Derived.JoinedOf
import Derived.LaidLaws
import Derived.LaidHandle
import Derived.Stop.Joined
import Derived.Test.YtmekockjgldndaaGreatDoorRows
import Derived.Test.YtmekockjgldndaaGreatDoorCards
import Derived.Test.YtmekockjgldndaaGreatDoorTie
import Derived.Test.YtmekockjgldndaaGreatDoorQc19
namespace Go.Proofs.YtmekockjgldndaaGreatDoor
open Go.RowKit Go.Wk Go.Sort
set_option maxRecDepth 100000

set_option maxHeartbeats 1000000 in
theorem Ns.kinds_Has {A1 A2 : Option Addr} {n1 c1 n2 c2 : Nat} {T V : List Nd} {w : World} (h : Ns w A1 n1 c1 T) (k : Ns w A2 n2 c2 V) :
    Calls Tryz.prog 19 #[.slice A1 n1 c1, .slice A2 n2 c2] w fun e w' => e = .returned (.tuple #[.bool (kHasB T V), errV (kHasE T V)]) ∧ Below w.heap.size w w' := by
  have C1 := Lib.hid (kinds_read A1 n1 c1 T w h)
  have C2 := Lib.hid (fun w' hb => val_Check_ns (k.keep (w' := w') hb))
  have HV := Lib.hid k
  have HF := Lib.hid (show kHasE T V = if kindFault T = 0 then valFault V else kindFault T from rfl)
  clear h k
  go_enter Tryz.func19, Tryz.ntmps19
  go_wp2_with fail
  refine C1.out.mono ?_
  rintro e w1 ⟨b1, o, n, s, t, p, A, m, c, rfl, hk⟩
  have B1 := Lib.hid b1
  have HK := Lib.hid hk
  have X1 := Lib.hid (bx6_new w1 (.int .i64 o) (.int .i64 n) (.string s) (.string t) (.pointer p) (.slice A m c) 85)
  have BX := Lib.hid (b1.trans ((below_box w1 (.cells #[.int .i64 o, .int .i64 n, .string s, .string t, .pointer p, .slice A m c] 85)).mono b1.size))
  have HZ := Lib.hid (show (w1.alloc (.cells #[.int .i64 o, .int .i64 n, .string s, .string t, .pointer p, .slice A m c] 85)).heap.size = w1.heap.size + 1 by simp)
  clear b1 hk C1
  obtain ⟨f1, hf1⟩ : ∃ f1, f1 = kindFault T := ⟨_, rfl⟩
  obtain ⟨f2, hf2⟩ : ∃ f2, f2 = valFault V := ⟨_, rfl⟩
  obtain ⟨f, hf⟩ : ∃ f, f = kHasE T V := ⟨_, rfl⟩
  have HFF := Lib.hid hf
  rw [← hf, ← hf1, ← hf2] at HF
  rw [← hf2] at C2
  rw [← hf1]
  have HF1 := Lib.hid hf1
  have HF2 := Lib.hid hf2
  clear hf1 hf2 hf
  have KF := Lib.hid (show ∀ (ad : Addr) (w' : World), w'.cell? ad = some (errV f1) → w'.cell? ⟨ad.block, ad.off + 1, none⟩ = some (errV f2) → Calls Tryz.prog 52 #[.slice (some ad) 2 2] w' fun e w'' => e = .returned (errV f) ∧ Below w'.heap.size w' w'' from fun ad w' h0 h1 => by
    rw [HF.out]; exact kind_first f1 f2 ad w' h0 h1)
  have W1 := (errV_ways f1).imp And.right And.right
  have W2 := (errV_ways f2).imp And.right And.right
  by_cases h0 : f = 0
  · rw [h0, errV_zero] at KF
    have h12 := has_zero.1 (HFF.out.symm.trans h0)
    obtain ⟨kk, vk, ek, kat⟩ := HK.out h12.1
    have HKA := Lib.hid kat
    have HVK := Lib.hid vk
    have hkin : Kin T kk := ⟨vk, ek, (kindFault_zero.1 h12.1).1⟩
    have HB := Lib.hid (hkin.has h12.2)
    have HKS := Lib.hid hkin.sz
    have HIV := Lib.hid (isV_zero.1 h12.2)
    have HF0 := Lib.hid h0
    clear h0 h12 vk ek kat hkin HK
    generalize errV f1 = v1 at *
    generalize errV f2 = v2 at *
    rcases W1 with rfl | rfl <;> rcases W2 with rfl | rfl
    all_goals
      go_wp2_with fail
      refine (C2.out _ BX.out).mono ?_
      rintro e w2 ⟨rfl, b2⟩
      have B2 := Lib.hid b2
      clear b2
      have rn := fun v1 v2 => cells_new w2 [v1, v2] 27
      have R0 := Lib.hid (fun v1 v2 => rn v1 v2 0 _ rfl)
      have R1 := Lib.hid (fun v1 v2 => rn v1 v2 1 _ rfl)
      clear rn
      go_wp2_with fail
      refine (KF.out _ _ (R0.out _ _) (R1.out _ _)).mono ?_
      rintro e w3 ⟨rfl, b3⟩
      have B3 := Lib.hid (B2.out.trans (((below_box w2 _).trans (b3.mono (by simp))).mono B2.out.size))
      clear b3
      go_wp2_with fail
      have X3 := Lib.hid (X1.out.keep B3.out)
      have BW3 := Lib.hid (BX.out.trans (B3.out.mono BX.out.size))
      have B13 := Lib.hid (show Below w1.heap.size w1 w3 from (below_box w1 (.cells #[.int .i64 o, .int .i64 n, .string s, .string t, .pointer p, .slice A m c] 85)).trans (B3.out.mono (by simp)))
      have bd : Below w3.heap.size w3 w3.drew := ⟨rfl, rfl, rfl, Nat.le_refl _, fun _ _ => rfl⟩
      have BD := Lib.hid bd
      have KO := Lib.hid (kind_own _ A2 n2 c2 V w3.drew (Nat.le_refl _) HIV.out.1 (HV.out.keep (BW3.out.trans (bd.mono BW3.out.size))) HIV.out.2)
      have HOS := Lib.hid (own_sz HIV.out.2)
      have KBB := Lib.hid (fun (u : List Value) (w5 : World) (hb : Below w3.heap.size w3 w5) (ku : KAt w5 (fun b => w3.drew.heap.size ≤ b) (ownV V) u) => kind_below _ (ownV V) kk u _ w5 (fun b => w.heap.size ≤ b ∧ b < w5.heap.size) (Nat.le_refl _) (by have := HOS.out; have := HIV.out.1; omega) (by have := HKS.out; omega)
        (ku.mono fun b h1 h2 => ⟨Nat.le_trans BW3.out.size h1, h2⟩)
        (((HKA.out.mono (B' := fun b => w.heap.size ≤ b ∧ b < w1.heap.size) fun b h1 h2 => ⟨h1, h2⟩).cong (w' := w5) fun b hb2 => (B13.out.trans (hb.mono B13.out.size)).block b hb2.2).mono fun b h1 h2 => ⟨h1.1, h2⟩)
        (own_valid HIV.out.2) HVK.out (fun b hb => hb.2))
      clear bd
      obtain ⟨a0, a1, a2, a3, a4, a5, -, -, -, -, -, -⟩ := X3.out
      go_region_held3 (fun (w' : World) => w'.cell? ⟨w1.heap.size, 0, none⟩ = some (.int .i64 o) ∧ w'.cell? ⟨w1.heap.size, 1, none⟩ = some (.int .i64 n) ∧ w'.cell? ⟨w1.heap.size, 2, none⟩ = some (.string s) ∧ w'.cell? ⟨w1.heap.size, 3, none⟩ = some (.string t) ∧ w'.cell? ⟨w1.heap.size, 4, none⟩ = some (.pointer p) ∧ w'.cell? ⟨w1.heap.size, 5, none⟩ = some (Value.slice A m c)) (first | go_keep)
        (first
          | (go_at_call 54; (refine KO.out.mono ?_); rintro e w5 ⟨u, rfl, ku, b5⟩; (have B5 := Lib.hid (BD.out.trans (b5.mono BD.out.size))); (have KB := Lib.hid (KBB.out u w5 B5.out ku)); (obtain ⟨o6, n6, s6, t6, p6, A6, m6, c6, rfl⟩ := kat_six ku); clear a0 a1 a2 a3 a4 a5 ku b5; (obtain ⟨a0, a1, a2, a3, a4, a5, -, -, -, -, -, -⟩ := X3.out.keep B5.out))
          | (go_at_call 53; (refine KB.out.mono ?_); rintro e w6 ⟨rfl, b6⟩; (have B6 := Lib.hid (B5.out.trans (b6.mono B5.out.size))); clear a0 a1 a2 a3 a4 a5 b6; (obtain ⟨a0, a1, a2, a3, a4, a5, -, -, -, -, -, -⟩ := X3.out.keep B6.out)))
      all_goals
        go_wp2_with fail
        go_ret2
        exact ⟨by rw [HB.out, ← HFF.out, HF0.out]; rfl, BW3.out.trans (B6.out.mono BW3.out.size)⟩
  · have HE := Lib.hid (show kHasB T V = false by unfold kHasB; rw [← HFF.out, decide_eq_false h0]; rfl)
    have HE2 := Lib.hid (show errV (kHasE T V) = .iface 23 (.int .i64 f) by rw [← HFF.out]; exact errV_ne h0)
    rw [errV_ne h0] at KF
    clear h0
    generalize errV f1 = v1 at *
    generalize errV f2 = v2 at *
    rcases W1 with rfl | rfl <;> rcases W2 with rfl | rfl
    all_goals
      go_wp2_with fail
      refine (C2.out _ BX.out).mono ?_
      rintro e w2 ⟨rfl, b2⟩
      have B2 := Lib.hid b2
      clear b2
      have rn := fun v1 v2 => cells_new w2 [v1, v2] 27
      have R0 := Lib.hid (fun v1 v2 => rn v1 v2 0 _ rfl)
      have R1 := Lib.hid (fun v1 v2 => rn v1 v2 1 _ rfl)
      clear rn
      go_wp2_with fail
      refine (KF.out _ _ (R0.out _ _) (R1.out _ _)).mono ?_
      rintro e w3 ⟨rfl, b3⟩
      have B3 := Lib.hid (B2.out.trans (((below_box w2 _).trans (b3.mono (by simp))).mono B2.out.size))
      clear b3
      go_wp2_with fail
      go_ret2
      exact ⟨by rw [HE.out, HE2.out]; rfl, BX.out.trans (B3.out.mono BX.out.size)⟩
set_option maxHeartbeats 1000000 in
theorem Ns.kinds_Own {A1 : Option Addr} {n1 c1 : Nat} {V : List Nd} {w : World} (h : Ns w A1 n1 c1 V) :
    Calls Tryz.prog 21 #[.slice A1 n1 c1] w fun e w' => ∃ (A : Option Addr) (n c : Nat), e = .returned (.tuple #[.slice A n c, errV (ownE V)]) ∧ Ns w' A n c (ownN V) ∧ Below w.heap.size w w' := by
  have C := Lib.hid (val_Check_ns h)
  by_cases h0 : valFault V = 0
  · obtain ⟨hl, hV⟩ := isV_zero.1 h0
    have HOK := Lib.hid ((own_valid hV).nds (by have := own_sz hV; omega))
    have HFL := Lib.hid (((flat_sz _).1 (ownV V) (Nat.le_refl _)).2)
    have HSZ := Lib.hid (show (ownV V).sz ≤ 400 by have := own_sz hV; omega)
    have HOE := Lib.hid (show ownE V = if 200 < (ownV V).flat.length then 4 else 0 by unfold ownE; rw [if_pos h0])
    have HON := Lib.hid (show ownN V = if ownE V = 0 then (ownV V).flat else [] from rfl)
    have KO := Lib.hid (fun w' (hb : Below w.heap.size w w') => kind_own _ A1 n1 c1 V w' (Nat.le_refl _) hl (h.keep hb) hV)
    rw [h0, errV_zero] at C
    clear h h0 hl hV
    go_enter Tryz.func21, Tryz.ntmps21
    go_wp2_with fail
    refine C.out.mono ?_
    rintro e w1 ⟨rfl, b1⟩
    have B1 := Lib.hid b1
    clear b1
    go_wp2_with fail
    refine (KO.out w1 B1.out).mono ?_
    rintro e w2 ⟨u, rfl, ku, b2⟩
    have B2 := Lib.hid (B1.out.trans (b2.mono B1.out.size))
    have KF := Lib.hid (kind_flat _ (ownV V) u w2 (fun g => g < w2.heap.size) w2.heap.size (.slice none 0 0) [] (Nat.le_refl _) (by have := HFL.out; have := HSZ.out; simp; omega) (ku.mono fun g _ hg => hg) (rowN_nil _ _) (Nat.le_refl _) (fun g hg => hg))
    obtain ⟨o3, n3, s3, t3, p3, A3, m3, c3, rfl⟩ := kat_six ku
    clear b2 KO ku
    go_wp2_with fail
    refine KF.out.mono ?_
    rintro e w3 ⟨v3, rfl, r3, g3, -⟩
    rw [List.nil_append] at r3
    have B3 := Lib.hid (show Below w.heap.size w w3 from B2.out.trans ((show Below w2.heap.size w2 w3 from ⟨g3.os, g3.tape, g3.output, g3.size, fun k hk => g3.block k hk (fun e => nomatch (show some k = none from e))⟩).mono B2.out.size))
    obtain ⟨A4, n4, c4, rfl, hn4, N4⟩ := r3.ns HOK.out (by have := HFL.out; have := HSZ.out; omega)
    have NS := Lib.hid N4
    have HN4 := Lib.hid hn4
    have hl4 : n4 ≤ 800 := by have := HFL.out; have := HSZ.out; omega
    clear r3 g3 N4 KF hn4
    by_cases hb : 200 < n4
    · have HE := Lib.hid (show ownE V = 4 by rw [HOE.out, if_pos (by rw [← HN4.out]; exact hb)])
      have HV := Lib.hid (show ownN V = [] by rw [HON.out, HE.out]; rfl)
      go_wp2_with fail
      go_ret2
      exact ⟨none, 0, 0, by rw [HE.out]; rfl, by rw [HV.out]; exact kns_nil _, B3.out⟩
    · have HE := Lib.hid (show ownE V = 0 by rw [HOE.out, if_neg (by rw [← HN4.out]; exact hb)])
      have HV := Lib.hid (show ownN V = (ownV V).flat by rw [HON.out, HE.out]; rfl)
      go_wp2_with fail
      go_ret2
      exact ⟨A4, n4, c4, by rw [HE.out]; rfl, by rw [HV.out]; exact NS.out, B3.out⟩
  · have HE := Lib.hid (show ownE V = valFault V by unfold ownE; rw [if_neg h0])
    have HV := Lib.hid (show ownN V = [] by unfold ownN; rw [HE.out, if_neg h0])
    rw [errV_ne h0] at C
    clear h
    go_enter Tryz.func21, Tryz.ntmps21
    go_wp2_with fail
    refine C.out.mono ?_
    rintro e w1 ⟨rfl, b1⟩
    have B1 := Lib.hid b1
    clear b1
    go_wp2_with fail
    go_ret2
    exact ⟨none, 0, 0, by rw [HE.out, errV_ne h0]; rfl, by rw [HV.out]; exact kns_nil _, B1.out⟩
end Go.Proofs.YtmekockjgldndaaGreatDoor
namespace Go.Proofs.YtmekockjgldndaaGreatDoor
open Go.RowKit Go.Extern.Stop Go.Stop Go.Extern

/-! ### Closed facts on the model's entries for internal/reflectlite, at this program's types -/
theorem valueOfT (t : Addr) (w : World) : (ReflectliteValue.unpack (.iface 158 (.pointer (some t)))).run Tryz.prog w
    = .ok (.agg #[.pointer (some ⟨2, 158, none⟩), .pointer (some ⟨w.heap.size, 0, none⟩), .int .u64 150]) (w.alloc (.cells #[.pointer (some t)] 158)) := by kernel_rfl
theorem typeT (a : Addr) (w : World) : (ReflectliteValue.methodAny (ReflectliteValue.valueError "reflectlite.Value.Type" 0) (fun t _ _ _ => ReflectliteType.toType t) #[.agg #[.pointer (some ⟨2, 158, none⟩), .pointer (some a), .int .u64 150]]).run Tryz.prog w
    = .ok (.iface 300 (.agg #[.pointer (some ⟨2, 158, none⟩)])) w := by kernel_rfl
theorem methodKind (h : Value) (w : World) : (Go.method 592 300 (.agg #[h]) "Kind").run Tryz.prog w = .ok (356, h) w := by kernel_rfl
theorem kindT (w : World) : ((ReflectliteType.abiMethod fun t => (fun a : Nat => Value.int IntKind.u8 (a : Int)) <$> Rtype.kind t) #[.pointer (some ⟨2, 158, none⟩)]).run Tryz.prog w = .ok (.int .u8 22) w := by kernel_rfl
theorem kindE (w : World) : ((ReflectliteType.abiMethod fun t => (fun a : Nat => Value.int IntKind.u8 (a : Int)) <$> Rtype.kind t) #[.pointer (some ⟨2, 23, none⟩)]).run Tryz.prog w = .ok (.int .u8 2) w := by kernel_rfl
theorem rlm (z : Sem Value) (f : TypeId → Addr → Nat → Nat → Sem Value) (v : Value) :
    ReflectliteValue.method z f #[v] = (do match ← ReflectliteValue.parts v with | none => z | some (t, a, fl) => f t a fl (fl % 32)) := rfl
theorem partsT (a : Addr) (w : World) : (ReflectliteValue.parts (.agg #[.pointer (some ⟨2, 158, none⟩), .pointer (some a), .int .u64 150])).run Tryz.prog w = .ok (some (158, a, 150)) w := by kernel_rfl
theorem isNilT (a p : Addr) (W : World) (ha : W.cell? a = some (.pointer (some p))) :
    (ReflectliteValue.method (ReflectliteValue.valueError "reflectlite.Value.IsNil" 0) ReflectliteValue.isNil #[.agg #[.pointer (some ⟨2, 158, none⟩), .pointer (some a), .int .u64 150]]).run Tryz.prog W = .ok (.bool false) W := by
  rw [rlm]
  simp only [Sem.run_bind, partsT, Result.andThen]
  simp [ReflectliteValue.isNil, loadVar, isAgg, underlying, Tryz.underlying158, ha, Result.andThen]
theorem methodElem (h : Value) (w : World) : (Go.method 592 300 (.agg #[h]) "Elem").run Tryz.prog w = .ok (366, .agg #[h]) w := by kernel_rfl
theorem methodImplements (h : Value) (w : World) : (Go.method 592 300 (.agg #[h]) "Implements").run Tryz.prog w = .ok (367, .agg #[h]) w := by kernel_rfl
theorem methodAssignableTo (h : Value) (w : World) : (Go.method 592 300 (.agg #[h]) "AssignableTo").run Tryz.prog w = .ok (364, .agg #[h]) w := by kernel_rfl
theorem elemT (w : World) : (ReflectliteType.method ReflectliteType.elem #[.agg #[.pointer (some ⟨2, 158, none⟩)]]).run Tryz.prog w = .ok (.iface 300 (.agg #[.pointer (some ⟨2, 23, none⟩)])) w := by kernel_rfl
theorem implementsE (w : World) : (ReflectliteType.relation "Implements" ReflectliteType.implements_ #[.agg #[.pointer (some ⟨2, 23, none⟩)], .iface 300 (.agg #[.pointer (some ⟨2, 27, none⟩)])]).run Tryz.prog w = .ok (.bool true) w := by kernel_rfl
theorem typeOfE (v : Value) (w : World) : (ReflectliteType.typeOf #[.iface 23 v]).run Tryz.prog w = .ok (.iface 300 (.agg #[.pointer (some ⟨2, 23, none⟩)])) w := by kernel_rfl
theorem assignableE (w : World) : (ReflectliteType.relation "AssignableTo" ReflectliteType.assignableTo #[.agg #[.pointer (some ⟨2, 23, none⟩)], .iface 300 (.agg #[.pointer (some ⟨2, 23, none⟩)])]).run Tryz.prog w = .ok (.bool true) w := by kernel_rfl
theorem valueOfE (n : Int) (w : World) : (ReflectliteValue.unpack (.iface 23 (.int .i64 n))).run Tryz.prog w
    = .ok (.agg #[.pointer (some ⟨2, 23, none⟩), .pointer (some ⟨w.heap.size, 0, none⟩), .int .u64 130]) (w.alloc (.cells #[.int .i64 n] 23)) := by kernel_rfl
theorem elemOfT (w : World) : (Rtype.elem? 158).run Tryz.prog w = .ok (some 23) w := by kernel_rfl
theorem mkE (p : Addr) (w : World) : (ReflectliteValue.mk 23 p ReflectliteValue.flagAddr).run Tryz.prog w = .ok (.agg #[.pointer (some ⟨2, 23, none⟩), .pointer (some p), .int .u64 386]) w := by kernel_rfl
theorem elemVT (a p : Addr) (W : World) (ha : W.cell? a = some (.pointer (some p))) :
    (ReflectliteValue.method (ReflectliteValue.valueError "reflectlite.Value.Elem" 0) ReflectliteValue.elem #[.agg #[.pointer (some ⟨2, 158, none⟩), .pointer (some a), .int .u64 150]]).run Tryz.prog W
      = .ok (.agg #[.pointer (some ⟨2, 23, none⟩), .pointer (some p), .int .u64 386]) W := by
  rw [rlm]
  simp only [Sem.run_bind, partsT, Result.andThen]
  simp [ReflectliteValue.elem, loadVar, isAgg, underlying, Tryz.underlying158, ha, Result.andThen, elemOfT, mkE]
theorem rls (v x : Value) : ReflectliteValue.set #[v, x] = (do
    let (some (dst, a, fl), some (src, b, _)) := (← ReflectliteValue.parts v, ← ReflectliteValue.parts x)
      | unsupported (.noEntry "extern/(internal/reflectlite.Value).Set.zeroValue")
    if fl / ReflectliteValue.flagAddr % 2 == 0 then unsupported (.noEntry "extern/(internal/reflectlite.Value).Set.unaddressable")
    let val ← loadVar src b
    if ← Rtype.directlyAssignable dst src then storeVar dst a val
    else if ← Rtype.implements dst src then
      if (← Rtype.kind src) == 20 then
        match val with
        | .nilIface => unsupported (.noEntry "extern/reflectlite: a nil value of one interface type handed on as a value of another")
        | _ => storeVar dst a val
      else storeVar dst a (.iface src val)
    else panicString ("reflectlite.Set: value of type " ++ (← Rtype.spelt src) ++ " is not assignable to type " ++ (← Rtype.spelt dst))
    pure (.tuple #[])) := rfl
theorem partsEa (a : Addr) (w : World) : (ReflectliteValue.parts (.agg #[.pointer (some ⟨2, 23, none⟩), .pointer (some a), .int .u64 386])).run Tryz.prog w = .ok (some (23, a, 386)) w := by kernel_rfl
theorem partsE (a : Addr) (w : World) : (ReflectliteValue.parts (.agg #[.pointer (some ⟨2, 23, none⟩), .pointer (some a), .int .u64 130])).run Tryz.prog w = .ok (some (23, a, 130)) w := by kernel_rfl
theorem directE (w : World) : (Rtype.directlyAssignable 23 23).run Tryz.prog w = .ok true w := by kernel_rfl
theorem setE (ta b : Addr) (n : Int) (old : Value) (W : World) (hb : W.cell? b = some (.int .i64 n)) (ht : W.cell? ta = some old) (hf : W.frozen? ta = false) :
    (ReflectliteValue.set #[.agg #[.pointer (some ⟨2, 23, none⟩), .pointer (some ta), .int .u64 386], .agg #[.pointer (some ⟨2, 23, none⟩), .pointer (some b), .int .u64 130]]).run Tryz.prog W
      = .ok (.tuple #[]) (W.setCell ta (.int .i64 n)) := by
  rw [rls]
  simp only [Sem.run_bind, partsEa, partsE, Result.andThen]
  simp [ReflectliteValue.flagAddr, loadVar, isAgg, underlying, Tryz.underlying23, hb, Result.andThen, directE, storeVar, Value.cells, storeCells, Addr.add]
  rw [run_store Tryz.prog W ta _ _ (by rfl)]
  simp [ht, hf]

set_option maxHeartbeats 4000000 in
theorem as_hit (n : Int) (t : Addr) (old : Value) (w : World) (hg : w.cell? ⟨0, 0, none⟩ = some (.iface 300 (.agg #[.pointer (some ⟨2, 27, none⟩)]))) (ht0 : w.cell? t = some old) (hf0 : w.frozen? t = false) :
    Calls Tryz.prog 96 #[.iface 23 (.int .i64 n), .iface 158 (.pointer (some t))] w fun ev w' => ev = .returned (.bool true) ∧ w' = (((((w.alloc (.cells #[.pointer (some t)] 158)).alloc (.cells #[.pointer (some ⟨2, 158, none⟩), .pointer (some ⟨w.heap.size, 0, none⟩), .int .u64 150] 230)).alloc (.cells #[.pointer (some ⟨2, 158, none⟩), .pointer (some ⟨w.heap.size, 0, none⟩), .int .u64 150] 230)).alloc (.cells #[.int .i64 n] 23)).setCell t (.int .i64 n)) := by
  have h6 := @run_callFunc_extern Tryz.prog 162 _ (fun args => ReflectliteValue.unpack (args.getD 0 (.tuple #[]))) Tryz.func162 (by kernel_rfl) (by kernel_rfl) (by kernel_rfl) (by kernel_rfl)
  have h7 := @run_callFunc_extern Tryz.prog 163 _ (ReflectliteValue.methodAny (ReflectliteValue.valueError "reflectlite.Value.Type" 0) (fun t _ _ _ => ReflectliteType.toType t)) Tryz.func163 (by kernel_rfl) (by kernel_rfl) (by kernel_rfl) (by kernel_rfl)
  have h8 := @run_callFunc_extern Tryz.prog 164 _ (ReflectliteValue.method (ReflectliteValue.valueError "reflectlite.Value.IsNil" 0) ReflectliteValue.isNil) Tryz.func164 (by kernel_rfl) (by kernel_rfl) (by kernel_rfl) (by kernel_rfl)
  have h27 := @run_callFunc_extern Tryz.prog 356 _ (ReflectliteType.abiMethod fun t => do pure (.int .u8 (← Rtype.kind t))) Tryz.func356 (by kernel_rfl) (by kernel_rfl) (by kernel_rfl) (by kernel_rfl)
  have h37 := @run_callFunc_extern Tryz.prog 366 _ (ReflectliteType.method ReflectliteType.elem) Tryz.func366 (by kernel_rfl) (by kernel_rfl) (by kernel_rfl) (by kernel_rfl)
  have h38 := @run_callFunc_extern Tryz.prog 367 _ (ReflectliteType.relation "Implements" ReflectliteType.implements_) Tryz.func367 (by kernel_rfl) (by kernel_rfl) (by kernel_rfl) (by kernel_rfl)
  have h10 := @run_callFunc_extern Tryz.prog 216 _ (ReflectliteType.typeOf) Tryz.func216 (by kernel_rfl) (by kernel_rfl) (by kernel_rfl) (by kernel_rfl)
  have h35 := @run_callFunc_extern Tryz.prog 364 _ (ReflectliteType.relation "AssignableTo" ReflectliteType.assignableTo) Tryz.func364 (by kernel_rfl) (by kernel_rfl) (by kernel_rfl) (by kernel_rfl)
  have h11 := @run_callFunc_extern Tryz.prog 217 _ (ReflectliteValue.method (ReflectliteValue.valueError "reflectlite.Value.Elem" 0) ReflectliteValue.elem) Tryz.func217 (by kernel_rfl) (by kernel_rfl) (by kernel_rfl) (by kernel_rfl)
  have h12 := @run_callFunc_extern Tryz.prog 218 _ (ReflectliteValue.set) Tryz.func218 (by kernel_rfl) (by kernel_rfl) (by kernel_rfl) (by kernel_rfl)
  have tO := typeOfE
  have mA := methodAssignableTo
  have a25 := assignableE
  have v25 := valueOfE
  have f6 := valueOfT
  have f7 := typeT
  have mK := methodKind
  have mE := methodElem
  have mI := methodImplements
  have k27 := kindT
  have k25 := kindE
  have e27 := elemT
  have i25 := implementsE
  have n8 := isNilT ⟨w.heap.size, 0, none⟩ t ((w.alloc (.cells #[.pointer (some t)] 158)).alloc (.cells #[.pointer (some ⟨2, 158, none⟩), .pointer (some ⟨w.heap.size, 0, none⟩), .int .u64 150] 230)) (by simp)
  have hlt : 0 < w.heap.size := by
    rcases Nat.eq_zero_or_pos w.heap.size with h0 | h
    · simp [World.cell?, h0] at hg
    · exact h
  have hg2 : ((w.alloc (.cells #[.pointer (some t)] 158)).alloc (.cells #[.pointer (some ⟨2, 158, none⟩), .pointer (some ⟨w.heap.size, 0, none⟩), .int .u64 150] 230)).cell? ⟨0, 0, none⟩ = some (.iface 300 (.agg #[.pointer (some ⟨2, 27, none⟩)])) := by
    rw [World.cell?_alloc_lt _ _ ⟨0, 0, none⟩ (by simp), World.cell?_alloc_lt _ _ ⟨0, 0, none⟩ hlt]; exact hg
  have htl : t.block < w.heap.size := by
    rcases Nat.lt_or_ge t.block w.heap.size with h | h
    · exact h
    · simp [World.cell?, Array.getElem?_eq_none h] at ht0
  have el := elemVT ⟨w.heap.size, 0, none⟩ t (((w.alloc (.cells #[.pointer (some t)] 158)).alloc (.cells #[.pointer (some ⟨2, 158, none⟩), .pointer (some ⟨w.heap.size, 0, none⟩), .int .u64 150] 230)).alloc (.cells #[.pointer (some ⟨2, 158, none⟩), .pointer (some ⟨w.heap.size, 0, none⟩), .int .u64 150] 230)) (by rw [World.cell?_alloc_lt _ _ ⟨w.heap.size, 0, none⟩ (by simp; omega)]; simp)
  have st := setE t ⟨w.heap.size + 1 + 1 + 1, 0, none⟩ n old ((((w.alloc (.cells #[.pointer (some t)] 158)).alloc (.cells #[.pointer (some ⟨2, 158, none⟩), .pointer (some ⟨w.heap.size, 0, none⟩), .int .u64 150] 230)).alloc (.cells #[.pointer (some ⟨2, 158, none⟩), .pointer (some ⟨w.heap.size, 0, none⟩), .int .u64 150] 230)).alloc (.cells #[.int .i64 n] 23))
    (by rw [World.cell?_alloc_at _ _ _ _ (by simp)]; rfl)
    (by rw [World.cell?_alloc_lt _ _ t (by simp; omega), World.cell?_alloc_lt _ _ t (by simp; omega), World.cell?_alloc_lt _ _ t (by simp; omega), World.cell?_alloc_lt _ _ t htl]; exact ht0)
    (by rw [World.frozen?_alloc_old _ _ t (by simp; omega), World.frozen?_alloc_old _ _ t (by simp; omega), World.frozen?_alloc_old _ _ t (by simp; omega), World.frozen?_alloc_old _ _ t (Nat.ne_of_lt htl)]; exact hf0)
  go_enter Tryz.func96, Tryz.ntmps96
  go_wp2
  refine wp_loop_rounds 1 ?_
  rw [rounds_succ]
  go_wp2
  go_ret
  exact ⟨rfl, rfl⟩
end Go.Proofs.YtmekockjgldndaaGreatDoor
namespace Go.Proofs.YtmekockjgldndaaGreatDoor
open Go.RowKit

/-- The one package-level variable that errors.As reads, as the program's text lays it. -/
def Door (w : World) : Prop := w.cell? ⟨0, 0, none⟩ = some (.iface 300 (.agg #[.pointer (some ⟨2, 27, none⟩)]))
theorem Door.keep {w w' : World} (h : Door w) (hb : Below w.heap.size w w') : Door w' := cell_keep hb h
theorem Door.pos {w : World} (h : Door w) : 0 < w.heap.size := block_lt_of_cell h
theorem Door.alloc {w : World} (h : Door w) (o : Obj) : Door (w.alloc o) := h.keep ((Below.refl _ _).alloc (Nat.le_refl _) _)
theorem Door.drewN {w : World} (h : Door w) (n : Nat) : Door (w.drewN n) := h
theorem Door.drew {w : World} (h : Door w) : Door w.drew := h

theorem Told_nil (w : World) : Calls Tryz.prog 44 #[.nilIface] w fun e w' => e = .returned (.int .i64 0) ∧ Below w.heap.size w w' := by
  go_enter Tryz.func44, Tryz.ntmps44
  go_wp2
  go_ret
  exact ⟨rfl, Below.refl _ _⟩

set_option maxHeartbeats 1000000 in
theorem Told_err (n : Int) (w : World) (hg : Door w) : Calls Tryz.prog 44 #[.iface 23 (.int .i64 n)] w fun e w' => e = .returned (.int .i64 n) ∧ Below w.heap.size w w' := by
  have h1 := hg.alloc (.cells #[.int .i64 0] 23)
  have c1 := as_hit n ⟨w.heap.size, 0, none⟩ (.int .i64 0) (w.alloc (.cells #[.int .i64 0] 23)) h1 (by simp) (by simp)
  have C1 := Lib.hid c1
  clear c1 h1
  go_enter Tryz.func44, Tryz.ntmps44
  go_wp2_with (go_at_call 96; refine C1.out.mono ?_; rintro e w' ⟨rfl, rfl⟩)
  go_ret
  refine ⟨rfl, ?_⟩
  exact (by (repeat' (first | exact Below.refl _ _ | refine Below.alloc ?_ ?_ _ | refine Below.setCell ?_ ?_ _ | refine Below.drew ?_ | refine Below.drewN ?_ _)) <;> (try simp) <;> omega)

theorem plain_Told (n : Int) (w : World) (hg : Door w) : Calls Tryz.prog 44 #[errV n] w fun e w' => e = .returned (.int .i64 n) ∧ Below w.heap.size w w' := by
  by_cases h : n = 0
  · subst h; exact Told_nil w
  · rw [errV_ne h]; exact Told_err n w hg

theorem same_Error (n k : Int) (w : World) (hg : Door w) : Calls Tryz.prog 15 #[errV n, .int .i64 k] w fun e w' => e = .returned (.bool (n == k)) ∧ Below w.heap.size w w' := by
  have C1 := Lib.hid (plain_Told n w hg)
  go_enter Tryz.func15, Tryz.ntmps15
  go_wp2_with (go_at_call 44; refine C1.out.mono ?_; rintro e w' ⟨rfl, hb⟩)
  go_ret
  exact ⟨rfl, hb⟩

theorem same_Told (n k : Int) (w : World) (hg : Door w) : Calls Tryz.prog 93 #[errV n, errV k] w fun e w' => e = .returned (.bool (n == k)) ∧ Below w.heap.size w w' := by
  have C1 := Lib.hid (plain_Told n w hg)
  have C2 := Lib.hid (fun w1 hb => plain_Told k w1 (hg.keep (w' := w1) hb))
  go_enter Tryz.func93, Tryz.ntmps93
  go_wp2_with fail
  refine C1.out.mono ?_
  rintro e w1 ⟨rfl, hb⟩
  go_wp2_with fail
  refine (C2.out w1 hb).mono ?_
  rintro e w2 ⟨rfl, hb2⟩
  go_wp2
  go_ret
  exact ⟨rfl, hb.trans (hb2.mono hb.size)⟩
end Go.Proofs.YtmekockjgldndaaGreatDoor
namespace Go.Proofs.YtmekockjgldndaaGreatDoor
open Go.RowKit Go.Wk Go.Sort
set_option maxRecDepth 100000

section
variable (A1 : Option Addr) (n1 c1 : Nat) (T : List Nd) (A2 : Option Addr) (n2 c2 : Nat) (V : List Nd) (w : World) (hs : Ns w A1 n1 c1 T) (ht : Ns w A2 n2 c2 V) (hg : Door w)
include hs ht hg
set_option maxHeartbeats 2000000 in
theorem KindsChecks_ax (h1 : kindFault T ≠ 0) (h2 : valFault V ≠ 0) :
    Calls Tryz.prog 3 #[.slice A1 n1 c1, .slice A2 n2 c2] w fun e w' => e = .returned (.bool true) ∧ Below w.heap.size w w' := by
  have B0 := Lib.hid (Below.refl w.heap.size w)
  have CK := Lib.hid (fun w' hb => ref_KindFault A1 n1 c1 T w' (hs.keep (w' := w') hb))
  have CC := Lib.hid (fun w' hb => (hs.keep (w' := w') hb).kinds_Check)
  have CV := Lib.hid (fun w' hb => ref_ValueFault A2 n2 c2 V w' (ht.keep (w' := w') hb))
  have CH := Lib.hid (fun w' hb => (hs.keep (w' := w') hb).kinds_Has (ht.keep hb))
  have CO := Lib.hid (fun w' hb => (ht.keep (w' := w') hb).kinds_Own)
  have HG := Lib.hid hg
  have HE : Hid (∀ n k w', Below w.heap.size w w' → Calls Tryz.prog 15 #[errV n, .int .i64 k] w' fun e w'' => e = .returned (.bool (n == k)) ∧ Below w'.heap.size w' w'') := Lib.hid (fun n k w' hb => same_Error n k w' (HG.out.keep hb))
  have CN : Hid (∀ w', Below w.heap.size w w' → Calls Tryz.prog 16 #[.slice none 0 0] w' fun e w'' => e = .returned (errV 1) ∧ Below w'.heap.size w' w'') := Lib.hid (fun w' _ => (kns_nil w').kinds_Check)
  have HNN : Hid (∀ A n c w', Ns w' A n c [] → Calls Tryz.prog 22 #[.slice A n c, .slice none 0 0] w' fun e w'' => e = .returned (.bool true) ∧ Below w'.heap.size w' w'') := Lib.hid (fun A n c w' hn => by
    have := hn.same (kns_nil w')
    rwa [cmpNds_cmp.self, decide_eq_true rfl] at this)
  have e1 : kHasE T V = kindFault T := by unfold kHasE; rw [if_neg h1]
  have e2 : kHasB T V = false := by unfold kHasB; rw [e1, decide_eq_false h1]; rfl
  rw [e1, e2] at CH
  have f1 : (kindFault T == 0) = false := beq_eq_false_iff_ne.2 h1
  generalize kindFault T = r1 at *
  clear h1 e1 e2
  have o1 : ownE V = valFault V := by unfold ownE; rw [if_neg h2]
  have o2 : ownN V = [] := by unfold ownN; rw [o1, if_neg h2]
  rw [o1, o2] at CO
  have f2 : (valFault V == 0) = false := beq_eq_false_iff_ne.2 h2
  generalize valFault V = r2 at *
  clear o1 o2 hs ht hg HG h2
  go_enter Tryz.func3, Tryz.ntmps3
  go_wp2_with fail
  refine (CK.out _ B0.out).mono ?_
  rintro e w1 ⟨rfl, b1⟩
  have B1 := bh B0 b1
  clear b1 B0
  go_wp2_with fail
  refine (CC.out _ B1.out).mono ?_
  rintro e w2 ⟨rfl, b2⟩
  have B2 := bh B1 b2
  clear b2 B1
  go_wp2_with fail
  refine (HE.out _ _ _ B2.out).mono ?_
  rintro e w3 ⟨rfl, b3⟩
  have B3 := bh B2 b3
  clear b3 B2
  rw [beq_self_eq_true]
  go_wp2_with fail
  refine (CH.out _ B3.out).mono ?_
  rintro e w4 ⟨rfl, b4⟩
  have B4 := bh B3 b4
  clear b4 B3
  go_wp2_with fail
  refine (HE.out _ _ _ B4.out).mono ?_
  rintro e w5 ⟨rfl, b5⟩
  have B5 := bh B4 b5
  clear b5 B4
  rw [beq_self_eq_true]
  go_wp2_with fail
  refine (CV.out _ B5.out).mono ?_
  rintro e w6 ⟨rfl, b6⟩
  have B6 := bh B5 b6
  clear b6 B5
  go_wp2_with fail
  refine (CO.out _ B6.out).mono ?_
  rintro e w7 ⟨A7, n7, c7, rfl, N7, b7⟩
  have B7 := bh B6 b7
  clear b7 B6
  replace N7 := Lib.hid N7
  go_wp2_with fail
  refine (HE.out _ _ _ B7.out).mono ?_
  rintro e w8 ⟨rfl, b8⟩
  have B8 := bh B7 b8
  replace N7 := Lib.hid (N7.out.keep b8)
  clear b8 B7
  rw [beq_self_eq_true]
  go_wp2_with fail
  refine (HNN.out _ _ _ _ N7.out).mono ?_
  rintro e w9 ⟨rfl, b9⟩
  have B9 := bh B8 b9
  clear b9 B8
  go_wp2_with fail
  refine (CN.out _ B9.out).mono ?_
  rintro e w10 ⟨rfl, b10⟩
  have B10 := bh B9 b10
  clear b10 B9
  go_wp2_with fail
  refine (HE.out _ _ _ B10.out).mono ?_
  rintro e w11 ⟨rfl, b11⟩
  have B11 := bh B10 b11
  clear b11 B10
  rw [beq_self_eq_true]
  go_wp2_with fail
  go_ret
  exact ⟨rfl, B11.out⟩
set_option maxHeartbeats 2000000 in
theorem KindsChecks_ay (h1 : kindFault T ≠ 0) (h2 : valFault V = 0) (h3 : 200 < (ownV V).flat.length) :
    Calls Tryz.prog 3 #[.slice A1 n1 c1, .slice A2 n2 c2] w fun e w' => e = .returned (.bool true) ∧ Below w.heap.size w w' := by
  have B0 := Lib.hid (Below.refl w.heap.size w)
  have CK := Lib.hid (fun w' hb => ref_KindFault A1 n1 c1 T w' (hs.keep (w' := w') hb))
  have CC := Lib.hid (fun w' hb => (hs.keep (w' := w') hb).kinds_Check)
  have CV := Lib.hid (fun w' hb => ref_ValueFault A2 n2 c2 V w' (ht.keep (w' := w') hb))
  have CH := Lib.hid (fun w' hb => (hs.keep (w' := w') hb).kinds_Has (ht.keep hb))
  have CO := Lib.hid (fun w' hb => (ht.keep (w' := w') hb).kinds_Own)
  have HG := Lib.hid hg
  have HE : Hid (∀ n k w', Below w.heap.size w w' → Calls Tryz.prog 15 #[errV n, .int .i64 k] w' fun e w'' => e = .returned (.bool (n == k)) ∧ Below w'.heap.size w' w'') := Lib.hid (fun n k w' hb => same_Error n k w' (HG.out.keep hb))
  have CN : Hid (∀ w', Below w.heap.size w w' → Calls Tryz.prog 16 #[.slice none 0 0] w' fun e w'' => e = .returned (errV 1) ∧ Below w'.heap.size w' w'') := Lib.hid (fun w' _ => (kns_nil w').kinds_Check)
  have HNN : Hid (∀ A n c w', Ns w' A n c [] → Calls Tryz.prog 22 #[.slice A n c, .slice none 0 0] w' fun e w'' => e = .returned (.bool true) ∧ Below w'.heap.size w' w'') := Lib.hid (fun A n c w' hn => by
    have := hn.same (kns_nil w')
    rwa [cmpNds_cmp.self, decide_eq_true rfl] at this)
  have CW := Lib.hid (fun w' (hb : Below w.heap.size w w') => ref_Own _ V (Nat.le_refl _) h2 A2 n2 c2 w' (ht.keep hb))
  unfold JnR at CW
  have hjs : (ownV V).flat.length ≤ 800 := by rw [flat_len]; have := own_sz (isV_zero.1 h2).2; have := (isV_zero.1 h2).1; omega
  have e1 : kHasE T V = kindFault T := by unfold kHasE; rw [if_neg h1]
  have e2 : kHasB T V = false := by unfold kHasB; rw [e1, decide_eq_false h1]; rfl
  rw [e1, e2] at CH
  have f1 : (kindFault T == 0) = false := beq_eq_false_iff_ne.2 h1
  generalize kindFault T = r1 at *
  clear h1 e1 e2
  have o1 : ownE V = 4 := by unfold ownE; rw [if_pos h2, if_pos h3]
  have o2 : ownN V = [] := by unfold ownN; rw [o1, if_neg (by decide)]
  rw [o1, o2] at CO
  rw [h2] at CV
  have f3 : decide (200 < ((ownV V).flat.length : Int)) = true := decide_eq_true (by omega)
  generalize (ownV V).flat = jf at *
  generalize hjl : jf.length = jl at *
  clear o1 o2 hs ht hg HG h2 h3
  go_enter Tryz.func3, Tryz.ntmps3
  go_wp2_with fail
  refine (CK.out _ B0.out).mono ?_
  rintro e w1 ⟨rfl, b1⟩
  have B1 := bh B0 b1
  clear b1 B0
  go_wp2_with fail
  refine (CC.out _ B1.out).mono ?_
  rintro e w2 ⟨rfl, b2⟩
  have B2 := bh B1 b2
  clear b2 B1
  go_wp2_with fail
  refine (HE.out _ _ _ B2.out).mono ?_
  rintro e w3 ⟨rfl, b3⟩
  have B3 := bh B2 b3
  clear b3 B2
  rw [beq_self_eq_true]
  go_wp2_with fail
  refine (CH.out _ B3.out).mono ?_
  rintro e w4 ⟨rfl, b4⟩
  have B4 := bh B3 b4
  clear b4 B3
  go_wp2_with fail
  refine (HE.out _ _ _ B4.out).mono ?_
  rintro e w5 ⟨rfl, b5⟩
  have B5 := bh B4 b5
  clear b5 B4
  rw [beq_self_eq_true]
  go_wp2_with fail
  refine (CV.out _ B5.out).mono ?_
  rintro e w6 ⟨rfl, b6⟩
  have B6 := bh B5 b6
  clear b6 B5
  go_wp2_with fail
  refine (CW.out _ B6.out).mono ?_
  rintro e w7 ⟨A6, c6, rfl, N6, b7, -⟩
  have B7 := bh B6 b7
  clear b7 B6
  go_wp2_with fail
  refine (CO.out _ B7.out).mono ?_
  rintro e w8 ⟨A7, n7, c7, rfl, N7, b8⟩
  have B8 := bh B7 b8
  clear b8 B7
  replace N7 := Lib.hid N7
  go_wp2_with fail
  refine (HE.out _ _ _ B8.out).mono ?_
  rintro e w9 ⟨rfl, b9⟩
  have B9 := bh B8 b9
  replace N7 := Lib.hid (N7.out.keep b9)
  clear b9 B8
  rw [beq_self_eq_true]
  go_wp2_with fail
  refine (HNN.out _ _ _ _ N7.out).mono ?_
  rintro e w10 ⟨rfl, b10⟩
  have B10 := bh B9 b10
  clear b10 B9
  go_wp2_with fail
  refine (CN.out _ B10.out).mono ?_
  rintro e w11 ⟨rfl, b11⟩
  have B11 := bh B10 b11
  clear b11 B10
  go_wp2_with fail
  refine (HE.out _ _ _ B11.out).mono ?_
  rintro e w12 ⟨rfl, b12⟩
  have B12 := bh B11 b12
  clear b12 B11
  rw [beq_self_eq_true]
  go_wp2_with fail
  go_ret
  exact ⟨rfl, B12.out⟩
set_option maxHeartbeats 2000000 in
theorem KindsChecks_az (h1 : kindFault T ≠ 0) (h2 : valFault V = 0) (h3 : ¬ 200 < (ownV V).flat.length) :
    Calls Tryz.prog 3 #[.slice A1 n1 c1, .slice A2 n2 c2] w fun e w' => e = .returned (.bool true) ∧ Below w.heap.size w w' := by
  have B0 := Lib.hid (Below.refl w.heap.size w)
  have CK := Lib.hid (fun w' hb => ref_KindFault A1 n1 c1 T w' (hs.keep (w' := w') hb))
  have CC := Lib.hid (fun w' hb => (hs.keep (w' := w') hb).kinds_Check)
  have CV := Lib.hid (fun w' hb => ref_ValueFault A2 n2 c2 V w' (ht.keep (w' := w') hb))
  have CH := Lib.hid (fun w' hb => (hs.keep (w' := w') hb).kinds_Has (ht.keep hb))
  have CO := Lib.hid (fun w' hb => (ht.keep (w' := w') hb).kinds_Own)
  have HG := Lib.hid hg
  have HE : Hid (∀ n k w', Below w.heap.size w w' → Calls Tryz.prog 15 #[errV n, .int .i64 k] w' fun e w'' => e = .returned (.bool (n == k)) ∧ Below w'.heap.size w' w'') := Lib.hid (fun n k w' hb => same_Error n k w' (HG.out.keep hb))
  have CN : Hid (∀ w', Below w.heap.size w w' → Calls Tryz.prog 16 #[.slice none 0 0] w' fun e w'' => e = .returned (errV 1) ∧ Below w'.heap.size w' w'') := Lib.hid (fun w' _ => (kns_nil w').kinds_Check)
  have CW := Lib.hid (fun w' (hb : Below w.heap.size w w') => ref_Own _ V (Nat.le_refl _) h2 A2 n2 c2 w' (ht.keep hb))
  unfold JnR at CW
  have hjs : (ownV V).flat.length ≤ 800 := by rw [flat_len]; have := own_sz (isV_zero.1 h2).2; have := (isV_zero.1 h2).1; omega
  have e1 : kHasE T V = kindFault T := by unfold kHasE; rw [if_neg h1]
  have e2 : kHasB T V = false := by unfold kHasB; rw [e1, decide_eq_false h1]; rfl
  rw [e1, e2] at CH
  have f1 : (kindFault T == 0) = false := beq_eq_false_iff_ne.2 h1
  generalize kindFault T = r1 at *
  clear h1 e1 e2
  have o1 : ownE V = 0 := by unfold ownE; rw [if_pos h2, if_neg h3]
  have o2 : ownN V = (ownV V).flat := by unfold ownN; rw [o1, if_pos rfl]
  rw [o1, o2] at CO
  rw [h2] at CV
  have f3 : decide (200 < ((ownV V).flat.length : Int)) = false := decide_eq_false (by omega)
  generalize (ownV V).flat = jf at *
  generalize hjl : jf.length = jl at *
  have HNN : Hid (∀ A n c B m d w', Ns w' A n c jf → Ns w' B m d jf → Calls Tryz.prog 22 #[.slice A n c, .slice B m d] w' fun e w'' => e = .returned (.bool true) ∧ Below w'.heap.size w' w'') := Lib.hid (fun A n c B m d w' hn hn2 => by
    have := hn.same hn2
    rwa [cmpNds_cmp.self, decide_eq_true rfl] at this)
  clear o1 o2 hs ht hg HG h2 h3
  go_enter Tryz.func3, Tryz.ntmps3
  go_wp2_with fail
  refine (CK.out _ B0.out).mono ?_
  rintro e w1 ⟨rfl, b1⟩
  have B1 := bh B0 b1
  clear b1 B0
  go_wp2_with fail
  refine (CC.out _ B1.out).mono ?_
  rintro e w2 ⟨rfl, b2⟩
  have B2 := bh B1 b2
  clear b2 B1
  go_wp2_with fail
  refine (HE.out _ _ _ B2.out).mono ?_
  rintro e w3 ⟨rfl, b3⟩
  have B3 := bh B2 b3
  clear b3 B2
  rw [beq_self_eq_true]
  go_wp2_with fail
  refine (CH.out _ B3.out).mono ?_
  rintro e w4 ⟨rfl, b4⟩
  have B4 := bh B3 b4
  clear b4 B3
  go_wp2_with fail
  refine (HE.out _ _ _ B4.out).mono ?_
  rintro e w5 ⟨rfl, b5⟩
  have B5 := bh B4 b5
  clear b5 B4
  rw [beq_self_eq_true]
  go_wp2_with fail
  refine (CV.out _ B5.out).mono ?_
  rintro e w6 ⟨rfl, b6⟩
  have B6 := bh B5 b6
  clear b6 B5
  go_wp2_with fail
  refine (CW.out _ B6.out).mono ?_
  rintro e w7 ⟨A6, c6, rfl, N6, b7, -⟩
  have B7 := bh B6 b7
  clear b7 B6
  replace N6 := Lib.hid N6
  go_wp2_with fail
  refine (CO.out _ B7.out).mono ?_
  rintro e w8 ⟨A7, n7, c7, rfl, N7, b8⟩
  have B8 := bh B7 b8
  replace N6 := Lib.hid (N6.out.keep b8)
  clear b8 B7
  replace N7 := Lib.hid N7
  go_wp2_with fail
  refine (HE.out _ _ _ B8.out).mono ?_
  rintro e w9 ⟨rfl, b9⟩
  have B9 := bh B8 b9
  replace N6 := Lib.hid (N6.out.keep b9)
  replace N7 := Lib.hid (N7.out.keep b9)
  clear b9 B8
  rw [beq_self_eq_true]
  go_wp2_with fail
  refine (HNN.out _ _ _ _ _ _ _ N7.out N6.out).mono ?_
  rintro e w10 ⟨rfl, b10⟩
  have B10 := bh B9 b10
  clear b10 B9
  go_wp2_with fail
  refine (CN.out _ B10.out).mono ?_
  rintro e w11 ⟨rfl, b11⟩
  have B11 := bh B10 b11
  clear b11 B10
  go_wp2_with fail
  refine (HE.out _ _ _ B11.out).mono ?_
  rintro e w12 ⟨rfl, b12⟩
  have B12 := bh B11 b12
  clear b12 B11
  rw [beq_self_eq_true]
  go_wp2_with fail
  go_ret
  exact ⟨rfl, B12.out⟩
set_option maxHeartbeats 2000000 in
theorem KindsChecks_bx (h1 : kindFault T = 0) (h2 : valFault V ≠ 0) :
    Calls Tryz.prog 3 #[.slice A1 n1 c1, .slice A2 n2 c2] w fun e w' => e = .returned (.bool true) ∧ Below w.heap.size w w' := by
  have B0 := Lib.hid (Below.refl w.heap.size w)
  have CK := Lib.hid (fun w' hb => ref_KindFault A1 n1 c1 T w' (hs.keep (w' := w') hb))
  have CC := Lib.hid (fun w' hb => (hs.keep (w' := w') hb).kinds_Check)
  have CV := Lib.hid (fun w' hb => ref_ValueFault A2 n2 c2 V w' (ht.keep (w' := w') hb))
  have CH := Lib.hid (fun w' hb => (hs.keep (w' := w') hb).kinds_Has (ht.keep hb))
  have CO := Lib.hid (fun w' hb => (ht.keep (w' := w') hb).kinds_Own)
  have HG := Lib.hid hg
  have HE : Hid (∀ n k w', Below w.heap.size w w' → Calls Tryz.prog 15 #[errV n, .int .i64 k] w' fun e w'' => e = .returned (.bool (n == k)) ∧ Below w'.heap.size w' w'') := Lib.hid (fun n k w' hb => same_Error n k w' (HG.out.keep hb))
  have CN : Hid (∀ w', Below w.heap.size w w' → Calls Tryz.prog 16 #[.slice none 0 0] w' fun e w'' => e = .returned (errV 1) ∧ Below w'.heap.size w' w'') := Lib.hid (fun w' _ => (kns_nil w').kinds_Check)
  have HNN : Hid (∀ A n c w', Ns w' A n c [] → Calls Tryz.prog 22 #[.slice A n c, .slice none 0 0] w' fun e w'' => e = .returned (.bool true) ∧ Below w'.heap.size w' w'') := Lib.hid (fun A n c w' hn => by
    have := hn.same (kns_nil w')
    rwa [cmpNds_cmp.self, decide_eq_true rfl] at this)
  have e1 : kHasE T V = valFault V := by unfold kHasE; rw [if_pos h1]
  have e2 : kHasB T V = false := by unfold kHasB; rw [e1, decide_eq_false h2]; rfl
  rw [e1, e2] at CH
  rw [h1] at CK CC
  clear e1 e2
  have o1 : ownE V = valFault V := by unfold ownE; rw [if_neg h2]
  have o2 : ownN V = [] := by unfold ownN; rw [o1, if_neg h2]
  rw [o1, o2] at CO
  have f2 : (valFault V == 0) = false := beq_eq_false_iff_ne.2 h2
  generalize valFault V = r2 at *
  clear o1 o2 h1 hs ht hg HG h2
  go_enter Tryz.func3, Tryz.ntmps3
  go_wp2_with fail
  refine (CK.out _ B0.out).mono ?_
  rintro e w1 ⟨rfl, b1⟩
  have B1 := bh B0 b1
  clear b1 B0
  go_wp2_with fail
  refine (CC.out _ B1.out).mono ?_
  rintro e w2 ⟨rfl, b2⟩
  have B2 := bh B1 b2
  clear b2 B1
  go_wp2_with fail
  refine (HE.out _ _ _ B2.out).mono ?_
  rintro e w3 ⟨rfl, b3⟩
  have B3 := bh B2 b3
  clear b3 B2
  rw [beq_self_eq_true]
  go_wp2_with fail
  refine (CV.out _ B3.out).mono ?_
  rintro e w4 ⟨rfl, b4⟩
  have B4 := bh B3 b4
  clear b4 B3
  go_wp2_with fail
  refine (CH.out _ B4.out).mono ?_
  rintro e w5 ⟨rfl, b5⟩
  have B5 := bh B4 b5
  clear b5 B4
  go_wp2_with fail
  refine (HE.out _ _ _ B5.out).mono ?_
  rintro e w6 ⟨rfl, b6⟩
  have B6 := bh B5 b6
  clear b6 B5
  rw [beq_self_eq_true]
  go_wp2_with fail
  refine (CV.out _ B6.out).mono ?_
  rintro e w7 ⟨rfl, b7⟩
  have B7 := bh B6 b7
  clear b7 B6
  go_wp2_with fail
  refine (CO.out _ B7.out).mono ?_
  rintro e w8 ⟨A7, n7, c7, rfl, N7, b8⟩
  have B8 := bh B7 b8
  clear b8 B7
  replace N7 := Lib.hid N7
  go_wp2_with fail
  refine (HE.out _ _ _ B8.out).mono ?_
  rintro e w9 ⟨rfl, b9⟩
  have B9 := bh B8 b9
  replace N7 := Lib.hid (N7.out.keep b9)
  clear b9 B8
  rw [beq_self_eq_true]
  go_wp2_with fail
  refine (HNN.out _ _ _ _ N7.out).mono ?_
  rintro e w10 ⟨rfl, b10⟩
  have B10 := bh B9 b10
  clear b10 B9
  go_wp2_with fail
  refine (CN.out _ B10.out).mono ?_
  rintro e w11 ⟨rfl, b11⟩
  have B11 := bh B10 b11
  clear b11 B10
  go_wp2_with fail
  refine (HE.out _ _ _ B11.out).mono ?_
  rintro e w12 ⟨rfl, b12⟩
  have B12 := bh B11 b12
  clear b12 B11
  rw [beq_self_eq_true]
  go_wp2_with fail
  go_ret
  exact ⟨rfl, B12.out⟩
set_option maxHeartbeats 2000000 in
theorem KindsChecks_cy (h1 : kindFault T = 0) (h2 : valFault V = 0) (h3 : 200 < (ownV V).flat.length) :
    Calls Tryz.prog 3 #[.slice A1 n1 c1, .slice A2 n2 c2] w fun e w' => e = .returned (.bool true) ∧ Below w.heap.size w w' := by
  have B0 := Lib.hid (Below.refl w.heap.size w)
  have CK := Lib.hid (fun w' hb => ref_KindFault A1 n1 c1 T w' (hs.keep (w' := w') hb))
  have CC := Lib.hid (fun w' hb => (hs.keep (w' := w') hb).kinds_Check)
  have CV := Lib.hid (fun w' hb => ref_ValueFault A2 n2 c2 V w' (ht.keep (w' := w') hb))
  have CH := Lib.hid (fun w' hb => (hs.keep (w' := w') hb).kinds_Has (ht.keep hb))
  have CO := Lib.hid (fun w' hb => (ht.keep (w' := w') hb).kinds_Own)
  have HG := Lib.hid hg
  have HE : Hid (∀ n k w', Below w.heap.size w w' → Calls Tryz.prog 15 #[errV n, .int .i64 k] w' fun e w'' => e = .returned (.bool (n == k)) ∧ Below w'.heap.size w' w'') := Lib.hid (fun n k w' hb => same_Error n k w' (HG.out.keep hb))
  have CN : Hid (∀ w', Below w.heap.size w w' → Calls Tryz.prog 16 #[.slice none 0 0] w' fun e w'' => e = .returned (errV 1) ∧ Below w'.heap.size w' w'') := Lib.hid (fun w' _ => (kns_nil w').kinds_Check)
  have HNN : Hid (∀ A n c w', Ns w' A n c [] → Calls Tryz.prog 22 #[.slice A n c, .slice none 0 0] w' fun e w'' => e = .returned (.bool true) ∧ Below w'.heap.size w' w'') := Lib.hid (fun A n c w' hn => by
    have := hn.same (kns_nil w')
    rwa [cmpNds_cmp.self, decide_eq_true rfl] at this)
  have CW := Lib.hid (fun w' (hb : Below w.heap.size w w') => ref_Own _ V (Nat.le_refl _) h2 A2 n2 c2 w' (ht.keep hb))
  unfold JnR at CW
  have hjs : (ownV V).flat.length ≤ 800 := by rw [flat_len]; have := own_sz (isV_zero.1 h2).2; have := (isV_zero.1 h2).1; omega
  obtain ⟨k, hk⟩ := kin_of h1
  have e1 : kHasE T V = 0 := by unfold kHasE; rw [if_pos h1]; exact h2
  have e2 : kHasB T V = belowK (ownV V) k := by unfold kHasB; rw [e1, hk.read]; rfl
  have hl1 : n1 ≤ 4000 := by rw [hs.len]; have := hk.l; omega
  have CB := Lib.hid (fun w' (hb : Below w.heap.size w w') => ref_Has _ k V (Nat.le_refl _) hk.v h2 A1 A2 n1 c1 n2 c2 w' hl1 (hk.e ▸ hs.keep hb) (ht.keep hb))
  rw [e1, e2] at CH
  rw [h1] at CK CC
  generalize belowK (ownV V) k = bb at *
  clear e1 e2 hl1 hk h1
  have o1 : ownE V = 4 := by unfold ownE; rw [if_pos h2, if_pos h3]
  have o2 : ownN V = [] := by unfold ownN; rw [o1, if_neg (by decide)]
  rw [o1, o2] at CO
  rw [h2] at CV
  have f3 : decide (200 < ((ownV V).flat.length : Int)) = true := decide_eq_true (by omega)
  generalize (ownV V).flat = jf at *
  generalize hjl : jf.length = jl at *
  clear o1 o2 hs ht hg HG h2 h3
  go_enter Tryz.func3, Tryz.ntmps3
  go_wp2_with fail
  refine (CK.out _ B0.out).mono ?_
  rintro e w1 ⟨rfl, b1⟩
  have B1 := bh B0 b1
  clear b1 B0
  go_wp2_with fail
  refine (CC.out _ B1.out).mono ?_
  rintro e w2 ⟨rfl, b2⟩
  have B2 := bh B1 b2
  clear b2 B1
  go_wp2_with fail
  refine (HE.out _ _ _ B2.out).mono ?_
  rintro e w3 ⟨rfl, b3⟩
  have B3 := bh B2 b3
  clear b3 B2
  rw [beq_self_eq_true]
  go_wp2_with fail
  refine (CV.out _ B3.out).mono ?_
  rintro e w4 ⟨rfl, b4⟩
  have B4 := bh B3 b4
  clear b4 B3
  go_wp2_with fail
  refine (CB.out _ B4.out).mono ?_
  rintro e w5 ⟨rfl, b5⟩
  have B5 := bh B4 b5
  clear b5 B4
  go_wp2_with fail
  refine (CH.out _ B5.out).mono ?_
  rintro e w6 ⟨rfl, b6⟩
  have B6 := bh B5 b6
  clear b6 B5
  go_wp2_with fail
  refine (HE.out _ _ _ B6.out).mono ?_
  rintro e w7 ⟨rfl, b7⟩
  have B7 := bh B6 b7
  clear b7 B6
  rw [beq_self_eq_true]
  cases bb
  all_goals
    go_wp2_with fail
    refine (CV.out _ B7.out).mono ?_
    rintro e w8 ⟨rfl, b8⟩
    have B8 := bh B7 b8
    clear b8 B7
    go_wp2_with fail
    refine (CW.out _ B8.out).mono ?_
    rintro e w9 ⟨A6, c6, rfl, N6, b9, -⟩
    have B9 := bh B8 b9
    clear b9 B8
    go_wp2_with fail
    refine (CO.out _ B9.out).mono ?_
    rintro e w10 ⟨A7, n7, c7, rfl, N7, b10⟩
    have B10 := bh B9 b10
    clear b10 B9
    replace N7 := Lib.hid N7
    go_wp2_with fail
    refine (HE.out _ _ _ B10.out).mono ?_
    rintro e w11 ⟨rfl, b11⟩
    have B11 := bh B10 b11
    replace N7 := Lib.hid (N7.out.keep b11)
    clear b11 B10
    rw [beq_self_eq_true]
    go_wp2_with fail
    refine (HNN.out _ _ _ _ N7.out).mono ?_
    rintro e w12 ⟨rfl, b12⟩
    have B12 := bh B11 b12
    clear b12 B11
    go_wp2_with fail
    refine (CN.out _ B12.out).mono ?_
    rintro e w13 ⟨rfl, b13⟩
    have B13 := bh B12 b13
    clear b13 B12
    go_wp2_with fail
    refine (HE.out _ _ _ B13.out).mono ?_
    rintro e w14 ⟨rfl, b14⟩
    have B14 := bh B13 b14
    clear b14 B13
    rw [beq_self_eq_true]
    go_wp2_with fail
    go_ret
    exact ⟨rfl, B14.out⟩
set_option maxHeartbeats 2000000 in
theorem KindsChecks_cz (h1 : kindFault T = 0) (h2 : valFault V = 0) (h3 : ¬ 200 < (ownV V).flat.length) :
    Calls Tryz.prog 3 #[.slice A1 n1 c1, .slice A2 n2 c2] w fun e w' => e = .returned (.bool true) ∧ Below w.heap.size w w' := by
  have B0 := Lib.hid (Below.refl w.heap.size w)
  have CK := Lib.hid (fun w' hb => ref_KindFault A1 n1 c1 T w' (hs.keep (w' := w') hb))
  have CC := Lib.hid (fun w' hb => (hs.keep (w' := w') hb).kinds_Check)
  have CV := Lib.hid (fun w' hb => ref_ValueFault A2 n2 c2 V w' (ht.keep (w' := w') hb))
  have CH := Lib.hid (fun w' hb => (hs.keep (w' := w') hb).kinds_Has (ht.keep hb))
  have CO := Lib.hid (fun w' hb => (ht.keep (w' := w') hb).kinds_Own)
  have HG := Lib.hid hg
  have HE : Hid (∀ n k w', Below w.heap.size w w' → Calls Tryz.prog 15 #[errV n, .int .i64 k] w' fun e w'' => e = .returned (.bool (n == k)) ∧ Below w'.heap.size w' w'') := Lib.hid (fun n k w' hb => same_Error n k w' (HG.out.keep hb))
  have CN : Hid (∀ w', Below w.heap.size w w' → Calls Tryz.prog 16 #[.slice none 0 0] w' fun e w'' => e = .returned (errV 1) ∧ Below w'.heap.size w' w'') := Lib.hid (fun w' _ => (kns_nil w').kinds_Check)
  have CW := Lib.hid (fun w' (hb : Below w.heap.size w w') => ref_Own _ V (Nat.le_refl _) h2 A2 n2 c2 w' (ht.keep hb))
  unfold JnR at CW
  have hjs : (ownV V).flat.length ≤ 800 := by rw [flat_len]; have := own_sz (isV_zero.1 h2).2; have := (isV_zero.1 h2).1; omega
  obtain ⟨k, hk⟩ := kin_of h1
  have e1 : kHasE T V = 0 := by unfold kHasE; rw [if_pos h1]; exact h2
  have e2 : kHasB T V = belowK (ownV V) k := by unfold kHasB; rw [e1, hk.read]; rfl
  have hl1 : n1 ≤ 4000 := by rw [hs.len]; have := hk.l; omega
  have CB := Lib.hid (fun w' (hb : Below w.heap.size w w') => ref_Has _ k V (Nat.le_refl _) hk.v h2 A1 A2 n1 c1 n2 c2 w' hl1 (hk.e ▸ hs.keep hb) (ht.keep hb))
  rw [e1, e2] at CH
  rw [h1] at CK CC
  generalize belowK (ownV V) k = bb at *
  clear e1 e2 hl1 hk h1
  have o1 : ownE V = 0 := by unfold ownE; rw [if_pos h2, if_neg h3]
  have o2 : ownN V = (ownV V).flat := by unfold ownN; rw [o1, if_pos rfl]
  rw [o1, o2] at CO
  rw [h2] at CV
  have f3 : decide (200 < ((ownV V).flat.length : Int)) = false := decide_eq_false (by omega)
  generalize (ownV V).flat = jf at *
  generalize hjl : jf.length = jl at *
  have HNN : Hid (∀ A n c B m d w', Ns w' A n c jf → Ns w' B m d jf → Calls Tryz.prog 22 #[.slice A n c, .slice B m d] w' fun e w'' => e = .returned (.bool true) ∧ Below w'.heap.size w' w'') := Lib.hid (fun A n c B m d w' hn hn2 => by
    have := hn.same hn2
    rwa [cmpNds_cmp.self, decide_eq_true rfl] at this)
  clear o1 o2 hs ht hg HG h2 h3
  go_enter Tryz.func3, Tryz.ntmps3
  go_wp2_with fail
  refine (CK.out _ B0.out).mono ?_
  rintro e w1 ⟨rfl, b1⟩
  have B1 := bh B0 b1
  clear b1 B0
  go_wp2_with fail
  refine (CC.out _ B1.out).mono ?_
  rintro e w2 ⟨rfl, b2⟩
  have B2 := bh B1 b2
  clear b2 B1
  go_wp2_with fail
  refine (HE.out _ _ _ B2.out).mono ?_
  rintro e w3 ⟨rfl, b3⟩
  have B3 := bh B2 b3
  clear b3 B2
  rw [beq_self_eq_true]
  go_wp2_with fail
  refine (CV.out _ B3.out).mono ?_
  rintro e w4 ⟨rfl, b4⟩
  have B4 := bh B3 b4
  clear b4 B3
  go_wp2_with fail
  refine (CB.out _ B4.out).mono ?_
  rintro e w5 ⟨rfl, b5⟩
  have B5 := bh B4 b5
  clear b5 B4
  go_wp2_with fail
  refine (CH.out _ B5.out).mono ?_
  rintro e w6 ⟨rfl, b6⟩
  have B6 := bh B5 b6
  clear b6 B5
  go_wp2_with fail
  refine (HE.out _ _ _ B6.out).mono ?_
  rintro e w7 ⟨rfl, b7⟩
  have B7 := bh B6 b7
  clear b7 B6
  rw [beq_self_eq_true]
  cases bb
  all_goals
    go_wp2_with fail
    refine (CV.out _ B7.out).mono ?_
    rintro e w8 ⟨rfl, b8⟩
    have B8 := bh B7 b8
    clear b8 B7
    go_wp2_with fail
    refine (CW.out _ B8.out).mono ?_
    rintro e w9 ⟨A6, c6, rfl, N6, b9, -⟩
    have B9 := bh B8 b9
    clear b9 B8
    replace N6 := Lib.hid N6
    go_wp2_with fail
    refine (CO.out _ B9.out).mono ?_
    rintro e w10 ⟨A7, n7, c7, rfl, N7, b10⟩
    have B10 := bh B9 b10
    replace N6 := Lib.hid (N6.out.keep b10)
    clear b10 B9
    replace N7 := Lib.hid N7
    go_wp2_with fail
    refine (HE.out _ _ _ B10.out).mono ?_
    rintro e w11 ⟨rfl, b11⟩
    have B11 := bh B10 b11
    replace N6 := Lib.hid (N6.out.keep b11)
    replace N7 := Lib.hid (N7.out.keep b11)
    clear b11 B10
    rw [beq_self_eq_true]
    go_wp2_with fail
    refine (HNN.out _ _ _ _ _ _ _ N7.out N6.out).mono ?_
    rintro e w12 ⟨rfl, b12⟩
    have B12 := bh B11 b12
    clear b12 B11
    go_wp2_with fail
    refine (CN.out _ B12.out).mono ?_
    rintro e w13 ⟨rfl, b13⟩
    have B13 := bh B12 b13
    clear b13 B12
    go_wp2_with fail
    refine (HE.out _ _ _ B13.out).mono ?_
    rintro e w14 ⟨rfl, b14⟩
    have B14 := bh B13 b14
    clear b14 B13
    rw [beq_self_eq_true]
    go_wp2_with fail
    go_ret
    exact ⟨rfl, B14.out⟩
end
theorem KindsChecks_walk (A1 : Option Addr) (n1 c1 : Nat) (T : List Nd) (A2 : Option Addr) (n2 c2 : Nat) (V : List Nd) (w : World) (hs : Ns w A1 n1 c1 T) (ht : Ns w A2 n2 c2 V) (hg : Door w) :
    Calls Tryz.prog 3 #[.slice A1 n1 c1, .slice A2 n2 c2] w fun e w' => e = .returned (.bool true) ∧ Below w.heap.size w w' := by
  by_cases h1 : kindFault T = 0
  · by_cases h2 : valFault V = 0
    · by_cases h3 : 200 < (ownV V).flat.length
      · exact KindsChecks_cy A1 n1 c1 T A2 n2 c2 V w hs ht hg h1 h2 h3
      · exact KindsChecks_cz A1 n1 c1 T A2 n2 c2 V w hs ht hg h1 h2 h3
    · exact KindsChecks_bx A1 n1 c1 T A2 n2 c2 V w hs ht hg h1 h2
  · by_cases h2 : valFault V = 0
    · by_cases h3 : 200 < (ownV V).flat.length
      · exact KindsChecks_ay A1 n1 c1 T A2 n2 c2 V w hs ht hg h1 h2 h3
      · exact KindsChecks_az A1 n1 c1 T A2 n2 c2 V w hs ht hg h1 h2 h3
    · exact KindsChecks_ax A1 n1 c1 T A2 n2 c2 V w hs ht hg h1 h2
end Go.Proofs.YtmekockjgldndaaGreatDoor
namespace Go.Proofs.YtmekockjgldndaaGreatDoor
open Go Go.ChangeShapes Go.WideShapes
theorem KindsChecks_named : Tryz.prog.funcNamed Rows.kindsChecksRow.func = some 3 := by kernel_rfl
theorem KindsChecks_wf : Rows.kindsChecksRow.wfByText (OpenSpec.ofChange Rows.kindsChecksSpec) = true := by kernel_rfl
theorem KindsChecks_main : Tryz.prog.mainIs = some (Rows.kindsChecksCard.stood.harness.1, Rows.kindsChecksCard.stood.harness.2.toList) := by kernel_rfl
theorem KindsChecks_looks : true = Tryz.prog.looks [] := by kernel_rfl
theorem KindsChecks_goes : false = Rows.kindsChecksRow.goesBy Tryz.prog := by kernel_rfl
theorem KindsChecks_inst : Tryz.f3.isInstance Tryz.prog Rows.kindsChecksRow.origin Rows.kindsChecksRow.targs := of_decide_eq_true (by kernel_rfl)
theorem KindsChecks_wrap : Tryz.f3.isWrapper Tryz.prog Rows.kindsChecksRow.wrapper Rows.kindsChecksRow.mainSum := by unfold Func.isWrapper; rw [if_neg (by decide +kernel)]; exact ⟨rfl, rfl⟩
theorem KindsChecks_j1 : (Rows.kindsChecksRow.wf (OpenSpec.ofChange Rows.kindsChecksSpec)) = true := by kernel_rfl
theorem KindsChecks_j2 : (laidOutB Tryz.prog) = true := by kernel_rfl
theorem KindsChecks_j3 : (mapsRowed Tryz.prog) = true := by kernel_rfl
theorem KindsChecks_j4 : (Tryz.f3.params.all (Tryz.prog.readableRec ·)) = true := by kernel_rfl
theorem KindsChecks_j5 : (namedTie Tryz.prog Rows.kindsChecksRow.named Rows.kindsChecksSpec.vars) = true := by kernel_rfl
theorem KindsChecks_j6 : ((Rows.kindsChecksRow.stops == [])) = true := by kernel_rfl
theorem KindsChecks_j7 : ((Tryz.prog.stops == [])) = true := by kernel_rfl
theorem KindsChecks_j8 : ((Rows.kindsChecksRow.knobs == [])) = true := by kernel_rfl
theorem KindsChecks_j9 : ((Tryz.prog.stopKnobs == [])) = true := by kernel_rfl
theorem KindsChecks_j10 : ((Rows.kindsChecksRow.inPlace == Tryz.prog.inPlace 3)) = true := by kernel_rfl
theorem KindsChecks_j11 : ((Rows.kindsChecksRow.unfollowed == Tryz.prog.unfollowed 3)) = true := by kernel_rfl
theorem KindsChecks_j12 : ((Rows.kindsChecksRow.recurses == Tryz.prog.recurses 3)) = true := by kernel_rfl
theorem KindsChecks_j13 : ((Rows.kindsChecksRow.named == Tryz.prog.varsNamed 3)) = true := by kernel_rfl
theorem KindsChecks_j14 : ((Rows.kindsChecksRow.maps == (Tryz.f3.params.toList ++ Rows.kindsChecksSpec.plain.varTypes Tryz.prog).any (Tryz.prog.mapsRec ·))) = true := by kernel_rfl
theorem KindsChecks_j15 : ((Rows.kindsChecksRow.ifaces == (Tryz.f3.params.toList ++ Rows.kindsChecksSpec.plain.varTypes Tryz.prog).any (Tryz.prog.ifacesRec ·))) = true := by kernel_rfl
theorem KindsChecks_j16 : ((Rows.kindsChecksRow.mapsOut == Tryz.prog.mapsAmong Tryz.f3.resultTypes.toList)) = true := by kernel_rfl
theorem KindsChecks_j17 : ((Rows.kindsChecksRow.loops == (Tryz.f3.params.toList ++ Rows.kindsChecksSpec.plain.varTypes Tryz.prog).any (Tryz.prog.loopsFrom ·))) = true := by kernel_rfl
theorem KindsChecks_j18 : ((Rows.kindsChecksRow.wideKeys == (Tryz.f3.params.toList ++ Rows.kindsChecksSpec.plain.varTypes Tryz.prog ++ Tryz.f3.resultTypes.toList).any (Tryz.prog.wideKeysFrom ·))) = true := by kernel_rfl
theorem KindsChecks_j19 : (Rows.kindsChecksSpec.vars.all (Tryz.prog.varReadable ·)) = true := by kernel_rfl
theorem KindsChecks_j20 : (Tryz.f3.resultTypes.all (fun t => Tryz.prog.readableRec t && decide (t < Tryz.prog.types.size))) = true := by kernel_rfl
theorem KindsChecks_j21 : ((Rows.kindsChecksRow.ifacesOut == Tryz.f3.resultTypes.toList.any (Tryz.prog.ifacesRec ·))) = true := by kernel_rfl
theorem KindsChecks_j22 : ((Rows.kindsChecksRow.loopsOut == Tryz.f3.resultTypes.toList.any (Tryz.prog.loopsFrom ·))) = true := by kernel_rfl
theorem KindsChecks_j23 : ((Rows.kindsChecksRow.plainKeys == Tryz.prog.plainKeys)) = true := by kernel_rfl
theorem KindsChecks_j24 : (Rows.kindsChecksRow.shortTexts.isNone) = true := by kernel_rfl
theorem KindsChecks_j25 : (Tryz.prog.stopsHeard) = true := by kernel_rfl
theorem KindsChecks_j26 : (Tryz.prog.mayEnter) = true := by kernel_rfl
theorem KindsChecks_j27 : ((Rows.kindsChecksRow.lifted == Tryz.prog.liftsFinal)) = true := by kernel_rfl
theorem KindsChecks_j28 : ((Tryz.prog.make == some Rows.kindsChecksRow.make)) = true := by kernel_rfl
theorem KindsChecks_j29 : ((Rows.kindsChecksRow.kinds == (if Rows.kindsChecksRow.domain.isEmpty then [] else Tryz.f3.params.toList.map fun t => match Tryz.prog.underlying t with | some (.int k) => some k | _ => none))) = true := by kernel_rfl
theorem KindsChecks_j30 : ((Rows.kindsChecksRow.pinned == Rows.kindsChecksRow.pinnedBy)) = true := by kernel_rfl
theorem KindsChecks_j31 : ((Rows.kindsChecksRow.veiled == (Tryz.f3.params.toList ++ Rows.kindsChecksSpec.plain.varTypes Tryz.prog ++ Tryz.f3.resultTypes.toList).any (Tryz.prog.veiledRec ·))) = true := by kernel_rfl
theorem KindsChecks_j32 : (Rows.kindsChecksRow.veiledFits Tryz.prog Tryz.f3.params.toList (Tryz.f3.params.toList ++ Rows.kindsChecksSpec.plain.varTypes Tryz.prog ++ Tryz.f3.resultTypes.toList)) = true := by kernel_rfl
theorem and_two {a b : Bool} (h : a = true) (k : b = true) : (a && b) = true := by rw [h, k]; rfl
set_option maxRecDepth 100000 in
theorem KindsChecks_joined : joinedFacts Tryz.prog 3 Tryz.f3 Rows.kindsChecksSpec Rows.kindsChecksRow = true := by
  unfold joinedFacts
  exact (and_two (and_two (and_two (and_two (and_two (and_two (and_two (and_two (and_two (and_two (and_two (and_two (and_two (and_two (and_two (and_two (and_two (and_two (and_two (and_two (and_two (and_two (and_two (and_two (and_two (and_two (and_two (and_two (and_two (and_two (and_two KindsChecks_j1 KindsChecks_j2) KindsChecks_j3) KindsChecks_j4) KindsChecks_j5) KindsChecks_j6) KindsChecks_j7) KindsChecks_j8) KindsChecks_j9) KindsChecks_j10) KindsChecks_j11) KindsChecks_j12) KindsChecks_j13) KindsChecks_j14) KindsChecks_j15) KindsChecks_j16) KindsChecks_j17) KindsChecks_j18) KindsChecks_j19) KindsChecks_j20) KindsChecks_j21) KindsChecks_j22) KindsChecks_j23) KindsChecks_j24) KindsChecks_j25) KindsChecks_j26) KindsChecks_j27) KindsChecks_j28) KindsChecks_j29) KindsChecks_j30) KindsChecks_j31) KindsChecks_j32)
end Go.Proofs.YtmekockjgldndaaGreatDoor
namespace Go.Proofs.YtmekockjgldndaaGreatDoor
open Go.ChangeShapes Go.WideShapes Go.RowKit

def laidOne : DataW Unit := Rows.laid_errors_errorType
def rtName : String := match laidOne with | .iface n _ => n | _ => ""
theorem rt_found : (Tryz.prog.cutTypes.find? (·.1 == rtName)).map (·.2) = some 300 := by kernel_rfl
theorem et_found : Tryz.prog.globalNamed "errors.errorType" = some 0 := by kernel_rfl
theorem oneRow : ((List.range 492).filter fun t => Tryz.prog.rowNamed t [101, 114, 114, 111, 114]) = [27] := by kernel_rfl
theorem typesSize : Tryz.prog.types.size = 492 := by kernel_rfl

def laidList : List (String × DataW Unit) := [("errors.errorType", laidOne)]
theorem handle_of_laid {W : World} (h : laidMetH Tryz.prog laidList W) : Door W := by
  have h' : laidMet Tryz.prog [] W ∧ handlesMet Tryz.prog laidList W := h
  obtain ⟨name, u, ty, e1, e2, e3, e4, e5⟩ := h'.2 _ (List.mem_singleton.2 rfl)
  have en : name = [101, 114, 114, 111, 114] := (Option.some.inj e1).symm
  subst en
  obtain rfl := Option.some.inj (rt_found.symm.trans e2)
  have hm : ty ∈ (List.range 492).filter fun t => Tryz.prog.rowNamed t [101, 114, 114, 111, 114] := List.mem_filter.2 ⟨List.mem_range.2 (by rw [← typesSize]; exact e3), e4⟩
  rw [oneRow] at hm
  obtain rfl := List.mem_singleton.1 hm
  have hh : typeHandle Tryz.prog 27 = .pointer (some ⟨2, 27, none⟩) := by kernel_rfl
  rw [hh] at e5
  have := World.var?_cell et_found e5 0
  exact this

noncomputable def laidWorld (os : Os) : World :=
  let w0 := World.holding Tryz.prog os ⟨#[], #[], []⟩
  { w0 with heap := w0.heap.modify 0 fun
      | .cells _ t frozen => .cells #[.iface 300 (.agg #[.pointer (some ⟨2, 27, none⟩)])] t frozen
      | o => o }
theorem laidWorld_met (os : Os) (args : Array Value) : laidMetH Tryz.prog laidList ((laidWorld os).forCall (fun _ _ => 0) ⟨#[], args, []⟩).memory :=
  laidMetH_of_parts (laidMet_nil _ _) (by kernel_rfl)
end Go.Proofs.YtmekockjgldndaaGreatDoor
namespace Go.Proofs.YtmekockjgldndaaGreatDoor
open Go Go.ChangeShapes Go.WideShapes Go.ChangeAt Go.RowKit Go.Wk
open Go.ChangeMaps (open_string)

set_option maxRecDepth 100000 in
theorem KindsChecks_lifted (os : Os) (started : os.Started) (H : Type) (enc : TypeId × Value → H) :
    ReturnsInHanded {} Tryz.checked os 3 .any (fun w args => (Rows.kindsChecksSpec.pre enc Tryz.prog Tryz.f3 [] false w args ∧ laidMetH Tryz.prog laidList w) ∧ sizedMet enc Tryz.prog Tryz.f3 (OpenSpec.ofChange Rows.kindsChecksSpec) false w args) (Rows.kindsChecksSpec.post enc Tryz.prog Tryz.f3 false true false false) := by
  refine returnsInHanded_of_change_and (C := Tryz.checked) (X := fun w _ => laidMetH Tryz.prog laidList w) (fun _ _ _ hh h => h.of_heap hh) own started (by kernel_rfl) Tryz.func3
    (ChangeSpec.witness_at (enc := enc) (C := Tryz.checked) (os := os) (X := fun w _ => laidMetH Tryz.prog laidList w) false (laidWorld os) #[.slice none 0 0, .slice none 0 0] 8 rfl (by kernel_rfl) (by kernel_rfl) (by kernel_rfl) (by kernel_rfl) (by kernel_rfl) (laidWorld_met os _)) ?_
  intro W base args ds gs before hval0 hW _ _ hL _
  have hg := handle_of_laid hL
  have hval : ∀ (j : Nat) t v, Tryz.f3.params[j]? = some t → args[j]? = some v → Value.okWide Tryz.prog W .any base t v := hval0
  have hW0 := hW
  obtain ⟨p, q, hA0, _, _, _, _⟩ := hW
  have hA : DataW.TrodAll enc Tryz.prog W 0 (fun _ => true) true Tryz.f3.params.toList args.toList ds p := hA0
  rw [Tryz.params3] at hA hval
  clear hA0 hval0
  obtain ⟨v0, vs0, d0, ds0, p0, q0, hargs, rfl, rfl, h0, r0⟩ := trodAll_cons hA
  obtain ⟨v1, vs1, d1, ds1, p1, q1, rfl, rfl, rfl, h1, r1⟩ := trodAll_cons r0
  obtain ⟨rfl, rfl, rfl⟩ := trodAll_nil r1
  obtain ⟨args⟩ := args
  simp only at hargs
  subst hargs
  obtain ⟨A0, n0, c0, P0, rfl, sx0⟩ := open_nodes (hval 0 22 v0 rfl rfl) h0
  obtain ⟨A1, n1, c1, P1, rfl, sx1⟩ := open_nodes (hval 1 22 v1 rfl rfl) h1
  refine (KindsChecks_walk A0 n0 c0 P0 A1 n1 c1 P1 W sx0 sx1 hg).mono fun e W' ⟨he, hb'⟩ => ?_
  subst he
  refine ⟨_, rfl, law_post laidOut (by kernel_rfl) (by rfl) Tryz.underlying4 rfl ?_ hW0 hb'⟩
  intro ds hlen
  rw [Tryz.params3] at hlen
  match ds, hlen with
  | [e0, e1], _ => rfl

theorem KindsChecks_over : Rows.kindsChecksRow.holds Tryz.pinned (OpenSpec.ofChange Rows.kindsChecksSpec) :=
  OpenClaim.holds_of_wide 3 Tryz.f3 rfl rfl rfl rfl rfl rfl rfl ⟨rfl, rfl, rfl, rfl, rfl⟩ rfl rfl rfl rfl rfl KindsChecks_named Tryz.func3 KindsChecks_joined
    KindsChecks_inst KindsChecks_wrap
    (fun os started H enc _ => KindsChecks_lifted os started H enc)

theorem KindsChecks_holds : Rows.KindsChecksCardSaid :=
  Claim7.holds_tied_plain_at .later [] [.handle] true Rows.kindsChecksCard.stood.harness true
    KindsChecks_over (fun _ h => by cases h) KindsChecks_wf (fun _ h => by cases h) kindsChecks_row_tie rfl ⟨rfl, rfl⟩ KindsChecks_main rfl
    (fun f fn hf hfn => by
      obtain rfl : f = 3 := Option.some.inj (KindsChecks_named.symm.trans hf) |>.symm
      obtain rfl : fn = Tryz.f3 := (Option.some.inj (Tryz.func3.symm.trans hfn)).symm
      exact ⟨KindsChecks_looks, fun j t ht => by
        rw [Tryz.params3] at ht
        have hm := Array.mem_of_getElem? ht
        simp only [List.mem_toArray, List.mem_cons, List.not_mem_nil, or_false] at hm
        rcases hm with rfl | rfl
        all_goals exact (show Tryz.prog.wantsStandIn _ = false by kernel_rfl)⟩)
    KindsChecks_goes
#print axioms KindsChecks_holds
end Go.Proofs.YtmekockjgldndaaGreatDoor
