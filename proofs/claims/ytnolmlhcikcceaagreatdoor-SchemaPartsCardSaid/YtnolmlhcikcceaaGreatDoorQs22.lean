/-
  ref SchemaFault, KindOf, ActOf.
  kinds' reader: a field.
  Fields of types in a row of the call's own: their cells.
  kinds' reader: a type.
  kinds' reader: a type of entities.
-/
import Derived.Laws.AppendOwnNone
import Derived.Maps.AppendAt
import Derived.Test.YtnolmlhcikcceaaGreatDoorQs21
namespace Go.Proofs.YtnolmlhcikcceaaGreatDoor
open Go.RowKit Go.Wk Go.Sort
set_option maxRecDepth 100000

theorem Sc.k_at (s : Sc) {i : Nat} (h : i < s.K.length) : (s.k)[i]'(by unfold Sc.k; rw [List.length_map]; exact h) = s.K[i].d := by
  unfold Sc.k
  rw [List.getElem_map]
theorem Sc.a_at (s : Sc) {i : Nat} (h : i < s.L.length) : (s.a)[i]'(by unfold Sc.a; rw [List.length_map]; exact h) = s.L[i].d := by
  unfold Sc.a
  rw [List.getElem_map]
theorem Sc.k_names (s : Sc) (i : Nat) : ((s.k).take i).map KD.nm = (s.K.take i).map fun x => x.d.nm := by
  unfold Sc.k
  rw [← List.map_take, List.map_map]
  rfl
theorem Sc.a_names (s : Sc) (i : Nat) : ((s.a).take i).map AD.id = (s.L.take i).map fun x => x.d.id := by
  unfold Sc.a
  rw [← List.map_take, List.map_map]
  rfl
set_option maxHeartbeats 2000000 in
theorem ref_SchemaFault (s : Sc) (w : World) (h : ScOk w s) :
    Calls Tryz.prog 12 #[s.v] w fun e w' => e = .returned (.int .i64 (schF s.k s.a)) ∧ Below w.heap.size w w' := by
  have HKL := Lib.hid (show s.kn = s.k.length by unfold Sc.k; rw [List.length_map]; exact h.k.len)
  have HAL := Lib.hid (show s.an = s.a.length by unfold Sc.a; rw [List.length_map]; exact h.a.len)
  have HKL2 := Lib.hid h.k.len
  have HAL2 := Lib.hid h.a.len
  have hkx := h.k.max
  have hax := h.a.max
  unfold maxLen at hkx hax
  have V0 := Lib.hid (vs_new w s 25)
  have B0 := Lib.hid (below_box w (.cells #[.slice s.KA s.kn s.kc, .slice s.AA s.an s.ac] 25))
  have HV := Lib.hid (show s.v = .agg #[.slice s.KA s.kn s.kc, .slice s.AA s.an s.ac] from rfl)
  by_cases h8 : 8 < s.kn ∨ 8 < s.an
  · have HR := Lib.hid (show schF s.k s.a = 4 by unfold schF; rw [if_pos (by rw [← HKL.out, ← HAL.out]; exact h8)])
    rw [HV.out]
    by_cases h81 : 8 < s.kn
    · have f1 : decide (8 < (s.kn : Int)) = true := decide_eq_true (by omega)
      clear h h8 h81
      go_enter Tryz.func12, Tryz.ntmps12
      go_wp2_with fail
      go_ret
      exact ⟨by rw [HR.out]; rfl, B0.out⟩
    · have f1 : decide (8 < (s.kn : Int)) = false := decide_eq_false (by omega)
      have f2 : decide (8 < (s.an : Int)) = true := decide_eq_true (by omega)
      clear h h8 h81
      go_enter Tryz.func12, Tryz.ntmps12
      go_wp2_with fail
      go_ret
      exact ⟨by rw [HR.out]; rfl, B0.out⟩
  · have HR := Lib.hid (show schF s.k s.a = or2 (kdsF [] s.k) (adsF [] s.a) by unfold schF; rw [if_neg (by rw [← HKL.out, ← HAL.out]; exact h8)])
    have f1 : decide (8 < (s.kn : Int)) = false := decide_eq_false (by omega)
    have f2 : decide (8 < (s.an : Int)) = false := decide_eq_false (by omega)
    have KK := Lib.hid (fun i (hi : i < s.K.length) w' (hb : Below w.heap.size w w') => ref_kindFault s i w' (h.keep hb) hi (by rw [← HKL2.out]; omega))
    have KL := Lib.hid (fun i (hi : i < s.L.length) w' (hb : Below w.heap.size w w') => ref_actFault s i w' (h.keep hb) hi (by rw [← HAL2.out]; omega))
    rw [HV.out] at KK KL ⊢
    clear h h8
    go_enter Tryz.func12, Tryz.ntmps12
    go_wp2_with fail
    go_loopw [3] (fun i wr => ∃ k : Nat, i = .int .i64 k ∧ k ≤ s.kn ∧ Hid (kdsF [] s.k = kdsF ((s.k.take k).map KD.nm) (s.k.drop k)) ∧ Hid (Below w.heap.size w wr) ∧ Hid (Vs wr w.heap.size s)) (fun i _ => s.kn - (intOf i).toNat)
    case atStart => exact ⟨0, rfl, Nat.zero_le _, Lib.hid (by simp), B0, V0⟩
    case round =>
      obtain ⟨k, rfl, hk, hF, hB, hV⟩ := hrel
      obtain ⟨v0, v1⟩ := hV.out
      clear B0 V0
      by_cases hlt : k < s.kn
      · have hkl : k < s.K.length := by rw [← HKL2.out]; exact hlt
        have hkl2 : k < s.k.length := by rw [← HKL.out]; exact hlt
        have HS := Lib.hid (hF.out.trans (kdsF_step hkl2))
        have C := Lib.hid (KK.out k hkl wr hB.out)
        rw [Sc.k_at s hkl, Sc.k_names] at HS
        generalize kdF ((s.K.take k).map fun x => x.d.nm) s.K[k].d = r at *
        clear hF
        go_wp2_with fail
        refine C.out.mono ?_
        rintro e w1 ⟨rfl, b1⟩
        have B1 := Lib.hid (hB.out.trans (b1.mono hB.out.size))
        have V1 := Lib.hid (hV.out.keep b1)
        clear b1 C hB hV v0 v1
        by_cases hr : r = 0
        · rw [hr, or2_zero] at HS
          subst hr
          go_wp2_with fail
          go_roundw
          case rel => exact ⟨k + 1, by go_num, hlt, HS, B1, V1⟩
          case measure => simp [intOf]; omega
        · rw [or2_ne hr] at HS
          have HE := Lib.hid (HR.out.trans (by rw [HS.out, or2_ne hr] : _ = r))
          have g1 : (r == 0) = false := beq_eq_false_iff_ne.2 hr
          have g2 : (r != 0) = true := by rw [bne_iff_ne]; exact hr
          clear hr
          go_wp2_with fail
          go_ret
          exact ⟨by rw [HE.out]; rfl, B1.out⟩
      · have HS := Lib.hid (show kdsF [] s.k = 0 by
          rw [hF.out, List.drop_eq_nil_of_le (by rw [← HKL.out]; omega)]; rfl)
        have HR2 := Lib.hid (HR.out.trans (by rw [HS.out, or2_zero] : _ = adsF [] s.a))
        clear hF HR HS hk
        go_wp2_with fail
        go_loopw [5] (fun i wr => ∃ k : Nat, i = .int .i64 k ∧ k ≤ s.an ∧ Hid (adsF [] s.a = adsF ((s.a.take k).map AD.id) (s.a.drop k)) ∧ Hid (Below w.heap.size w wr) ∧ Hid (Vs wr w.heap.size s)) (fun i _ => s.an - (intOf i).toNat)
        case atStart => exact ⟨0, rfl, Nat.zero_le _, Lib.hid (by simp), hB, hV⟩
        case round =>
          obtain ⟨k, rfl, hk, hF, hB, hV⟩ := hrel
          obtain ⟨v0, v1⟩ := hV.out
          by_cases hlt : k < s.an
          · have hkl : k < s.L.length := by rw [← HAL2.out]; exact hlt
            have hkl2 : k < s.a.length := by rw [← HAL.out]; exact hlt
            have HS := Lib.hid (hF.out.trans (adsF_step hkl2))
            have C := Lib.hid (KL.out k hkl wr hB.out)
            rw [Sc.a_at s hkl, Sc.a_names] at HS
            generalize adF ((s.L.take k).map fun x => x.d.id) s.L[k].d = r at *
            clear hF
            go_wp2_with fail
            refine C.out.mono ?_
            rintro e w1 ⟨rfl, b1⟩
            have B1 := Lib.hid (hB.out.trans (b1.mono hB.out.size))
            have V1 := Lib.hid (hV.out.keep b1)
            clear b1 C hB hV v0 v1
            by_cases hr : r = 0
            · rw [hr, or2_zero] at HS
              subst hr
              go_wp2_with fail
              go_roundw
              case rel => exact ⟨k + 1, by go_num, hlt, HS, B1, V1⟩
              case measure => simp [intOf]; omega
            · rw [or2_ne hr] at HS
              have HE := Lib.hid (HR2.out.trans HS.out)
              have g1 : (r == 0) = false := beq_eq_false_iff_ne.2 hr
              have g2 : (r != 0) = true := by rw [bne_iff_ne]; exact hr
              clear hr
              go_wp2_with fail
              go_ret
              exact ⟨by rw [HE.out]; rfl, B1.out⟩
          · have HS := Lib.hid (show schF s.k s.a = 0 by
              rw [HR2.out, hF.out, List.drop_eq_nil_of_le (by rw [← HAL.out]; omega)]; rfl)
            clear hF
            go_wp2_with fail
            go_ret
            exact ⟨by rw [HS.out]; rfl, hB.out⟩
theorem find_at_first {α : Type} {L : List α} {p : α → Bool} {i : Nat} (h : i < L.length) (hp : p L[i] = true) (hn : ∀ x ∈ L.take i, p x = false) : L.find? p = some L[i] := by
  induction L generalizing i with
  | nil => simp at h
  | cons a r ih =>
    cases i with
    | zero => simp at hp; simp [hp]
    | succ i =>
      have ha := hn a (by simp)
      simp only [List.find?_cons, ha, List.getElem_cons_succ] at *
      exact ih (by simpa using h) hp (fun x hx => hn x (by simp [hx]))
/-- What KindOf tells. -/
def KoPost (w : World) (s : Sc) (x : ByteArray) (e : Ending) (w' : World) : Prop :=
  ((kindOf s.k x = none ∧ e = .returned (.int .i64 (-1))) ∨ ∃ i, ∃ h : i < s.K.length, kindOf s.k x = some s.K[i].d ∧ e = .returned (.int .i64 i)) ∧ Below w.heap.size w w'
set_option maxHeartbeats 2000000 in
theorem ref_KindOf (s : Sc) (x : ByteArray) (w : World) (h : ScOk w s) :
    Calls Tryz.prog 35 #[s.v, .string x] w (KoPost w s x) := by
  have HKL2 := Lib.hid h.k.len
  have HKS := Lib.hid h.k
  have hkx := h.k.max
  unfold maxLen at hkx
  have V0 := Lib.hid (vs_new w s 25)
  have B0 := Lib.hid (below_box w (.cells #[.slice s.KA s.kn s.kc, .slice s.AA s.an s.ac] 25))
  have HV := Lib.hid (show s.v = .agg #[.slice s.KA s.kn s.kc, .slice s.AA s.an s.ac] from rfl)
  rw [HV.out]
  clear h
  go_enter Tryz.func35, Tryz.ntmps35
  go_wp2_with fail
  go_loopw [5] (fun i wr => ∃ k : Nat, i = .int .i64 k ∧ k ≤ s.kn ∧ Hid (∀ y ∈ s.K.take k, y.d.nm ≠ x) ∧ Hid (Below w.heap.size w wr) ∧ Hid (Vs wr w.heap.size s)) (fun i _ => s.kn - (intOf i).toNat)
  case atStart => exact ⟨0, rfl, Nat.zero_le _, Lib.hid (by intro y hy; simp at hy), B0, V0⟩
  case round =>
    obtain ⟨k, rfl, hk, hN, hB, hV⟩ := hrel
    obtain ⟨v0, v1⟩ := hV.out
    clear B0 V0
    by_cases hlt : k < s.kn
    · have hkl : k < s.K.length := by rw [← HKL2.out]; exact hlt
      obtain ⟨a, ea, q0, -, -, -⟩ := (HKS.out.keep hB.out).at_ k _ (List.getElem?_eq_getElem hkl)
      rw [ea] at v0
      by_cases hs : s.K[k].d.nm = x
      · have HP := Lib.hid (show KoPost w s x (.returned (.int .i64 k)) wr from ⟨.inr ⟨k, hkl, by
          unfold kindOf Sc.k
          rw [List.find?_map]
          rw [find_at_first (i := k) hkl (by simp [hs]) (fun y hy => by simpa using hN.out y hy)]
          rfl, rfl⟩, hB.out⟩)
        rw [hs] at q0
        clear hN hB hV hs
        go_wp2_with fail
        go_ret
        exact HP.out
      · have HN2 := Lib.hid (show ∀ y ∈ s.K.take (k + 1), y.d.nm ≠ x from fun y hy => by
          rw [List.take_succ_eq_append_getElem hkl, List.mem_append] at hy
          rcases hy with hy | hy
          · exact hN.out y hy
          · simp only [List.mem_cons, List.not_mem_nil, or_false] at hy
            subst hy; exact hs)
        have f6 : (s.K[k].d.nm.toList == x.toList) = false := beq_eq_false_iff_ne.2 (fun q => hs (toList_inj q))
        generalize s.K[k] = z at *
        clear hN hs
        go_wp2_with fail
        go_roundw
        case rel => exact ⟨k + 1, by go_num, hlt, HN2, hB, hV⟩
        case measure => simp [intOf]; omega
    · have HP := Lib.hid (show KoPost w s x (.returned (.int .i64 (-1))) wr from ⟨.inl ⟨by
        unfold kindOf Sc.k
        rw [List.find?_eq_none]
        intro y hy
        obtain ⟨z, hz, rfl⟩ := List.mem_map.1 hy
        simpa using hN.out z (by rw [List.take_of_length_le (by rw [← HKL2.out]; omega)]; exact hz), rfl⟩, hB.out⟩)
      clear hN hB hV
      go_wp2_with fail
      go_ret
      exact HP.out
/-- What ActOf tells. -/
def AoPost (w : World) (s : Sc) (x : ByteArray) (e : Ending) (w' : World) : Prop :=
  ((actOf s.a x = none ∧ e = .returned (.int .i64 (-1))) ∨ ∃ i, ∃ h : i < s.L.length, actOf s.a x = some s.L[i].d ∧ e = .returned (.int .i64 i)) ∧ Below w.heap.size w w'
set_option maxHeartbeats 2000000 in
theorem ref_ActOf (s : Sc) (x : ByteArray) (w : World) (h : ScOk w s) :
    Calls Tryz.prog 41 #[s.v, .string x] w (AoPost w s x) := by
  have HKL2 := Lib.hid h.a.len
  have HKS := Lib.hid h.a
  have hkx := h.a.max
  unfold maxLen at hkx
  have V0 := Lib.hid (vs_new w s 25)
  have B0 := Lib.hid (below_box w (.cells #[.slice s.KA s.kn s.kc, .slice s.AA s.an s.ac] 25))
  have HV := Lib.hid (show s.v = .agg #[.slice s.KA s.kn s.kc, .slice s.AA s.an s.ac] from rfl)
  rw [HV.out]
  clear h
  go_enter Tryz.func41, Tryz.ntmps41
  go_wp2_with fail
  go_loopw [5] (fun i wr => ∃ k : Nat, i = .int .i64 k ∧ k ≤ s.an ∧ Hid (∀ y ∈ s.L.take k, y.d.id ≠ x) ∧ Hid (Below w.heap.size w wr) ∧ Hid (Vs wr w.heap.size s)) (fun i _ => s.an - (intOf i).toNat)
  case atStart => exact ⟨0, rfl, Nat.zero_le _, Lib.hid (by intro y hy; simp at hy), B0, V0⟩
  case round =>
    obtain ⟨k, rfl, hk, hN, hB, hV⟩ := hrel
    obtain ⟨v0, v1⟩ := hV.out
    clear B0 V0
    by_cases hlt : k < s.an
    · have hkl : k < s.L.length := by rw [← HKL2.out]; exact hlt
      obtain ⟨a, ea, q0, -, -, -, -⟩ := (HKS.out.keep hB.out).at_ k _ (List.getElem?_eq_getElem hkl)
      rw [ea] at v1
      by_cases hs : s.L[k].d.id = x
      · have HP := Lib.hid (show AoPost w s x (.returned (.int .i64 k)) wr from ⟨.inr ⟨k, hkl, by
          unfold actOf Sc.a
          rw [List.find?_map]
          rw [find_at_first (i := k) hkl (by simp [hs]) (fun y hy => by simpa using hN.out y hy)]
          rfl, rfl⟩, hB.out⟩)
        rw [hs] at q0
        clear hN hB hV hs
        go_wp2_with fail
        go_ret
        exact HP.out
      · have HN2 := Lib.hid (show ∀ y ∈ s.L.take (k + 1), y.d.id ≠ x from fun y hy => by
          rw [List.take_succ_eq_append_getElem hkl, List.mem_append] at hy
          rcases hy with hy | hy
          · exact hN.out y hy
          · simp only [List.mem_cons, List.not_mem_nil, or_false] at hy
            subst hy; exact hs)
        have f6 : (s.L[k].d.id.toList == x.toList) = false := beq_eq_false_iff_ne.2 (fun q => hs (toList_inj q))
        generalize s.L[k] = z at *
        clear hN hs
        go_wp2_with fail
        go_roundw
        case rel => exact ⟨k + 1, by go_num, hlt, HN2, hB, hV⟩
        case measure => simp [intOf]; omega
    · have HP := Lib.hid (show AoPost w s x (.returned (.int .i64 (-1))) wr from ⟨.inl ⟨by
        unfold actOf Sc.a
        rw [List.find?_eq_none]
        intro y hy
        obtain ⟨z, hz, rfl⟩ := List.mem_map.1 hy
        simpa using hN.out z (by rw [List.take_of_length_le (by rw [← HKL2.out]; omega)]; exact hz), rfl⟩, hB.out⟩)
      clear hN hB hV
      go_wp2_with fail
      go_ret
      exact HP.out
end Go.Proofs.YtnolmlhcikcceaaGreatDoor
namespace Go.Proofs.YtnolmlhcikcceaaGreatDoor
open Go.RowKit Go.Wk Go.Sort
set_option maxRecDepth 100000

/-- What kind tells. -/
def KindPost (w : World) (R : Nat) : Option (Kd × List Nd) → Ending → World → Prop
  | none, e, w' => e = .panicked kwrong ∧ w.grownBy w' (some R)
  | some (k, r), e, w' => ∃ v : List Value, e = .returned (.agg v.toArray) ∧ KAt w' (fun b => w.heap.size ≤ b) k v ∧ RdK w' R r ∧ w.grownBy w' (some R)
/-- The contract of kind, with so much fuel. -/
def KindC (R m : Nat) : Prop := ∀ (Q : List Nd) (w : World), RdK w R Q → Q.length ≤ m → Calls Tryz.prog 120 #[.pointer (some ⟨R, 0, none⟩)] w (KindPost w R (parseK m Q))
/-- What field tells. -/
def FldPost (w : World) (R : Nat) : Option (ByteArray × Bool × Kd × List Nd) → Ending → World → Prop
  | none, e, w' => e = .panicked kwrong ∧ w.grownBy w' (some R)
  | some (s, b, k, r), e, w' => ∃ u : List Value, e = .returned (.agg (.string s :: .bool b :: u).toArray) ∧ KAt w' (fun b => w.heap.size ≤ b) k u ∧ RdK w' R r ∧ w.grownBy w' (some R)
theorem RdK.but {w w' : World} {R b : Nat} {Q : List Nd} (h : RdK w R Q) (hg : w.grownBy w' (some b)) (hb : R < b) : RdK w' R Q := by
  obtain ⟨⟨A, n, c, h1, h2, h3⟩, h4⟩ := h
  have hne : some R ≠ some b := fun e => by injection e with e; omega
  refine ⟨⟨A, n, c, hg.cell h1 hne, h2.but hg (fun h0 a e => Nat.ne_of_lt (Nat.lt_trans (h3 h0 a e) hb)), h3⟩, ?_⟩
  exact (World.frozen?_of_block (a := ⟨R, 0, none⟩) (hg.block R (block_lt_of_cell h1) hne)).trans h4
theorem grown_set8 (w : World) (b : Nat) (y0 y1 y2 y3 y4 y5 y6 y7 : Value) : w.grownBy ((((((((w.setCell ⟨b, 0, none⟩ y0).setCell ⟨b, 1, none⟩ y1).setCell ⟨b, 2, none⟩ y2).setCell ⟨b, 3, none⟩ y3).setCell ⟨b, 4, none⟩ y4).setCell ⟨b, 5, none⟩ y5).setCell ⟨b, 6, none⟩ y6).setCell ⟨b, 7, none⟩ y7) (some b) :=
  grown_trans (grown_trans (grown_trans (grown_trans (grown_trans (grown_trans (grown_trans (grown_trans (grown_refl w (some b)) (grown_setCell _ ⟨b, 0, none⟩ _)) (grown_setCell _ ⟨b, 1, none⟩ _)) (grown_setCell _ ⟨b, 2, none⟩ _)) (grown_setCell _ ⟨b, 3, none⟩ _)) (grown_setCell _ ⟨b, 4, none⟩ _)) (grown_setCell _ ⟨b, 5, none⟩ _)) (grown_setCell _ ⟨b, 6, none⟩ _)) (grown_setCell _ ⟨b, 7, none⟩ _)
theorem heap_set8 (w : World) (b : Nat) (y0 y1 y2 y3 y4 y5 y6 y7 : Value) {g : Nat} (h : g ≠ b) : ((((((((w.setCell ⟨b, 0, none⟩ y0).setCell ⟨b, 1, none⟩ y1).setCell ⟨b, 2, none⟩ y2).setCell ⟨b, 3, none⟩ y3).setCell ⟨b, 4, none⟩ y4).setCell ⟨b, 5, none⟩ y5).setCell ⟨b, 6, none⟩ y6).setCell ⟨b, 7, none⟩ y7).heap[g]? = w.heap[g]? := by
  iterate 8 rw [Below.heap_setCell _ _ _ g h]
theorem grown_new {w w4 W : World} {R b : Nat} (h : w.grownBy w4 (some R)) (k : w4.grownBy W (some b)) (hb : w.heap.size ≤ b) : w.grownBy W (some R) :=
  ⟨k.os.trans h.os, k.tape.trans h.tape, k.output.trans h.output, Nat.le_trans h.size k.size, fun i hi hn => (k.block i (Nat.lt_of_lt_of_le hi h.size) (fun e => by injection e with e; omega)).trans (h.block i hi hn)⟩
theorem toList_emp : emp.toList = [] := by rw [ByteArray.toList_eq]; rfl
theorem kat_shape {w : World} {B : Nat → Prop} {k : Kd} {v : List Value} (h : KAt w B k v) : ∃ (o n : Int) (s t : ByteArray) (p : Option Addr) (A : Option Addr) (m c : Nat), v = [.int .i64 o, .int .i64 n, .string s, .string t, .pointer p, .slice A m c] := by
  cases k with
  | base x => obtain ⟨_, rfl⟩ := h; exact ⟨_, _, _, _, _, _, _, _, rfl⟩
  | ent s => obtain ⟨_, rfl⟩ := h; exact ⟨_, _, _, _, _, _, _, _, rfl⟩
  | set q => obtain ⟨_, _, _, rfl, _⟩ := h; exact ⟨_, _, _, _, _, _, _, _, rfl⟩
  | fs f => obtain ⟨_, _, _, rfl, _⟩ := h; exact ⟨_, _, _, _, _, _, _, _, rfl⟩
set_option maxHeartbeats 4000000 in
theorem kind_field (R m : Nat) (ih : KindC R m) (x : ByteArray) (Q : List Nd) (w : World) (h : RdK w R Q) (hl : Q.length ≤ m + 1) :
    Calls Tryz.prog 155 #[.pointer (some ⟨R, 0, none⟩), .string x] w (FldPost w R (parse1 m x Q)) := by
  have HR := Lib.hid h
  have IH := Lib.hid ih
  clear h ih
  go_enter Tryz.func155, Tryz.ntmps155
  go_wp2_with fail
  have G0 := Lib.hid (grown_of_below (below_box w (.cells #[.string ⟨#[]⟩, .bool false, .int .i64 0, .int .i64 0, .string ⟨#[]⟩, .string ⟨#[]⟩, .pointer none, .slice none 0 0] 124)) (some R))
  have X0 := Lib.hid (bx8_new w (.string ⟨#[]⟩) (.bool false) (.int .i64 0) (.int .i64 0) (.string ⟨#[]⟩) (.string ⟨#[]⟩) (.pointer none) (.slice none 0 0) 124)
  have R0 := Lib.hid (HR.out.keep (below_box w (.cells #[.string ⟨#[]⟩, .bool false, .int .i64 0, .int .i64 0, .string ⟨#[]⟩, .string ⟨#[]⟩, .pointer none, .slice none 0 0] 124)))
  have HRL := Lib.hid (show R < w.heap.size by obtain ⟨⟨_, _, _, h1, _⟩, _⟩ := HR.out; exact block_lt_of_cell h1)
  have HNE := Lib.hid (show some w.heap.size ≠ some R from fun e => by injection e with e; have := HRL.out; omega)
  obtain ⟨w0, hw0⟩ : ∃ w0, w.alloc (.cells #[.string ⟨#[]⟩, .bool false, .int .i64 0, .int .i64 0, .string ⟨#[]⟩, .string ⟨#[]⟩, .pointer none, .slice none 0 0] 124) = w0 := ⟨_, rfl⟩
  have HS0 := Lib.hid (show w.heap.size ≤ w0.heap.size by rw [← hw0]; simp)
  rw [hw0] at G0 X0 R0 ⊢
  clear hw0 HR
  refine (kind_node R Q w0 R0.out).mono ?_
  cases Q with
  | nil =>
    rintro e w1 ⟨rfl, g1⟩
    go_wp2_with fail
    exact ⟨rfl, rfl, G0.out.trans g1⟩
  | cons y r =>
    rintro e w1 ⟨rfl, r1, g1⟩
    have G1 := Lib.hid (G0.out.trans g1)
    have X1 := Lib.hid (X0.out.but g1 HNE.out)
    have R1 := Lib.hid r1
    have HS1 := Lib.hid (Nat.le_trans HS0.out g1.size)
    have HYO := Lib.hid (show NdOk y by obtain ⟨⟨_, _, _, _, h2, _⟩, _⟩ := R0.out; exact h2.ok y (by simp))
    have HW1 := Lib.hid (show R < w1.heap.size by have := HRL.out; have := HS1.out; omega)
    clear r1 g1 G0 X0 R0 HS0
    unfold ndV
    have HBAD := Lib.hid (show ¬ kfOk x y → parse1 m x (y :: r) = none from fun h => if_neg h)
    have HGOOD := Lib.hid (show kfOk x y → parse1 m x (y :: r) = (match parseK m r with | none => none | some (k, r') => some (y.s, y.n == 1, k, r')) from fun h => if_pos h)
    generalize parse1 m x (y :: r) = PP at *
    by_cases ho : y.op = 47
    · have HO := Lib.hid ho
      have KN := Lib.hid (fun w => name_Check y.s w HYO.out.s)
      rw [ho]
      clear ho
      by_cases hn : y.n = 0
      · have HN := Lib.hid hn
        rw [hn]
        clear hn
        rcases empty_or y.t with ht | ⟨t1, t2, t3⟩
        · have HT := Lib.hid ht
          rw [ht]
          clear ht
          have B2 := Lib.hid (below_box w1 (.cells #[.int .i64 47, .int .i64 0, .string y.s, .string ⟨#[]⟩] 35))
          have V2 := Lib.hid (bx4_new w1 (.int .i64 47) (.int .i64 0) (.string y.s) (.string ⟨#[]⟩) 35)
          go_wp2_with fail
          obtain ⟨w2, hw2⟩ : ∃ w2, w1.alloc (.cells #[.int .i64 47, .int .i64 0, .string y.s, .string ⟨#[]⟩] 35) = w2 := ⟨_, rfl⟩
          rw [hw2] at B2 V2 ⊢
          clear hw2
          refine (KN.out w2).mono ?_
          rintro e w3 ⟨rfl, b3⟩
          have B3 := bh B2 b3
          have V3 := Lib.hid (V2.out.keep b3)
          have G3 := Lib.hid (grown_trans G1.out (grown_of_below B3.out (some R)))
          have R3 := Lib.hid (R1.out.keep B3.out)
          have X3 := Lib.hid (X1.out.keep B3.out)
          have HS3 := Lib.hid (Nat.le_trans HS1.out B3.out.size)
          clear b3 B2 V2 G1 R1 X1 HS1 KN B3
          obtain ⟨c0, c1, c2, c3, -, -, -, -⟩ := V3.out
          by_cases hf : nameFault y.s = 0
          · have HF := Lib.hid hf
            rw [hf, errV_zero]
            clear hf
            rcases leq_ways y.s x with ⟨l0, l1, l2⟩ | hl2
            · have HPG := Lib.hid (HGOOD.out ⟨HO.out, by rw [HN.out]; simp, HT.out, HF.out, l0⟩)
              have bd3 : Below w3.heap.size w3 w3.drew := ⟨rfl, rfl, rfl, Nat.le_refl _, fun _ _ => rfl⟩
              have VD := Lib.hid (V3.out.keep bd3)
              have XD := Lib.hid (X3.out.keep bd3)
              have GD := Lib.hid (grown_trans G3.out (grown_of_below bd3 (some R)))
              have HSD := Lib.hid (show w.heap.size ≤ w3.drew.heap.size from HS3.out)
              have HWD := Lib.hid (show R < w1.heap.size from HW1.out)
              have IK := Lib.hid (IH.out r w3.drew (R3.out.keep bd3) (by simp at hl; omega))
              clear bd3
              obtain ⟨e0, e1, e2, e3, -, -, -, -⟩ := VD.out
              rcases hp : parseK m r with _ | ⟨k, r'⟩
              · have HPN := Lib.hid (show PP = none by rw [HPG.out, hp])
                have IK2 := Lib.hid (fun d os => (IH.out r (grow (redrawn w3 d) os) (R3.out.keep (below_regrown w3 d os)) (by simp at hl; omega)))
                simp only [hp] at IK2
                clear IK hp e0 e1 e2 e3 HPG
                have k0 := cell_regrown c0
                have k1 := cell_regrown c1
                have k2 := cell_regrown c2
                have k3 := cell_regrown c3
                go_wp2_with fail
                refine wp_region_throw (l := [_, _, _, _, _, _]) [0, 1, 2, 3, 4, 5] [6] (by kernel_rfl) (by decide) (by kernel_rfl) rfl (fun w' => ∃ p : Regrown, w' = grow (redrawn w3 p.d) p.os) (fun ch w' => ch = kwrong ∧ w3.grownBy w' (some R)) ⟨⟨w3.drawn + 1, #[]⟩, by rw [grow_empty]; rfl⟩ ?_ ?_
                · rintro a' ch w' hd ⟨rfl, hg⟩
                  exact ⟨hd, by rw [HPN.out]; exact ⟨rfl, grown_trans G3.out hg⟩⟩
                · repeat (first | go_big_quiet_step (fail) | quiet_step (fail))
                  refine wpQuiet_nil ?_
                  refine ⟨fun o ho => ?_, trivial⟩
                  injection ho with ho
                  subst ho
                  refine ⟨by go_simp, ?_⟩
                  rintro w' ⟨⟨d, os⟩, rfl⟩
                  go_wp2_with fail
                  refine (IK2.out d os).mono ?_
                  rintro e w4 ⟨rfl, g4⟩
                  exact ⟨rfl, grown_trans (grown_of_below (below_regrown w3 d os) _) g4⟩
              · have HPN := Lib.hid (show PP = some (y.s, y.n == 1, k, r') by rw [HPG.out, hp])
                rw [hp] at IK
                clear hp
                go_wp2_with fail
                go_region_with (go_at_call 120; (refine IK.out.mono ?_); rintro e w4 ⟨v, rfl, hk, hr, g4⟩; (obtain ⟨o, n, s0, t0, p, A, m0, cc, rfl⟩ := kat_shape hk); (have HK4 := Lib.hid hk); (have HR4 := Lib.hid hr); (have G4 := Lib.hid g4); (obtain ⟨u0, u1, u2, u3, -, -, -, -⟩ := VD.out.but g4 (by intro e; injection e with e; have := HWD.out; omega)); (obtain ⟨d0, d1, d2, d3, d4, d5, d6, d7, z0, z1, z2, z3, z4, z5, z6, z7⟩ := XD.out.but g4 HNE.out); clear hk hr g4)
                all_goals
                  have HPB := Lib.hid (show PP = some (y.s, false, k, r') by rw [HPN.out, HN.out]; rfl)
                  have Y5 := (XD.out.but G4.out HNE.out).set (.string y.s) (.bool false) (.int .i64 o) (.int .i64 n) (.string s0) (.string t0) (.pointer p) (.slice A m0 cc)
                  obtain ⟨j0, j1, j2, j3, j4, j5, j6, j7, -, -, -, -, -, -, -, -⟩ := Y5
                  have gs := grown_set8 w4 w.heap.size (.string y.s) (.bool false) (.int .i64 o) (.int .i64 n) (.string s0) (.string t0) (.pointer p) (.slice A m0 cc)
                  have hRb := HRL.out
                  have R5 := Lib.hid (HR4.out.but gs hRb)
                  have K5 := Lib.hid ((HK4.out.cong (fun g hg => heap_set8 w4 w.heap.size (.string y.s) (.bool false) (.int .i64 o) (.int .i64 n) (.string s0) (.string t0) (.pointer p) (.slice A m0 cc) (by have hq : w.heap.size < w3.drew.heap.size := block_lt_of_cell XD.out.c0; have hg' : w3.drew.heap.size ≤ g := hg; omega))).mono (B' := fun b => w.heap.size ≤ b) (fun b hb _ => Nat.le_trans HSD.out hb))
                  have G5 := Lib.hid (show w.grownBy _ (some R) from grown_new (grown_trans GD.out G4.out) gs (Nat.le_refl _))
                  clear gs
                  go_wp2_with fail
                  refine bodyPost_ret (v := .agg #[.string y.s, .bool false, .int .i64 o, .int .i64 n, .string s0, .string t0, .pointer p, .slice A m0 cc]) (by simp [results, Tryz.results155, go_sem, j0, j1, j2, j3, j4, j5, j6, j7]) rfl ?_
                  rw [HPB.out]
                  exact ⟨[.int .i64 o, .int .i64 n, .string s0, .string t0, .pointer p, .slice A m0 cc], rfl, K5.out, R5.out, G5.out⟩
            · have HPN := Lib.hid (HBAD.out (fun h => by rcases hl2 with h2 | h2 <;> exact h2.1 h.2.2.2.2))
              have GB := G3
              rcases hl2 with ⟨-, l1⟩ | ⟨-, l1, l2⟩
              · go_wp2_with fail
                refine ⟨rfl, ?_⟩
                rw [HPN.out]
                exact ⟨rfl, GB.out⟩
              · go_wp2_with fail
                refine ⟨rfl, ?_⟩
                rw [HPN.out]
                exact ⟨rfl, GB.out⟩
          · have HPN := Lib.hid (HBAD.out (fun h => hf h.2.2.2.1))
            rw [errV_ne hf]
            generalize nameFault y.s = ff at *
            clear hf
            have GB := G3
            go_wp2_with fail
            refine ⟨rfl, ?_⟩
            rw [HPN.out]
            exact ⟨rfl, GB.out⟩
        · have HPN := Lib.hid (HBAD.out (fun h => t2 (by rw [h.2.2.1]; exact toList_emp)))
          clear HBAD HGOOD
          go_wp2_with fail
          refine ⟨rfl, ?_⟩
          rw [HPN.out]
          exact ⟨rfl, grown_trans G1.out (grown_of_below (below_box _ _) _)⟩
      · by_cases hn1 : y.n = 1
        · have hn := hn1
          clear hn1
          have HN := Lib.hid hn
          rw [hn]
          clear hn
          rcases empty_or y.t with ht | ⟨t1, t2, t3⟩
          · have HT := Lib.hid ht
            rw [ht]
            clear ht
            have B2 := Lib.hid (below_box w1 (.cells #[.int .i64 47, .int .i64 1, .string y.s, .string ⟨#[]⟩] 35))
            have V2 := Lib.hid (bx4_new w1 (.int .i64 47) (.int .i64 1) (.string y.s) (.string ⟨#[]⟩) 35)
            go_wp2_with fail
            obtain ⟨w2, hw2⟩ : ∃ w2, w1.alloc (.cells #[.int .i64 47, .int .i64 1, .string y.s, .string ⟨#[]⟩] 35) = w2 := ⟨_, rfl⟩
            rw [hw2] at B2 V2 ⊢
            clear hw2
            refine (KN.out w2).mono ?_
            rintro e w3 ⟨rfl, b3⟩
            have B3 := bh B2 b3
            have V3 := Lib.hid (V2.out.keep b3)
            have G3 := Lib.hid (grown_trans G1.out (grown_of_below B3.out (some R)))
            have R3 := Lib.hid (R1.out.keep B3.out)
            have X3 := Lib.hid (X1.out.keep B3.out)
            have HS3 := Lib.hid (Nat.le_trans HS1.out B3.out.size)
            clear b3 B2 V2 G1 R1 X1 HS1 KN B3
            obtain ⟨c0, c1, c2, c3, -, -, -, -⟩ := V3.out
            by_cases hf : nameFault y.s = 0
            · have HF := Lib.hid hf
              rw [hf, errV_zero]
              clear hf
              rcases leq_ways y.s x with ⟨l0, l1, l2⟩ | hl2
              · have HPG := Lib.hid (HGOOD.out ⟨HO.out, by rw [HN.out]; simp, HT.out, HF.out, l0⟩)
                have bd3 : Below w3.heap.size w3 w3.drew := ⟨rfl, rfl, rfl, Nat.le_refl _, fun _ _ => rfl⟩
                have VD := Lib.hid (V3.out.keep bd3)
                have XD := Lib.hid (X3.out.keep bd3)
                have GD := Lib.hid (grown_trans G3.out (grown_of_below bd3 (some R)))
                have HSD := Lib.hid (show w.heap.size ≤ w3.drew.heap.size from HS3.out)
                have HWD := Lib.hid (show R < w1.heap.size from HW1.out)
                have IK := Lib.hid (IH.out r w3.drew (R3.out.keep bd3) (by simp at hl; omega))
                clear bd3
                obtain ⟨e0, e1, e2, e3, -, -, -, -⟩ := VD.out
                rcases hp : parseK m r with _ | ⟨k, r'⟩
                · have HPN := Lib.hid (show PP = none by rw [HPG.out, hp])
                  have IK2 := Lib.hid (fun d os => (IH.out r (grow (redrawn w3 d) os) (R3.out.keep (below_regrown w3 d os)) (by simp at hl; omega)))
                  simp only [hp] at IK2
                  clear IK hp e0 e1 e2 e3 HPG
                  have k0 := cell_regrown c0
                  have k1 := cell_regrown c1
                  have k2 := cell_regrown c2
                  have k3 := cell_regrown c3
                  go_wp2_with fail
                  refine wp_region_throw (l := [_, _, _, _, _, _]) [0, 1, 2, 3, 4, 5] [6] (by kernel_rfl) (by decide) (by kernel_rfl) rfl (fun w' => ∃ p : Regrown, w' = grow (redrawn w3 p.d) p.os) (fun ch w' => ch = kwrong ∧ w3.grownBy w' (some R)) ⟨⟨w3.drawn + 1, #[]⟩, by rw [grow_empty]; rfl⟩ ?_ ?_
                  · rintro a' ch w' hd ⟨rfl, hg⟩
                    exact ⟨hd, by rw [HPN.out]; exact ⟨rfl, grown_trans G3.out hg⟩⟩
                  · repeat (first | go_big_quiet_step (fail) | quiet_step (fail))
                    refine wpQuiet_nil ?_
                    refine ⟨fun o ho => ?_, trivial⟩
                    injection ho with ho
                    subst ho
                    refine ⟨by go_simp, ?_⟩
                    rintro w' ⟨⟨d, os⟩, rfl⟩
                    go_wp2_with fail
                    refine (IK2.out d os).mono ?_
                    rintro e w4 ⟨rfl, g4⟩
                    exact ⟨rfl, grown_trans (grown_of_below (below_regrown w3 d os) _) g4⟩
                · have HPN := Lib.hid (show PP = some (y.s, y.n == 1, k, r') by rw [HPG.out, hp])
                  rw [hp] at IK
                  clear hp
                  go_wp2_with fail
                  go_region_with (go_at_call 120; (refine IK.out.mono ?_); rintro e w4 ⟨v, rfl, hk, hr, g4⟩; (obtain ⟨o, n, s0, t0, p, A, m0, cc, rfl⟩ := kat_shape hk); (have HK4 := Lib.hid hk); (have HR4 := Lib.hid hr); (have G4 := Lib.hid g4); (obtain ⟨u0, u1, u2, u3, -, -, -, -⟩ := VD.out.but g4 (by intro e; injection e with e; have := HWD.out; omega)); (obtain ⟨d0, d1, d2, d3, d4, d5, d6, d7, z0, z1, z2, z3, z4, z5, z6, z7⟩ := XD.out.but g4 HNE.out); clear hk hr g4)
                  all_goals
                    have HPB := Lib.hid (show PP = some (y.s, true, k, r') by rw [HPN.out, HN.out]; rfl)
                    have Y5 := (XD.out.but G4.out HNE.out).set (.string y.s) (.bool true) (.int .i64 o) (.int .i64 n) (.string s0) (.string t0) (.pointer p) (.slice A m0 cc)
                    obtain ⟨j0, j1, j2, j3, j4, j5, j6, j7, -, -, -, -, -, -, -, -⟩ := Y5
                    have gs := grown_set8 w4 w.heap.size (.string y.s) (.bool true) (.int .i64 o) (.int .i64 n) (.string s0) (.string t0) (.pointer p) (.slice A m0 cc)
                    have hRb := HRL.out
                    have R5 := Lib.hid (HR4.out.but gs hRb)
                    have K5 := Lib.hid ((HK4.out.cong (fun g hg => heap_set8 w4 w.heap.size (.string y.s) (.bool true) (.int .i64 o) (.int .i64 n) (.string s0) (.string t0) (.pointer p) (.slice A m0 cc) (by have hq : w.heap.size < w3.drew.heap.size := block_lt_of_cell XD.out.c0; have hg' : w3.drew.heap.size ≤ g := hg; omega))).mono (B' := fun b => w.heap.size ≤ b) (fun b hb _ => Nat.le_trans HSD.out hb))
                    have G5 := Lib.hid (show w.grownBy _ (some R) from grown_new (grown_trans GD.out G4.out) gs (Nat.le_refl _))
                    clear gs
                    go_wp2_with fail
                    refine bodyPost_ret (v := .agg #[.string y.s, .bool true, .int .i64 o, .int .i64 n, .string s0, .string t0, .pointer p, .slice A m0 cc]) (by simp [results, Tryz.results155, go_sem, j0, j1, j2, j3, j4, j5, j6, j7]) rfl ?_
                    rw [HPB.out]
                    exact ⟨[.int .i64 o, .int .i64 n, .string s0, .string t0, .pointer p, .slice A m0 cc], rfl, K5.out, R5.out, G5.out⟩
              · have HPN := Lib.hid (HBAD.out (fun h => by rcases hl2 with h2 | h2 <;> exact h2.1 h.2.2.2.2))
                have GB := G3
                rcases hl2 with ⟨-, l1⟩ | ⟨-, l1, l2⟩
                · go_wp2_with fail
                  refine ⟨rfl, ?_⟩
                  rw [HPN.out]
                  exact ⟨rfl, GB.out⟩
                · go_wp2_with fail
                  refine ⟨rfl, ?_⟩
                  rw [HPN.out]
                  exact ⟨rfl, GB.out⟩
            · have HPN := Lib.hid (HBAD.out (fun h => hf h.2.2.2.1))
              rw [errV_ne hf]
              generalize nameFault y.s = ff at *
              clear hf
              have GB := G3
              go_wp2_with fail
              refine ⟨rfl, ?_⟩
              rw [HPN.out]
              exact ⟨rfl, GB.out⟩
          · have HPN := Lib.hid (HBAD.out (fun h => t2 (by rw [h.2.2.1]; exact toList_emp)))
            clear HBAD HGOOD
            go_wp2_with fail
            refine ⟨rfl, ?_⟩
            rw [HPN.out]
            exact ⟨rfl, grown_trans G1.out (grown_of_below (below_box _ _) _)⟩
        · have HPN := Lib.hid (HBAD.out (fun h => h.2.1.elim hn hn1))
          have e0 : (y.n != 0) = true := by rw [bne_iff_ne]; exact hn
          have e1 : (y.n != 1) = true := by rw [bne_iff_ne]; exact hn1
          clear HBAD HGOOD hn hn1
          go_wp2_with fail
          refine ⟨rfl, ?_⟩
          rw [HPN.out]
          exact ⟨rfl, grown_trans G1.out (grown_of_below (below_box _ _) _)⟩
    · have HPN := Lib.hid (HBAD.out (fun h => ho h.1))
      have h1 : (y.op != 47) = true := by rw [bne_iff_ne]; exact ho
      clear ho HBAD HGOOD
      go_wp2_with fail
      refine ⟨rfl, ?_⟩
      rw [HPN.out]
      exact ⟨rfl, grown_trans G1.out (grown_of_below (below_box _ _) _)⟩
end Go.Proofs.YtnolmlhcikcceaaGreatDoor
namespace Go.Proofs.YtnolmlhcikcceaaGreatDoor
open Go.RowKit Go.Wk Go.Sort
set_option maxRecDepth 100000

/-- A field, and the cells of its type. -/
structure Fe where
  y : Kfd
  o : Int
  n : Int
  s : ByteArray
  t : ByteArray
  p : Option Addr
  A : Option Addr
  m : Nat
  c : Nat
def Fe.u (x : Fe) : List Value := [.int .i64 x.o, .int .i64 x.n, .string x.s, .string x.t, .pointer x.p, .slice x.A x.m x.c]
def Fe.eight (x : Fe) : List Value := .string x.y.1 :: .bool x.y.2.1 :: x.u
def feCells : List Fe → List Value
  | [] => []
  | x :: E => .string x.y.1 :: .bool x.y.2.1 :: .int .i64 x.o :: .int .i64 x.n :: .string x.s :: .string x.t :: .pointer x.p :: .slice x.A x.m x.c :: feCells E
@[simp] theorem feCells_length (E : List Fe) : (feCells E).length = E.length * 8 := by
  induction E with
  | nil => rfl
  | cons x E ih => simp only [feCells, List.length_cons, ih]; omega
theorem feCells_append (U V : List Fe) : feCells (U ++ V) = feCells U ++ feCells V := by
  induction U with
  | nil => rfl
  | cons u U ih => simp only [List.cons_append, feCells, ih]
theorem feCells_one (E : List Fe) : ∀ v ∈ feCells E, v.oneCell' = true := by
  induction E with
  | nil => intro v hv; cases hv
  | cons u U ih =>
    intro v hv
    simp only [feCells, List.mem_cons] at hv
    rcases hv with rfl | rfl | rfl | rfl | rfl | rfl | rfl | rfl | hv
    · rfl
    · rfl
    · rfl
    · rfl
    · rfl
    · rfl
    · rfl
    · rfl
    · exact ih v hv
theorem feCells_at : ∀ (E : List Fe) (k : Nat) (x : Fe), E[k]? = some x → ∀ j v, x.eight[j]? = some v → (feCells E)[k * 8 + j]? = some v
  | [], k, x, h => by simp at h
  | y :: E, 0, x, h => by
    simp at h; subst h
    intro j v hv
    rw [Nat.zero_mul, Nat.zero_add]
    match j, hv with
    | 0, hv => exact hv
    | 1, hv => exact hv
    | 2, hv => exact hv
    | 3, hv => exact hv
    | 4, hv => exact hv
    | 5, hv => exact hv
    | 6, hv => exact hv
    | 7, hv => exact hv
    | j + 8, hv => simp [Fe.eight, Fe.u] at hv
  | y :: E, k + 1, x, h => by
    intro j v hv
    have := feCells_at E k x (by simpa using h) j v hv
    rw [show (k + 1) * 8 + j = k * 8 + j + 1 + 1 + 1 + 1 + 1 + 1 + 1 + 1 by omega]
    simpa [feCells] using this
theorem fdInfo : (Tryz.prog.info? 124).map (fun i => (i.zero, i.size, i.bytes)) = some (some (.agg #[.string ⟨#[]⟩, .bool false, .int .i64 0, .int .i64 0, .string ⟨#[]⟩, .string ⟨#[]⟩, .pointer none, .slice none 0 0]), 8, 104) := by kernel_rfl
theorem add_add' (a : Addr) (x y : Nat) : (a.add x).add y = a.add (x + y) := by
  unfold Addr.add
  by_cases hx : x = 0 <;> by_cases hy : y = 0 <;> simp [hx, hy, Nat.add_assoc]
/-- Cells that stand in a row are fields. -/
theorem fat_of_cells {w : World} {B : Nat → Prop} {a : Addr} (hB : B a.block) : ∀ (E0 E : List Fe), (∀ j u, (feCells (E0 ++ E))[j]? = some u → w.cell? (a.add j) = some u) → (∀ x ∈ E, KAt w B x.y.2.2 x.u) → FAt w B (some a) E0.length (ofL (E.map Fe.y))
  | _, [], _, _ => trivial
  | E0, x :: E, h, hE => by
    refine ⟨⟨a, x.u, rfl, hB, fun j v hv => ?_, hE x (by simp)⟩, ?_⟩
    · rw [add_add']
      exact h _ _ (feCells_at (E0 ++ x :: E) E0.length x (by simp) j v hv)
    · have := fat_of_cells hB (E0 ++ [x]) E (by simpa using h) fun y hy => hE y (by simp [hy])
      simpa [ofL] using this
theorem ofL_len : ∀ L : List Kfd, (ofL L).len = L.length
  | [] => rfl
  | y :: r => by simp [ofL, Fl.len, ofL_len r]
/-- A row of the call's own that holds fields; what their types lead to lies elsewhere. -/
structure RowF (w : World) (base : Nat) (v : Value) (E : List Fe) : Prop where
  own : w.ownsRow base 124 8 v E.length (feCells E)
  ok : ∀ x ∈ E, KAt w (fun b => base ≤ b ∧ some b ≠ v.ownBlock) x.y.2.2 x.u
theorem RowF.nil (w : World) (base : Nat) : RowF w base (.slice none 0 0) [] := ⟨World.ownsRow_nil _ _ _ _, fun _ h => nomatch h⟩
theorem RowF.keep {w w' : World} {base : Nat} {v : Value} {E : List Fe} {R : Nat} (h : RowF w base v E) (hg : w.grownBy w' (some R)) (hR : R < base) : RowF w' base v E := by
  refine ⟨h.own.kept hg ?_, fun x hx => ?_⟩
  · rcases hv : v.ownBlock with _ | k
    · exact .inl rfl
    · refine .inr fun e => ?_
      injection e with e
      have := (h.own.lt k hv).1
      omega
  · have h1 := ((kat_mono (w := w) (B' := fun b => (base ≤ b ∧ some b ≠ v.ownBlock) ∧ b < w.heap.size) (fun b hb hl => ⟨hb, hl⟩) _).1 _ _ (Nat.le_refl _) (h.ok x hx))
    have h2 := h1.cong (w' := w') fun b hb => hg.block b hb.2 (fun e => by injection e with e; have := hb.1.1; omega)
    exact h2.mono fun b hb _ => hb.1
theorem RowF.keepN {w w' : World} {base : Nat} {v : Value} {E : List Fe} (h : RowF w base v E) (hg : w.grownBy w' none) : RowF w' base v E := by
  refine ⟨h.own.kept hg ?_, fun x hx => ?_⟩
  · rcases hv : v.ownBlock with _ | k
    · exact .inl rfl
    · exact .inr (fun e => nomatch e)
  · have h1 := ((kat_mono (w := w) (B' := fun b => (base ≤ b ∧ some b ≠ v.ownBlock) ∧ b < w.heap.size) (fun b hb hl => ⟨hb, hl⟩) _).1 _ _ (Nat.le_refl _) (h.ok x hx))
    have h2 := h1.cong (w' := w') fun b hb => hg.block b hb.2 (fun e => nomatch e)
    exact h2.mono fun b hb _ => hb.1
/-- What the row is as fields of a type. -/
theorem RowF.fat {w : World} {base : Nat} {v : Value} {E : List Fe} (h : RowF w base v E) : ∃ A c, v = .slice A E.length c ∧ FAt w (fun b => base ≤ b) A 0 (ofL (E.map Fe.y)) ∧ E.length ≤ c ∧ c ≤ maxLen := by
  obtain ⟨h1, h2⟩ := h
  have h0 := h1
  rcases h1.2 with ⟨rfl, e0⟩ | ⟨g, cap, cur, rfl, hB, hh, hc, hm, hrest⟩
  · have : E = [] := List.eq_nil_of_length_eq_zero e0
    subst this
    exact ⟨none, 0, rfl, trivial, Nat.le_refl _, Nat.zero_le _⟩
  · refine ⟨some ⟨g, 0, none⟩, cap, rfl, ?_, hc, hm⟩
    exact fat_of_cells (B := fun b => base ≤ b) (a := ⟨g, 0, none⟩) hB [] E (by simpa using h0.cells (g := g) rfl) fun x hx => (h2 x hx).mono fun b hb _ => hb.1
/-- One more. -/
theorem RowF.snoc {w w' : World} {base : Nat} {v v' : Value} {E : List Fe} {x : Fe} (h : RowF w base v E) (hx : KAt w (fun b => base ≤ b ∧ some b ≠ v.ownBlock) x.y.2.2 x.u) (hown : w'.ownsRow base 124 8 v' (E.length + 1) (feCells E ++ x.eight)) (hg : w.grownBy w' v.ownBlock)
    (hb : v'.ownBlock = v.ownBlock ∨ v'.ownBlock = some w.heap.size) : RowF w' base v' (E ++ [x]) := by
  refine ⟨?_, fun z hz => ?_⟩
  · rw [feCells_append, List.length_append]; exact hown
  · have hz' : KAt w (fun b => base ≤ b ∧ some b ≠ v.ownBlock) z.y.2.2 z.u := by
      rcases List.mem_append.1 hz with hz | hz
      · exact h.ok z hz
      · simp only [List.mem_cons, List.not_mem_nil, or_false] at hz; subst hz; exact hx
    have h1 := (kat_mono (w := w) (B' := fun b => (base ≤ b ∧ some b ≠ v.ownBlock) ∧ b < w.heap.size) (fun b hb hl => ⟨hb, hl⟩) _).1 _ _ (Nat.le_refl _) hz'
    have h2 := h1.cong (w' := w') fun b hb => hg.block b hb.2 (fun e => hb.1.2 (by rw [← e]))
    refine h2.mono fun b hb _ => ⟨hb.1.1, ?_⟩
    rcases ‹v'.ownBlock = v.ownBlock ∨ v'.ownBlock = some w.heap.size› with e | e
    · rw [e]; exact hb.1.2
    · rw [e]; intro q; injection q with q; have := hb.2; omega
/-- append of one field to such a row. -/
theorem wpList_append_fe {ops : Array Oper} {rest : List Oper} {o : Oper} {a : Act} {w : World} {Q : Exit → Act → World → Prop} (hgd : o.guard = none) (s x : Operand)
    (ho : o.op = .call { callee := .builtin .append, args := #[s, x], argTypes := #[72, 72] })
    (base : Nat) (v : Value) (E : List Fe) (hs : a.eval s = v) (hrow : RowF w base v E) (z : Fe) (ad : Addr) (m c : Nat) (hx : a.eval x = .slice (some ad) m c) (hm : m = 1)
    (hnews : ∀ j u, z.eight[j]? = some u → w.cell? (ad.add j) = some u) (hz : KAt w (fun b => base ≤ b ∧ some b ≠ v.ownBlock) z.y.2.2 z.u) (hl : E.length ≤ 1000000) (hbase : base ≤ w.heap.size)
    (h : ∀ v' w', RowF w' base v' (E ++ [z]) → w.grownBy w' v.ownBlock → wpList Tryz.prog ops Q rest (a.put o.dst v') w') : wpList Tryz.prog ops Q (o :: rest) a w := by
  subst hm
  have hi := fdInfo
  cases hq : Tryz.prog.info? 124 with
  | none => rw [hq] at hi; cases hi
  | some i0 =>
    rw [hq] at hi
    simp only [Option.map_some, Option.some.injEq, Prod.mk.injEq] at hi
    refine wpList_append_own_at w hgd s x _ ho base _ i0 _ 8 104 Tryz.underlying72 hq hi.1 hi.2.1 hi.2.2 (by decide) (by decide) v E.length (feCells E) hs hrow.own ad 1 c z.eight hx rfl hnews ?_ (by unfold maxLen; omega) (by omega) hbase ?_
    · intro u hu
      have := feCells_one [z] u (by simpa [feCells, Fe.eight, Fe.u] using hu)
      exact this
    · intro v' w' h1 h2 _ h4
      exact h v' w' (hrow.snoc hz h1 h2 h4) h2
end Go.Proofs.YtnolmlhcikcceaaGreatDoor
namespace Go.Proofs.YtnolmlhcikcceaaGreatDoor
open Go.RowKit Go.Wk Go.Sort
set_option maxRecDepth 100000

theorem grown_set6 (w : World) (b : Nat) (y0 y1 y2 y3 y4 y5 : Value) : w.grownBy ((((((w.setCell ⟨b, 0, none⟩ y0).setCell ⟨b, 1, none⟩ y1).setCell ⟨b, 2, none⟩ y2).setCell ⟨b, 3, none⟩ y3).setCell ⟨b, 4, none⟩ y4).setCell ⟨b, 5, none⟩ y5) (some b) :=
  grown_trans (grown_trans (grown_trans (grown_trans (grown_trans (grown_trans (grown_refl w (some b)) (grown_setCell _ ⟨b, 0, none⟩ _)) (grown_setCell _ ⟨b, 1, none⟩ _)) (grown_setCell _ ⟨b, 2, none⟩ _)) (grown_setCell _ ⟨b, 3, none⟩ _)) (grown_setCell _ ⟨b, 4, none⟩ _)) (grown_setCell _ ⟨b, 5, none⟩ _)
theorem heap_set6 (w : World) (b : Nat) (y0 y1 y2 y3 y4 y5 : Value) {g : Nat} (h : g ≠ b) : ((((((w.setCell ⟨b, 0, none⟩ y0).setCell ⟨b, 1, none⟩ y1).setCell ⟨b, 2, none⟩ y2).setCell ⟨b, 3, none⟩ y3).setCell ⟨b, 4, none⟩ y4).setCell ⟨b, 5, none⟩ y5).heap[g]? = w.heap[g]? := by
  iterate 6 rw [Below.heap_setCell _ _ _ g h]
/-- The text is empty, or the walk sees that it is not. -/
theorem emp_or (s : ByteArray) : s = ⟨#[]⟩ ∨ s ≠ emp ∧ (s.toList == []) = false ∧ (s.toList != []) = true := by
  rcases empty_or s with h | ⟨h1, h2, h3⟩
  · exact .inl h
  · exact .inr ⟨fun e => h2 (by rw [e, toList_emp]), beq_eq_false_iff_ne.2 h2, by rw [bne_iff_ne]; exact h2⟩
set_option maxHeartbeats 8000000 in
theorem kind_base (R m : Nat) (x : Nd) (r : List Nd) (w : World) (h : RdK w R (x :: r)) (hb : baseOp x.op) :
    Calls Tryz.prog 120 #[.pointer (some ⟨R, 0, none⟩)] w (KindPost w R (parseK (m + 1) (x :: r))) := by
  have HR := Lib.hid h
  have HPP := Lib.hid (show parseK (m + 1) (x :: r) = if x.n = 0 ∧ x.s = emp ∧ x.t = emp then some (.base x.op, r) else none by simp only [parseK, if_pos hb])
  generalize parseK (m + 1) (x :: r) = PP at *
  clear h
  go_enter Tryz.func120, Tryz.ntmps120
  go_wp2_with fail
  have G0 := Lib.hid (grown_of_below (below_box w (.cells #[.int .i64 0, .int .i64 0, .string ⟨#[]⟩, .string ⟨#[]⟩, .pointer none, .slice none 0 0] 74)) (some R))
  have X0 := Lib.hid (bx6_new w (.int .i64 0) (.int .i64 0) (.string ⟨#[]⟩) (.string ⟨#[]⟩) (.pointer none) (.slice none 0 0) 74)
  have R0 := Lib.hid (HR.out.keep (below_box w (.cells #[.int .i64 0, .int .i64 0, .string ⟨#[]⟩, .string ⟨#[]⟩, .pointer none, .slice none 0 0] 74)))
  have HRL := Lib.hid (show R < w.heap.size by obtain ⟨⟨_, _, _, h1, _⟩, _⟩ := HR.out; exact block_lt_of_cell h1)
  have HNE := Lib.hid (show some w.heap.size ≠ some R from fun e => by injection e with e; have := HRL.out; omega)
  obtain ⟨w0, hw0⟩ : ∃ w0, w.alloc (.cells #[.int .i64 0, .int .i64 0, .string ⟨#[]⟩, .string ⟨#[]⟩, .pointer none, .slice none 0 0] 74) = w0 := ⟨_, rfl⟩
  have HS0 := Lib.hid (show w.heap.size ≤ w0.heap.size by rw [← hw0]; simp)
  rw [hw0] at G0 X0 R0 ⊢
  clear hw0 HR
  refine (kind_node R (x :: r) w0 R0.out).mono ?_
  rintro e w1 ⟨rfl, r1, g1⟩
  have G1 := Lib.hid (G0.out.trans g1)
  have X1 := Lib.hid (X0.out.but g1 HNE.out)
  have R1 := Lib.hid r1
  have HS1 := Lib.hid (Nat.le_trans HS0.out g1.size)
  clear r1 g1 G0 X0 R0 HS0
  unfold ndV
  have hl : w.heap.size < w1.heap.size := block_lt_of_cell X1.out.c0
  obtain ⟨o, ho⟩ : ∃ o, o = x.op := ⟨_, rfl⟩
  rw [← ho] at hb HPP ⊢
  clear ho
  by_cases hn : x.n = 0
  · rcases emp_or x.s with hs | ⟨hs, s1, s2⟩
    · rcases emp_or x.t with ht | ⟨ht, t1, t2⟩
      · have HP := Lib.hid (show PP = some (.base o, r) by rw [HPP.out, if_pos ⟨hn, hs, ht⟩])
        rw [hn, hs, ht]
        clear hn hs ht HPP
        rcases hb with rfl | rfl | rfl | rfl | rfl
        · obtain ⟨c0, c1, c2, c3, c4, c5, z0, z1, z2, z3, z4, z5⟩ := X1.out
          go_wp2_with fail
          have Y := X1.out.set (.int .i64 41) (.int .i64 0) (.string ⟨#[]⟩) (.string ⟨#[]⟩) (.pointer none) (.slice none 0 0)
          have gs := grown_set6 w1 w.heap.size (.int .i64 41) (.int .i64 0) (.string ⟨#[]⟩) (.string ⟨#[]⟩) (.pointer none) (.slice none 0 0)
          have R4 := R1.out.but gs HRL.out
          have G4 := grown_new G1.out gs (Nat.le_refl _)
          obtain ⟨S, hS⟩ : ∃ S, ((((((w1.setCell ⟨w.heap.size, 0, none⟩ (.int .i64 41)).setCell ⟨w.heap.size, 1, none⟩ (.int .i64 0)).setCell ⟨w.heap.size, 2, none⟩ (.string ⟨#[]⟩)).setCell ⟨w.heap.size, 3, none⟩ (.string ⟨#[]⟩)).setCell ⟨w.heap.size, 4, none⟩ (.pointer none)).setCell ⟨w.heap.size, 5, none⟩ (.slice none 0 0)) = S := ⟨_, rfl⟩
          rw [hS] at Y gs R4 G4 ⊢
          clear hS gs
          have Y5 := (Y.keep (below_box _ (.cells #[.int .i64 41, .int .i64 0, .string ⟨#[]⟩, .string ⟨#[]⟩, .pointer none, .slice none 0 0] 74))).keep (below_box _ (.cells #[.int .i64 41, .int .i64 0, .string ⟨#[]⟩, .string ⟨#[]⟩] 35))
          obtain ⟨j0, j1, j2, j3, j4, j5, -, -, -, -, -, -⟩ := Y5
          refine bodyPost_ret (v := .agg #[.int .i64 41, .int .i64 0, .string ⟨#[]⟩, .string ⟨#[]⟩, .pointer none, .slice none 0 0]) (by simp [results, Tryz.results120, go_sem, j0, j1, j2, j3, j4, j5]) rfl ?_
          rw [HP.out]
          exact ⟨[.int .i64 41, .int .i64 0, .string ⟨#[]⟩, .string ⟨#[]⟩, .pointer none, .slice none 0 0], rfl, ⟨0, rfl⟩, (R4.keep (below_box _ _)).keep (below_box _ _), grown_trans (grown_trans G4 (grown_of_below (below_box _ _) _)) (grown_of_below (below_box _ _) _)⟩
        · obtain ⟨c0, c1, c2, c3, c4, c5, z0, z1, z2, z3, z4, z5⟩ := X1.out
          go_wp2_with fail
          have Y := X1.out.set (.int .i64 42) (.int .i64 0) (.string ⟨#[]⟩) (.string ⟨#[]⟩) (.pointer none) (.slice none 0 0)
          have gs := grown_set6 w1 w.heap.size (.int .i64 42) (.int .i64 0) (.string ⟨#[]⟩) (.string ⟨#[]⟩) (.pointer none) (.slice none 0 0)
          have R4 := R1.out.but gs HRL.out
          have G4 := grown_new G1.out gs (Nat.le_refl _)
          obtain ⟨S, hS⟩ : ∃ S, ((((((w1.setCell ⟨w.heap.size, 0, none⟩ (.int .i64 42)).setCell ⟨w.heap.size, 1, none⟩ (.int .i64 0)).setCell ⟨w.heap.size, 2, none⟩ (.string ⟨#[]⟩)).setCell ⟨w.heap.size, 3, none⟩ (.string ⟨#[]⟩)).setCell ⟨w.heap.size, 4, none⟩ (.pointer none)).setCell ⟨w.heap.size, 5, none⟩ (.slice none 0 0)) = S := ⟨_, rfl⟩
          rw [hS] at Y gs R4 G4 ⊢
          clear hS gs
          have Y5 := (Y.keep (below_box _ (.cells #[.int .i64 42, .int .i64 0, .string ⟨#[]⟩, .string ⟨#[]⟩, .pointer none, .slice none 0 0] 74))).keep (below_box _ (.cells #[.int .i64 42, .int .i64 0, .string ⟨#[]⟩, .string ⟨#[]⟩] 35))
          obtain ⟨j0, j1, j2, j3, j4, j5, -, -, -, -, -, -⟩ := Y5
          refine bodyPost_ret (v := .agg #[.int .i64 42, .int .i64 0, .string ⟨#[]⟩, .string ⟨#[]⟩, .pointer none, .slice none 0 0]) (by simp [results, Tryz.results120, go_sem, j0, j1, j2, j3, j4, j5]) rfl ?_
          rw [HP.out]
          exact ⟨[.int .i64 42, .int .i64 0, .string ⟨#[]⟩, .string ⟨#[]⟩, .pointer none, .slice none 0 0], rfl, ⟨0, rfl⟩, (R4.keep (below_box _ _)).keep (below_box _ _), grown_trans (grown_trans G4 (grown_of_below (below_box _ _) _)) (grown_of_below (below_box _ _) _)⟩
        · obtain ⟨c0, c1, c2, c3, c4, c5, z0, z1, z2, z3, z4, z5⟩ := X1.out
          go_wp2_with fail
          have Y := X1.out.set (.int .i64 43) (.int .i64 0) (.string ⟨#[]⟩) (.string ⟨#[]⟩) (.pointer none) (.slice none 0 0)
          have gs := grown_set6 w1 w.heap.size (.int .i64 43) (.int .i64 0) (.string ⟨#[]⟩) (.string ⟨#[]⟩) (.pointer none) (.slice none 0 0)
          have R4 := R1.out.but gs HRL.out
          have G4 := grown_new G1.out gs (Nat.le_refl _)
          obtain ⟨S, hS⟩ : ∃ S, ((((((w1.setCell ⟨w.heap.size, 0, none⟩ (.int .i64 43)).setCell ⟨w.heap.size, 1, none⟩ (.int .i64 0)).setCell ⟨w.heap.size, 2, none⟩ (.string ⟨#[]⟩)).setCell ⟨w.heap.size, 3, none⟩ (.string ⟨#[]⟩)).setCell ⟨w.heap.size, 4, none⟩ (.pointer none)).setCell ⟨w.heap.size, 5, none⟩ (.slice none 0 0)) = S := ⟨_, rfl⟩
          rw [hS] at Y gs R4 G4 ⊢
          clear hS gs
          have Y5 := (Y.keep (below_box _ (.cells #[.int .i64 43, .int .i64 0, .string ⟨#[]⟩, .string ⟨#[]⟩, .pointer none, .slice none 0 0] 74))).keep (below_box _ (.cells #[.int .i64 43, .int .i64 0, .string ⟨#[]⟩, .string ⟨#[]⟩] 35))
          obtain ⟨j0, j1, j2, j3, j4, j5, -, -, -, -, -, -⟩ := Y5
          refine bodyPost_ret (v := .agg #[.int .i64 43, .int .i64 0, .string ⟨#[]⟩, .string ⟨#[]⟩, .pointer none, .slice none 0 0]) (by simp [results, Tryz.results120, go_sem, j0, j1, j2, j3, j4, j5]) rfl ?_
          rw [HP.out]
          exact ⟨[.int .i64 43, .int .i64 0, .string ⟨#[]⟩, .string ⟨#[]⟩, .pointer none, .slice none 0 0], rfl, ⟨0, rfl⟩, (R4.keep (below_box _ _)).keep (below_box _ _), grown_trans (grown_trans G4 (grown_of_below (below_box _ _) _)) (grown_of_below (below_box _ _) _)⟩
        · obtain ⟨c0, c1, c2, c3, c4, c5, z0, z1, z2, z3, z4, z5⟩ := X1.out
          go_wp2_with fail
          have Y := X1.out.set (.int .i64 48) (.int .i64 0) (.string ⟨#[]⟩) (.string ⟨#[]⟩) (.pointer none) (.slice none 0 0)
          have gs := grown_set6 w1 w.heap.size (.int .i64 48) (.int .i64 0) (.string ⟨#[]⟩) (.string ⟨#[]⟩) (.pointer none) (.slice none 0 0)
          have R4 := R1.out.but gs HRL.out
          have G4 := grown_new G1.out gs (Nat.le_refl _)
          obtain ⟨S, hS⟩ : ∃ S, ((((((w1.setCell ⟨w.heap.size, 0, none⟩ (.int .i64 48)).setCell ⟨w.heap.size, 1, none⟩ (.int .i64 0)).setCell ⟨w.heap.size, 2, none⟩ (.string ⟨#[]⟩)).setCell ⟨w.heap.size, 3, none⟩ (.string ⟨#[]⟩)).setCell ⟨w.heap.size, 4, none⟩ (.pointer none)).setCell ⟨w.heap.size, 5, none⟩ (.slice none 0 0)) = S := ⟨_, rfl⟩
          rw [hS] at Y gs R4 G4 ⊢
          clear hS gs
          have Y5 := (Y.keep (below_box _ (.cells #[.int .i64 48, .int .i64 0, .string ⟨#[]⟩, .string ⟨#[]⟩, .pointer none, .slice none 0 0] 74))).keep (below_box _ (.cells #[.int .i64 48, .int .i64 0, .string ⟨#[]⟩, .string ⟨#[]⟩] 35))
          obtain ⟨j0, j1, j2, j3, j4, j5, -, -, -, -, -, -⟩ := Y5
          refine bodyPost_ret (v := .agg #[.int .i64 48, .int .i64 0, .string ⟨#[]⟩, .string ⟨#[]⟩, .pointer none, .slice none 0 0]) (by simp [results, Tryz.results120, go_sem, j0, j1, j2, j3, j4, j5]) rfl ?_
          rw [HP.out]
          exact ⟨[.int .i64 48, .int .i64 0, .string ⟨#[]⟩, .string ⟨#[]⟩, .pointer none, .slice none 0 0], rfl, ⟨0, rfl⟩, (R4.keep (below_box _ _)).keep (below_box _ _), grown_trans (grown_trans G4 (grown_of_below (below_box _ _) _)) (grown_of_below (below_box _ _) _)⟩
        · obtain ⟨c0, c1, c2, c3, c4, c5, z0, z1, z2, z3, z4, z5⟩ := X1.out
          go_wp2_with fail
          have Y := X1.out.set (.int .i64 49) (.int .i64 0) (.string ⟨#[]⟩) (.string ⟨#[]⟩) (.pointer none) (.slice none 0 0)
          have gs := grown_set6 w1 w.heap.size (.int .i64 49) (.int .i64 0) (.string ⟨#[]⟩) (.string ⟨#[]⟩) (.pointer none) (.slice none 0 0)
          have R4 := R1.out.but gs HRL.out
          have G4 := grown_new G1.out gs (Nat.le_refl _)
          obtain ⟨S, hS⟩ : ∃ S, ((((((w1.setCell ⟨w.heap.size, 0, none⟩ (.int .i64 49)).setCell ⟨w.heap.size, 1, none⟩ (.int .i64 0)).setCell ⟨w.heap.size, 2, none⟩ (.string ⟨#[]⟩)).setCell ⟨w.heap.size, 3, none⟩ (.string ⟨#[]⟩)).setCell ⟨w.heap.size, 4, none⟩ (.pointer none)).setCell ⟨w.heap.size, 5, none⟩ (.slice none 0 0)) = S := ⟨_, rfl⟩
          rw [hS] at Y gs R4 G4 ⊢
          clear hS gs
          have Y5 := (Y.keep (below_box _ (.cells #[.int .i64 49, .int .i64 0, .string ⟨#[]⟩, .string ⟨#[]⟩, .pointer none, .slice none 0 0] 74))).keep (below_box _ (.cells #[.int .i64 49, .int .i64 0, .string ⟨#[]⟩, .string ⟨#[]⟩] 35))
          obtain ⟨j0, j1, j2, j3, j4, j5, -, -, -, -, -, -⟩ := Y5
          refine bodyPost_ret (v := .agg #[.int .i64 49, .int .i64 0, .string ⟨#[]⟩, .string ⟨#[]⟩, .pointer none, .slice none 0 0]) (by simp [results, Tryz.results120, go_sem, j0, j1, j2, j3, j4, j5]) rfl ?_
          rw [HP.out]
          exact ⟨[.int .i64 49, .int .i64 0, .string ⟨#[]⟩, .string ⟨#[]⟩, .pointer none, .slice none 0 0], rfl, ⟨0, rfl⟩, (R4.keep (below_box _ _)).keep (below_box _ _), grown_trans (grown_trans G4 (grown_of_below (below_box _ _) _)) (grown_of_below (below_box _ _) _)⟩
      · have HP := Lib.hid (show PP = none by rw [HPP.out, if_neg (fun h => ht h.2.2)])
        rw [hn, hs]
        clear hn hs ht HPP
        rcases hb with rfl | rfl | rfl | rfl | rfl
        all_goals
          go_wp2_with fail
          exact ⟨rfl, by rw [HP.out]; exact ⟨rfl, grown_trans (grown_trans G1.out (grown_of_below (below_box _ _) _)) (grown_of_below (below_box _ _) _)⟩⟩
    · have HP := Lib.hid (show PP = none by rw [HPP.out, if_neg (fun h => hs h.2.1)])
      rw [hn]
      clear hn hs HPP
      rcases hb with rfl | rfl | rfl | rfl | rfl
      all_goals
        go_wp2_with fail
        exact ⟨rfl, by rw [HP.out]; exact ⟨rfl, grown_trans (grown_trans G1.out (grown_of_below (below_box _ _) _)) (grown_of_below (below_box _ _) _)⟩⟩
  · have HP := Lib.hid (show PP = none by rw [HPP.out, if_neg (fun h => hn h.1)])
    have e0 : (x.n == 0) = false := beq_eq_false_iff_ne.2 hn
    have e1 : (x.n != 0) = true := by rw [bne_iff_ne]; exact hn
    clear HPP
    rcases hb with rfl | rfl | rfl | rfl | rfl
    all_goals
      go_wp2_with fail
      exact ⟨rfl, by rw [HP.out]; exact ⟨rfl, grown_trans (grown_trans G1.out (grown_of_below (below_box _ _) _)) (grown_of_below (below_box _ _) _)⟩⟩
end Go.Proofs.YtnolmlhcikcceaaGreatDoor
namespace Go.Proofs.YtnolmlhcikcceaaGreatDoor
open Go.RowKit Go.Wk Go.Sort
set_option maxRecDepth 100000

set_option maxHeartbeats 8000000 in
theorem kind_ent (R m : Nat) (x : Nd) (r : List Nd) (w : World) (h : RdK w R (x :: r)) (hb : x.op = 44) :
    Calls Tryz.prog 120 #[.pointer (some ⟨R, 0, none⟩)] w (KindPost w R (parseK (m + 1) (x :: r))) := by
  have HR := Lib.hid h
  have HPP := Lib.hid (show parseK (m + 1) (x :: r) = if x.n = 0 ∧ nameFault x.s = 0 ∧ x.t = emp then some (.ent x.s, r) else none by simp only [parseK, if_neg (not_base (.inl hb)), if_pos hb])
  generalize parseK (m + 1) (x :: r) = PP at *
  clear h
  go_enter Tryz.func120, Tryz.ntmps120
  go_wp2_with fail
  have G0 := Lib.hid (grown_of_below (below_box w (.cells #[.int .i64 0, .int .i64 0, .string ⟨#[]⟩, .string ⟨#[]⟩, .pointer none, .slice none 0 0] 74)) (some R))
  have X0 := Lib.hid (bx6_new w (.int .i64 0) (.int .i64 0) (.string ⟨#[]⟩) (.string ⟨#[]⟩) (.pointer none) (.slice none 0 0) 74)
  have R0 := Lib.hid (HR.out.keep (below_box w (.cells #[.int .i64 0, .int .i64 0, .string ⟨#[]⟩, .string ⟨#[]⟩, .pointer none, .slice none 0 0] 74)))
  have HRL := Lib.hid (show R < w.heap.size by obtain ⟨⟨_, _, _, h1, _⟩, _⟩ := HR.out; exact block_lt_of_cell h1)
  have HNE := Lib.hid (show some w.heap.size ≠ some R from fun e => by injection e with e; have := HRL.out; omega)
  obtain ⟨w0, hw0⟩ : ∃ w0, w.alloc (.cells #[.int .i64 0, .int .i64 0, .string ⟨#[]⟩, .string ⟨#[]⟩, .pointer none, .slice none 0 0] 74) = w0 := ⟨_, rfl⟩
  have HS0 := Lib.hid (show w.heap.size ≤ w0.heap.size by rw [← hw0]; simp)
  rw [hw0] at G0 X0 R0 ⊢
  clear hw0 HR
  refine (kind_node R (x :: r) w0 R0.out).mono ?_
  rintro e w1 ⟨rfl, r1, g1⟩
  have G1 := Lib.hid (G0.out.trans g1)
  have X1 := Lib.hid (X0.out.but g1 HNE.out)
  have R1 := Lib.hid r1
  have HYO := Lib.hid (show NdOk x by obtain ⟨⟨_, _, _, _, h2, _⟩, _⟩ := R0.out; exact h2.ok x (by simp))
  have KN := Lib.hid (fun w => name_Check x.s w HYO.out.s)
  have HS1 := Lib.hid (Nat.le_trans HS0.out g1.size)
  clear r1 g1 G0 X0 R0 HS0
  unfold ndV
  have hl : w.heap.size < w1.heap.size := block_lt_of_cell X1.out.c0
  rw [hb]
  clear hb
  have B2 := Lib.hid ((below_box w1 (.cells #[.int .i64 44, .int .i64 x.n, .string x.s, .string x.t, .pointer none, .slice none 0 0] 74)).trans ((below_box _ (.cells #[.int .i64 44, .int .i64 0, .string x.s, .string ⟨#[]⟩] 35)).mono (by simp)))
  have hsz : (w1.alloc (.cells #[.int .i64 44, .int .i64 x.n, .string x.s, .string x.t, .pointer none, .slice none 0 0] 74)).heap.size = w1.heap.size + 1 := by simp
  have K2 := (bx6_new w1 (.int .i64 44) (.int .i64 x.n) (.string x.s) (.string x.t) (.pointer none) (.slice none 0 0) 74).keep (below_box _ (.cells #[.int .i64 44, .int .i64 0, .string x.s, .string ⟨#[]⟩] 35))
  have N2 := bx4_new (w1.alloc (.cells #[.int .i64 44, .int .i64 x.n, .string x.s, .string x.t, .pointer none, .slice none 0 0] 74)) (.int .i64 44) (.int .i64 0) (.string x.s) (.string ⟨#[]⟩) 35
  rw [hsz] at N2
  clear hsz
  go_wp2_with fail
  obtain ⟨w2, hw2⟩ : ∃ w2, (w1.alloc (.cells #[.int .i64 44, .int .i64 x.n, .string x.s, .string x.t, .pointer none, .slice none 0 0] 74)).alloc (.cells #[.int .i64 44, .int .i64 0, .string x.s, .string ⟨#[]⟩] 35) = w2 := ⟨_, rfl⟩
  rw [hw2] at B2 K2 N2 ⊢
  clear hw2
  refine (KN.out w2).mono ?_
  rintro e w3 ⟨rfl, b3⟩
  have B3 := bh B2 b3
  have K3 := Lib.hid (K2.keep b3)
  have N3 := Lib.hid (N2.keep b3)
  have X3 := Lib.hid (X1.out.keep B3.out)
  have R3 := Lib.hid (R1.out.keep B3.out)
  have G3 := Lib.hid (grown_trans G1.out (grown_of_below B3.out (some R)))
  clear b3 B2 K2 N2 X1 R1 G1 B3 KN hl HS1
  obtain ⟨k0, k1, k2, k3, k4, k5, -, -, -, -, -, -⟩ := K3.out
  obtain ⟨n0, n1, n2, n3, -, -, -, -⟩ := N3.out
  by_cases hf : nameFault x.s = 0
  · have HF := Lib.hid hf
    rw [hf, errV_zero]
    clear hf
    by_cases hn : x.n = 0
    · rcases emp_or x.t with ht | ⟨ht, t1, t2⟩
      · have HP := Lib.hid (show PP = some (.ent x.s, r) by rw [HPP.out, if_pos ⟨hn, HF.out, ht⟩])
        rw [hn, ht] at K3
        rw [hn] at k1
        rw [ht] at k3
        rw [hn, ht]
        clear hn ht HPP
        obtain ⟨c0, c1, c2, c3, c4, c5, z0, z1, z2, z3, z4, z5⟩ := X3.out
        go_wp2_with fail
        have Y := X3.out.set (.int .i64 44) (.int .i64 0) (.string x.s) (.string ⟨#[]⟩) (.pointer none) (.slice none 0 0)
        have gs := grown_set6 w3 w.heap.size (.int .i64 44) (.int .i64 0) (.string x.s) (.string ⟨#[]⟩) (.pointer none) (.slice none 0 0)
        have R4 := R3.out.but gs HRL.out
        have G4 := grown_new G3.out gs (Nat.le_refl _)
        obtain ⟨S, hS⟩ : ∃ S, ((((((w3.setCell ⟨w.heap.size, 0, none⟩ (.int .i64 44)).setCell ⟨w.heap.size, 1, none⟩ (.int .i64 0)).setCell ⟨w.heap.size, 2, none⟩ (.string x.s)).setCell ⟨w.heap.size, 3, none⟩ (.string ⟨#[]⟩)).setCell ⟨w.heap.size, 4, none⟩ (.pointer none)).setCell ⟨w.heap.size, 5, none⟩ (.slice none 0 0)) = S := ⟨_, rfl⟩
        rw [hS] at Y gs R4 G4 ⊢
        clear hS gs
        obtain ⟨j0, j1, j2, j3, j4, j5, -, -, -, -, -, -⟩ := Y
        refine bodyPost_ret (v := .agg #[.int .i64 44, .int .i64 0, .string x.s, .string ⟨#[]⟩, .pointer none, .slice none 0 0]) (by simp [results, Tryz.results120, go_sem, j0, j1, j2, j3, j4, j5]) rfl ?_
        rw [HP.out]
        exact ⟨[.int .i64 44, .int .i64 0, .string x.s, .string ⟨#[]⟩, .pointer none, .slice none 0 0], rfl, ⟨0, rfl⟩, R4, G4⟩
      · have HP := Lib.hid (show PP = none by rw [HPP.out, if_neg (fun h => ht h.2.2)])
        rw [hn] at k1
        rw [hn]
        clear hn ht HPP
        go_wp2_with fail
        exact ⟨rfl, by rw [HP.out]; exact ⟨rfl, G3.out⟩⟩
    · have HP := Lib.hid (show PP = none by rw [HPP.out, if_neg (fun h => hn h.1)])
      have e0 : (x.n == 0) = false := beq_eq_false_iff_ne.2 hn
      have e1 : (x.n != 0) = true := by rw [bne_iff_ne]; exact hn
      clear HPP hn
      go_wp2_with fail
      exact ⟨rfl, by rw [HP.out]; exact ⟨rfl, G3.out⟩⟩
  · have HP := Lib.hid (show PP = none by rw [HPP.out, if_neg (fun h => hf h.2.1)])
    rw [errV_ne hf]
    generalize nameFault x.s = ff at *
    clear hf HPP
    go_wp2_with fail
    exact ⟨rfl, by rw [HP.out]; exact ⟨rfl, G3.out⟩⟩

set_option maxHeartbeats 8000000 in
/-- No nodes are left. -/
theorem kind_nil (R m : Nat) (w : World) (h : RdK w R []) :
    Calls Tryz.prog 120 #[.pointer (some ⟨R, 0, none⟩)] w (KindPost w R (parseK m [])) := by
  have HPP := Lib.hid (show parseK m [] = none by cases m <;> rfl)
  have HR := Lib.hid (h.keep (below_box w (.cells #[.int .i64 0, .int .i64 0, .string ⟨#[]⟩, .string ⟨#[]⟩, .pointer none, .slice none 0 0] 74)))
  have G0 := Lib.hid (grown_of_below (below_box w (.cells #[.int .i64 0, .int .i64 0, .string ⟨#[]⟩, .string ⟨#[]⟩, .pointer none, .slice none 0 0] 74)) (some R))
  generalize parseK m [] = PP at *
  clear h
  go_enter Tryz.func120, Tryz.ntmps120
  go_wp2_with fail
  refine (kind_node R [] _ HR.out).mono ?_
  rintro e w1 ⟨rfl, g1⟩
  go_wp2_with fail
  exact ⟨rfl, by rw [HPP.out]; exact ⟨rfl, G0.out.trans g1⟩⟩
set_option maxHeartbeats 8000000 in
theorem kind_else (R m : Nat) (x : Nd) (r : List Nd) (w : World) (h : RdK w R (x :: r)) (hb : ¬ baseOp x.op) (h4 : x.op ≠ 44) (h5 : x.op ≠ 45) (h6 : x.op ≠ 46) :
    Calls Tryz.prog 120 #[.pointer (some ⟨R, 0, none⟩)] w (KindPost w R (parseK (m + 1) (x :: r))) := by
  have HR := Lib.hid h
  have HPP := Lib.hid (show parseK (m + 1) (x :: r) = none by simp only [parseK, if_neg hb, if_neg h4, if_neg h5, if_neg h6])
  generalize parseK (m + 1) (x :: r) = PP at *
  clear h
  go_enter Tryz.func120, Tryz.ntmps120
  go_wp2_with fail
  have G0 := Lib.hid (grown_of_below (below_box w (.cells #[.int .i64 0, .int .i64 0, .string ⟨#[]⟩, .string ⟨#[]⟩, .pointer none, .slice none 0 0] 74)) (some R))
  have X0 := Lib.hid (bx6_new w (.int .i64 0) (.int .i64 0) (.string ⟨#[]⟩) (.string ⟨#[]⟩) (.pointer none) (.slice none 0 0) 74)
  have R0 := Lib.hid (HR.out.keep (below_box w (.cells #[.int .i64 0, .int .i64 0, .string ⟨#[]⟩, .string ⟨#[]⟩, .pointer none, .slice none 0 0] 74)))
  have HRL := Lib.hid (show R < w.heap.size by obtain ⟨⟨_, _, _, h1, _⟩, _⟩ := HR.out; exact block_lt_of_cell h1)
  have HNE := Lib.hid (show some w.heap.size ≠ some R from fun e => by injection e with e; have := HRL.out; omega)
  obtain ⟨w0, hw0⟩ : ∃ w0, w.alloc (.cells #[.int .i64 0, .int .i64 0, .string ⟨#[]⟩, .string ⟨#[]⟩, .pointer none, .slice none 0 0] 74) = w0 := ⟨_, rfl⟩
  have HS0 := Lib.hid (show w.heap.size ≤ w0.heap.size by rw [← hw0]; simp)
  rw [hw0] at G0 X0 R0 ⊢
  clear hw0 HR
  refine (kind_node R (x :: r) w0 R0.out).mono ?_
  rintro e w1 ⟨rfl, r1, g1⟩
  have G1 := Lib.hid (G0.out.trans g1)
  have X1 := Lib.hid (X0.out.but g1 HNE.out)
  have R1 := Lib.hid r1
  have HS1 := Lib.hid (Nat.le_trans HS0.out g1.size)
  clear r1 g1 G0 X0 R0 HS0
  unfold ndV
  obtain ⟨o, ho⟩ : ∃ o, o = x.op := ⟨_, rfl⟩
  rw [← ho] at hb h4 h5 h6 ⊢
  clear ho
  have e1 : (o == 41) = false := beq_eq_false_iff_ne.2 fun e => hb (.inl e)
  have e2 : (o == 42) = false := beq_eq_false_iff_ne.2 fun e => hb (.inr (.inl e))
  have e3 : (o == 43) = false := beq_eq_false_iff_ne.2 fun e => hb (.inr (.inr (.inl e)))
  have e7 : (o == 48) = false := beq_eq_false_iff_ne.2 fun e => hb (.inr (.inr (.inr (.inl e))))
  have e8 : (o == 49) = false := beq_eq_false_iff_ne.2 fun e => hb (.inr (.inr (.inr (.inr e))))
  have e4 : (o == 44) = false := beq_eq_false_iff_ne.2 h4
  have e5 : (o == 45) = false := beq_eq_false_iff_ne.2 h5
  have e6 : (o == 46) = false := beq_eq_false_iff_ne.2 h6
  clear hb h4 h5 h6
  go_wp2_with fail
  exact ⟨rfl, by rw [HPP.out]; exact ⟨rfl, grown_trans (grown_trans G1.out (grown_of_below (below_box _ _) _)) (grown_of_below (below_box _ _) _)⟩⟩
end Go.Proofs.YtnolmlhcikcceaaGreatDoor
