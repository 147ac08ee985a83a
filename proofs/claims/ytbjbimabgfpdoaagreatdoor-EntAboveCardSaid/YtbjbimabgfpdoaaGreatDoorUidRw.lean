/-
  name.Write, name.Read.
-/
import Derived.Test.YtbjbimabgfpdoaaGreatDoorQuote
import Derived.Test.YtbjbimabgfpdoaaGreatDoorUnquote
import Derived.Test.YtbjbimabgfpdoaaGreatDoorUidLaw
import Derived.Test.YtbjbimabgfpdoaaGreatDoorMax
import Derived.Test.YtbjbimabgfpdoaaGreatDoorShelf
namespace Go.Proofs.YtbjbimabgfpdoaaGreatDoor
open Go.RowKit Go.Wk
set_option maxRecDepth 100000

theorem two_cells (w : World) (x y : Value) (t : TypeId) : (w.alloc (.cells #[x, y] t)).cell? ⟨w.heap.size, 0, none⟩ = some x ∧ (w.alloc (.cells #[x, y] t)).cell? ⟨w.heap.size, 1, none⟩ = some y :=
  ⟨cell_row (heap_alloc_last w _) rfl, cell_row (heap_alloc_last w _) rfl⟩
set_option maxHeartbeats 1000000 in
theorem name_Write (a b : ByteArray) (w : World) (ha : a.size ≤ maxLen) (hb : b.size ≤ maxLen) :
    Calls Tryz.prog 25 #[.agg #[.string a, .string b]] w fun e w' => e = .returned (.tuple #[.string (wrtV (a, b)), errV (uidFault (a, b))]) ∧ Below w.heap.size w w' := by
  have KC := Lib.hid (fun w => name_Check a w ha)
  have KQ := Lib.hid (fun w => name_Quote b w hb)
  have CC := Lib.hid (two_cells w (.string a) (.string b) 30)
  have B0 := Lib.hid (below_box w (.cells #[.string a, .string b] 30))
  by_cases h1 : nameFault a = 0
  · have HE := Lib.hid (show uidFault (a, b) = textFault b from if_pos h1)
    rw [h1, errV_zero] at KC
    have hna := name_le h1
    by_cases h2 : textFault b = 0
    · have HV := Lib.hid (show wrtV (a, b) = wrt (a, b) from if_pos (uidFault_zero.2 ⟨h1, h2⟩))
      have hq := quo_length b.data.toList
      have htb := text_le h2
      have hqs : (Wk.quoted b).size ≤ 122 := by rw [quoted_size]; rw [size_toList] at hq; omega
      have HS := Lib.hid (wrt_sum (a, b))
      unfold quoV at KQ
      rw [h2, errV_zero, if_pos rfl] at KQ
      rw [HE.out, HV.out, h2, errV_zero]
      clear h1 h2 hq
      go_enter Tryz.func25, Tryz.ntmps25
      go_wp2_with fail
      obtain ⟨w0, hw0⟩ : ∃ w0, w.alloc (.cells #[.string a, .string b] 30) = w0 := ⟨_, rfl⟩
      rw [hw0] at CC B0 ⊢
      clear hw0
      refine (KC.out w0).mono ?_
      rintro e w1 ⟨rfl, b1⟩
      have B1 := bh B0 b1
      have c0 := cell_keep b1 CC.out.1
      have c1 := cell_keep b1 CC.out.2
      clear KC B0 CC
      go_wp2_with fail
      refine (KQ.out w1).mono ?_
      rintro e w2 ⟨rfl, b2⟩
      have B2 := bh B1 b2
      have d0 := cell_keep b2 c0
      have d1 := cell_keep b2 c1
      clear KQ B1 c0 c1 b1 b2
      generalize Wk.quoted b = q at *
      go_wp2_with fail
      go_ret2
      exact ⟨by rw [← HS.out]; rfl, B2.out⟩
    · have HV := Lib.hid (show wrtV (a, b) = ⟨#[]⟩ from if_neg (fun h => h2 (uidFault_zero.1 h).2))
      rw [errV_ne h2] at KQ
      rw [HE.out, HV.out, errV_ne h2]
      clear h1 h2
      go_enter Tryz.func25, Tryz.ntmps25
      go_wp2_with fail
      obtain ⟨w0, hw0⟩ : ∃ w0, w.alloc (.cells #[.string a, .string b] 30) = w0 := ⟨_, rfl⟩
      rw [hw0] at CC B0 ⊢
      clear hw0
      refine (KC.out w0).mono ?_
      rintro e w1 ⟨rfl, b1⟩
      have B1 := bh B0 b1
      have c0 := cell_keep b1 CC.out.1
      have c1 := cell_keep b1 CC.out.2
      clear KC B0 CC
      go_wp2_with fail
      refine (KQ.out w1).mono ?_
      rintro e w2 ⟨rfl, b2⟩
      have B2 := bh B1 b2
      clear KQ B1 c0 c1 b1 b2
      go_wp2_with fail
      go_ret2
      exact ⟨rfl, B2.out⟩
  · have HE := Lib.hid (show uidFault (a, b) = nameFault a from if_neg h1)
    have HV := Lib.hid (show wrtV (a, b) = ⟨#[]⟩ from if_neg (fun h => h1 (uidFault_zero.1 h).1))
    rw [errV_ne h1] at KC
    rw [HE.out, HV.out, errV_ne h1]
    clear h1
    go_enter Tryz.func25, Tryz.ntmps25
    go_wp2_with fail
    obtain ⟨w0, hw0⟩ : ∃ w0, w.alloc (.cells #[.string a, .string b] 30) = w0 := ⟨_, rfl⟩
    rw [hw0] at CC B0 ⊢
    clear hw0
    refine (KC.out w0).mono ?_
    rintro e w1 ⟨rfl, b1⟩
    have B1 := bh B0 b1
    clear KC B0 CC b1
    go_wp2_with fail
    go_ret2
    exact ⟨rfl, B1.out⟩

/-- A variable of two cells of the call's own. -/
structure Vr2 (w : World) (b : Nat) (x y : Value) : Prop where
  c0 : w.cell? ⟨b, 0, none⟩ = some x
  c1 : w.cell? ⟨b, 1, none⟩ = some y
  z0 : w.frozen? ⟨b, 0, none⟩ = false
  z1 : w.frozen? ⟨b, 1, none⟩ = false
theorem Vr2.keep {w w' : World} {b : Nat} {x y : Value} (h : Vr2 w b x y) (hb : Below w.heap.size w w') : Vr2 w' b x y :=
  have hl := block_lt_of_cell h.c0
  ⟨cell_keep hb h.c0, cell_keep hb h.c1, by rw [(bcell hb).2 b 0 hl]; exact h.z0, by rw [(bcell hb).2 b 1 hl]; exact h.z1⟩
theorem vr2_new (w : World) (x y : Value) (t : TypeId) : Vr2 (w.alloc (.cells #[x, y] t)) w.heap.size x y :=
  ⟨(two_cells w x y t).1, (two_cells w x y t).2, by simp, by simp⟩
theorem Vr2.set {w : World} {b : Nat} {x y : Value} (h : Vr2 w b x y) (x' y' : Value) : Vr2 ((w.setCell ⟨b, 0, none⟩ x').setCell ⟨b, 1, none⟩ y') b x' y' := by
  have h1 : (w.setCell ⟨b, 0, none⟩ x').cell? ⟨b, 1, none⟩ = some y := (World.cell?_setCell_other _ ⟨b, 0, none⟩ ⟨b, 1, none⟩ _ (by intro e; injection e with _ e; cases e)).trans h.c1
  refine ⟨(World.cell?_setCell_other _ ⟨b, 1, none⟩ ⟨b, 0, none⟩ _ (by intro e; injection e with _ e; cases e)).trans (World.cell?_setCell_same _ _ _ h.c0), World.cell?_setCell_same _ _ _ h1, ?_, ?_⟩
  · rw [World.frozen?_setCell, World.frozen?_setCell]; exact h.z0
  · rw [World.frozen?_setCell, World.frozen?_setCell]; exact h.z1
end Go.Proofs.YtbjbimabgfpdoaaGreatDoor
