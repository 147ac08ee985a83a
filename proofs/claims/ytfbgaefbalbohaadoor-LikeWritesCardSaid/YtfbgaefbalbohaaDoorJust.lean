/-
  The contract of like.Just; the variable of the library's own that strings.ReplaceAll reads.
-/
import Derived.Test.YtfbgaefbalbohaaDoorLike
import Derived.Test.YtfbgaefbalbohaaDoorEscLaw
import Derived.Test.YtfbgaefbalbohaaDoorShRep
import Derived.Shelf.Vars
namespace Go.Proofs.YtfbgaefbalbohaaDoor
open Go.RowKit Go.Wk

/-- internal/bytealg.MaxLen holds some number. -/
def Max (w : World) : Prop := ∃ m : Int, w.cell? ⟨1, 0, none⟩ = some (.int .i64 m)
theorem Max.keep {w w' : World} (h : Max w) (hb : Below w.heap.size w w') : Max w' := let ⟨m, hm⟩ := h; ⟨m, cell_keep hb hm⟩
theorem max_of_shaped {w : World} (h : w.ShapedOpen Tryd.prog) : Max w :=
  cell_of_shapedOpen_int (t := 3) (zero := #[.int .i64 0]) h (of_decide_eq_true (by kernel_rfl)) (by kernel_rfl) rfl (by kernel_rfl) (by kernel_rfl) Tryd.underlying3

/-- What like.Just tells. -/
def justE (s : ByteArray) : Int := if textFault s = 0 then (if 60 < (esc s.data.toList).length then 4 else 0) else textFault s
def justV (s : ByteArray) : ByteArray := if justE s = 0 then ⟨(esc s.data.toList).toArray⟩ else ⟨#[]⟩

set_option maxHeartbeats 1000000 in
theorem like_Just (s : ByteArray) (w : World) (hs : s.size ≤ maxLen) (hm : Max w) :
    Calls Tryd.prog 28 #[.string s] w fun e w' => e = .returned (.tuple #[.string (justV s), errV (justE s)]) ∧ Below w.heap.size w w' := by
  have P1 := Lib.hid (fun w => name_Plain s w hs)
  by_cases h1 : textFault s = 0
  · have z := textFault_zero h1
    have R := Lib.hid (fun w (h : Max w) => (show Calls Tryd.prog 57 #[.string s, .string ⟨#[42]⟩, .string ⟨#[92, 42]⟩] w fun e w' => e = .returned (.string ⟨(esc s.data.toList).toArray⟩) ∧ Below w.heap.size w w' by
      obtain ⟨m, hm⟩ := h
      have hc : Lib.countB s ⟨#[42]⟩ ≤ s.size := by
        show Lib.count s.data.toList [42] ≤ s.size
        rw [Lib.count_one]
        have := List.count_le_length (a := (42 : UInt8)) (l := s.data.toList)
        rwa [show s.data.toList.length = s.size from Array.length_toList] at this
      have := Tryd.strings_ReplaceAll s ⟨#[42]⟩ ⟨#[92, 42]⟩ m w (by omega) hm (by decide) (by
        have : Lib.countB s ⟨#[42]⟩ * (⟨#[92, 42]⟩ : ByteArray).size = Lib.countB s ⟨#[42]⟩ * 2 := rfl
        rw [this]; omega)
      rw [show (⟨#[42]⟩ : ByteArray).data.toList = [42] from rfl, show (⟨#[92, 42]⟩ : ByteArray).data.toList = [92, 42] from rfl, replaceAll_esc] at this
      exact this))
    rw [h1] at P1
    have hl : (⟨(esc s.data.toList).toArray⟩ : ByteArray).size = (esc s.data.toList).length := by simp [ByteArray.size]
    have HL := Lib.hid hl
    have hn : (esc s.data.toList).length ≤ 9223372036854775807 := by
      rw [esc_length]
      have := List.count_le_length (a := (42 : UInt8)) (l := s.data.toList)
      rw [show s.data.toList.length = s.size from Array.length_toList] at *
      omega
    by_cases h60 : 60 < (esc s.data.toList).length
    · have hE : justE s = 4 := by unfold justE; rw [if_pos h1, if_pos h60]
      have hV : justV s = ⟨#[]⟩ := by unfold justV; rw [hE]; rfl
      rw [hE, hV]
      clear h1 hE hV
      generalize (⟨(esc s.data.toList).toArray⟩ : ByteArray) = r at *
      rw [← hl] at h60 hn
      clear hl
      go_enter Tryd.func28, Tryd.ntmps28
      go_wp2_with fail
      refine (P1.out _).mono ?_
      rintro e w1 ⟨rfl, hb1⟩
      have m1 := hm.keep hb1
      rw [errV_zero]
      go_wp2_with fail
      refine (R.out _ m1).mono ?_
      rintro e w2 ⟨rfl, hb2⟩
      go_wp2
      go_ret2
      exact ⟨rfl, hb1.trans (hb2.mono hb1.size)⟩
    · have hE : justE s = 0 := by unfold justE; rw [if_pos h1, if_neg h60]
      have hV : justV s = ⟨(esc s.data.toList).toArray⟩ := by unfold justV; rw [hE]; rfl
      rw [hE, hV]
      clear h1 hE hV
      generalize (⟨(esc s.data.toList).toArray⟩ : ByteArray) = r at *
      rw [← hl] at h60 hn
      clear hl
      go_enter Tryd.func28, Tryd.ntmps28
      go_wp2_with fail
      refine (P1.out _).mono ?_
      rintro e w1 ⟨rfl, hb1⟩
      have m1 := hm.keep hb1
      rw [errV_zero]
      go_wp2_with fail
      refine (R.out _ m1).mono ?_
      rintro e w2 ⟨rfl, hb2⟩
      go_wp2
      go_ret2
      exact ⟨rfl, hb1.trans (hb2.mono hb1.size)⟩
  · have hE : justE s = textFault s := by unfold justE; rw [if_neg h1]
    have hV : justV s = ⟨#[]⟩ := by unfold justV; rw [hE, if_neg h1]
    rw [errV_ne h1] at P1
    rw [hE, hV, errV_ne h1]
    clear h1 hE hV
    go_enter Tryd.func28, Tryd.ntmps28
    go_wp2_with fail
    refine (P1.out _).mono ?_
    rintro e w1 ⟨rfl, hb1⟩
    go_wp2
    go_ret2
    exact ⟨rfl, hb1⟩
end Go.Proofs.YtfbgaefbalbohaaDoor
