/-
  kinds.first: the first error of two.
-/
import Derived.Test.YtocchkmhnneiiaaKindBx
namespace Go.Proofs.Ytocchkmhnneiiaa
open Go.RowKit Go.Wk Go.Sort
set_option maxRecDepth 100000

/-- Two errors beside each other. -/
theorem kind_first (n m : Int) (ad : Addr) (w : World) (h0 : w.cell? ad = some (errV n)) (h1 : w.cell? ⟨ad.block, ad.off + 1, none⟩ = some (errV m)) :
    Calls Try.prog 20 #[.slice (some ad) 2 2] w fun e w' => e = .returned (errV (if n = 0 then m else n)) ∧ Below w.heap.size w w' := by
  obtain ⟨f, hf⟩ : ∃ f : Int, f = if n = 0 then m else n := ⟨_, rfl⟩
  rw [← hf]
  have HF := Lib.hid hf
  clear hf
  have H0 := Lib.hid h0
  have H1 := Lib.hid h1
  clear h0 h1
  go_enter Try.func20, Try.ntmps20
  go_wp2_with fail
  go_loopw [4, 7] (fun _ i wr => wr = w ∧ ((i = .int .i64 0) ∨ (i = .int .i64 1 ∧ n = 0) ∨ (i = .int .i64 2 ∧ n = 0 ∧ m = 0))) (fun _ i _ => 2 - (intOf i).toNat)
  case atStart => exact ⟨rfl, .inl rfl⟩
  case round =>
    obtain ⟨rfl, hrel⟩ := hrel
    rcases hrel with rfl | ⟨rfl, hn⟩ | ⟨rfl, hn, hm⟩
    · have h0 := H0.out
      by_cases hn : n = 0
      · have HN := Lib.hid hn
        rw [hn, errV_zero] at h0
        clear hn
        go_wp2_with fail
        go_roundw
        case rel => exact ⟨trivial, .inr (.inl ⟨rfl, HN.out⟩)⟩
        case measure => simp [intOf]
      · have HN := Lib.hid hn
        rw [errV_ne hn] at h0
        clear hn
        go_wp2_with fail
        go_ret
        exact ⟨by rw [HF.out, if_neg HN.out, errV_ne HN.out]; rfl, Below.refl _ _⟩
    · have h1 := H1.out
      have HN := Lib.hid hn
      clear hn
      by_cases hm : m = 0
      · have HM := Lib.hid hm
        rw [hm, errV_zero] at h1
        clear hm
        go_wp2_with fail
        go_roundw
        case rel => exact ⟨trivial, .inr (.inr ⟨rfl, HN.out, HM.out⟩)⟩
        case measure => simp [intOf]
      · have HM := Lib.hid hm
        rw [errV_ne hm] at h1
        clear hm
        go_wp2_with fail
        go_ret
        exact ⟨by rw [HF.out, if_pos HN.out, errV_ne HM.out]; rfl, Below.refl _ _⟩
    · have HN := Lib.hid hn
      have HM := Lib.hid hm
      clear hn hm
      go_wp2_with fail
      go_ret
      exact ⟨by rw [HF.out, if_pos HN.out, HM.out]; rfl, Below.refl _ _⟩
end Go.Proofs.Ytocchkmhnneiiaa
