/-
  The fact of two entities: one is above the other.
-/
import Derived.Test.YtbjbimabgfpdoaaGreatEntIn
namespace Go.Proofs.YtbjbimabgfpdoaaGreat
open Go.RowKit Go.Wk Go.Maps
set_option maxRecDepth 100000

abbrev bA : ByteArray := ⟨#[65]⟩
abbrev ba : ByteArray := ⟨#[97]⟩
abbrev bb : ByteArray := ⟨#[98]⟩
/-- The entity of the fact, whose parts lie from block n on. -/
def factE (n : Nat) : En := ⟨(bA, ba), some ⟨n, 0, none⟩, 1, 1, [(bA, bb)], some ⟨n + 1, 0, none⟩, 1, 1, [⟨6, 0, ⟨#[]⟩, ⟨#[]⟩⟩]⟩
def factW (w : World) : World := ((w.alloc (.cells #[.string bA, .string bb] 24)).alloc (.cells #[.int .i64 6, .int .i64 0, .string ⟨#[]⟩, .string ⟨#[]⟩] 42)).alloc
  (.cells #[.string bA, .string ba, .slice (some ⟨w.heap.size, 0, none⟩) 1 1, .slice (some ⟨w.heap.size + 1, 0, none⟩) 1 1] 33)
theorem below_factW (w : World) : Below w.heap.size w (factW w) := by
  unfold factW
  exact (((Below.refl _ _).alloc (Nat.le_refl _) _).alloc (by simp) _).alloc (by simp; omega) _
theorem one_at {α : Type} {x y : α} {k : Nat} (h : [x][k]? = some y) : k = 0 ∧ y = x := by
  cases k with
  | zero => simp at h; exact ⟨rfl, h.symm⟩
  | succ k => simp at h
theorem fact_Es (w : World) : Es (factW w) (some ⟨w.heap.size + 1 + 1, 0, none⟩) 1 1 [factE w.heap.size] := by
  unfold factW
  obtain ⟨w1, hw1⟩ : ∃ w1, w.alloc (.cells #[.string bA, .string bb] 24) = w1 := ⟨_, rfl⟩
  have e1 : w1.heap.size = w.heap.size + 1 := by rw [← hw1]; simp
  have P1 := vr2_new w (.string bA) (.string bb) 24
  rw [hw1] at P1 ⊢
  clear hw1
  generalize w.heap.size = n at *
  obtain ⟨w2, hw2⟩ : ∃ w2, w1.alloc (.cells #[.int .i64 6, .int .i64 0, .string ⟨#[]⟩, .string ⟨#[]⟩] 42) = w2 := ⟨_, rfl⟩
  have e2 : w2.heap.size = n + 1 + 1 := by rw [← hw2, ← e1]; simp
  have P2 := P1.keep (below_box w1 (.cells #[.int .i64 6, .int .i64 0, .string ⟨#[]⟩, .string ⟨#[]⟩] 42))
  have q0 : w2.cell? ⟨w1.heap.size, 0, none⟩ = some (.int .i64 6) := by rw [← hw2]; exact cell_row (heap_alloc_last w1 _) rfl
  have q1 : w2.cell? ⟨w1.heap.size, 1, none⟩ = some (.int .i64 0) := by rw [← hw2]; exact cell_row (heap_alloc_last w1 _) rfl
  have q2 : w2.cell? ⟨w1.heap.size, 2, none⟩ = some (.string ⟨#[]⟩) := by rw [← hw2]; exact cell_row (heap_alloc_last w1 _) rfl
  have q3 : w2.cell? ⟨w1.heap.size, 3, none⟩ = some (.string ⟨#[]⟩) := by rw [← hw2]; exact cell_row (heap_alloc_last w1 _) rfl
  rw [hw2] at P2 ⊢
  rw [e1] at q0 q1 q2 q3
  clear hw2 P1
  have hb := below_box w2 (.cells #[.string bA, .string ba, .slice (some ⟨n, 0, none⟩) 1 1, .slice (some ⟨n + 1, 0, none⟩) 1 1] 33)
  have V := vr4_new w2 (factE n) 33
  have V' : Vr4 (w2.alloc (.cells #[.string bA, .string ba, .slice (some ⟨n, 0, none⟩) 1 1, .slice (some ⟨n + 1, 0, none⟩) 1 1] 33)) w2.heap.size (factE n) := V
  generalize w2.alloc (.cells #[.string bA, .string ba, .slice (some ⟨n, 0, none⟩) 1 1, .slice (some ⟨n + 1, 0, none⟩) 1 1] 33) = w3 at *
  rw [e2] at V'
  have P3 := P2.keep hb
  refine ⟨rfl, Nat.le_refl _, by decide, fun k x hx => ?_⟩
  obtain ⟨rfl, rfl⟩ := one_at hx
  refine ⟨_, rfl, V'.c0, V'.c1, V'.c2, V'.c3, (by show bA.size ≤ maxLen; decide), (by show ba.size ≤ maxLen; decide), ⟨rfl, Nat.le_refl _, (by show 1 ≤ maxLen; decide), fun k x hx => ?_, fun x hx => ?_⟩, ⟨rfl, Nat.le_refl _, (by show 1 ≤ maxLen; decide), fun k x hx => ?_, fun x hx => ?_⟩⟩
  · obtain ⟨rfl, rfl⟩ := one_at hx
    exact ⟨_, rfl, P3.c0, P3.c1⟩
  · have : x = (bA, bb) := by simpa [factE] using hx
    subst this; decide
  · obtain ⟨rfl, rfl⟩ := one_at hx
    exact ⟨_, rfl, cell_keep hb q0, cell_keep hb q1, cell_keep hb q2, cell_keep hb q3⟩
  · have : x = ⟨6, 0, ⟨#[]⟩, ⟨#[]⟩⟩ := by simpa [factE] using hx
    subst this; exact ⟨by decide, by decide, by decide, by decide⟩
theorem fact_no (n : Nat) (p q : Ud) (h : Abv (graphE [factE n]) p q) : p = (bA, ba) ∧ q = (bA, bb) := by
  have hs : ∀ p q, Stp (graphE [factE n]) p q → p = (bA, ba) ∧ q = (bA, bb) := fun p q ⟨e, he, h1, h2⟩ => by
    have : e = ((bA, ba), [(bA, bb)]) := by simpa [graphE, factE] using he
    subst this
    exact ⟨h1.symm, by simpa using h2⟩
  induction h with
  | one s => exact hs _ _ s
  | more s _ ih => 
    have h1 := (hs _ _ s).2
    have h2 := ih.1
    rw [h1] at h2
    exact absurd h2 (by decide)
theorem fact_store (n : Nat) : storeF [factE n] = 0 := by
  have h1 : uidFault (bA, ba) = 0 := by decide +kernel
  have h2 : upsFault [] [(bA, bb)] = 0 := by decide +kernel
  have h3 : valFault [⟨6, 0, ⟨#[]⟩, ⟨#[]⟩⟩] = 0 := by decide +kernel
  have h4 : entF (factE n) = 0 := by
    unfold entF
    have : (factE n).ups = [(bA, bb)] := rfl
    rw [this, h2]
    have : (factE n).P = [⟨6, 0, ⟨#[]⟩, ⟨#[]⟩⟩] := rfl
    rw [this, h3]
    rfl
  have h5 : entsFault [] [factE n] = 0 := by
    unfold entsFault
    have : (factE n).u = (bA, ba) := rfl
    rw [this, h1, h4]
    rfl
  unfold storeF
  rw [if_neg (by simp), if_pos h5, if_neg]
  rintro ⟨x, hx, h⟩
  have := fact_no n _ _ h
  exact absurd (this.1.symm.trans this.2) (by decide)
theorem fact_in (n : Nat) : inB [factE n] (bA, ba) (bA, bb) = true :=
  inB_true (fact_store n) (.inr (.one ⟨((bA, ba), [(bA, bb)]), by simp [graphE, factE], rfl, by simp⟩))
set_option maxHeartbeats 4000000 in
theorem law_above (w : World) : Calls Tryz.prog 5 #[] w fun e w' => e = .returned (.bool true) ∧ Below w.heap.size w w' := by
  go_enter Tryz.func5, Tryz.ntmps5
  go_wp2_with fail
  obtain ⟨w0, hw0⟩ : ∃ w0, (w.alloc (.cells #[.string ⟨#[65]⟩, .string ⟨#[97]⟩] 24)).alloc (.cells #[.string ⟨#[65]⟩, .string ⟨#[98]⟩] 24) = w0 := ⟨_, rfl⟩
  have hs : w0.heap.size = w.heap.size + 1 + 1 := by rw [← hw0]; simp
  have B0 := Lib.hid (show Below w.heap.size w w0 by rw [← hw0]; exact ((Below.refl _ _).alloc (Nat.le_refl _) _).alloc (by simp) _)
  rw [hw0, ← hs]
  clear hw0 hs
  have BF := Lib.hid (B0.out.trans ((below_factW w0).mono B0.out.size))
  have K := Lib.hid (ent_In _ 1 1 [factE w0.heap.size] (bA, ba) (bA, bb) (factW w0) (fact_Es w0) ⟨by decide, by decide⟩ ⟨by decide, by decide⟩)
  rw [fact_in, fact_store, errV_zero] at K
  refine K.out.mono ?_
  rintro e w1 ⟨rfl, b1⟩
  have B1 := bh BF b1
  clear K b1 BF B0
  go_wp2_with fail
  go_ret
  exact ⟨rfl, B1.out⟩
end Go.Proofs.YtbjbimabgfpdoaaGreat
