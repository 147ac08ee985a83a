/-
  BagChain: the walk of the law.
-/
import Derived.Test.YtfbgaefbalbohaaDoorBagMk
import Derived.Test.YtfbgaefbalbohaaDoorTold
namespace Go.Proofs.YtfbgaefbalbohaaDoor
open Go.RowKit Go.Wk Go.Sort
set_option maxRecDepth 100000

theorem chain_factE : bothE oneSet [setHead 0] = 0 := by decide +kernel
theorem chain_factV : allV oneSet [setHead 0] = true := by decide +kernel
theorem chain_fact (w : World) : Hid (Calls Tryd.prog 19 #[.slice (some ⟨w.heap.size, 0, none⟩) 2 2, .slice (some ⟨w.heap.size + 1, 0, none⟩) 1 1] ((w.alloc (.cells #[.int .i64 5, .int .i64 1, .string ⟨#[]⟩, .string ⟨#[]⟩, .int .i64 2, .int .i64 5, .string ⟨#[]⟩, .string ⟨#[]⟩] 45)).alloc (.cells #[.int .i64 5, .int .i64 0, .string ⟨#[]⟩, .string ⟨#[]⟩] 45))
    fun e w' => e = .returned (.tuple #[.bool true, .nilIface]) ∧ Below w.heap.size w w') := by
  have n1 := ns_one w
  have n2 := ns_no (w.alloc (.cells #[.int .i64 5, .int .i64 1, .string ⟨#[]⟩, .string ⟨#[]⟩, .int .i64 2, .int .i64 5, .string ⟨#[]⟩, .string ⟨#[]⟩] 45))
  have hs : (w.alloc (.cells #[.int .i64 5, .int .i64 1, .string ⟨#[]⟩, .string ⟨#[]⟩, .int .i64 2, .int .i64 5, .string ⟨#[]⟩, .string ⟨#[]⟩] 45)).heap.size = w.heap.size + 1 := by simp
  rw [hs] at n2
  have := (n1.keep (below_box _ _)).all n2
  rw [chain_factE, chain_factV, errV_zero] at this
  exact Lib.hid (this.mono fun e w' ⟨h1, h2⟩ => ⟨h1, (((Below.refl _ _).alloc (Nat.le_refl _) _).alloc (by simp) _).trans (h2.mono (by simp; omega))⟩)

section
variable (A1 : Option Addr) (n1 c1 : Nat) (S : List Nd) (A2 : Option Addr) (n2 c2 : Nat) (T : List Nd) (A3 : Option Addr) (n3 c3 : Nat) (U : List Nd) (w : World) (hs : Ns w A1 n1 c1 S) (ht : Ns w A2 n2 c2 T) (hu : Ns w A3 n3 c3 U)
include hs ht hu
set_option maxHeartbeats 4000000 in
theorem BagChain_bad (h : bothE S T ≠ 0 ∨ bothE T U ≠ 0) :
    Calls Tryd.prog 6 #[.slice A1 n1 c1, .slice A2 n2 c2, .slice A3 n3 c3] w fun e w' => e = .returned (.bool true) ∧ Below w.heap.size w w' := by
  have F := chain_fact w
  have C1 := Lib.hid (fun w' hb => (hs.keep (w' := w') hb).all (ht.keep hb))
  have C2 := Lib.hid (fun w' hb => (ht.keep (w' := w') hb).all (hu.keep hb))
  have C3 := Lib.hid (fun w' hb => (hs.keep (w' := w') hb).all (hu.keep hb))
  generalize allV S T = x1 at *
  generalize allV T U = x2 at *
  generalize allV S U = x3 at *
  generalize bothE S U = y3 at *
  by_cases h1 : bothE S T = 0
  · have h2 : bothE T U ≠ 0 := h.resolve_left (fun q => q h1)
    rw [h1, errV_zero] at C1
    rw [errV_ne h2] at C2
    clear h h1 h2 hs ht hu
    go_enter Tryd.func6, Tryd.ntmps6
    go_wp2_with fail
    refine (F.out).mono ?_
    rintro e w1 ⟨rfl, b1⟩
    have B1 := Lib.hid b1
    clear b1
    go_wp2_with fail
    refine (C1.out _ B1.out).mono ?_
    rintro e w2 ⟨rfl, b2⟩
    have B2 := bh B1 b2
    clear b2 B1
    go_wp2_with fail
    refine (C2.out _ B2.out).mono ?_
    rintro e w3 ⟨rfl, b3⟩
    have B3 := bh B2 b3
    clear b3 B2
    go_wp2_with fail
    refine (C3.out _ B3.out).mono ?_
    rintro e w4 ⟨rfl, b4⟩
    have B4 := bh B3 b4
    clear b4 B3
    go_wp2_with fail
    go_ret
    exact ⟨rfl, B4.out⟩
  · rw [errV_ne h1] at C1
    generalize bothE T U = y2 at *
    clear h h1 hs ht hu
    go_enter Tryd.func6, Tryd.ntmps6
    go_wp2_with fail
    refine (F.out).mono ?_
    rintro e w1 ⟨rfl, b1⟩
    have B1 := Lib.hid b1
    clear b1
    go_wp2_with fail
    refine (C1.out _ B1.out).mono ?_
    rintro e w2 ⟨rfl, b2⟩
    have B2 := bh B1 b2
    clear b2 B1
    go_wp2_with fail
    refine (C2.out _ B2.out).mono ?_
    rintro e w3 ⟨rfl, b3⟩
    have B3 := bh B2 b3
    clear b3 B2
    go_wp2_with fail
    refine (C3.out _ B3.out).mono ?_
    rintro e w4 ⟨rfl, b4⟩
    have B4 := bh B3 b4
    clear b4 B3
    go_wp2_with fail
    go_ret
    exact ⟨rfl, B4.out⟩
set_option maxHeartbeats 8000000 in
theorem BagChain_ok (hg : Door w) (h1 : bothE S T = 0) (h2 : bothE T U = 0) :
    Calls Tryd.prog 6 #[.slice A1 n1 c1, .slice A2 n2 c2, .slice A3 n3 c3] w fun e w' => e = .returned (.bool true) ∧ Below w.heap.size w w' := by
  have h3 : bothE S U = 0 := by
    obtain ⟨a, b, c, d⟩ := bothE_zero.1 h1
    obtain ⟨a', b', c', d'⟩ := bothE_zero.1 h2
    exact bothE_zero.2 ⟨a, b', c, d'⟩
  have F := chain_fact w
  have C1 := Lib.hid (fun w' hb => (hs.keep (w' := w') hb).all (ht.keep hb))
  have C2 := Lib.hid (fun w' hb => (ht.keep (w' := w') hb).all (hu.keep hb))
  have C3 := Lib.hid (fun w' hb => (hs.keep (w' := w') hb).all (hu.keep hb))
  have C4 := Lib.hid (fun w' hb => (ht.keep (w' := w') hb).union (hu.keep hb))
  have HS := Lib.hid hs
  have HC := Lib.hid (fun a b => chain_all h1 h2 h3 a b)
  have HX := Lib.hid (fun hf => chain_union h1 h3 (T := T) (U := U) hf)
  rw [h1, errV_zero] at C1
  rw [h2, errV_zero] at C2
  rw [h3, errV_zero] at C3
  unfold OpPost at C4
  rw [opE_ok h2, opV_ok h2] at C4
  have hw := setE_ways (unionL_faults h2)
  generalize allV S T = x1 at *
  generalize allV T U = x2 at *
  generalize allV S U = x3 at *
  clear h1 h2 h3 hs ht hu
  have hx : ¬ (x1 = true ∧ x2 = true ∧ x3 = false) := by
    rintro ⟨a, b, c⟩
    have := HC.out a b
    rw [c] at this; cases this
  clear HC
  rcases hw with hw | hw
  · obtain ⟨g1, g2⟩ := HX.out hw
    rw [hw, errV_zero] at C4
    clear HX hw
    generalize Wk.setV (unionL T U) = X at *
    have C5 := Lib.hid (fun w' A n c hb (hk : Ns w' A n c X) => (HS.out.keep (w' := w') hb).all hk)
    rw [g1, g2, errV_zero] at C5
    clear g1 g2 HS
    cases x1 <;> cases x2 <;> cases x3
    all_goals first
      | exact absurd ⟨rfl, rfl, rfl⟩ hx
      | (clear hx
         go_enter Tryd.func6, Tryd.ntmps6
         go_wp2_with fail
         refine (F.out).mono ?_
         rintro e w1 ⟨rfl, b1⟩
         have B1 := Lib.hid b1
         clear b1
         go_wp2_with fail
         refine (C1.out _ B1.out).mono ?_
         rintro e w2 ⟨rfl, b2⟩
         have B2 := bh B1 b2
         clear b2 B1
         go_wp2_with fail
         refine (C2.out _ B2.out).mono ?_
         rintro e w3 ⟨rfl, b3⟩
         have B3 := bh B2 b3
         clear b3 B2
         go_wp2_with fail
         refine (C3.out _ B3.out).mono ?_
         rintro e w4 ⟨rfl, b4⟩
         have B4 := bh B3 b4
         clear b4 B3
         go_wp2_with fail
         refine (C4.out _ B4.out).mono ?_
         rintro e w5 ⟨A5, n5, c5, rfl, N5, b5⟩
         have B5 := bh B4 b5
         have H5 := Lib.hid N5
         clear b5 B4 N5
         go_wp2_with fail
         refine (C5.out _ _ _ _ B5.out H5.out).mono ?_
         rintro e w6 ⟨rfl, b6⟩
         have B6 := bh B5 b6
         clear b6 B5
         go_wp2_with fail
         go_ret
         exact ⟨rfl, B6.out⟩)
  · rw [hw] at C4
    clear HX hw HS
    cases x1 <;> cases x2 <;> cases x3
    all_goals first
      | exact absurd ⟨rfl, rfl, rfl⟩ hx
      | (clear hx
         go_enter Tryd.func6, Tryd.ntmps6
         go_wp2_with fail
         refine (F.out).mono ?_
         rintro e w1 ⟨rfl, b1⟩
         have B1 := Lib.hid b1
         clear b1
         go_wp2_with fail
         refine (C1.out _ B1.out).mono ?_
         rintro e w2 ⟨rfl, b2⟩
         have B2 := bh B1 b2
         clear b2 B1
         go_wp2_with fail
         refine (C2.out _ B2.out).mono ?_
         rintro e w3 ⟨rfl, b3⟩
         have B3 := bh B2 b3
         clear b3 B2
         go_wp2_with fail
         refine (C3.out _ B3.out).mono ?_
         rintro e w4 ⟨rfl, b4⟩
         have B4 := bh B3 b4
         clear b4 B3
         go_wp2_with fail
         refine (C4.out _ B4.out).mono ?_
         rintro e w5 ⟨A5, n5, c5, rfl, N5, b5⟩
         have B5 := bh B4 b5
         have G5 := Lib.hid (hg.keep B5.out)
         clear b5 B4 N5
         have K := Lib.hid (same_Error 4 4 w5 G5.out)
         have E4 : errV 4 = .iface 32 (.int .i64 4) := rfl
         rw [E4] at K ⊢
         clear E4
         go_wp2_with fail
         refine (K.out).mono ?_
         rintro e w6 ⟨rfl, b6⟩
         have B6 := bh B5 b6
         clear b6 B5
         go_wp2_with fail
         go_ret
         exact ⟨rfl, B6.out⟩)
end
theorem BagChain_walk (A1 : Option Addr) (n1 c1 : Nat) (S : List Nd) (A2 : Option Addr) (n2 c2 : Nat) (T : List Nd) (A3 : Option Addr) (n3 c3 : Nat) (U : List Nd) (w : World) (hs : Ns w A1 n1 c1 S) (ht : Ns w A2 n2 c2 T) (hu : Ns w A3 n3 c3 U) (hg : Door w) :
    Calls Tryd.prog 6 #[.slice A1 n1 c1, .slice A2 n2 c2, .slice A3 n3 c3] w fun e w' => e = .returned (.bool true) ∧ Below w.heap.size w w' := by
  by_cases h1 : bothE S T = 0
  · by_cases h2 : bothE T U = 0
    · exact BagChain_ok A1 n1 c1 S A2 n2 c2 T A3 n3 c3 U w hs ht hu hg h1 h2
    · exact BagChain_bad A1 n1 c1 S A2 n2 c2 T A3 n3 c3 U w hs ht hu (.inr h2)
  · exact BagChain_bad A1 n1 c1 S A2 n2 c2 T A3 n3 c3 U w hs ht hu (.inl h1)
end Go.Proofs.YtfbgaefbalbohaaDoor
