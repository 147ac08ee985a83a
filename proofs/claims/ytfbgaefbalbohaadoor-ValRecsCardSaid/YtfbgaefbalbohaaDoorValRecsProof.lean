/-
  ValRecs: the frame round the walk: for every input the law returns true, and each argument reads behind the call as it read before. No condition.
-/
import Derived.Test.YtfbgaefbalbohaaDoorValRecs
import Derived.Test.YtfbgaefbalbohaaDoorRd
import Derived.Test.YtfbgaefbalbohaaDoorTie
import Derived.Test.YtfbgaefbalbohaaDoorCards
import Derived.Test.YtfbgaefbalbohaaDoorDoor
import Derived.SevenTiedAt
namespace Go.Proofs.YtfbgaefbalbohaaDoor
open Go Go.ChangeShapes Go.WideShapes Go.ChangeAt Go.RowKit Go.Wk
open Go.ChangeMaps (open_string)

set_option maxRecDepth 100000 in
theorem ValRecs_lifted (os : Os) (started : os.Started) (H : Type) (enc : TypeId × Value → H) :
    ReturnsInHanded {} Tryd.checked os 5 .any (fun w args => (Rows.valRecsSpec.pre enc Tryd.prog Tryd.f5 [] false w args ∧ laidMetH Tryd.prog laidList w) ∧ sizedMet enc Tryd.prog Tryd.f5 (OpenSpec.ofChange Rows.valRecsSpec) false w args) (Rows.valRecsSpec.post enc Tryd.prog Tryd.f5 false true false false) := by
  refine returnsInHanded_of_change_and (C := Tryd.checked) (X := fun w _ => laidMetH Tryd.prog laidList w) (fun _ _ _ hh h => h.of_heap hh) own started (by kernel_rfl) Tryd.func5
    (ChangeSpec.witness_at (enc := enc) (C := Tryd.checked) (os := os) (X := fun w _ => laidMetH Tryd.prog laidList w) false (laidWorld os) #[.slice none 0 0, .slice none 0 0] 8 rfl (by kernel_rfl) (by kernel_rfl) (by kernel_rfl) (by kernel_rfl) (by kernel_rfl) (laidWorld_met os _)) ?_
  intro W base args ds gs before hval0 hW _ hsz hL _
  have hg := handle_of_laid hL
  have hval : ∀ (j : Nat) t v, Tryd.f5.params[j]? = some t → args[j]? = some v → Value.okWide Tryd.prog W .any base t v := hval0
  have hW0 := hW
  obtain ⟨p, q, hA0, _, _, _, _⟩ := hW
  have hA : DataW.TrodAll enc Tryd.prog W 0 (fun _ => true) true Tryd.f5.params.toList args.toList ds p := hA0
  rw [Tryd.params5] at hA hval hsz
  clear hA0 hval0
  obtain ⟨v0, vs0, d0, ds0, p0, q0, hargs, rfl, rfl, h0, r0⟩ := trodAll_cons hA
  obtain ⟨v1, vs1, d1, ds1, p1, q1, rfl, rfl, rfl, h1, r1⟩ := trodAll_cons r0
  obtain ⟨rfl, rfl, rfl⟩ := trodAll_nil r1
  obtain ⟨args⟩ := args
  simp only at hargs
  subst hargs
  obtain ⟨A0, n0, c0, N0, rfl, sx0, tx0, zx0, lx0⟩ := open_strs (hval 0 40 v0 rfl rfl) h0
  have ux0 : n0 ≤ 5864062014634 * 2 := by
    have := reach_len hsz (j := 0) rfl rfl Tryd.underlying40 lx0 bytes_string
    omega
  obtain ⟨A1, n1, c1, V1, rfl, sx1, tx1, lx1⟩ := open_sls (hval 1 30 v1 rfl rfl) h1
  have ux1 : n1 ≤ 5864062014634 := by
    have := reach_len hsz (j := 1) rfl rfl Tryd.underlying30 lx1 bytes_nodes
    omega
  refine (ValRecs_walk A0 n0 c0 N0 A1 n1 c1 V1 W sx0 ux0 tx0 zx0 sx1 ux1 tx1 hg).mono fun e W' ⟨he, hb'⟩ => ?_
  subst he
  refine ⟨_, rfl, law_post laidOut (by kernel_rfl) (by rfl) Tryd.underlying4 rfl ?_ hW0 hb'⟩
  intro ds hlen
  rw [Tryd.params5] at hlen
  match ds, hlen with
  | [e0, e1], _ => rfl

theorem ValRecs_over : Rows.valRecsRow.holds Tryd.pinned (OpenSpec.ofChange Rows.valRecsSpec) :=
  OpenClaim.holds_of_wide 5 Tryd.f5 rfl rfl rfl rfl rfl rfl rfl ⟨rfl, rfl, rfl, rfl, rfl⟩ rfl rfl rfl rfl rfl (by kernel_rfl) Tryd.func5 (by kernel_rfl)
    (of_decide_eq_true (by kernel_rfl)) (by unfold Func.isWrapper; rw [if_neg (by decide +kernel)]; exact ⟨rfl, rfl⟩)
    (fun os started H enc _ => ValRecs_lifted os started H enc)

theorem ValRecs_holds : Rows.ValRecsCardSaid :=
  Claim7.holds_tied_plain_at .later [] [.handle] true Rows.valRecsCard.stood.harness true
    ValRecs_over (fun _ h => by cases h) (by kernel_rfl) (fun _ h => by cases h) valRecs_row_tie rfl ⟨rfl, rfl⟩ (by kernel_rfl) rfl
    (fun f fn hf hfn => by
      obtain rfl : f = 5 := Option.some.inj ((show Tryd.prog.funcNamed Rows.valRecsRow.func = some 5 by kernel_rfl).symm.trans hf) |>.symm
      obtain rfl : fn = Tryd.f5 := (Option.some.inj (Tryd.func5.symm.trans hfn)).symm
      exact ⟨by kernel_rfl, fun j t ht => by
        rw [Tryd.params5] at ht
        have hm := Array.mem_of_getElem? ht
        simp only [List.mem_toArray, List.mem_cons, List.not_mem_nil, or_false] at hm
        rcases hm with rfl | rfl
        all_goals exact (show Tryd.prog.wantsStandIn _ = false by kernel_rfl)⟩)
    (by kernel_rfl)
#print axioms ValRecs_holds
end Go.Proofs.YtfbgaefbalbohaaDoor
