/-
  EntAbove: the frame round the walk: for every input the law returns true, and each argument reads behind the call as it read before. No condition.
-/
import Derived.Test.YtbjbimabgfpdoaaGreatDoorEntAboveAll
import Derived.Test.YtbjbimabgfpdoaaGreatDoorRd
import Derived.Test.YtbjbimabgfpdoaaGreatDoorRdEnts
import Derived.Test.YtbjbimabgfpdoaaGreatDoorTie
import Derived.Test.YtbjbimabgfpdoaaGreatDoorCards
import Derived.Test.YtbjbimabgfpdoaaGreatDoorDoor
import Derived.SevenTiedAt
namespace Go.Proofs.YtbjbimabgfpdoaaGreatDoor
open Go Go.ChangeShapes Go.WideShapes Go.ChangeAt Go.RowKit Go.Wk
open Go.ChangeMaps (open_string)

set_option maxRecDepth 100000 in
theorem EntAbove_lifted (os : Os) (started : os.Started) (H : Type) (enc : TypeId × Value → H) :
    ReturnsInHanded {} Tryz.checked os 5 .any (fun w args => (Rows.entAboveSpec.pre enc Tryz.prog Tryz.f5 [] false w args ∧ laidMetH Tryz.prog laidList w) ∧ sizedMet enc Tryz.prog Tryz.f5 (OpenSpec.ofChange Rows.entAboveSpec) false w args) (Rows.entAboveSpec.post enc Tryz.prog Tryz.f5 false true false false) := by
  refine returnsInHanded_of_change_and (C := Tryz.checked) (X := fun w _ => laidMetH Tryz.prog laidList w) (fun _ _ _ hh h => h.of_heap hh) own started (by kernel_rfl) Tryz.func5
    (ChangeSpec.witness_at (enc := enc) (C := Tryz.checked) (os := os) (X := fun w _ => laidMetH Tryz.prog laidList w) false (laidWorld os) #[.slice none 0 0, .agg #[.string ⟨#[]⟩, .string ⟨#[]⟩], .agg #[.string ⟨#[]⟩, .string ⟨#[]⟩]] 8 rfl (by kernel_rfl) (by kernel_rfl) (by kernel_rfl) (by kernel_rfl) (by kernel_rfl) (laidWorld_met os _)) ?_
  intro W base args ds gs before hval0 hW _ _ hL _
  have hg := handle_of_laid hL
  have hval : ∀ (j : Nat) t v, Tryz.f5.params[j]? = some t → args[j]? = some v → Value.okWide Tryz.prog W .any base t v := hval0
  have hW0 := hW
  obtain ⟨p, q, hA0, _, _, _, _⟩ := hW
  have hA : DataW.TrodAll enc Tryz.prog W 0 (fun _ => true) true Tryz.f5.params.toList args.toList ds p := hA0
  rw [Tryz.params5] at hA hval
  clear hA0 hval0
  obtain ⟨v0, vs0, d0, ds0, p0, q0, hargs, rfl, rfl, h0, r0⟩ := trodAll_cons hA
  obtain ⟨v1, vs1, d1, ds1, p1, q1, rfl, rfl, rfl, h1, r1⟩ := trodAll_cons r0
  obtain ⟨v2, vs2, d2, ds2, p2, q2, rfl, rfl, rfl, h2, r2⟩ := trodAll_cons r1
  obtain ⟨rfl, rfl, rfl⟩ := trodAll_nil r2
  obtain ⟨args⟩ := args
  simp only at hargs
  subst hargs
  obtain ⟨A0, n0, c0, E0, rfl, sx0⟩ := open_ents (hval 0 22 v0 rfl rfl) h0
  obtain ⟨x1, y1, rfl, sx1, sy1⟩ := open_uid (hval 1 30 v1 rfl rfl) h1
  obtain ⟨x2, y2, rfl, sx2, sy2⟩ := open_uid (hval 2 30 v2 rfl rfl) h2
  refine (EntAbove_walk A0 n0 c0 E0 x1 y1 x2 y2 W sx0 sx1 sy1 sx2 sy2 hg).mono fun e W' ⟨he, hb'⟩ => ?_
  subst he
  refine ⟨_, rfl, law_post laidOut (by kernel_rfl) (by rfl) Tryz.underlying4 rfl ?_ hW0 hb'⟩
  intro ds hlen
  rw [Tryz.params5] at hlen
  match ds, hlen with
  | [e0, e1, e2], _ => rfl

theorem EntAbove_over : Rows.entAboveRow.holds Tryz.pinned (OpenSpec.ofChange Rows.entAboveSpec) :=
  OpenClaim.holds_of_wide 5 Tryz.f5 rfl rfl rfl rfl rfl rfl rfl ⟨rfl, rfl, rfl, rfl, rfl⟩ rfl rfl rfl rfl rfl (by kernel_rfl) Tryz.func5 (by kernel_rfl)
    (of_decide_eq_true (by kernel_rfl)) (by unfold Func.isWrapper; rw [if_neg (by decide +kernel)]; exact ⟨rfl, rfl⟩)
    (fun os started H enc _ => EntAbove_lifted os started H enc)

theorem EntAbove_holds : Rows.EntAboveCardSaid :=
  Claim7.holds_tied_plain_at .later [] [.handle] true Rows.entAboveCard.stood.harness true
    EntAbove_over (fun _ h => by cases h) (by kernel_rfl) (fun _ h => by cases h) entAbove_row_tie rfl ⟨rfl, rfl⟩ (by kernel_rfl) rfl
    (fun f fn hf hfn => by
      obtain rfl : f = 5 := Option.some.inj ((show Tryz.prog.funcNamed Rows.entAboveRow.func = some 5 by kernel_rfl).symm.trans hf) |>.symm
      obtain rfl : fn = Tryz.f5 := (Option.some.inj (Tryz.func5.symm.trans hfn)).symm
      exact ⟨by kernel_rfl, fun j t ht => by
        rw [Tryz.params5] at ht
        have hm := Array.mem_of_getElem? ht
        simp only [List.mem_toArray, List.mem_cons, List.not_mem_nil, or_false] at hm
        rcases hm with rfl | rfl | rfl
        all_goals exact (show Tryz.prog.wantsStandIn _ = false by kernel_rfl)⟩)
    (by kernel_rfl)
#print axioms EntAbove_holds
end Go.Proofs.YtbjbimabgfpdoaaGreatDoor
