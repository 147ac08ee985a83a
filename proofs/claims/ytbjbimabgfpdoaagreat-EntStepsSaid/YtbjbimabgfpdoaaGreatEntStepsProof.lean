/-
  EntSteps: the frame round the walk: for every input the law returns true, and each argument reads behind the call as it read before. No condition.
-/
import Derived.Test.YtbjbimabgfpdoaaGreatEntSteps
import Derived.Test.YtbjbimabgfpdoaaGreatRd
import Derived.Test.YtbjbimabgfpdoaaGreatRdEnts
namespace Go.Proofs.YtbjbimabgfpdoaaGreat
open Go Go.ChangeShapes Go.WideShapes Go.ChangeAt Go.RowKit Go.Wk
open Go.ChangeMaps (open_string)

set_option maxRecDepth 100000 in
theorem EntSteps_lifted (os : Os) (started : os.Started) (H : Type) (enc : TypeId × Value → H) :
    ReturnsInHanded {} Tryz.checked os 3 .any (Rows.entStepsSpec.pre6 enc Tryz.prog Tryz.f3 Rows.entStepsRow.domain false) (Rows.entStepsSpec.post enc Tryz.prog Tryz.f3 false true false false) := by
  refine returnsInHanded_of_change (C := Tryz.checked) own started (by kernel_rfl) Tryz.func3
    (ChangeSpec.witness6 (enc := enc) (C := Tryz.checked) false ⟨#[], #[.slice none 0 0, .agg #[.string ⟨#[]⟩, .string ⟨#[]⟩], .agg #[.string ⟨#[]⟩, .string ⟨#[]⟩]], []⟩ 8 (by kernel_rfl) (by kernel_rfl) (by kernel_rfl) (by kernel_rfl)) ?_
  intro W base args ds gs before hval0 hW _ _
  have hval : ∀ (j : Nat) t v, Tryz.f3.params[j]? = some t → args[j]? = some v → Value.okWide Tryz.prog W .any base t v := hval0
  have hW0 := hW
  obtain ⟨p, q, hA0, _, _, _, _⟩ := hW
  have hA : DataW.TrodAll enc Tryz.prog W 0 (fun _ => true) true Tryz.f3.params.toList args.toList ds p := hA0
  rw [Tryz.params3] at hA hval
  clear hA0 hval0
  obtain ⟨v0, vs0, d0, ds0, p0, q0, hargs, rfl, rfl, h0, r0⟩ := trodAll_cons hA
  obtain ⟨v1, vs1, d1, ds1, p1, q1, rfl, rfl, rfl, h1, r1⟩ := trodAll_cons r0
  obtain ⟨v2, vs2, d2, ds2, p2, q2, rfl, rfl, rfl, h2, r2⟩ := trodAll_cons r1
  obtain ⟨rfl, rfl, rfl⟩ := trodAll_nil r2
  obtain ⟨args⟩ := args
  simp only at hargs
  subst hargs
  obtain ⟨A0, n0, c0, E0, rfl, sx0⟩ := open_ents (hval 0 22 v0 rfl rfl) h0
  obtain ⟨x1, y1, rfl, sx1, sy1⟩ := open_uid (hval 1 24 v1 rfl rfl) h1
  obtain ⟨x2, y2, rfl, sx2, sy2⟩ := open_uid (hval 2 24 v2 rfl rfl) h2
  refine (EntSteps_walk A0 n0 c0 E0 x1 y1 x2 y2 W sx0 sx1 sy1 sx2 sy2).mono fun e W' ⟨he, hb'⟩ => ?_
  subst he
  refine ⟨_, rfl, law_post laidOut (by kernel_rfl) (by rfl) Tryz.underlying4 rfl ?_ hW0 hb'⟩
  intro ds hlen
  rw [Tryz.params3] at hlen
  match ds, hlen with
  | [e0, e1, e2], _ => rfl

theorem EntSteps_over : Rows.entStepsRow.holds Tryz.pinned (OpenSpec.ofChange Rows.entStepsSpec) :=
  OpenClaim.holds_of_wide 3 Tryz.f3 rfl rfl rfl rfl rfl rfl rfl ⟨rfl, rfl, rfl, rfl, rfl⟩ rfl rfl rfl rfl rfl (by kernel_rfl) Tryz.func3 (by kernel_rfl)
    (of_decide_eq_true (by kernel_rfl)) (by unfold Func.isWrapper; rw [if_neg (by decide +kernel)]; exact ⟨rfl, rfl⟩)
    (fun os started H enc _ => EntSteps_lifted os started H enc)

theorem EntSteps_holds : Rows.EntStepsSaid := EntSteps_over
#print axioms EntSteps_holds
end Go.Proofs.YtbjbimabgfpdoaaGreat
