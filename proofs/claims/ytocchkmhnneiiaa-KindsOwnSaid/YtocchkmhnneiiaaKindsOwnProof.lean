/-
  KindsOwn: the frame round the walk: for every input the law returns true, and each argument reads behind the call as it read before. No condition.
-/
import Derived.Test.YtocchkmhnneiiaaKindsOwnAll
import Derived.Test.YtocchkmhnneiiaaRd
namespace Go.Proofs.Ytocchkmhnneiiaa
open Go Go.ChangeShapes Go.WideShapes Go.ChangeAt Go.RowKit Go.Wk
open Go.ChangeMaps (open_string)

set_option maxRecDepth 100000 in
theorem KindsOwn_lifted (os : Os) (started : os.Started) (H : Type) (enc : TypeId × Value → H) :
    ReturnsInHanded {} Try.checked os 7 .any (Rows.kindsOwnSpec.pre6 enc Try.prog Try.f7 Rows.kindsOwnRow.domain false) (Rows.kindsOwnSpec.post enc Try.prog Try.f7 false true false false) := by
  refine returnsInHanded_of_change (C := Try.checked) own started (by kernel_rfl) Try.func7
    (ChangeSpec.witness6 (enc := enc) (C := Try.checked) false ⟨#[], #[.slice none 0 0, .slice none 0 0], []⟩ 8 (by kernel_rfl) (by kernel_rfl) (by kernel_rfl) (by kernel_rfl)) ?_
  intro W base args ds gs before hval0 hW _ _
  have hval : ∀ (j : Nat) t v, Try.f7.params[j]? = some t → args[j]? = some v → Value.okWide Try.prog W .any base t v := hval0
  have hW0 := hW
  obtain ⟨p, q, hA0, _, _, _, _⟩ := hW
  have hA : DataW.TrodAll enc Try.prog W 0 (fun _ => true) true Try.f7.params.toList args.toList ds p := hA0
  rw [Try.params7] at hA hval
  clear hA0 hval0
  obtain ⟨v0, vs0, d0, ds0, p0, q0, hargs, rfl, rfl, h0, r0⟩ := trodAll_cons hA
  obtain ⟨v1, vs1, d1, ds1, p1, q1, rfl, rfl, rfl, h1, r1⟩ := trodAll_cons r0
  obtain ⟨rfl, rfl, rfl⟩ := trodAll_nil r1
  obtain ⟨args⟩ := args
  simp only at hargs
  subst hargs
  obtain ⟨A0, n0, c0, P0, rfl, sx0⟩ := open_nodes (hval 0 22 v0 rfl rfl) h0
  obtain ⟨A1, n1, c1, P1, rfl, sx1⟩ := open_nodes (hval 1 22 v1 rfl rfl) h1
  refine (KindsOwn_walk A0 n0 c0 P0 A1 n1 c1 P1 W sx0 sx1).mono fun e W' ⟨he, hb'⟩ => ?_
  subst he
  refine ⟨_, rfl, law_post laidOut (by kernel_rfl) (by rfl) Try.underlying4 rfl ?_ hW0 hb'⟩
  intro ds hlen
  rw [Try.params7] at hlen
  match ds, hlen with
  | [e0, e1], _ => rfl

theorem KindsOwn_over : Rows.kindsOwnRow.holds Try.pinned (OpenSpec.ofChange Rows.kindsOwnSpec) :=
  OpenClaim.holds_of_wide 7 Try.f7 rfl rfl rfl rfl rfl rfl rfl ⟨rfl, rfl, rfl, rfl, rfl⟩ rfl rfl rfl rfl rfl (by kernel_rfl) Try.func7 (by kernel_rfl)
    (of_decide_eq_true (by kernel_rfl)) (by unfold Func.isWrapper; rw [if_neg (by decide +kernel)]; exact ⟨rfl, rfl⟩)
    (fun os started H enc _ => KindsOwn_lifted os started H enc)

theorem KindsOwn_holds : Rows.KindsOwnSaid := KindsOwn_over
#print axioms KindsOwn_holds
end Go.Proofs.Ytocchkmhnneiiaa
