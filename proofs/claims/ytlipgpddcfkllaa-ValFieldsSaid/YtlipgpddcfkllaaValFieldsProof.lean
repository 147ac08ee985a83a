/-
  ValFields: the frame round the walk: for every input the law returns true, and each argument reads behind the call as it read before. No condition.
-/
import Derived.Test.YtlipgpddcfkllaaValFields
import Derived.Test.YtlipgpddcfkllaaRd
import Derived.SizedLaws
namespace Go.Proofs.Ytlipgpddcfkllaa
open Go Go.ChangeShapes Go.WideShapes Go.ChangeAt Go.RowKit Go.Wk
open Go.ChangeMaps (open_string)

set_option maxRecDepth 100000 in
theorem ValFields_lifted (os : Os) (started : os.Started) (H : Type) (enc : TypeId × Value → H) :
    ReturnsInHanded {} Try.checked os 5 .any (Rows.valFieldsSpec.pre6 enc Try.prog Try.f5 Rows.valFieldsRow.domain false) (Rows.valFieldsSpec.post enc Try.prog Try.f5 false true false false) := by
  refine returnsInHanded_of_change_sized (C := Try.checked) own started (by kernel_rfl) Try.func5
    (ChangeSpec.witness6 (enc := enc) (C := Try.checked) false ⟨#[], #[.slice none 0 0, .slice none 0 0], []⟩ 8 (by kernel_rfl) (by kernel_rfl) (by kernel_rfl) (by kernel_rfl)) ?_
  intro W base args ds gs before hval0 hW _ hsz _
  have hval : ∀ (j : Nat) t v, Try.f5.params[j]? = some t → args[j]? = some v → Value.okWide Try.prog W .any base t v := hval0
  have hW0 := hW
  obtain ⟨p, q, hA0, _, _, _, _⟩ := hW
  have hA : DataW.TrodAll enc Try.prog W 0 (fun _ => true) true Try.f5.params.toList args.toList ds p := hA0
  rw [Try.params5] at hA hval hsz
  clear hA0 hval0
  obtain ⟨v0, vs0, d0, ds0, p0, q0, hargs, rfl, rfl, h0, r0⟩ := trodAll_cons hA
  obtain ⟨v1, vs1, d1, ds1, p1, q1, rfl, rfl, rfl, h1, r1⟩ := trodAll_cons r0
  obtain ⟨rfl, rfl, rfl⟩ := trodAll_nil r1
  obtain ⟨args⟩ := args
  simp only at hargs
  subst hargs
  obtain ⟨A0, n0, c0, N0, rfl, sx0, tx0, zx0, lx0⟩ := open_strs (hval 0 33 v0 rfl rfl) h0
  have ux0 : n0 ≤ 5864062014634 * 2 := by
    have := reach_len hsz (j := 0) rfl rfl Try.underlying33 lx0 bytes_string
    omega
  obtain ⟨A1, n1, c1, V1, rfl, sx1, tx1, lx1⟩ := open_sls (hval 1 34 v1 rfl rfl) h1
  have ux1 : n1 ≤ 5864062014634 := by
    have := reach_len hsz (j := 1) rfl rfl Try.underlying34 lx1 bytes_nodes
    omega
  refine (ValFields_walk A0 n0 c0 N0 A1 n1 c1 V1 W sx0 ux0 tx0 zx0 sx1 ux1 tx1).mono fun e W' ⟨he, hb'⟩ => ?_
  subst he
  refine ⟨_, rfl, law_post laidOut (by kernel_rfl) (by rfl) Try.underlying4 rfl ?_ hW0 hb'⟩
  intro ds hlen
  rw [Try.params5] at hlen
  match ds, hlen with
  | [e0, e1], _ => rfl

theorem ValFields_over : Rows.valFieldsRow.holds Try.pinned (OpenSpec.ofChange Rows.valFieldsSpec) :=
  OpenClaim.holds_of_wide 5 Try.f5 rfl rfl rfl rfl rfl rfl rfl ⟨rfl, rfl, rfl, rfl, rfl⟩ rfl rfl rfl rfl rfl (by kernel_rfl) Try.func5 (by kernel_rfl)
    (of_decide_eq_true (by kernel_rfl)) (by unfold Func.isWrapper; rw [if_neg (by decide +kernel)]; exact ⟨rfl, rfl⟩)
    (fun os started H enc _ => ValFields_lifted os started H enc)

theorem ValFields_holds : Rows.ValFieldsSaid := ValFields_over
#print axioms ValFields_holds
end Go.Proofs.Ytlipgpddcfkllaa
