/-
  ValSame: the frame round the walk: for every input of bulk at most 1048576 the law returns true, and each argument reads behind the call as it read before. The one condition: the bulk.
-/
import Derived.Test.YtfbgaefbalbohaaValSame
import Derived.Test.YtfbgaefbalbohaaRd
import Derived.JoinedCond
namespace Go.Proofs.Ytfbgaefbalbohaa
open Go Go.ChangeShapes Go.WideShapes Go.ChangeAt Go.RowKit Go.Wk
open Go.ChangeMaps (open_string)

theorem bulk_one {H : Type} (d : DataW H) : 1 ≤ Rows.uptoBulk d := by
  cases d with
  | lit l => cases l <;> simp [Rows.uptoBulk]
  | _ => simp [Rows.uptoBulk]
theorem bulk_mem {H : Type} {d : DataW H} {l : List (DataW H)} (h : d ∈ l) : Rows.uptoBulk d ≤ Rows.uptoBulkAll l := by
  induction l with
  | nil => cases h
  | cons x r ih =>
    simp only [Rows.uptoBulkAll]
    rcases List.mem_cons.1 h with rfl | h
    · omega
    · have := ih h; omega
theorem bulk_len {H : Type} (l : List (DataW H)) : l.length ≤ Rows.uptoBulkAll l := by
  induction l with
  | nil => simp [Rows.uptoBulkAll]
  | cons x r ih => have := bulk_one x; simp only [Rows.uptoBulkAll, List.length_cons]; omega
/-- What the bound on the bulk gives: a slice's length. -/
theorem upto_len {H : Type} {d : DataW H} {l : List (DataW H)} {n : Nat} (hk : Rows.uptoSmall H l = true) (hd : d ∈ l) (hn : n = 0 ∨ ∃ elems spare, d = .slice elems spare ∧ elems.length = n) : n ≤ 1048576 := by
  have h : Rows.uptoBulkAll l ≤ 1048576 := of_decide_eq_true hk
  have h2 := bulk_mem hd
  rcases hn with rfl | ⟨elems, spare, rfl, rfl⟩
  · omega
  · have h3 := bulk_len elems
    simp only [Rows.uptoBulk] at h2
    omega
set_option maxRecDepth 100000 in
theorem ValSame_lifted (os : Os) (started : os.Started) (H : Type) (enc : TypeId × Value → H) (F : Stop.Interp) :
    ReturnsInHanded {} Try.checked os 3 .any ((Rows.OpenSpec.upto Rows.valSameSpec).pre6 enc Try.prog Try.f3 Rows.valSameUptoRow.domain false) (((Rows.OpenSpec.upto Rows.valSameSpec).at F).post enc Try.prog Try.f3 false true false false) := by
  refine returnsInHanded_of_cond (C := Try.checked) (s := Rows.OpenSpec.upto Rows.valSameSpec) (k := Rows.uptoSmall) rfl own started (by kernel_rfl) Try.func3
    (OpenSpec.witness (enc := enc) (C := Try.checked) (s := Rows.OpenSpec.upto Rows.valSameSpec) (k := Rows.uptoSmall) rfl false ⟨#[], #[.slice none 0 0, .slice none 0 0], []⟩ 8 (by kernel_rfl) (by kernel_rfl) (by kernel_rfl)
      (x := ([.nil, .nil], [], [])) (by kernel_rfl) rfl (by kernel_rfl)) ?_
  intro W base args ds gs before hval0 hW _ hk _
  show Calls _ _ _ _ (fun e W' => ∃ v, e = .returned v ∧ Rows.valSameSpec.post enc Try.prog Try.f3 false true false false W args v W')
  have hval : ∀ (j : Nat) t v, Try.f3.params[j]? = some t → args[j]? = some v → Value.okWide Try.prog W .any base t v := hval0
  have hW0 := hW
  obtain ⟨p, q, hA0, _, _, _, _⟩ := hW
  have hA : DataW.TrodAll enc Try.prog W 0 (fun _ => true) true Try.f3.params.toList args.toList ds p := hA0
  rw [Try.params3] at hA hval
  clear hA0 hval0
  obtain ⟨v0, vs0, d0, ds0, p0, q0, hargs, rfl, rfl, h0, r0⟩ := trodAll_cons hA
  obtain ⟨v1, vs1, d1, ds1, p1, q1, rfl, rfl, rfl, h1, r1⟩ := trodAll_cons r0
  obtain ⟨rfl, rfl, rfl⟩ := trodAll_nil r1
  obtain ⟨args⟩ := args
  simp only at hargs
  subst hargs
  obtain ⟨A0, n0, c0, V0, rfl, sx0, tx0, lx0⟩ := open_sls (hval 0 22 v0 rfl rfl) h0
  have ux0 := upto_len hk (d := d0) (by simp) lx0
  obtain ⟨A1, n1, c1, I1, rfl, sx1, tx1, _, lx1⟩ := open_ints (hval 1 23 v1 rfl rfl) h1
  have ux1 := upto_len hk (d := d1) (by simp) lx1
  refine (ValSame_walk A0 n0 c0 V0 A1 n1 c1 I1 W sx0 (by omega) tx0 sx1 (by omega) tx1).mono fun e W' ⟨he, hb'⟩ => ?_
  subst he
  refine ⟨_, rfl, law_post laidOut (by kernel_rfl) (by rfl) Try.underlying4 rfl ?_ hW0 hb'⟩
  intro ds hlen
  rw [Try.params3] at hlen
  match ds, hlen with
  | [e0, e1], _ => rfl

theorem ValSame_holds : Rows.ValSameUptoSaid :=
  OpenClaim.holds_of_cond 3 Try.f3 rfl rfl rfl rfl rfl rfl rfl ⟨rfl, rfl, rfl, rfl, rfl⟩ rfl rfl rfl rfl rfl (by kernel_rfl) Try.func3 (by kernel_rfl)
    (of_decide_eq_true (by kernel_rfl)) (by unfold Func.isWrapper; rw [if_neg (by decide +kernel)]; exact ⟨rfl, rfl⟩)
    (fun os started H enc _ F => ValSame_lifted os started H enc F)
#print axioms ValSame_holds
end Go.Proofs.Ytfbgaefbalbohaa
