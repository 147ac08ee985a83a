/-
  NameUidBack: the frame round the walk: for every input of bulk at most 1048576 the law returns true, and each argument reads behind the call as it read before. The one condition: the bulk.
-/
import Derived.Test.YtlipgpddcfkllaaNameUidBack
import Derived.Test.YtlipgpddcfkllaaRd
import Derived.Test.YtlipgpddcfkllaaShp
import Derived.JoinedCond
namespace Go.Proofs.Ytlipgpddcfkllaa
open Go Go.ChangeShapes Go.WideShapes Go.ChangeAt Go.RowKit Go.Wk
open Go.ChangeMaps (open_string)

theorem bulk_one {H : Type} (d : DataW H) : 1 ≤ Rows.uptoBulk d := by
  cases d with
  | lit l => cases l <;> simp [Rows.uptoBulk]
  | _ => simp [Rows.uptoBulk]
theorem bulk_mem {H : Type} {d : DataW H} {l : List (DataW H)} (h : d ∈ l) : Rows.uptoBulk d ≤ Rows.uptoBulkAll l := by
  induction l with
  | nil => cases h
  | cons x r ih =>
    simp only [Rows.uptoBulkAll]
    rcases List.mem_cons.1 h with rfl | h
    · omega
    · have := ih h; omega
/-- What the bound on the bulk gives: a text's length. -/
theorem upto_str {H : Type} {d : DataW H} {l : List (DataW H)} {s : ByteArray} (hk : Rows.uptoSmall H l = true) (hd : d ∈ l) (he : d = .lit (.string s.data.toList)) : s.size ≤ 1048576 := by
  have h : Rows.uptoBulkAll l ≤ 1048576 := of_decide_eq_true hk
  have h2 := bulk_mem hd
  subst he
  simp only [Rows.uptoBulk, size_toList] at h2
  omega
set_option maxRecDepth 100000 in
theorem NameUidBack_lifted (os : Os) (started : os.Started) (H : Type) (enc : TypeId × Value → H) (F : Stop.Interp) :
    ReturnsInHanded {} Try.checked os 4 .any ((Rows.OpenSpec.upto Rows.nameUidBackSpec).pre6 enc Try.prog Try.f4 Rows.nameUidBackUptoRow.domain false) (((Rows.OpenSpec.upto Rows.nameUidBackSpec).at F).post enc Try.prog Try.f4 false true false false) := by
  refine returns_cond_shaped (C := Try.checked) (s := Rows.OpenSpec.upto Rows.nameUidBackSpec) (k := Rows.uptoSmall) rfl own started (by kernel_rfl) Try.func4
    (OpenSpec.witness (enc := enc) (C := Try.checked) (s := Rows.OpenSpec.upto Rows.nameUidBackSpec) (k := Rows.uptoSmall) rfl false ⟨#[], #[.agg #[.string ⟨#[]⟩, .string ⟨#[]⟩], .string ⟨#[]⟩], []⟩ 8 (by kernel_rfl) (by kernel_rfl) (by kernel_rfl)
      (x := ([.agg [.lit (.string []), .lit (.string [])], .lit (.string [])], [], [])) (by kernel_rfl) rfl (by kernel_rfl)) ?_
  intro W base args ds gs before hval0 hW _ hk hS _
  have hg := max_of_shaped hS
  show Calls _ _ _ _ (fun e W' => ∃ v, e = .returned v ∧ Rows.nameUidBackSpec.post enc Try.prog Try.f4 false true false false W args v W')
  have hval : ∀ (j : Nat) t v, Try.f4.params[j]? = some t → args[j]? = some v → Value.okWide Try.prog W .any base t v := hval0
  have hW0 := hW
  obtain ⟨p, q, hA0, _, _, _, _⟩ := hW
  have hA : DataW.TrodAll enc Try.prog W 0 (fun _ => true) true Try.f4.params.toList args.toList ds p := hA0
  rw [Try.params4] at hA hval
  clear hA0 hval0
  obtain ⟨v0, vs0, d0, ds0, p0, q0, hargs, rfl, rfl, h0, r0⟩ := trodAll_cons hA
  obtain ⟨v1, vs1, d1, ds1, p1, q1, rfl, rfl, rfl, h1, r1⟩ := trodAll_cons r0
  obtain ⟨rfl, rfl, rfl⟩ := trodAll_nil r1
  obtain ⟨args⟩ := args
  simp only at hargs
  subst hargs
  obtain ⟨x0, y0, rfl, sx0, sy0⟩ := open_uid (hval 0 28 v0 rfl rfl) h0
  obtain ⟨x1, rfl, ed1, _, _⟩ := open_string Try.underlying9 (hval 1 9 v1 rfl rfl) h1
  have ux1 : x1.size < 4294967281 := Nat.lt_of_le_of_lt (upto_str hk (d := d1) (by simp) ed1) (by decide)
  refine (NameUidBack_walk x0 y0 x1 W sx0 sy0 ux1 hg).mono fun e W' ⟨he, hb'⟩ => ?_
  subst he
  refine ⟨_, rfl, law_post laidOut (by kernel_rfl) (by rfl) Try.underlying4 rfl ?_ hW0 hb'⟩
  intro ds hlen
  rw [Try.params4] at hlen
  match ds, hlen with
  | [e0, e1], _ => rfl

theorem NameUidBack_holds : Rows.NameUidBackUptoSaid :=
  OpenClaim.holds_of_cond 4 Try.f4 rfl rfl rfl rfl rfl rfl rfl ⟨rfl, rfl, rfl, rfl, rfl⟩ rfl rfl rfl rfl rfl (by kernel_rfl) Try.func4 (by kernel_rfl)
    (of_decide_eq_true (by kernel_rfl)) (by unfold Func.isWrapper; rw [if_neg (by decide +kernel)]; exact ⟨rfl, rfl⟩)
    (fun os started H enc _ F => NameUidBack_lifted os started H enc F)
#print axioms NameUidBack_holds
end Go.Proofs.Ytlipgpddcfkllaa
