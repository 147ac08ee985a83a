/-
  NameUids: the frame round the walk: for every input of bulk at most 1048576 the law returns true, and each argument reads behind the call as it read before. The one condition: the bulk.
-/
import Derived.Test.YtlipgpddcfkllaaGreatDoorNameUids
import Derived.Test.YtlipgpddcfkllaaGreatDoorRd
import Derived.Test.YtlipgpddcfkllaaGreatDoorTie
import Derived.Test.YtlipgpddcfkllaaGreatDoorCards
import Derived.Test.YtlipgpddcfkllaaGreatDoorDoor
import Derived.SevenTiedAt
import Derived.JoinedCond
import Derived.Deep.DeepHandedRow
namespace Go.Proofs.YtlipgpddcfkllaaGreatDoor
open Go Go.ChangeShapes Go.WideShapes Go.ChangeAt Go.RowKit Go.Wk
open Go.ChangeMaps (open_string)

theorem bulk_one {H : Type} (d : DataW H) : 1 ≤ Rows.uptoBulk d := by
  cases d with
  | lit l => cases l <;> simp [Rows.uptoBulk]
  | _ => simp [Rows.uptoBulk]
theorem bulk_mem {H : Type} {d : DataW H} {l : List (DataW H)} (h : d ∈ l) : Rows.uptoBulk d ≤ Rows.uptoBulkAll l := by
  induction l with
  | nil => cases h
  | cons x r ih =>
    simp only [Rows.uptoBulkAll]
    rcases List.mem_cons.1 h with rfl | h
    · omega
    · have := ih h; omega
theorem bulk_len {H : Type} (l : List (DataW H)) : l.length ≤ Rows.uptoBulkAll l := by
  induction l with
  | nil => simp [Rows.uptoBulkAll]
  | cons x r ih => have := bulk_one x; simp only [Rows.uptoBulkAll, List.length_cons]; omega
/-- What the bound on the bulk gives: a slice's length. -/
theorem upto_len {H : Type} {d : DataW H} {l : List (DataW H)} {n : Nat} (hk : Rows.uptoSmall H l = true) (hd : d ∈ l) (hn : n = 0 ∨ ∃ elems spare, d = .slice elems spare ∧ elems.length = n) : n ≤ 1048576 := by
  have h : Rows.uptoBulkAll l ≤ 1048576 := of_decide_eq_true hk
  have h2 := bulk_mem hd
  rcases hn with rfl | ⟨elems, spare, rfl, rfl⟩
  · omega
  · have h3 := bulk_len elems
    simp only [Rows.uptoBulk] at h2
    omega
/-- A text's length. -/
theorem upto_str {H : Type} {d : DataW H} {l : List (DataW H)} {s : ByteArray} (hk : Rows.uptoSmall H l = true) (hd : d ∈ l) (he : d = .lit (.string s.data.toList)) : s.size ≤ 1048576 := by
  have h : Rows.uptoBulkAll l ≤ 1048576 := of_decide_eq_true hk
  have h2 := bulk_mem hd
  subst he
  have e : s.data.toList.length = s.size := by simp
  simp only [Rows.uptoBulk, e] at h2
  omega
set_option maxRecDepth 100000 in
theorem NameUids_lifted (os : Os) (started : os.Started) (H : Type) (enc : TypeId × Value → H) (F : Stop.Interp) :
    ReturnsInHanded {} Tryz.checked os 4 .any ((Rows.OpenSpec.upto Rows.nameUidsSpec).preRow enc Tryz.prog Tryz.f4 Rows.nameUidsUptoRow.domain false Rows.nameUidsUptoRow.laid) (((Rows.OpenSpec.upto Rows.nameUidsSpec).at F).post enc Tryz.prog Tryz.f4 false true false false) := by
  refine returnsInHanded_of_row (C := Tryz.checked) (s := Rows.OpenSpec.upto Rows.nameUidsSpec) own started (by kernel_rfl) Tryz.func4
    (witness_row_at (enc := enc) (C := Tryz.checked) false (laidWorld os) #[.agg #[.string ⟨#[]⟩, .string ⟨#[]⟩], .string ⟨#[]⟩] rfl (by kernel_rfl) (by kernel_rfl) (by kernel_rfl)
      (OpenSpec.preRow_of_cond (x := ([.agg [.lit (.string []), .lit (.string [])], .lit (.string [])], [], [])) 8 (by kernel_rfl) (by kernel_rfl) (fun k hk => by cases hk; kernel_rfl) (by kernel_rfl) (laidWorld_met os _))) ?_
  intro W base args ds gs before hval0 hW _ hcond _ hL hS _
  show Calls _ _ _ _ (fun e W' => ∃ v, e = .returned v ∧ Rows.nameUidsSpec.post enc Tryz.prog Tryz.f4 false true false false W args v W')
  have hk : Rows.uptoSmall H (ds ++ gs) = true := hcond _ rfl
  have hg := handle_of_laid hL
  have hm := max_of_shaped hS
  have hval : ∀ (j : Nat) t v, Tryz.f4.params[j]? = some t → args[j]? = some v → Value.okWide Tryz.prog W .any base t v := hval0
  have hW0 := hW
  obtain ⟨p, q, hA0, _, _, _, _⟩ := hW
  have hA : DataW.TrodAll enc Tryz.prog W 0 (fun _ => true) true Tryz.f4.params.toList args.toList ds p := hA0
  rw [Tryz.params4] at hA hval
  clear hA0 hval0
  obtain ⟨v0, vs0, d0, ds0, p0, q0, hargs, rfl, rfl, h0, r0⟩ := trodAll_cons hA
  obtain ⟨v1, vs1, d1, ds1, p1, q1, rfl, rfl, rfl, h1, r1⟩ := trodAll_cons r0
  obtain ⟨rfl, rfl, rfl⟩ := trodAll_nil r1
  obtain ⟨args⟩ := args
  simp only at hargs
  subst hargs
  obtain ⟨x0, y0, rfl, sx0, sy0⟩ := open_uid (hval 0 34 v0 rfl rfl) h0
  obtain ⟨x1, rfl, ed1, _, _⟩ := open_string Tryz.underlying9 (hval 1 9 v1 rfl rfl) h1
  have ux1 : x1.size < 4294967281 := Nat.lt_of_le_of_lt (upto_str hk (d := d1) (by simp) ed1) (by decide)
  refine (NameUids_walk x0 y0 x1 W sx0 sy0 ux1 hm hg).mono fun e W' ⟨he, hb'⟩ => ?_
  subst he
  refine ⟨_, rfl, law_post laidOut (by kernel_rfl) (by rfl) Tryz.underlying4 rfl ?_ hW0 hb'⟩
  intro ds hlen
  rw [Tryz.params4] at hlen
  match ds, hlen with
  | [e0, e1], _ => rfl

theorem NameUids_over : Rows.nameUidsUptoRow.holds Tryz.pinned (Rows.OpenSpec.upto Rows.nameUidsSpec) :=
  OpenClaim.holds_of_cond 4 Tryz.f4 rfl rfl rfl rfl rfl rfl rfl ⟨rfl, rfl, rfl, rfl, rfl⟩ rfl rfl rfl rfl rfl (by kernel_rfl) Tryz.func4 (by kernel_rfl)
    (of_decide_eq_true (by kernel_rfl)) (by unfold Func.isWrapper; rw [if_neg (by decide +kernel)]; exact ⟨rfl, rfl⟩)
    (fun os started H enc _ F => by rw [OpenClaim.pre_eq_preRow]; exact NameUids_lifted os started H enc F)

theorem NameUids_holds : Rows.NameUidsUptoCardSaid :=
  Claim7.holds_tied_plain_at .later [] [.handle] true Rows.nameUidsUptoCard.stood.harness true
    NameUids_over (fun _ h => by cases h) (by kernel_rfl) (fun _ h => by cases h) nameUidsUpto_row_tie rfl ⟨rfl, rfl⟩ (by kernel_rfl) rfl
    (fun f fn hf hfn => by
      obtain rfl : f = 4 := Option.some.inj ((show Tryz.prog.funcNamed Rows.nameUidsUptoRow.func = some 4 by kernel_rfl).symm.trans hf) |>.symm
      obtain rfl : fn = Tryz.f4 := (Option.some.inj (Tryz.func4.symm.trans hfn)).symm
      exact ⟨by kernel_rfl, fun j t ht => by
        rw [Tryz.params4] at ht
        have hm := Array.mem_of_getElem? ht
        simp only [List.mem_toArray, List.mem_cons, List.not_mem_nil, or_false] at hm
        rcases hm with rfl | rfl
        all_goals exact (show Tryz.prog.wantsStandIn _ = false by kernel_rfl)⟩)
    (by kernel_rfl)
#print axioms NameUids_holds
end Go.Proofs.YtlipgpddcfkllaaGreatDoor
