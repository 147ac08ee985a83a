/-
  Plain: the type that a value has of its own. No program in sight.
-/
import Derived.Test.YtocchkmhnneiiaaKindSz
import Derived.Test.YtocchkmhnneiiaaPartsLaw
namespace Go.Wk

def headS : List Nd → ByteArray
  | [] => emp
  | x :: _ => x.s
/-- The least above these. -/
def joinAll (L : List Kd) : Kd := L.foldl joinK (.base 49)
/-- The type of a value's own (m: more than its nodes). -/
def ownK : Nat → List Nd → Kd
  | 0, _ => .base 49
  | m + 1, P =>
    if headOp P = 1 then .base 41 else if headOp P = 2 then .base 42 else if headOp P = 3 then .base 43 else if headOp P = 4 then .ent (headS P)
    else if headOp P = 5 then .set (joinAll ((setParts P).map (ownK m)))
    else .fs (ofL ((recParts P).map fun x => (x.1, true, ownK m x.2)))
def ownV (P : List Nd) : Kd := ownK (P.length + 1) P

theorem mem_flat {L : List (List Nd)} {Q : List Nd} (h : Q ∈ L) : Q.length ≤ L.flatten.length := by
  induction L with
  | nil => cases h
  | cons a r ih =>
    rw [List.flatten_cons, List.length_append]
    rcases List.mem_cons.1 h with rfl | h
    · omega
    · have := ih h; omega
theorem flat_sum (L : List (List Nd)) : L.flatten.length = (L.map List.length).sum := by rw [List.length_flatten]
theorem mem_flatR {L : List (ByteArray × List Nd)} {x : ByteArray × List Nd} (h : x ∈ L) : x.2.length < (flatR L).length := by
  induction L with
  | nil => cases h
  | cons a r ih =>
    simp only [flatR, List.length_cons, List.length_append]
    rcases List.mem_cons.1 h with rfl | h
    · omega
    · have := ih h; omega
theorem set_smaller {P : List Nd} (h : IsV P) (h5 : headOp P = 5) {Q : List Nd} (hQ : Q ∈ setParts P) : Q.length < P.length := by
  obtain ⟨e, -, -, -⟩ := isV_set h h5
  have := mem_flat hQ
  rw [e, List.length_cons]
  omega
theorem rec_smaller {P : List Nd} (h : IsV P) (h6 : headOp P = 6) {x : ByteArray × List Nd} (hx : x ∈ recParts P) : x.2.length < P.length := by
  obtain ⟨e, -, -, -⟩ := isV_rec h h6
  have := mem_flatR hx
  rw [e, List.length_cons]
  omega
/-- A value begins with a node that is shaped, and is no field. -/
theorem isV_head {P : List Nd} (h : IsV P) : ∃ x r, P = x :: r ∧ shapedN x = true ∧ x.op ≠ 7 := by
  have hp := h.pos
  unfold IsV at h
  rcases P with _ | ⟨x, r⟩
  · simp at hp
  refine ⟨x, r, rfl, ?_⟩
  simp only [partEnd, List.getElem?_cons_zero] at h
  by_cases hs : shapedN x = true
  · refine ⟨hs, fun h7 => ?_⟩
    rw [if_pos hs, h7, if_neg (by decide), if_neg (by decide), if_pos rfl] at h
    cases h
  · rw [if_neg hs] at h; cases h
theorem isV_op {P : List Nd} (h : IsV P) : headOp P = 1 ∨ headOp P = 2 ∨ headOp P = 3 ∨ headOp P = 4 ∨ headOp P = 5 ∨ headOp P = 6 := by
  obtain ⟨x, r, rfl, hs, h7⟩ := isV_head h
  rw [headOp_cons]
  unfold shapedN at hs
  by_cases h1 : x.op = 1
  · omega
  by_cases h2 : x.op = 2
  · omega
  by_cases h3 : x.op = 3
  · omega
  by_cases h4 : x.op = 4
  · omega
  by_cases h56 : x.op = 5 ∨ x.op = 6
  · omega
  simp [h1, h2, h3, h4, h56, h7] at hs
theorem isV_ent {P : List Nd} (h : IsV P) (h4 : headOp P = 4) : nameFault (headS P) = 0 := by
  obtain ⟨x, r, rfl, hs, h7⟩ := isV_head h
  rw [headOp_cons] at h4
  unfold shapedN at hs
  rw [if_neg (by omega), if_neg (by omega), if_neg (by omega), if_pos h4] at hs
  simp only [Bool.and_eq_true, decide_eq_true_eq] at hs
  exact hs.1.2
/-- A leaf is one node. -/
theorem isV_leaf {P : List Nd} (h : IsV P) (h5 : headOp P ≠ 5) (h6 : headOp P ≠ 6) : P.length = 1 := by
  obtain ⟨x, r, rfl, hs, h7⟩ := isV_head h
  rw [headOp_cons] at h5 h6
  unfold IsV at h
  simp only [partEnd, List.getElem?_cons_zero] at h
  rw [if_pos hs, if_neg h5, if_neg h6, if_neg h7] at h
  simpa using h.symm
theorem foldl_same {α β : Type} {f g : α → β → α} : ∀ (L : List β) (a : α), (∀ x ∈ L, ∀ a, f a x = g a x) → L.foldl f a = L.foldl g a
  | [], _, _ => rfl
  | x :: r, a, h => by
    rw [List.foldl_cons, List.foldl_cons, h x (by simp) a]
    exact foldl_same r _ fun y hy => h y (by simp [hy])
/-- The fuel is of no account. -/
theorem ownK_fuel : ∀ (m m' : Nat) (P : List Nd), IsV P → P.length < m → P.length < m' → ownK m P = ownK m' P
  | 0, _, _, _, h, _ => by omega
  | _ + 1, 0, _, _, _, h => by omega
  | m + 1, m' + 1, P, hP, h, h' => by
    have h6 := isV_op hP
    unfold ownK
    by_cases h5 : headOp P = 5
    · have : (setParts P).map (ownK m) = (setParts P).map (ownK m') := List.map_congr_left fun Q hQ => by
        have := set_smaller hP h5 hQ
        exact ownK_fuel m m' Q ((isV_set hP h5).2.2.1 Q hQ) (by omega) (by omega)
      simp [h5, this]
    · by_cases h66 : headOp P = 6
      · have : ((recParts P).map fun x => (x.1, true, ownK m x.2)) = ((recParts P).map fun x => (x.1, true, ownK m' x.2)) := List.map_congr_left fun x hx => by
          have := rec_smaller hP h66 hx
          rw [ownK_fuel m m' x.2 ((isV_rec hP h66).2.2.1 x hx).1 (by omega) (by omega)]
        simp [h66, this]
      · split
        · rfl
        · split
          · rfl
          · split
            · rfl
            · split
              · rfl
              · omega
theorem ownV_1 {P : List Nd} (h : headOp P = 1) : ownV P = .base 41 := by unfold ownV ownK; simp [h]
theorem ownV_2 {P : List Nd} (h : headOp P = 2) : ownV P = .base 42 := by unfold ownV ownK; simp [h]
theorem ownV_3 {P : List Nd} (h : headOp P = 3) : ownV P = .base 43 := by unfold ownV ownK; simp [h]
theorem ownV_4 {P : List Nd} (h : headOp P = 4) : ownV P = .ent (headS P) := by unfold ownV ownK; simp [h]
theorem ownV_5 {P : List Nd} (hP : IsV P) (h : headOp P = 5) : ownV P = .set (joinAll ((setParts P).map ownV)) := by
  have : (setParts P).map (ownK P.length) = (setParts P).map ownV := List.map_congr_left fun Q hQ => by
    have := set_smaller hP h hQ
    exact ownK_fuel _ _ Q ((isV_set hP h).2.2.1 Q hQ) this (by omega)
  unfold ownV
  rw [ownK]
  simp [h, this]; rfl
theorem ownV_6 {P : List Nd} (hP : IsV P) (h : headOp P = 6) : ownV P = .fs (ofL ((recParts P).map fun x => (x.1, true, ownV x.2))) := by
  have : ((recParts P).map fun x => (x.1, true, ownK P.length x.2)) = ((recParts P).map fun x => (x.1, true, ownV x.2)) := List.map_congr_left fun x hx => by
    have := rec_smaller hP h hx
    rw [ownK_fuel P.length (x.2.length + 1) x.2 ((isV_rec hP h).2.2.1 x hx).1 this (by omega)]
    rfl
  unfold ownV
  rw [ownK]
  simp [h, this]; rfl
/-- A proof over all values. -/
theorem val_ind (M : List Nd → Prop) (h1 : ∀ P, IsV P → headOp P ≠ 5 → headOp P ≠ 6 → M P) (h5 : ∀ P, IsV P → headOp P = 5 → (∀ Q ∈ setParts P, M Q) → M P) (h6 : ∀ P, IsV P → headOp P = 6 → (∀ x ∈ recParts P, M x.2) → M P) :
    ∀ (n : Nat) (P : List Nd), P.length ≤ n → IsV P → M P
  | 0, P, h, hP => by have := hP.pos; omega
  | n + 1, P, h, hP => by
    by_cases e5 : headOp P = 5
    · exact h5 P hP e5 fun Q hQ => val_ind M h1 h5 h6 n Q (by have := set_smaller hP e5 hQ; omega) ((isV_set hP e5).2.2.1 Q hQ)
    · by_cases e6 : headOp P = 6
      · exact h6 P hP e6 fun x hx => val_ind M h1 h5 h6 n x.2 (by have := rec_smaller hP e6 hx; omega) ((isV_rec hP e6).2.2.1 x hx).1
      · exact h1 P hP e5 e6
theorem valInd {M : List Nd → Prop} {P : List Nd} (hP : IsV P) (h1 : ∀ P, IsV P → headOp P ≠ 5 → headOp P ≠ 6 → M P) (h5 : ∀ P, IsV P → headOp P = 5 → (∀ Q ∈ setParts P, M Q) → M P) (h6 : ∀ P, IsV P → headOp P = 6 → (∀ x ∈ recParts P, M x.2) → M P) : M P :=
  val_ind M h1 h5 h6 _ P (Nat.le_refl _) hP
theorem join_all_valid : ∀ (L : List Kd) (a : Kd), a.valid → (∀ k ∈ L, k.valid) → (L.foldl joinK a).valid
  | [], _, h, _ => h
  | k :: r, a, h, h2 => join_all_valid r _ (join_valid _ a k (Nat.le_refl _) h (h2 k (by simp))) fun x hx => h2 x (by simp [hx])
theorem join_all_sz : ∀ (L : List Kd) (a : Kd), a.ok → (∀ k ∈ L, k.ok) → (L.foldl joinK a).sz ≤ a.sz + (L.map Kd.sz).sum
  | [], a, _, _ => by simp
  | k :: r, a, h, h2 => by
    have h3 := joinK_sz h (h2 k (by simp))
    have := join_all_sz r _ (join_ok _ a k (Nat.le_refl _) h (h2 k (by simp))) fun x hx => h2 x (by simp [hx])
    simp only [List.foldl_cons, List.map_cons, List.sum_cons]
    omega
theorem ofL_av : ∀ L : List Kfd, (∀ y ∈ L, nameFault y.1 = 0 ∧ y.2.2.valid) → (ofL L).av
  | [], _ => trivial
  | y :: r, h => ⟨(h y (by simp)).1, (h y (by simp)).2, ofL_av r fun x hx => h x (by simp [hx])⟩
theorem upB_pair : ∀ (L : List (ByteArray × List Nd)) (x : ByteArray), UpB x L → (∀ y ∈ L, cmpB x y.1 < 0) ∧ L.Pairwise fun a b => cmpB a.1 b.1 < 0
  | [], _, _ => ⟨fun _ h => (nomatch h), List.Pairwise.nil⟩
  | y :: r, x, h => by
    obtain ⟨h1, h2⟩ := h
    obtain ⟨h3, h4⟩ := upB_pair r y.1 h2
    refine ⟨fun z hz => ?_, List.pairwise_cons.2 ⟨h3, h4⟩⟩
    rcases List.mem_cons.1 hz with rfl | hz
    · exact h1
    · exact cmpB_cmp.lt_le h1 (by have := h3 z hz; omega)
theorem own_asc {P : List Nd} (hP : IsV P) (h : headOp P = 6) : (ofL ((recParts P).map fun x => (x.1, true, ownV x.2))).asc := by
  refine (ofL_asc _ ?_).1
  rw [List.pairwise_map]
  exact (upB_pair _ _ (isV_rec hP h).2.2.2).2
/-- It is a type. -/
theorem own_valid {P : List Nd} (hP : IsV P) : (ownV P).valid := by
  refine valInd (M := fun P => (ownV P).valid) hP ?_ ?_ ?_
  · intro P hP h5 h6
    rcases isV_op hP with h | h | h | h | h | h
    · rw [ownV_1 h]; simp [Kd.valid, baseOp]
    · rw [ownV_2 h]; simp [Kd.valid, baseOp]
    · rw [ownV_3 h]; simp [Kd.valid, baseOp]
    · rw [ownV_4 h]; exact isV_ent hP h
    · exact absurd h h5
    · exact absurd h h6
  · intro P hP h5 ih
    rw [ownV_5 hP h5]
    exact join_all_valid _ _ (by simp [Kd.valid, baseOp]) fun k hk => by
      obtain ⟨Q, hQ, rfl⟩ := List.mem_map.1 hk
      exact ih Q hQ
  · intro P hP h6 ih
    rw [ownV_6 hP h6]
    refine valid_fs.2 ⟨own_asc hP h6, ofL_av _ fun y hy => ?_⟩
    obtain ⟨x, hx, rfl⟩ := List.mem_map.1 hy
    exact ⟨((isV_rec hP h6).2.2.1 x hx).2, ih x hx⟩
theorem own_ok {P : List Nd} (hP : IsV P) : (ownV P).ok := (own_valid hP).ok
theorem sum_le {α : Type} (f g : α → Nat) : ∀ L : List α, (∀ x ∈ L, f x ≤ g x) → (L.map f).sum ≤ (L.map g).sum
  | [], _ => Nat.le_refl _
  | x :: r, h => by
    have h1 := h x (by simp)
    have h2 := sum_le f g r fun y hy => h y (by simp [hy])
    simp only [List.map_cons, List.sum_cons]
    omega
theorem sum_two {α : Type} (f : α → Nat) : ∀ L : List α, (L.map fun x => 2 * f x).sum = 2 * (L.map f).sum
  | [] => rfl
  | x :: r => by simp only [List.map_cons, List.sum_cons, sum_two f r]; omega
theorem ofL_sz : ∀ L : List Kfd, (ofL L).sz = (L.map fun y => y.2.2.sz + 1).sum
  | [] => rfl
  | y :: r => by simp only [ofL, Fl.sz, List.map_cons, List.sum_cons, ofL_sz r]; omega
theorem flatR_len : ∀ L : List (ByteArray × List Nd), (flatR L).length = (L.map fun x => x.2.length + 1).sum
  | [] => rfl
  | x :: r => by simp only [flatR, List.length_cons, List.length_append, List.map_cons, List.sum_cons, flatR_len r]; omega
/-- It is no greater than twice the value. -/
theorem own_sz {P : List Nd} (hP : IsV P) : (ownV P).sz ≤ 2 * P.length := by
  refine valInd (M := fun P => (ownV P).sz ≤ 2 * P.length) hP ?_ ?_ ?_
  · intro P hP h5 h6
    have hp := hP.pos
    rcases isV_op hP with h | h | h | h | h | h
    · rw [ownV_1 h]; simp only [Kd.sz]; omega
    · rw [ownV_2 h]; simp only [Kd.sz]; omega
    · rw [ownV_3 h]; simp only [Kd.sz]; omega
    · rw [ownV_4 h]; simp only [Kd.sz]; omega
    · exact absurd h h5
    · exact absurd h h6
  · intro P hP h5 ih
    rw [ownV_5 hP h5]
    obtain ⟨e, -, hv, -⟩ := isV_set hP h5
    have h1 := join_all_sz ((setParts P).map ownV) (.base 49) trivial fun k hk => by
      obtain ⟨Q, hQ, rfl⟩ := List.mem_map.1 hk
      exact own_ok (hv Q hQ)
    rw [List.map_map] at h1
    have h2 := sum_le (Kd.sz ∘ ownV) (fun Q => 2 * Q.length) (setParts P) fun Q hQ => ih Q hQ
    rw [sum_two] at h2
    rw [e, List.length_cons, flat_sum]
    simp only [Kd.sz, joinAll] at h1 ⊢
    rw [← e]
    omega
  · intro P hP h6 ih
    rw [ownV_6 hP h6]
    obtain ⟨e, -, hv, -⟩ := isV_rec hP h6
    have h2 := sum_le (fun x : ByteArray × List Nd => (ownV x.2).sz + 1) (fun x => 2 * (x.2.length + 1)) (recParts P) fun x hx => by have := ih x hx; omega
    rw [sum_two] at h2
    rw [e, List.length_cons, flatR_len]
    simp only [Kd.sz, ofL_sz, List.map_map, Function.comp_def]
    rw [← e]
    omega
end Go.Wk
