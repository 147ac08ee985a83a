/-
  Plain: the type that a value has of its own. No program in sight.
  Plain: below, field by field; which types a value has. No program in sight.
  Plain: where the fields of a type stand; below, and the least above two, as the reference has them. No program in sight.
  Plain: which types a value has, as the reference's loops have it. No program in sight.
-/
import Derived.Test.YtmekockjgldndaaGreatDoorQc2
namespace Go.Wk

def headS : List Nd → ByteArray
  | [] => emp
  | x :: _ => x.s
/-- The least above these. -/
def joinAll (L : List Kd) : Kd := L.foldl joinK (.base 49)
/-- The type of a value's own (m: more than its nodes). -/
def ownK : Nat → List Nd → Kd
  | 0, _ => .base 49
  | m + 1, P =>
    if headOp P = 1 then .base 41 else if headOp P = 2 then .base 42 else if headOp P = 3 then .base 43 else if headOp P = 4 then .ent (headS P)
    else if headOp P = 5 then .set (joinAll ((setParts P).map (ownK m)))
    else .fs (ofL ((recParts P).map fun x => (x.1, true, ownK m x.2)))
def ownV (P : List Nd) : Kd := ownK (P.length + 1) P

theorem mem_flat {L : List (List Nd)} {Q : List Nd} (h : Q ∈ L) : Q.length ≤ L.flatten.length := by
  induction L with
  | nil => cases h
  | cons a r ih =>
    rw [List.flatten_cons, List.length_append]
    rcases List.mem_cons.1 h with rfl | h
    · omega
    · have := ih h; omega
theorem flat_sum (L : List (List Nd)) : L.flatten.length = (L.map List.length).sum := by rw [List.length_flatten]
theorem mem_flatR {L : List (ByteArray × List Nd)} {x : ByteArray × List Nd} (h : x ∈ L) : x.2.length < (flatR L).length := by
  induction L with
  | nil => cases h
  | cons a r ih =>
    simp only [flatR, List.length_cons, List.length_append]
    rcases List.mem_cons.1 h with rfl | h
    · omega
    · have := ih h; omega
theorem set_smaller {P : List Nd} (h : IsV P) (h5 : headOp P = 5) {Q : List Nd} (hQ : Q ∈ setParts P) : Q.length < P.length := by
  obtain ⟨e, -, -, -⟩ := isV_set h h5
  have := mem_flat hQ
  rw [e, List.length_cons]
  omega
theorem rec_smaller {P : List Nd} (h : IsV P) (h6 : headOp P = 6) {x : ByteArray × List Nd} (hx : x ∈ recParts P) : x.2.length < P.length := by
  obtain ⟨e, -, -, -⟩ := isV_rec h h6
  have := mem_flatR hx
  rw [e, List.length_cons]
  omega
/-- A value begins with a node that is shaped, and is no field. -/
theorem isV_head {P : List Nd} (h : IsV P) : ∃ x r, P = x :: r ∧ shapedN x = true ∧ x.op ≠ 7 := by
  have hp := h.pos
  unfold IsV at h
  rcases P with _ | ⟨x, r⟩
  · simp at hp
  refine ⟨x, r, rfl, ?_⟩
  simp only [partEnd, List.getElem?_cons_zero] at h
  by_cases hs : shapedN x = true
  · refine ⟨hs, fun h7 => ?_⟩
    rw [if_pos hs, h7, if_neg (by decide), if_neg (by decide), if_pos rfl] at h
    cases h
  · rw [if_neg hs] at h; cases h
theorem isV_op {P : List Nd} (h : IsV P) : headOp P = 1 ∨ headOp P = 2 ∨ headOp P = 3 ∨ headOp P = 4 ∨ headOp P = 5 ∨ headOp P = 6 := by
  obtain ⟨x, r, rfl, hs, h7⟩ := isV_head h
  rw [headOp_cons]
  unfold shapedN at hs
  by_cases h1 : x.op = 1
  · omega
  by_cases h2 : x.op = 2
  · omega
  by_cases h3 : x.op = 3
  · omega
  by_cases h4 : x.op = 4
  · omega
  by_cases h56 : x.op = 5 ∨ x.op = 6
  · omega
  simp [h1, h2, h3, h4, h56, h7] at hs
theorem isV_ent {P : List Nd} (h : IsV P) (h4 : headOp P = 4) : nameFault (headS P) = 0 := by
  obtain ⟨x, r, rfl, hs, h7⟩ := isV_head h
  rw [headOp_cons] at h4
  unfold shapedN at hs
  rw [if_neg (by omega), if_neg (by omega), if_neg (by omega), if_pos h4] at hs
  simp only [Bool.and_eq_true, decide_eq_true_eq] at hs
  exact hs.1.2
/-- A leaf is one node. -/
theorem isV_leaf {P : List Nd} (h : IsV P) (h5 : headOp P ≠ 5) (h6 : headOp P ≠ 6) : P.length = 1 := by
  obtain ⟨x, r, rfl, hs, h7⟩ := isV_head h
  rw [headOp_cons] at h5 h6
  unfold IsV at h
  simp only [partEnd, List.getElem?_cons_zero] at h
  rw [if_pos hs, if_neg h5, if_neg h6, if_neg h7] at h
  simpa using h.symm
theorem foldl_same {α β : Type} {f g : α → β → α} : ∀ (L : List β) (a : α), (∀ x ∈ L, ∀ a, f a x = g a x) → L.foldl f a = L.foldl g a
  | [], _, _ => rfl
  | x :: r, a, h => by
    rw [List.foldl_cons, List.foldl_cons, h x (by simp) a]
    exact foldl_same r _ fun y hy => h y (by simp [hy])
/-- The fuel is of no account. -/
theorem ownK_fuel : ∀ (m m' : Nat) (P : List Nd), IsV P → P.length < m → P.length < m' → ownK m P = ownK m' P
  | 0, _, _, _, h, _ => by omega
  | _ + 1, 0, _, _, _, h => by omega
  | m + 1, m' + 1, P, hP, h, h' => by
    have h6 := isV_op hP
    unfold ownK
    by_cases h5 : headOp P = 5
    · have : (setParts P).map (ownK m) = (setParts P).map (ownK m') := List.map_congr_left fun Q hQ => by
        have := set_smaller hP h5 hQ
        exact ownK_fuel m m' Q ((isV_set hP h5).2.2.1 Q hQ) (by omega) (by omega)
      simp [h5, this]
    · by_cases h66 : headOp P = 6
      · have : ((recParts P).map fun x => (x.1, true, ownK m x.2)) = ((recParts P).map fun x => (x.1, true, ownK m' x.2)) := List.map_congr_left fun x hx => by
          have := rec_smaller hP h66 hx
          rw [ownK_fuel m m' x.2 ((isV_rec hP h66).2.2.1 x hx).1 (by omega) (by omega)]
        simp [h66, this]
      · split
        · rfl
        · split
          · rfl
          · split
            · rfl
            · split
              · rfl
              · omega
theorem ownV_1 {P : List Nd} (h : headOp P = 1) : ownV P = .base 41 := by unfold ownV ownK; simp [h]
theorem ownV_2 {P : List Nd} (h : headOp P = 2) : ownV P = .base 42 := by unfold ownV ownK; simp [h]
theorem ownV_3 {P : List Nd} (h : headOp P = 3) : ownV P = .base 43 := by unfold ownV ownK; simp [h]
theorem ownV_4 {P : List Nd} (h : headOp P = 4) : ownV P = .ent (headS P) := by unfold ownV ownK; simp [h]
theorem ownV_5 {P : List Nd} (hP : IsV P) (h : headOp P = 5) : ownV P = .set (joinAll ((setParts P).map ownV)) := by
  have : (setParts P).map (ownK P.length) = (setParts P).map ownV := List.map_congr_left fun Q hQ => by
    have := set_smaller hP h hQ
    exact ownK_fuel _ _ Q ((isV_set hP h).2.2.1 Q hQ) this (by omega)
  unfold ownV
  rw [ownK]
  simp [h, this]; rfl
theorem ownV_6 {P : List Nd} (hP : IsV P) (h : headOp P = 6) : ownV P = .fs (ofL ((recParts P).map fun x => (x.1, true, ownV x.2))) := by
  have : ((recParts P).map fun x => (x.1, true, ownK P.length x.2)) = ((recParts P).map fun x => (x.1, true, ownV x.2)) := List.map_congr_left fun x hx => by
    have := rec_smaller hP h hx
    rw [ownK_fuel P.length (x.2.length + 1) x.2 ((isV_rec hP h).2.2.1 x hx).1 this (by omega)]
    rfl
  unfold ownV
  rw [ownK]
  simp [h, this]; rfl
/-- A proof over all values. -/
theorem val_ind (M : List Nd → Prop) (h1 : ∀ P, IsV P → headOp P ≠ 5 → headOp P ≠ 6 → M P) (h5 : ∀ P, IsV P → headOp P = 5 → (∀ Q ∈ setParts P, M Q) → M P) (h6 : ∀ P, IsV P → headOp P = 6 → (∀ x ∈ recParts P, M x.2) → M P) :
    ∀ (n : Nat) (P : List Nd), P.length ≤ n → IsV P → M P
  | 0, P, h, hP => by have := hP.pos; omega
  | n + 1, P, h, hP => by
    by_cases e5 : headOp P = 5
    · exact h5 P hP e5 fun Q hQ => val_ind M h1 h5 h6 n Q (by have := set_smaller hP e5 hQ; omega) ((isV_set hP e5).2.2.1 Q hQ)
    · by_cases e6 : headOp P = 6
      · exact h6 P hP e6 fun x hx => val_ind M h1 h5 h6 n x.2 (by have := rec_smaller hP e6 hx; omega) ((isV_rec hP e6).2.2.1 x hx).1
      · exact h1 P hP e5 e6
theorem valInd {M : List Nd → Prop} {P : List Nd} (hP : IsV P) (h1 : ∀ P, IsV P → headOp P ≠ 5 → headOp P ≠ 6 → M P) (h5 : ∀ P, IsV P → headOp P = 5 → (∀ Q ∈ setParts P, M Q) → M P) (h6 : ∀ P, IsV P → headOp P = 6 → (∀ x ∈ recParts P, M x.2) → M P) : M P :=
  val_ind M h1 h5 h6 _ P (Nat.le_refl _) hP
theorem join_all_valid : ∀ (L : List Kd) (a : Kd), a.valid → (∀ k ∈ L, k.valid) → (L.foldl joinK a).valid
  | [], _, h, _ => h
  | k :: r, a, h, h2 => join_all_valid r _ (join_valid _ a k (Nat.le_refl _) h (h2 k (by simp))) fun x hx => h2 x (by simp [hx])
theorem join_all_sz : ∀ (L : List Kd) (a : Kd), a.ok → (∀ k ∈ L, k.ok) → (L.foldl joinK a).sz ≤ a.sz + (L.map Kd.sz).sum
  | [], a, _, _ => by simp
  | k :: r, a, h, h2 => by
    have h3 := joinK_sz h (h2 k (by simp))
    have := join_all_sz r _ (join_ok _ a k (Nat.le_refl _) h (h2 k (by simp))) fun x hx => h2 x (by simp [hx])
    simp only [List.foldl_cons, List.map_cons, List.sum_cons]
    omega
theorem ofL_av : ∀ L : List Kfd, (∀ y ∈ L, nameFault y.1 = 0 ∧ y.2.2.valid) → (ofL L).av
  | [], _ => trivial
  | y :: r, h => ⟨(h y (by simp)).1, (h y (by simp)).2, ofL_av r fun x hx => h x (by simp [hx])⟩
theorem upB_pair : ∀ (L : List (ByteArray × List Nd)) (x : ByteArray), UpB x L → (∀ y ∈ L, cmpB x y.1 < 0) ∧ L.Pairwise fun a b => cmpB a.1 b.1 < 0
  | [], _, _ => ⟨fun _ h => (nomatch h), List.Pairwise.nil⟩
  | y :: r, x, h => by
    obtain ⟨h1, h2⟩ := h
    obtain ⟨h3, h4⟩ := upB_pair r y.1 h2
    refine ⟨fun z hz => ?_, List.pairwise_cons.2 ⟨h3, h4⟩⟩
    rcases List.mem_cons.1 hz with rfl | hz
    · exact h1
    · exact cmpB_cmp.lt_le h1 (by have := h3 z hz; omega)
theorem own_asc {P : List Nd} (hP : IsV P) (h : headOp P = 6) : (ofL ((recParts P).map fun x => (x.1, true, ownV x.2))).asc := by
  refine (ofL_asc _ ?_).1
  rw [List.pairwise_map]
  exact (upB_pair _ _ (isV_rec hP h).2.2.2).2
/-- It is a type. -/
theorem own_valid {P : List Nd} (hP : IsV P) : (ownV P).valid := by
  refine valInd (M := fun P => (ownV P).valid) hP ?_ ?_ ?_
  · intro P hP h5 h6
    rcases isV_op hP with h | h | h | h | h | h
    · rw [ownV_1 h]; simp [Kd.valid, baseOp]
    · rw [ownV_2 h]; simp [Kd.valid, baseOp]
    · rw [ownV_3 h]; simp [Kd.valid, baseOp]
    · rw [ownV_4 h]; exact isV_ent hP h
    · exact absurd h h5
    · exact absurd h h6
  · intro P hP h5 ih
    rw [ownV_5 hP h5]
    exact join_all_valid _ _ (by simp [Kd.valid, baseOp]) fun k hk => by
      obtain ⟨Q, hQ, rfl⟩ := List.mem_map.1 hk
      exact ih Q hQ
  · intro P hP h6 ih
    rw [ownV_6 hP h6]
    refine valid_fs.2 ⟨own_asc hP h6, ofL_av _ fun y hy => ?_⟩
    obtain ⟨x, hx, rfl⟩ := List.mem_map.1 hy
    exact ⟨((isV_rec hP h6).2.2.1 x hx).2, ih x hx⟩
theorem own_ok {P : List Nd} (hP : IsV P) : (ownV P).ok := (own_valid hP).ok
theorem sum_le {α : Type} (f g : α → Nat) : ∀ L : List α, (∀ x ∈ L, f x ≤ g x) → (L.map f).sum ≤ (L.map g).sum
  | [], _ => Nat.le_refl _
  | x :: r, h => by
    have h1 := h x (by simp)
    have h2 := sum_le f g r fun y hy => h y (by simp [hy])
    simp only [List.map_cons, List.sum_cons]
    omega
theorem sum_two {α : Type} (f : α → Nat) : ∀ L : List α, (L.map fun x => 2 * f x).sum = 2 * (L.map f).sum
  | [] => rfl
  | x :: r => by simp only [List.map_cons, List.sum_cons, sum_two f r]; omega
theorem ofL_sz : ∀ L : List Kfd, (ofL L).sz = (L.map fun y => y.2.2.sz + 1).sum
  | [] => rfl
  | y :: r => by simp only [ofL, Fl.sz, List.map_cons, List.sum_cons, ofL_sz r]; omega
theorem flatR_lenK : ∀ L : List (ByteArray × List Nd), (flatR L).length = (L.map fun x => x.2.length + 1).sum
  | [] => rfl
  | x :: r => by simp only [flatR, List.length_cons, List.length_append, List.map_cons, List.sum_cons, flatR_lenK r]; omega
/-- It is no greater than twice the value. -/
theorem own_sz {P : List Nd} (hP : IsV P) : (ownV P).sz ≤ 2 * P.length := by
  refine valInd (M := fun P => (ownV P).sz ≤ 2 * P.length) hP ?_ ?_ ?_
  · intro P hP h5 h6
    have hp := hP.pos
    rcases isV_op hP with h | h | h | h | h | h
    · rw [ownV_1 h]; simp only [Kd.sz]; omega
    · rw [ownV_2 h]; simp only [Kd.sz]; omega
    · rw [ownV_3 h]; simp only [Kd.sz]; omega
    · rw [ownV_4 h]; simp only [Kd.sz]; omega
    · exact absurd h h5
    · exact absurd h h6
  · intro P hP h5 ih
    rw [ownV_5 hP h5]
    obtain ⟨e, -, hv, -⟩ := isV_set hP h5
    have h1 := join_all_sz ((setParts P).map ownV) (.base 49) trivial fun k hk => by
      obtain ⟨Q, hQ, rfl⟩ := List.mem_map.1 hk
      exact own_ok (hv Q hQ)
    rw [List.map_map] at h1
    have h2 := sum_le (Kd.sz ∘ ownV) (fun Q => 2 * Q.length) (setParts P) fun Q hQ => ih Q hQ
    rw [sum_two] at h2
    rw [e, List.length_cons, flat_sum]
    simp only [Kd.sz, joinAll] at h1 ⊢
    rw [← e]
    omega
  · intro P hP h6 ih
    rw [ownV_6 hP h6]
    obtain ⟨e, -, hv, -⟩ := isV_rec hP h6
    have h2 := sum_le (fun x : ByteArray × List Nd => (ownV x.2).sz + 1) (fun x => 2 * (x.2.length + 1)) (recParts P) fun x hx => by have := ih x hx; omega
    rw [sum_two] at h2
    rw [e, List.length_cons, flatR_lenK]
    simp only [Kd.sz, ofL_sz, List.map_map, Function.comp_def]
    rw [← e]
    omega
end Go.Wk
namespace Go.Wk

/-- A field of the one is in the other as it must be. -/
def oneIn (g : Fl) (y : Kfd) : Bool := match g.find y.1 with | none => false | some (m', k') => (!m' || y.2.1) && belowK y.2.2 k'
theorem belowF_all (g : Fl) : ∀ f : Fl, belowF f g = f.list.all (oneIn g)
  | .nil => rfl
  | .cons s m k r => by
    rw [belowF, belowF_all g r, Fl.list, List.all_cons]
    rfl
theorem mustF_all (f : Fl) : ∀ g : Fl, mustF g f = g.list.all fun y => !y.2.1 || (f.find y.1).isSome
  | .nil => rfl
  | .cons s m k r => by
    rw [mustF, mustF_all f r, Fl.list, List.all_cons]
theorem all_take_succ {α : Type} {p : α → Bool} {L : List α} {i : Nat} (hi : i < L.length) (h : (L.take i).all p = true) (hx : p L[i] = true) : (L.take (i + 1)).all p = true := by
  rw [List.take_succ_eq_append_getElem hi, List.all_append, h, Bool.true_and, List.all_cons, hx]
  rfl
theorem all_bad {α : Type} {p : α → Bool} {L : List α} {i : Nat} (hi : i < L.length) (hx : p L[i] = false) : L.all p = false := by
  rw [List.all_eq_false]
  exact ⟨L[i], List.getElem_mem hi, by rw [hx]; simp⟩

theorem below_joinAll {c : Kd} (hc : c.ok) : ∀ (L : List Kd) (a : Kd), a.ok → (∀ k ∈ L, k.ok) → (belowK (L.foldl joinK a) c = true ↔ belowK a c = true ∧ ∀ k ∈ L, belowK k c = true)
  | [], a, _, _ => by simp
  | k :: r, a, ha, h => by
    rw [List.foldl_cons, below_joinAll hc r _ (join_ok _ a k (Nat.le_refl _) ha (h k (by simp))) (fun x hx => h x (by simp [hx])), below_join_iff ha (h k (by simp)) hc]
    constructor
    · rintro ⟨⟨h1, h2⟩, h3⟩
      refine ⟨h1, fun x hx => ?_⟩
      rcases List.mem_cons.1 hx with rfl | hx
      · exact h2
      · exact h3 x hx
    · rintro ⟨h1, h2⟩
      exact ⟨⟨h1, h2 k (by simp)⟩, fun x hx => h2 x (by simp [hx])⟩
/-- A set has a type of sets, if each part has that type. -/
theorem own_set {P : List Nd} (hP : IsV P) (h : headOp P = 5) {q : Kd} (hq : q.ok) : belowK (ownV P) (.set q) = true ↔ ∀ Q ∈ setParts P, belowK (ownV Q) q = true := by
  have hv := (isV_set hP h).2.2.1
  rw [ownV_5 hP h, below_set]
  unfold joinAll
  constructor
  · rintro (h1 | ⟨q', h1, h2⟩)
    · cases h1
    · injection h1 with h1
      subst h1
      rw [below_joinAll hq _ (.base 49) trivial (fun k hk => by obtain ⟨Q, hQ, rfl⟩ := List.mem_map.1 hk; exact own_ok (hv Q hQ))] at h2
      exact fun Q hQ => h2.2 _ (List.mem_map.2 ⟨Q, hQ, rfl⟩)
  · intro h1
    refine .inr ⟨q, rfl, ?_⟩
    rw [below_joinAll hq _ (.base 49) trivial (fun k hk => by obtain ⟨Q, hQ, rfl⟩ := List.mem_map.1 hk; exact own_ok (hv Q hQ))]
    exact ⟨none_below _ _ rfl, fun k hk => by obtain ⟨Q, hQ, rfl⟩ := List.mem_map.1 hk; exact h1 Q hQ⟩
/-- A record has a type of records, if each field is in it with its type, and what must be there is. -/
theorem own_rec {P : List Nd} (hP : IsV P) (h : headOp P = 6) {f : Fl} (hf : f.asc) : belowK (ownV P) (.fs f) = true ↔
    (∀ x ∈ recParts P, ∃ m k, f.find x.1 = some (m, k) ∧ belowK (ownV x.2) k = true) ∧ (∀ s k, f.find s = some (true, k) → ∃ x ∈ recParts P, x.1 = s) := by
  have ha := own_asc hP h
  have hm : ∀ s m k, (ofL ((recParts P).map fun x => (x.1, true, ownV x.2))).find s = some (m, k) ↔ ∃ x ∈ recParts P, x.1 = s ∧ m = true ∧ k = ownV x.2 := fun s m k => by
    rw [find_list ha, ofL_list, List.mem_map]
    constructor
    · rintro ⟨x, hx, e⟩
      simp only [Prod.mk.injEq] at e
      exact ⟨x, hx, e.1, e.2.1.symm, e.2.2.symm⟩
    · rintro ⟨x, hx, rfl, rfl, rfl⟩
      exact ⟨x, hx, rfl⟩
  rw [ownV_6 hP h, below_fs]
  constructor
  · rintro (h1 | ⟨g, h1, h2, h3⟩)
    · cases h1
    · injection h1 with h1
      subst h1
      rw [belowF_iff ha] at h2
      rw [mustF_iff hf] at h3
      refine ⟨fun x hx => ?_, fun s k hs => ?_⟩
      · obtain ⟨m', k', e1, -, e2⟩ := h2 x.1 true (ownV x.2) ((hm _ _ _).2 ⟨x, hx, rfl, rfl, rfl⟩)
        exact ⟨m', k', e1, e2⟩
      · have := h3 s k hs
        rw [Option.isSome_iff_exists] at this
        obtain ⟨⟨m, k'⟩, e⟩ := this
        obtain ⟨x, hx, e1, -, -⟩ := (hm _ _ _).1 e
        exact ⟨x, hx, e1⟩
  · rintro ⟨h1, h2⟩
    refine .inr ⟨f, rfl, (belowF_iff ha).2 fun s m k hs => ?_, (mustF_iff hf).2 fun s k hs => ?_⟩
    · obtain ⟨x, hx, rfl, rfl, rfl⟩ := (hm _ _ _).1 hs
      obtain ⟨m', k', e1, e2⟩ := h1 x hx
      exact ⟨m', k', e1, fun _ => rfl, e2⟩
    · obtain ⟨x, hx, rfl⟩ := h2 s k hs
      rw [(hm _ _ _).2 ⟨x, hx, rfl, rfl, rfl⟩]
      rfl
end Go.Wk
namespace Go.Wk

def fldNd (s : ByteArray) (m : Bool) : Nd := ⟨47, if m = true then 1 else 0, s, emp⟩
/-- At q stands a field's node, its type behind it. -/
structure KFld (t : List Nd) (q : Nat) (s : ByteArray) (m : Bool) (k : Kd) : Prop where
  nd : t[q]? = some (fldNd s m)
  valid : k.valid
  drop : ∃ r, t.drop (q + 1) = k.flat ++ r
theorem KFld.end_ {t : List Nd} {q : Nat} {s : ByteArray} {m : Bool} {k : Kd} (h : KFld t q s m k) : kEnd t (q + 1) = ((q + 1 + k.flat.length : Nat) : Int) := by
  obtain ⟨r, e⟩ := h.drop
  exact kEnd_flat h.valid e
theorem flat_pos (k : Kd) : 1 ≤ k.flat.length := by cases k <;> simp [Kd.flat]
theorem KFld.le {t : List Nd} {q : Nat} {s : ByteArray} {m : Bool} {k : Kd} (h : KFld t q s m k) : q + 1 + k.flat.length ≤ t.length := by
  obtain ⟨r, e⟩ := h.drop
  have h1 := congrArg List.length e
  rw [List.length_drop, List.length_append] at h1
  have := flat_pos k
  omega
theorem KFld.seg {t : List Nd} {q : Nat} {s : ByteArray} {m : Bool} {k : Kd} (h : KFld t q s m k) : seg t (q + 1) (q + 1 + k.flat.length) = k.flat := by
  obtain ⟨r, e⟩ := h.drop
  unfold Wk.seg
  rw [e, show q + 1 + k.flat.length - (q + 1) = k.flat.length by omega, List.take_left]
theorem len_list' : ∀ f : Fl, f.list.length = f.len
  | .nil => rfl
  | .cons _ _ _ r => by simp [Fl.list, Fl.len, len_list' r]
theorem posF_len : ∀ (f : Fl) (p : Nat), (posF p f).length = f.len
  | .nil, _ => rfl
  | .cons _ _ _ r, p => by simp [posF, Fl.len, posF_len r]
/-- What is left of the fields from a place on. -/
structure KLeft (t : List Nd) (p : Nat) (g : Fl) : Prop where
  valid : ∃ x, g.validFrom x
  drop : ∃ r, t.drop p = g.flat ++ r
theorem KLeft.head {t : List Nd} {p : Nat} {s : ByteArray} {m : Bool} {k : Kd} {r : Fl} (h : KLeft t p (.cons s m k r)) : KFld t p s m k ∧ KLeft t (p + 1 + k.flat.length) r := by
  obtain ⟨⟨x, v1, v2, v3, v4⟩, ⟨u, e⟩⟩ := h
  simp only [Fl.flat, List.cons_append, List.append_assoc] at e
  have h0 : t[p]? = some (fldNd s m) := by
    have := congrArg (fun l => l[0]?) e
    simpa [fldNd] using this
  have h1 : t.drop (p + 1) = k.flat ++ (r.flat ++ u) := by
    have := congrArg (List.drop 1) e
    rw [List.drop_drop] at this
    simpa using this
  refine ⟨⟨h0, v3, _, h1⟩, ⟨s, v4⟩, u, ?_⟩
  have := congrArg (List.drop k.flat.length) h1
  rw [List.drop_drop, List.drop_left] at this
  exact this
theorem KLeft.start {f : Fl} (h : f.validFrom emp) : KLeft (Kd.fs f).flat 1 f := ⟨⟨_, h⟩, [], by simp [Kd.flat]⟩
theorem KLeft.at {t : List Nd} : ∀ {f : Fl} {p : Nat}, KLeft t p f → ∀ (i : Nat) (y : Kfd), f.list[i]? = some y → ∃ q : Nat, (posF p f)[i]? = some q ∧ KFld t q y.1 y.2.1 y.2.2
  | .nil, _, _, i, y, h => by simp [Fl.list] at h
  | .cons s m k r, p, hL, i, y, h => by
    obtain ⟨h1, h2⟩ := hL.head
    cases i with
    | zero =>
      simp only [Fl.list, List.getElem?_cons_zero, Option.some.injEq] at h
      subst h
      exact ⟨p, by simp [posF], h1⟩
    | succ i =>
      simp only [Fl.list, List.getElem?_cons_succ] at h
      obtain ⟨q, e1, e2⟩ := h2.at i y h
      exact ⟨q, by simpa [posF] using e1, e2⟩
/-- Where the field of a name stands; below 0: nowhere. -/
def posOf : Nat → Fl → ByteArray → Int
  | _, .nil, _ => -1
  | p, .cons t _ k r, s => if t = s then (p : Int) else posOf (p + 1 + k.flat.length) r s
theorem posOf_none {s : ByteArray} : ∀ {f : Fl} {p : Nat}, f.find s = none → posOf p f s = -1
  | .nil, _, _ => rfl
  | .cons t m k r, p, h => by
    simp only [Fl.find] at h
    split at h
    · cases h
    · rename_i hn
      simp only [posOf, if_neg hn]
      exact posOf_none h
theorem posOf_some {t : List Nd} {s : ByteArray} {m : Bool} {k : Kd} : ∀ {f : Fl} {p : Nat}, KLeft t p f → f.find s = some (m, k) → ∃ q : Nat, posOf p f s = (q : Int) ∧ KFld t q s m k
  | .nil, _, _, h => by cases h
  | .cons u m' k' r, p, hL, h => by
    obtain ⟨h1, h2⟩ := hL.head
    simp only [Fl.find] at h
    split at h
    · rename_i e
      subst e
      simp only [Option.some.injEq, Prod.mk.injEq] at h
      obtain ⟨rfl, rfl⟩ := h
      exact ⟨p, by simp [posOf], h1⟩
    · rename_i hn
      obtain ⟨q, e1, e2⟩ := posOf_some h2 h
      exact ⟨q, by simp only [posOf, if_neg hn]; exact e1, e2⟩
/-- Below, as the reference's two loops have it. -/
def oneR (g : Fl) (y : Kfd) : Bool := match g.find y.1 with | none => false | some (_, k') => belowK y.2.2 k'
def mustR (f : Fl) (z : Kfd) : Bool := !z.2.1 || (match f.find z.1 with | none => false | some (m, _) => m)
theorem below_ref {f g : Fl} (hf : f.asc) (hg : g.asc) : (f.list.all (oneR g) && g.list.all (mustR f)) = (belowF f g && mustF g f) := by
  rw [Bool.eq_iff_iff, Bool.and_eq_true, Bool.and_eq_true, belowF_iff hf, mustF_iff hg, List.all_eq_true, List.all_eq_true]
  constructor
  · rintro ⟨h1, h2⟩
    refine ⟨fun s m k hs => ?_, fun s k hs => ?_⟩
    · have h3 := h1 _ ((find_list hf).1 hs)
      unfold oneR at h3
      rcases hg2 : g.find s with _ | ⟨m', k'⟩
      · simp only [hg2] at h3; cases h3
      · simp only [hg2] at h3
        refine ⟨m', k', rfl, fun e => ?_, h3⟩
        subst e
        have h4 := h2 _ ((find_list hg).1 hg2)
        unfold mustR at h4
        simpa [hs] using h4
    · have h4 := h2 _ ((find_list hg).1 hs)
      unfold mustR at h4
      rcases hf2 : f.find s with _ | v
      · simp [hf2] at h4
      · rfl
  · rintro ⟨h1, h2⟩
    refine ⟨fun y hy => ?_, fun z hz => ?_⟩
    · obtain ⟨s, m, k⟩ := y
      obtain ⟨m', k', e1, -, e2⟩ := h1 s m k ((find_list hf).2 hy)
      unfold oneR
      simp only [e1, e2]
    · obtain ⟨s, m, k⟩ := z
      have e1 := (find_list hg).2 hz
      unfold mustR
      cases m with
      | false => rfl
      | true =>
        have h3 := h2 s k e1
        rw [Option.isSome_iff_exists] at h3
        obtain ⟨⟨m1, k1⟩, e2⟩ := h3
        obtain ⟨m', k', e3, e4, -⟩ := h1 s m1 k1 e2
        rw [e1] at e3
        simp only [Option.some.injEq, Prod.mk.injEq] at e3
        simp [e2, e4 e3.1.symm]
/-- The next name: the least above last. -/
def nextStep (last nx s : ByteArray) : ByteArray := if 0 < cmpB s last ∧ (nx = emp ∨ cmpB s nx < 0) then s else nx
theorem emp_least {s : ByteArray} (h : s ≠ emp) : cmpB emp s < 0 := by
  rcases Int.lt_trichotomy (cmpB emp s) 0 with q | q | q
  · exact q
  · exact absurd ((cmpB_cmp.zero _ _).1 q).symm h
  · exfalso
    have h1 : cmpB s emp < 0 := by have := cmpB_cmp.anti emp s; omega
    revert h1
    unfold cmpB
    show Lib.compareBytes s.data.toList [] < 0 → False
    cases s.data.toList <;> simp [Lib.compareBytes]
/-- What is known of the next name behind some of the names. -/
structure NextIs (L : List ByteArray) (last nx : ByteArray) : Prop where
  in_ : nx ≠ emp → nx ∈ L ∧ 0 < cmpB nx last
  low : ∀ s ∈ L, 0 < cmpB s last → nx ≠ emp ∧ ¬ cmpB s nx < 0
theorem NextIs.nil (last : ByteArray) : NextIs [] last emp := ⟨fun h => absurd rfl h, fun _ h => nomatch h⟩
theorem NextIs.step {L : List ByteArray} {last nx s : ByteArray} (h : NextIs L last nx) (hs : s ≠ emp) : NextIs (L ++ [s]) last (nextStep last nx s) := by
  unfold nextStep
  split
  · rename_i hc
    refine ⟨fun _ => ⟨by simp, hc.1⟩, fun u hu hul => ⟨hs, ?_⟩⟩
    rcases List.mem_append.1 hu with h1 | h1
    · obtain ⟨h2, h3⟩ := h.low u h1 hul
      have h4 := hc.2.resolve_left h2
      intro h5
      exact h3 (cmpB_cmp.lt_le h5 (by omega))
    · simp only [List.mem_cons, List.not_mem_nil, or_false] at h1
      subst h1
      rw [cmpB_cmp.self]; omega
  · rename_i hc
    refine ⟨fun hn => ⟨by simp [(h.in_ hn).1], (h.in_ hn).2⟩, fun u hu hul => ?_⟩
    rcases List.mem_append.1 hu with h1 | h1
    · exact h.low u h1 hul
    · simp only [List.mem_cons, List.not_mem_nil, or_false] at h1
      subst h1
      exact ⟨fun e => hc ⟨hul, .inl e⟩, fun e => hc ⟨hul, .inr e⟩⟩
theorem mem_find {f : Fl} {s : ByteArray} : s ∈ f.list.map (·.1) ↔ (f.find s).isSome = true := by
  rcases h : f.find s with _ | v
  · rw [find_none] at h
    simp only [List.mem_map, Option.isSome_none, Bool.false_eq_true, iff_false]
    rintro ⟨y, hy, e⟩
    exact h y hy e
  · simp only [Option.isSome_some, iff_true]
    apply Classical.byContradiction
    intro hn
    have : f.find s = none := find_none.2 fun y hy e => hn (List.mem_map.2 ⟨y, hy, e⟩)
    rw [this] at h; cases h
/-- The fields of the least above both. -/
def joinL (f g : Fl) : List Kfd := (joinF f g (restF g f)).list
def lastN (J : List Kfd) (i : Nat) : ByteArray := match i with | 0 => emp | i + 1 => (J[i]?.map (·.1)).getD emp
theorem valid_ne {x : ByteArray} : ∀ {f : Fl}, f.validFrom x → ∀ y ∈ f.list, y.1 ≠ emp
  | .nil, _, y, hy => by cases hy
  | .cons s m k r, h, y, hy => by
    rcases List.mem_cons.1 hy with rfl | hy
    · intro e
      have h1 := h.2.1
      simp only at e
      rw [e] at h1
      revert h1; decide
    · exact valid_ne h.2.2.2 y hy
theorem joinL_names {f g : Fl} (hf : f.asc) (s : ByteArray) : s ∈ (joinL f g).map (·.1) ↔ s ∈ f.list.map (·.1) ++ g.list.map (·.1) := by
  unfold joinL
  rw [mem_find, join_find hf, List.mem_append, mem_find, mem_find]
  rcases f.find s with _ | ⟨m, k⟩ <;> rcases g.find s with _ | ⟨m', k'⟩ <;> simp [jn]
/-- The next name is that of the next field of the least above both; there is none behind the last one. -/
theorem next_at {f g : Fl} (hf : f.validFrom emp) (hg : g.validFrom emp) (af : f.asc) (ag : g.asc) {i : Nat} (hi : i ≤ (joinL f g).length) {nx : ByteArray} (h : NextIs (f.list.map (·.1) ++ g.list.map (·.1)) (lastN (joinL f g) i) nx) :
    (∀ hl : i < (joinL f g).length, nx = (joinL f g)[i].1 ∧ nx ≠ emp) ∧ (i = (joinL f g).length → nx = emp) := by
  have hp := list_asc (join_asc af ag)
  have hnm := joinL_names (g := g) af
  have hne : ∀ y ∈ joinL f g, y.1 ≠ emp := fun y hy e => by
    have := (hnm y.1).1 (List.mem_map.2 ⟨y, hy, rfl⟩)
    rw [List.mem_append, List.mem_map, List.mem_map] at this
    rcases this with ⟨z, hz, e2⟩ | ⟨z, hz, e2⟩
    · exact valid_ne hf z hz (e2.trans e)
    · exact valid_ne hg z hz (e2.trans e)
  have hp' : (joinL f g).Pairwise fun a b => cmpB a.1 b.1 < 0 := hp
  generalize joinL f g = J at *
  have up : ∀ j (hj : j < J.length), i ≤ j → 0 < cmpB J[j].1 (lastN J i) := fun j hj hij => by
    have h1 : cmpB (lastN J i) J[j].1 < 0 := by
      cases i with
      | zero => exact emp_least (hne _ (List.getElem_mem hj))
      | succ i =>
        have : lastN J (i + 1) = J[i].1 := by simp [lastN, List.getElem?_eq_getElem (show i < J.length by omega)]
        rw [this]
        exact List.pairwise_iff_getElem.1 hp' i j (by omega) hj (by omega)
    have := cmpB_cmp.anti (lastN J i) J[j].1
    omega
  have down : ∀ j (hj : j < J.length), j < i → ¬ 0 < cmpB J[j].1 (lastN J i) := fun j hj hij => by
    cases i with
    | zero => omega
    | succ i =>
      have : lastN J (i + 1) = J[i].1 := by simp [lastN, List.getElem?_eq_getElem (show i < J.length by omega)]
      rw [this]
      rcases Nat.lt_or_ge j i with q | q
      · have := List.pairwise_iff_getElem.1 hp' j i hj (by omega) q
        omega
      · have : j = i := by omega
        subst this
        rw [cmpB_cmp.self]; omega
  constructor
  · intro hl
    have h1 := h.low J[i].1 ((hnm _).1 (List.mem_map.2 ⟨_, List.getElem_mem hl, rfl⟩)) (up i hl (Nat.le_refl _))
    obtain ⟨h2, h3⟩ := h.in_ h1.1
    obtain ⟨y, hy, e⟩ := List.mem_map.1 ((hnm _).2 h2)
    obtain ⟨j, hj, rfl⟩ := List.getElem_of_mem hy
    refine ⟨?_, h1.1⟩
    rcases Nat.lt_trichotomy j i with q | q | q
    · exact absurd (e ▸ h3) (down j hj q)
    · subst q; exact e.symm
    · have := List.pairwise_iff_getElem.1 hp' i j hl hj q
      rw [e] at this
      exact absurd this h1.2
  · intro he
    apply Decidable.byContradiction
    intro hn
    obtain ⟨h2, h3⟩ := h.in_ hn
    obtain ⟨y, hy, e⟩ := List.mem_map.1 ((hnm _).2 h2)
    obtain ⟨j, hj, rfl⟩ := List.getElem_of_mem hy
    exact down j hj (by omega) (e ▸ h3)
/-- What the next field is. -/
theorem join_at {f g : Fl} (af : f.asc) (ag : g.asc) {i : Nat} (hi : i < (joinL f g).length) : jn (f.find (joinL f g)[i].1) (g.find (joinL f g)[i].1) = some ((joinL f g)[i].2.1, (joinL f g)[i].2.2) := by
  rw [← join_find af]
  exact (find_list (join_asc af ag)).2 (List.getElem_mem hi)
theorem flat_eq : ∀ n : Nat, (∀ k : Kd, k.sz ≤ n → k.flat.length = k.sz) ∧ (∀ f : Fl, f.sz ≤ n → f.flat.length = f.sz)
  | 0 => by
    refine ⟨fun k h => by cases k <;> simp [Kd.sz] at h, fun f h => ?_⟩
    cases f with
    | nil => rfl
    | cons s m k r => simp [Fl.sz] at h
  | n + 1 => by
    obtain ⟨ihK, ihF⟩ := flat_eq n
    refine ⟨fun k h => ?_, fun f h => ?_⟩
    · cases k with
      | base x => rfl
      | ent s => rfl
      | set p => simp only [Kd.sz] at h; simp only [Kd.flat, Kd.sz, List.length_cons]; rw [ihK p (by omega)]
      | fs f => simp only [Kd.sz] at h; simp only [Kd.flat, Kd.sz, List.length_cons]; rw [ihF f (by omega)]
    · cases f with
      | nil => rfl
      | cons s m k r =>
        simp only [Fl.sz] at h
        simp only [Fl.flat, Fl.sz, List.length_cons, List.length_append]
        rw [ihK k (by omega), ihF r (by omega)]
theorem flat_len (k : Kd) : k.flat.length = k.sz := (flat_eq _).1 k (Nat.le_refl _)
theorem flat_lenF (f : Fl) : f.flat.length = f.sz := (flat_eq _).2 f (Nat.le_refl _)
theorem ofL_flat_snoc (L : List Kfd) (y : Kfd) : (ofL (L ++ [y])).flat = (ofL L).flat ++ (fldNd y.1 y.2.1 :: y.2.2.flat) := by
  induction L with
  | nil => simp [ofL, Fl.flat, fldNd]
  | cons z r ih => simp only [List.cons_append, ofL, Fl.flat, ih, List.append_assoc]
/-- What joinRecs has written ahead of its i-th round. -/
def outJ (n : Int) (J : List Kfd) (i : Nat) : List Nd := ⟨46, n, emp, emp⟩ :: (ofL (J.take i)).flat
theorem outJ_step {J : List Kfd} {i : Nat} (h : i < J.length) (n : Int) : outJ n J (i + 1) = ⟨46, n, emp, emp⟩ :: ((ofL (J.take i)).flat ++ [fldNd J[i].1 J[i].2.1] ++ J[i].2.2.flat) := by
  unfold outJ
  rw [List.take_succ_eq_append_getElem h, ofL_flat_snoc, List.append_assoc]
  rfl
theorem outJ_all {f g : Fl} : outJ ((joinL f g).length : Int) (joinL f g) (joinL f g).length = (Kd.fs (joinF f g (restF g f))).flat := by
  unfold outJ joinL
  rw [List.take_length, list_ofL, len_list', Kd.flat]
theorem ofL_take_sz : ∀ (J : List Kfd) (i : Nat), (ofL (J.take i)).sz ≤ (ofL J).sz
  | [], _ => by simp
  | y :: r, 0 => by simp [ofL, Fl.sz]
  | y :: r, i + 1 => by
    have := ofL_take_sz r i
    simp only [List.take_succ_cons, ofL, Fl.sz]
    omega
theorem outJ_len (n : Int) (J : List Kfd) (i : Nat) : (outJ n J i).length ≤ (ofL J).sz + 1 := by
  unfold outJ
  rw [List.length_cons, flat_lenF]
  have := ofL_take_sz J i
  omega
theorem name_small {s : ByteArray} (h : nameFault s = 0) : s.size ≤ 20 := by
  unfold nameFault at h
  split at h
  · split at h
    · cases h
    · omega
  · cases h
theorem valid_mem : ∀ {f : Fl} {x : ByteArray}, f.validFrom x → ∀ y ∈ f.list, nameFault y.1 = 0 ∧ y.2.2.valid
  | .nil, _, _, y, hy => by cases hy
  | .cons s m k r, _, h, y, hy => by
    rcases List.mem_cons.1 hy with rfl | hy
    · exact ⟨h.2.1, h.2.2.1⟩
    · exact valid_mem h.2.2.2 y hy
end Go.Wk
namespace Go.Wk

/-- A part of a record has the type that its field has. -/
def hasOne (f : Fl) (x : ByteArray × List Nd) : Bool := match f.find x.1 with | none => false | some (_, k) => belowK (ownV x.2) k
/-- What must be there is. -/
def hasMust (R : List (ByteArray × List Nd)) (z : Kfd) : Bool := !z.2.1 || R.any fun x => decide (x.1 = z.1)
theorem has_rec {P : List Nd} (hP : IsV P) (h : headOp P = 6) {f : Fl} (hf : f.asc) : belowK (ownV P) (.fs f) = ((recParts P).all (hasOne f) && f.list.all (hasMust (recParts P))) := by
  rw [Bool.eq_iff_iff, own_rec hP h hf, Bool.and_eq_true, List.all_eq_true, List.all_eq_true]
  constructor
  · rintro ⟨h1, h2⟩
    refine ⟨fun x hx => ?_, fun z hz => ?_⟩
    · obtain ⟨m, k, e1, e2⟩ := h1 x hx
      unfold hasOne
      rw [e1]; exact e2
    · obtain ⟨s, m, k⟩ := z
      unfold hasMust
      cases m with
      | false => rfl
      | true =>
        obtain ⟨x, hx, e⟩ := h2 s k ((find_list hf).2 hz)
        simp only [Bool.not_true, Bool.false_or, List.any_eq_true, decide_eq_true_eq]
        exact ⟨x, hx, e⟩
  · rintro ⟨h1, h2⟩
    refine ⟨fun x hx => ?_, fun s k hs => ?_⟩
    · have h3 := h1 x hx
      unfold hasOne at h3
      rcases hfd : f.find x.1 with _ | ⟨m, k⟩
      · rw [hfd] at h3; cases h3
      · rw [hfd] at h3
        exact ⟨m, k, rfl, h3⟩
    · have h3 := h2 _ ((find_list hf).1 hs)
      unfold hasMust at h3
      simp only [Bool.not_true, Bool.false_or, List.any_eq_true, decide_eq_true_eq] at h3
      exact h3
theorem has_set {P : List Nd} (hP : IsV P) (h : headOp P = 5) {q : Kd} (hq : q.ok) : belowK (ownV P) (.set q) = (setParts P).all fun Q => belowK (ownV Q) q := by
  rw [Bool.eq_iff_iff, own_set hP h hq, List.all_eq_true]
theorem has_base {P : List Nd} (hP : IsV P) {x : Int} (hx : baseOp x) (h48 : x ≠ 48) : belowK (ownV P) (.base x) = decide (headOp P = x - 40) := by
  have hb : x = 41 ∨ x = 42 ∨ x = 43 ∨ x = 49 := by unfold baseOp at hx; omega
  have hd : ∀ n : Nat, headOp P = n → decide (headOp P = x - 40) = decide ((n : Int) = x - 40) := fun n e => by rw [e]
  rcases isV_op hP with h | h | h | h | h | h
  all_goals
    unfold ownV ownK
    simp only [h]
    rcases hb with rfl | rfl | rfl | rfl <;> simp [belowK, isAny]
theorem has_ent {P : List Nd} (hP : IsV P) {s : ByteArray} : belowK (ownV P) (.ent s) = (decide (headOp P = 4) && decide (headS P = s)) := by
  rcases isV_op hP with h | h | h | h | h | h
  all_goals
    unfold ownV ownK
    simp only [h]
    simp [belowK, isAny]
theorem has_not {P : List Nd} (hP : IsV P) {k : Kd} (h : (∃ q, k = .set q) ∧ headOp P ≠ 5 ∨ (∃ f, k = .fs f) ∧ headOp P ≠ 6) : belowK (ownV P) k = false := by
  rcases h with ⟨⟨q, rfl⟩, hn⟩ | ⟨⟨f, rfl⟩, hn⟩
  · rcases isV_op hP with h | h | h | h | h | h
    · unfold ownV ownK; simp [h, belowK, isAny]
    · unfold ownV ownK; simp [h, belowK, isAny]
    · unfold ownV ownK; simp [h, belowK, isAny]
    · unfold ownV ownK; simp [h, belowK, isAny]
    · exact absurd h hn
    · unfold ownV ownK; simp [h, belowK, isAny]
  · rcases isV_op hP with h | h | h | h | h | h
    · unfold ownV ownK; simp [h, belowK, isAny]
    · unfold ownV ownK; simp [h, belowK, isAny]
    · unfold ownV ownK; simp [h, belowK, isAny]
    · unfold ownV ownK; simp [h, belowK, isAny]
    · unfold ownV ownK; simp [h, belowK, isAny]
    · exact absurd h hn
theorem parts_len_le : ∀ L : List (List Nd), (∀ Q ∈ L, IsV Q) → L.length ≤ L.flatten.length
  | [], _ => Nat.zero_le _
  | Q :: L, h => by
    have := (h Q (by simp)).pos
    have := parts_len_le L (fun R hR => h R (by simp [hR]))
    simp only [List.length_cons, List.flatten_cons, List.length_append]
    omega
theorem set_len200 {P : List Nd} (hl : P.length ≤ 200) (hV : IsV P) (h5 : headOp P = 5) : (setParts P).length ≤ 200 := by
  obtain ⟨e, -, h3, -⟩ := isV_set hV h5
  have := congrArg List.length e
  have := parts_len_le _ h3
  simp only [List.length_cons] at *
  omega
theorem flatR_name {L : List (ByteArray × List Nd)} {x : ByteArray × List Nd} (h : x ∈ L) : ∃ y ∈ flatR L, y.s = x.1 := by
  induction L with
  | nil => cases h
  | cons a r ih =>
    rcases List.mem_cons.1 h with rfl | h
    · exact ⟨fieldN x.1, by simp [flatR], rfl⟩
    · obtain ⟨y, hy, e⟩ := ih h
      exact ⟨y, by simp [flatR, hy], e⟩
theorem rec_name_in {P : List Nd} (hV : IsV P) (h6 : headOp P = 6) {x : ByteArray × List Nd} (hx : x ∈ recParts P) : ∃ y ∈ P, y.s = x.1 := by
  obtain ⟨e, -, -, -⟩ := isV_rec hV h6
  obtain ⟨y, hy, ey⟩ := flatR_name hx
  exact ⟨y, by rw [e]; simp [hy], ey⟩
end Go.Wk
