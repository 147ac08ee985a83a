/-
  The contract of the reference's Fits: the table from behind.
-/
import Derived.Test.YtfbgaefbalbohaaDoorLike
namespace Go.Proofs.YtfbgaefbalbohaaDoor
open Go.RowKit Go.Wk

/-- What a pattern has at a place. -/
def signAt (l : List UInt8) (k : Nat) : Option UInt8 :=
  if l.getD k 0 = 42 then none else if l.getD k 0 = 92 ∧ k + 1 < l.length ∧ l.getD (k + 1) 0 = 42 then some 42 else some (l.getD k 0)
/-- Places and their signs. -/
def Pos (l : List UInt8) (E : List Nat) (Q : List (Option UInt8)) : Prop := E.length = Q.length ∧ ∀ (t e : Nat) (x : Option UInt8), E[t]? = some e → Q[t]? = some x → e < l.length ∧ signAt l e = x
theorem Pos.nil (l : List UInt8) : Pos l [] [] := ⟨rfl, fun t e x h => by simp at h⟩
theorem Pos.snoc {l : List UInt8} {E : List Nat} {Q : List (Option UInt8)} (h : Pos l E Q) {k : Nat} (hk : k < l.length) : Pos l (E ++ [k]) (Q ++ [signAt l k]) := by
  refine ⟨by simp [h.1], fun t e x he hx => ?_⟩
  by_cases ht : t < E.length
  · rw [List.getElem?_append_left ht] at he
    rw [List.getElem?_append_left (by rw [← h.1]; exact ht)] at hx
    exact h.2 t e x he hx
  · rw [List.getElem?_append_right (by omega)] at he
    rw [List.getElem?_append_right (by rw [← h.1]; omega)] at hx
    rw [h.1] at he
    rcases Nat.eq_zero_or_pos (t - Q.length) with h0 | h0
    · rw [h0] at he hx
      simp at he hx
      subst he; subst hx
      exact ⟨hk, rfl⟩
    · rw [List.getElem?_eq_none (by simp; omega)] at he; cases he
/-- How many bytes the sign there takes. -/
def wid (l : List UInt8) (e : Nat) : Nat := if signAt l e = some 42 ∧ l.getD e 0 = 92 then e + 2 else e + 1
/-- .. one behind the other, up to a place. -/
def PosN (l : List UInt8) (E : List Nat) (Q : List (Option UInt8)) (k : Nat) : Prop := Pos l E Q ∧ ∀ t, (h : t < E.length) → (E ++ [k])[t + 1]? = some (wid l E[t])
theorem PosN.nil (l : List UInt8) : PosN l [] [] 0 := ⟨Pos.nil l, fun t h => by simp at h⟩
theorem PosN.snoc {l : List UInt8} {E : List Nat} {Q : List (Option UInt8)} {k : Nat} (h : PosN l E Q k) (hk : k < l.length) : PosN l (E ++ [k]) (Q ++ [signAt l k]) (if signAt l k = some 42 ∧ l.getD k 0 = 92 then k + 2 else k + 1) := by
  refine ⟨h.1.snoc hk, fun t ht => ?_⟩
  by_cases hlt : t < E.length
  · rw [List.getElem?_append_left (by simp; omega)]
    have := h.2 t hlt
    rw [this, List.getElem_append_left hlt]
  · have e : t = E.length := by simp at ht; omega
    subst e
    rw [List.getElem?_append_right (by simp)]
    simp [wid]
theorem signs_at {l : List UInt8} {k : Nat} (h : k < l.length) : signs (l.drop k) = signAt l k :: signs (l.drop (if signAt l k = some 42 ∧ l.getD k 0 = 92 then k + 2 else k + 1)) := by
  have g : l.getD k 0 = l[k] := by simp [h]
  unfold signAt
  rw [g]
  by_cases h1 : l[k] = 42
  · rw [if_pos h1, if_neg (by simp), signs_star h h1]
  · rw [if_neg h1]
    by_cases h2 : l[k] = 92 ∧ k + 1 < l.length ∧ l.getD (k + 1) 0 = 42
    · rw [if_pos h2, if_pos ⟨rfl, h2.1⟩, signs_two h2.2.1 h2.1 (by have := h2.2.2; simpa [h2.2.1] using this)]
    · rw [if_neg h2, if_neg (fun q => by have := q.1; simp at this; exact h1 this), signs_byte h h1 (fun q => h2 ⟨q.1, q.2.1, by obtain ⟨_, q1, q2⟩ := q; simpa [q1] using q2⟩)]

def isStar (s : ByteArray) (k : Nat) : Bool := decide (s.data.toList.getD k 0 = 92) && decide (k + 1 < s.size) && decide (s.data.toList.getD (k + 1) 0 = 42)
theorem getD_at {s : ByteArray} {k : Nat} (h : k < s.size) : s.data.toList.getD k 0 = s[k] := by
  have h' : k < s.data.toList.length := by simpa using h
  rw [List.getD_eq_getElem?_getD, List.getElem?_eq_getElem h']; rfl

theorem isStar_iff (s : ByteArray) (k : Nat) : isStar s k = true ↔ s.data.toList.getD k 0 = 92 ∧ k + 1 < s.size ∧ s.data.toList.getD (k + 1) 0 = 42 := by
  unfold isStar; simp only [Bool.and_eq_true, decide_eq_true_eq, and_assoc]
theorem next_place {s : ByteArray} {k : Nat} (_h : k < s.data.toList.length) : (if signAt s.data.toList k = some 42 ∧ s.data.toList.getD k 0 = 92 then k + 2 else k + 1) = if isStar s k = true then k + 2 else k + 1 := by
  have e : (signAt s.data.toList k = some 42 ∧ s.data.toList.getD k 0 = 92) ↔ isStar s k = true := by
    rw [isStar_iff]
    unfold signAt
    rw [show s.data.toList.length = s.size from Array.length_toList]
    constructor
    · rintro ⟨h1, h2⟩
      rw [h2, if_neg (by decide)] at h1
      by_cases c : (92 : UInt8) = 92 ∧ k + 1 < s.size ∧ s.data.toList.getD (k + 1) 0 = 42
      · exact ⟨h2, c.2⟩
      · rw [if_neg c] at h1; exact absurd h1 (by decide)
    · rintro ⟨h1, h2⟩
      rw [h1, if_neg (by decide), if_pos ⟨rfl, h2⟩]
      exact ⟨rfl, rfl⟩
  simp only [e]

set_option maxHeartbeats 400000 in
theorem ref_star (s : ByteArray) (k : Nat) (w : World) (hk : k < s.size) (hs : s.size ≤ 60) :
    Calls Tryd.prog 81 #[.string s, .int .i64 k] w fun e w' => e = .returned (.bool (isStar s k)) ∧ w = w' := by
  by_cases c1 : (s[k].toNat : Int) = 92
  · have e1 : s.data.toList.getD k 0 = 92 := (getD_at hk).trans (byte_eq (b := 92) hk c1)
    by_cases c2 : k + 1 < s.size
    · by_cases c3 : (s[k + 1].toNat : Int) = 42
      · have H := Lib.hid (show isStar s k = true by unfold isStar; rw [e1, (getD_at c2).trans (byte_eq (b := 42) c2 c3)]; simp [c2])
        clear e1
        go_enter Tryd.func81, Tryd.ntmps81
        go_wp2
        go_ret
        exact ⟨by rw [H.out]; rfl, rfl⟩
      · have c3' : ((s[k + 1].toNat : Int) == 42) = false := beq_eq_false_iff_ne.2 c3
        have H := Lib.hid (show isStar s k = false by unfold isStar; rw [e1, getD_at c2]; simp [c2]; exact fun q => c3 (by rw [q]; rfl))
        clear e1 c3
        go_enter Tryd.func81, Tryd.ntmps81
        go_wp2
        go_ret
        exact ⟨by rw [H.out]; rfl, rfl⟩
    · have H := Lib.hid (show isStar s k = false by unfold isStar; simp [c2])
      clear e1
      go_enter Tryd.func81, Tryd.ntmps81
      go_wp2
      go_ret
      exact ⟨by rw [H.out]; rfl, rfl⟩
  · have c1' : ((s[k].toNat : Int) == 92) = false := beq_eq_false_iff_ne.2 c1
    have H := Lib.hid (show isStar s k = false by unfold isStar; rw [getD_at hk]; simp; intro q; exact absurd (by rw [q]; rfl) c1)
    clear c1
    go_enter Tryd.func81, Tryd.ntmps81
    go_wp2
    go_ret
    exact ⟨by rw [H.out]; rfl, rfl⟩

/-- A slice that holds numbers. -/
def IntsAt (w : World) (A : Option Addr) (E : List Nat) : Prop := ∀ (k e : Nat), E[k]? = some e → ∃ a, A = some a ∧ w.cell? (a.add k) = some (.int .i64 (e : Int))
def intCells (E : List Nat) : List Value := E.map fun e : Nat => Value.int .i64 (e : Int)
theorem ints_of_own {w : World} {B : Nat} {v : Value} {E : List Nat} (h : w.ownsRow B 3 1 v E.length (intCells E)) : ∃ A c, v = .slice A E.length c ∧ IntsAt w A E := by
  rcases h.2 with ⟨rfl, h0⟩ | ⟨g, cap, cur, rfl, _⟩
  · have : E = [] := List.eq_nil_of_length_eq_zero h0
    subst this
    exact ⟨none, 0, rfl, fun k x hx => by simp at hx⟩
  · refine ⟨some ⟨g, 0, none⟩, cap, rfl, fun k x hx => ⟨_, rfl, h.cells (g := g) rfl _ _ ?_⟩⟩
    unfold intCells; rw [List.getElem?_map, hx]; rfl
theorem intInfo : (Tryd.prog.info? 3).map (fun i => (i.zero, i.size, i.bytes)) = some (some (.int .i64 0), 1, 8) := by kernel_rfl
theorem own_int {w1 : World} {B : Nat} {v' : Value} {E : List Nat} {x : Nat} (h : w1.ownsRow B 3 1 v' (E.length + 1) (intCells E ++ [.int .i64 (x : Int)])) :
    w1.ownsRow B 3 1 v' (E ++ [x]).length (intCells (E ++ [x])) := by
  rw [show intCells (E ++ [x]) = intCells E ++ [.int .i64 (x : Int)] by simp [intCells], List.length_append]
  exact h
theorem one_cell_int (n : Int) : ∀ u ∈ [Value.int .i64 n], u.oneCell' = true := by
  intro u hu; simp only [List.mem_cons, List.not_mem_nil, or_false] at hu; subst hu; rfl

set_option maxRecDepth 100000 in
set_option maxHeartbeats 4000000 in
theorem ref_startsN (s : ByteArray) (w : World) (hs : s.size ≤ 60) :
    Calls Tryd.prog 58 #[.string s] w fun e w' => ∃ A c E, e = .returned (.slice A E.length c) ∧ PosN s.data.toList E (signs s.data.toList) s.size ∧ IntsAt w' A E ∧ Below w.heap.size w w' := by
  have HS := Lib.hid (show s.data.toList.length = s.size from Array.length_toList)
  obtain ⟨i0, hi, hz0, hz1, hz2⟩ := info_parts intInfo
  go_enter Tryd.func58, Tryd.ntmps58
  go_wp2
  go_loopw [3, 4] (fun v i wr => ∃ (k : Nat) (E : List Nat), i = .int .i64 k ∧ k ≤ s.size ∧ E.length ≤ k ∧ Hid (∃ Q, signs s.data.toList = Q ++ signs (s.data.toList.drop k) ∧ PosN s.data.toList E Q k) ∧ Hid (wr.ownsRow w.heap.size 3 1 v E.length (intCells E)) ∧ Hid (Below w.heap.size w wr)) (fun _ i _ => s.size - (intOf i).toNat)
  case atStart => exact ⟨0, [], rfl, Nat.zero_le _, Nat.le_refl _, ⟨[], rfl, PosN.nil _⟩, ⟨rfl, .inl ⟨rfl, rfl⟩⟩, Below.refl _ _⟩
  case round =>
    obtain ⟨k, E, rfl, hk, hq, hE, hown, hb⟩ := hrel
    by_cases hlt : k < s.size
    · have hlt' : k < s.data.toList.length := by rw [HS.out]; exact hlt
      have HE := Lib.hid (show ∃ Q, signs s.data.toList = Q ++ signs (s.data.toList.drop (if isStar s k = true then k + 2 else k + 1)) ∧ PosN s.data.toList (E ++ [k]) Q (if isStar s k = true then k + 2 else k + 1) by
        obtain ⟨Q, h1, h2⟩ := hE.out
        refine ⟨Q ++ [signAt s.data.toList k], ?_, by rw [← next_place hlt']; exact h2.snoc hlt'⟩
        rw [h1, List.append_assoc]
        congr 1
        rw [signs_at hlt', List.singleton_append]
        rw [next_place hlt])
      have C := Lib.hid (fun w => ref_star s k w hlt hs)
      have hst : isStar s k = true → k + 2 ≤ s.size := fun q => by
        unfold isStar at q; simp only [Bool.and_eq_true, decide_eq_true_eq] at q; omega
      have Hst := Lib.hid hst
      clear hst hE
      generalize isStar s k = b at *
      go_wp2_with (at_builtin; refine wpList_append_own _ rfl _ _ 93 rfl w.heap.size 3 i0 _ 1 8 Tryd.underlying93 hi hz0 hz1 hz2 rfl (by decide) _ E.length (intCells E) rfl (hown.out.alloc _) ⟨_, 0, none⟩ 1 1 [.int .i64 (k : Int)] rfl rfl (cells_new _ _ _) (one_cell_int _) (by unfold maxLen; omega) (by omega) ?c5 ?_)
      case c5 => have := hb.out.size; simp; omega
      intro v1 w1 hown1 hgrow1 _
      have B1 := Lib.hid (below_append hb.out (Nat.le_refl _) hown.out _ hgrow1)
      have O1 := Lib.hid (own_int hown1)
      clear hown hb hown1 hgrow1
      cases b
      · have HE' := Lib.hid (show ∃ Q, signs s.data.toList = Q ++ signs (s.data.toList.drop (k + 1)) ∧ PosN s.data.toList (E ++ [k]) Q (k + 1) by simpa using HE.out)
        clear HE Hst
        go_wp2_with (go_at_call 81; refine (C.out _).mono ?_; rintro e w2 ⟨rfl, rfl⟩)
        go_roundw
        case rel => exact ⟨k + 1, E ++ [k], by go_num, by omega, by simp; omega, HE', O1, B1⟩
        case measure => simp [intOf]; omega
      · have HE' := Lib.hid (show ∃ Q, signs s.data.toList = Q ++ signs (s.data.toList.drop (k + 2)) ∧ PosN s.data.toList (E ++ [k]) Q (k + 2) by simpa using HE.out)
        have h2 := Hst.out rfl
        clear HE Hst
        go_wp2_with (go_at_call 81; refine (C.out _).mono ?_; rintro e w2 ⟨rfl, rfl⟩)
        go_roundw
        case rel => exact ⟨k + 2, E ++ [k], by go_num, by omega, by simp; omega, HE', O1, B1⟩
        case measure => simp [intOf]; omega
    · obtain ⟨Q, h1, h2⟩ := hE.out
      rw [signs_end (by rw [HS.out]; omega), List.append_nil] at h1
      have HE := Lib.hid (show PosN s.data.toList E (signs s.data.toList) s.size by
        rw [h1]
        have e : k = s.size := by omega
        rw [← e]; exact h2)
      obtain ⟨A, c, hv, hsg⟩ := ints_of_own hown.out
      subst hv
      have HV := Lib.hid hsg
      clear hE hown hsg h1 h2
      go_wp2
      go_ret
      exact ⟨A, c, E, rfl, HE.out, HV.out, hb.out⟩
theorem ref_starts (s : ByteArray) (w : World) (hs : s.size ≤ 60) :
    Calls Tryd.prog 58 #[.string s] w fun e w' => ∃ A c E, e = .returned (.slice A E.length c) ∧ Pos s.data.toList E (signs s.data.toList) ∧ IntsAt w' A E ∧ Below w.heap.size w w' :=
  (ref_startsN s w hs).mono fun _ _ ⟨A, c, E, q1, q2, q3, q4⟩ => ⟨A, c, E, q1, q2.1, q3, q4⟩

/-- A block of truth values. -/
def Bools (w : World) (g n : Nat) (f : Nat → Bool) : Prop := ∃ cs : Array Value, w.heap[g]? = some (.cells cs 4 (0, 0)) ∧ cs.size = n ∧ ∀ k, k < n → cs[k]? = some (.bool (f k))
theorem Bools.cell {w : World} {g n : Nat} {f : Nat → Bool} (h : Bools w g n f) {k : Nat} (hk : k < n) : w.cell? ⟨g, k, none⟩ = some (.bool (f k)) := by
  obtain ⟨cs, h1, h2, h3⟩ := h
  unfold World.cell?
  rw [h1]; simpa using h3 k hk
theorem Bools.frozen {w : World} {g n : Nat} {f : Nat → Bool} (h : Bools w g n f) (k : Nat) : w.frozen? ⟨g, k, none⟩ = false := by
  obtain ⟨cs, h1, _⟩ := h
  unfold World.frozen?
  rw [h1]; simp
theorem Bools.lt {w : World} {g n : Nat} {f : Nat → Bool} (h : Bools w g n f) : g < w.heap.size := by
  obtain ⟨cs, h1, _⟩ := h
  exact (Array.getElem?_eq_some_iff.1 h1).1
theorem Bools.keep {w w' : World} {g n : Nat} {f : Nat → Bool} {B : Nat} (h : Bools w g n f) (hb : Below B w w') (hg : g < B) : Bools w' g n f := by
  obtain ⟨cs, h1, h2⟩ := h
  exact ⟨cs, (hb.block g hg).trans h1, h2⟩
theorem Bools.alloc {w : World} {g n : Nat} {f : Nat → Bool} (h : Bools w g n f) (o : Obj) : Bools (w.alloc o) g n f := h.keep ((Below.refl _ _).alloc (Nat.le_refl _) o) h.lt
theorem Bools.other {w : World} {g n : Nat} {f : Nat → Bool} (h : Bools w g n f) {a : Addr} (ha : a.block ≠ g) (v : Value) : Bools (w.setCell a v) g n f := by
  obtain ⟨cs, h1, h2⟩ := h
  exact ⟨cs, (Below.heap_setCell w a v g (Ne.symm ha)).trans h1, h2⟩
theorem Bools.set {w : World} {g n : Nat} {f f' : Nat → Bool} (h : Bools w g n f) (m : Nat) (b : Bool) (hf : ∀ k, k < n → f' k = if k = m then b else f k) : Bools (w.setCell ⟨g, m, none⟩ (.bool b)) g n f' := by
  obtain ⟨cs, h1, h2, h3⟩ := h
  refine ⟨cs.setIfInBounds m (.bool b), ?_, by simpa using h2, fun k hk => ?_⟩
  · simp only [World.setCell, Array.getElem?_modify, if_true, h1]
    simp
  · rw [hf k hk, Array.getElem?_setIfInBounds]
    by_cases e : k = m
    · subst e; rw [if_pos rfl, if_pos rfl, if_pos (by omega)]
    · rw [if_neg (fun q => e q.symm), if_neg e]; exact h3 k hk
theorem Bools.made (w : World) (n : Nat) : Bools (w.alloc (.cells (madeCells #[.bool false] n) 4)) w.heap.size n (fun _ => false) := by
  refine ⟨_, heap_alloc_new w _, size_madeCells _ _, fun k hk => ?_⟩
  rw [← Array.getElem?_toList, toList_madeCells_one, List.getElem?_replicate, if_pos hk]
theorem boolInfo : (Tryd.prog.info? 4).map (fun i => (i.zero, i.size, i.bytes)) = some (some (.bool false), 1, 1) := by kernel_rfl
/-- A row of the table out of the one behind it. -/
theorem tab_none {P : List (Option UInt8)} {S : List UInt8} {t m : Nat} (ht : t < P.length) (hP : P[t] = none) (hm : m ≤ S.length) :
    fitsS (P.drop t) (S.drop m) = (fitsS (P.drop (t + 1)) (S.drop m) || (decide (m < S.length) && fitsS (P.drop t) (S.drop (m + 1)))) := by
  rw [List.drop_eq_getElem_cons ht, hP]
  by_cases h : m < S.length
  · rw [List.drop_eq_getElem_cons h, fitsS_none_cons]; simp [h]
  · have hm' : S.drop m = [] := List.drop_of_length_le (by omega)
    rw [hm', fitsS_none_nil]; simp [h]
theorem tab_some {P : List (Option UInt8)} {S : List UInt8} {t m : Nat} {b : UInt8} (ht : t < P.length) (hP : P[t] = some b) (h : m < S.length) :
    fitsS (P.drop t) (S.drop m) = ((S[m] == b) && fitsS (P.drop (t + 1)) (S.drop (m + 1))) := by
  rw [List.drop_eq_getElem_cons ht, hP, List.drop_eq_getElem_cons h, fitsS_some_cons]
  congr 1
  rw [Bool.eq_iff_iff, beq_iff_eq, beq_iff_eq]; exact ⟨Eq.symm, Eq.symm⟩
theorem tab_last {P : List (Option UInt8)} {S : List UInt8} {t m : Nat} {b : UInt8} (ht : t < P.length) (hP : P[t] = some b) (h : S.length ≤ m) : fitsS (P.drop t) (S.drop m) = false := by
  rw [List.drop_eq_getElem_cons ht, hP, List.drop_of_length_le h, fitsS_some_nil]
theorem tab_start {P : List (Option UInt8)} {S : List UInt8} {m n : Nat} (h : n = P.length) (hm : m ≤ S.length) : fitsS (P.drop n) (S.drop m) = decide (m = S.length) := by
  rw [List.drop_of_length_le (by omega), fitsS_nil]
  by_cases e : m = S.length
  · rw [List.drop_of_length_le (by omega)]; simp [e]
  · rw [List.drop_eq_getElem_cons (show m < S.length by omega)]
    simp only [e, decide_false, List.isEmpty_cons]

theorem signAt_none {s : ByteArray} {k : Nat} (h : k < s.size) : signAt s.data.toList k = none ↔ (s[k].toNat : Int) = 42 := by
  unfold signAt
  rw [getD_at h]
  constructor
  · intro q
    by_cases c : s[k] = 42
    · rw [c]; rfl
    · rw [if_neg c] at q
      split at q <;> cases q
  · intro q
    rw [if_pos]
    exact UInt8.toNat_inj.1 (show s[k].toNat = (42 : UInt8).toNat by have : ((42 : UInt8).toNat : Int) = 42 := rfl; omega)
theorem signAt_some {s : ByteArray} {k : Nat} (h : k < s.size) {b : UInt8} (hb : signAt s.data.toList k = some b) : (b.toNat : Int) = if isStar s k = true then 42 else (s[k].toNat : Int) := by
  unfold signAt at hb
  rw [getD_at h, show s.data.toList.length = s.size from Array.length_toList] at hb
  by_cases c : s[k] = 42
  · rw [if_pos c] at hb; cases hb
  · rw [if_neg c] at hb
    by_cases c2 : s[k] = 92 ∧ k + 1 < s.size ∧ s.data.toList.getD (k + 1) 0 = 42
    · rw [if_pos c2] at hb
      rw [if_pos ((isStar_iff s k).2 (by rw [getD_at h]; exact c2))]
      injection hb with hb; subst hb; rfl
    · rw [if_neg c2] at hb
      rw [if_neg (fun q => c2 (by have := (isStar_iff s k).1 q; rw [getD_at h] at this; exact this))]
      injection hb with hb; rw [hb]

/-- A round of the inner loop: place m of the new row, the places behind it done. -/
def Row (P : List (Option UInt8)) (S : List UInt8) (t u : Nat) (m : Nat) : Bool := decide (u ≤ m) && fitsS (P.drop t) (S.drop m)
theorem Row_set {P : List (Option UInt8)} {S : List UInt8} {t u : Nat} {b : Bool} (hb : fitsS (P.drop t) (S.drop u) = b) (k : Nat) : Row P S t u k = if k = u then b else Row P S t (u + 1) k := by
  unfold Row
  by_cases e : k = u
  · subst e; rw [if_pos rfl, hb]; simp
  · rw [if_neg e]
    congr 1
    by_cases h : u ≤ k
    · simp [h]; omega
    · simp [h]; omega
theorem Row_zero (P : List (Option UInt8)) (S : List UInt8) (t m : Nat) : Row P S t 0 m = fitsS (P.drop t) (S.drop m) := by unfold Row; simp
theorem Row_more (P : List (Option UInt8)) (S : List UInt8) (t n m : Nat) (h : m < n) : Row P S t n m = false := by unfold Row; simp; omega

end Go.Proofs.YtfbgaefbalbohaaDoor
