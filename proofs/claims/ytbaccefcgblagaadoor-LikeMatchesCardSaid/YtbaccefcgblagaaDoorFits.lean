/-
  The contract of the reference's Fits: the table from behind.
-/
import Derived.Test.YtbaccefcgblagaaDoorLike
namespace Go.Proofs.YtbaccefcgblagaaDoor
open Go.RowKit Go.Wk

/-- What a pattern has at a place. -/
def signAt (l : List UInt8) (k : Nat) : Option UInt8 :=
  if l.getD k 0 = 42 then none else if l.getD k 0 = 92 ∧ k + 1 < l.length ∧ l.getD (k + 1) 0 = 42 then some 42 else some (l.getD k 0)
/-- Places and their signs. -/
def Pos (l : List UInt8) (E : List Nat) (Q : List (Option UInt8)) : Prop := E.length = Q.length ∧ ∀ (t e : Nat) (x : Option UInt8), E[t]? = some e → Q[t]? = some x → e < l.length ∧ signAt l e = x
theorem Pos.nil (l : List UInt8) : Pos l [] [] := ⟨rfl, fun t e x h => by simp at h⟩
theorem Pos.snoc {l : List UInt8} {E : List Nat} {Q : List (Option UInt8)} (h : Pos l E Q) {k : Nat} (hk : k < l.length) : Pos l (E ++ [k]) (Q ++ [signAt l k]) := by
  refine ⟨by simp [h.1], fun t e x he hx => ?_⟩
  by_cases ht : t < E.length
  · rw [List.getElem?_append_left ht] at he
    rw [List.getElem?_append_left (by rw [← h.1]; exact ht)] at hx
    exact h.2 t e x he hx
  · rw [List.getElem?_append_right (by omega)] at he
    rw [List.getElem?_append_right (by rw [← h.1]; omega)] at hx
    rw [h.1] at he
    rcases Nat.eq_zero_or_pos (t - Q.length) with h0 | h0
    · rw [h0] at he hx
      simp at he hx
      subst he; subst hx
      exact ⟨hk, rfl⟩
    · rw [List.getElem?_eq_none (by simp; omega)] at he; cases he
theorem signs_at {l : List UInt8} {k : Nat} (h : k < l.length) : signs (l.drop k) = signAt l k :: signs (l.drop (if signAt l k = some 42 ∧ l.getD k 0 = 92 then k + 2 else k + 1)) := by
  have g : l.getD k 0 = l[k] := by simp [h]
  unfold signAt
  rw [g]
  by_cases h1 : l[k] = 42
  · rw [if_pos h1, if_neg (by simp), signs_star h h1]
  · rw [if_neg h1]
    by_cases h2 : l[k] = 92 ∧ k + 1 < l.length ∧ l.getD (k + 1) 0 = 42
    · rw [if_pos h2, if_pos ⟨rfl, h2.1⟩, signs_two h2.2.1 h2.1 (by have := h2.2.2; simpa [h2.2.1] using this)]
    · rw [if_neg h2, if_neg (fun q => by have := q.1; simp at this; exact h1 this), signs_byte h h1 (fun q => h2 ⟨q.1, q.2.1, by obtain ⟨_, q1, q2⟩ := q; simpa [q1] using q2⟩)]

def isStar (s : ByteArray) (k : Nat) : Bool := decide (s.data.toList.getD k 0 = 92) && decide (k + 1 < s.size) && decide (s.data.toList.getD (k + 1) 0 = 42)
theorem getD_at {s : ByteArray} {k : Nat} (h : k < s.size) : s.data.toList.getD k 0 = s[k] := by
  have h' : k < s.data.toList.length := by simpa using h
  rw [List.getD_eq_getElem?_getD, List.getElem?_eq_getElem h']; rfl

theorem isStar_iff (s : ByteArray) (k : Nat) : isStar s k = true ↔ s.data.toList.getD k 0 = 92 ∧ k + 1 < s.size ∧ s.data.toList.getD (k + 1) 0 = 42 := by
  unfold isStar; simp only [Bool.and_eq_true, decide_eq_true_eq, and_assoc]
theorem next_place {s : ByteArray} {k : Nat} (_h : k < s.data.toList.length) : (if signAt s.data.toList k = some 42 ∧ s.data.toList.getD k 0 = 92 then k + 2 else k + 1) = if isStar s k = true then k + 2 else k + 1 := by
  have e : (signAt s.data.toList k = some 42 ∧ s.data.toList.getD k 0 = 92) ↔ isStar s k = true := by
    rw [isStar_iff]
    unfold signAt
    rw [show s.data.toList.length = s.size from Array.length_toList]
    constructor
    · rintro ⟨h1, h2⟩
      rw [h2, if_neg (by decide)] at h1
      by_cases c : (92 : UInt8) = 92 ∧ k + 1 < s.size ∧ s.data.toList.getD (k + 1) 0 = 42
      · exact ⟨h2, c.2⟩
      · rw [if_neg c] at h1; exact absurd h1 (by decide)
    · rintro ⟨h1, h2⟩
      rw [h1, if_neg (by decide), if_pos ⟨rfl, h2⟩]
      exact ⟨rfl, rfl⟩
  simp only [e]

set_option maxHeartbeats 400000 in
theorem ref_star (s : ByteArray) (k : Nat) (w : World) (hk : k < s.size) (hs : s.size ≤ 60) :
    Calls Tryd.prog 39 #[.string s, .int .i64 k] w fun e w' => e = .returned (.bool (isStar s k)) ∧ w = w' := by
  by_cases c1 : (s[k].toNat : Int) = 92
  · have e1 : s.data.toList.getD k 0 = 92 := (getD_at hk).trans (byte_eq (b := 92) hk c1)
    by_cases c2 : k + 1 < s.size
    · by_cases c3 : (s[k + 1].toNat : Int) = 42
      · have H := Lib.hid (show isStar s k = true by unfold isStar; rw [e1, (getD_at c2).trans (byte_eq (b := 42) c2 c3)]; simp [c2])
        clear e1
        go_enter Tryd.func39, Tryd.ntmps39
        go_wp2
        go_ret
        exact ⟨by rw [H.out]; rfl, rfl⟩
      · have c3' : ((s[k + 1].toNat : Int) == 42) = false := beq_eq_false_iff_ne.2 c3
        have H := Lib.hid (show isStar s k = false by unfold isStar; rw [e1, getD_at c2]; simp [c2]; exact fun q => c3 (by rw [q]; rfl))
        clear e1 c3
        go_enter Tryd.func39, Tryd.ntmps39
        go_wp2
        go_ret
        exact ⟨by rw [H.out]; rfl, rfl⟩
    · have H := Lib.hid (show isStar s k = false by unfold isStar; simp [c2])
      clear e1
      go_enter Tryd.func39, Tryd.ntmps39
      go_wp2
      go_ret
      exact ⟨by rw [H.out]; rfl, rfl⟩
  · have c1' : ((s[k].toNat : Int) == 92) = false := beq_eq_false_iff_ne.2 c1
    have H := Lib.hid (show isStar s k = false by unfold isStar; rw [getD_at hk]; simp; intro q; exact absurd (by rw [q]; rfl) c1)
    clear c1
    go_enter Tryd.func39, Tryd.ntmps39
    go_wp2
    go_ret
    exact ⟨by rw [H.out]; rfl, rfl⟩

/-- A slice that holds numbers. -/
def IntsAt (w : World) (A : Option Addr) (E : List Nat) : Prop := ∀ (k e : Nat), E[k]? = some e → ∃ a, A = some a ∧ w.cell? (a.add k) = some (.int .i64 (e : Int))
def intCells (E : List Nat) : List Value := E.map fun e : Nat => Value.int .i64 (e : Int)
theorem ints_of_own {w : World} {B : Nat} {v : Value} {E : List Nat} (h : w.ownsRow B 3 1 v E.length (intCells E)) : ∃ A c, v = .slice A E.length c ∧ IntsAt w A E := by
  rcases h.2 with ⟨rfl, h0⟩ | ⟨g, cap, cur, rfl, _⟩
  · have : E = [] := List.eq_nil_of_length_eq_zero h0
    subst this
    exact ⟨none, 0, rfl, fun k x hx => by simp at hx⟩
  · refine ⟨some ⟨g, 0, none⟩, cap, rfl, fun k x hx => ⟨_, rfl, h.cells (g := g) rfl _ _ ?_⟩⟩
    unfold intCells; rw [List.getElem?_map, hx]; rfl
theorem intInfo : (Tryd.prog.info? 3).map (fun i => (i.zero, i.size, i.bytes)) = some (some (.int .i64 0), 1, 8) := by kernel_rfl
theorem own_int {w1 : World} {B : Nat} {v' : Value} {E : List Nat} {x : Nat} (h : w1.ownsRow B 3 1 v' (E.length + 1) (intCells E ++ [.int .i64 (x : Int)])) :
    w1.ownsRow B 3 1 v' (E ++ [x]).length (intCells (E ++ [x])) := by
  rw [show intCells (E ++ [x]) = intCells E ++ [.int .i64 (x : Int)] by simp [intCells], List.length_append]
  exact h
theorem one_cell_int (n : Int) : ∀ u ∈ [Value.int .i64 n], u.oneCell' = true := by
  intro u hu; simp only [List.mem_cons, List.not_mem_nil, or_false] at hu; subst hu; rfl

set_option maxRecDepth 100000 in
set_option maxHeartbeats 4000000 in
theorem ref_starts (s : ByteArray) (w : World) (hs : s.size ≤ 60) :
    Calls Tryd.prog 38 #[.string s] w fun e w' => ∃ A c E, e = .returned (.slice A E.length c) ∧ Pos s.data.toList E (signs s.data.toList) ∧ IntsAt w' A E ∧ Below w.heap.size w w' := by
  have HS := Lib.hid (show s.data.toList.length = s.size from Array.length_toList)
  obtain ⟨i0, hi, hz0, hz1, hz2⟩ := info_parts intInfo
  go_enter Tryd.func38, Tryd.ntmps38
  go_wp2
  go_loopw [3, 4] (fun v i wr => ∃ (k : Nat) (E : List Nat), i = .int .i64 k ∧ k ≤ s.size ∧ E.length ≤ k ∧ Hid (∃ Q, signs s.data.toList = Q ++ signs (s.data.toList.drop k) ∧ Pos s.data.toList E Q) ∧ Hid (wr.ownsRow w.heap.size 3 1 v E.length (intCells E)) ∧ Hid (Below w.heap.size w wr)) (fun _ i _ => s.size - (intOf i).toNat)
  case atStart => exact ⟨0, [], rfl, Nat.zero_le _, Nat.le_refl _, ⟨[], rfl, Pos.nil _⟩, ⟨rfl, .inl ⟨rfl, rfl⟩⟩, Below.refl _ _⟩
  case round =>
    obtain ⟨k, E, rfl, hk, hq, hE, hown, hb⟩ := hrel
    by_cases hlt : k < s.size
    · have hlt' : k < s.data.toList.length := by rw [HS.out]; exact hlt
      have HE := Lib.hid (show ∃ Q, signs s.data.toList = Q ++ signs (s.data.toList.drop (if isStar s k = true then k + 2 else k + 1)) ∧ Pos s.data.toList (E ++ [k]) Q by
        obtain ⟨Q, h1, h2⟩ := hE.out
        refine ⟨Q ++ [signAt s.data.toList k], ?_, h2.snoc hlt'⟩
        rw [h1, List.append_assoc]
        congr 1
        rw [signs_at hlt', List.singleton_append]
        rw [next_place hlt])
      have C := Lib.hid (fun w => ref_star s k w hlt hs)
      have hst : isStar s k = true → k + 2 ≤ s.size := fun q => by
        unfold isStar at q; simp only [Bool.and_eq_true, decide_eq_true_eq] at q; omega
      have Hst := Lib.hid hst
      clear hst hE
      generalize isStar s k = b at *
      go_wp2_with (at_builtin; refine wpList_append_own _ rfl _ _ 61 rfl w.heap.size 3 i0 _ 1 8 Tryd.underlying61 hi hz0 hz1 hz2 rfl (by decide) _ E.length (intCells E) rfl (hown.out.alloc _) ⟨_, 0, none⟩ 1 1 [.int .i64 (k : Int)] rfl rfl (cells_new _ _ _) (one_cell_int _) (by unfold maxLen; omega) (by omega) ?c5 ?_)
      case c5 => have := hb.out.size; simp; omega
      intro v1 w1 hown1 hgrow1 _
      have B1 := Lib.hid (below_append hb.out (Nat.le_refl _) hown.out _ hgrow1)
      have O1 := Lib.hid (own_int hown1)
      clear hown hb hown1 hgrow1
      cases b
      · have HE' := Lib.hid (show ∃ Q, signs s.data.toList = Q ++ signs (s.data.toList.drop (k + 1)) ∧ Pos s.data.toList (E ++ [k]) Q by simpa using HE.out)
        clear HE Hst
        go_wp2_with (go_at_call 39; refine (C.out _).mono ?_; rintro e w2 ⟨rfl, rfl⟩)
        go_roundw
        case rel => exact ⟨k + 1, E ++ [k], by go_num, by omega, by simp; omega, HE', O1, B1⟩
        case measure => simp [intOf]; omega
      · have HE' := Lib.hid (show ∃ Q, signs s.data.toList = Q ++ signs (s.data.toList.drop (k + 2)) ∧ Pos s.data.toList (E ++ [k]) Q by simpa using HE.out)
        have h2 := Hst.out rfl
        clear HE Hst
        go_wp2_with (go_at_call 39; refine (C.out _).mono ?_; rintro e w2 ⟨rfl, rfl⟩)
        go_roundw
        case rel => exact ⟨k + 2, E ++ [k], by go_num, by omega, by simp; omega, HE', O1, B1⟩
        case measure => simp [intOf]; omega
    · obtain ⟨Q, h1, h2⟩ := hE.out
      rw [signs_end (by rw [HS.out]; omega), List.append_nil] at h1
      have HE := Lib.hid (show Pos s.data.toList E (signs s.data.toList) by rw [h1]; exact h2)
      obtain ⟨A, c, hv, hsg⟩ := ints_of_own hown.out
      subst hv
      have HV := Lib.hid hsg
      clear hE hown hsg h1 h2
      go_wp2
      go_ret
      exact ⟨A, c, E, rfl, HE.out, HV.out, hb.out⟩

/-- A block of truth values. -/
def Bools (w : World) (g n : Nat) (f : Nat → Bool) : Prop := ∃ cs : Array Value, w.heap[g]? = some (.cells cs 4 (0, 0)) ∧ cs.size = n ∧ ∀ k, k < n → cs[k]? = some (.bool (f k))
theorem Bools.cell {w : World} {g n : Nat} {f : Nat → Bool} (h : Bools w g n f) {k : Nat} (hk : k < n) : w.cell? ⟨g, k, none⟩ = some (.bool (f k)) := by
  obtain ⟨cs, h1, h2, h3⟩ := h
  unfold World.cell?
  rw [h1]; simpa using h3 k hk
theorem Bools.frozen {w : World} {g n : Nat} {f : Nat → Bool} (h : Bools w g n f) (k : Nat) : w.frozen? ⟨g, k, none⟩ = false := by
  obtain ⟨cs, h1, _⟩ := h
  unfold World.frozen?
  rw [h1]; simp
theorem Bools.lt {w : World} {g n : Nat} {f : Nat → Bool} (h : Bools w g n f) : g < w.heap.size := by
  obtain ⟨cs, h1, _⟩ := h
  exact (Array.getElem?_eq_some_iff.1 h1).1
theorem Bools.keep {w w' : World} {g n : Nat} {f : Nat → Bool} {B : Nat} (h : Bools w g n f) (hb : Below B w w') (hg : g < B) : Bools w' g n f := by
  obtain ⟨cs, h1, h2⟩ := h
  exact ⟨cs, (hb.block g hg).trans h1, h2⟩
theorem Bools.alloc {w : World} {g n : Nat} {f : Nat → Bool} (h : Bools w g n f) (o : Obj) : Bools (w.alloc o) g n f := h.keep ((Below.refl _ _).alloc (Nat.le_refl _) o) h.lt
theorem Bools.other {w : World} {g n : Nat} {f : Nat → Bool} (h : Bools w g n f) {a : Addr} (ha : a.block ≠ g) (v : Value) : Bools (w.setCell a v) g n f := by
  obtain ⟨cs, h1, h2⟩ := h
  exact ⟨cs, (Below.heap_setCell w a v g (Ne.symm ha)).trans h1, h2⟩
theorem Bools.set {w : World} {g n : Nat} {f f' : Nat → Bool} (h : Bools w g n f) (m : Nat) (b : Bool) (hf : ∀ k, k < n → f' k = if k = m then b else f k) : Bools (w.setCell ⟨g, m, none⟩ (.bool b)) g n f' := by
  obtain ⟨cs, h1, h2, h3⟩ := h
  refine ⟨cs.setIfInBounds m (.bool b), ?_, by simpa using h2, fun k hk => ?_⟩
  · simp only [World.setCell, Array.getElem?_modify, if_true, h1]
    simp
  · rw [hf k hk, Array.getElem?_setIfInBounds]
    by_cases e : k = m
    · subst e; rw [if_pos rfl, if_pos rfl, if_pos (by omega)]
    · rw [if_neg (fun q => e q.symm), if_neg e]; exact h3 k hk
theorem Bools.made (w : World) (n : Nat) : Bools (w.alloc (.cells (madeCells #[.bool false] n) 4)) w.heap.size n (fun _ => false) := by
  refine ⟨_, heap_alloc_new w _, size_madeCells _ _, fun k hk => ?_⟩
  rw [← Array.getElem?_toList, toList_madeCells_one, List.getElem?_replicate, if_pos hk]
theorem boolInfo : (Tryd.prog.info? 4).map (fun i => (i.zero, i.size, i.bytes)) = some (some (.bool false), 1, 1) := by kernel_rfl
/-- 'make([]bool, n)'. -/
theorem run_bools (n : Nat) (hn : n ≤ 100) (w : World) : (Instr.makeSlice 60 (.int .i64 (n : Int)) (.int .i64 (n : Int))).run Tryd.prog w = .ok (.slice (some ⟨w.heap.size, 0, none⟩) n n) (w.alloc (.cells (madeCells #[.bool false] n) 4)) := by
  obtain ⟨i, hi, hz, h1, h2⟩ := info_parts boolInfo
  have := run_make (P := Tryd.prog) w 60 4 i _ Tryd.underlying60 hi hz .i64 .i64 (n : Int) (n : Int) (by omega) (by omega) (by rw [h2]; omega) (by omega)
  rw [h1] at this
  simpa [Value.cells] using this

theorem make_bools (n : Nat) (hn : n ≤ 100) (w : World) : ∃ w0, (Instr.makeSlice 60 (.int .i64 (n : Int)) (.int .i64 (n : Int))).run Tryd.prog w = .ok (.slice (some ⟨w.heap.size, 0, none⟩) n n) w0 ∧ Bools w0 w.heap.size n (fun _ => false) ∧
    Below w.heap.size w w0 ∧ w0.heap.size = w.heap.size + 1 :=
  ⟨_, run_bools n hn w, Bools.made w n, (Below.refl w.heap.size w).alloc (Nat.le_refl _) _, by simp⟩

/-- A row of the table out of the one behind it. -/
theorem tab_none {P : List (Option UInt8)} {S : List UInt8} {t m : Nat} (ht : t < P.length) (hP : P[t] = none) (hm : m ≤ S.length) :
    fitsS (P.drop t) (S.drop m) = (fitsS (P.drop (t + 1)) (S.drop m) || (decide (m < S.length) && fitsS (P.drop t) (S.drop (m + 1)))) := by
  rw [List.drop_eq_getElem_cons ht, hP]
  by_cases h : m < S.length
  · rw [List.drop_eq_getElem_cons h, fitsS_none_cons]; simp [h]
  · have hm' : S.drop m = [] := List.drop_of_length_le (by omega)
    rw [hm', fitsS_none_nil]; simp [h]
theorem tab_some {P : List (Option UInt8)} {S : List UInt8} {t m : Nat} {b : UInt8} (ht : t < P.length) (hP : P[t] = some b) (h : m < S.length) :
    fitsS (P.drop t) (S.drop m) = ((S[m] == b) && fitsS (P.drop (t + 1)) (S.drop (m + 1))) := by
  rw [List.drop_eq_getElem_cons ht, hP, List.drop_eq_getElem_cons h, fitsS_some_cons]
  congr 1
  rw [Bool.eq_iff_iff, beq_iff_eq, beq_iff_eq]; exact ⟨Eq.symm, Eq.symm⟩
theorem tab_last {P : List (Option UInt8)} {S : List UInt8} {t m : Nat} {b : UInt8} (ht : t < P.length) (hP : P[t] = some b) (h : S.length ≤ m) : fitsS (P.drop t) (S.drop m) = false := by
  rw [List.drop_eq_getElem_cons ht, hP, List.drop_of_length_le h, fitsS_some_nil]
theorem tab_start {P : List (Option UInt8)} {S : List UInt8} {m n : Nat} (h : n = P.length) (hm : m ≤ S.length) : fitsS (P.drop n) (S.drop m) = decide (m = S.length) := by
  rw [List.drop_of_length_le (by omega), fitsS_nil]
  by_cases e : m = S.length
  · rw [List.drop_of_length_le (by omega)]; simp [e]
  · rw [List.drop_eq_getElem_cons (show m < S.length by omega)]
    simp only [e, decide_false, List.isEmpty_cons]

theorem signAt_none {s : ByteArray} {k : Nat} (h : k < s.size) : signAt s.data.toList k = none ↔ (s[k].toNat : Int) = 42 := by
  unfold signAt
  rw [getD_at h]
  constructor
  · intro q
    by_cases c : s[k] = 42
    · rw [c]; rfl
    · rw [if_neg c] at q
      split at q <;> cases q
  · intro q
    rw [if_pos]
    exact UInt8.toNat_inj.1 (show s[k].toNat = (42 : UInt8).toNat by have : ((42 : UInt8).toNat : Int) = 42 := rfl; omega)
theorem signAt_some {s : ByteArray} {k : Nat} (h : k < s.size) {b : UInt8} (hb : signAt s.data.toList k = some b) : (b.toNat : Int) = if isStar s k = true then 42 else (s[k].toNat : Int) := by
  unfold signAt at hb
  rw [getD_at h, show s.data.toList.length = s.size from Array.length_toList] at hb
  by_cases c : s[k] = 42
  · rw [if_pos c] at hb; cases hb
  · rw [if_neg c] at hb
    by_cases c2 : s[k] = 92 ∧ k + 1 < s.size ∧ s.data.toList.getD (k + 1) 0 = 42
    · rw [if_pos c2] at hb
      rw [if_pos ((isStar_iff s k).2 (by rw [getD_at h]; exact c2))]
      injection hb with hb; subst hb; rfl
    · rw [if_neg c2] at hb
      rw [if_neg (fun q => c2 (by have := (isStar_iff s k).1 q; rw [getD_at h] at this; exact this))]
      injection hb with hb; rw [hb]

/-- A round of the inner loop: place m of the new row, the places behind it done. -/
def Row (P : List (Option UInt8)) (S : List UInt8) (t u : Nat) (m : Nat) : Bool := decide (u ≤ m) && fitsS (P.drop t) (S.drop m)
theorem Row_set {P : List (Option UInt8)} {S : List UInt8} {t u : Nat} {b : Bool} (hb : fitsS (P.drop t) (S.drop u) = b) (k : Nat) : Row P S t u k = if k = u then b else Row P S t (u + 1) k := by
  unfold Row
  by_cases e : k = u
  · subst e; rw [if_pos rfl, hb]; simp
  · rw [if_neg e]
    congr 1
    by_cases h : u ≤ k
    · simp [h]; omega
    · simp [h]; omega
theorem Row_zero (P : List (Option UInt8)) (S : List UInt8) (t m : Nat) : Row P S t 0 m = fitsS (P.drop t) (S.drop m) := by unfold Row; simp
theorem Row_more (P : List (Option UInt8)) (S : List UInt8) (t n m : Nat) (h : m < n) : Row P S t n m = false := by unfold Row; simp; omega

set_option maxRecDepth 100000 in
set_option maxHeartbeats 8000000 in
theorem ref_Fits (p s : ByteArray) (w : World) (hp : p.size ≤ 60) (hs : s.size ≤ 60) :
    Calls Tryd.prog 20 #[.string p, .int .i64 0, .string s, .int .i64 0] w fun e w' => e = .returned (.bool (fitsS (signs p.data.toList) s.data.toList)) ∧ Below w.heap.size w w' := by
  have HS := Lib.hid (show s.data.toList.length = s.size from Array.length_toList)
  have MK := Lib.hid (make_bools (s.size + 1) (by omega))
  have ec : ((s.size + 1 : Nat) : Int) = (s.size : Int) + 1 := by omega
  rw [ec] at MK
  clear ec
  have C1 := Lib.hid (fun w => ref_starts p w hp)
  have C2 := Lib.hid (fun k w hk => ref_star p k w hk hp)
  have SL := Lib.hid (signs_length p.data.toList)
  have PL := Lib.hid (show p.data.toList.length = p.size from Array.length_toList)
  generalize signs p.data.toList = P at *
  obtain ⟨w0, hrun, M0, b0, z0⟩ := MK.out w
  have q1 := M0.cell (k := s.size) (by omega)
  have q2 := M0.frozen s.size
  have M1 := Lib.hid (M0.set (f' := fun m => decide (m = s.size)) s.size true (fun k hk => by by_cases e : k = s.size <;> simp [e]))
  have B0 := Lib.hid (b0.setCell (p := ⟨w.heap.size, s.size, none⟩) (Nat.le_refl _) (.bool true))
  have Z0 := Lib.hid z0
  clear M0 b0 z0
  go_enter Tryd.func20, Tryd.ntmps20
  go_wp2_with fail
  refine (C1.out _).mono ?_
  rintro e w1 ⟨A, c, E, rfl, hpos, hints, hb1⟩
  have hg : w.heap.size < w1.heap.size := by have := hb1.size; have := Z0.out; simp at *; omega
  have M2 := Lib.hid (M1.out.keep hb1 (by have := Z0.out; simp; omega))
  have B1 := Lib.hid (B0.out.trans (hb1.mono (by have := Z0.out; simp; omega)))
  have Pos1 := Lib.hid hpos
  have Ints1 := Lib.hid hints
  have EL := Lib.hid (hpos.1)
  have el : E.length ≤ 60 := by have := EL.out; have := SL.out; have := PL.out; omega
  clear hrun q1 q2 M1 B0 Z0 hpos hints hb1
  go_wp2
  go_loopw [9, 11] (fun v k wr => ∃ (t gc : Nat), k = .int .i64 ((t : Int) - 1) ∧ t ≤ E.length ∧ v = .slice (some ⟨gc, 0, none⟩) (s.size + 1) (s.size + 1) ∧ Hid (Bools wr gc (s.size + 1) (fun m => fitsS (P.drop t) (s.data.toList.drop m))) ∧ Hid (Below w1.heap.size w1 wr)) (fun _ k _ => (intOf k + 1).toNat)
  case atStart =>
    refine ⟨E.length, w.heap.size, rfl, Nat.le_refl _, rfl, ?_, Below.refl _ _⟩
    obtain ⟨cs, e1, e2, e3⟩ := M2.out
    exact ⟨cs, e1, e2, fun k hk => by rw [e3 k hk]; show some (Value.bool (decide (k = s.size))) = some (Value.bool (fitsS (P.drop E.length) (s.data.toList.drop k))); rw [tab_start EL.out (by rw [HS.out]; omega), HS.out]⟩
  case round =>
    obtain ⟨t, gc, rfl, ht, rfl, K, B⟩ := hrel
    cases t with
    | zero =>
      have KC := K.out.cell (k := 0) (by omega)
      simp only [List.drop_zero] at KC
      clear M2 MK
      go_wp2
      go_ret
      exact ⟨rfl, B1.out.trans (B.out.mono B1.out.size)⟩
    | succ t =>
      rw [show (((t + 1 : Nat) : Int) - 1) = (t : Int) by omega]
      obtain ⟨wo, rfl⟩ : ∃ wo : World, wo = wr := ⟨_, rfl⟩
      have hte : t < E.length := by omega
      have htp : t < P.length := by rw [← EL.out]; exact hte
      obtain ⟨ad, rfl, hc⟩ := Ints1.out t E[t] (List.getElem?_eq_getElem hte)
      obtain ⟨hel, hsx⟩ := Pos1.out.2 t E[t] P[t] (List.getElem?_eq_getElem hte) (List.getElem?_eq_getElem htp)
      rw [PL.out] at hel
      have hcw := B.out.cell (block_lt_of_cell hc)
      rw [hc] at hcw
      have hgc := K.out.lt
      obtain ⟨w2, hrun, N0, b2, z2⟩ := MK.out wo
      have K1 := Lib.hid (K.out.keep b2 hgc)
      have N1 := Lib.hid (show Bools w2 wo.heap.size (s.size + 1) (Row P s.data.toList t (s.size + 1)) by
        obtain ⟨cs, e1, e2, e3⟩ := N0
        exact ⟨cs, e1, e2, fun k hk => by rw [e3 k hk, Row_more _ _ _ _ _ hk]⟩)
      have hB := B.out.size
      have B2 := Lib.hid (B.out.trans (b2.mono hB))
      have Z2 := Lib.hid z2
      have C2e := Lib.hid (fun w => C2.out E[t] w hel)
      have HX := Lib.hid hsx
      clear M2 MK C2 hc K N0 b2 z2 hsx
      generalize E[t] = e at *
      go_wp2
      clear hrun hcw
      go_loopw [14] (fun m wr2 => ∃ u : Nat, m = .int .i64 ((u : Int) - 1) ∧ u ≤ s.size + 1 ∧ Hid (Bools wr2 wo.heap.size (s.size + 1) (Row P s.data.toList t u)) ∧ Hid (Bools wr2 gc (s.size + 1) (fun m => fitsS (P.drop (t + 1)) (s.data.toList.drop m))) ∧ Hid (Below w1.heap.size w1 wr2)) (fun m _ => (intOf m + 1).toNat)
      case atStart => exact ⟨s.size + 1, by go_num, Nat.le_refl _, N1, K1, B2⟩
      case round =>
        obtain ⟨u, rfl, hu, N, K, B⟩ := hrel
        cases u with
        | zero =>
          have N2 := Lib.hid (show Bools wr wo.heap.size (s.size + 1) (fun m => fitsS (P.drop t) (s.data.toList.drop m)) by
            obtain ⟨cs, e1, e2, e3⟩ := N.out
            exact ⟨cs, e1, e2, fun k hk => by rw [e3 k hk, Row_zero]⟩)
          clear N K
          go_wp2
          go_roundw
          case rel => exact ⟨t, wo.heap.size, rfl, by omega, rfl, N2, B⟩
          case measure => (simp [intOf] <;> omega)
        | succ u =>
          rw [show (((u + 1 : Nat) : Int) - 1) = (u : Int) by omega]
          have c1 := K.out.cell (k := u) (by omega)
          have c2 := N.out.cell (k := u) (by omega)
          have f2 := N.out.frozen u
          rcases hx : P[t] with _ | b
          · have h42 := (signAt_none hel).1 (HX.out.trans hx)
            by_cases hun : u < s.size
            · have c3 := N.out.cell (k := u + 1) (by omega)
              have hval : fitsS (P.drop t) (s.data.toList.drop u) = (fitsS (P.drop (t + 1)) (s.data.toList.drop u) || fitsS (P.drop t) (s.data.toList.drop (u + 1))) := by
                rw [tab_none htp hx (by rw [HS.out]; omega)]; simp [HS.out, hun]
              have hr : Row P s.data.toList t (u + 1) (u + 1) = fitsS (P.drop t) (s.data.toList.drop (u + 1)) := by unfold Row; simp
              rw [hr] at c3
              clear hx hr
              generalize hv1 : fitsS (P.drop (t + 1)) (s.data.toList.drop u) = v1 at *
              generalize hv2 : fitsS (P.drop t) (s.data.toList.drop (u + 1)) = v2 at *
              clear hv1 hv2
              generalize Row P s.data.toList t (u + 1) u = v0 at *
              have N2 := Lib.hid (N.out.set (f' := Row P s.data.toList t u) u (v1 || v2) (fun k _ => Row_set hval k))
              have K2 := Lib.hid (K.out.other (a := ⟨wo.heap.size, u, none⟩) (by simp; omega) (.bool (v1 || v2)))
              have B3 := Lib.hid (B.out.setCell (p := ⟨wo.heap.size, u, none⟩) hB (.bool (v1 || v2)))
              clear N K B hval
              cases v1 <;> cases v2
              all_goals
                go_wp2
                go_roundw
                case rel => exact ⟨u, rfl, by omega, N2, K2, B3⟩
                case measure => (simp [intOf] <;> omega)
            · obtain rfl : u = s.size := by omega
              have hval : fitsS (P.drop t) (s.data.toList.drop s.size) = fitsS (P.drop (t + 1)) (s.data.toList.drop s.size) := by
                rw [tab_none htp hx (by rw [HS.out]; omega)]; simp [HS.out]
              clear hx
              generalize hv1 : fitsS (P.drop (t + 1)) (s.data.toList.drop s.size) = v1 at *
              clear hv1
              generalize Row P s.data.toList t (s.size + 1) s.size = v0 at *
              have N2 := Lib.hid (N.out.set (f' := Row P s.data.toList t s.size) s.size (v1) (fun k _ => Row_set hval k))
              have K2 := Lib.hid (K.out.other (a := ⟨wo.heap.size, s.size, none⟩) (by simp; omega) (.bool (v1)))
              have B3 := Lib.hid (B.out.setCell (p := ⟨wo.heap.size, s.size, none⟩) hB (.bool (v1)))
              clear N K B hval
              cases v1
              all_goals
                go_wp2
                go_roundw
                case rel => exact ⟨s.size, rfl, by omega, N2, K2, B3⟩
                case measure => (simp [intOf] <;> omega)
          · have h42 : ((p[e].toNat : Int) == 42) = false := beq_eq_false_iff_ne.2 (fun q => by
              have := (signAt_none hel).2 q
              rw [HX.out, hx] at this; cases this)
            by_cases hun : u < s.size
            · have c3 := K.out.cell (k := u + 1) (by omega)
              have hun' : u < s.data.toList.length := by rw [HS.out]; exact hun
              have hval : fitsS (P.drop t) (s.data.toList.drop u) = (((s[u].toNat : Int) == (b.toNat : Int)) && fitsS (P.drop (t + 1)) (s.data.toList.drop (u + 1))) := by
                rw [tab_some htp hx hun']
                congr 1
                have e0 : s.data.toList[u] = s[u] := rfl
                rw [e0, Bool.eq_iff_iff, beq_iff_eq, beq_iff_eq]
                exact ⟨fun q => by rw [q], fun q => UInt8.toNat_inj.1 (by omega)⟩
              have hbv := signAt_some hel (HX.out.trans hx)
              rw [hbv] at hval
              clear hx hbv
              generalize hv2 : fitsS (P.drop (t + 1)) (s.data.toList.drop (u + 1)) = v2 at *
              clear hv2
              generalize Row P s.data.toList t (u + 1) u = v0 at *
              generalize fitsS (P.drop (t + 1)) (s.data.toList.drop u) = v3 at *
              rcases hst : isStar p e with _ | _
              · rw [hst] at C2e hval
                rw [if_neg (by decide)] at hval
                clear hst
                by_cases heq : (s[u].toNat : Int) = (p[e].toNat : Int)
                · rw [beq_iff_eq.2 heq, Bool.true_and] at hval
                  have heq' := beq_iff_eq.2 heq
                  clear heq
                  have N2 := Lib.hid (N.out.set (f' := Row P s.data.toList t u) u (v2) (fun k _ => Row_set hval k))
                  have K2 := Lib.hid (K.out.other (a := ⟨wo.heap.size, u, none⟩) (by simp; omega) (.bool (v2)))
                  have B3 := Lib.hid (B.out.setCell (p := ⟨wo.heap.size, u, none⟩) hB (.bool (v2)))
                  clear N K B hval
                  go_wp2_with (go_at_call 39; refine (C2e.out _).mono ?_; rintro e' w' ⟨rfl, rfl⟩)
                  go_roundw
                  case rel => exact ⟨u, rfl, by omega, N2, K2, B3⟩
                  case measure => (simp [intOf] <;> omega)
                · rw [beq_eq_false_iff_ne.2 heq, Bool.false_and] at hval
                  have heq' := beq_eq_false_iff_ne.2 heq
                  clear heq
                  have N2 := Lib.hid (N.out.set (f' := Row P s.data.toList t u) u (false) (fun k _ => Row_set hval k))
                  have K2 := Lib.hid (K.out.other (a := ⟨wo.heap.size, u, none⟩) (by simp; omega) (.bool (false)))
                  have B3 := Lib.hid (B.out.setCell (p := ⟨wo.heap.size, u, none⟩) hB (.bool (false)))
                  clear N K B hval
                  go_wp2_with (go_at_call 39; refine (C2e.out _).mono ?_; rintro e' w' ⟨rfl, rfl⟩)
                  go_roundw
                  case rel => exact ⟨u, rfl, by omega, N2, K2, B3⟩
                  case measure => (simp [intOf] <;> omega)
              · rw [hst] at C2e hval
                rw [if_pos rfl] at hval
                clear hst
                by_cases heq : (s[u].toNat : Int) = 42
                · rw [beq_iff_eq.2 heq, Bool.true_and] at hval
                  have heq' := beq_iff_eq.2 heq
                  clear heq
                  have N2 := Lib.hid (N.out.set (f' := Row P s.data.toList t u) u (v2) (fun k _ => Row_set hval k))
                  have K2 := Lib.hid (K.out.other (a := ⟨wo.heap.size, u, none⟩) (by simp; omega) (.bool (v2)))
                  have B3 := Lib.hid (B.out.setCell (p := ⟨wo.heap.size, u, none⟩) hB (.bool (v2)))
                  clear N K B hval
                  go_wp2_with (go_at_call 39; refine (C2e.out _).mono ?_; rintro e' w' ⟨rfl, rfl⟩)
                  go_roundw
                  case rel => exact ⟨u, rfl, by omega, N2, K2, B3⟩
                  case measure => (simp [intOf] <;> omega)
                · rw [beq_eq_false_iff_ne.2 heq, Bool.false_and] at hval
                  have heq' := beq_eq_false_iff_ne.2 heq
                  clear heq
                  have N2 := Lib.hid (N.out.set (f' := Row P s.data.toList t u) u (false) (fun k _ => Row_set hval k))
                  have K2 := Lib.hid (K.out.other (a := ⟨wo.heap.size, u, none⟩) (by simp; omega) (.bool (false)))
                  have B3 := Lib.hid (B.out.setCell (p := ⟨wo.heap.size, u, none⟩) hB (.bool (false)))
                  clear N K B hval
                  go_wp2_with (go_at_call 39; refine (C2e.out _).mono ?_; rintro e' w' ⟨rfl, rfl⟩)
                  go_roundw
                  case rel => exact ⟨u, rfl, by omega, N2, K2, B3⟩
                  case measure => (simp [intOf] <;> omega)
            · obtain rfl : u = s.size := by omega
              have hval : fitsS (P.drop t) (s.data.toList.drop s.size) = false := tab_last htp hx (by rw [HS.out]; omega)
              have N2 := Lib.hid (show Bools wr wo.heap.size (s.size + 1) (Row P s.data.toList t s.size) by
                obtain ⟨cs, e1, e2, e3⟩ := N.out
                refine ⟨cs, e1, e2, fun k hk => ?_⟩
                rw [e3 k hk, Row_set hval k]
                by_cases ek : k = s.size
                · rw [if_pos ek, Row_more _ _ _ _ _ hk]
                · rw [if_neg ek])
              clear hx hval N
              go_wp2
              go_roundw
              case rel => exact ⟨s.size, rfl, by omega, N2, K, B⟩
              case measure => (simp [intOf] <;> omega)
end Go.Proofs.YtbaccefcgblagaaDoor
