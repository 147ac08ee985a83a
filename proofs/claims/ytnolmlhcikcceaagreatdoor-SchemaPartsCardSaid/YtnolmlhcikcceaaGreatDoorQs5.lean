/-
  Plain: the parts of sets and records; where a value ends hangs on its own nodes alone. No program in sight.
  Plain: types, which are below which, and the least above two. No program in sight.
  Plain: types as nodes, there and back. No program in sight.
  Plain: where types end among nodes, and where the fields of a record's type stand. No program in sight.
  Plain: below is an order of types. No program in sight.
-/
import Derived.Test.YtnolmlhcikcceaaGreatDoorQs4
namespace Go.Wk

/-- It ends behind where it begins. -/
def Goes (f : Nat → Option Nat) : Prop := ∀ p e, f p = some e → p < e
theorem goes_part (v : List Nd) (m : Nat) : Goes (partEnd v m) := fun p e h => (partEnd_le m p e h).1
theorem setLoop_ge {v : List Nd} {f : Nat → Option Nat} (hf : Goes f) : ∀ k last p e, setLoop v f k last p = some e → p ≤ e := by
  intro k
  induction k with
  | zero => intro last p e h; simp only [setLoop, Option.some.injEq] at h; omega
  | succ k ih =>
    intro last p e h
    simp only [setLoop] at h
    split at h
    · cases h
    · rename_i q hq
      have := hf p q hq
      split at h
      · have := ih _ _ _ h; omega
      · cases h
theorem recLoop_ge {v : List Nd} {f : Nat → Option Nat} (hf : Goes f) : ∀ k last p e, recLoop v f k last p = some e → p ≤ e := by
  intro k
  induction k with
  | zero => intro last p e h; simp only [recLoop, Option.some.injEq] at h; omega
  | succ k ih =>
    intro last p e h
    simp only [recLoop] at h
    split at h
    · cases h
    · split at h
      · cases h
      · rename_i q hq
        have := hf _ q hq
        have := ih _ _ _ h; omega

/-- Two lists that are alike over a stretch. -/
def Alike (u v : List Nd) (a b L : Nat) : Prop := ∀ k, k < L → u[a + k]? = v[b + k]?
theorem Alike.symm {u v : List Nd} {a b L : Nat} (h : Alike u v a b L) : Alike v u b a L := fun k hk => (h k hk).symm
theorem Alike.seg {u v : List Nd} {a b L : Nat} (h : Alike u v a b L) {i j : Nat} (hj : j ≤ L) : seg u (a + i) (a + j) = seg v (b + i) (b + j) := by
  unfold Wk.seg
  apply List.ext_getElem?
  intro k
  rw [List.getElem?_take, List.getElem?_take, show a + j - (a + i) = j - i by omega, show b + j - (b + i) = j - i by omega]
  by_cases hk : k < j - i
  · rw [if_pos hk, if_pos hk, List.getElem?_drop, List.getElem?_drop, Nat.add_assoc, Nat.add_assoc]
    exact h (i + k) (by omega)
  · rw [if_neg hk, if_neg hk]

section
variable {u v : List Nd} {a b L : Nat}
theorem setLoop_move (h : Alike u v a b L) {f g : Nat → Option Nat} (hf : Goes f) (hg : ∀ p e, f (a + p) = some (a + e) → e ≤ L → g (b + p) = some (b + e)) :
    ∀ k (lo : Option Nat) p e, (∀ l, lo = some l → l ≤ p) → setLoop u f k (lo.map (a + ·)) (a + p) = some (a + e) → e ≤ L → setLoop v g k (lo.map (b + ·)) (b + p) = some (b + e) := by
  intro k
  induction k with
  | zero => intro lo p e _ h1 h2; simp only [setLoop, Option.some.injEq] at h1 ⊢; omega
  | succ k ih =>
    intro lo p e hlo h1 h2
    simp only [setLoop] at h1 ⊢
    split at h1
    · cases h1
    · rename_i q hq
      have hlt := hf _ _ hq
      obtain ⟨s, rfl⟩ : ∃ s, q = a + s := ⟨q - a, by omega⟩
      split at h1
      · rename_i hr
        have hge := setLoop_ge hf _ _ _ _ h1
        have hs : s ≤ L := by omega
        rw [hg p s hq hs]
        simp only
        have hr' : rises v (lo.map (b + ·)) (b + p) (b + s) = true := by
          rw [← hr]
          rcases lo with _ | l
          · rfl
          · have := hlo l rfl
            simp only [Option.map_some, rises]
            rw [h.seg (i := l) (j := p) (by omega), h.seg (i := p) (j := s) hs]
        rw [if_pos hr']
        exact ih (some p) s e (fun l hl => by cases hl; omega) h1 h2
      · cases h1
theorem fieldOk_move (h : Alike u v a b L) {last : ByteArray} {p : Nat} (hp : p < L) : fieldOk u last (a + p) = fieldOk v last (b + p) := by
  unfold fieldOk; rw [h p hp]
theorem recLoop_move (h : Alike u v a b L) {f g : Nat → Option Nat} (hf : Goes f) (hg : ∀ p e, f (a + p) = some (a + e) → e ≤ L → g (b + p) = some (b + e)) :
    ∀ k (last : ByteArray) p e, recLoop u f k last (a + p) = some (a + e) → e ≤ L → recLoop v g k last (b + p) = some (b + e) := by
  intro k
  induction k with
  | zero => intro last p e h1 h2; simp only [recLoop, Option.some.injEq] at h1 ⊢; omega
  | succ k ih =>
    intro last p e h1 h2
    simp only [recLoop] at h1 ⊢
    split at h1
    · cases h1
    · rename_i s hs
      split at h1
      · cases h1
      · rename_i q hq
        have hlt := hf _ _ hq
        obtain ⟨r, rfl⟩ : ∃ r, q = a + r := ⟨q - a, by omega⟩
        have hge := recLoop_ge hf _ _ _ _ h1
        rw [← fieldOk_move h (by omega : p < L), hs]
        have := hg (p + 1) r (by rw [← Nat.add_assoc]; exact hq) (by omega)
        rw [← Nat.add_assoc] at this
        simp only [this]
        exact ih s r e h1 h2
theorem partEnd_move (h : Alike u v a b L) : ∀ m p e, partEnd u m (a + p) = some (a + e) → e ≤ L → partEnd v m (b + p) = some (b + e) := by
  intro m
  induction m with
  | zero => intro p e h1 _; cases h1
  | succ m ih =>
    intro p e h1 h2
    have hlt := (partEnd_le _ _ _ h1).1
    have hp := h p (by omega)
    simp only [partEnd] at h1 ⊢
    rw [← hp]
    split at h1
    · cases h1
    · rename_i x hx
      split at h1
      · rename_i hs
        simp only [hs, if_true]
        split at h1
        · rename_i h5
          rw [if_pos h5]
          have := setLoop_move h (goes_part u m) ih x.n.toNat none (p + 1) e (fun l hl => by cases hl) (by rw [← Nat.add_assoc]; exact h1) h2
          rw [← Nat.add_assoc] at this; exact this
        · rename_i h5
          rw [if_neg h5]
          split at h1
          · rename_i h6
            rw [if_pos h6]
            have := recLoop_move h (goes_part u m) ih x.n.toNat .empty (p + 1) e (by rw [← Nat.add_assoc]; exact h1) h2
            rw [← Nat.add_assoc] at this; exact this
          · rename_i h6
            rw [if_neg h6]
            split at h1
            · cases h1
            · rename_i h7
              rw [if_neg h7]
              simp only [Option.some.injEq] at h1 ⊢
              omega
      · cases h1
end

theorem setLoop_same {v : List Nd} {f g : Nat → Option Nat} (hf : Goes f) {q0 : Nat} (h : ∀ r, q0 ≤ r → f r = g r) : ∀ k lo q, q0 ≤ q → setLoop v f k lo q = setLoop v g k lo q := by
  intro k
  induction k with
  | zero => intro lo q _; rfl
  | succ k ih =>
    intro lo q hq
    simp only [setLoop]
    rw [← h q hq]
    split
    · rfl
    · rename_i e he
      have := hf _ _ he
      rw [ih _ e (by omega)]
theorem recLoop_same {v : List Nd} {f g : Nat → Option Nat} (hf : Goes f) {q0 : Nat} (h : ∀ r, q0 ≤ r → f r = g r) : ∀ k lo q, q0 ≤ q → recLoop v f k lo q = recLoop v g k lo q := by
  intro k
  induction k with
  | zero => intro lo q _; rfl
  | succ k ih =>
    intro lo q hq
    simp only [recLoop]
    split
    · rfl
    · rw [← h (q + 1) (by omega)]
      split
      · rfl
      · rename_i e he
        have := hf _ _ he
        rw [ih _ e (by omega)]
theorem partEnd_fuel {v : List Nd} : ∀ m m' p, v.length - p < m → v.length - p < m' → partEnd v m p = partEnd v m' p := by
  intro m
  induction m with
  | zero => intro m' p h; omega
  | succ m ih =>
    intro m' p h1 h2
    obtain ⟨k, rfl⟩ : ∃ k, m' = k + 1 := ⟨m' - 1, by omega⟩
    simp only [partEnd]
    by_cases hp : p < v.length
    · rw [List.getElem?_eq_getElem hp]
      simp only
      have hs := setLoop_same (v := v) (goes_part v m) (q0 := p + 1) (fun r hr => ih k r (by omega) (by omega))
      have hr := recLoop_same (v := v) (goes_part v m) (q0 := p + 1) (fun r hr => ih k r (by omega) (by omega))
      rw [hs _ _ _ (Nat.le_refl _), hr _ _ _ (Nat.le_refl _)]
    · rw [List.getElem?_eq_none (by omega)]

/-- These nodes are one value, of whatever size. -/
def IsV (P : List Nd) : Prop := partEnd P (P.length + 1) 0 = some P.length
theorem isV_zero {P : List Nd} : valFault P = 0 ↔ P.length ≤ 200 ∧ IsV P := by
  unfold valFault IsV
  by_cases h : 200 < P.length
  · rw [if_pos h]; omega
  · rw [if_neg h]
    by_cases hv : partEnd P (P.length + 1) 0 = some P.length
    · rw [if_pos hv]; exact ⟨fun _ => ⟨by omega, hv⟩, fun _ => rfl⟩
    · rw [if_neg hv]; exact ⟨fun q => by omega, fun q => absurd q.2 hv⟩
theorem IsV.pos {P : List Nd} (h : IsV P) : 0 < P.length := (partEnd_le _ _ _ h).1
theorem seg_at {v : List Nd} {p e k : Nat} (hk : k < e - p) : (seg v p e)[k]? = v[p + k]? := by
  unfold seg; rw [List.getElem?_take, if_pos hk, List.getElem?_drop]
theorem alike_refl (v : List Nd) : Alike v v 0 0 v.length := fun _ _ => rfl
theorem partEnd_more {v : List Nd} : ∀ m m' p e, m ≤ m' → partEnd v m p = some e → partEnd v m' p = some e := by
  intro m
  induction m with
  | zero => intro m' p e _ h; cases h
  | succ m ih =>
    intro m' p e hm h
    have hle := (partEnd_le _ _ _ h).2
    obtain ⟨k, rfl⟩ : ∃ k, m' = k + 1 := ⟨m' - 1, by omega⟩
    have ihk : ∀ p e, partEnd v m (0 + p) = some (0 + e) → e ≤ v.length → partEnd v k (0 + p) = some (0 + e) := fun p e h _ => by
      simp only [Nat.zero_add] at h ⊢; exact ih k p e (by omega) h
    have hS := setLoop_move (alike_refl v) (goes_part v m) ihk
    have hR := recLoop_move (alike_refl v) (goes_part v m) ihk
    simp only [Nat.zero_add] at hS hR
    rcases hx : v[p]? with _ | x
    · simp only [partEnd, hx] at h; cases h
    · simp only [partEnd, hx] at h ⊢
      by_cases hs : shapedN x = true
      · rw [if_pos hs] at h ⊢
        by_cases h5 : x.op = 5
        · rw [if_pos h5] at h ⊢
          have := hS x.n.toNat none (p + 1) e (fun l hl => by cases hl) h hle
          exact this
        · rw [if_neg h5] at h ⊢
          by_cases h6 : x.op = 6
          · rw [if_pos h6] at h ⊢; exact hR _ _ _ _ h hle
          · rw [if_neg h6] at h ⊢; exact h
      · rw [if_neg hs] at h; cases h
theorem isV_seg {v : List Nd} {m p e : Nat} (h : partEnd v m p = some e) : IsV (seg v p e) := by
  have hle := partEnd_le _ _ _ h
  have hl : (seg v p e).length = e - p := seg_length hle.2
  have hA : Alike v (seg v p e) p 0 (e - p) := fun k hk => by rw [Nat.zero_add, seg_at hk]
  have := partEnd_move hA m 0 (e - p) (by rw [Nat.add_zero, h]; congr 1; omega) (Nat.le_refl _)
  unfold IsV
  rw [hl]
  have h2 : partEnd (seg v p e) m 0 = some (e - p) := by simpa using this
  have h3 := partEnd_more m (m + (e - p) + 1) 0 (e - p) (by omega) h2
  rw [← h3]
  exact partEnd_fuel _ _ _ (by omega) (by omega)
/-- A value within other nodes ends where it ends. -/
theorem isV_in {v Q : List Nd} {p m : Nat} (hQ : IsV Q) (_hp : p + Q.length ≤ v.length) (hs : seg v p (p + Q.length) = Q) (hm : v.length - p < m) : partEnd v m p = some (p + Q.length) := by
  have hA : Alike Q v 0 p Q.length := fun k hk => by
    rw [Nat.zero_add, ← seg_at (e := p + Q.length) (by omega), hs]
  have h1 := partEnd_more _ (m + Q.length + 1) _ _ (by omega) hQ
  have := partEnd_move hA _ 0 Q.length (by simpa using h1) (Nat.le_refl _)
  rw [Nat.add_zero] at this
  rw [← this]
  exact partEnd_fuel _ _ _ (by omega) (by omega)

theorem noB_eq {s : ByteArray} (h : noB s = true) : s = ⟨#[]⟩ := by
  unfold noB at h
  exact bytes_ext (List.eq_nil_of_length_eq_zero (by rw [Array.length_toList]; exact of_decide_eq_true h))
/-! ### The parts -/
def splitS (v : List Nd) (f : Nat → Option Nat) : Nat → Nat → List (List Nd)
  | 0, _ => []
  | k + 1, p =>
    match f p with
    | none => []
    | some e => seg v p e :: splitS v f k e
def nmAt (v : List Nd) (p : Nat) : ByteArray :=
  match v[p]? with
  | none => .empty
  | some x => x.s
def splitR (v : List Nd) (f : Nat → Option Nat) : Nat → Nat → List (ByteArray × List Nd)
  | 0, _ => []
  | k + 1, p =>
    match f (p + 1) with
    | none => []
    | some e => (nmAt v p, seg v (p + 1) e) :: splitR v f k e
def headN : List Nd → Nat
  | [] => 0
  | x :: _ => x.n.toNat
def headOp : List Nd → Int
  | [] => 0
  | x :: _ => x.op
/-- The parts of a set. -/
def setParts (P : List Nd) : List (List Nd) := splitS P (partEnd P (P.length + 1)) (headN P) 1
/-- The fields of a record. -/
def recParts (P : List Nd) : List (ByteArray × List Nd) := splitR P (partEnd P (P.length + 1)) (headN P) 1
/-- Each one is ahead of the next one. -/
def Up : List (List Nd) → Prop
  | [] => True
  | [_] => True
  | a :: b :: r => cmpNds a b < 0 ∧ Up (b :: r)
def UpFrom (o : Option (List Nd)) (l : List (List Nd)) : Prop := match o with | none => Up l | some a => Up (a :: l)
def fieldN (s : ByteArray) : Nd := ⟨7, 0, s, ⟨#[]⟩⟩
def flatR : List (ByteArray × List Nd) → List Nd
  | [] => []
  | x :: r => fieldN x.1 :: (x.2 ++ flatR r)
def UpB (last : ByteArray) : List (ByteArray × List Nd) → Prop
  | [] => True
  | x :: r => cmpB last x.1 < 0 ∧ UpB x.1 r

theorem seg_join {v : List Nd} {p q e : Nat} (h1 : p ≤ q) (h2 : q ≤ e) : seg v p q ++ seg v q e = seg v p e := by
  unfold seg
  rw [show e - p = (q - p) + (e - q) by omega, List.take_add, List.drop_drop, show p + (q - p) = q by omega]
theorem seg_self (v : List Nd) (p : Nat) : seg v p p = [] := by unfold seg; simp
theorem seg_step {v : List Nd} {p e : Nat} (h : p < v.length) (h2 : p < e) : seg v p e = v[p] :: seg v (p + 1) e := by
  unfold seg
  rw [List.drop_eq_getElem_cons h, show e - p = (e - (p + 1)) + 1 by omega, List.take_succ_cons]
theorem seg_all (v : List Nd) (p : Nat) : seg v p v.length = v.drop p := by
  unfold seg; rw [List.take_of_length_le (by simp)]

/-- What a set's loop has met. -/
theorem setLoop_parts {v : List Nd} {m : Nat} : ∀ k lo p e, (∀ l, lo = some l → l ≤ p) → p ≤ v.length → setLoop v (partEnd v m) k lo p = some e →
    (splitS v (partEnd v m) k p).length = k ∧ (splitS v (partEnd v m) k p).flatten = seg v p e ∧ (∀ Q ∈ splitS v (partEnd v m) k p, IsV Q) ∧ UpFrom (lo.map fun l => seg v l p) (splitS v (partEnd v m) k p) := by
  intro k
  induction k with
  | zero =>
    intro lo p e _ _ h
    simp only [setLoop, Option.some.injEq] at h
    subst h
    refine ⟨rfl, by rw [seg_self]; rfl, (fun Q h => by cases h), ?_⟩
    rcases lo with _ | l <;> trivial
  | succ k ih =>
    intro lo p e hlo hp h
    simp only [setLoop] at h
    simp only [splitS]
    split at h
    · cases h
    · rename_i q hq
      have hle := partEnd_le _ _ _ hq
      split at h
      · rename_i hr
        obtain ⟨h1, h2, h3, h4⟩ := ih (some p) q e (fun l hl => by cases hl; omega) hle.2 h
        have hge := setLoop_ge (goes_part v m) _ _ _ _ h
        rw [hq]
        refine ⟨by simp [h1], ?_, ?_, ?_⟩
        · rw [List.flatten_cons, h2, seg_join (by omega) hge]
        · intro Q hQ
          rcases List.mem_cons.1 hQ with rfl | hQ
          · exact isV_seg hq
          · exact h3 Q hQ
        · simp only [Option.map_some, UpFrom] at h4
          rcases lo with _ | l
          · exact h4
          · simp only [rises, decide_eq_true_eq] at hr
            exact ⟨hr, h4⟩
      · cases h
/-- Nodes of which a set's loop makes parts. -/
theorem setLoop_of {v : List Nd} {m : Nat} : ∀ (L : List (List Nd)) lo p e, (∀ l, lo = some l → l ≤ p) → e ≤ v.length → p ≤ e → seg v p e = L.flatten → (∀ Q ∈ L, IsV Q) → UpFrom (lo.map fun l => seg v l p) L → v.length - p < m →
    setLoop v (partEnd v m) L.length lo p = some e ∧ splitS v (partEnd v m) L.length p = L := by
  intro L
  induction L with
  | nil =>
    intro lo p e _ h1 h2 h3 _ _ _
    have hl := congrArg List.length h3
    rw [seg_length h1] at hl
    simp at hl
    simp only [List.length_nil, setLoop, splitS, and_true]
    congr 1; omega
  | cons Q L ih =>
    intro lo p e hlo h1 h2 h3 h4 h5 h6
    have hQ := h4 Q (by simp)
    rw [List.flatten_cons] at h3
    have hl := congrArg List.length h3
    rw [seg_length h1, List.length_append] at hl
    have hq : seg v p (p + Q.length) = Q := by
      have := seg_join (v := v) (p := p) (q := p + Q.length) (e := e) (by omega) (by omega)
      rw [h3] at this
      exact (List.append_inj this (by rw [seg_length (by omega)]; omega)).1
    have hq2 : seg v (p + Q.length) e = L.flatten := by
      have := seg_join (v := v) (p := p) (q := p + Q.length) (e := e) (by omega) (by omega)
      rw [h3] at this
      exact (List.append_inj this (by rw [seg_length (by omega)]; omega)).2
    have hpos := hQ.pos
    have hend := isV_in hQ (by omega) hq h6
    have hup : UpFrom ((some p).map fun l => seg v l (p + Q.length)) L := by
      simp only [Option.map_some, UpFrom, hq]
      rcases lo with _ | l
      · simp only [Option.map_none, UpFrom] at h5
        exact h5
      · simp only [Option.map_some, UpFrom] at h5
        exact h5.2
    have hr : rises v lo p (p + Q.length) = true := by
      rcases lo with _ | l
      · rfl
      · simp only [Option.map_some, UpFrom] at h5
        simp only [rises, hq, decide_eq_true_eq]
        exact h5.1
    obtain ⟨g1, g2⟩ := ih (some p) (p + Q.length) e (fun l hl => by cases hl; omega) h1 (by omega) hq2 (fun Q' h => h4 Q' (by simp [h])) hup (by omega)
    simp only [List.length_cons, setLoop, splitS, hend, hr, if_true]
    exact ⟨g1, by rw [g2, hq]⟩
theorem recLoop_parts {v : List Nd} {m : Nat} : ∀ k last p e, p ≤ v.length → recLoop v (partEnd v m) k last p = some e →
    (splitR v (partEnd v m) k p).length = k ∧ flatR (splitR v (partEnd v m) k p) = seg v p e ∧ (∀ x ∈ splitR v (partEnd v m) k p, IsV x.2 ∧ nameFault x.1 = 0) ∧ UpB last (splitR v (partEnd v m) k p) := by
  intro k
  induction k with
  | zero =>
    intro last p e _ h
    simp only [recLoop, Option.some.injEq] at h
    subst h
    exact ⟨rfl, by rw [seg_self]; rfl, (fun Q h => by cases h), trivial⟩
  | succ k ih =>
    intro last p e hp h
    simp only [recLoop] at h
    simp only [splitR]
    split at h
    · cases h
    · rename_i s hs
      split at h
      · cases h
      · rename_i q hq
        have hle := partEnd_le _ _ _ hq
        obtain ⟨h1, h2, h3, h4⟩ := ih s q e hle.2 h
        have hge := recLoop_ge (goes_part v m) _ _ _ _ h
        unfold fieldOk at hs
        split at hs
        · cases hs
        · rename_i x hx
          split at hs
          · rename_i hc
            simp only [Option.some.injEq] at hs
            subst hs
            simp only [Bool.and_eq_true, decide_eq_true_eq] at hc
            obtain ⟨⟨c1, c2⟩, c3⟩ := hc
            have hsh := c2
            unfold shapedN at hsh
            rw [c1] at hsh
            simp at hsh
            obtain ⟨⟨n1, n2⟩, n3⟩ := hsh
            have hnm : nmAt v p = x.s := by unfold nmAt; rw [hx]
            have hp' : p < v.length := (List.getElem?_eq_some_iff.1 hx).1
            have hxe : v[p] = x := by rw [List.getElem?_eq_getElem hp'] at hx; injection hx
            have hxf : x = fieldN x.s := Nd.ext4 c1 n1 rfl (noB_eq n2)
            rw [hq]
            simp only
            refine ⟨by simp [h1], ?_, ?_, ?_⟩
            · rw [flatR, h2, hnm, seg_join (by omega) hge, seg_step hp' (by omega), hxe, ← hxf]
            · intro y hy
              rcases List.mem_cons.1 hy with rfl | hy
              · exact ⟨isV_seg hq, by rw [hnm]; exact n3⟩
              · exact h3 y hy
            · simp only [UpB, hnm]
              exact ⟨c3, h4⟩
          · cases hs
theorem fieldN_shaped {s : ByteArray} (h : nameFault s = 0) : shapedN (fieldN s) = true := by
  unfold shapedN fieldN
  simp [h, noB]
  rfl
theorem recLoop_of {v : List Nd} {m : Nat} : ∀ (L : List (ByteArray × List Nd)) last p e, e ≤ v.length → p ≤ e → seg v p e = flatR L → (∀ x ∈ L, IsV x.2 ∧ nameFault x.1 = 0) → UpB last L → v.length - p < m →
    recLoop v (partEnd v m) L.length last p = some e ∧ splitR v (partEnd v m) L.length p = L := by
  intro L
  induction L with
  | nil =>
    intro last p e h1 h2 h3 _ _ _
    have hl := congrArg List.length h3
    rw [seg_length h1] at hl
    simp [flatR] at hl
    simp only [List.length_nil, recLoop, splitR, and_true]
    congr 1; omega
  | cons x L ih =>
    intro last p e h1 h2 h3 h4 h5 h6
    obtain ⟨hQ, hN⟩ := h4 x (by simp)
    rw [flatR] at h3
    have hl := congrArg List.length h3
    rw [seg_length h1, List.length_cons, List.length_append] at hl
    have hp' : p < v.length := by omega
    rw [seg_step hp' (by omega)] at h3
    injection h3 with e1 e2
    have hq : seg v (p + 1) (p + 1 + x.2.length) = x.2 := by
      have := seg_join (v := v) (p := p + 1) (q := p + 1 + x.2.length) (e := e) (by omega) (by omega)
      rw [e2] at this
      exact (List.append_inj this (by rw [seg_length (by omega)]; omega)).1
    have hq2 : seg v (p + 1 + x.2.length) e = flatR L := by
      have := seg_join (v := v) (p := p + 1) (q := p + 1 + x.2.length) (e := e) (by omega) (by omega)
      rw [e2] at this
      exact (List.append_inj this (by rw [seg_length (by omega)]; omega)).2
    have hend := isV_in hQ (by omega) hq (m := m) (by omega)
    have hnm : nmAt v p = x.1 := by unfold nmAt; rw [List.getElem?_eq_getElem hp', e1]; rfl
    have hf : fieldOk v last p = some x.1 := by
      unfold fieldOk
      rw [List.getElem?_eq_getElem hp', e1]
      simp only [fieldN_shaped hN]
      have : decide (cmpB last (fieldN x.1).s < 0) = true := decide_eq_true h5.1
      rw [this]
      rfl
    obtain ⟨g1, g2⟩ := ih x.1 (p + 1 + x.2.length) e h1 (by omega) hq2 (fun y h => h4 y (by simp [h])) h5.2 (by omega)
    simp only [List.length_cons, recLoop, splitR, hend, hf]
    exact ⟨g1, by rw [g2, hq, hnm]⟩

def setHead (n : Int) : Nd := ⟨5, n, ⟨#[]⟩, ⟨#[]⟩⟩
def recHead (n : Int) : Nd := ⟨6, n, ⟨#[]⟩, ⟨#[]⟩⟩
theorem headOp_cons (x : Nd) (r : List Nd) : headOp (x :: r) = x.op := rfl
theorem headN_cons (x : Nd) (r : List Nd) : headN (x :: r) = x.n.toNat := rfl
/-- A set: its head, and its parts in order. -/
theorem isV_set {P : List Nd} (h : IsV P) (h5 : headOp P = 5) :
    P = setHead (setParts P).length :: (setParts P).flatten ∧ (setParts P).length = headN P ∧ (∀ Q ∈ setParts P, IsV Q) ∧ Up (setParts P) := by
  have hpos := h.pos
  unfold IsV at h
  rcases P with _ | ⟨x, r⟩
  · simp at hpos
  have h5' : x.op = 5 := h5
  simp only [partEnd, List.getElem?_cons_zero] at h
  by_cases hs : shapedN x = true
  · rw [if_pos hs, if_pos h5'] at h
    unfold shapedN at hs
    rw [h5'] at hs
    simp at hs
    have hx : x = setHead x.n := Nd.ext4 h5' rfl (noB_eq hs.1.2) (noB_eq hs.2)
    have h' : setLoop (x :: r) (partEnd (x :: r) ((x :: r).length + 1)) x.n.toNat none 1 = some (x :: r).length := by
      rw [← h]
      exact (setLoop_same (goes_part _ _) (q0 := 1) (fun q hq => partEnd_fuel _ _ _ (by simp only [List.length_cons]; omega) (by simp only [List.length_cons]; omega)) _ _ _ (Nat.le_refl _))
    obtain ⟨g1, g2, g3, g4⟩ := setLoop_parts _ none 1 _ (fun l hl => by cases hl) (by simp) h'
    have e : setParts (x :: r) = splitS (x :: r) (partEnd (x :: r) ((x :: r).length + 1)) x.n.toNat 1 := rfl
    rw [← e] at g1 g2 g3 g4
    refine ⟨?_, g1, g3, g4⟩
    rw [g2, seg_all, g1, Int.toNat_of_nonneg hs.1.1, ← hx]
    rfl
  · rw [if_neg hs] at h; cases h
theorem set_isV {L : List (List Nd)} (h : ∀ Q ∈ L, IsV Q) (hu : Up L) : IsV (setHead L.length :: L.flatten) ∧ setParts (setHead L.length :: L.flatten) = L := by
  have hs : shapedN (setHead L.length) = true := by unfold shapedN setHead; simp [noB]; rfl
  have key := fun m hm => setLoop_of (v := setHead L.length :: L.flatten) (m := m) L none 1 (L.flatten.length + 1) (fun l hl => by cases hl) (by simp) (by omega) (by
    have := seg_all (setHead L.length :: L.flatten) 1
    simpa using this) h hu hm
  refine ⟨?_, ?_⟩
  · unfold IsV
    simp only [partEnd, List.getElem?_cons_zero, hs, if_true]
    have h5 : (setHead L.length).op = 5 := rfl
    rw [if_pos h5]
    exact (key _ (by simp only [List.length_cons]; omega)).1
  · unfold setParts
    rw [headN_cons]
    exact (key _ (by simp only [List.length_cons]; omega)).2
theorem isV_rec {P : List Nd} (h : IsV P) (h6 : headOp P = 6) :
    P = recHead (recParts P).length :: flatR (recParts P) ∧ (recParts P).length = headN P ∧ (∀ x ∈ recParts P, IsV x.2 ∧ nameFault x.1 = 0) ∧ UpB .empty (recParts P) := by
  have hpos := h.pos
  unfold IsV at h
  rcases P with _ | ⟨x, r⟩
  · simp at hpos
  have h6' : x.op = 6 := h6
  simp only [partEnd, List.getElem?_cons_zero] at h
  by_cases hs : shapedN x = true
  · rw [if_pos hs, if_neg (by omega), if_pos h6'] at h
    unfold shapedN at hs
    rw [h6'] at hs
    simp at hs
    have hx : x = recHead x.n := Nd.ext4 h6' rfl (noB_eq hs.1.2) (noB_eq hs.2)
    have h' : recLoop (x :: r) (partEnd (x :: r) ((x :: r).length + 1)) x.n.toNat .empty 1 = some (x :: r).length := by
      rw [← h]
      exact (recLoop_same (goes_part _ _) (q0 := 1) (fun q hq => partEnd_fuel _ _ _ (by simp only [List.length_cons]; omega) (by simp only [List.length_cons]; omega)) _ _ _ (Nat.le_refl _))
    obtain ⟨g1, g2, g3, g4⟩ := recLoop_parts _ .empty 1 _ (by simp) h'
    have e : recParts (x :: r) = splitR (x :: r) (partEnd (x :: r) ((x :: r).length + 1)) x.n.toNat 1 := rfl
    rw [← e] at g1 g2 g3 g4
    refine ⟨?_, g1, g3, g4⟩
    rw [g2, seg_all, g1, Int.toNat_of_nonneg hs.1.1, ← hx]
    rfl
  · rw [if_neg hs] at h; cases h
theorem rec_isV {L : List (ByteArray × List Nd)} (h : ∀ x ∈ L, IsV x.2 ∧ nameFault x.1 = 0) (hu : UpB .empty L) : IsV (recHead L.length :: flatR L) ∧ recParts (recHead L.length :: flatR L) = L := by
  have hs : shapedN (recHead L.length) = true := by unfold shapedN recHead; simp [noB]; rfl
  have key := fun m hm => recLoop_of (v := recHead L.length :: flatR L) (m := m) L .empty 1 ((flatR L).length + 1) (by simp) (by omega) (by
    have := seg_all (recHead L.length :: flatR L) 1
    simpa using this) h hu hm
  refine ⟨?_, ?_⟩
  · unfold IsV
    simp only [partEnd, List.getElem?_cons_zero, hs, if_true]
    have h6 : (recHead L.length).op = 6 := rfl
    rw [if_neg (by rw [h6]; omega), if_pos h6]
    exact (key _ (by simp only [List.length_cons]; omega)).1
  · unfold recParts
    rw [headN_cons]
    exact (key _ (by simp only [List.length_cons]; omega)).2

/-- The loops over the parts of what is a value come to its end. -/
theorem set_loop {P : List Nd} (h : IsV P) (h5 : headOp P = 5) : setLoop P (partEnd P (P.length + 1)) (headN P) none 1 = some P.length ∧ ∃ hp : 0 < P.length, P[0].op = 5 ∧ 0 ≤ P[0].n ∧ headN P = P[0].n.toNat := by
  have hpos := h.pos
  unfold IsV at h
  rcases P with _ | ⟨x, r⟩
  · simp at hpos
  have h5' : x.op = 5 := h5
  simp only [partEnd, List.getElem?_cons_zero] at h
  by_cases hs : shapedN x = true
  · rw [if_pos hs, if_pos h5'] at h
    unfold shapedN at hs
    rw [h5'] at hs
    simp at hs
    refine ⟨?_, hpos, h5', hs.1.1, rfl⟩
    rw [← h]
    exact (setLoop_same (goes_part _ _) (q0 := 1) (fun q hq => partEnd_fuel _ _ _ (by simp only [List.length_cons]; omega) (by simp only [List.length_cons]; omega)) _ _ _ (Nat.le_refl _))
  · rw [if_neg hs] at h; cases h
theorem rec_loop {P : List Nd} (h : IsV P) (h6 : headOp P = 6) : recLoop P (partEnd P (P.length + 1)) (headN P) .empty 1 = some P.length ∧ ∃ hp : 0 < P.length, P[0].op = 6 ∧ 0 ≤ P[0].n ∧ headN P = P[0].n.toNat := by
  have hpos := h.pos
  unfold IsV at h
  rcases P with _ | ⟨x, r⟩
  · simp at hpos
  have h6' : x.op = 6 := h6
  simp only [partEnd, List.getElem?_cons_zero] at h
  by_cases hs : shapedN x = true
  · rw [if_pos hs, if_neg (by omega), if_pos h6'] at h
    unfold shapedN at hs
    rw [h6'] at hs
    simp at hs
    refine ⟨?_, hpos, h6', hs.1.1, rfl⟩
    rw [← h]
    exact (recLoop_same (goes_part _ _) (q0 := 1) (fun q hq => partEnd_fuel _ _ _ (by simp only [List.length_cons]; omega) (by simp only [List.length_cons]; omega)) _ _ _ (Nat.le_refl _))
  · rw [if_neg hs] at h; cases h
/-- The error of the first one that is no value. -/
def faults : List (List Nd) → Int
  | [] => 0
  | P :: r => or2 (valFault P) (faults r)
end Go.Wk
namespace Go.Wk

mutual
/-- A type: one without parts, of entities, of sets, of records. -/
inductive Kd
  | base (op : Int)
  | ent (s : ByteArray)
  | set (p : Kd)
  | fs (f : Fl)
/-- The fields of a record's type: a name, must it be there, its type. -/
inductive Fl
  | nil
  | cons (s : ByteArray) (m : Bool) (k : Kd) (r : Fl)
end
mutual
def Kd.sz : Kd → Nat
  | .base _ => 1
  | .ent _ => 1
  | .set p => p.sz + 1
  | .fs f => f.sz + 1
def Fl.sz : Fl → Nat
  | .nil => 0
  | .cons _ _ k r => k.sz + r.sz + 1
end
def Fl.find : Fl → ByteArray → Option (Bool × Kd)
  | .nil, _ => none
  | .cons s m k r, x => if s = x then some (m, k) else r.find x
def isAny : Kd → Bool
  | .base x => x == 48
  | _ => false
def isNone : Kd → Bool
  | .base x => x == 49
  | _ => false
/-- All that must be there by g are in f. -/
def mustF : Fl → Fl → Bool
  | .nil, _ => true
  | .cons s m _ r, f => (!m || (f.find s).isSome) && mustF r f
mutual
def belowK : Kd → Kd → Bool
  | .base x, b => x == 49 || isAny b || (match b with | .base y => x == y | _ => false)
  | .ent s, b => isAny b || (match b with | .ent t => decide (s = t) | _ => false)
  | .set p, b => isAny b || (match b with | .set q => belowK p q | _ => false)
  | .fs f, b => isAny b || (match b with | .fs g => belowF f g && mustF g f | _ => false)
def belowF : Fl → Fl → Bool
  | .nil, _ => true
  | .cons s m k r, g => (match g.find s with | none => false | some (m', k') => (!m' || m) && belowK k k') && belowF r g
end
/-- The names ascend, behind x. -/
def Fl.ascFrom : ByteArray → Fl → Prop
  | _, .nil => True
  | x, .cons s _ _ r => cmpB x s < 0 ∧ r.ascFrom s
def Fl.asc : Fl → Prop
  | .nil => True
  | .cons s _ _ r => r.ascFrom s
mutual
def Kd.ok : Kd → Prop
  | .base _ => True
  | .ent _ => True
  | .set p => p.ok
  | .fs f => f.asc ∧ f.ok
def Fl.ok : Fl → Prop
  | .nil => True
  | .cons _ _ k r => k.ok ∧ r.ok
end
theorem asc_tail {x : ByteArray} {f : Fl} (h : f.ascFrom x) : f.asc := by
  cases f with
  | nil => trivial
  | cons s m k r => exact h.2
theorem find_lt {x : ByteArray} {f : Fl} (h : f.ascFrom x) {s : ByteArray} {v : Bool × Kd} (hf : f.find s = some v) : cmpB x s < 0 := by
  induction f using Fl.rec (motive_1 := fun _ => True) generalizing x with
  | nil => cases hf
  | cons t m k r _ ih =>
    simp only [Fl.find] at hf
    split at hf
    · rename_i e; subst e; exact h.1
    · exact cmpB_cmp.lt_le h.1 (by have := ih h.2 hf; omega)
  | _ => trivial
theorem find_sz {f : Fl} {s : ByteArray} {m : Bool} {k : Kd} (hf : f.find s = some (m, k)) : k.sz < f.sz := by
  induction f using Fl.rec (motive_1 := fun _ => True) with
  | nil => cases hf
  | cons t m' k' r _ ih =>
    simp only [Fl.find] at hf
    simp only [Fl.sz]
    split at hf
    · injection hf with hf; injection hf with h1 h2; subst h2; omega
    · have := ih hf; omega
  | _ => trivial
theorem find_ok {f : Fl} (h : f.ok) {s : ByteArray} {m : Bool} {k : Kd} (hf : f.find s = some (m, k)) : k.ok := by
  induction f using Fl.rec (motive_1 := fun _ => True) with
  | nil => cases hf
  | cons t m' k' r _ ih =>
    simp only [Fl.find] at hf
    simp only [Fl.ok] at h
    split at hf
    · injection hf with hf; injection hf with h1 h2; subst h2; exact h.1
    · exact ih h.2 hf
  | _ => trivial
/-- Below, by what is found. -/
theorem belowF_iff {f g : Fl} (h : f.asc) : belowF f g = true ↔ ∀ s m k, f.find s = some (m, k) → ∃ m' k', g.find s = some (m', k') ∧ (m' = true → m = true) ∧ belowK k k' = true := by
  induction f using Fl.rec (motive_1 := fun _ => True) with
  | nil => simp [belowF, Fl.find]
  | cons t m k r _ ih =>
    have ih := ih (asc_tail h)
    simp only [belowF, Bool.and_eq_true, ih]
    constructor
    · rintro ⟨h1, h2⟩ s m0 k0 hf
      simp only [Fl.find] at hf
      split at hf
      · rename_i e; subst e
        injection hf with hf; injection hf with e1 e2; subst e1 e2
        rcases hg : g.find t with _ | ⟨m', k'⟩
        · rw [hg] at h1; cases h1
        · rw [hg] at h1
          simp only [Bool.and_eq_true, Bool.or_eq_true, Bool.not_eq_true'] at h1
          exact ⟨m', k', rfl, fun e => by rcases h1.1 with h | h; · rw [e] at h; cases h
                                          · exact h, h1.2⟩
      · exact h2 s m0 k0 hf
    · intro hall
      constructor
      · obtain ⟨m', k', hg, h1, h2⟩ := hall t m k (by simp [Fl.find])
        rw [hg]
        simp only [Bool.and_eq_true, Bool.or_eq_true, Bool.not_eq_true']
        exact ⟨by cases m' with
          | false => exact .inl rfl
          | true => exact .inr (h1 rfl), h2⟩
      · intro s m0 k0 hf
        refine hall s m0 k0 ?_
        have hlt := find_lt h hf
        simp only [Fl.find]
        rw [if_neg (fun e => by subst e; rw [cmpB_cmp.self] at hlt; omega)]
        exact hf
  | _ => trivial
theorem mustF_iff {g f : Fl} (h : g.asc) : mustF g f = true ↔ ∀ s k, g.find s = some (true, k) → (f.find s).isSome = true := by
  induction g using Fl.rec (motive_1 := fun _ => True) with
  | nil => simp [mustF, Fl.find]
  | cons t m k r _ ih =>
    have ih := ih (asc_tail h)
    simp only [mustF, Bool.and_eq_true, ih, Bool.or_eq_true, Bool.not_eq_true']
    constructor
    · rintro ⟨h1, h2⟩ s k0 hf
      simp only [Fl.find] at hf
      split at hf
      · rename_i e; subst e
        injection hf with hf; injection hf with e1 e2; subst e1 e2
        rcases h1 with h1 | h1
        · cases h1
        · exact h1
      · exact h2 s k0 hf
    · intro hall
      constructor
      · cases m with
        | false => exact .inl rfl
        | true => exact .inr (hall t k (by simp [Fl.find]))
      · intro s k0 hf
        refine hall s k0 ?_
        have hlt := find_lt h hf
        simp only [Fl.find]
        rw [if_neg (fun e => by subst e; rw [cmpB_cmp.self] at hlt; omega)]
        exact hf
  | _ => trivial
theorem below_any (a b : Kd) (h : isAny b = true) : belowK a b = true := by cases a <;> simp [belowK, h]
theorem none_below (a b : Kd) (h : isNone a = true) : belowK a b = true := by
  cases a with
  | base x => simp only [isNone] at h; simp [belowK, h]
  | _ => cases h
/-- Each is below itself. -/
theorem below_refl : ∀ (n : Nat) (a : Kd), a.sz ≤ n → a.ok → belowK a a = true
  | 0, a, h, _ => by cases a <;> simp [Kd.sz] at h
  | n + 1, a, h, hok => by
    cases a with
    | base x => simp [belowK]
    | ent s => simp [belowK]
    | set p =>
      simp only [Kd.sz] at h
      simp [belowK, below_refl n p (by omega) hok]
    | fs f =>
      simp only [Kd.sz] at h
      simp only [belowK, Bool.or_eq_true, Bool.and_eq_true]
      refine .inr ⟨(belowF_iff hok.1).2 fun s m k hf => ⟨m, k, hf, id, below_refl n k (by have := find_sz hf; omega) (find_ok hok.2 hf)⟩, (mustF_iff hok.1).2 fun s k hf => by rw [hf]; rfl⟩
end Go.Wk
namespace Go.Wk

def emp : ByteArray := ⟨#[]⟩
mutual
/-- A type's nodes. -/
def Kd.flat : Kd → List Nd
  | .base x => [⟨x, 0, emp, emp⟩]
  | .ent s => [⟨44, 0, s, emp⟩]
  | .set p => ⟨45, 0, emp, emp⟩ :: p.flat
  | .fs f => ⟨46, f.len, emp, emp⟩ :: f.flat
def Fl.len : Fl → Nat
  | .nil => 0
  | .cons _ _ _ r => r.len + 1
def Fl.flat : Fl → List Nd
  | .nil => []
  | .cons s m k r => ⟨47, if m = true then 1 else 0, s, emp⟩ :: (k.flat ++ r.flat)
end
def baseOp (x : Int) : Prop := x = 41 ∨ x = 42 ∨ x = 43 ∨ x = 48 ∨ x = 49
instance (x : Int) : Decidable (baseOp x) := by unfold baseOp; infer_instance
mutual
/-- A type as it may be handed in. -/
def Kd.valid : Kd → Prop
  | .base x => baseOp x
  | .ent s => nameFault s = 0
  | .set p => p.valid
  | .fs f => f.validFrom emp
def Fl.validFrom : Fl → ByteArray → Prop
  | .nil, _ => True
  | .cons s _ k r, x => cmpB x s < 0 ∧ nameFault s = 0 ∧ k.valid ∧ r.validFrom s
end
def kfOk (x : ByteArray) (y : Nd) : Prop := y.op = 47 ∧ (y.n = 0 ∨ y.n = 1) ∧ y.t = emp ∧ nameFault y.s = 0 ∧ cmpB x y.s < 0
instance (x : ByteArray) (y : Nd) : Decidable (kfOk x y) := by unfold kfOk; infer_instance
mutual
/-- The type at the head of nodes, and what is behind it. -/
def parseK : Nat → List Nd → Option (Kd × List Nd)
  | 0, _ => none
  | _ + 1, [] => none
  | n + 1, x :: r =>
    if baseOp x.op then (if x.n = 0 ∧ x.s = emp ∧ x.t = emp then some (.base x.op, r) else none)
    else if x.op = 44 then (if x.n = 0 ∧ nameFault x.s = 0 ∧ x.t = emp then some (.ent x.s, r) else none)
    else if x.op = 45 then (match parseK n r with
      | none => none
      | some (p, r') => if x.n = 0 ∧ x.s = emp ∧ x.t = emp then some (.set p, r') else none)
    else if x.op = 46 then (match parseF n x.n.toNat emp r with
      | none => none
      | some (f, r') => if 0 ≤ x.n ∧ x.s = emp ∧ x.t = emp then some (.fs f, r') else none)
    else none
def parseF : Nat → Nat → ByteArray → List Nd → Option (Fl × List Nd)
  | _, 0, _, r => some (.nil, r)
  | 0, _ + 1, _, _ => none
  | _ + 1, _ + 1, _, [] => none
  | n + 1, c + 1, x, y :: r =>
    if kfOk x y then (match parseK n r with
      | none => none
      | some (k, r') => match parseF n c y.s r' with
        | none => none
        | some (f, r'') => some (.cons y.s (y.n == 1) k f, r''))
    else none
end
theorem nd_eq {y : Nd} {a b : Int} {c d : ByteArray} (h1 : y.op = a) (h2 : y.n = b) (h3 : y.s = c) (h4 : y.t = d) : y = ⟨a, b, c, d⟩ := by cases y; simp_all
theorem parse_sound : ∀ n : Nat, (∀ P k r, parseK n P = some (k, r) → k.valid ∧ P = k.flat ++ r) ∧ (∀ c x P f r, parseF n c x P = some (f, r) → f.validFrom x ∧ f.len = c ∧ P = f.flat ++ r)
  | 0 => by
    refine ⟨fun P k r h => by simp [parseK] at h, fun c x P f r h => ?_⟩
    cases c with
    | zero =>
      simp only [parseF, Option.some.injEq, Prod.mk.injEq] at h
      obtain ⟨rfl, rfl⟩ := h
      exact ⟨trivial, rfl, rfl⟩
    | succ c => simp [parseF] at h
  | n + 1 => by
    obtain ⟨ihK, ihF⟩ := parse_sound n
    refine ⟨fun P k r h => ?_, fun c x P f r h => ?_⟩
    · cases P with
      | nil => simp [parseK] at h
      | cons y P =>
        simp only [parseK] at h
        split at h
        · rename_i hb
          split at h
          · rename_i hc
            simp only [Option.some.injEq, Prod.mk.injEq] at h
            obtain ⟨rfl, rfl⟩ := h
            exact ⟨hb, by simp only [Kd.flat]; rw [nd_eq rfl hc.1 hc.2.1 hc.2.2]; rfl⟩
          · cases h
        · split at h
          · rename_i ho
            split at h
            · rename_i hc
              simp only [Option.some.injEq, Prod.mk.injEq] at h
              obtain ⟨rfl, rfl⟩ := h
              exact ⟨hc.2.1, by simp only [Kd.flat]; rw [nd_eq ho hc.1 rfl hc.2.2]; rfl⟩
            · cases h
          · split at h
            · rename_i ho
              rcases hp : parseK n P with _ | ⟨p, r'⟩
              · rw [hp] at h; cases h
              · rw [hp] at h
                simp only at h
                split at h
                · rename_i hc
                  simp only [Option.some.injEq, Prod.mk.injEq] at h
                  obtain ⟨rfl, rfl⟩ := h
                  obtain ⟨v, e⟩ := ihK _ _ _ hp
                  exact ⟨v, by simp only [Kd.flat]; rw [nd_eq ho hc.1 hc.2.1 hc.2.2, e]; rfl⟩
                · cases h
            · split at h
              · rename_i ho
                rcases hp : parseF n y.n.toNat emp P with _ | ⟨f, r'⟩
                · rw [hp] at h; cases h
                · rw [hp] at h
                  simp only at h
                  split at h
                  · rename_i hc
                    simp only [Option.some.injEq, Prod.mk.injEq] at h
                    obtain ⟨rfl, rfl⟩ := h
                    obtain ⟨v, el, e⟩ := ihF _ _ _ _ _ hp
                    have en : y.n = (f.len : Int) := by rw [el]; omega
                    exact ⟨v, by simp only [Kd.flat]; rw [nd_eq ho en hc.2.1 hc.2.2, e]; rfl⟩
                  · cases h
              · cases h
    · cases c with
      | zero =>
        simp only [parseF, Option.some.injEq, Prod.mk.injEq] at h
        obtain ⟨rfl, rfl⟩ := h
        exact ⟨trivial, rfl, rfl⟩
      | succ c =>
        cases P with
        | nil => simp [parseF] at h
        | cons y P =>
          simp only [parseF] at h
          split at h
          · rename_i hf
            rcases hp : parseK n P with _ | ⟨p, r'⟩
            · rw [hp] at h; cases h
            · rw [hp] at h
              simp only at h
              rcases hq : parseF n c y.s r' with _ | ⟨g, r''⟩
              · rw [hq] at h; cases h
              · rw [hq] at h
                simp only [Option.some.injEq, Prod.mk.injEq] at h
                obtain ⟨rfl, rfl⟩ := h
                obtain ⟨v1, e1⟩ := ihK _ _ _ hp
                obtain ⟨v2, el, e2⟩ := ihF _ _ _ _ _ hq
                refine ⟨⟨hf.2.2.2.2, hf.2.2.2.1, v1, v2⟩, by simp [Fl.len, el], ?_⟩
                have en : y.n = if (y.n == 1) = true then 1 else 0 := by
                  rcases hf.2.1 with q | q <;> simp [q]
                simp only [Fl.flat, List.cons_append, List.append_assoc]
                rw [← e2, ← e1]
                congr 1
                exact nd_eq hf.1 en rfl hf.2.2.1
          · cases h
theorem parse_full : ∀ n : Nat, (∀ k r, k.valid → k.flat.length ≤ n → parseK n (k.flat ++ r) = some (k, r)) ∧ (∀ f x r, f.validFrom x → f.flat.length ≤ n → parseF n f.len x (f.flat ++ r) = some (f, r))
  | 0 => by
    refine ⟨fun k r _ h => by cases k <;> simp [Kd.flat] at h, fun f x r _ h => ?_⟩
    cases f with
    | nil => simp [Fl.len, parseF, Fl.flat]
    | cons s m k q => simp [Fl.flat] at h
  | n + 1 => by
    obtain ⟨ihK, ihF⟩ := parse_full n
    refine ⟨fun k r hv hl => ?_, fun f x r hv hl => ?_⟩
    · cases k with
      | base y =>
        have hb : baseOp y := hv
        simp [Kd.flat, parseK, hb]
      | ent s =>
        have h1 : ¬ baseOp 44 := by decide
        have h2 : nameFault s = 0 := hv
        simp [Kd.flat, parseK, h1, h2]
      | set p =>
        have h1 : ¬ baseOp 45 := by decide
        simp only [Kd.flat, List.length_cons] at hl
        simp [Kd.flat, parseK, h1, ihK p r hv (by omega)]
      | fs f =>
        have h1 : ¬ baseOp 46 := by decide
        simp only [Kd.flat, List.length_cons] at hl
        simp [Kd.flat, parseK, h1, ihF f emp r hv (by omega)]
    · cases f with
      | nil => cases n <;> simp [Fl.len, parseF, Fl.flat]
      | cons s m k q =>
        obtain ⟨v1, v2, v3, v4⟩ := hv
        simp only [Fl.flat, List.length_cons, List.length_append] at hl
        have hf : kfOk x ⟨47, if m = true then 1 else 0, s, emp⟩ := ⟨rfl, by cases m <;> simp, rfl, v2, v1⟩
        have hm : (((if m = true then 1 else 0 : Int)) == 1) = m := by cases m <;> rfl
        simp only [Fl.flat, Fl.len, List.cons_append, List.append_assoc, parseF, if_pos hf, ihK k (q.flat ++ r) v3 (by omega), ihF q s r v4 (by omega), hm]
/-- The type that nodes are. -/
def readK (P : List Nd) : Option Kd := match parseK P.length P with
  | some (k, []) => some k
  | _ => none
theorem readK_iff {P : List Nd} {k : Kd} : readK P = some k ↔ k.valid ∧ P = k.flat := by
  unfold readK
  constructor
  · intro h
    rcases hp : parseK P.length P with _ | ⟨k', r⟩
    · rw [hp] at h; cases h
    · rw [hp] at h
      cases r with
      | cons a r => cases h
      | nil =>
        simp only [Option.some.injEq] at h
        subst h
        obtain ⟨v, e⟩ := (parse_sound _).1 _ _ _ hp
        exact ⟨v, by simpa using e⟩
  · rintro ⟨v, rfl⟩
    have := (parse_full k.flat.length).1 k [] v (Nat.le_refl _)
    rw [List.append_nil] at this
    rw [this]
theorem flat_inj {a b : Kd} (ha : a.valid) (hb : b.valid) (h : a.flat = b.flat) : a = b := by
  have h1 := readK_iff.2 ⟨ha, rfl⟩
  have h2 := readK_iff.2 ⟨hb, rfl⟩
  rw [h, h2] at h1
  injection h1 with h1
  exact h1.symm
end Go.Wk
namespace Go.Wk

theorem parse_more {n n' : Nat} {P r : List Nd} {k : Kd} (h : parseK n P = some (k, r)) (h' : P.length ≤ n') : parseK n' P = some (k, r) := by
  obtain ⟨v, e⟩ := (parse_sound n).1 P k r h
  have hl : k.flat.length ≤ n' := by rw [e, List.length_append] at h'; omega
  have := (parse_full n').1 k r v hl
  rwa [← e] at this
theorem parseF_more {n n' c : Nat} {x : ByteArray} {P r : List Nd} {f : Fl} (h : parseF n c x P = some (f, r)) (h' : P.length ≤ n') : parseF n' c x P = some (f, r) := by
  obtain ⟨v, e1, e⟩ := (parse_sound n).2 c x P f r h
  have hl : f.flat.length ≤ n' := by rw [e, List.length_append] at h'; omega
  have := (parse_full n').2 f x r v hl
  rwa [← e, e1] at this
theorem parse_fuel {n n' : Nat} {P : List Nd} (h : P.length ≤ n) (h' : P.length ≤ n') : parseK n P = parseK n' P := by
  rcases e : parseK n P with _ | ⟨k, r⟩
  · rcases e' : parseK n' P with _ | ⟨k, r⟩
    · rfl
    · rw [parse_more e' h] at e; cases e
  · exact (parse_more e h').symm
theorem parseF_fuel {n n' c : Nat} {x : ByteArray} {P : List Nd} (h : P.length ≤ n) (h' : P.length ≤ n') : parseF n c x P = parseF n' c x P := by
  rcases e : parseF n c x P with _ | ⟨k, r⟩
  · rcases e' : parseF n' c x P with _ | ⟨k, r⟩
    · rfl
    · rw [parseF_more e' h] at e; cases e
  · exact (parseF_more e h').symm
/-- One field at the head of nodes. -/
def parse1 (m : Nat) (x : ByteArray) : List Nd → Option (ByteArray × Bool × Kd × List Nd)
  | [] => none
  | y :: r => if kfOk x y then (match parseK m r with
    | none => none
    | some (k, r') => some (y.s, y.n == 1, k, r')) else none
theorem parse_shorter {n : Nat} {P r : List Nd} {k : Kd} (h : parseK n P = some (k, r)) : r.length < P.length := by
  obtain ⟨v, e⟩ := (parse_sound n).1 P k r h
  have h2 : 0 < k.flat.length := by cases k <;> simp [Kd.flat]
  rw [e, List.length_append]
  omega
theorem parse1_shorter {m : Nat} {x s : ByteArray} {b : Bool} {k : Kd} {Q r : List Nd} (h : parse1 m x Q = some (s, b, k, r)) : r.length + 2 ≤ Q.length := by
  cases Q with
  | nil => cases h
  | cons y Q =>
    simp only [parse1] at h
    split at h
    · rcases hp : parseK m Q with _ | ⟨k', r'⟩
      · rw [hp] at h; cases h
      · rw [hp] at h
        simp only [Option.some.injEq, Prod.mk.injEq] at h
        have := parse_shorter hp
        rw [← h.2.2.2, List.length_cons]
        omega
    · cases h
theorem parseF_step {m c : Nat} {x : ByteArray} {Q : List Nd} (h : Q.length ≤ m) : parseF m (c + 1) x Q = (match parse1 m x Q with
    | none => none
    | some (s, b, k, r') => match parseF m c s r' with
      | none => none
      | some (f, r'') => some (.cons s b k f, r'')) := by
  cases Q with
  | nil => cases m <;> rfl
  | cons y r =>
    rw [List.length_cons] at h
    cases m with
    | zero => omega
    | succ m =>
      simp only [parseF, parse1]
      by_cases hk : kfOk x y
      · simp only [if_pos hk]
        rw [parse_fuel (n := m) (n' := m + 1) (by omega) (by omega)]
        rcases hp : parseK (m + 1) r with _ | ⟨k, r'⟩
        · rfl
        · have := parse_shorter hp
          simp only
          rw [parseF_fuel (n := m) (n' := m + 1) (by omega) (by omega)]
          try (rcases parseF (m + 1) c y.s r' with _ | ⟨f, r''⟩ <;> rfl)
      · simp only [if_neg hk]
/-- The place behind the type that begins at one; below 0: there is none. -/
def kEnd (t : List Nd) (p : Nat) : Int := match parseK (t.length + 1) (t.drop p) with
  | some (_, r) => ((t.length - r.length : Nat) : Int)
  | none => -1
/-- The place behind so many fields; below 0: they are none. -/
def fEnd (t : List Nd) (c : Nat) (x : ByteArray) (p : Nat) : Int := match parseF (t.length + 1) c x (t.drop p) with
  | some (_, r) => ((t.length - r.length : Nat) : Int)
  | none => -1
theorem drop_at {t : List Nd} {p : Nat} {x : Nd} (h : t[p]? = some x) : t.drop p = x :: t.drop (p + 1) := by
  obtain ⟨hp, e⟩ := List.getElem?_eq_some_iff.1 h
  rw [← e]
  exact List.drop_eq_getElem_cons hp
theorem kEnd_out {t : List Nd} {p : Nat} (h : t.length ≤ p) : kEnd t p = -1 := by
  unfold kEnd
  rw [List.drop_eq_nil_of_le h]
  rfl
theorem kEnd_base {t : List Nd} {p : Nat} {x : Nd} (h : t[p]? = some x) (hb : baseOp x.op) : kEnd t p = if x.n = 0 ∧ x.s = emp ∧ x.t = emp then ((p + 1 : Nat) : Int) else -1 := by
  have hp := (List.getElem?_eq_some_iff.1 h).1
  unfold kEnd
  rw [drop_at h]
  simp only [parseK, if_pos hb]
  by_cases hc : x.n = 0 ∧ x.s = emp ∧ x.t = emp
  · rw [if_pos hc, if_pos hc]
    simp only [List.length_drop]
    congr 1; omega
  · rw [if_neg hc, if_neg hc]
theorem not_base {x : Int} (h : x = 44 ∨ x = 45 ∨ x = 46) : ¬ baseOp x := by unfold baseOp; omega
theorem kEnd_ent {t : List Nd} {p : Nat} {x : Nd} (h : t[p]? = some x) (hb : x.op = 44) : kEnd t p = if x.n = 0 ∧ nameFault x.s = 0 ∧ x.t = emp then ((p + 1 : Nat) : Int) else -1 := by
  have hp := (List.getElem?_eq_some_iff.1 h).1
  unfold kEnd
  rw [drop_at h]
  simp only [parseK, if_neg (not_base (.inl hb)), if_pos hb]
  by_cases hc : x.n = 0 ∧ nameFault x.s = 0 ∧ x.t = emp
  · rw [if_pos hc, if_pos hc]
    simp only [List.length_drop]
    congr 1; omega
  · rw [if_neg hc, if_neg hc]
theorem kEnd_set {t : List Nd} {p : Nat} {x : Nd} (h : t[p]? = some x) (hb : x.op = 45) : kEnd t p = if x.n = 0 ∧ x.s = emp ∧ x.t = emp then kEnd t (p + 1) else -1 := by
  unfold kEnd
  rw [drop_at h]
  simp only [parseK, if_neg (not_base (.inr (.inl hb))), if_neg (show ¬ x.op = 44 by omega), if_pos hb]
  rw [parse_fuel (n := t.length) (n' := t.length + 1) (by simp) (by simp; omega)]
  rcases parseK (t.length + 1) (t.drop (p + 1)) with _ | ⟨k, r⟩
  · simp
  · by_cases hc : x.n = 0 ∧ x.s = emp ∧ x.t = emp
    · simp only [if_pos hc]
    · simp only [if_neg hc]
theorem kEnd_rec {t : List Nd} {p : Nat} {x : Nd} (h : t[p]? = some x) (hb : x.op = 46) : kEnd t p = if 0 ≤ x.n ∧ x.s = emp ∧ x.t = emp then fEnd t x.n.toNat emp (p + 1) else -1 := by
  unfold kEnd fEnd
  rw [drop_at h]
  simp only [parseK, if_neg (not_base (.inr (.inr hb))), if_neg (show ¬ x.op = 44 by omega), if_neg (show ¬ x.op = 45 by omega), if_pos hb]
  rw [parseF_fuel (n := t.length) (n' := t.length + 1) (by simp) (by simp; omega)]
  rcases parseF (t.length + 1) x.n.toNat emp (t.drop (p + 1)) with _ | ⟨k, r⟩
  · simp
  · by_cases hc : 0 ≤ x.n ∧ x.s = emp ∧ x.t = emp
    · simp only [if_pos hc]
    · simp only [if_neg hc]
theorem kEnd_else {t : List Nd} {p : Nat} {x : Nd} (h : t[p]? = some x) (h1 : ¬ baseOp x.op) (h2 : x.op ≠ 44) (h3 : x.op ≠ 45) (h4 : x.op ≠ 46) : kEnd t p = -1 := by
  unfold kEnd
  rw [drop_at h]
  simp only [parseK, if_neg h1, if_neg h2, if_neg h3, if_neg h4]
theorem fEnd_zero {t : List Nd} {p : Nat} {x : ByteArray} (h : p ≤ t.length) : fEnd t 0 x p = (p : Int) := by
  unfold fEnd
  simp only [parseF, List.length_drop]
  congr 1; omega
theorem fEnd_out {t : List Nd} {p c : Nat} {x : ByteArray} (h : t.length ≤ p) : fEnd t (c + 1) x p = -1 := by
  unfold fEnd
  rw [List.drop_eq_nil_of_le h]
  rfl
/-- It ends behind where it begins. -/
theorem kEnd_lt {t : List Nd} {p : Nat} (h : 0 ≤ kEnd t p) : ∃ e : Nat, kEnd t p = (e : Int) ∧ p < e ∧ e ≤ t.length := by
  unfold kEnd at *
  rcases hp : parseK (t.length + 1) (t.drop p) with _ | ⟨k, r⟩
  · rw [hp] at h; simp at h
  · rw [hp] at h
    simp only at h ⊢
    obtain ⟨v, e⟩ := (parse_sound _).1 _ _ _ hp
    have h1 : (t.drop p).length = k.flat.length + r.length := by rw [e, List.length_append]
    rw [List.length_drop] at h1
    have h2 : 0 < k.flat.length := by cases k <;> simp [Kd.flat]
    exact ⟨_, rfl, by omega, by omega⟩
theorem kEnd_neg {t : List Nd} {p : Nat} (h : ¬ 0 ≤ kEnd t p) : kEnd t p = -1 := by
  unfold kEnd at *
  rcases hp : parseK (t.length + 1) (t.drop p) with _ | ⟨k, r⟩
  · rfl
  · rw [hp] at h; simp only at h; omega
theorem fEnd_succ {t : List Nd} {p c : Nat} {x : ByteArray} {y : Nd} (h : t[p]? = some y) : fEnd t (c + 1) x p = if kfOk x y then (if 0 ≤ kEnd t (p + 1) then fEnd t c y.s (kEnd t (p + 1)).toNat else -1) else -1 := by
  have hp := (List.getElem?_eq_some_iff.1 h).1
  unfold fEnd
  rw [drop_at h]
  simp only [parseF]
  by_cases hk : kfOk x y
  · simp only [if_pos hk]
    unfold kEnd
    rw [parse_fuel (n := t.length) (n' := t.length + 1) (by simp) (by simp; omega)]
    rcases hq : parseK (t.length + 1) (t.drop (p + 1)) with _ | ⟨k, r⟩
    · simp
    · simp only
      obtain ⟨v, e⟩ := (parse_sound _).1 _ _ _ hq
      have h1 : (t.drop (p + 1)).length = k.flat.length + r.length := by rw [e, List.length_append]
      rw [List.length_drop] at h1
      rw [if_pos (by omega)]
      have h3 : ((t.length - r.length : Nat) : Int).toNat = t.length - r.length := rfl
      rw [h3]
      have h2 : t.drop (t.length - r.length) = r := by
        have : t.drop (t.length - r.length) = (t.drop (p + 1)).drop k.flat.length := by rw [List.drop_drop]; congr 1; omega
        rw [this, e, List.drop_left]
      rw [h2, parseF_fuel (n := t.length) (n' := t.length + 1) (by omega) (by omega)]
      rcases parseF (t.length + 1) c y.s r with _ | ⟨f, r'⟩ <;> rfl
  · simp only [if_neg hk]
/-- The error of nodes as a type. -/
def kindFault (t : List Nd) : Int := if 200 < t.length then 4 else if (readK t).isSome then 0 else 1
theorem kEnd_all {t : List Nd} : kEnd t 0 = (t.length : Int) ↔ (readK t).isSome = true := by
  unfold kEnd readK
  rw [List.drop_zero, parse_fuel (n := t.length + 1) (n' := t.length) (by omega) (by omega)]
  rcases hp : parseK t.length t with _ | ⟨k, r⟩
  · simp
  · simp only
    obtain ⟨v, e⟩ := (parse_sound _).1 _ _ _ hp
    have h1 : t.length = k.flat.length + r.length := by rw [← List.length_append, ← e]
    have h2 : 0 < k.flat.length := by cases k <;> simp [Kd.flat]
    cases r with
    | nil => simp
    | cons a r =>
      simp only [List.length_cons] at h1 ⊢
      simp
      omega
theorem kindFault_zero {t : List Nd} : kindFault t = 0 ↔ t.length ≤ 200 ∧ ∃ k : Kd, k.valid ∧ t = k.flat := by
  unfold kindFault
  by_cases h : 200 < t.length
  · rw [if_pos h]; omega
  · rw [if_neg h]
    rcases hr : readK t with _ | k
    · simp only [Option.isSome_none, Bool.false_eq_true, if_false]
      constructor
      · intro q; omega
      · rintro ⟨-, k, v, e⟩
        rw [readK_iff.2 ⟨v, e⟩] at hr; cases hr
    · simp only [Option.isSome_some, if_true, true_iff]
      exact ⟨by omega, k, readK_iff.1 hr⟩

/-- Where the fields stand. -/
def posF : Nat → Fl → List Nat
  | _, .nil => []
  | p, .cons _ _ k r => p :: posF (p + 1 + k.flat.length) r
theorem kEnd_flat {t : List Nd} {p : Nat} {k : Kd} {r : List Nd} (hk : k.valid) (h : t.drop p = k.flat ++ r) : kEnd t p = ((p + k.flat.length : Nat) : Int) := by
  have h1 : (t.drop p).length = k.flat.length + r.length := by rw [h, List.length_append]
  rw [List.length_drop] at h1
  have h2 : 0 < k.flat.length := by cases k <;> simp [Kd.flat]
  have h3 := (parse_full (t.length + 1)).1 k r hk (by omega)
  unfold kEnd
  rw [h, h3]
  simp only
  congr 1; omega
end Go.Wk
namespace Go.Wk

theorem isAny_iff {a : Kd} : isAny a = true ↔ a = .base 48 := by
  cases a with
  | base x => simp [isAny]
  | _ => simp [isAny]
theorem isNone_iff {a : Kd} : isNone a = true ↔ a = .base 49 := by
  cases a with
  | base x => simp [isNone]
  | _ => simp [isNone]
theorem below_base {x : Int} {b : Kd} : belowK (.base x) b = true ↔ x = 49 ∨ b = .base 48 ∨ b = .base x := by
  simp only [belowK, Bool.or_eq_true, beq_iff_eq, isAny_iff, or_assoc]
  cases b with
  | base y =>
    have e : x = y ↔ y = x := eq_comm
    simp [e]
  | _ => simp
theorem below_ent {s : ByteArray} {b : Kd} : belowK (.ent s) b = true ↔ b = .base 48 ∨ b = .ent s := by
  simp only [belowK, Bool.or_eq_true, isAny_iff]
  cases b with
  | ent t =>
    have e : s = t ↔ t = s := eq_comm
    simp [e]
  | _ => simp
theorem below_set {p : Kd} {b : Kd} : belowK (.set p) b = true ↔ b = .base 48 ∨ ∃ q, b = .set q ∧ belowK p q = true := by
  simp only [belowK, Bool.or_eq_true, isAny_iff]
  cases b with
  | set q => simp
  | _ => simp
theorem below_fs {f : Fl} {b : Kd} : belowK (.fs f) b = true ↔ b = .base 48 ∨ ∃ g, b = .fs g ∧ belowF f g = true ∧ mustF g f = true := by
  simp only [belowK, Bool.or_eq_true, isAny_iff]
  cases b with
  | fs g => simp
  | _ => simp
/-- A record's type below another one, by what is found. -/
def BelR (f g : Fl) : Prop := (∀ s m k, f.find s = some (m, k) → ∃ m' k', g.find s = some (m', k') ∧ (m' = true → m = true) ∧ belowK k k' = true) ∧ (∀ s k, g.find s = some (true, k) → (f.find s).isSome = true)
theorem belR_iff {f g : Fl} (hf : f.asc) (hg : g.asc) : belowF f g = true ∧ mustF g f = true ↔ BelR f g := by
  rw [belowF_iff hf, mustF_iff hg]; rfl
theorem below_trans : ∀ (n : Nat) (a b c : Kd), a.sz ≤ n → a.ok → b.ok → c.ok → belowK a b = true → belowK b c = true → belowK a c = true
  | 0, a, _, _, h, _, _, _, _, _ => by cases a <;> simp [Kd.sz] at h
  | n + 1, a, b, c, h, ha, hb, hc, h1, h2 => by
    have hany : b = .base 48 → c = .base 48 := fun e => by
      subst e
      rcases below_base.1 h2 with h3 | h3 | h3
      · cases h3
      · exact h3
      · exact h3
    cases a with
    | base x =>
      rcases below_base.1 h1 with rfl | h3 | h3
      · exact below_base.2 (.inl rfl)
      · exact below_base.2 (.inr (.inl (hany h3)))
      · subst h3; exact h2
    | ent s =>
      rcases below_ent.1 h1 with h3 | h3
      · exact below_ent.2 (.inl (hany h3))
      · subst h3; exact h2
    | set p =>
      simp only [Kd.sz] at h
      rcases below_set.1 h1 with h3 | ⟨q, rfl, h3⟩
      · exact below_set.2 (.inl (hany h3))
      · rcases below_set.1 h2 with h4 | ⟨r, rfl, h4⟩
        · exact below_set.2 (.inl h4)
        · exact below_set.2 (.inr ⟨r, rfl, below_trans n p q r (by omega) ha hb hc h3 h4⟩)
    | fs f =>
      simp only [Kd.sz] at h
      rcases below_fs.1 h1 with h3 | ⟨g, rfl, h3⟩
      · exact below_fs.2 (.inl (hany h3))
      · rcases below_fs.1 h2 with h4 | ⟨e, rfl, h4⟩
        · exact below_fs.2 (.inl h4)
        · obtain ⟨p1, p2⟩ := (belR_iff ha.1 hb.1).1 h3
          obtain ⟨q1, q2⟩ := (belR_iff hb.1 hc.1).1 h4
          refine below_fs.2 (.inr ⟨e, rfl, (belR_iff ha.1 hc.1).2 ⟨fun s m k hf => ?_, fun s k hf => ?_⟩⟩)
          · obtain ⟨m', k', hg, e1, e2⟩ := p1 s m k hf
            obtain ⟨m'', k'', he, e3, e4⟩ := q1 s m' k' hg
            exact ⟨m'', k'', he, fun e => e1 (e3 e), below_trans n k k' k'' (by have := find_sz hf; omega) (find_ok ha.2 hf) (find_ok hb.2 hg) (find_ok hc.2 he) e2 e4⟩
          · have h5 := q2 s k hf
            rcases hg : g.find s with _ | ⟨m', k'⟩
            · rw [hg] at h5; cases h5
            · obtain ⟨m'', k'', he, e3, -⟩ := q1 s m' k' hg
              rw [hf] at he
              injection he with he
              injection he with he1 he2
              have := e3 he1.symm
              subst this
              exact p2 s k' hg
/-- Ascending fields that find the same are one. -/
theorem fl_ext : ∀ (f g : Fl), f.asc → g.asc → (∀ s, f.find s = g.find s) → f = g
  | .nil, .nil, _, _, _ => rfl
  | .nil, .cons s m k r, _, _, h => by have := h s; simp [Fl.find] at this
  | .cons s m k r, .nil, _, _, h => by have := h s; simp [Fl.find] at this
  | .cons s m k r, .cons t m' k' r', h1, h2, h => by
    have hs := h s
    have ht := h t
    have e : s = t := by
      simp only [Fl.find, if_pos] at hs ht
      by_cases e : t = s
      · exact e.symm
      · rw [if_neg e] at hs
        have l1 := find_lt h2 hs.symm
        rw [if_neg (fun q => e q.symm)] at ht
        have l2 := find_lt h1 ht
        have := cmpB_cmp.anti s t
        omega
    subst e
    simp only [Fl.find, if_pos, Option.some.injEq, Prod.mk.injEq] at hs
    obtain ⟨e1, e2⟩ := hs
    have hr : r = r' := fl_ext r r' (asc_tail h1) (asc_tail h2) fun x => by
      have hx := h x
      simp only [Fl.find] at hx
      by_cases e : s = x
      · subst e
        rcases hg : r.find s with _ | v
        · rcases hg' : r'.find s with _ | v'
          · rfl
          · have := find_lt h2 hg'; rw [cmpB_cmp.self] at this; omega
        · have := find_lt h1 hg; rw [cmpB_cmp.self] at this; omega
      · rwa [if_neg e, if_neg e] at hx
    rw [e1, e2, hr]
theorem below_anti : ∀ (n : Nat) (a b : Kd), a.sz ≤ n → a.ok → b.ok → belowK a b = true → belowK b a = true → a = b
  | 0, a, _, h, _, _, _, _ => by cases a <;> simp [Kd.sz] at h
  | n + 1, a, b, h, ha, hb, h1, h2 => by
    cases a with
    | base x =>
      rcases below_base.1 h1 with rfl | h3 | h3
      · cases b with
        | base y =>
          rcases below_base.1 h2 with h4 | h4 | h4
          · rw [h4]
          · cases h4
          · exact h4
        | ent t => rcases below_ent.1 h2 with h4 | h4 <;> cases h4
        | set t => rcases below_set.1 h2 with h4 | ⟨q, h4, _⟩ <;> cases h4
        | fs t => rcases below_fs.1 h2 with h4 | ⟨q, h4, _⟩ <;> cases h4
      · subst h3
        rcases below_base.1 h2 with h4 | h4 | h4
        · cases h4
        · exact h4
        · exact h4
      · exact h3.symm
    | ent s =>
      rcases below_ent.1 h1 with h3 | h3
      · subst h3
        rcases below_base.1 h2 with h4 | h4 | h4 <;> cases h4
      · exact h3.symm
    | set p =>
      simp only [Kd.sz] at h
      rcases below_set.1 h1 with h3 | ⟨q, rfl, h3⟩
      · subst h3
        rcases below_base.1 h2 with h4 | h4 | h4 <;> cases h4
      · rcases below_set.1 h2 with h4 | ⟨r, h4, h5⟩
        · cases h4
        · injection h4 with h4
          subst h4
          rw [below_anti n p q (by omega) ha hb h3 h5]
    | fs f =>
      simp only [Kd.sz] at h
      rcases below_fs.1 h1 with h3 | ⟨g, rfl, h3⟩
      · subst h3
        rcases below_base.1 h2 with h4 | h4 | h4 <;> cases h4
      · rcases below_fs.1 h2 with h4 | ⟨e, h4, h5⟩
        · cases h4
        · injection h4 with h4
          subst h4
          obtain ⟨p1, -⟩ := (belR_iff ha.1 hb.1).1 h3
          obtain ⟨q1, -⟩ := (belR_iff hb.1 ha.1).1 h5
          congr 1
          refine fl_ext f g ha.1 hb.1 fun s => ?_
          rcases hf : f.find s with _ | ⟨m, k⟩
          · rcases hg : g.find s with _ | ⟨m', k'⟩
            · rfl
            · obtain ⟨_, _, e, _⟩ := q1 s m' k' hg
              rw [hf] at e; cases e
          · obtain ⟨m', k', hg, e1, e2⟩ := p1 s m k hf
            obtain ⟨m2, k2, hf2, e3, e4⟩ := q1 s m' k' hg
            rw [hf] at hf2
            injection hf2 with hf2
            injection hf2 with f1 f2
            subst f1 f2
            rw [hg, below_anti n k k' (by have := find_sz hf; omega) (find_ok ha.2 hf) (find_ok hb.2 hg) e2 e4]
            have : m = m' := by cases m <;> cases m' <;> simp_all
            rw [this]
end Go.Wk
