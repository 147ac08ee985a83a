/-
  Plain: the parts of sets and records; where a value ends hangs on its own nodes alone. No program in sight.
-/
import Derived.Test.YtcdpoamiejompaaGreatDoorQe4
namespace Go.Wk

/-- It ends behind where it begins. -/
def Goes (f : Nat → Option Nat) : Prop := ∀ p e, f p = some e → p < e
theorem goes_part (v : List Nd) (m : Nat) : Goes (partEnd v m) := fun p e h => (partEnd_le m p e h).1
theorem setLoop_ge {v : List Nd} {f : Nat → Option Nat} (hf : Goes f) : ∀ k last p e, setLoop v f k last p = some e → p ≤ e := by
  intro k
  induction k with
  | zero => intro last p e h; simp only [setLoop, Option.some.injEq] at h; omega
  | succ k ih =>
    intro last p e h
    simp only [setLoop] at h
    split at h
    · cases h
    · rename_i q hq
      have := hf p q hq
      split at h
      · have := ih _ _ _ h; omega
      · cases h
theorem recLoop_ge {v : List Nd} {f : Nat → Option Nat} (hf : Goes f) : ∀ k last p e, recLoop v f k last p = some e → p ≤ e := by
  intro k
  induction k with
  | zero => intro last p e h; simp only [recLoop, Option.some.injEq] at h; omega
  | succ k ih =>
    intro last p e h
    simp only [recLoop] at h
    split at h
    · cases h
    · split at h
      · cases h
      · rename_i q hq
        have := hf _ q hq
        have := ih _ _ _ h; omega

/-- Two lists that are alike over a stretch. -/
def Alike (u v : List Nd) (a b L : Nat) : Prop := ∀ k, k < L → u[a + k]? = v[b + k]?
theorem Alike.symm {u v : List Nd} {a b L : Nat} (h : Alike u v a b L) : Alike v u b a L := fun k hk => (h k hk).symm
theorem Alike.seg {u v : List Nd} {a b L : Nat} (h : Alike u v a b L) {i j : Nat} (hj : j ≤ L) : seg u (a + i) (a + j) = seg v (b + i) (b + j) := by
  unfold Wk.seg
  apply List.ext_getElem?
  intro k
  rw [List.getElem?_take, List.getElem?_take, show a + j - (a + i) = j - i by omega, show b + j - (b + i) = j - i by omega]
  by_cases hk : k < j - i
  · rw [if_pos hk, if_pos hk, List.getElem?_drop, List.getElem?_drop, Nat.add_assoc, Nat.add_assoc]
    exact h (i + k) (by omega)
  · rw [if_neg hk, if_neg hk]

section
variable {u v : List Nd} {a b L : Nat}
theorem setLoop_move (h : Alike u v a b L) {f g : Nat → Option Nat} (hf : Goes f) (hg : ∀ p e, f (a + p) = some (a + e) → e ≤ L → g (b + p) = some (b + e)) :
    ∀ k (lo : Option Nat) p e, (∀ l, lo = some l → l ≤ p) → setLoop u f k (lo.map (a + ·)) (a + p) = some (a + e) → e ≤ L → setLoop v g k (lo.map (b + ·)) (b + p) = some (b + e) := by
  intro k
  induction k with
  | zero => intro lo p e _ h1 h2; simp only [setLoop, Option.some.injEq] at h1 ⊢; omega
  | succ k ih =>
    intro lo p e hlo h1 h2
    simp only [setLoop] at h1 ⊢
    split at h1
    · cases h1
    · rename_i q hq
      have hlt := hf _ _ hq
      obtain ⟨s, rfl⟩ : ∃ s, q = a + s := ⟨q - a, by omega⟩
      split at h1
      · rename_i hr
        have hge := setLoop_ge hf _ _ _ _ h1
        have hs : s ≤ L := by omega
        rw [hg p s hq hs]
        simp only
        have hr' : rises v (lo.map (b + ·)) (b + p) (b + s) = true := by
          rw [← hr]
          rcases lo with _ | l
          · rfl
          · have := hlo l rfl
            simp only [Option.map_some, rises]
            rw [h.seg (i := l) (j := p) (by omega), h.seg (i := p) (j := s) hs]
        rw [if_pos hr']
        exact ih (some p) s e (fun l hl => by cases hl; omega) h1 h2
      · cases h1
theorem fieldOk_move (h : Alike u v a b L) {last : ByteArray} {p : Nat} (hp : p < L) : fieldOk u last (a + p) = fieldOk v last (b + p) := by
  unfold fieldOk; rw [h p hp]
theorem recLoop_move (h : Alike u v a b L) {f g : Nat → Option Nat} (hf : Goes f) (hg : ∀ p e, f (a + p) = some (a + e) → e ≤ L → g (b + p) = some (b + e)) :
    ∀ k (last : ByteArray) p e, recLoop u f k last (a + p) = some (a + e) → e ≤ L → recLoop v g k last (b + p) = some (b + e) := by
  intro k
  induction k with
  | zero => intro last p e h1 h2; simp only [recLoop, Option.some.injEq] at h1 ⊢; omega
  | succ k ih =>
    intro last p e h1 h2
    simp only [recLoop] at h1 ⊢
    split at h1
    · cases h1
    · rename_i s hs
      split at h1
      · cases h1
      · rename_i q hq
        have hlt := hf _ _ hq
        obtain ⟨r, rfl⟩ : ∃ r, q = a + r := ⟨q - a, by omega⟩
        have hge := recLoop_ge hf _ _ _ _ h1
        rw [← fieldOk_move h (by omega : p < L), hs]
        have := hg (p + 1) r (by rw [← Nat.add_assoc]; exact hq) (by omega)
        rw [← Nat.add_assoc] at this
        simp only [this]
        exact ih s r e h1 h2
theorem partEnd_move (h : Alike u v a b L) : ∀ m p e, partEnd u m (a + p) = some (a + e) → e ≤ L → partEnd v m (b + p) = some (b + e) := by
  intro m
  induction m with
  | zero => intro p e h1 _; cases h1
  | succ m ih =>
    intro p e h1 h2
    have hlt := (partEnd_le _ _ _ h1).1
    have hp := h p (by omega)
    simp only [partEnd] at h1 ⊢
    rw [← hp]
    split at h1
    · cases h1
    · rename_i x hx
      split at h1
      · rename_i hs
        simp only [hs, if_true]
        split at h1
        · rename_i h5
          rw [if_pos h5]
          have := setLoop_move h (goes_part u m) ih x.n.toNat none (p + 1) e (fun l hl => by cases hl) (by rw [← Nat.add_assoc]; exact h1) h2
          rw [← Nat.add_assoc] at this; exact this
        · rename_i h5
          rw [if_neg h5]
          split at h1
          · rename_i h6
            rw [if_pos h6]
            have := recLoop_move h (goes_part u m) ih x.n.toNat .empty (p + 1) e (by rw [← Nat.add_assoc]; exact h1) h2
            rw [← Nat.add_assoc] at this; exact this
          · rename_i h6
            rw [if_neg h6]
            split at h1
            · cases h1
            · rename_i h7
              rw [if_neg h7]
              simp only [Option.some.injEq] at h1 ⊢
              omega
      · cases h1
end

theorem setLoop_same {v : List Nd} {f g : Nat → Option Nat} (hf : Goes f) {q0 : Nat} (h : ∀ r, q0 ≤ r → f r = g r) : ∀ k lo q, q0 ≤ q → setLoop v f k lo q = setLoop v g k lo q := by
  intro k
  induction k with
  | zero => intro lo q _; rfl
  | succ k ih =>
    intro lo q hq
    simp only [setLoop]
    rw [← h q hq]
    split
    · rfl
    · rename_i e he
      have := hf _ _ he
      rw [ih _ e (by omega)]
theorem recLoop_same {v : List Nd} {f g : Nat → Option Nat} (hf : Goes f) {q0 : Nat} (h : ∀ r, q0 ≤ r → f r = g r) : ∀ k lo q, q0 ≤ q → recLoop v f k lo q = recLoop v g k lo q := by
  intro k
  induction k with
  | zero => intro lo q _; rfl
  | succ k ih =>
    intro lo q hq
    simp only [recLoop]
    split
    · rfl
    · rw [← h (q + 1) (by omega)]
      split
      · rfl
      · rename_i e he
        have := hf _ _ he
        rw [ih _ e (by omega)]
theorem partEnd_fuel {v : List Nd} : ∀ m m' p, v.length - p < m → v.length - p < m' → partEnd v m p = partEnd v m' p := by
  intro m
  induction m with
  | zero => intro m' p h; omega
  | succ m ih =>
    intro m' p h1 h2
    obtain ⟨k, rfl⟩ : ∃ k, m' = k + 1 := ⟨m' - 1, by omega⟩
    simp only [partEnd]
    by_cases hp : p < v.length
    · rw [List.getElem?_eq_getElem hp]
      simp only
      have hs := setLoop_same (v := v) (goes_part v m) (q0 := p + 1) (fun r hr => ih k r (by omega) (by omega))
      have hr := recLoop_same (v := v) (goes_part v m) (q0 := p + 1) (fun r hr => ih k r (by omega) (by omega))
      rw [hs _ _ _ (Nat.le_refl _), hr _ _ _ (Nat.le_refl _)]
    · rw [List.getElem?_eq_none (by omega)]

/-- These nodes are one value, of whatever size. -/
def IsV (P : List Nd) : Prop := partEnd P (P.length + 1) 0 = some P.length
theorem isV_zero {P : List Nd} : valFault P = 0 ↔ P.length ≤ 200 ∧ IsV P := by
  unfold valFault IsV
  by_cases h : 200 < P.length
  · rw [if_pos h]; omega
  · rw [if_neg h]
    by_cases hv : partEnd P (P.length + 1) 0 = some P.length
    · rw [if_pos hv]; exact ⟨fun _ => ⟨by omega, hv⟩, fun _ => rfl⟩
    · rw [if_neg hv]; exact ⟨fun q => by omega, fun q => absurd q.2 hv⟩
theorem IsV.pos {P : List Nd} (h : IsV P) : 0 < P.length := (partEnd_le _ _ _ h).1
theorem seg_at {v : List Nd} {p e k : Nat} (hk : k < e - p) : (seg v p e)[k]? = v[p + k]? := by
  unfold seg; rw [List.getElem?_take, if_pos hk, List.getElem?_drop]
theorem alike_refl (v : List Nd) : Alike v v 0 0 v.length := fun _ _ => rfl
theorem partEnd_more {v : List Nd} : ∀ m m' p e, m ≤ m' → partEnd v m p = some e → partEnd v m' p = some e := by
  intro m
  induction m with
  | zero => intro m' p e _ h; cases h
  | succ m ih =>
    intro m' p e hm h
    have hle := (partEnd_le _ _ _ h).2
    obtain ⟨k, rfl⟩ : ∃ k, m' = k + 1 := ⟨m' - 1, by omega⟩
    have ihk : ∀ p e, partEnd v m (0 + p) = some (0 + e) → e ≤ v.length → partEnd v k (0 + p) = some (0 + e) := fun p e h _ => by
      simp only [Nat.zero_add] at h ⊢; exact ih k p e (by omega) h
    have hS := setLoop_move (alike_refl v) (goes_part v m) ihk
    have hR := recLoop_move (alike_refl v) (goes_part v m) ihk
    simp only [Nat.zero_add] at hS hR
    rcases hx : v[p]? with _ | x
    · simp only [partEnd, hx] at h; cases h
    · simp only [partEnd, hx] at h ⊢
      by_cases hs : shapedN x = true
      · rw [if_pos hs] at h ⊢
        by_cases h5 : x.op = 5
        · rw [if_pos h5] at h ⊢
          have := hS x.n.toNat none (p + 1) e (fun l hl => by cases hl) h hle
          exact this
        · rw [if_neg h5] at h ⊢
          by_cases h6 : x.op = 6
          · rw [if_pos h6] at h ⊢; exact hR _ _ _ _ h hle
          · rw [if_neg h6] at h ⊢; exact h
      · rw [if_neg hs] at h; cases h
theorem isV_seg {v : List Nd} {m p e : Nat} (h : partEnd v m p = some e) : IsV (seg v p e) := by
  have hle := partEnd_le _ _ _ h
  have hl : (seg v p e).length = e - p := seg_length hle.2
  have hA : Alike v (seg v p e) p 0 (e - p) := fun k hk => by rw [Nat.zero_add, seg_at hk]
  have := partEnd_move hA m 0 (e - p) (by rw [Nat.add_zero, h]; congr 1; omega) (Nat.le_refl _)
  unfold IsV
  rw [hl]
  have h2 : partEnd (seg v p e) m 0 = some (e - p) := by simpa using this
  have h3 := partEnd_more m (m + (e - p) + 1) 0 (e - p) (by omega) h2
  rw [← h3]
  exact partEnd_fuel _ _ _ (by omega) (by omega)
/-- A value within other nodes ends where it ends. -/
theorem isV_in {v Q : List Nd} {p m : Nat} (hQ : IsV Q) (_hp : p + Q.length ≤ v.length) (hs : seg v p (p + Q.length) = Q) (hm : v.length - p < m) : partEnd v m p = some (p + Q.length) := by
  have hA : Alike Q v 0 p Q.length := fun k hk => by
    rw [Nat.zero_add, ← seg_at (e := p + Q.length) (by omega), hs]
  have h1 := partEnd_more _ (m + Q.length + 1) _ _ (by omega) hQ
  have := partEnd_move hA _ 0 Q.length (by simpa using h1) (Nat.le_refl _)
  rw [Nat.add_zero] at this
  rw [← this]
  exact partEnd_fuel _ _ _ (by omega) (by omega)

theorem noB_eq {s : ByteArray} (h : noB s = true) : s = ⟨#[]⟩ := by
  unfold noB at h
  exact bytes_ext (List.eq_nil_of_length_eq_zero (by rw [Array.length_toList]; exact of_decide_eq_true h))
/-! ### The parts -/
def splitS (v : List Nd) (f : Nat → Option Nat) : Nat → Nat → List (List Nd)
  | 0, _ => []
  | k + 1, p =>
    match f p with
    | none => []
    | some e => seg v p e :: splitS v f k e
def nmAt (v : List Nd) (p : Nat) : ByteArray :=
  match v[p]? with
  | none => .empty
  | some x => x.s
def splitR (v : List Nd) (f : Nat → Option Nat) : Nat → Nat → List (ByteArray × List Nd)
  | 0, _ => []
  | k + 1, p =>
    match f (p + 1) with
    | none => []
    | some e => (nmAt v p, seg v (p + 1) e) :: splitR v f k e
def headN : List Nd → Nat
  | [] => 0
  | x :: _ => x.n.toNat
def headOp : List Nd → Int
  | [] => 0
  | x :: _ => x.op
/-- The parts of a set. -/
def setParts (P : List Nd) : List (List Nd) := splitS P (partEnd P (P.length + 1)) (headN P) 1
/-- The fields of a record. -/
def recParts (P : List Nd) : List (ByteArray × List Nd) := splitR P (partEnd P (P.length + 1)) (headN P) 1
/-- Each one is ahead of the next one. -/
def Up : List (List Nd) → Prop
  | [] => True
  | [_] => True
  | a :: b :: r => cmpNds a b < 0 ∧ Up (b :: r)
def UpFrom (o : Option (List Nd)) (l : List (List Nd)) : Prop := match o with | none => Up l | some a => Up (a :: l)
def fieldN (s : ByteArray) : Nd := ⟨7, 0, s, ⟨#[]⟩⟩
def flatR : List (ByteArray × List Nd) → List Nd
  | [] => []
  | x :: r => fieldN x.1 :: (x.2 ++ flatR r)
def UpB (last : ByteArray) : List (ByteArray × List Nd) → Prop
  | [] => True
  | x :: r => cmpB last x.1 < 0 ∧ UpB x.1 r

theorem seg_join {v : List Nd} {p q e : Nat} (h1 : p ≤ q) (h2 : q ≤ e) : seg v p q ++ seg v q e = seg v p e := by
  unfold seg
  rw [show e - p = (q - p) + (e - q) by omega, List.take_add, List.drop_drop, show p + (q - p) = q by omega]
theorem seg_self (v : List Nd) (p : Nat) : seg v p p = [] := by unfold seg; simp
theorem seg_step {v : List Nd} {p e : Nat} (h : p < v.length) (h2 : p < e) : seg v p e = v[p] :: seg v (p + 1) e := by
  unfold seg
  rw [List.drop_eq_getElem_cons h, show e - p = (e - (p + 1)) + 1 by omega, List.take_succ_cons]
theorem seg_all (v : List Nd) (p : Nat) : seg v p v.length = v.drop p := by
  unfold seg; rw [List.take_of_length_le (by simp)]

/-- What a set's loop has met. -/
theorem setLoop_parts {v : List Nd} {m : Nat} : ∀ k lo p e, (∀ l, lo = some l → l ≤ p) → p ≤ v.length → setLoop v (partEnd v m) k lo p = some e →
    (splitS v (partEnd v m) k p).length = k ∧ (splitS v (partEnd v m) k p).flatten = seg v p e ∧ (∀ Q ∈ splitS v (partEnd v m) k p, IsV Q) ∧ UpFrom (lo.map fun l => seg v l p) (splitS v (partEnd v m) k p) := by
  intro k
  induction k with
  | zero =>
    intro lo p e _ _ h
    simp only [setLoop, Option.some.injEq] at h
    subst h
    refine ⟨rfl, by rw [seg_self]; rfl, (fun Q h => by cases h), ?_⟩
    rcases lo with _ | l <;> trivial
  | succ k ih =>
    intro lo p e hlo hp h
    simp only [setLoop] at h
    simp only [splitS]
    split at h
    · cases h
    · rename_i q hq
      have hle := partEnd_le _ _ _ hq
      split at h
      · rename_i hr
        obtain ⟨h1, h2, h3, h4⟩ := ih (some p) q e (fun l hl => by cases hl; omega) hle.2 h
        have hge := setLoop_ge (goes_part v m) _ _ _ _ h
        rw [hq]
        refine ⟨by simp [h1], ?_, ?_, ?_⟩
        · rw [List.flatten_cons, h2, seg_join (by omega) hge]
        · intro Q hQ
          rcases List.mem_cons.1 hQ with rfl | hQ
          · exact isV_seg hq
          · exact h3 Q hQ
        · simp only [Option.map_some, UpFrom] at h4
          rcases lo with _ | l
          · exact h4
          · simp only [rises, decide_eq_true_eq] at hr
            exact ⟨hr, h4⟩
      · cases h
/-- Nodes of which a set's loop makes parts. -/
theorem setLoop_of {v : List Nd} {m : Nat} : ∀ (L : List (List Nd)) lo p e, (∀ l, lo = some l → l ≤ p) → e ≤ v.length → p ≤ e → seg v p e = L.flatten → (∀ Q ∈ L, IsV Q) → UpFrom (lo.map fun l => seg v l p) L → v.length - p < m →
    setLoop v (partEnd v m) L.length lo p = some e ∧ splitS v (partEnd v m) L.length p = L := by
  intro L
  induction L with
  | nil =>
    intro lo p e _ h1 h2 h3 _ _ _
    have hl := congrArg List.length h3
    rw [seg_length h1] at hl
    simp at hl
    simp only [List.length_nil, setLoop, splitS, and_true]
    congr 1; omega
  | cons Q L ih =>
    intro lo p e hlo h1 h2 h3 h4 h5 h6
    have hQ := h4 Q (by simp)
    rw [List.flatten_cons] at h3
    have hl := congrArg List.length h3
    rw [seg_length h1, List.length_append] at hl
    have hq : seg v p (p + Q.length) = Q := by
      have := seg_join (v := v) (p := p) (q := p + Q.length) (e := e) (by omega) (by omega)
      rw [h3] at this
      exact (List.append_inj this (by rw [seg_length (by omega)]; omega)).1
    have hq2 : seg v (p + Q.length) e = L.flatten := by
      have := seg_join (v := v) (p := p) (q := p + Q.length) (e := e) (by omega) (by omega)
      rw [h3] at this
      exact (List.append_inj this (by rw [seg_length (by omega)]; omega)).2
    have hpos := hQ.pos
    have hend := isV_in hQ (by omega) hq h6
    have hup : UpFrom ((some p).map fun l => seg v l (p + Q.length)) L := by
      simp only [Option.map_some, UpFrom, hq]
      rcases lo with _ | l
      · simp only [Option.map_none, UpFrom] at h5
        exact h5
      · simp only [Option.map_some, UpFrom] at h5
        exact h5.2
    have hr : rises v lo p (p + Q.length) = true := by
      rcases lo with _ | l
      · rfl
      · simp only [Option.map_some, UpFrom] at h5
        simp only [rises, hq, decide_eq_true_eq]
        exact h5.1
    obtain ⟨g1, g2⟩ := ih (some p) (p + Q.length) e (fun l hl => by cases hl; omega) h1 (by omega) hq2 (fun Q' h => h4 Q' (by simp [h])) hup (by omega)
    simp only [List.length_cons, setLoop, splitS, hend, hr, if_true]
    exact ⟨g1, by rw [g2, hq]⟩
theorem recLoop_parts {v : List Nd} {m : Nat} : ∀ k last p e, p ≤ v.length → recLoop v (partEnd v m) k last p = some e →
    (splitR v (partEnd v m) k p).length = k ∧ flatR (splitR v (partEnd v m) k p) = seg v p e ∧ (∀ x ∈ splitR v (partEnd v m) k p, IsV x.2 ∧ nameFault x.1 = 0) ∧ UpB last (splitR v (partEnd v m) k p) := by
  intro k
  induction k with
  | zero =>
    intro last p e _ h
    simp only [recLoop, Option.some.injEq] at h
    subst h
    exact ⟨rfl, by rw [seg_self]; rfl, (fun Q h => by cases h), trivial⟩
  | succ k ih =>
    intro last p e hp h
    simp only [recLoop] at h
    simp only [splitR]
    split at h
    · cases h
    · rename_i s hs
      split at h
      · cases h
      · rename_i q hq
        have hle := partEnd_le _ _ _ hq
        obtain ⟨h1, h2, h3, h4⟩ := ih s q e hle.2 h
        have hge := recLoop_ge (goes_part v m) _ _ _ _ h
        unfold fieldOk at hs
        split at hs
        · cases hs
        · rename_i x hx
          split at hs
          · rename_i hc
            simp only [Option.some.injEq] at hs
            subst hs
            simp only [Bool.and_eq_true, decide_eq_true_eq] at hc
            obtain ⟨⟨c1, c2⟩, c3⟩ := hc
            have hsh := c2
            unfold shapedN at hsh
            rw [c1] at hsh
            simp at hsh
            obtain ⟨⟨n1, n2⟩, n3⟩ := hsh
            have hnm : nmAt v p = x.s := by unfold nmAt; rw [hx]
            have hp' : p < v.length := (List.getElem?_eq_some_iff.1 hx).1
            have hxe : v[p] = x := by rw [List.getElem?_eq_getElem hp'] at hx; injection hx
            have hxf : x = fieldN x.s := Nd.ext4 c1 n1 rfl (noB_eq n2)
            rw [hq]
            simp only
            refine ⟨by simp [h1], ?_, ?_, ?_⟩
            · rw [flatR, h2, hnm, seg_join (by omega) hge, seg_step hp' (by omega), hxe, ← hxf]
            · intro y hy
              rcases List.mem_cons.1 hy with rfl | hy
              · exact ⟨isV_seg hq, by rw [hnm]; exact n3⟩
              · exact h3 y hy
            · simp only [UpB, hnm]
              exact ⟨c3, h4⟩
          · cases hs
theorem fieldN_shaped {s : ByteArray} (h : nameFault s = 0) : shapedN (fieldN s) = true := by
  unfold shapedN fieldN
  simp [h, noB]
  rfl
theorem recLoop_of {v : List Nd} {m : Nat} : ∀ (L : List (ByteArray × List Nd)) last p e, e ≤ v.length → p ≤ e → seg v p e = flatR L → (∀ x ∈ L, IsV x.2 ∧ nameFault x.1 = 0) → UpB last L → v.length - p < m →
    recLoop v (partEnd v m) L.length last p = some e ∧ splitR v (partEnd v m) L.length p = L := by
  intro L
  induction L with
  | nil =>
    intro last p e h1 h2 h3 _ _ _
    have hl := congrArg List.length h3
    rw [seg_length h1] at hl
    simp [flatR] at hl
    simp only [List.length_nil, recLoop, splitR, and_true]
    congr 1; omega
  | cons x L ih =>
    intro last p e h1 h2 h3 h4 h5 h6
    obtain ⟨hQ, hN⟩ := h4 x (by simp)
    rw [flatR] at h3
    have hl := congrArg List.length h3
    rw [seg_length h1, List.length_cons, List.length_append] at hl
    have hp' : p < v.length := by omega
    rw [seg_step hp' (by omega)] at h3
    injection h3 with e1 e2
    have hq : seg v (p + 1) (p + 1 + x.2.length) = x.2 := by
      have := seg_join (v := v) (p := p + 1) (q := p + 1 + x.2.length) (e := e) (by omega) (by omega)
      rw [e2] at this
      exact (List.append_inj this (by rw [seg_length (by omega)]; omega)).1
    have hq2 : seg v (p + 1 + x.2.length) e = flatR L := by
      have := seg_join (v := v) (p := p + 1) (q := p + 1 + x.2.length) (e := e) (by omega) (by omega)
      rw [e2] at this
      exact (List.append_inj this (by rw [seg_length (by omega)]; omega)).2
    have hend := isV_in hQ (by omega) hq (m := m) (by omega)
    have hnm : nmAt v p = x.1 := by unfold nmAt; rw [List.getElem?_eq_getElem hp', e1]; rfl
    have hf : fieldOk v last p = some x.1 := by
      unfold fieldOk
      rw [List.getElem?_eq_getElem hp', e1]
      simp only [fieldN_shaped hN]
      have : decide (cmpB last (fieldN x.1).s < 0) = true := decide_eq_true h5.1
      rw [this]
      rfl
    obtain ⟨g1, g2⟩ := ih x.1 (p + 1 + x.2.length) e h1 (by omega) hq2 (fun y h => h4 y (by simp [h])) h5.2 (by omega)
    simp only [List.length_cons, recLoop, splitR, hend, hf]
    exact ⟨g1, by rw [g2, hq, hnm]⟩

def setHead (n : Int) : Nd := ⟨5, n, ⟨#[]⟩, ⟨#[]⟩⟩
def recHead (n : Int) : Nd := ⟨6, n, ⟨#[]⟩, ⟨#[]⟩⟩
theorem headOp_cons (x : Nd) (r : List Nd) : headOp (x :: r) = x.op := rfl
theorem headN_cons (x : Nd) (r : List Nd) : headN (x :: r) = x.n.toNat := rfl
/-- A set: its head, and its parts in order. -/
theorem isV_set {P : List Nd} (h : IsV P) (h5 : headOp P = 5) :
    P = setHead (setParts P).length :: (setParts P).flatten ∧ (setParts P).length = headN P ∧ (∀ Q ∈ setParts P, IsV Q) ∧ Up (setParts P) := by
  have hpos := h.pos
  unfold IsV at h
  rcases P with _ | ⟨x, r⟩
  · simp at hpos
  have h5' : x.op = 5 := h5
  simp only [partEnd, List.getElem?_cons_zero] at h
  by_cases hs : shapedN x = true
  · rw [if_pos hs, if_pos h5'] at h
    unfold shapedN at hs
    rw [h5'] at hs
    simp at hs
    have hx : x = setHead x.n := Nd.ext4 h5' rfl (noB_eq hs.1.2) (noB_eq hs.2)
    have h' : setLoop (x :: r) (partEnd (x :: r) ((x :: r).length + 1)) x.n.toNat none 1 = some (x :: r).length := by
      rw [← h]
      exact (setLoop_same (goes_part _ _) (q0 := 1) (fun q hq => partEnd_fuel _ _ _ (by simp only [List.length_cons]; omega) (by simp only [List.length_cons]; omega)) _ _ _ (Nat.le_refl _))
    obtain ⟨g1, g2, g3, g4⟩ := setLoop_parts _ none 1 _ (fun l hl => by cases hl) (by simp) h'
    have e : setParts (x :: r) = splitS (x :: r) (partEnd (x :: r) ((x :: r).length + 1)) x.n.toNat 1 := rfl
    rw [← e] at g1 g2 g3 g4
    refine ⟨?_, g1, g3, g4⟩
    rw [g2, seg_all, g1, Int.toNat_of_nonneg hs.1.1, ← hx]
    rfl
  · rw [if_neg hs] at h; cases h
theorem set_isV {L : List (List Nd)} (h : ∀ Q ∈ L, IsV Q) (hu : Up L) : IsV (setHead L.length :: L.flatten) ∧ setParts (setHead L.length :: L.flatten) = L := by
  have hs : shapedN (setHead L.length) = true := by unfold shapedN setHead; simp [noB]; rfl
  have key := fun m hm => setLoop_of (v := setHead L.length :: L.flatten) (m := m) L none 1 (L.flatten.length + 1) (fun l hl => by cases hl) (by simp) (by omega) (by
    have := seg_all (setHead L.length :: L.flatten) 1
    simpa using this) h hu hm
  refine ⟨?_, ?_⟩
  · unfold IsV
    simp only [partEnd, List.getElem?_cons_zero, hs, if_true]
    have h5 : (setHead L.length).op = 5 := rfl
    rw [if_pos h5]
    exact (key _ (by simp only [List.length_cons]; omega)).1
  · unfold setParts
    rw [headN_cons]
    exact (key _ (by simp only [List.length_cons]; omega)).2
theorem isV_rec {P : List Nd} (h : IsV P) (h6 : headOp P = 6) :
    P = recHead (recParts P).length :: flatR (recParts P) ∧ (recParts P).length = headN P ∧ (∀ x ∈ recParts P, IsV x.2 ∧ nameFault x.1 = 0) ∧ UpB .empty (recParts P) := by
  have hpos := h.pos
  unfold IsV at h
  rcases P with _ | ⟨x, r⟩
  · simp at hpos
  have h6' : x.op = 6 := h6
  simp only [partEnd, List.getElem?_cons_zero] at h
  by_cases hs : shapedN x = true
  · rw [if_pos hs, if_neg (by omega), if_pos h6'] at h
    unfold shapedN at hs
    rw [h6'] at hs
    simp at hs
    have hx : x = recHead x.n := Nd.ext4 h6' rfl (noB_eq hs.1.2) (noB_eq hs.2)
    have h' : recLoop (x :: r) (partEnd (x :: r) ((x :: r).length + 1)) x.n.toNat .empty 1 = some (x :: r).length := by
      rw [← h]
      exact (recLoop_same (goes_part _ _) (q0 := 1) (fun q hq => partEnd_fuel _ _ _ (by simp only [List.length_cons]; omega) (by simp only [List.length_cons]; omega)) _ _ _ (Nat.le_refl _))
    obtain ⟨g1, g2, g3, g4⟩ := recLoop_parts _ .empty 1 _ (by simp) h'
    have e : recParts (x :: r) = splitR (x :: r) (partEnd (x :: r) ((x :: r).length + 1)) x.n.toNat 1 := rfl
    rw [← e] at g1 g2 g3 g4
    refine ⟨?_, g1, g3, g4⟩
    rw [g2, seg_all, g1, Int.toNat_of_nonneg hs.1.1, ← hx]
    rfl
  · rw [if_neg hs] at h; cases h
theorem rec_isV {L : List (ByteArray × List Nd)} (h : ∀ x ∈ L, IsV x.2 ∧ nameFault x.1 = 0) (hu : UpB .empty L) : IsV (recHead L.length :: flatR L) ∧ recParts (recHead L.length :: flatR L) = L := by
  have hs : shapedN (recHead L.length) = true := by unfold shapedN recHead; simp [noB]; rfl
  have key := fun m hm => recLoop_of (v := recHead L.length :: flatR L) (m := m) L .empty 1 ((flatR L).length + 1) (by simp) (by omega) (by
    have := seg_all (recHead L.length :: flatR L) 1
    simpa using this) h hu hm
  refine ⟨?_, ?_⟩
  · unfold IsV
    simp only [partEnd, List.getElem?_cons_zero, hs, if_true]
    have h6 : (recHead L.length).op = 6 := rfl
    rw [if_neg (by rw [h6]; omega), if_pos h6]
    exact (key _ (by simp only [List.length_cons]; omega)).1
  · unfold recParts
    rw [headN_cons]
    exact (key _ (by simp only [List.length_cons]; omega)).2

/-- The loops over the parts of what is a value come to its end. -/
theorem set_loop {P : List Nd} (h : IsV P) (h5 : headOp P = 5) : setLoop P (partEnd P (P.length + 1)) (headN P) none 1 = some P.length ∧ ∃ hp : 0 < P.length, P[0].op = 5 ∧ 0 ≤ P[0].n ∧ headN P = P[0].n.toNat := by
  have hpos := h.pos
  unfold IsV at h
  rcases P with _ | ⟨x, r⟩
  · simp at hpos
  have h5' : x.op = 5 := h5
  simp only [partEnd, List.getElem?_cons_zero] at h
  by_cases hs : shapedN x = true
  · rw [if_pos hs, if_pos h5'] at h
    unfold shapedN at hs
    rw [h5'] at hs
    simp at hs
    refine ⟨?_, hpos, h5', hs.1.1, rfl⟩
    rw [← h]
    exact (setLoop_same (goes_part _ _) (q0 := 1) (fun q hq => partEnd_fuel _ _ _ (by simp only [List.length_cons]; omega) (by simp only [List.length_cons]; omega)) _ _ _ (Nat.le_refl _))
  · rw [if_neg hs] at h; cases h
theorem rec_loop {P : List Nd} (h : IsV P) (h6 : headOp P = 6) : recLoop P (partEnd P (P.length + 1)) (headN P) .empty 1 = some P.length ∧ ∃ hp : 0 < P.length, P[0].op = 6 ∧ 0 ≤ P[0].n ∧ headN P = P[0].n.toNat := by
  have hpos := h.pos
  unfold IsV at h
  rcases P with _ | ⟨x, r⟩
  · simp at hpos
  have h6' : x.op = 6 := h6
  simp only [partEnd, List.getElem?_cons_zero] at h
  by_cases hs : shapedN x = true
  · rw [if_pos hs, if_neg (by omega), if_pos h6'] at h
    unfold shapedN at hs
    rw [h6'] at hs
    simp at hs
    refine ⟨?_, hpos, h6', hs.1.1, rfl⟩
    rw [← h]
    exact (recLoop_same (goes_part _ _) (q0 := 1) (fun q hq => partEnd_fuel _ _ _ (by simp only [List.length_cons]; omega) (by simp only [List.length_cons]; omega)) _ _ _ (Nat.le_refl _))
  · rw [if_neg hs] at h; cases h
/-- The error of the first one that is no value. -/
def faults : List (List Nd) → Int
  | [] => 0
  | P :: r => or2 (valFault P) (faults r)
end Go.Wk
