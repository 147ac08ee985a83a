/-
  Plain: sets of values: both, either, the first one alone. No program in sight.
-/
import Derived.Test.YtfbgaefbalbohaaBagOps
import Derived.Test.YtfbgaefbalbohaaSetLaw
namespace Go.Wk

theorem hasB_iff {L : List (List Nd)} {Q : List Nd} : hasB L Q = true ↔ Q ∈ L := by
  unfold hasB
  rw [List.any_eq_true]
  constructor
  · rintro ⟨P, h1, h2⟩
    have e := (cmpNds_cmp.zero P Q).1 (by simpa using h2)
    subst e; exact h1
  · intro h; exact ⟨Q, h, by simp [cmpNds_cmp.self]⟩
def unionL (P Q : List Nd) : List (List Nd) := setParts P ++ setParts Q
def meetL (P Q : List Nd) : List (List Nd) := (setParts P).filter fun x => hasB (setParts Q) x
def lessL (P Q : List Nd) : List (List Nd) := (setParts P).filter fun x => !hasB (setParts Q) x
/-- Those of the first one that the other one has not, then those of the other one. -/
def eitherL (P Q : List Nd) : List (List Nd) := lessL P Q ++ setParts Q
def opE (P Q : List Nd) (L : List (List Nd)) : Int := or2 (bothE P Q) (setE L)
def opV (P Q : List Nd) (L : List (List Nd)) : List Nd := if bothE P Q = 0 then setV L else []
theorem opE_zero {P Q : List Nd} {L : List (List Nd)} : opE P Q L = 0 ↔ bothE P Q = 0 ∧ setE L = 0 := by
  unfold opE or2
  by_cases h : bothE P Q = 0
  · rw [if_pos h]; exact ⟨fun q => ⟨h, q⟩, fun q => q.2⟩
  · rw [if_neg h]; exact ⟨fun q => absurd q h, fun q => absurd q.1 h⟩
theorem opE_ok {P Q : List Nd} (h : bothE P Q = 0) (L : List (List Nd)) : opE P Q L = setE L := by unfold opE or2; rw [if_pos h]
theorem opV_ok {P Q : List Nd} (h : bothE P Q = 0) (L : List (List Nd)) : opV P Q L = setV L := by unfold opV; rw [if_pos h]
theorem opE_bad {P Q : List Nd} (h : bothE P Q ≠ 0) (L : List (List Nd)) : opE P Q L = bothE P Q := by unfold opE or2; rw [if_neg h]
theorem opV_bad {P Q : List Nd} (h : bothE P Q ≠ 0) (L : List (List Nd)) : opV P Q L = [] := by unfold opV; rw [if_neg h]
theorem bothE_comm {P Q : List Nd} : bothE P Q = 0 ↔ bothE Q P = 0 := by
  rw [bothE_zero, bothE_zero]; exact ⟨fun ⟨a, b, c, d⟩ => ⟨b, a, d, c⟩, fun ⟨a, b, c, d⟩ => ⟨b, a, d, c⟩⟩
theorem bothE_self {P : List Nd} : bothE P P = 0 ↔ valFault P = 0 ∧ headOp P = 5 := by
  rw [bothE_zero]; exact ⟨fun ⟨a, _, c, _⟩ => ⟨a, c⟩, fun ⟨a, c⟩ => ⟨a, a, c, c⟩⟩
theorem faults_append {L M : List (List Nd)} : faults (L ++ M) = 0 ↔ faults L = 0 ∧ faults M = 0 := by
  rw [faults_zero, faults_zero, faults_zero]
  exact ⟨fun h => ⟨fun P hP => h P (List.mem_append_left _ hP), fun P hP => h P (List.mem_append_right _ hP)⟩, fun ⟨h1, h2⟩ P hP => (List.mem_append.1 hP).elim (h1 P) (h2 P)⟩
section
variable {P Q : List Nd} (h : bothE P Q = 0)
include h
theorem unionL_faults : faults (unionL P Q) = 0 := by
  obtain ⟨a, b, c, d⟩ := bothE_zero.1 h
  exact faults_append.2 ⟨(setV_parts a c).1, (setV_parts b d).1⟩
theorem eitherL_faults : faults (eitherL P Q) = 0 := by
  obtain ⟨a, b, c, d⟩ := bothE_zero.1 h
  exact faults_append.2 ⟨(setV_filter a c _).1, (setV_parts b d).1⟩
omit h in
theorem mem_unionL {x : List Nd} : x ∈ unionL P Q ↔ x ∈ setParts P ∨ x ∈ setParts Q := List.mem_append
omit h in
theorem mem_lessL {x : List Nd} : x ∈ lessL P Q ↔ x ∈ setParts P ∧ x ∉ setParts Q := by
  unfold lessL
  rw [List.mem_filter, Bool.not_eq_true', ← Bool.not_eq_true, hasB_iff]
omit h in
theorem mem_meetL {x : List Nd} : x ∈ meetL P Q ↔ x ∈ setParts P ∧ x ∈ setParts Q := by
  unfold meetL
  rw [List.mem_filter, hasB_iff]
omit h in
theorem mem_eitherL {x : List Nd} : x ∈ eitherL P Q ↔ x ∈ setParts P ∨ x ∈ setParts Q := by
  unfold eitherL
  rw [List.mem_append, mem_lessL]
  by_cases hq : x ∈ setParts Q <;> simp [hq]
/-- What the reference collects is the same set. -/
theorem either_union : setE (eitherL P Q) = setE (unionL P Q) ∧ setV (eitherL P Q) = setV (unionL P Q) :=
  setV_congr (fun x => by rw [mem_eitherL, mem_unionL]) (eitherL_faults h) (unionL_faults h)
theorem union_comm : setE (unionL P Q) = setE (unionL Q P) ∧ setV (unionL P Q) = setV (unionL Q P) :=
  setV_congr (fun x => by rw [mem_unionL, mem_unionL, or_comm]) (unionL_faults h) (unionL_faults (bothE_comm.1 h))
theorem meet_ok : faults (meetL P Q) = 0 ∧ setL (meetL P Q) = meetL P Q ∧ setE (meetL P Q) = 0 :=
  setV_filter (bothE_zero.1 h).1 (bothE_zero.1 h).2.2.1 _
theorem less_ok : faults (lessL P Q) = 0 ∧ setL (lessL P Q) = lessL P Q ∧ setE (lessL P Q) = 0 :=
  setV_filter (bothE_zero.1 h).1 (bothE_zero.1 h).2.2.1 _
theorem meet_comm : setV (meetL P Q) = setV (meetL Q P) :=
  (setV_congr (fun x => by rw [mem_meetL, mem_meetL, and_comm]) (meet_ok h).1 (meet_ok (bothE_comm.1 h)).1).2
/-- The value of what both have. -/
theorem meet_val : valFault (setV (meetL P Q)) = 0 ∧ headOp (setV (meetL P Q)) = 5 ∧ setParts (setV (meetL P Q)) = meetL P Q := by
  obtain ⟨a, b, c⟩ := setV_isV (meet_ok h).2.2
  exact ⟨a, b, c.trans (meet_ok h).2.1⟩
theorem less_val : valFault (setV (lessL P Q)) = 0 ∧ headOp (setV (lessL P Q)) = 5 ∧ setParts (setV (lessL P Q)) = lessL P Q := by
  obtain ⟨a, b, c⟩ := setV_isV (less_ok h).2.2
  exact ⟨a, b, c.trans (less_ok h).2.1⟩
theorem meet_less_both : bothE (setV (meetL P Q)) (setV (lessL P Q)) = 0 :=
  bothE_zero.2 ⟨(meet_val h).1, (less_val h).1, (meet_val h).2.1, (less_val h).2.1⟩
/-- What both have and what the first one has alone is all of it. -/
theorem meet_less_all : setE (unionL (setV (meetL P Q)) (setV (lessL P Q))) = 0 ∧ setV (unionL (setV (meetL P Q)) (setV (lessL P Q))) = P := by
  obtain ⟨a, b, c, d⟩ := bothE_zero.1 h
  obtain ⟨f, u, e, v⟩ := setV_parts a c
  have hc := setV_congr (L := unionL (setV (meetL P Q)) (setV (lessL P Q))) (M := setParts P) (fun x => by
    rw [mem_unionL, (meet_val h).2.2, (less_val h).2.2, mem_meetL, mem_lessL]
    by_cases hq : x ∈ setParts Q <;> simp [hq]) (unionL_faults (meet_less_both h)) f
  exact ⟨hc.1.trans e, hc.2.trans v⟩
theorem meet_less_none : setV (meetL (setV (meetL P Q)) (setV (lessL P Q))) = [setHead 0] := by
  have e : meetL (setV (meetL P Q)) (setV (lessL P Q)) = [] := by
    rw [List.eq_nil_iff_forall_not_mem]
    intro x hx
    rw [mem_meetL, (meet_val h).2.2, (less_val h).2.2, mem_meetL, mem_lessL] at hx
    exact hx.2.2 hx.1.2
  have he := (meet_ok (meet_less_both h)).2.2
  rw [e] at he ⊢
  rw [setV_eq he]; rfl
end
/-- Without either is without both, one behind the other. -/
theorem less_less {S T U : List Nd} (h : bothE S T = 0) (k : bothE T U = 0) (hf : setE (unionL T U) = 0) :
    bothE S (setV (unionL T U)) = 0 ∧ bothE (setV (lessL S T)) U = 0 ∧ setV (lessL S (setV (unionL T U))) = setV (lessL (setV (lessL S T)) U) := by
  obtain ⟨a, b, c, d⟩ := bothE_zero.1 h
  obtain ⟨a', b', c', d'⟩ := bothE_zero.1 k
  obtain ⟨x1, x2, x3⟩ := setV_isV hf
  have h1 : bothE S (setV (unionL T U)) = 0 := bothE_zero.2 ⟨a, x1, c, x2⟩
  have h2 : bothE (setV (lessL S T)) U = 0 := bothE_zero.2 ⟨(less_val h).1, b', (less_val h).2.1, d'⟩
  refine ⟨h1, h2, (setV_congr (fun x => ?_) (less_ok h1).1 (less_ok h2).1).2⟩
  rw [mem_lessL, mem_lessL, (less_val h).2.2, mem_lessL, x3, mem_setL, mem_unionL, not_or, and_assoc]
/-- Has one all of the other one? -/
theorem allV_iff {P Q : List Nd} (h : bothE P Q = 0) : allV P Q = true ↔ ∀ x ∈ setParts Q, x ∈ setParts P := by
  unfold allV
  rw [decide_eq_true h, Bool.true_and, decide_eq_true_eq, List.length_filter_eq_length_iff]
  exact ⟨fun q x hx => hasB_iff.1 (q x hx), fun q x hx => hasB_iff.2 (q x hx)⟩
theorem anyV_iff {P Q : List Nd} (h : bothE P Q = 0) : anyV P Q = true ↔ ∃ x ∈ setParts Q, x ∈ setParts P := by
  unfold anyV
  rw [decide_eq_true h, Bool.true_and, List.any_eq_true]
  exact ⟨fun ⟨x, hx, q⟩ => ⟨x, hx, hasB_iff.1 q⟩, fun ⟨x, hx, q⟩ => ⟨x, hx, hasB_iff.2 q⟩⟩
theorem set_ext {P Q : List Nd} (h : bothE P Q = 0) (he : ∀ x, x ∈ setParts P ↔ x ∈ setParts Q) : P = Q := by
  obtain ⟨a, b, c, d⟩ := bothE_zero.1 h
  obtain ⟨f1, u1, e1, v1⟩ := setV_parts a c
  obtain ⟨f2, u2, e2, v2⟩ := setV_parts b d
  rw [← v1, ← v2]
  exact (setV_congr he f1 f2).2
theorem order_all {S T : List Nd} (h : bothE S T = 0) : allV S T = decide (cmpNds (setV (meetL S T)) T = 0) := by
  rw [Bool.eq_iff_iff, allV_iff h, decide_eq_true_eq, cmpNds_cmp.zero]
  obtain ⟨a, b, c, d⟩ := bothE_zero.1 h
  constructor
  · intro q
    refine set_ext (bothE_zero.2 ⟨(meet_val h).1, b, (meet_val h).2.1, d⟩) fun x => ?_
    rw [(meet_val h).2.2, mem_meetL]
    exact ⟨fun k => k.2, fun k => ⟨q x k, k⟩⟩
  · intro e x hx
    have := (meet_val h).2.2
    rw [e] at this
    rw [this, mem_meetL] at hx
    exact hx.1
theorem order_same {S T : List Nd} (h : bothE S T = 0) : (allV S T && allV T S) = decide (cmpNds S T = 0) := by
  rw [Bool.eq_iff_iff, Bool.and_eq_true, allV_iff h, allV_iff (bothE_comm.1 h), decide_eq_true_eq, cmpNds_cmp.zero]
  constructor
  · intro ⟨p, q⟩
    exact set_ext h fun x => ⟨fun k => q x k, fun k => p x k⟩
  · intro e; subst e; exact ⟨fun x hx => hx, fun x hx => hx⟩
theorem order_self {S : List Nd} (h : bothE S S = 0) : allV S S = true := (allV_iff h).2 fun _ hx => hx
theorem order_some {S T : List Nd} (h : bothE S T = 0) : anyV S T = decide (1 < (setV (meetL S T)).length) := by
  rw [Bool.eq_iff_iff, anyV_iff h, decide_eq_true_eq, setV_eq (meet_ok h).2.2, (meet_ok h).2.1]
  constructor
  · rintro ⟨x, hx, hs⟩
    have hm : x ∈ meetL S T := mem_meetL.2 ⟨hs, hx⟩
    have := part_le hm
    have hV : IsV x := (isV_zero.1 (faults_zero.1 (meet_ok h).1 x hm)).2
    have := hV.pos
    simp only [List.length_cons]; omega
  · intro hl
    rcases hm : meetL S T with _ | ⟨x, r⟩
    · rw [hm] at hl; simp at hl
    · have : x ∈ meetL S T := by rw [hm]; simp
      obtain ⟨p, q⟩ := mem_meetL.1 this
      exact ⟨x, q, p⟩
theorem chain_all {S T U : List Nd} (h1 : bothE S T = 0) (h2 : bothE T U = 0) (h3 : bothE S U = 0) (a : allV S T = true) (b : allV T U = true) : allV S U = true :=
  (allV_iff h3).2 fun x hx => (allV_iff h1).1 a x ((allV_iff h2).1 b x hx)
theorem chain_union {S T U : List Nd} (h1 : bothE S T = 0) (h3 : bothE S U = 0) (hf : setE (unionL T U) = 0) :
    bothE S (setV (unionL T U)) = 0 ∧ allV S (setV (unionL T U)) = (allV S T && allV S U) := by
  obtain ⟨a, b, c, d⟩ := bothE_zero.1 h1
  obtain ⟨x1, x2, x3⟩ := setV_isV hf
  have hb : bothE S (setV (unionL T U)) = 0 := bothE_zero.2 ⟨a, x1, c, x2⟩
  refine ⟨hb, ?_⟩
  rw [Bool.eq_iff_iff, Bool.and_eq_true, allV_iff hb, allV_iff h1, allV_iff h3, x3]
  constructor
  · intro q; exact ⟨fun x hx => q x (mem_setL.2 (mem_unionL.2 (.inl hx))), fun x hx => q x (mem_setL.2 (mem_unionL.2 (.inr hx)))⟩
  · rintro ⟨p, q⟩ x hx
    exact (mem_unionL.1 (mem_setL.1 hx)).elim (p x) (q x)
end Go.Wk
