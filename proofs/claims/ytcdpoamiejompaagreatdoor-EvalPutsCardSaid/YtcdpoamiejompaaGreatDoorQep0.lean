/-
  What stands for a value is it: the plain law.
-/
import Derived.Test.YtcdpoamiejompaaGreatDoorQe32
namespace Go.Proofs.YtcdpoamiejompaaGreatDoor
open Go.RowKit Go.Wk
set_option maxRecDepth 100000
mutual
/-- An expression with another one at the place of a name. -/
def exPut (s : ByteArray) (v : Ex) : Ex → Ex
  | .node n ps => if n.op = 8 ∧ n.s = s then v else .node n (exsPut s v ps)
def exsPut (s : ByteArray) (v : Ex) : Exs → Exs
  | .nil => .nil
  | .cons x r => .cons (exPut s v x) (exsPut s v r)
end
theorem exsPut_len (s : ByteArray) (v : Ex) : ∀ ps : Exs, (exsPut s v ps).len = ps.len
  | .nil => by simp only [exsPut]
  | .cons x r => by simp only [exsPut, Exs.len, exsPut_len s v r]
theorem valid_free {s s' : ByteArray} : ∀ {r : Exs}, r.valid false s → r.valid false s'
  | .nil, _ => trivial
  | .cons _ _, h => ⟨fun e => Bool.noConfusion e, h.2.1, h.2.2⟩
theorem var_leaf {n : Nd} {ps : Exs} (h : (ps.len : Int) = partsN n) (h8 : n.op = 8) : ps = .nil := by
  unfold partsN at h
  rw [if_neg (by omega), if_pos (by omega)] at h
  cases ps with
  | nil => rfl
  | cons x r => simp only [Exs.len] at h; omega
mutual
theorem exPut_flat (s : ByteArray) (v : Ex) : ∀ (x : Ex) (f : Bool), x.valid f → (exPut s v x).flat = putN s v.flat x.flat
  | .node n ps, f, h => by
    unfold exPut
    by_cases hc : n.op = 8 ∧ n.s = s
    · have hp := var_leaf h.2.1 hc.1
      subst hp
      rw [if_pos hc]
      simp [Ex.flat, Exs.flat, putN, hc]
    · rw [if_neg hc, Ex.flat, Ex.flat, exsPut_flat s v ps _ _ h.2.2]
      simp only [putN, List.flatMap_cons, if_neg hc, List.cons_append, List.nil_append]
theorem exsPut_flat (s : ByteArray) (v : Ex) : ∀ (ps : Exs) (c : Bool) (l : ByteArray), ps.valid c l → (exsPut s v ps).flat = putN s v.flat ps.flat
  | .nil, _, _, _ => by simp [exsPut, Exs.flat, putN]
  | .cons x r, c, l, h => by
    unfold exsPut
    rw [Exs.flat, Exs.flat, exPut_flat s v x _ h.2.1, exsPut_flat s v r _ _ h.2.2]
    simp only [putN, List.flatMap_append]
end
/-- A field stays one, of its name. -/
theorem exPut_field {s : ByteArray} {v x : Ex} (h : x.valid true) : (exPut s v x).head = x.head := by
  obtain ⟨n, ps⟩ := x
  have h7 : n.op = 7 := by
    have := h.1
    unfold headX at this
    rw [Bool.and_eq_true] at this
    simpa using this.2
  unfold exPut
  rw [if_neg (by omega)]
  rfl
mutual
theorem exPut_valid {s : ByteArray} {v : Ex} (hv : v.valid false) : ∀ (x : Ex) (f : Bool), x.valid f → (exPut s v x).valid f
  | .node n ps, f, h => by
    unfold exPut
    by_cases hc : n.op = 8 ∧ n.s = s
    · rw [if_pos hc]
      have hf : f = false := by
        have := h.1
        unfold headX at this
        rw [Bool.and_eq_true, decide_eq_false (show ¬ n.op = 7 by omega)] at this
        cases f with
        | false => rfl
        | true => exact absurd this.2 (by decide)
      rw [hf]; exact hv
    · rw [if_neg hc]
      exact ⟨h.1, by rw [exsPut_len]; exact h.2.1, exsPut_valid hv ps _ _ h.2.2⟩
theorem exsPut_valid {s : ByteArray} {v : Ex} (hv : v.valid false) : ∀ (ps : Exs) (c : Bool) (l : ByteArray), ps.valid c l → (exsPut s v ps).valid c l
  | .nil, _, _, _ => by simp only [exsPut]; trivial
  | .cons x r, c, l, h => by
    unfold exsPut
    cases c with
    | false => exact ⟨fun e => Bool.noConfusion e, exPut_valid hv x _ h.2.1, valid_free (exsPut_valid hv r _ _ h.2.2)⟩
    | true =>
      refine ⟨fun _ => ?_, exPut_valid hv x _ h.2.1, ?_⟩
      · rw [exPut_field h.2.1]; exact h.1 rfl
      · rw [exPut_field h.2.1]; exact exsPut_valid hv r _ _ h.2.2
end
mutual
/-- With what a name stands for in its place it has the same value, or the same error. -/
theorem put_law {σ : Env} {s : ByteArray} {v : Ex} (hv : evX σ v = namedX σ s) : ∀ (x : Ex) (f : Bool), x.valid f → evX σ (exPut s v x) = evX σ x
  | .node n ps, f, h => by
    unfold exPut
    by_cases hc : n.op = 8 ∧ n.s = s
    · rw [if_pos hc, hv]
      unfold evX
      rw [if_neg (by omega), if_pos hc.1, hc.2]
    · rw [if_neg hc]
      unfold evX
      by_cases h1 : 1 ≤ n.op ∧ n.op ≤ 4
      · rw [if_pos h1, if_pos h1]
      · rw [if_neg h1, if_neg h1]
        by_cases h8 : n.op = 8
        · rw [if_pos h8, if_pos h8]
        · rw [if_neg h8, if_neg h8, put_either hv ps _ _ h.2.2, put_if hv ps _ _ h.2.2]
          by_cases h6 : n.op = 6
          · have hr : isRec n = true := by unfold isRec; exact decide_eq_true h6
            have hvv := h.2.2
            rw [hr] at hvv
            rw [if_pos h6, if_pos h6, put_F hv ps _ hvv]
          · rw [if_neg h6, if_neg h6, put_S hv ps _ _ h.2.2]
theorem put_either {σ : Env} {s : ByteArray} {v : Ex} (hv : evX σ v = namedX σ s) : ∀ (ps : Exs) (c : Bool) (l : ByteArray), ps.valid c l → ∀ {o : Bool}, evEither σ o (exsPut s v ps) = evEither σ o ps
  | .nil, _, _, _, _ => by simp only [exsPut]
  | .cons a r, c, l, h, o => by simp only [exsPut, evEither, put_law hv a _ h.2.1, put_last hv r _ _ h.2.2]
theorem put_last {σ : Env} {s : ByteArray} {v : Ex} (hv : evX σ v = namedX σ s) : ∀ (ps : Exs) (c : Bool) (l : ByteArray), ps.valid c l → evLast σ (exsPut s v ps) = evLast σ ps
  | .nil, _, _, _ => by simp only [exsPut]
  | .cons a r, c, l, h => by simp only [exsPut, evLast, put_law hv a _ h.2.1]
theorem put_if {σ : Env} {s : ByteArray} {v : Ex} (hv : evX σ v = namedX σ s) : ∀ (ps : Exs) (c : Bool) (l : ByteArray), ps.valid c l → evIf σ (exsPut s v ps) = evIf σ ps
  | .nil, _, _, _ => by simp only [exsPut]
  | .cons a r, c, l, h => by simp only [exsPut, evIf, put_law hv a _ h.2.1, put_fst hv r _ _ h.2.2, put_snd hv r _ _ h.2.2]
theorem put_fst {σ : Env} {s : ByteArray} {v : Ex} (hv : evX σ v = namedX σ s) : ∀ (ps : Exs) (c : Bool) (l : ByteArray), ps.valid c l → evFst σ (exsPut s v ps) = evFst σ ps
  | .nil, _, _, _ => by simp only [exsPut]
  | .cons a r, c, l, h => by simp only [exsPut, evFst, put_law hv a _ h.2.1]
theorem put_snd {σ : Env} {s : ByteArray} {v : Ex} (hv : evX σ v = namedX σ s) : ∀ (ps : Exs) (c : Bool) (l : ByteArray), ps.valid c l → evSnd σ (exsPut s v ps) = evSnd σ ps
  | .nil, _, _, _ => by simp only [exsPut]
  | .cons a r, c, l, h => by simp only [exsPut, evSnd, put_fst hv r _ _ h.2.2]
theorem put_S {σ : Env} {s : ByteArray} {v : Ex} (hv : evX σ v = namedX σ s) : ∀ (ps : Exs) (c : Bool) (l : ByteArray), ps.valid c l → evS σ (exsPut s v ps) = evS σ ps
  | .nil, _, _, _ => by simp only [exsPut]
  | .cons a r, c, l, h => by simp only [exsPut, evS, put_law hv a _ h.2.1, put_S hv r _ _ h.2.2]
theorem put_F {σ : Env} {s : ByteArray} {v : Ex} (hv : evX σ v = namedX σ s) : ∀ (ps : Exs) (l : ByteArray), ps.valid true l → evF σ (exsPut s v ps) = evF σ ps
  | .nil, _, _ => by simp only [exsPut]
  | .cons a r, l, h => by simp only [exsPut, evF, put_fld hv a h.2.1, put_F hv r _ h.2.2, exPut_field h.2.1]
theorem put_fld {σ : Env} {s : ByteArray} {v : Ex} (hv : evX σ v = namedX σ s) : ∀ (x : Ex), x.valid true → evFld σ (exPut s v x) = evFld σ x
  | .node n ps, h => by
    have h7 : n.op = 7 := by
      have := h.1
      unfold headX at this
      rw [Bool.and_eq_true] at this
      simpa using this.2
    unfold exPut
    rw [if_neg (by omega)]
    simp only [evFld, put_fst hv ps _ _ h.2.2]
end
/-- What stands for a value is it. -/
theorem put_value {σ : Env} {s : ByteArray} {V P : List Nd} (hP : exFault P = 0) (hV : valFault V = 0) (hs : namedX σ s = .ok V) (hl : (putN s V P).length ≤ 200) : valueX σ (putN s V P) = valueX σ P := by
  obtain ⟨hlP, x, hx, rfl⟩ := ex_of hP
  obtain ⟨v, hv, rfl, he⟩ := val_tree σ hV
  have e := exPut_flat s v x false hx
  rw [← e, valueX_ex (exPut_valid hv x false hx) (by rw [e]; exact hl), valueX_ex hx hlP, put_law (by rw [he, hs]) x false hx]
end Go.Proofs.YtcdpoamiejompaaGreatDoor
