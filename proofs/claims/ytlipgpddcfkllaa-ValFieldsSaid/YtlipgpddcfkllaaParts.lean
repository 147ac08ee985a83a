/-
  val.Parts and val.Get.
-/
import Derived.Test.YtlipgpddcfkllaaSplitRec
import Derived.Lib.SlicesS
namespace Go.Wk
/-- The error of Parts. -/
def prtE (P : List Nd) : Int := if valFault P = 0 then (if headOp P = 5 ∨ headOp P = 6 then 0 else 2) else valFault P
def prtL (P : List Nd) : List (List Nd) := if prtE P = 0 then (if headOp P = 5 then setParts P else (recParts P).map (·.2)) else []
/-- What a record has by a name. -/
def getR (P : List Nd) (s : ByteArray) : Option (List Nd) := ((recParts P).find? fun x => decide (cmpB x.1 s = 0)).map (·.2)
def getE (P : List Nd) (s : ByteArray) : Int := if valFault P = 0 then (if headOp P = 6 then (if (getR P s).isSome then 0 else 3) else 2) else valFault P
def getV (P : List Nd) (s : ByteArray) : List Nd := if getE P s = 0 then (getR P s).getD [] else []
theorem headOp_at {P : List Nd} (h : 0 < P.length) : headOp P = P[0].op := by
  rcases P with _ | ⟨x, r⟩
  · simp at h
  · rfl
theorem find_at {α : Type} {l : List α} {p : α → Bool} {k : Nat} (h : k < l.length) (hp : p l[k] = true) (hn : ∀ j, (hj : j < k) → p (l[j]'(by omega)) = false) : l.find? p = some l[k] := by
  rw [List.find?_eq_some_iff_getElem]
  exact ⟨hp, k, h, rfl, fun j hj => by rw [hn j hj]; rfl⟩
theorem idx_ways (N : List ByteArray) (s : ByteArray) : (∃ (k : Nat) (h : k < N.length), Lib.idxOfS N s = k ∧ N[k] = s ∧ ∀ j, (hj : j < k) → (N[j]'(by omega)) ≠ s) ∨ (Lib.idxOfS N s = -1 ∧ ∀ j, (hj : j < N.length) → N[j] ≠ s) := by
  unfold Lib.idxOfS
  have key : ∀ (N : List ByteArray) (i : Nat), (∃ (k : Nat) (h : k < N.length), Lib.idxFromS N s i = ((i + k : Nat) : Int) ∧ N[k] = s ∧ ∀ j, (hj : j < k) → (N[j]'(by omega)) ≠ s) ∨ (Lib.idxFromS N s i = -1 ∧ ∀ j, (hj : j < N.length) → N[j] ≠ s) := by
    intro N
    induction N with
    | nil => intro i; exact .inr ⟨rfl, fun j hj => by simp at hj⟩
    | cons x N ih =>
      intro i
      by_cases hx : x = s
      · exact .inl ⟨0, by simp, by simp [Lib.idxFromS, hx], hx, fun j hj => by omega⟩
      · rcases ih (i + 1) with ⟨k, hk, h1, h2, h3⟩ | ⟨h1, h2⟩
        · refine .inl ⟨k + 1, by simp; omega, ?_, h2, fun j hj => ?_⟩
          · simp only [Lib.idxFromS, hx]
            rw [if_neg (by simp), h1]; congr 1; omega
          · rcases j with _ | j
            · exact hx
            · exact h3 j (by omega)
        · refine .inr ⟨?_, fun j hj => ?_⟩
          · simp only [Lib.idxFromS, hx]
            rw [if_neg (by simp)]; exact h1
          · rcases j with _ | j
            · exact hx
            · exact h2 j (by simpa using hj)
  have := key N 0
  simpa using this
end Go.Wk
namespace Go.Proofs.Ytlipgpddcfkllaa
open Go.RowKit Go.Wk Go.Sort
set_option maxRecDepth 100000

theorem val_Check_ns {A : Option Addr} {n c : Nat} {P : List Nd} {w : World} (h : Ns w A n c P) : Calls Try.prog 12 #[.slice A n c] w fun e w' => e = .returned (errV (valFault P)) ∧ Below w.heap.size w w' :=
  val_Check A n c P w h.len h.cap h.max h.at_ h.ok

/-- What Parts tells. -/
def PartsPost (w : World) (P : List Nd) (e : Ending) (w' : World) : Prop :=
  ∃ (v : Value) (V : List Sl), e = .returned (.tuple #[v, errV (prtE P)]) ∧ OwnSls w' w.heap.size v V ∧ V.map Sl.P = prtL P ∧ (∀ r ∈ V, ∀ a, r.A = some a → w.heap.size ≤ a.block) ∧ Below w.heap.size w w'

theorem strs_index {w : World} {B : Nat} {v : Value} {N : List ByteArray} (s : ByteArray) (h : w.ownsRow B 9 1 v N.length (N.map Value.string)) (hN : N.length ≤ 100000) :
    Calls Try.prog 27 #[v, .string s] w fun e w' => e = .returned (.int .i64 (Lib.idxOfS N s)) ∧ w' = w := by
  rcases h.2 with ⟨rfl, h0⟩ | ⟨g, cap, cur, rfl, -, -, hc, -⟩
  · have : N = [] := List.eq_nil_of_length_eq_zero h0
    subst this
    exact Try.slices_Index_string_empty none 0 s w
  · have := Try.slices_Index_string g 0 N.length cap N s w (Nat.le_refl _) (by omega) (fun j hj => by
      have e := h.cells (g := g) rfl j (.string N[j]) (by rw [List.getElem?_map, List.getElem?_eq_getElem hj]; rfl)
      rw [addr_add] at e
      rw [e]
      simp [hj])
    rw [List.take_length] at this
    exact this

def GetPost (w : World) (P : List Nd) (s : ByteArray) (e : Ending) (w' : World) : Prop :=
  ∃ (A : Option Addr) (n c : Nat), e = .returned (.tuple #[.slice A n c, errV (getE P s)]) ∧ Ns w' A n c (getV P s) ∧ (∀ a, A = some a → w.heap.size ≤ a.block ∨ True) ∧ Below w.heap.size w w'
theorem recParts_len {P : List Nd} (h : valFault P = 0) (h6 : headOp P = 6) : (recParts P).length ≤ 200 := by
  obtain ⟨h1, h2⟩ := isV_zero.1 h
  obtain ⟨e, -, h3, -⟩ := isV_rec h2 h6
  have : (recParts P).length ≤ (flatR (recParts P)).length := by
    generalize recParts P = l
    induction l with
    | nil => simp
    | cons x l ih => simp only [flatR, List.length_cons, List.length_append]; omega
  have hl := congrArg List.length e
  simp only [List.length_cons] at hl
  omega

set_option maxHeartbeats 2000000 in
theorem val_Get (A : Option Addr) (n c : Nat) (P : List Nd) (s : ByteArray) (w : World) (h : Ns w A n c P) :
    Calls Try.prog 13 #[.slice A n c, .string s] w (GetPost w P s) := by
  have K := Lib.hid (val_Check_ns h)
  by_cases h0 : valFault P = 0
  · have hV := (isV_zero.1 h0).2
    have hpos := hV.pos
    obtain ⟨a, rfl, D⟩ := h.at_.nd hpos
    rw [show a.add (0 * 4) = a from rfl] at D
    have hn1 : 0 < n := by rw [h.len]; exact hpos
    have d0 := D.c0
    rw [← headOp_at hpos] at d0
    rw [h0, errV_zero] at K
    by_cases h6 : headOp P = 6
    · have S := Lib.hid (fun w' hb => split_rec (some a) n c P w' (h.keep hb) h0 h6)
      have HG := Lib.hid (show getE P s = if (getR P s).isSome then 0 else 3 by unfold getE; rw [if_pos h0, if_pos h6])
      have HLn := Lib.hid (recParts_len h0 h6)
      rw [h6] at d0
      clear h h0 hV D h6
      go_enter Try.func13, Try.ntmps13
      go_wp2_with fail
      refine (K.out).mono ?_
      rintro e w1 ⟨rfl, b1⟩
      replace d0 := cell_keep b1 d0
      have B1 := Lib.hid b1
      clear b1
      go_wp2_with fail
      refine (S.out _ B1.out).mono ?_
      rintro e w2 ⟨v, v', V, rfl, hO, hVL, hN, -, b2⟩
      have B2 := bh B1 b2
      have I := Lib.hid (strs_index s hN (by simp; have := HLn.out; omega))
      have HV := Lib.hid hVL
      have hVl := congrArg List.length hVL
      simp only [List.length_map] at hVl
      obtain ⟨A2, c2, rfl, hc2, hS2⟩ := hO.at
      have HS := Lib.hid hS2
      clear hO hVL hN b2 hS2
      rcases idx_ways ((recParts P).map (·.1)) s with ⟨k, hk, hi, hkk, hlt⟩ | ⟨hi, hno⟩
      · have hk' : k < (recParts P).length := by simpa using hk
        have hkV : k < V.length := by omega
        have hR : getR P s = some (recParts P)[k].2 := by
          unfold getR
          rw [find_at hk' (decide_eq_true ((cmpB_cmp.zero _ _).2 (by simpa using hkk))) (fun j hj => decide_eq_false (fun q => hlt j hj (by simpa using (cmpB_cmp.zero _ _).1 q)))]
          rfl
        obtain ⟨a2, rfl, q2, n2⟩ := HS.out.at hkV
        have hP : V[k].P = (recParts P)[k].2 := by
          have := congrArg (fun l => l[k]?) HV.out
          simp only [List.getElem?_map, List.getElem?_eq_getElem hkV, List.getElem?_eq_getElem hk', Option.map_some, Option.some.injEq] at this
          exact this
        have HE2 := Lib.hid (show getE P s = 0 by rw [HG.out, hR]; rfl)
        have HV2 := Lib.hid (show getV P s = V[k].P by unfold getV; rw [if_pos HE2.out, hR, hP]; rfl)
        have HN2 := Lib.hid n2
        rw [hi] at I
        generalize V[k] = r at *
        clear hk hi hkk hlt hR hP n2 hVl hk'
        go_wp2_with fail
        refine I.out.mono ?_
        rintro e w3 ⟨rfl, rfl⟩
        go_wp2_with fail
        go_ret2
        exact ⟨r.A, r.n, r.c, by rw [HE2.out]; rfl, by rw [HV2.out]; exact HN2.out, fun _ _ => .inr trivial, B2.out⟩
      · have hR : getR P s = none := by
          unfold getR
          rw [List.find?_eq_none.2 (fun x hx => by
            obtain ⟨j, hj, rfl⟩ := List.getElem_of_mem hx
            have := hno j (by simpa using hj)
            simp only [decide_eq_true_eq]
            intro q
            exact this (by simpa using (cmpB_cmp.zero _ _).1 q))]
          rfl
        have HE2 := Lib.hid (show getE P s = 3 by rw [HG.out, hR]; rfl)
        have HV2 := Lib.hid (show getV P s = [] by unfold getV; rw [HE2.out]; rfl)
        rw [hi] at I
        clear hi hno hR hVl
        go_wp2_with fail
        refine I.out.mono ?_
        rintro e w3 ⟨rfl, rfl⟩
        go_wp2_with fail
        go_ret2
        exact ⟨none, 0, 0, by rw [HE2.out]; rfl, by rw [HV2.out]; exact ⟨rfl, Nat.le_refl _, by unfold maxLen; omega, fun k x hx => by simp at hx, fun x hx => by cases hx⟩, fun _ _ => .inr trivial, B2.out⟩
    · have hE : getE P s = 2 := by unfold getE; rw [if_pos h0, if_neg h6]
      have HV2 := Lib.hid (show getV P s = [] by unfold getV; rw [hE]; rfl)
      have HE := Lib.hid hE
      have g6 : (headOp P != 6) = true := by rw [bne_iff_ne]; exact h6
      clear h h0 hV D h6 hE
      go_enter Try.func13, Try.ntmps13
      go_wp2_with fail
      refine (K.out).mono ?_
      rintro e w1 ⟨rfl, b1⟩
      replace d0 := cell_keep b1 d0
      have B1 := Lib.hid b1
      clear b1
      go_wp2_with fail
      go_ret2
      exact ⟨none, 0, 0, by rw [HE.out]; rfl, by rw [HV2.out]; exact ⟨rfl, Nat.le_refl _, by unfold maxLen; omega, fun k x hx => by simp at hx, fun x hx => by cases hx⟩, fun _ _ => .inr trivial, B1.out⟩
  · have hE : getE P s = valFault P := by unfold getE; rw [if_neg h0]
    have HV2 := Lib.hid (show getV P s = [] by unfold getV; rw [if_neg (by rw [hE]; exact h0)])
    have HE := Lib.hid hE
    rw [errV_ne h0] at K
    have HX := Lib.hid (errV_ne h0)
    clear h h0 hE
    go_enter Try.func13, Try.ntmps13
    go_wp2_with fail
    refine (K.out).mono ?_
    rintro e w1 ⟨rfl, b1⟩
    go_wp2_with fail
    go_ret2
    exact ⟨none, 0, 0, by rw [HE.out, HX.out]; rfl, by rw [HV2.out]; exact ⟨rfl, Nat.le_refl _, by unfold maxLen; omega, fun k x hx => by simp at hx, fun x hx => by cases hx⟩, fun _ _ => .inr trivial, b1⟩
end Go.Proofs.Ytlipgpddcfkllaa
