/-
  val.Parts and val.Get.
-/
import Derived.Test.YtocchkmhnneiiaaSplitRec
import Derived.Lib.SlicesS
namespace Go.Wk
/-- The error of Parts. -/
def prtE (P : List Nd) : Int := if valFault P = 0 then (if headOp P = 5 ∨ headOp P = 6 then 0 else 2) else valFault P
def prtL (P : List Nd) : List (List Nd) := if prtE P = 0 then (if headOp P = 5 then setParts P else (recParts P).map (·.2)) else []
/-- What a record has by a name. -/
def getR (P : List Nd) (s : ByteArray) : Option (List Nd) := ((recParts P).find? fun x => decide (cmpB x.1 s = 0)).map (·.2)
def getE (P : List Nd) (s : ByteArray) : Int := if valFault P = 0 then (if headOp P = 6 then (if (getR P s).isSome then 0 else 3) else 2) else valFault P
def getV (P : List Nd) (s : ByteArray) : List Nd := if getE P s = 0 then (getR P s).getD [] else []
theorem headOp_at {P : List Nd} (h : 0 < P.length) : headOp P = P[0].op := by
  rcases P with _ | ⟨x, r⟩
  · simp at h
  · rfl
theorem find_at {α : Type} {l : List α} {p : α → Bool} {k : Nat} (h : k < l.length) (hp : p l[k] = true) (hn : ∀ j, (hj : j < k) → p (l[j]'(by omega)) = false) : l.find? p = some l[k] := by
  rw [List.find?_eq_some_iff_getElem]
  exact ⟨hp, k, h, rfl, fun j hj => by rw [hn j hj]; rfl⟩
theorem idx_ways (N : List ByteArray) (s : ByteArray) : (∃ (k : Nat) (h : k < N.length), Lib.idxOfS N s = k ∧ N[k] = s ∧ ∀ j, (hj : j < k) → (N[j]'(by omega)) ≠ s) ∨ (Lib.idxOfS N s = -1 ∧ ∀ j, (hj : j < N.length) → N[j] ≠ s) := by
  unfold Lib.idxOfS
  have key : ∀ (N : List ByteArray) (i : Nat), (∃ (k : Nat) (h : k < N.length), Lib.idxFromS N s i = ((i + k : Nat) : Int) ∧ N[k] = s ∧ ∀ j, (hj : j < k) → (N[j]'(by omega)) ≠ s) ∨ (Lib.idxFromS N s i = -1 ∧ ∀ j, (hj : j < N.length) → N[j] ≠ s) := by
    intro N
    induction N with
    | nil => intro i; exact .inr ⟨rfl, fun j hj => by simp at hj⟩
    | cons x N ih =>
      intro i
      by_cases hx : x = s
      · exact .inl ⟨0, by simp, by simp [Lib.idxFromS, hx], hx, fun j hj => by omega⟩
      · rcases ih (i + 1) with ⟨k, hk, h1, h2, h3⟩ | ⟨h1, h2⟩
        · refine .inl ⟨k + 1, by simp; omega, ?_, h2, fun j hj => ?_⟩
          · simp only [Lib.idxFromS, hx]
            rw [if_neg (by simp), h1]; congr 1; omega
          · rcases j with _ | j
            · exact hx
            · exact h3 j (by omega)
        · refine .inr ⟨?_, fun j hj => ?_⟩
          · simp only [Lib.idxFromS, hx]
            rw [if_neg (by simp)]; exact h1
          · rcases j with _ | j
            · exact hx
            · exact h2 j (by simpa using hj)
  have := key N 0
  simpa using this
end Go.Wk
namespace Go.Proofs.Ytocchkmhnneiiaa
open Go.RowKit Go.Wk Go.Sort
set_option maxRecDepth 100000

theorem val_Check_ns {A : Option Addr} {n c : Nat} {P : List Nd} {w : World} (h : Ns w A n c P) : Calls Try.prog 21 #[.slice A n c] w fun e w' => e = .returned (errV (valFault P)) ∧ Below w.heap.size w w' :=
  val_Check A n c P w h.len h.cap h.max h.at_ h.ok

/-- What Parts tells. -/
def PartsPost (w : World) (P : List Nd) (e : Ending) (w' : World) : Prop :=
  ∃ (v : Value) (V : List Sl), e = .returned (.tuple #[v, errV (prtE P)]) ∧ OwnSls w' w.heap.size v V ∧ V.map Sl.P = prtL P ∧ (∀ r ∈ V, ∀ a, r.A = some a → w.heap.size ≤ a.block) ∧ Below w.heap.size w w'

set_option maxHeartbeats 2000000 in
theorem val_Parts (A : Option Addr) (n c : Nat) (P : List Nd) (w : World) (h : Ns w A n c P) :
    Calls Try.prog 31 #[.slice A n c] w (PartsPost w P) := by
  have K := Lib.hid (val_Check_ns h)
  have H := Lib.hid h
  by_cases h0 : valFault P = 0
  · have hV := (isV_zero.1 h0).2
    have hpos := hV.pos
    obtain ⟨a, rfl, D⟩ := h.at_.nd hpos
    rw [show a.add (0 * 4) = a from rfl] at D
    have hn1 : 0 < n := by rw [h.len]; exact hpos
    have d0 := D.c0
    rw [← headOp_at hpos] at d0
    rw [h0, errV_zero] at K
    by_cases h5 : headOp P = 5
    · have S := Lib.hid (fun w' hb => split_set (some a) n c P w' (h.keep hb) h0 h5)
      have hE : prtE P = 0 := by unfold prtE; rw [if_pos h0, if_pos (.inl h5)]
      have HL := Lib.hid (show prtL P = setParts P by unfold prtL; rw [if_pos hE, if_pos h5])
      have HE := Lib.hid hE
      rw [h5] at d0
      clear h h0 hV D h5 hE
      go_enter Try.func31, Try.ntmps31
      go_wp2_with fail
      refine (K.out).mono ?_
      rintro e w1 ⟨rfl, b1⟩
      replace d0 := cell_keep b1 d0
      have B1 := Lib.hid b1
      clear b1
      go_wp2_with fail
      refine (S.out _ B1.out).mono ?_
      rintro e w2 ⟨v, v', V, rfl, hO, hVL, -, hF, b2⟩
      have HF := Lib.hid (fun r hr a h => Nat.le_trans B1.out.size (Nat.le_of_lt (hF r hr a h)))
      have HO := Lib.hid (hO.mono B1.out.size)
      have HV := Lib.hid (hVL.trans HL.out.symm)
      have B2 := bh B1 b2
      clear hO hVL hF b2
      go_wp2_with fail
      go_ret2
      exact ⟨v, V, by rw [HE.out]; rfl, HO.out, HV.out, HF.out, B2.out⟩
    · by_cases h6 : headOp P = 6
      · have S := Lib.hid (fun w' hb => split_rec (some a) n c P w' (h.keep hb) h0 h6)
        have hE : prtE P = 0 := by unfold prtE; rw [if_pos h0, if_pos (.inr h6)]
        have HL := Lib.hid (show prtL P = (recParts P).map (·.2) by unfold prtL; rw [if_pos hE, if_neg h5])
        have HE := Lib.hid hE
        rw [h6] at d0
        clear h h0 hV D h5 h6 hE
        go_enter Try.func31, Try.ntmps31
        go_wp2_with fail
        refine (K.out).mono ?_
        rintro e w1 ⟨rfl, b1⟩
        replace d0 := cell_keep b1 d0
        have B1 := Lib.hid b1
        clear b1
        go_wp2_with fail
        refine (S.out _ B1.out).mono ?_
        rintro e w2 ⟨v, v', V, rfl, hO, hVL, -, hF, b2⟩
        have HF := Lib.hid (fun r hr a h => Nat.le_trans B1.out.size (Nat.le_of_lt (hF r hr a h)))
        have HO := Lib.hid (hO.mono B1.out.size)
        have HV := Lib.hid (hVL.trans HL.out.symm)
        have B2 := bh B1 b2
        clear hO hVL hF b2
        go_wp2_with fail
        go_ret2
        exact ⟨v, V, by rw [HE.out]; rfl, HO.out, HV.out, HF.out, B2.out⟩
      · have hE : prtE P = 2 := by unfold prtE; rw [if_pos h0, if_neg (by omega)]
        have HL := Lib.hid (show prtL P = [] by unfold prtL; rw [if_neg (by omega)])
        have HE := Lib.hid hE
        have g5 : (headOp P != 5) = true := by rw [bne_iff_ne]; exact h5
        have g6 : (headOp P != 6) = true := by rw [bne_iff_ne]; exact h6
        clear h h0 hV D h5 h6 hE
        go_enter Try.func31, Try.ntmps31
        go_wp2_with fail
        refine (K.out).mono ?_
        rintro e w1 ⟨rfl, b1⟩
        replace d0 := cell_keep b1 d0
        have B1 := Lib.hid b1
        clear b1
        go_wp2_with fail
        go_ret2
        exact ⟨_, [], by rw [HE.out]; rfl, OwnSls.nil _ _, HL.out.symm, (by intro r hr; cases hr), B1.out⟩
  · have hE : prtE P = valFault P := by unfold prtE; rw [if_neg h0]
    have HL := Lib.hid (show prtL P = [] by unfold prtL; rw [if_neg (by rw [hE]; exact h0)])
    have HE := Lib.hid hE
    rw [errV_ne h0] at K
    have HX := Lib.hid (errV_ne h0)
    clear h h0 hE
    go_enter Try.func31, Try.ntmps31
    go_wp2_with fail
    refine (K.out).mono ?_
    rintro e w1 ⟨rfl, b1⟩
    go_wp2_with fail
    go_ret2
    exact ⟨_, [], by rw [HE.out, HX.out]; rfl, OwnSls.nil _ _, HL.out.symm, (by intro r hr; cases hr), b1⟩

def GetPost (w : World) (P : List Nd) (s : ByteArray) (e : Ending) (w' : World) : Prop :=
  ∃ (A : Option Addr) (n c : Nat), e = .returned (.tuple #[.slice A n c, errV (getE P s)]) ∧ Ns w' A n c (getV P s) ∧ (∀ a, A = some a → w.heap.size ≤ a.block ∨ True) ∧ Below w.heap.size w w'
theorem recParts_len {P : List Nd} (h : valFault P = 0) (h6 : headOp P = 6) : (recParts P).length ≤ 200 := by
  obtain ⟨h1, h2⟩ := isV_zero.1 h
  obtain ⟨e, -, h3, -⟩ := isV_rec h2 h6
  have : (recParts P).length ≤ (flatR (recParts P)).length := by
    generalize recParts P = l
    induction l with
    | nil => simp
    | cons x l ih => simp only [flatR, List.length_cons, List.length_append]; omega
  have hl := congrArg List.length e
  simp only [List.length_cons] at hl
  omega

end Go.Proofs.Ytocchkmhnneiiaa
