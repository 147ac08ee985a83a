/-
  ValSame: the walk of the law.
-/
import Derived.Test.YtlipgpddcfkllaaSetOf
import Derived.Test.YtlipgpddcfkllaaValOrder
import Derived.Test.YtlipgpddcfkllaaRdSls
namespace Go.Proofs.Ytlipgpddcfkllaa
open Go.RowKit Go.Wk Go.Sort
set_option maxRecDepth 100000

theorem same_factE : Wk.setE [[numN 5], [numN 5]] = 0 := by decide +kernel
theorem same_factV : setV [[numN 5], [numN 5]] = [setHead 1, numN 5] := (cmpNds_cmp.zero _ _).1 (by decide +kernel)
/-- What is there of the values, whatever the order. -/
theorem same_other {L M : List (List Nd)} (h : Wk.setE L = 0) (hm : ∀ x, x ∈ M ↔ x ∈ L) : Wk.setE M = 0 ∧ setV M = setV L := by
  have hf := (setE_zero.1 h).1
  have hg : faults M = 0 := faults_zero.2 fun P hP => faults_zero.1 hf P ((hm P).1 hP)
  obtain ⟨a, b⟩ := setV_congr hm hg hf
  exact ⟨a.trans h, b⟩
theorem sls_two {w : World} {b : Nat} {r1 r2 : Sl} (c0 : w.cell? ⟨b, 0, none⟩ = some r1.v) (c1 : w.cell? ⟨b, 1, none⟩ = some r2.v) (h1 : Ns w r1.A r1.n r1.c r1.P) (h2 : Ns w r2.A r2.n r2.c r2.P) : SlsAt w (some ⟨b, 0, none⟩) [r1, r2] := by
  intro k r hk
  match k, hk with
  | 0, hk => simp at hk; subst hk; exact ⟨_, rfl, c0, h1⟩
  | 1, hk => simp at hk; subst hk; exact ⟨_, rfl, by rw [show (⟨b, 0, none⟩ : Addr).add 1 = ⟨b, 1, none⟩ from rfl]; exact c1, h2⟩

theorem Ns.alike2 {w : World} {A B : Option Addr} {n m c d : Nat} {P : List Nd} (h : Ns w A n c P) (k : Ns w B m d P) :
    Calls Try.prog 14 #[.slice A n c, .slice B m d] w fun e w' => e = .returned (.bool true) ∧ Below w.heap.size w w' := by
  have := h.same k
  rwa [cmpNds_cmp.self, decide_eq_true rfl] at this
def anyP (L : List Sl) (Q : List Nd) : Bool := L.any fun r => decide (cmpNds r.P Q = 0)
theorem anyP_step {P8 : List Sl} {j : Nat} (h : j < P8.length) (Q : List Nd) : anyP (P8.take (j + 1)) Q = (anyP (P8.take j) Q || decide (cmpNds P8[j].P Q = 0)) := by
  unfold anyP; rw [← List.take_append_getElem h, List.any_append]; simp
theorem anyP_mem {L : List Sl} {Q : List Nd} (h : Q ∈ L.map Sl.P) : anyP L Q = true := by
  obtain ⟨r, h1, h2⟩ := List.mem_map.1 h
  exact List.any_eq_true.2 ⟨r, h1, by rw [h2, cmpNds_cmp.self]; rfl⟩
theorem insP_len' (p : List Nd) (l : List (List Nd)) : (insP p l).length ≤ l.length + 1 := by
  induction l with
  | nil => simp [insP]
  | cons q r ih =>
    simp only [insP]
    split
    · simp
    · split
      · simp
      · simp; omega
theorem setL_len' (l : List (List Nd)) : (setL l).length ≤ l.length := by
  induction l with
  | nil => simp [setL]
  | cons p r ih => have := insP_len' p (setL r); simp only [setL, List.length_cons]; omega
end Go.Proofs.Ytlipgpddcfkllaa
