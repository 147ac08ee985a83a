/-
  The reference's RecOf: the fields by their ranks.
-/
import Derived.Test.YtlipgpddcfkllaaRdSls
import Derived.Test.YtlipgpddcfkllaaRecLaw
import Derived.Test.YtlipgpddcfkllaaRefVal
import Derived.Test.YtlipgpddcfkllaaNameRef
import Derived.Test.YtlipgpddcfkllaaSetOf
import Derived.Laws.OwnMore
namespace Go.Wk
theorem recChk_step {N : List ByteArray} {x : Fld} {r : List Fld} : recChk N (x :: r) = or2 (nameFault x.1) (or2 (if hadB N x.1 then 6 else 0) (or2 (valFault x.2) (recChk (N ++ [x.1]) r))) := rfl
/-- What is checked behind the first k. -/
theorem chk_at {N : List ByteArray} {L : List (List Nd)} (hl : N.length = L.length) {k : Nat} (h : k < N.length) :
    recChk (N.take k) ((N.zip L).drop k) = or2 (nameFault N[k]) (or2 (if hadB (N.take k) N[k] then 6 else 0) (or2 (valFault (L[k]'(by omega))) (recChk (N.take (k + 1)) ((N.zip L).drop (k + 1))))) := by
  have hz : k < (N.zip L).length := by simp; omega
  rw [List.drop_eq_getElem_cons hz, recChk_step, List.getElem_zip, List.take_append_getElem h]
theorem hadB_step {N : List ByteArray} {j : Nat} (h : j < N.length) (s : ByteArray) : hadB (N.take (j + 1)) s = (hadB (N.take j) s || decide (cmpB N[j] s = 0)) := by
  unfold hadB; rw [← List.take_append_getElem h, List.any_append]; simp
theorem zip_flat {N : List ByteArray} {L : List (List Nd)} (hl : N.length = L.length) {k : Nat} (h : k < N.length) :
    (flatR ((N.zip L).take (k + 1))).length = (flatR ((N.zip L).take k)).length + (1 + (L[k]'(by omega)).length) := by
  have hz : k < (N.zip L).length := by simp; omega
  rw [flatR_step _ _ hz, List.length_append, List.getElem_zip]; simp; omega
theorem flatR_filter_le (Z : List Fld) (p : Fld → Bool) : (flatR (Z.filter p)).length ≤ (flatR Z).length := by
  induction Z with
  | nil => simp
  | cons x r ih =>
    simp only [List.filter_cons, flatR, List.length_cons, List.length_append]
    split
    · simp only [flatR, List.length_cons, List.length_append]; omega
    · omega
theorem flatR_ge (Z : List Fld) : Z.length ≤ (flatR Z).length := by
  induction Z with
  | nil => simp
  | cons x r ih => simp only [flatR, List.length_cons, List.length_append]; omega
theorem filter_take (Z : List Fld) (p : Fld → Bool) {i : Nat} (h : i < Z.length) : (Z.take (i + 1)).filter p = (Z.take i).filter p ++ if p Z[i] = true then [Z[i]] else [] := by
  rw [← List.take_append_getElem h, List.filter_append, List.filter_cons]; simp
end Go.Wk
namespace Go.Proofs.Ytlipgpddcfkllaa
open Go.RowKit Go.Wk Go.Sort
set_option maxRecDepth 100000

def RRecPost (w : World) (N : List ByteArray) (L : List (List Nd)) (e : Ending) (w' : World) : Prop :=
  ∃ (A : Option Addr) (n c : Nat), e = .returned (.tuple #[.slice A n c, .int .i64 (recE N L)]) ∧ Ns w' A n c (recV N L) ∧ Below w.heap.size w w'
theorem rrec_err {w w' : World} {N : List ByteArray} {L : List (List Nd)} {x : Int} (h : recE N L = x) (h0 : x ≠ 0) (hb : Below w.heap.size w w') : RRecPost w N L (.returned (.tuple #[.slice none 0 0, .int .i64 x])) w' :=
  ⟨none, 0, 0, by rw [h], by rw [recV_err (by rw [h]; exact h0)]; exact ns_nil _, hb⟩
theorem TxAt.at {w : World} {A : Option Addr} {N : List ByteArray} (h : TxAt w A N) {k : Nat} (hk : k < N.length) : ∃ a, A = some a ∧ w.cell? (a.add k) = some (.string N[k]) := h k N[k] (List.getElem?_eq_getElem hk)

theorem flatR_ok {Z : List Fld} (h : ∀ y ∈ Z, y.1.size ≤ maxLen ∧ NdsOk y.2) : NdsOk (flatR Z) := by
  induction Z with
  | nil => intro x hx; cases hx
  | cons y r ih =>
    intro x hx
    simp only [flatR] at hx
    rcases List.mem_cons.1 hx with rfl | hx
    · exact ⟨(h y (by simp)).1, Nat.zero_le _, by show _ ≤ (0 : Int); omega, by show (0 : Int) ≤ _; omega⟩
    · rcases List.mem_append.1 hx with hx | hx
      · exact (h y (by simp)).2 x hx
      · exact ih (fun z hz => h z (by simp [hz])) x hx
end Go.Proofs.Ytlipgpddcfkllaa
