/-
  The reference's Parts; lists of lists alike.
-/
import Derived.Test.YtlipgpddcfkllaaParts
import Derived.Test.YtlipgpddcfkllaaRefVal
namespace Go.Wk
/-- The names that the reference's Parts tells. -/
def prtN (P : List Nd) : List ByteArray := if headOp P = 5 then (setParts P).map (fun _ => ⟨#[]⟩) else (recParts P).map (·.1)
end Go.Wk
namespace Go.Proofs.Ytlipgpddcfkllaa
open Go.RowKit Go.Wk Go.Sort
set_option maxRecDepth 100000

def RefPartsPost (w : World) (L : List (List Nd)) (N : List ByteArray) (e : Ending) (w' : World) : Prop :=
  ∃ (v v' : Value) (V : List Sl), e = .returned (.tuple #[v, v']) ∧ TwoRows w' w.heap.size v v' V N ∧ V.map Sl.P = L ∧ Below w.heap.size w w'
/-- It lies in the block of another one. -/
def SubSl (A : Option Addr) (r : Sl) : Prop := ∀ a', r.A = some a' → ∃ a0, A = some a0 ∧ a'.block = a0.block
/-- .. and the parts lie in what was there. -/
def RefPartsPostO (A : Option Addr) (w : World) (L : List (List Nd)) (N : List ByteArray) (e : Ending) (w' : World) : Prop :=
  ∃ (v v' : Value) (V : List Sl), e = .returned (.tuple #[v, v']) ∧ TwoRows w' w.heap.size v v' V N ∧ V.map Sl.P = L ∧ Below w.heap.size w w' ∧ ∀ r ∈ V, SubSl A r
theorem addr_block (a : Addr) (k : Nat) : (a.add k).block = a.block := by unfold Addr.add; split <;> rfl
theorem apart_old {w w1 : World} {B n : Nat} {e : TypeId} {size : Nat} {v : Value} {xs : List Value} (h : w1.ownsRow B e size v n xs) {r : Sl} (hr : Ns w r.A r.n r.c r.P) (hB : w.heap.size ≤ B) : Apart r v.ownBlock := by
  intro h0 a ea q
  have := own_base h a.block q
  have := hr.at_.lt h0 a ea
  omega

/-- Lists of lists are alike. -/
def sameLs : List (List Nd) → List (List Nd) → Bool
  | [], [] => true
  | P :: r, Q :: s => decide (cmpNds P Q = 0) && sameLs r s
  | _, _ => false
theorem sameLs_self (L : List (List Nd)) : sameLs L L = true := by
  induction L with
  | nil => rfl
  | cons P L ih => simp [sameLs, ih, cmpNds_cmp.self]
end Go.Proofs.Ytlipgpddcfkllaa
