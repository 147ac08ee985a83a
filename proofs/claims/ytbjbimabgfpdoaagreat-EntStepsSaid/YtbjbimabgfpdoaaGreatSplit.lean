/-
  val.split: the parts of a set or a record, in new slices.
-/
import Derived.Test.YtbjbimabgfpdoaaGreatSls
import Derived.Test.YtbjbimabgfpdoaaGreatPartsLaw
namespace Go.Proofs.YtbjbimabgfpdoaaGreat
open Go.RowKit Go.Wk Go.Sort
set_option maxRecDepth 100000

/-- What split tells. -/
def SplitPost (w : World) (L : List (List Nd)) (N : List ByteArray) (e : Ending) (w' : World) : Prop :=
  ∃ (v v' : Value) (V : List Sl), e = .returned (.tuple #[v, v']) ∧ OwnSls w' w.heap.size v V ∧ V.map Sl.P = L ∧ w'.ownsRow w.heap.size 9 1 v' N.length (N.map Value.string) ∧ (∀ r ∈ V, ∀ a, r.A = some a → w.heap.size < a.block) ∧ Below w.heap.size w w'
theorem own_mono {w : World} {B B' n : Nat} {e : TypeId} {size : Nat} {v : Value} {xs : List Value} (h : w.ownsRow B e size v n xs) (hB : B' ≤ B) : w.ownsRow B' e size v n xs := by
  refine ⟨h.1, ?_⟩
  rcases h.2 with h2 | ⟨g, cap, cur, hv, hg, r⟩
  · exact .inl h2
  · exact .inr ⟨g, cap, cur, hv, Nat.le_trans hB hg, r⟩
theorem OwnSls.mono {w : World} {B B' : Nat} {v : Value} {V : List Sl} (h : OwnSls w B v V) (hB : B' ≤ B) : OwnSls w B' v V := ⟨own_mono h.own hB, h.each, h.apart⟩
theorem RdAt.row {w w' : World} {R p : Nat} {v : Value} {g : Option Nat} (h : RdAt w R v p) (hg : w.grownBy w' g) (hne : some R ≠ g) : RdAt w' R v p :=
  ⟨hg.cell h.c0 hne, hg.cell h.c1 hne, (World.frozen?_of_block (w := w) (hg.block R h.lt hne)).trans h.f1⟩
/-- The slices lie behind a block. -/
def Later (R : Nat) (V : List Sl) : Prop := ∀ r ∈ V, ∀ a, r.A = some a → R < a.block
theorem Later.apart {R : Nat} {V : List Sl} (h : Later R V) : ∀ r ∈ V, Apart r (some R) := fun r hr _ a e q => by
  have := h r hr a e
  injection q with q
  omega
theorem Later.snoc {R : Nat} {V : List Sl} {r : Sl} (h : Later R V) (hr : ∀ a, r.A = some a → R < a.block) : Later R (V ++ [r]) := by
  intro x hx
  rcases List.mem_append.1 hx with h1 | h1
  · exact h x h1
  · simp only [List.mem_cons, List.not_mem_nil, or_false] at h1
    subst h1; exact hr
theorem own_ne {w : World} {B n : Nat} {e : TypeId} {size : Nat} {v : Value} {xs : List Value} (h : w.ownsRow B e size v n xs) {R : Nat} (hR : R < B) : v.ownBlock = none ∨ v.ownBlock ≠ some R := by
  rcases hv : v.ownBlock with _ | g
  · exact .inl rfl
  · have := own_base h g hv
    exact .inr (fun q => by injection q with q; omega)
theorem own_ne' {w : World} {B n : Nat} {e : TypeId} {size : Nat} {v : Value} {xs : List Value} (h : w.ownsRow B e size v n xs) {R : Nat} (hR : R < B) : some R ≠ v.ownBlock := by
  rcases own_ne h hR with h | h
  · rw [h]; simp
  · exact fun q => h q.symm
theorem ns_seg {w : World} {a : Addr} {n c : Nat} {P : List Nd} (h : Ns w (some a) n c P) {i j : Nat} (h1 : i ≤ j) (h2 : j ≤ n) : Ns w (some (a.add (i * 4))) (j - i) (c - i) (seg P i j) := by
  have := h.len
  have := h.cap
  have := h.max
  exact ⟨(seg_length (by omega)).symm, by omega, by omega, h.at_.seg i j, h.ok.seg i j⟩
theorem setLoop_inv {v : List Nd} {f : Nat → Option Nat} {N k : Nat} {q n : Nat} (hk : k < N) (h : ∃ lo, setLoop v f (N - k) lo q = some n) :
    ∃ e, f q = some e ∧ (∃ lo, setLoop v f (N - (k + 1)) lo e = some n) ∧ splitS v f (N - k) q = seg v q e :: splitS v f (N - (k + 1)) e := by
  obtain ⟨lo, h⟩ := h
  obtain ⟨j, hj⟩ : ∃ j, N - k = j + 1 := ⟨N - k - 1, by omega⟩
  rw [hj] at h
  rw [hj, show N - (k + 1) = j by omega]
  simp only [setLoop] at h
  rcases hf : f q with _ | e
  · rw [hf] at h; cases h
  · rw [hf] at h
    simp only at h
    split at h
    · exact ⟨e, rfl, ⟨_, h⟩, by simp only [splitS, hf]⟩
    · cases h

end Go.Proofs.YtbjbimabgfpdoaaGreat
