/-
  val.split at a record: the values and their names, each in a row of its own.
-/
import Derived.Test.YtbjbimabgfpdoaaGreatSplit
namespace Go.Wk
theorem recLoop_inv {v : List Nd} {f : Nat → Option Nat} {N k : Nat} {q n : Nat} (hk : k < N) (h : ∃ lo, recLoop v f (N - k) lo q = some n) :
    ∃ (hq : q < v.length) (e : Nat), f (q + 1) = some e ∧ (∃ lo, recLoop v f (N - (k + 1)) lo e = some n) ∧ splitR v f (N - k) q = (v[q].s, seg v (q + 1) e) :: splitR v f (N - (k + 1)) e := by
  obtain ⟨lo, h⟩ := h
  obtain ⟨j, hj⟩ : ∃ j, N - k = j + 1 := ⟨N - k - 1, by omega⟩
  rw [hj] at h
  rw [hj, show N - (k + 1) = j by omega]
  simp only [recLoop] at h
  by_cases hq : q < v.length
  · refine ⟨hq, ?_⟩
    split at h
    · cases h
    · rename_i s hs
      rcases hf : f (q + 1) with _ | e
      · rw [hf] at h; cases h
      · rw [hf] at h
        exact ⟨e, rfl, ⟨_, h⟩, by simp only [splitR, hf]; unfold nmAt; rw [List.getElem?_eq_getElem hq]⟩
  · rw [fieldOk_out (by omega)] at h; cases h
end Go.Wk
namespace Go.Proofs.YtbjbimabgfpdoaaGreat
open Go.RowKit Go.Wk Go.Sort
set_option maxRecDepth 100000

/-- Two rows of the call's own: slices of nodes, and texts. -/
structure TwoRows (w : World) (B : Nat) (v v' : Value) (V : List Sl) (N : List ByteArray) : Prop where
  a : OwnSls w B v V
  b : w.ownsRow B 9 1 v' N.length (N.map Value.string)
  ab : v.ownBlock = none ∨ v.ownBlock ≠ v'.ownBlock
  ap : ∀ r ∈ V, Apart r v'.ownBlock
theorem TwoRows.keep {w w' : World} {B : Nat} {v v' : Value} {V : List Sl} {N : List ByteArray} (h : TwoRows w B v v' V N) (hb : Below w.heap.size w w') : TwoRows w' B v v' V N :=
  ⟨h.a.keep hb, own_kept_below h.b hb, h.ab, h.ap⟩
theorem TwoRows.other {w w' : World} {B R : Nat} {v v' : Value} {V : List Sl} {N : List ByteArray} (h : TwoRows w B v v' V N) (hg : w.grownBy w' (some R)) (hR : R < B) (hL : Later R V) : TwoRows w' B v v' V N :=
  ⟨h.a.row hg (own_ne h.a.own hR) hL.apart, h.b.kept hg (own_ne h.b hR), h.ab, h.ap⟩
theorem strInfo : (Tryz.prog.info? 9).map (fun i => (i.zero, i.size, i.bytes)) = some (some (.string ⟨#[]⟩), 1, 16) := by kernel_rfl
/-- A name more. -/
theorem TwoRows.name {w w' : World} {B : Nat} {v v' v1 : Value} {V : List Sl} {N : List ByteArray} {s : ByteArray} {o : Obj} (h : TwoRows w B v v' V N)
    (hown : w'.ownsRow B 9 1 v1 (N.length + 1) (N.map Value.string ++ [.string s])) (hg : (w.alloc o).grownBy w' v'.ownBlock) (hat : v1.ownBlock = v'.ownBlock ∨ v1.ownBlock = some (w.alloc o).heap.size) : TwoRows w' B v v1 V (N ++ [s]) := by
  have hba : Below w.heap.size w (w.alloc o) := below_box w o
  refine ⟨(h.a.keep hba).row hg h.ab h.ap, by simpa using hown, ?_, fun r hr h0 a e => ?_⟩
  · rcases hv : v.ownBlock with _ | g
    · exact .inl rfl
    · have hlt := own_lt h.a.own g hv
      refine .inr ?_
      rcases hat with q | q
      · rw [q, ← hv]
        rcases h.ab with z | z
        · rw [hv] at z; cases z
        · exact z
      · rw [q]; intro z; injection z with z; simp at z; omega
  · rcases hat with q | q
    · rw [q]; exact h.ap r hr h0 a e
    · rw [q]
      have := (h.a.each r hr).at_.lt h0 a e
      intro z; injection z with z; simp at z; omega
/-- A slice more. -/
theorem TwoRows.part {w w' : World} {B : Nat} {v v' v1 : Value} {V : List Sl} {N : List ByteArray} {r : Sl} {o : Obj} (h : TwoRows w B v v' V N) (hr : Ns w r.A r.n r.c r.P) (ha : Apart r v.ownBlock) (ha' : Apart r v'.ownBlock)
    (hown : w'.ownsRow B 31 1 v1 (V.length + 1) (V.map Sl.v ++ [r.v])) (hg : (w.alloc o).grownBy w' v.ownBlock) (hat : v1.ownBlock = v.ownBlock ∨ v1.ownBlock = some (w.alloc o).heap.size) : TwoRows w' B v1 v' (V ++ [r]) N := by
  have hba : Below w.heap.size w (w.alloc o) := below_box w o
  refine ⟨h.a.snoc hr ha hown hg hat, (own_kept_below h.b hba).kept hg ?_, ?_, ?_⟩
  · rcases h.ab with z | z
    · rw [z]; cases v'.ownBlock <;> simp
    · exact .inr (fun q => z q.symm)
  · rcases hv : v1.ownBlock with _ | g
    · exact .inl rfl
    · refine .inr ?_
      rcases hat with q | q
      · rcases h.ab with z | z
        · rw [hv, z] at q; cases q
        · rw [← hv, q]; exact z
      · intro z
        have := own_lt h.b g z.symm
        rw [hv] at q
        injection q with q
        simp at q
        omega
  · intro x hx
    rcases List.mem_append.1 hx with h1 | h1
    · exact h.ap x h1
    · simp only [List.mem_cons, List.not_mem_nil, or_false] at h1
      subst h1; exact ha'

end Go.Proofs.YtbjbimabgfpdoaaGreat
