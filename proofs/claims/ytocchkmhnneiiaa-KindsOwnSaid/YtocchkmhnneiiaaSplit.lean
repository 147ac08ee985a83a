/-
  val.split: the parts of a set or a record, in new slices.
-/
import Derived.Test.YtocchkmhnneiiaaSls
import Derived.Test.YtocchkmhnneiiaaPartsLaw
namespace Go.Proofs.Ytocchkmhnneiiaa
open Go.RowKit Go.Wk Go.Sort
set_option maxRecDepth 100000

/-- What split tells. -/
def SplitPost (w : World) (L : List (List Nd)) (N : List ByteArray) (e : Ending) (w' : World) : Prop :=
  ∃ (v v' : Value) (V : List Sl), e = .returned (.tuple #[v, v']) ∧ OwnSls w' w.heap.size v V ∧ V.map Sl.P = L ∧ w'.ownsRow w.heap.size 9 1 v' N.length (N.map Value.string) ∧ (∀ r ∈ V, ∀ a, r.A = some a → w.heap.size < a.block) ∧ Below w.heap.size w w'
theorem own_mono {w : World} {B B' n : Nat} {e : TypeId} {size : Nat} {v : Value} {xs : List Value} (h : w.ownsRow B e size v n xs) (hB : B' ≤ B) : w.ownsRow B' e size v n xs := by
  refine ⟨h.1, ?_⟩
  rcases h.2 with h2 | ⟨g, cap, cur, hv, hg, r⟩
  · exact .inl h2
  · exact .inr ⟨g, cap, cur, hv, Nat.le_trans hB hg, r⟩
theorem OwnSls.mono {w : World} {B B' : Nat} {v : Value} {V : List Sl} (h : OwnSls w B v V) (hB : B' ≤ B) : OwnSls w B' v V := ⟨own_mono h.own hB, h.each, h.apart⟩
theorem RdAt.row {w w' : World} {R p : Nat} {v : Value} {g : Option Nat} (h : RdAt w R v p) (hg : w.grownBy w' g) (hne : some R ≠ g) : RdAt w' R v p :=
  ⟨hg.cell h.c0 hne, hg.cell h.c1 hne, (World.frozen?_of_block (w := w) (hg.block R h.lt hne)).trans h.f1⟩
/-- The slices lie behind a block. -/
def Later (R : Nat) (V : List Sl) : Prop := ∀ r ∈ V, ∀ a, r.A = some a → R < a.block
theorem Later.apart {R : Nat} {V : List Sl} (h : Later R V) : ∀ r ∈ V, Apart r (some R) := fun r hr _ a e q => by
  have := h r hr a e
  injection q with q
  omega
theorem Later.snoc {R : Nat} {V : List Sl} {r : Sl} (h : Later R V) (hr : ∀ a, r.A = some a → R < a.block) : Later R (V ++ [r]) := by
  intro x hx
  rcases List.mem_append.1 hx with h1 | h1
  · exact h x h1
  · simp only [List.mem_cons, List.not_mem_nil, or_false] at h1
    subst h1; exact hr
theorem own_ne {w : World} {B n : Nat} {e : TypeId} {size : Nat} {v : Value} {xs : List Value} (h : w.ownsRow B e size v n xs) {R : Nat} (hR : R < B) : v.ownBlock = none ∨ v.ownBlock ≠ some R := by
  rcases hv : v.ownBlock with _ | g
  · exact .inl rfl
  · have := own_base h g hv
    exact .inr (fun q => by injection q with q; omega)
theorem own_ne' {w : World} {B n : Nat} {e : TypeId} {size : Nat} {v : Value} {xs : List Value} (h : w.ownsRow B e size v n xs) {R : Nat} (hR : R < B) : some R ≠ v.ownBlock := by
  rcases own_ne h hR with h | h
  · rw [h]; simp
  · exact fun q => h q.symm
theorem ns_seg {w : World} {a : Addr} {n c : Nat} {P : List Nd} (h : Ns w (some a) n c P) {i j : Nat} (h1 : i ≤ j) (h2 : j ≤ n) : Ns w (some (a.add (i * 4))) (j - i) (c - i) (seg P i j) := by
  have := h.len
  have := h.cap
  have := h.max
  exact ⟨(seg_length (by omega)).symm, by omega, by omega, h.at_.seg i j, h.ok.seg i j⟩
theorem setLoop_inv {v : List Nd} {f : Nat → Option Nat} {N k : Nat} {q n : Nat} (hk : k < N) (h : ∃ lo, setLoop v f (N - k) lo q = some n) :
    ∃ e, f q = some e ∧ (∃ lo, setLoop v f (N - (k + 1)) lo e = some n) ∧ splitS v f (N - k) q = seg v q e :: splitS v f (N - (k + 1)) e := by
  obtain ⟨lo, h⟩ := h
  obtain ⟨j, hj⟩ : ∃ j, N - k = j + 1 := ⟨N - k - 1, by omega⟩
  rw [hj] at h
  rw [hj, show N - (k + 1) = j by omega]
  simp only [setLoop] at h
  rcases hf : f q with _ | e
  · rw [hf] at h; cases h
  · rw [hf] at h
    simp only at h
    split at h
    · exact ⟨e, rfl, ⟨_, h⟩, by simp only [splitS, hf]⟩
    · cases h

set_option maxHeartbeats 8000000 in
theorem split_set (A : Option Addr) (n c : Nat) (P : List Nd) (w : World) (h : Ns w A n c P) (hv : valFault P = 0) (h5 : headOp P = 5) :
    Calls Try.prog 42 #[.slice A n c] w (SplitPost w (setParts P) []) := by
  obtain ⟨i0, hi, hz0, hz1, hz2⟩ := info_parts slInfo
  obtain ⟨h200, hV⟩ := isV_zero.1 hv
  have hpos := hV.pos
  obtain ⟨a, rfl, D⟩ := h.at_.nd hpos
  have hn := h.len
  obtain ⟨hs0, _, hop, hx0, hN⟩ := set_loop hV h5
  have hE : setParts P = splitS P (partEnd P (P.length + 1)) P[0].n.toNat 1 := by unfold setParts; rw [hN]
  rw [hN] at hs0
  obtain ⟨-, -, -, hhi⟩ := h.ok.at hpos
  have K := Lib.hid (fun q w' (hb : Below w.heap.size w w') rd hq => val_part (some a) P n c w.heap.size hn h.cap h.max h.ok (fun h0 a' e => by have := h.at_.lt h0 a' e; omega) (P.length + 1) q w' rd (h.at_.keep hb) (by omega : n - q < P.length + 1))
  have HN := Lib.hid h
  have HL := Lib.hid hn
  have H0 := Lib.hid hs0
  have HE := Lib.hid hE
  rw [show a.add (0 * 4) = a from rfl] at D
  obtain ⟨d0, d1, d2, d3⟩ := D
  have r0 : RdAt (w.alloc (.cells #[.slice (some a) n c, .int .i64 1] 67)) w.heap.size (.slice (some a) n c) 1 := ⟨by simp, by simp, by simp⟩
  rw [hop] at d0
  have d1' := fun o : Obj => cell_keep (below_box w o) d1
  generalize P[0] = x at *
  have hn200 : n ≤ 200 := by omega
  have hn1 : 0 < n := by omega
  clear h hv h5 hV hn hs0 hE hN h200 hop
  go_enter Try.func42, Try.ntmps42
  go_wp2_with fail
  clear d1'
  go_loopw [2, 3, 12] (fun v v' i wr => ∃ (k q : Nat) (V : List Sl), i = .int .i64 k ∧ v' = .slice none 0 0 ∧ (k : Int) ≤ x.n ∧ q ≤ n ∧ k + 1 ≤ q ∧ V.length = k ∧ Hid (setParts P = V.map Sl.P ++ splitS P (partEnd P (P.length + 1)) (x.n.toNat - k) q) ∧
      Hid (∃ lo, setLoop P (partEnd P (P.length + 1)) (x.n.toNat - k) lo q = some P.length) ∧ Hid (OwnSls wr (w.heap.size + 1) v V) ∧ Hid (Later w.heap.size V) ∧ Hid (RdAt wr w.heap.size (.slice (some a) n c) q) ∧ Hid (Below w.heap.size w wr)) (fun _ _ i _ => (x.n - intOf i).toNat)
  case atStart => exact ⟨0, 1, [], rfl, rfl, hx0, hn1, by omega, rfl, HE.out, ⟨none, H0.out⟩, OwnSls.nil _ _, (by intro r hr; cases hr), r0, below_box _ _⟩
  case round =>
    obtain ⟨k, q, V, rfl, rfl, hk, hq, hkq, hVl, hE, hS, hO, hLt, hrd, hB⟩ := hrel
    have e0 := cell_keep hB.out d0
    by_cases hlt : (k : Int) < x.n
    · obtain ⟨e, hf, hS', hsp⟩ := setLoop_inv (by omega) hS.out
      have hle := partEnd_le _ _ _ hf
      rw [← HL.out] at hle
      have C := Lib.hid (K.out q wr hB.out hrd.out (by rw [← HL.out]; omega))
      rw [hf] at C
      have HE2 := Lib.hid (hE.out.trans (by rw [hsp] : _ = V.map Sl.P ++ (seg P q e :: splitS P (partEnd P (P.length + 1)) (x.n.toNat - (k + 1)) e)))
      have HS2 := Lib.hid hS'
      clear hE hS hS' hsp hf
      go_wp2_with fail
      refine C.out.mono ?_
      rintro e' w2 hpost
      obtain ⟨rfl, r2, g2⟩ := hpost
      have B2 := Lib.hid (hB.out.trans (below_of_grown g2 (Nat.le_refl _) hB.out.size))
      have O2 := hO.out.row g2 (own_ne hO.out.own (by omega)) hLt.out.apart
      have CL := Lib.hid (clone_nodes (a.add (q * 4)) (e - q) (c - q) (seg P q e) w2 (ns_seg (HN.out.keep B2.out) (by omega) hle.2) (by rw [seg_length (by rw [← HL.out]; omega)]; omega))
      have R2 := Lib.hid r2
      have OO2 := Lib.hid O2
      have hsz2 := B2.out.size
      have hsz3 : w.heap.size < w2.heap.size := R2.out.lt
      clear O2 r2 g2 hO hB hrd
      go_wp2_with fail
      refine CL.out.mono ?_
      rintro e' w3 hpost
      obtain ⟨A3, c3, rfl, n3, l3, b3⟩ := hpost
      have B3 := bh B2 b3
      have hO3 := OO2.out.keep b3
      have hR3 := R2.out.keep b3
      have O3 := Lib.hid hO3
      have R3 := Lib.hid hR3
      have N3 := Lib.hid (show Ns w3 (⟨A3, (seg P q e).length, c3, seg P q e⟩ : Sl).A _ _ _ from n3)
      have L3 := Lib.hid (hLt.out.snoc (r := ⟨A3, (seg P q e).length, c3, seg P q e⟩) (fun a' h' => by have := l3 a' h'; omega))
      have A3p : Hid (Apart ⟨A3, (seg P q e).length, c3, seg P q e⟩ u2.ownBlock) := by
        intro h0 a' e' q'
        have h1 := own_lt OO2.out.own a'.block q'
        have h2 := l3 a' e'
        omega
      have hsz4 := B3.out.size
      have hsz5 := b3.size
      clear b3 n3 l3 hO3 hR3 OO2 R2 B2 hLt
      go_wp2_with (at_builtin; refine wpList_append_own_at _ rfl _ _ 69 rfl (w.heap.size + 1) 22 i0 _ 1 24 Try.underlying69 hi hz0 hz1 hz2 rfl (by decide) _ V.length (V.map Sl.v) rfl (O3.out.own.alloc _) ⟨_, 0, none⟩ 1 1 [.slice A3 (seg P q e).length c3] rfl rfl (cell_one_new _ _ _) (by intro u hu; simp only [List.mem_cons, List.not_mem_nil, or_false] at hu; subst hu; rfl) ?c1 ?c2 ?c3 ?_)
      case c1 => unfold maxLen; omega
      case c2 => omega
      case c3 => simp; omega
      intro v1 w4 hown hgrow _ hat
      have B4 := Lib.hid ((B3.out.alloc B3.out.size _).grown hgrow (by simp; omega) (fun g hg => by have := own_base O3.out.own g hg; omega))
      have R4 := Lib.hid ((R3.out.keep (below_box w3 _)).row hgrow (own_ne' O3.out.own (by omega)))
      have O4 := Lib.hid (O3.out.snoc (r := ⟨A3, (seg P q e).length, c3, seg P q e⟩) N3.out A3p.out (by rw [hVl]; exact hown) hgrow (by simpa using hat))
      have HE4 := Lib.hid (HE2.out.trans (show _ = (V ++ [(⟨A3, (seg P q e).length, c3, seg P q e⟩ : Sl)]).map Sl.P ++ splitS P (partEnd P (P.length + 1)) (x.n.toNat - (k + 1)) e by simp))
      have hl4 : (V ++ [(⟨A3, (seg P q e).length, c3, seg P q e⟩ : Sl)]).length = k + 1 := by simp [hVl]
      clear hown hgrow hat O3 R3 N3 A3p HE2 B3
      go_wp2_with fail
      go_roundw
      case rel => exact ⟨k + 1, e, _, by go_num, rfl, by omega, by omega, by omega, hl4, HE4, HS2, O4, L3, R4, B4⟩
      case measure => simp [intOf]; omega
    · have HG := Lib.hid (hE.out.trans (show _ = V.map Sl.P by rw [show x.n.toNat - k = 0 by omega]; simp [splitS]))
      clear hE hS hrd
      go_wp2_with fail
      go_ret2
      exact ⟨_, _, V, rfl, hO.out.mono (by omega), HG.out.symm, World.ownsRow_nil _ _ _ 1, hLt.out, hB.out⟩
end Go.Proofs.Ytocchkmhnneiiaa
