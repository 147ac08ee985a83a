/-
  val.split at a record: the values and their names, each in a row of its own.
-/
import Derived.Test.YtocchkmhnneiiaaSplit
namespace Go.Wk
theorem recLoop_inv {v : List Nd} {f : Nat → Option Nat} {N k : Nat} {q n : Nat} (hk : k < N) (h : ∃ lo, recLoop v f (N - k) lo q = some n) :
    ∃ (hq : q < v.length) (e : Nat), f (q + 1) = some e ∧ (∃ lo, recLoop v f (N - (k + 1)) lo e = some n) ∧ splitR v f (N - k) q = (v[q].s, seg v (q + 1) e) :: splitR v f (N - (k + 1)) e := by
  obtain ⟨lo, h⟩ := h
  obtain ⟨j, hj⟩ : ∃ j, N - k = j + 1 := ⟨N - k - 1, by omega⟩
  rw [hj] at h
  rw [hj, show N - (k + 1) = j by omega]
  simp only [recLoop] at h
  by_cases hq : q < v.length
  · refine ⟨hq, ?_⟩
    split at h
    · cases h
    · rename_i s hs
      rcases hf : f (q + 1) with _ | e
      · rw [hf] at h; cases h
      · rw [hf] at h
        exact ⟨e, rfl, ⟨_, h⟩, by simp only [splitR, hf]; unfold nmAt; rw [List.getElem?_eq_getElem hq]⟩
  · rw [fieldOk_out (by omega)] at h; cases h
end Go.Wk
namespace Go.Proofs.Ytocchkmhnneiiaa
open Go.RowKit Go.Wk Go.Sort
set_option maxRecDepth 100000

/-- Two rows of the call's own: slices of nodes, and texts. -/
structure TwoRows (w : World) (B : Nat) (v v' : Value) (V : List Sl) (N : List ByteArray) : Prop where
  a : OwnSls w B v V
  b : w.ownsRow B 9 1 v' N.length (N.map Value.string)
  ab : v.ownBlock = none ∨ v.ownBlock ≠ v'.ownBlock
  ap : ∀ r ∈ V, Apart r v'.ownBlock
theorem TwoRows.keep {w w' : World} {B : Nat} {v v' : Value} {V : List Sl} {N : List ByteArray} (h : TwoRows w B v v' V N) (hb : Below w.heap.size w w') : TwoRows w' B v v' V N :=
  ⟨h.a.keep hb, own_kept_below h.b hb, h.ab, h.ap⟩
theorem TwoRows.other {w w' : World} {B R : Nat} {v v' : Value} {V : List Sl} {N : List ByteArray} (h : TwoRows w B v v' V N) (hg : w.grownBy w' (some R)) (hR : R < B) (hL : Later R V) : TwoRows w' B v v' V N :=
  ⟨h.a.row hg (own_ne h.a.own hR) hL.apart, h.b.kept hg (own_ne h.b hR), h.ab, h.ap⟩
theorem strInfo : (Try.prog.info? 9).map (fun i => (i.zero, i.size, i.bytes)) = some (some (.string ⟨#[]⟩), 1, 16) := by kernel_rfl
/-- A name more. -/
theorem TwoRows.name {w w' : World} {B : Nat} {v v' v1 : Value} {V : List Sl} {N : List ByteArray} {s : ByteArray} {o : Obj} (h : TwoRows w B v v' V N)
    (hown : w'.ownsRow B 9 1 v1 (N.length + 1) (N.map Value.string ++ [.string s])) (hg : (w.alloc o).grownBy w' v'.ownBlock) (hat : v1.ownBlock = v'.ownBlock ∨ v1.ownBlock = some (w.alloc o).heap.size) : TwoRows w' B v v1 V (N ++ [s]) := by
  have hba : Below w.heap.size w (w.alloc o) := below_box w o
  refine ⟨(h.a.keep hba).row hg h.ab h.ap, by simpa using hown, ?_, fun r hr h0 a e => ?_⟩
  · rcases hv : v.ownBlock with _ | g
    · exact .inl rfl
    · have hlt := own_lt h.a.own g hv
      refine .inr ?_
      rcases hat with q | q
      · rw [q, ← hv]
        rcases h.ab with z | z
        · rw [hv] at z; cases z
        · exact z
      · rw [q]; intro z; injection z with z; simp at z; omega
  · rcases hat with q | q
    · rw [q]; exact h.ap r hr h0 a e
    · rw [q]
      have := (h.a.each r hr).at_.lt h0 a e
      intro z; injection z with z; simp at z; omega
/-- A slice more. -/
theorem TwoRows.part {w w' : World} {B : Nat} {v v' v1 : Value} {V : List Sl} {N : List ByteArray} {r : Sl} {o : Obj} (h : TwoRows w B v v' V N) (hr : Ns w r.A r.n r.c r.P) (ha : Apart r v.ownBlock) (ha' : Apart r v'.ownBlock)
    (hown : w'.ownsRow B 22 1 v1 (V.length + 1) (V.map Sl.v ++ [r.v])) (hg : (w.alloc o).grownBy w' v.ownBlock) (hat : v1.ownBlock = v.ownBlock ∨ v1.ownBlock = some (w.alloc o).heap.size) : TwoRows w' B v1 v' (V ++ [r]) N := by
  have hba : Below w.heap.size w (w.alloc o) := below_box w o
  refine ⟨h.a.snoc hr ha hown hg hat, (own_kept_below h.b hba).kept hg ?_, ?_, ?_⟩
  · rcases h.ab with z | z
    · rw [z]; cases v'.ownBlock <;> simp
    · exact .inr (fun q => z q.symm)
  · rcases hv : v1.ownBlock with _ | g
    · exact .inl rfl
    · refine .inr ?_
      rcases hat with q | q
      · rcases h.ab with z | z
        · rw [hv, z] at q; cases q
        · rw [← hv, q]; exact z
      · intro z
        have := own_lt h.b g z.symm
        rw [hv] at q
        injection q with q
        simp at q
        omega
  · intro x hx
    rcases List.mem_append.1 hx with h1 | h1
    · exact h.ap x h1
    · simp only [List.mem_cons, List.not_mem_nil, or_false] at h1
      subst h1; exact ha'

set_option maxHeartbeats 8000000 in
theorem split_rec (A : Option Addr) (n c : Nat) (P : List Nd) (w : World) (h : Ns w A n c P) (hv : valFault P = 0) (h6 : headOp P = 6) :
    Calls Try.prog 42 #[.slice A n c] w (SplitPost w ((recParts P).map (·.2)) ((recParts P).map (·.1))) := by
  obtain ⟨i0, hi, hz0, hz1, hz2⟩ := info_parts slInfo
  obtain ⟨j0, hj, jz0, jz1, jz2⟩ := info_parts strInfo
  obtain ⟨h200, hV⟩ := isV_zero.1 hv
  have hpos := hV.pos
  obtain ⟨a, rfl, D⟩ := h.at_.nd hpos
  have hn := h.len
  obtain ⟨hs0, _, hop, hx0, hN⟩ := rec_loop hV h6
  have hE : recParts P = splitR P (partEnd P (P.length + 1)) P[0].n.toNat 1 := by unfold recParts; rw [hN]
  rw [hN] at hs0
  obtain ⟨-, -, -, hhi⟩ := h.ok.at hpos
  have K := Lib.hid (fun q w' (hb : Below w.heap.size w w') rd hq => val_part (some a) P n c w.heap.size hn h.cap h.max h.ok (fun h0 a' e => by have := h.at_.lt h0 a' e; omega) (P.length + 1) q w' rd (h.at_.keep hb) (by omega : n - q < P.length + 1))
  have HN := Lib.hid h
  have HL := Lib.hid hn
  have H0 := Lib.hid hs0
  have HE := Lib.hid hE
  rw [show a.add (0 * 4) = a from rfl] at D
  obtain ⟨d0, d1, d2, d3⟩ := D
  have r0 : RdAt (w.alloc (.cells #[.slice (some a) n c, .int .i64 1] 67)) w.heap.size (.slice (some a) n c) 1 := ⟨by simp, by simp, by simp⟩
  rw [hop] at d0
  have d1' := fun o : Obj => cell_keep (below_box w o) d1
  generalize P[0] = x at *
  have hn200 : n ≤ 200 := by omega
  have hn1 : 0 < n := by omega
  clear h hv h6 hV hn hs0 hE hN h200 hop
  go_enter Try.func42, Try.ntmps42
  go_wp2_with fail
  clear d1'
  go_loopw [2, 3, 12] (fun v v' i wr => ∃ (k q : Nat) (V : List Sl) (X : List (ByteArray × List Nd)), i = .int .i64 k ∧ (k : Int) ≤ x.n ∧ q ≤ n ∧ k + 1 ≤ q ∧ V.length = k ∧ X.length = k ∧ Hid (V.map Sl.P = X.map (·.2)) ∧ Hid (recParts P = X ++ splitR P (partEnd P (P.length + 1)) (x.n.toNat - k) q) ∧
      Hid (∃ lo, recLoop P (partEnd P (P.length + 1)) (x.n.toNat - k) lo q = some P.length) ∧ Hid (TwoRows wr (w.heap.size + 1) v v' V (X.map (·.1))) ∧ Hid (Later w.heap.size V) ∧ Hid (RdAt wr w.heap.size (.slice (some a) n c) q) ∧ Hid (Below w.heap.size w wr)) (fun _ _ i _ => (x.n - intOf i).toNat)
  case atStart => exact ⟨0, 1, [], [], rfl, hx0, hn1, by omega, rfl, rfl, rfl, HE.out, ⟨_, H0.out⟩, ⟨OwnSls.nil _ _, World.ownsRow_nil _ _ _ 1, .inl rfl, (by intro r hr; cases hr)⟩, (by intro r hr; cases hr), r0, below_box _ _⟩
  case round =>
    obtain ⟨k, q, V, X, rfl, hk, hq, hkq, hVl, hXl, hVX, hE, hS, hT, hLt, hrd, hB⟩ := hrel
    have e0 := cell_keep hB.out d0
    by_cases hlt : (k : Int) < x.n
    · obtain ⟨hq', e, hf, hS', hsp⟩ := recLoop_inv (by omega) hS.out
      have hle := partEnd_le _ _ _ hf
      rw [← HL.out] at hle
      have hqn : q < n := by omega
      obtain ⟨a', ha', ⟨-, -, q2, -⟩⟩ := (HN.out.at_.keep hB.out).nd hq'
      injection ha' with ha'
      subst ha'
      have HE2 := Lib.hid (hE.out.trans (by rw [hsp] : _ = X ++ ((P[q].s, seg P (q + 1) e) :: splitR P (partEnd P (P.length + 1)) (x.n.toNat - (k + 1)) e)))
      have HS2 := Lib.hid hS'
      have HF := Lib.hid hf
      have hsg : (seg P (q + 1) e).length = e - (q + 1) := seg_length (by rw [← HL.out]; omega)
      have HSG := Lib.hid hsg
      generalize P[q].s = nm at *
      obtain ⟨c0, c1, f1⟩ := hrd.out
      have hsz1 := hB.out.size
      have hRl := hrd.out.lt
      clear hE hS hS' hsp hf hsg
      go_wp2_with (at_builtin; refine wpList_append_own_at _ rfl _ _ 83 rfl (w.heap.size + 1) 9 j0 _ 1 16 Try.underlying83 hj jz0 jz1 jz2 rfl (by decide) _ (X.map (·.1)).length ((X.map (·.1)).map Value.string) rfl (hT.out.b.alloc _) ⟨_, 0, none⟩ 1 1 [.string nm] rfl rfl (cell_one_new _ _ _) (by intro u hu; simp only [List.mem_cons, List.not_mem_nil, or_false] at hu; subst hu; rfl) ?c1 ?c2 ?c3 ?_)
      case c1 => simp; unfold maxLen; omega
      case c2 => simp; omega
      case c3 => simp; omega
      intro v1 w1 hown hgrow _ hat
      have T1 := Lib.hid (hT.out.name (s := nm) (by simpa [hXl] using hown) hgrow (by simpa using hat))
      have B1 := Lib.hid ((hB.out.alloc hB.out.size _).grown hgrow (by simp; omega) (fun g hg => by have := own_base hT.out.b g hg; omega))
      have R1 := Lib.hid ((hrd.out.keep (below_box wr _)).row hgrow (own_ne' hT.out.b (by omega)))
      have R2 := Lib.hid (R1.out.put (q + 1))
      have T2 := Lib.hid (T1.out.other (R := w.heap.size) (grown_setCell w1 ⟨w.heap.size, 1, none⟩ (.int .i64 (q + 1 : Nat))) (by omega) hLt.out)
      have B2 := Lib.hid (B1.out.setCell (p := ⟨w.heap.size, 1, none⟩) (Nat.le_refl _) (.int .i64 (q + 1 : Nat)))
      have hRl1 := R1.out.lt
      obtain ⟨c0', c1', f1'⟩ := R1.out
      have C := Lib.hid (K.out (q + 1) _ B2.out R2.out (by rw [← HL.out]; omega))
      rw [HF.out] at C
      clear hown hgrow hat hT hB hrd c0 c1 f1 q2 T1 B1 R1
      go_wp2_with fail
      refine C.out.mono ?_
      rintro e' w3 hpost
      obtain ⟨rfl, r3, g3⟩ := hpost
      have B3 := Lib.hid (B2.out.trans (below_of_grown g3 (Nat.le_refl _) B2.out.size))
      have T3 := Lib.hid (T2.out.other g3 (by omega) hLt.out)
      have CL := Lib.hid (clone_nodes (a.add ((q + 1) * 4)) (e - (q + 1)) (c - (q + 1)) (seg P (q + 1) e) w3 (ns_seg (HN.out.keep B3.out) (by omega) hle.2) (by rw [HSG.out]; omega))
      have R3 := Lib.hid r3
      have hsz2 := B3.out.size
      have hsz3 : w.heap.size < w3.heap.size := R3.out.lt
      clear r3 g3 T2 B2 R2 c0' c1' f1'
      go_wp2_with fail
      refine CL.out.mono ?_
      rintro e' w4 hpost
      obtain ⟨A3, c3, rfl, n3, l3, b4⟩ := hpost
      have B4 := bh B3 b4
      have T4 := Lib.hid (T3.out.keep b4)
      have R4 := Lib.hid (R3.out.keep b4)
      have N4 := Lib.hid (show Ns w4 (⟨A3, (seg P (q + 1) e).length, c3, seg P (q + 1) e⟩ : Sl).A _ _ _ from n3)
      have L4 := Lib.hid (hLt.out.snoc (r := ⟨A3, (seg P (q + 1) e).length, c3, seg P (q + 1) e⟩) (fun a' h' => by have := l3 a' h'; omega))
      have A4 : Hid (Apart ⟨A3, (seg P (q + 1) e).length, c3, seg P (q + 1) e⟩ u2.ownBlock) := by
        intro h0 a' e' q'
        have h1 := own_lt T3.out.a.own a'.block q'
        have h2 := l3 a' e'
        omega
      have A5 : Hid (Apart ⟨A3, (seg P (q + 1) e).length, c3, seg P (q + 1) e⟩ v1.ownBlock) := by
        intro h0 a' e' q'
        have h1 := own_lt T3.out.b a'.block q'
        have h2 := l3 a' e'
        omega
      have hsz4 := B4.out.size
      have hsz5 := b4.size
      clear b4 n3 l3 T3 R3 B3 hLt
      go_wp2_with (at_builtin; refine wpList_append_own_at _ rfl _ _ 69 rfl (w.heap.size + 1) 22 i0 _ 1 24 Try.underlying69 hi hz0 hz1 hz2 rfl (by decide) _ V.length (V.map Sl.v) rfl (T4.out.a.own.alloc _) ⟨_, 0, none⟩ 1 1 [.slice A3 (seg P (q + 1) e).length c3] rfl rfl (cell_one_new _ _ _) (by intro u hu; simp only [List.mem_cons, List.not_mem_nil, or_false] at hu; subst hu; rfl) ?d1 ?d2 ?d3 ?_)
      case d1 => unfold maxLen; omega
      case d2 => omega
      case d3 => simp; omega
      intro v2 w5 hown hgrow _ hat
      have B5 := Lib.hid ((B4.out.alloc B4.out.size _).grown hgrow (by simp; omega) (fun g hg => by have := own_base T4.out.a.own g hg; omega))
      have R5 := Lib.hid ((R4.out.keep (below_box w4 _)).row hgrow (own_ne' T4.out.a.own (by omega)))
      have T5 := Lib.hid (T4.out.part (r := ⟨A3, (seg P (q + 1) e).length, c3, seg P (q + 1) e⟩) N4.out A4.out A5.out (by rw [hVl]; exact hown) hgrow (by simpa using hat))
      have HE5 := Lib.hid (HE2.out.trans (show _ = (X ++ [(nm, seg P (q + 1) e)]) ++ splitR P (partEnd P (P.length + 1)) (x.n.toNat - (k + 1)) e by simp))
      have hl5 : (V ++ [(⟨A3, (seg P (q + 1) e).length, c3, seg P (q + 1) e⟩ : Sl)]).length = k + 1 := by simp [hVl]
      have hl6 : (X ++ [(nm, seg P (q + 1) e)]).length = k + 1 := by simp [hXl]
      have HV5 := Lib.hid (show (V ++ [(⟨A3, (seg P (q + 1) e).length, c3, seg P (q + 1) e⟩ : Sl)]).map Sl.P = (X ++ [(nm, seg P (q + 1) e)]).map (·.2) by
        rw [List.map_append, List.map_append, hVX.out]; rfl)
      have T6 := Lib.hid (show TwoRows w5 (w.heap.size + 1) v2 v1 (V ++ [(⟨A3, (seg P (q + 1) e).length, c3, seg P (q + 1) e⟩ : Sl)]) ((X ++ [(nm, seg P (q + 1) e)]).map (·.1)) by
        rw [List.map_append]; exact T5.out)
      clear hown hgrow hat R4 N4 A4 A5 HE2 B4 T5
      go_wp2_with fail
      go_roundw
      case rel => exact ⟨k + 1, e, _, _, by go_num, by omega, by omega, by omega, hl5, hl6, HV5, HE5, HS2, T6, L4, R5, B5⟩
      case measure => simp [intOf]; omega
    · have HG := Lib.hid (hE.out.trans (show _ = X by rw [show x.n.toNat - k = 0 by omega]; simp [splitR]))
      clear hE hS hrd
      go_wp2_with fail
      go_ret2
      exact ⟨_, _, V, rfl, hT.out.a.mono (by omega), by rw [HG.out]; exact hVX.out, by rw [HG.out]; exact own_mono hT.out.b (by omega), hLt.out, hB.out⟩
end Go.Proofs.Ytocchkmhnneiiaa
