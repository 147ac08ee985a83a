/-
  The reference's Parts; lists of lists alike.
-/
import Derived.Test.YtfbgaefbalbohaaDoorParts
import Derived.Test.YtfbgaefbalbohaaDoorRefVal
namespace Go.Wk
/-- The names that the reference's Parts tells. -/
def prtN (P : List Nd) : List ByteArray := if headOp P = 5 then (setParts P).map (fun _ => ⟨#[]⟩) else (recParts P).map (·.1)
end Go.Wk
namespace Go.Proofs.YtfbgaefbalbohaaDoor
open Go.RowKit Go.Wk Go.Sort
set_option maxRecDepth 100000

def RefPartsPost (w : World) (L : List (List Nd)) (N : List ByteArray) (e : Ending) (w' : World) : Prop :=
  ∃ (v v' : Value) (V : List Sl), e = .returned (.tuple #[v, v']) ∧ TwoRows w' w.heap.size v v' V N ∧ V.map Sl.P = L ∧ Below w.heap.size w w'
/-- It lies in the block of another one. -/
def SubSl (A : Option Addr) (r : Sl) : Prop := ∀ a', r.A = some a' → ∃ a0, A = some a0 ∧ a'.block = a0.block
/-- .. and the parts lie in what was there. -/
def RefPartsPostO (A : Option Addr) (w : World) (L : List (List Nd)) (N : List ByteArray) (e : Ending) (w' : World) : Prop :=
  ∃ (v v' : Value) (V : List Sl), e = .returned (.tuple #[v, v']) ∧ TwoRows w' w.heap.size v v' V N ∧ V.map Sl.P = L ∧ Below w.heap.size w w' ∧ ∀ r ∈ V, SubSl A r
theorem addr_block (a : Addr) (k : Nat) : (a.add k).block = a.block := by unfold Addr.add; split <;> rfl
theorem apart_old {w w1 : World} {B n : Nat} {e : TypeId} {size : Nat} {v : Value} {xs : List Value} (h : w1.ownsRow B e size v n xs) {r : Sl} (hr : Ns w r.A r.n r.c r.P) (hB : w.heap.size ≤ B) : Apart r v.ownBlock := by
  intro h0 a ea q
  have := own_base h a.block q
  have := hr.at_.lt h0 a ea
  omega

set_option maxHeartbeats 8000000 in
theorem refParts_setO (A : Option Addr) (n c : Nat) (P : List Nd) (w : World) (h : Ns w A n c P) (hv : valFault P = 0) (h5 : headOp P = 5) :
    Calls Tryd.prog 23 #[.slice A n c] w (RefPartsPostO A w (setParts P) (prtN P)) := by
  obtain ⟨i0, hi, hz0, hz1, hz2⟩ := info_parts slInfo
  obtain ⟨j0, hj, jz0, jz1, jz2⟩ := info_parts strInfo
  obtain ⟨h200, hV⟩ := isV_zero.1 hv
  have hpos := hV.pos
  obtain ⟨a, rfl, D⟩ := h.at_.nd hpos
  have hn := h.len
  obtain ⟨hs0, _, hop, hx0, hN⟩ := set_loop hV h5
  have hE : setParts P = splitS P (partEnd P (P.length + 1)) P[0].n.toNat 1 := by unfold setParts; rw [hN]
  rw [hN] at hs0
  obtain ⟨-, -, -, hhi⟩ := h.ok.at hpos
  have K := Lib.hid (fun q w' (hb : Below w.heap.size w w') => (ref_end (some a) P n c hn h.cap h.max h.ok (P.length + 1)).1 q w' (h.at_.keep hb) (by omega))
  have HPN := Lib.hid (show prtN P = (setParts P).map (fun _ => ⟨#[]⟩) by unfold prtN; rw [if_pos h5])
  have HN := Lib.hid h
  have HL := Lib.hid hn
  have H0 := Lib.hid hs0
  have HE := Lib.hid hE
  rw [show a.add (0 * 4) = a from rfl] at D
  obtain ⟨d0, d1, d2, d3⟩ := D
  rw [hop] at d0
  have hcap := h.cap
  generalize P[0] = x at *
  have hn200 : n ≤ 200 := by omega
  have hn1 : 0 < n := by omega
  clear h hv h5 hV hn hs0 hE hN h200 hop d2 d3
  go_enter Tryd.func23, Tryd.ntmps23
  go_wp2_with fail
  go_loopw [4, 5, 6, 7, 8, 9] (fun v v' at_ i _ _ wr => ∃ (k q : Nat) (V : List Sl), i = .int .i64 k ∧ at_ = .int .i64 q ∧ (k : Int) ≤ x.n ∧ q ≤ n ∧ k + 1 ≤ q ∧ V.length = k ∧ Hid (setParts P = V.map Sl.P ++ splitS P (partEnd P (P.length + 1)) (x.n.toNat - k) q) ∧
      Hid (∃ lo, setLoop P (partEnd P (P.length + 1)) (x.n.toNat - k) lo q = some P.length) ∧ Hid (TwoRows wr w.heap.size v v' V (V.map fun _ => ⟨#[]⟩)) ∧ Hid (Below w.heap.size w wr) ∧ Hid (∀ r ∈ V, SubSl (some a) r)) (fun _ _ _ i _ _ _ => (x.n - intOf i).toNat)
  case atStart => exact ⟨0, 1, [], rfl, rfl, hx0, hn1, by omega, rfl, HE.out, ⟨none, H0.out⟩, ⟨OwnSls.nil _ _, World.ownsRow_nil _ _ _ 1, .inl rfl, (by intro r hr; cases hr)⟩, Below.refl _ _, (by intro r hr; cases hr)⟩
  case round =>
    obtain ⟨k, q, V, rfl, rfl, hk, hq, hkq, hVl, hE, hS, hT, hB, hOld⟩ := hrel
    have e0 := cell_keep hB.out d0
    have e1 := cell_keep hB.out d1
    by_cases hlt : (k : Int) < x.n
    · obtain ⟨e, hf, hS', hsp⟩ := setLoop_inv (by omega) hS.out
      have hle := partEnd_le _ _ _ hf
      rw [← HL.out] at hle
      have C := Lib.hid (K.out q wr hB.out)
      rw [hf] at C
      simp only [endI] at C
      have HE2 := Lib.hid (hE.out.trans (by rw [hsp] : _ = V.map Sl.P ++ (seg P q e :: splitS P (partEnd P (P.length + 1)) (x.n.toNat - (k + 1)) e)))
      have HS2 := Lib.hid hS'
      have hns := Lib.hid (ns_seg HN.out (show q ≤ e by omega) hle.2)
      clear hE hS hS' hsp hf
      go_wp2_with fail
      refine (C.out).mono ?_
      rintro e w1 ⟨rfl, b1⟩
      have B1 := bh hB b1
      have T1 := Lib.hid (hT.out.keep b1)
      have A1 := Lib.hid (apart_old (r := ⟨some (a.add (q * 4)), e - q, c - q, seg P q e⟩) T1.out.a.own hns.out (Nat.le_refl _))
      have A2 := Lib.hid (apart_old (r := ⟨some (a.add (q * 4)), e - q, c - q, seg P q e⟩) T1.out.b hns.out (Nat.le_refl _))
      have hsz1 := B1.out.size
      clear b1 hT hB e0 e1
      go_wp2_with (at_builtin; refine wpList_append_own_at _ rfl _ _ 30 rfl w.heap.size 31 i0 _ 1 24 Tryd.underlying30 hi hz0 hz1 hz2 rfl (by decide) _ V.length (V.map Sl.v) rfl (T1.out.a.own.alloc _) ⟨_, 0, none⟩ 1 1 [.slice (some (a.add (q * 4))) (e - q) (c - q)] rfl rfl (cell_one_new _ _ _) (by intro u hu; simp only [List.mem_cons, List.not_mem_nil, or_false] at hu; subst hu; rfl) ?c1 ?c2 ?c3 ?_)
      case c1 => unfold maxLen; omega
      case c2 => omega
      case c3 => simp; omega
      intro v1 w2 hown hgrow _ hat
      have T2 := Lib.hid (T1.out.part (r := ⟨some (a.add (q * 4)), e - q, c - q, seg P q e⟩) (hns.out.keep B1.out) A1.out A2.out (by rw [hVl]; exact hown) hgrow (by simpa using hat))
      have B2 := Lib.hid ((B1.out.alloc B1.out.size _).grown hgrow (by simp; omega) (fun g hg => by have := own_base T1.out.a.own g hg; omega))
      have hsz2 := B2.out.size
      clear hown hgrow hat A1 A2 T1 B1
      go_wp2_with (at_builtin; refine wpList_append_own_at _ rfl _ _ 40 rfl w.heap.size 9 j0 _ 1 16 Tryd.underlying40 hj jz0 jz1 jz2 rfl (by decide) _ (V.map fun _ => (⟨#[]⟩ : ByteArray)).length ((V.map fun _ => (⟨#[]⟩ : ByteArray)).map Value.string) rfl (T2.out.b.alloc _) ⟨_, 0, none⟩ 1 1 [.string ⟨#[]⟩] rfl rfl (cell_one_new _ _ _) (by intro u hu; simp only [List.mem_cons, List.not_mem_nil, or_false] at hu; subst hu; rfl) ?d1 ?d2 ?d3 ?_)
      case d1 => simp; unfold maxLen; omega
      case d2 => simp; omega
      case d3 => simp; omega
      intro v2 w3 hown hgrow _ hat
      have T3 := Lib.hid (T2.out.name (s := ⟨#[]⟩) (by simpa [hVl] using hown) hgrow (by simpa using hat))
      have B3 := Lib.hid ((B2.out.alloc B2.out.size _).grown hgrow (by simp; omega) (fun g hg => by have := own_base T2.out.b g hg; omega))
      have HE3 := Lib.hid (HE2.out.trans (show _ = (V ++ [(⟨some (a.add (q * 4)), e - q, c - q, seg P q e⟩ : Sl)]).map Sl.P ++ splitS P (partEnd P (P.length + 1)) (x.n.toNat - (k + 1)) e by simp))
      have T4 := Lib.hid (show TwoRows w3 w.heap.size v1 v2 (V ++ [(⟨some (a.add (q * 4)), e - q, c - q, seg P q e⟩ : Sl)]) ((V ++ [(⟨some (a.add (q * 4)), e - q, c - q, seg P q e⟩ : Sl)]).map fun _ => ⟨#[]⟩) by
        rw [List.map_append]; exact T3.out)
      have hl4 : (V ++ [(⟨some (a.add (q * 4)), e - q, c - q, seg P q e⟩ : Sl)]).length = k + 1 := by simp [hVl]
      have HO4 := Lib.hid (show ∀ r ∈ V ++ [(⟨some (a.add (q * 4)), e - q, c - q, seg P q e⟩ : Sl)], SubSl (some a) r from fun r hr => by
        rcases List.mem_append.1 hr with h1 | h1
        · exact hOld.out r h1
        · simp only [List.mem_cons, List.not_mem_nil, or_false] at h1
          subst h1
          intro a' ea
          injection ea with ea
          subst ea
          exact ⟨a, rfl, addr_block _ _⟩)
      clear hown hgrow hat HE2 B2 T2 T3 hOld
      go_wp2_with fail
      go_roundw
      case rel => exact ⟨k + 1, e, _, by go_num, rfl, by omega, by omega, by omega, hl4, HE3, HS2, T4, B3, HO4⟩
      case measure => simp [intOf]; omega
    · have HG := Lib.hid (hE.out.trans (show _ = V.map Sl.P by rw [show x.n.toNat - k = 0 by omega]; simp [splitS]))
      have HT := Lib.hid (show TwoRows wr w.heap.size u4 u5 V (prtN P) by
        rw [HPN.out, HG.out, List.map_map]; exact hT.out)
      clear hE hS hT
      go_wp2_with fail
      go_ret2
      exact ⟨_, _, V, rfl, HT.out, HG.out.symm, hB.out, hOld.out⟩

theorem refParts_set (A : Option Addr) (n c : Nat) (P : List Nd) (w : World) (h : Ns w A n c P) (hv : valFault P = 0) (h5 : headOp P = 5) :
    Calls Tryd.prog 23 #[.slice A n c] w (RefPartsPost w (setParts P) (prtN P)) :=
  (refParts_setO A n c P w h hv h5).mono fun _ _ ⟨v, v', V, q1, q2, q3, q4, _⟩ => ⟨v, v', V, q1, q2, q3, q4⟩

set_option maxHeartbeats 8000000 in
theorem refParts_rec (A : Option Addr) (n c : Nat) (P : List Nd) (w : World) (h : Ns w A n c P) (hv : valFault P = 0) (h6 : headOp P = 6) :
    Calls Tryd.prog 23 #[.slice A n c] w (RefPartsPost w ((recParts P).map (·.2)) (prtN P)) := by
  obtain ⟨i0, hi, hz0, hz1, hz2⟩ := info_parts slInfo
  obtain ⟨j0, hj, jz0, jz1, jz2⟩ := info_parts strInfo
  obtain ⟨h200, hV⟩ := isV_zero.1 hv
  have hpos := hV.pos
  obtain ⟨a, rfl, D⟩ := h.at_.nd hpos
  have hn := h.len
  obtain ⟨hs0, _, hop, hx0, hN⟩ := rec_loop hV h6
  have hE : recParts P = splitR P (partEnd P (P.length + 1)) P[0].n.toNat 1 := by unfold recParts; rw [hN]
  rw [hN] at hs0
  obtain ⟨-, -, -, hhi⟩ := h.ok.at hpos
  have K := Lib.hid (fun q w' (hb : Below w.heap.size w w') => (ref_end (some a) P n c hn h.cap h.max h.ok (P.length + 1)).1 q w' (h.at_.keep hb) (by omega))
  have HPN := Lib.hid (show prtN P = (recParts P).map (·.1) by unfold prtN; rw [if_neg (by omega)])
  have HN := Lib.hid h
  have HL := Lib.hid hn
  have H0 := Lib.hid hs0
  have HE := Lib.hid hE
  rw [show a.add (0 * 4) = a from rfl] at D
  obtain ⟨d0, d1, d2, d3⟩ := D
  rw [hop] at d0
  have hcap := h.cap
  generalize P[0] = x at *
  have hn200 : n ≤ 200 := by omega
  have hn1 : 0 < n := by omega
  clear h hv h6 hV hn hs0 hE hN h200 hop d2 d3
  go_enter Tryd.func23, Tryd.ntmps23
  go_wp2_with fail
  go_loopw [4, 5, 6, 7, 8, 9] (fun v v' at_ i _ _ wr => ∃ (k q : Nat) (V : List Sl) (X : List (ByteArray × List Nd)), i = .int .i64 k ∧ at_ = .int .i64 q ∧ (k : Int) ≤ x.n ∧ q ≤ n ∧ k + 1 ≤ q ∧ V.length = k ∧ X.length = k ∧ Hid (V.map Sl.P = X.map (·.2)) ∧ Hid (recParts P = X ++ splitR P (partEnd P (P.length + 1)) (x.n.toNat - k) q) ∧
      Hid (∃ lo, recLoop P (partEnd P (P.length + 1)) (x.n.toNat - k) lo q = some P.length) ∧ Hid (TwoRows wr w.heap.size v v' V (X.map (·.1))) ∧ Hid (Below w.heap.size w wr)) (fun _ _ _ i _ _ _ => (x.n - intOf i).toNat)
  case atStart => exact ⟨0, 1, [], [], rfl, rfl, hx0, hn1, by omega, rfl, rfl, rfl, HE.out, ⟨_, H0.out⟩, ⟨OwnSls.nil _ _, World.ownsRow_nil _ _ _ 1, .inl rfl, (by intro r hr; cases hr)⟩, Below.refl _ _⟩
  case round =>
    obtain ⟨k, q, V, X, rfl, rfl, hk, hq, hkq, hVl, hXl, hVX, hE, hS, hT, hB⟩ := hrel
    have e0 := cell_keep hB.out d0
    have e1 := cell_keep hB.out d1
    by_cases hlt : (k : Int) < x.n
    · obtain ⟨hq', e, hf, hS', hsp⟩ := recLoop_inv (by omega) hS.out
      have hle := partEnd_le _ _ _ hf
      rw [← HL.out] at hle
      have hqn : q < n := by omega
      obtain ⟨a', ha', ⟨-, -, q2, -⟩⟩ := (HN.out.at_.keep hB.out).nd hq'
      injection ha' with ha'
      subst ha'
      have C : Hid (Calls Tryd.prog 55 #[.slice (some a) n c, .int .i64 ((q : Int) + 1), .bool false] wr fun e' w' => e' = .returned (.int .i64 e) ∧ Below wr.heap.size wr w') := Lib.hid (by
        have := K.out (q + 1) wr hB.out
        rw [hf] at this
        simpa [endI] using this)
      have HE2 := Lib.hid (hE.out.trans (by rw [hsp] : _ = X ++ ((P[q].s, seg P (q + 1) e) :: splitR P (partEnd P (P.length + 1)) (x.n.toNat - (k + 1)) e)))
      have HS2 := Lib.hid hS'
      have hns := Lib.hid (ns_seg HN.out (show q + 1 ≤ e by omega) hle.2)
      generalize P[q].s = nm at *
      clear hE hS hS' hsp hf
      go_wp2_with fail
      refine (C.out).mono ?_
      rintro e w1 ⟨rfl, b1⟩
      have B1 := bh hB b1
      have T1 := Lib.hid (hT.out.keep b1)
      have A1 := Lib.hid (apart_old (r := ⟨some (a.add ((q + 1) * 4)), e - (q + 1), c - (q + 1), seg P (q + 1) e⟩) T1.out.a.own hns.out (Nat.le_refl _))
      have A2 := Lib.hid (apart_old (r := ⟨some (a.add ((q + 1) * 4)), e - (q + 1), c - (q + 1), seg P (q + 1) e⟩) T1.out.b hns.out (Nat.le_refl _))
      have hsz1 := B1.out.size
      clear b1 hT hB e0 e1 q2
      go_wp2_with (at_builtin; refine wpList_append_own_at _ rfl _ _ 30 rfl w.heap.size 31 i0 _ 1 24 Tryd.underlying30 hi hz0 hz1 hz2 rfl (by decide) _ V.length (V.map Sl.v) rfl (T1.out.a.own.alloc _) ⟨_, 0, none⟩ 1 1 [.slice (some (a.add ((q + 1) * 4))) (e - (q + 1)) (c - (q + 1))] rfl rfl (cell_one_new _ _ _) (by intro u hu; simp only [List.mem_cons, List.not_mem_nil, or_false] at hu; subst hu; rfl) ?c1 ?c2 ?c3 ?_)
      case c1 => unfold maxLen; omega
      case c2 => omega
      case c3 => simp; omega
      intro v1 w2 hown hgrow _ hat
      have T2 := Lib.hid (T1.out.part (r := ⟨some (a.add ((q + 1) * 4)), e - (q + 1), c - (q + 1), seg P (q + 1) e⟩) (hns.out.keep B1.out) A1.out A2.out (by rw [hVl]; exact hown) hgrow (by simpa using hat))
      have B2 := Lib.hid ((B1.out.alloc B1.out.size _).grown hgrow (by simp; omega) (fun g hg => by have := own_base T1.out.a.own g hg; omega))
      have hsz2 := B2.out.size
      clear hown hgrow hat A1 A2 T1 B1
      go_wp2_with (at_builtin; refine wpList_append_own_at _ rfl _ _ 40 rfl w.heap.size 9 j0 _ 1 16 Tryd.underlying40 hj jz0 jz1 jz2 rfl (by decide) _ (X.map (·.1)).length ((X.map (·.1)).map Value.string) rfl (T2.out.b.alloc _) ⟨_, 0, none⟩ 1 1 [.string nm] rfl rfl (cell_one_new _ _ _) (by intro u hu; simp only [List.mem_cons, List.not_mem_nil, or_false] at hu; subst hu; rfl) ?d1 ?d2 ?d3 ?_)
      case d1 => simp; unfold maxLen; omega
      case d2 => simp; omega
      case d3 => simp; omega
      intro v2 w3 hown hgrow _ hat
      have T3 := Lib.hid (T2.out.name (s := nm) (by simpa [hXl] using hown) hgrow (by simpa using hat))
      have B3 := Lib.hid ((B2.out.alloc B2.out.size _).grown hgrow (by simp; omega) (fun g hg => by have := own_base T2.out.b g hg; omega))
      have HE3 := Lib.hid (HE2.out.trans (show _ = (X ++ [(nm, seg P (q + 1) e)]) ++ splitR P (partEnd P (P.length + 1)) (x.n.toNat - (k + 1)) e by simp))
      have T4 := Lib.hid (show TwoRows w3 w.heap.size v1 v2 (V ++ [(⟨some (a.add ((q + 1) * 4)), e - (q + 1), c - (q + 1), seg P (q + 1) e⟩ : Sl)]) ((X ++ [(nm, seg P (q + 1) e)]).map (·.1)) by
        rw [List.map_append]; exact T3.out)
      have hl4 : (V ++ [(⟨some (a.add ((q + 1) * 4)), e - (q + 1), c - (q + 1), seg P (q + 1) e⟩ : Sl)]).length = k + 1 := by simp [hVl]
      have hl6 : (X ++ [(nm, seg P (q + 1) e)]).length = k + 1 := by simp [hXl]
      have HV5 := Lib.hid (show (V ++ [(⟨some (a.add ((q + 1) * 4)), e - (q + 1), c - (q + 1), seg P (q + 1) e⟩ : Sl)]).map Sl.P = (X ++ [(nm, seg P (q + 1) e)]).map (·.2) by
        rw [List.map_append, List.map_append, hVX.out]; rfl)
      clear hown hgrow hat HE2 B2 T2 T3
      go_wp2_with fail
      go_roundw
      case rel => exact ⟨k + 1, e, _, _, by go_num, rfl, by omega, by omega, by omega, hl4, hl6, HV5, HE3, HS2, T4, B3⟩
      case measure => simp [intOf]; omega
    · have HG := Lib.hid (hE.out.trans (show _ = X by rw [show x.n.toNat - k = 0 by omega]; simp [splitR]))
      have HT := Lib.hid (show TwoRows wr w.heap.size u4 u5 V (prtN P) by
        rw [HPN.out, HG.out]; exact hT.out)
      clear hE hS hT
      go_wp2_with fail
      go_ret2
      exact ⟨_, _, V, rfl, HT.out, by rw [HG.out]; exact hVX.out, hB.out⟩
theorem ref_Parts (A : Option Addr) (n c : Nat) (P : List Nd) (w : World) (h : Ns w A n c P) (hE : prtE P = 0) :
    Calls Tryd.prog 23 #[.slice A n c] w (RefPartsPost w (prtL P) (prtN P)) := by
  have hv : valFault P = 0 := by
    unfold prtE at hE
    by_cases h0 : valFault P = 0
    · exact h0
    · rw [if_neg h0] at hE; exact absurd hE h0
  by_cases h5 : headOp P = 5
  · have : prtL P = setParts P := by unfold prtL; rw [if_pos hE, if_pos h5]
    rw [this]; exact refParts_set A n c P w h hv h5
  · have h6 : headOp P = 6 := by
      unfold prtE at hE
      rw [if_pos hv] at hE
      by_cases h6 : headOp P = 6
      · exact h6
      · rw [if_neg (by omega)] at hE; omega
    have : prtL P = (recParts P).map (·.2) := by unfold prtL; rw [if_pos hE, if_neg h5]
    rw [this]; exact refParts_rec A n c P w h hv h6

/-- Lists of lists are alike. -/
def sameLs : List (List Nd) → List (List Nd) → Bool
  | [], [] => true
  | P :: r, Q :: s => decide (cmpNds P Q = 0) && sameLs r s
  | _, _ => false
theorem sameLs_self (L : List (List Nd)) : sameLs L L = true := by
  induction L with
  | nil => rfl
  | cons P L ih => simp [sameLs, ih, cmpNds_cmp.self]
end Go.Proofs.YtfbgaefbalbohaaDoor
