/-
  ValFields: the walk of the law.
-/
import Derived.Test.YtlipgpddcfkllaaRecOf
import Derived.Test.YtlipgpddcfkllaaParts
import Derived.Test.YtlipgpddcfkllaaValSame
import Derived.Test.YtlipgpddcfkllaaRefParts
namespace Go.Proofs.Ytlipgpddcfkllaa
open Go.RowKit Go.Wk Go.Sort
set_option maxRecDepth 100000

theorem get_rec {N : List ByteArray} {L : List (List Nd)} (h : Wk.recE N L = 0) {j : Nat} (h1 : j < N.length) (h2 : j < L.length) : getE (recV N L) N[j] = 0 ∧ getV (recV N L) N[j] = L[j] := by
  obtain ⟨a, b, c⟩ := recV_isV h
  obtain ⟨e1, e2, -⟩ := recE_zero.1 h
  obtain ⟨-, hnd, -⟩ := recChk_zero.1 e2
  have hz : j < (N.zip L).length := by simp; omega
  have hm : (N[j], L[j]) ∈ sortR (N.zip L) := (perm_sortR _).mem_iff.2 (by
    have : (N.zip L)[j] = (N[j], L[j]) := List.getElem_zip
    rw [← this]; exact List.getElem_mem hz)
  have hG : getR (recV N L) N[j] = some L[j] := by
    unfold getR
    rw [c]
    obtain ⟨k, hk, ek⟩ := List.getElem_of_mem hm
    have hrow := row_sortR hnd
    have := find_at (l := sortR (N.zip L)) (p := fun x => decide (cmpB x.1 N[j] = 0)) hk (by rw [ek]; simp [cmpB_cmp.self]) (fun i hi => by
      have hlt := List.pairwise_iff_getElem.1 hrow i k (by omega) hk hi
      rw [ek] at hlt
      dsimp only at hlt
      simp only [decide_eq_false_iff_not]
      intro e
      omega)
    rw [this, ek]; rfl
  have hE : getE (recV N L) N[j] = 0 := by unfold getE; rw [if_pos a, if_pos b, hG]; rfl
  exact ⟨hE, by unfold getV; rw [if_pos hE, hG]; rfl⟩
theorem drop_rev {α : Type} {l : List α} {j : Nat} (h : j < l.length) : (l.drop j).reverse = (l.drop (j + 1)).reverse ++ [l[j]] := by
  rw [List.drop_eq_getElem_cons h, List.reverse_cons]
theorem fields_fact : Wk.recE [⟨#[98]⟩, ⟨#[97]⟩] [[numN 1], [numN 2]] = 0 := by decide +kernel
theorem fields_factV : recV [⟨#[98]⟩, ⟨#[97]⟩] [[numN 1], [numN 2]] = [recHead 2, fieldN ⟨#[97]⟩, numN 2, fieldN ⟨#[98]⟩, numN 1] := (cmpNds_cmp.zero _ _).1 (by decide +kernel)

set_option maxHeartbeats 8000000 in
theorem ValFields_walk (A : Option Addr) (n c : Nat) (N : List ByteArray) (A' : Option Addr) (m c' : Nat) (V : List Sl) (w : World) (hn : n = N.length) (hn2 : n ≤ 5864062014634 * 2) (hT : TxAt w A N) (hz : ∀ x ∈ N, x.size ≤ maxLen) (hm : m = V.length) (hm2 : m ≤ 5864062014634) (hV : SlsAt w A' V) :
    Calls Try.prog 5 #[.slice A n c, .slice A' m c'] w fun e w' => e = .returned (.bool true) ∧ Below w.heap.size w w' := by
  obtain ⟨i0, hi, hz0, hz1, hz2⟩ := info_parts slInfo
  obtain ⟨j0, hj0, jz0, jz1, jz2⟩ := info_parts strInfo
  have HV := Lib.hid hV
  have HT := Lib.hid hT
  have HN := Lib.hid hn
  have HM := Lib.hid hm
  have HZ := Lib.hid hz
  have C2 := Lib.hid (fun w' hb => val_RecOf A n c N A' m c' V w' hn hn2 (hT.keep (w' := w') hb) hz hm hm2 (hV.keep (w' := w') hb))
  clear hV hT hn hm hz
  go_enter Try.func5, Try.ntmps5
  go_wp2_with fail
  have T0 := Lib.hid (show TxAt (w.alloc (.cells #[.string ⟨#[98]⟩, .string ⟨#[97]⟩] 9)) (some ⟨w.heap.size, 0, none⟩) [⟨#[98]⟩, ⟨#[97]⟩] from by
    intro k x hk
    rcases k with _ | _ | k
    · simp at hk; subst hk; exact ⟨_, rfl, by simp [Addr.add]⟩
    · simp at hk; subst hk; exact ⟨_, rfl, by simp [Addr.add]⟩
    · simp at hk)
  have B0 := Lib.hid (below_box w (.cells #[.string ⟨#[98]⟩, .string ⟨#[97]⟩] 9))
  obtain ⟨w0, hw0⟩ : ∃ w0, w.alloc (.cells #[.string ⟨#[98]⟩, .string ⟨#[97]⟩] 9) = w0 := ⟨_, rfl⟩
  rw [hw0] at T0 B0
  rw [hw0]
  clear hw0
  refine (law_num1 1 w0 (by omega) (by omega)).mono ?_
  rintro e w1 ⟨rfl, b1, N1⟩
  have B1 := bh B0 b1
  have hs01 := b1.size
  replace T0 := Lib.hid (T0.out.keep b1)
  have H1 := Lib.hid N1
  clear b1 N1 B0
  go_wp2_with fail
  refine (law_num1 2 w1 (by omega) (by omega)).mono ?_
  rintro e w2 ⟨rfl, b2, N2⟩
  have B2 := bh B1 b2
  have hs12 := b2.size
  replace T0 := Lib.hid (T0.out.keep b2)
  replace H1 := Lib.hid (H1.out.keep b2)
  have H2 := Lib.hid N2
  have hl1 := H1.out.at_.lt (by simp) _ rfl
  have hl2 := H2.out.at_.lt (by simp) _ rfl
  clear b2 N2 B1
  have F := Lib.hid (val_RecOf (some ⟨w.heap.size, 0, none⟩) 2 2 [⟨#[98]⟩, ⟨#[97]⟩] (some ⟨w2.heap.size, 0, none⟩) 2 2 [⟨some ⟨w0.heap.size, 0, none⟩, 1, 1, [numN 1]⟩, ⟨some ⟨w1.heap.size, 0, none⟩, 1, 1, [numN 2]⟩] (w2.alloc (.cells #[.slice (some ⟨w0.heap.size, 0, none⟩) 1 1, .slice (some ⟨w1.heap.size, 0, none⟩) 1 1] 35)) rfl (by omega)
    (T0.out.keep (below_box _ _)) (by intro x hx; simp at hx; rcases hx with rfl | rfl <;> decide) rfl (by omega)
    (sls_two (by simp [Sl.v]) (by simp [Sl.v]) (H1.out.keep (below_box _ _)) (H2.out.keep (below_box _ _))))
  have E0 : ([⟨some ⟨w0.heap.size, 0, none⟩, 1, 1, [numN 1]⟩, ⟨some ⟨w1.heap.size, 0, none⟩, 1, 1, [numN 2]⟩] : List Sl).map Sl.P = [[numN 1], [numN 2]] := rfl
  rw [E0] at F
  unfold RecPost at F
  rw [fields_fact, fields_factV, errV_zero] at F
  clear E0
  have B2a := Lib.hid (B2.out.alloc B2.out.size (.cells #[.slice (some ⟨w0.heap.size, 0, none⟩) 1 1, .slice (some ⟨w1.heap.size, 0, none⟩) 1 1] 35))
  go_wp2_with fail
  refine (F.out).mono ?_
  rintro e w3 ⟨A3, n3, c3, rfl, N3, b3⟩
  have B3 := bh B2a b3
  obtain ⟨a3, rfl, D3⟩ := N3.at_.nd (k := 1) (by simp)
  have hn3 : n3 = 5 := N3.len
  subst hn3
  have d1 : w3.cell? ⟨a3.block, a3.off + 4 + 2, none⟩ = some (.string ⟨#[97]⟩) := by have := D3.c2; simpa [Addr.add, fieldN] using this
  clear b3 B2 B2a F H1 H2 N3 D3 hl1 hl2 hs12 hs01 T0
  have C2' := Lib.hid (C2.out _ B3.out)
  unfold RecPost at C2'
  by_cases hE : Wk.recE N (V.map Sl.P) = 0
  · have HE := Lib.hid hE
    rw [hE, errV_zero] at C2'
    clear hE C2
    go_wp2_with fail
    refine (C2'.out).mono ?_
    rintro e w4 ⟨A4, n4, c4, rfl, N4, b4⟩
    have B4 := bh B3 b4
    have H4 := Lib.hid N4
    clear b4 B3 N4 C2'
    have C5 := Lib.hid (val_Check_ns H4.out)
    obtain ⟨W1, W2, W3⟩ := recV_isV HE.out
    rw [W1, errV_zero] at C5
    obtain ⟨X1, X2⟩ := recV_reverse HE.out
    have HX1 := Lib.hid X1
    have HX2 := Lib.hid X2
    have HG := Lib.hid (fun j (h1 : j < N.length) (h2 : j < (V.map Sl.P).length) => get_rec HE.out h1 h2)
    have hlen := (recE_zero.1 HE.out).1
    rw [← HN.out, List.length_map, ← HM.out] at hlen
    subst hlen
    clear W1 W2 W3 X1 X2
    go_wp2_with fail
    refine (C5.out).mono ?_
    rintro e w5 ⟨rfl, b5⟩
    have B5 := bh B4 b5
    replace H4 := Lib.hid (H4.out.keep b5)
    clear b5 B4
    clear C5
    generalize recV N (V.map Sl.P) = R at *
    go_wp2_with fail
    go_loopw [9, 10, 11, 12, 13, 14] (fun bk ot i _ _ _ wr => ∃ (j : Nat), j ≤ n ∧ i = .int .i64 ((j : Int) - 1) ∧ Hid (TwoRows wr w5.heap.size ot bk (V.drop j).reverse (N.drop j).reverse) ∧ Hid (Below w5.heap.size w5 wr)) (fun _ _ i _ _ _ _ => (intOf i + 1).toNat)
    case atStart =>
      refine ⟨n, Nat.le_refl _, rfl, Lib.hid ?_, Below.refl _ _⟩
      rw [List.drop_of_length_le (by rw [← HM.out]; exact Nat.le_refl _), List.drop_of_length_le (by rw [← HN.out]; exact Nat.le_refl _)]
      exact ⟨OwnSls.nil _ _, World.ownsRow_nil _ _ _ 1, .inl rfl, (by intro r hr; cases hr)⟩
    case round =>
      obtain ⟨j, hj, rfl, hT, hB⟩ := hrel
      have BB := bhid B5 hB (Nat.le_refl _)
      have H4r := Lib.hid (H4.out.keep hB.out)
      rcases j with _ | j
      · rw [show (((0 : Nat) : Int) - 1) = -1 from rfl]
        rw [List.drop_zero, List.drop_zero] at hT
        have eV : V.reverse.length = n := by rw [List.length_reverse, ← HM.out]
        have eN : N.reverse.length = n := by rw [List.length_reverse, ← HN.out]
        obtain ⟨A9, c9, hv9, -, hS9⟩ := hT.out.a.at
        rw [eV] at hv9
        subst hv9
        have hTb := hT.out.b
        rw [eN] at hTb
        obtain ⟨A8, c8, hv8, hc8⟩ := strs_of_own hTb
        subst hv8
        have C6 := Lib.hid (val_RecOf A8 n c8 N.reverse A9 n c9 V.reverse wr eN.symm (by omega)
          (fun k x hx => hc8 k (.string x) (by rw [List.getElem?_map, hx]; rfl)) (fun x hx => HZ.out x (List.mem_reverse.1 hx)) eV.symm (by omega) hS9)
        unfold RecPost at C6
        rw [List.map_reverse, HX1.out, HX2.out, errV_zero] at C6
        have B6 := BB
        clear hT hB BB hS9 hc8 B5 H4 eV eN hTb
        go_wp2_with fail
        refine (C6.out).mono ?_
        rintro e w7 ⟨A7, n7, c7, rfl, N7, b7⟩
        have B7 := bh B6 b7
        have H7 := Lib.hid N7
        replace H4r := Lib.hid (H4r.out.keep b7)
        clear b7 B6 N7 C6
        go_wp2_with fail
        refine (H7.out.alike2 H4r.out).mono ?_
        rintro e w8 ⟨rfl, b8⟩
        have B8 := bh B7 b8
        clear b8 B7 H7 H4r
        go_wp2_with fail
        go_ret
        exact ⟨rfl, B8.out⟩
      · have ej : (((j + 1 : Nat) : Int) - 1) = (j : Int) := by omega
        rw [ej]
        have hj1 : j < V.length := by rw [← HM.out]; omega
        have hj2 : j < N.length := by rw [← HN.out]; omega
        obtain ⟨b, rfl, q2, hs0⟩ := HV.out.at hj1
        obtain ⟨b', rfl, q1⟩ := HT.out j _ (List.getElem?_eq_getElem hj2)
        have Q1 := Lib.hid q1
        have Q2 := Lib.hid q2
        clear q1 q2
        have D1 := Lib.hid (drop_rev hj1)
        have D2 := Lib.hid (drop_rev hj2)
        have hl1 : (V.drop (j + 1)).reverse.length ≤ n := by rw [List.length_reverse, List.length_drop, ← HM.out]; omega
        have hl2 : (N.drop (j + 1)).reverse.length ≤ n := by rw [List.length_reverse, List.length_drop, ← HN.out]; omega
        obtain ⟨G1, G2⟩ := HG.out j hj2 (by rw [List.length_map]; exact hj1)
        rw [List.getElem_map] at G2
        have HS0 := Lib.hid hs0
        have C6 := Lib.hid (val_Get A4 n4 c4 R N[j] wr H4r.out)
        unfold GetPost at C6
        rw [G1, G2, errV_zero] at C6
        generalize V[j] = r at *
        generalize N[j] = s at *
        generalize (V.drop (j + 1)).reverse = U at *
        generalize (N.drop (j + 1)).reverse = M at *
        have N1 := Lib.hid (HS0.out.keep BB.out)
        have q1 := cell_keep BB.out Q1.out
        have q2 := cell_keep BB.out Q2.out
        clear hs0 ej G1 G2 H4r
        go_wp2_with fail
        refine (C6.out).mono ?_
        rintro e w7 ⟨A7, n7, c7, rfl, N7, -, b7⟩
        have B7 := bhid hB (Lib.hid b7) (Nat.le_refl _)
        have H7 := Lib.hid N7
        have p1 := cell_keep b7 q1
        have p2 := cell_keep b7 q2
        have N2 := Lib.hid (N1.out.keep b7)
        have T7 := Lib.hid (hT.out.keep b7)
        clear b7 N7 C6 q1 q2 N1 hT hB BB
        go_wp2_with fail
        refine (H7.out.alike2 N2.out).mono ?_
        rintro e w8 ⟨rfl, b8⟩
        have B8 := bhid B7 (Lib.hid b8) (Nat.le_refl _)
        have q1 := cell_keep b8 p1
        have q2 := cell_keep b8 p2
        have N3 := Lib.hid (N2.out.keep b8)
        have T8 := Lib.hid (T7.out.keep b8)
        have hs8 := B8.out.size
        clear b8 p1 p2 H7 N2 T7 B7
        go_wp2_with (at_builtin; refine wpList_append_own_at _ rfl _ _ 33 rfl w5.heap.size 9 j0 _ 1 16 Try.underlying33 hj0 jz0 jz1 jz2 rfl (by decide) _ M.length (M.map Value.string) rfl (T8.out.b.alloc _) ⟨_, 0, none⟩ 1 1 [.string s] rfl rfl (cell_one_new _ _ _) (by intro u hu; simp only [List.mem_cons, List.not_mem_nil, or_false] at hu; subst hu; rfl) ?d1 ?d2 ?d3 ?_)
        case d1 => unfold maxLen; omega
        case d2 => omega
        case d3 => simp; omega
        intro v9 w9 hown hgrow _ hat
        have T9 := Lib.hid (T8.out.name (s := s) hown hgrow (by simpa using hat))
        have B9 := Lib.hid ((B8.out.alloc B8.out.size _).grown hgrow (by simp; omega) (fun g hg => by have := own_base T8.out.b g hg; omega))
        have BB9 := bhid B5 B9 (Nat.le_refl _)
        have p2 := cell_keep BB9.out Q2.out
        have N4 := Lib.hid (HS0.out.keep BB9.out)
        have hs9 := B9.out.size
        have A1 := Lib.hid (show Apart r u10.ownBlock by
          intro h0 a' ea q'
          have := own_base T9.out.a.own a'.block q'
          have := HS0.out.at_.lt h0 a' ea
          have := B5.out.size
          omega)
        have A2 := Lib.hid (show Apart r v9.ownBlock by
          intro h0 a' ea q'
          have := own_base T9.out.b a'.block q'
          have := HS0.out.at_.lt h0 a' ea
          have := B5.out.size
          omega)
        clear hown hgrow hat T8 B8 q1 q2 N3 hs8
        go_wp2_with (at_builtin; refine wpList_append_own_at _ rfl _ _ 34 rfl w5.heap.size 35 i0 _ 1 24 Try.underlying34 hi hz0 hz1 hz2 rfl (by decide) _ U.length (U.map Sl.v) rfl (T9.out.a.own.alloc _) ⟨_, 0, none⟩ 1 1 [.slice r.A r.n r.c] rfl rfl (cell_one_new _ _ _) (by intro u hu; simp only [List.mem_cons, List.not_mem_nil, or_false] at hu; subst hu; rfl) ?e1 ?e2 ?e3 ?_)
        case e1 => unfold maxLen; omega
        case e2 => omega
        case e3 => simp; omega
        intro v10 w10 hown hgrow _ hat
        have T10 := Lib.hid (T9.out.part (r := r) N4.out A1.out A2.out hown hgrow (by simpa using hat))
        have B10 := Lib.hid ((B9.out.alloc hs9 _).grown hgrow (by simp; omega) (fun g hg => by have := own_base T9.out.a.own g hg; omega))
        rw [← D1.out, ← D2.out] at T10
        clear hown hgrow hat T9 B9 p2 N4 hs9 A1 A2
        go_wp2_with fail
        go_roundw
        case rel => exact ⟨j, by omega, rfl, T10, B10⟩
        case measure => simp [intOf]
  · rw [errV_ne hE] at C2'
    clear hE
    go_wp2_with fail
    refine (C2'.out).mono ?_
    rintro e w4 ⟨A4, n4, c4, rfl, -, b4⟩
    have B4 := bh B3 b4
    clear b4 B3
    go_wp2_with fail
    go_ret
    exact ⟨rfl, B4.out⟩
end Go.Proofs.Ytlipgpddcfkllaa
