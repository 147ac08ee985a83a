/-
  SchemaWider: the walk of the law.
  SchemaWider: the closed facts of the frame, one by one.
  SchemaWider: the frame round the walk: for every input the law returns true, and each argument reads behind the call as it read before. No condition.
-/
import Derived.Laws.OwnMore
import Derived.SevenTiedAt
import Derived.Test.YtnolmlhcikcceaaGreatDoorRows
import Derived.Test.YtnolmlhcikcceaaGreatDoorCards
import Derived.Test.YtnolmlhcikcceaaGreatDoorTie
import Derived.Test.YtnolmlhcikcceaaGreatDoorQs31
namespace Go.Proofs.YtnolmlhcikcceaaGreatDoor
open Go.RowKit Go.Wk Go.Sort
set_option maxRecDepth 100000

/-- A kind with another type. -/
def Kn.with_ (x : Kn) (A : Option Addr) (n c : Nat) (T : List Nd) : Kn := ⟨⟨x.d.nm, x.d.up, T⟩, x.UA, x.un, x.uc, A, n, c⟩
theorem knCells_set : ∀ (K : List Kn) (k : Nat) (x : Kn), K[k]? = some x → ∀ (A : Option Addr) (n c : Nat) (T : List Nd), (knCells K).set (k * 3 + 2) (.slice A n c) = knCells (K.set k (x.with_ A n c T))
  | [], k, x, h, A, n, c, T => by simp at h
  | y :: r, 0, x, h, A, n, c, T => by
    simp at h; subst h
    simp [knCells, Kn.with_]
  | y :: r, k + 1, x, h, A, n, c, T => by
    rw [show (k + 1) * 3 + 2 = (k * 3 + 2) + 1 + 1 + 1 by omega]
    simp only [knCells, List.set_cons_succ]
    rw [knCells_set r k x (by simpa using h) A n c T]
theorem with_wide : ∀ (K : List Kn) (k : Nat) (x : Kn), K[k]? = some x → ∀ (A : Option Addr) (n c : Nat) (T : List Nd), (K.set k (x.with_ A n c T)).map Kn.d = wideK (K.map Kn.d) k T
  | [], k, x, h, A, n, c, T => by simp at h
  | y :: r, 0, x, h, A, n, c, T => by
    simp at h; subst h
    rfl
  | y :: r, k + 1, x, h, A, n, c, T => by
    simp only [List.set_cons_succ, List.map_cons, wideK]
    rw [with_wide r k x (by simpa using h) A n c T]
theorem set_ok {w : World} {K : List Kn} {k : Nat} {x : Kn} (h : ∀ y ∈ K, KnOk w y) (hx : KnOk w x) : ∀ y ∈ K.set k x, KnOk w y := fun y hy => by
  rcases List.mem_or_eq_of_mem_set hy with hy | rfl
  · exact h y hy
  · exact hx
set_option maxHeartbeats 4000000 in
theorem SchemaWider_no (s : Sc) (A : Option Addr) (n c : Nat) (E : List En) (k : Int) (A3 : Option Addr) (n3 c3 : Nat) (w : World) (hs : ScOk w s) (hE : Es w A n c E) (hg : Door w) (h : ¬ (stoF s.k s.a E = 0 ∧ 0 ≤ k ∧ k < s.kn)) :
    Calls Tryz.prog 3 #[s.v, .slice A n c, .int .i64 k, .slice A3 n3 c3] w fun e w' => e = .returned (.bool true) ∧ Below w.heap.size w w' := by
  have V0 := Lib.hid (vs_new w s 25)
  have B0 := Lib.hid (below_box w (.cells #[.slice s.KA s.kn s.kc, .slice s.AA s.an s.ac] 25))
  have C3 := Lib.hid (fun w' (hb : Below w.heap.size w w') => schema_Store s A n c E w' (hs.keep hb) (hE.keep hb))
  have C7 := Lib.hid (law_lostN (w.alloc (.cells #[.slice s.KA s.kn s.kc, .slice s.AA s.an s.ac] 25)) (w.heap.size + 1) (by simp))
  have HE : Hid (∀ n k w', Below w.heap.size w w' → Calls Tryz.prog 8 #[errV n, .int .i64 k] w' fun e w'' => e = .returned (.bool (n == k)) ∧ Below w'.heap.size w' w'') := Lib.hid (fun n k w' hb => same_Error n k w' (hg.keep hb))
  have hkx := hs.k.max
  unfold maxLen at hkx
  unfold Sc.v at C3 ⊢
  clear hs hE hg
  go_enter Tryz.func3, Tryz.ntmps3
  go_wp2_with fail
  refine C7.out.mono ?_
  rintro e w1 ⟨rfl, b1⟩
  have B1 := bh B0 b1
  have V1 := Lib.hid (V0.out.keep b1)
  clear b1 B0 V0
  go_wp2_with fail
  refine (HE.out _ _ _ B1.out).mono ?_
  rintro e w2 ⟨rfl, b2⟩
  have B2 := bh B1 b2
  have V2 := Lib.hid (V1.out.keep b2)
  clear b2 B1 V1 C7 HE
  rw [beq_self_eq_true]
  obtain ⟨v0, v1⟩ := V2.out
  go_wp2_with fail
  refine (C3.out _ B2.out).mono ?_
  rintro e w3 ⟨rfl, b3⟩
  have B3 := bh B2 b3
  have V3 := Lib.hid (V2.out.keep b3)
  clear b3 B2 V2 v0 v1 C3
  obtain ⟨v0, v1⟩ := V3.out
  by_cases g1 : stoF s.k s.a E = 0
  · rw [g1, errV_zero]
    by_cases g2 : k < 0
    · have f1 : decide (k < 0) = true := decide_eq_true g2
      clear g1 h g2
      go_wp2_with fail
      go_ret
      exact ⟨rfl, B3.out⟩
    · have f1 : decide (k < 0) = false := decide_eq_false g2
      have f2 : decide ((s.kn : Int) ≤ k) = true := decide_eq_true (by
        by_cases q : (s.kn : Int) ≤ k
        · exact q
        · exact absurd ⟨g1, by omega, by omega⟩ h)
      clear g1 h g2
      go_wp2_with fail
      go_ret
      exact ⟨rfl, B3.out⟩
  · have HEV := Lib.hid (errV_ne g1)
    rw [HEV.out]
    generalize stoF s.k s.a E = r at *
    clear g1 h
    go_wp2_with fail
    go_ret
    exact ⟨rfl, B3.out⟩
set_option maxHeartbeats 4000000 in
theorem SchemaWider_in (s : Sc) (A : Option Addr) (n c : Nat) (E : List En) (k : Int) (A3 : Option Addr) (n3 c3 : Nat) (T : List Nd) (w : World) (hs : ScOk w s) (hE : Es w A n c E) (hT : Ns w A3 n3 c3 T) (hg : Door w) (kk : Nat) (x : Kn) (hkk : k = (kk : Int)) (hx : s.K[kk]? = some x) (g1 : stoF s.k s.a E = 0) (hnil : ScNil s) :
    Calls Tryz.prog 3 #[s.v, .slice A n c, .int .i64 k, .slice A3 n3 c3] w fun e w' => e = .returned (.bool true) ∧ Below w.heap.size w w' := by
  have V0 := Lib.hid (vs_new w s 25)
  have B0 := Lib.hid (below_box w (.cells #[.slice s.KA s.kn s.kc, .slice s.AA s.an s.ac] 25))
  have C3 := Lib.hid (fun w' (hb : Below w.heap.size w w') => schema_Store s A n c E w' (hs.keep hb) (hE.keep hb))
  have C7 := Lib.hid (law_lostN (w.alloc (.cells #[.slice s.KA s.kn s.kc, .slice s.AA s.an s.ac] 25)) (w.heap.size + 1) (by simp))
  have HE : Hid (∀ n k w', Below w.heap.size w w' → Calls Tryz.prog 8 #[errV n, .int .i64 k] w' fun e w'' => e = .returned (.bool (n == k)) ∧ Below w'.heap.size w' w'') := Lib.hid (fun n k w' hb => same_Error n k w' (hg.keep hb))
  have hkx := hs.k.max
  unfold maxLen at hkx
  have CB := Lib.hid (fun w' (hb : Below w.heap.size w w') => (let ⟨_, _, _, _, _, h⟩ := (hs.keep hb).k.at_ kk x hx; h.ns.kinds_Below (hT.keep hb)))
  have CX := Lib.hid (fun w' (hb : Below w.heap.size w w') => (hs.keep hb).k.at_ kk x hx)
  have HKL := Lib.hid (show kk < s.kn by rw [hs.k.len]; exact (List.getElem?_eq_some_iff.1 hx).1)
  have HS := Lib.hid hs
  have HEs := Lib.hid hE
  have HT := Lib.hid hT
  have HX := Lib.hid hx
  have HG1 := Lib.hid g1
  have HNIL := Lib.hid hnil
  have h8 : s.kn ≤ 8 := by
    have := (schF_zero.1 (stoF_zero.1 g1).1).1
    unfold Sc.k at this
    rw [List.length_map, ← hs.k.len] at this
    exact this
  subst hkk
  unfold Sc.v at C3 ⊢
  rw [g1, errV_zero] at C3
  clear hs hE hg hT g1 hx hnil
  go_enter Tryz.func3, Tryz.ntmps3
  go_wp2_with fail
  refine C7.out.mono ?_
  rintro e w1 ⟨rfl, b1⟩
  have B1 := bh B0 b1
  have V1 := Lib.hid (V0.out.keep b1)
  clear b1 B0 V0
  go_wp2_with fail
  refine (HE.out _ _ _ B1.out).mono ?_
  rintro e w2 ⟨rfl, b2⟩
  have B2 := bh B1 b2
  have V2 := Lib.hid (V1.out.keep b2)
  clear b2 B1 V1 C7 HE
  rw [beq_self_eq_true]
  obtain ⟨v0, v1⟩ := V2.out
  go_wp2_with fail
  refine (C3.out _ B2.out).mono ?_
  rintro e w3 ⟨rfl, b3⟩
  have B3 := bh B2 b3
  have V3 := Lib.hid (V2.out.keep b3)
  clear b3 B2 V2 v0 v1 C3
  obtain ⟨v0, v1⟩ := V3.out
  have f1 : decide ((kk : Int) < 0) = false := decide_eq_false (by omega)
  have hkn := HKL.out
  obtain ⟨a, ea, q0, q1, q2, -⟩ := CX.out _ B3.out
  rw [ea] at v0
  go_wp2_with fail
  refine (CB.out _ B3.out).mono ?_
  rintro e w4 ⟨rfl, b4⟩
  have B4 := bh B3 b4
  have V4 := Lib.hid (V3.out.keep b4)
  clear b4 B3 V3 v0 v1 q0 q1 q2 CB
  by_cases g2 : bothF x.d.P T = 0
  · rw [g2, errV_zero]
    rcases g3 : belB x.d.P T with _ | _
    · clear g2 g3
      go_wp2_with fail
      go_ret
      exact ⟨rfl, B4.out⟩
    · have HW : Hid ((schF (wideK s.k kk T) s.a = 0 → stoF (wideK s.k kk T) s.a E = 0) ∧ (schF (wideK s.k kk T) s.a ≠ 0 → headOp T ≠ 46)) := Lib.hid (wider_law HG1.out (by unfold Sc.k; rw [List.getElem?_map, HX.out]; rfl) g2 g3)
      have HT0 := Lib.hid (both_zero.1 g2).2
      clear g2 g3
      obtain ⟨v0, v1⟩ := V4.out
      have HLT := block_lt_of_cell v0
      have hz5 : (w4.alloc (.cells #[.slice none 0 0, .slice s.AA s.an s.ac] 25)).heap.size = w4.heap.size + 1 := by simp
      have O5 := World.ownsRow_lit (e := 44) (size := 3) (base := w4.heap.size + 1) (w4.alloc (.cells #[.slice none 0 0, .slice s.AA s.an s.ac] 25)) #[] 0 (by rw [hz5]; exact Nat.le_refl _) (Nat.zero_le _) rfl
      rw [hz5] at O5
      have X4 := vr2_new w4 (.slice none 0 0) (.slice s.AA s.an s.ac) 25
      have bx := below_box w4 (.cells #[.slice none 0 0, .slice s.AA s.an s.ac] 25)
      have b5 := (bx.trans ((below_box (w4.alloc (.cells #[.slice none 0 0, .slice s.AA s.an s.ac] 25)) (.cells #[] 44)).mono bx.size))
      have X5 := Lib.hid (X4.keep (below_box (w4.alloc (.cells #[.slice none 0 0, .slice s.AA s.an s.ac] 25)) (.cells #[] 44)))
      have B5 := bh B4 b5
      have HZ4 := Lib.hid (show w.heap.size < w4.heap.size from HLT)
      have hnk := HNIL.out.k
      have hsz : s.kn * 64 ≤ 140737488351232 := by omega
      clear b5 bx X4 hz5
      go_wp2_with (at_builtin; go_loud (refine wpList_append_ks _ rfl _ _ rfl (w4.heap.size + 1) s.KA s.kn s.kc s.K _ rfl (by rw [ea]; rfl) O5 (HS.out.k.keep B5.out) hnk hsz (by simp) ?_))
      intro v6 w6 hown hgrow
      have b6 : Below w4.heap.size w4 w6 := (((Below.refl _ _).alloc (Nat.le_refl _) _).alloc (by simp) _).grown hgrow (by simp; omega) (fun g hg => by simp [Value.ownBlock] at hg; omega)
      have B6 := bh B4 b6
      have X6 := X5.out.but hgrow (by simp [Value.ownBlock])
      have V6 := Lib.hid (V4.out.keep b6)
      clear b6 B4 V4 X5 O5 B5 v0 v1 HLT
      rcases hown.2 with ⟨hv, h0⟩ | ⟨g, cap, cur, hv, hgB, hgh, hgc, -⟩
      · exact absurd h0 (by omega)
      · subst hv
        have hok6 : ∀ y ∈ s.K, KnOk w6 y := fun y hy => by
          obtain ⟨j, hj, rfl⟩ := List.getElem_of_mem hy
          obtain ⟨_, _, _, _, _, h⟩ := (HS.out.k.keep B6.out).at_ j _ (List.getElem?_eq_getElem hj)
          exact h
        obtain ⟨A6, c6, e6, ks6⟩ := ks_of_own hown HS.out.k.len hok6 (by unfold maxLen; omega)
        injection e6 with e61 _ e62
        subst e61
        subst e62
        obtain ⟨a', ea', -, -, r2, -⟩ := ks6.at_ kk x HX.out
        injection ea' with ea'
        subst ea'
        have had : (⟨((⟨g, 0, none⟩ : Addr).add (kk * 3)).block, ((⟨g, 0, none⟩ : Addr).add (kk * 3)).off + 2, none⟩ : Addr) = ⟨g, kk * 3 + 2, none⟩ := by rw [nx_add _ _ _ (by omega)]; simp [Addr.add]
        have hfz : w6.frozen? ⟨g, kk * 3 + 2, none⟩ = false := hown.frozenAt (kk * 3 + 2)
        rw [had] at r2
        obtain ⟨x0, x1, z0, z1⟩ := X6
        have hgne : g ≠ w4.heap.size := by omega
        have y0 : ((w6.setCell ⟨w4.heap.size, 0, none⟩ (.slice (some ⟨g, 0, none⟩) s.kn cap)).setCell ⟨g, kk * 3 + 2, none⟩ (.slice A3 n3 c3)).cell? ⟨w4.heap.size, 0, none⟩ = some (.slice (some ⟨g, 0, none⟩) s.kn cap) := by
          rw [World.cell?_setCell_other _ ⟨g, kk * 3 + 2, none⟩ ⟨w4.heap.size, 0, none⟩ _ (fun e => hgne (congrArg Addr.block e))]
          exact World.cell?_setCell_same w6 ⟨w4.heap.size, 0, none⟩ _ x0
        have y1 : ((w6.setCell ⟨w4.heap.size, 0, none⟩ (.slice (some ⟨g, 0, none⟩) s.kn cap)).setCell ⟨g, kk * 3 + 2, none⟩ (.slice A3 n3 c3)).cell? ⟨w4.heap.size, 1, none⟩ = some (.slice s.AA s.an s.ac) := by
          rw [World.cell?_setCell_other _ ⟨g, kk * 3 + 2, none⟩ ⟨w4.heap.size, 1, none⟩ _ (fun e => hgne (congrArg Addr.block e))]
          rw [World.cell?_setCell_other _ ⟨w4.heap.size, 0, none⟩ ⟨w4.heap.size, 1, none⟩ _ (by intro e; injection e with _ e; cases e)]
          exact x1
        go_wp2_with fail
        obtain ⟨w8, hw8⟩ : ∃ w8, (w6.setCell ⟨w4.heap.size, 0, none⟩ (.slice (some ⟨g, 0, none⟩) s.kn cap)).setCell ⟨g, kk * 3 + 2, none⟩ (.slice A3 n3 c3) = w8 := ⟨_, rfl⟩
        have o7 := World.ownsRow.stored (ownsRow_setCell_below hown (a := ⟨w4.heap.size, 0, none⟩) (by simp) (.slice (some ⟨g, 0, none⟩) s.kn cap)) (kk * 3 + 2) (.slice A3 n3 c3)
        rw [hw8] at o7 y0 y1 ⊢
        have B8 := Lib.hid (show Below w.heap.size w w8 by
          rw [← hw8]
          refine (B6.out.setCell (p := ⟨w4.heap.size, 0, none⟩) (Nat.le_of_lt HZ4.out) _).setCell (p := ⟨g, kk * 3 + 2, none⟩) ?_ _
          show w.heap.size ≤ g
          have := HZ4.out
          omega)
        obtain ⟨o8, -⟩ := o7
        rw [knCells_set _ _ _ HX.out A3 n3 c3 T] at o8
        have hok8 : ∀ y ∈ s.K, KnOk w8 y := fun y hy => by
          obtain ⟨j, hj, rfl⟩ := List.getElem_of_mem hy
          obtain ⟨_, _, _, _, _, h⟩ := (HS.out.k.keep B8.out).at_ j _ (List.getElem?_eq_getElem hj)
          exact h
        obtain ⟨A8, c8, e8, ks8⟩ := ks_of_own o8 (by rw [List.length_set]; exact HS.out.k.len) (set_ok hok8 (by
          obtain ⟨h1, h2, h3⟩ := hok8 x (List.mem_of_getElem? HX.out)
          exact ⟨h1, h2, HT.out.keep B8.out⟩)) (by unfold maxLen; omega)
        injection e8 with e81 _ e82
        subst e81
        subst e82
        have SW := Lib.hid (show ScOk w8 ⟨some ⟨g, 0, none⟩, s.kn, cap, s.K.set kk (x.with_ A3 n3 c3 T), s.AA, s.an, s.ac, s.L⟩ from ⟨ks8, HS.out.a.keep B8.out⟩)
        have hwk : (⟨some ⟨g, 0, none⟩, s.kn, cap, s.K.set kk (x.with_ A3 n3 c3 T), s.AA, s.an, s.ac, s.L⟩ : Sc).k = wideK s.k kk T := with_wide _ _ _ HX.out _ _ _ _
        have D1 := schema_Check _ w8 SW.out
        have D2 := fun w' hb => schema_Store ⟨some ⟨g, 0, none⟩, s.kn, cap, s.K.set kk (x.with_ A3 n3 c3 T), s.AA, s.an, s.ac, s.L⟩ A n c E w' (SW.out.keep hb) (HEs.out.keep (B8.out.trans (hb.mono B8.out.size)))
        rw [hwk] at D1 D2
        have hwa : (⟨some ⟨g, 0, none⟩, s.kn, cap, s.K.set kk (x.with_ A3 n3 c3 T), s.AA, s.an, s.ac, s.L⟩ : Sc).a = s.a := rfl
        rw [hwa] at D1 D2
        unfold Sc.v at D1 D2
        dsimp only at D1 D2
        have C8 := Lib.hid D1
        have C9 := Lib.hid D2
        clear D1 D2 hwk hwa ks8 hok8 o8 hok6 ks6 r2 hfz hown hgrow x0 x1 z0 z1 had
        obtain ⟨hw1, hw2⟩ := HW.out
        have HW1 := Lib.hid hw1
        have HW2 := Lib.hid hw2
        clear hw1 hw2 HW
        generalize schF (wideK s.k kk T) s.a = r1 at *
        generalize stoF (wideK s.k kk T) s.a E = r2 at *
        clear hw8
        refine C8.out.mono ?_
        rintro e w9 ⟨rfl, b9⟩
        have B9 := bh B8 b9
        replace y0 := cell_keep b9 y0
        replace y1 := cell_keep b9 y1
        have D9 := C9.out w9 b9
        clear b9 B8 C8 C9
        by_cases g4 : r1 = 0
        · have HR := Lib.hid (HW1.out g4)
          rw [g4, errV_zero]
          rw [HR.out, errV_zero] at D9
          have E9 := Lib.hid D9
          clear D9 g4 HW1 HW2 HR
          go_wp2_with fail
          refine E9.out.mono ?_
          rintro e w10 ⟨rfl, b10⟩
          have B10 := bh B9 b10
          clear b10
          go_wp2_with fail
          go_ret
          exact ⟨rfl, B10.out⟩
        · have HR := HW2.out g4
          have HEV := Lib.hid (errV_ne g4)
          rw [HEV.out]
          clear HW1 HW2 D9 g4
          have HPOS : 0 < T.length := by
            obtain ⟨kd, hkd⟩ := kin_of HT0.out
            rw [hkd.e]
            cases kd <;> simp [Kd.flat]
          have hn3 : 0 < n3 := by rw [HT.out.len]; exact HPOS
          obtain ⟨a3, ea3, t0, -, -, -⟩ := (HT.out.keep B9.out).at_ 0 _ (List.getElem?_eq_getElem HPOS)
          rw [headOp_at HPOS] at HR
          subst ea3
          rw [show a3.add (0 * 3) = a3 from rfl] at t0
          generalize T[0].op = o at *
          have f3 : (o != 46) = true := by rw [bne_iff_ne]; exact HR
          clear HR
          go_wp2_with fail
          go_ret
          exact ⟨rfl, B9.out⟩
  · have HEV := Lib.hid (errV_ne g2)
    rw [HEV.out]
    generalize bothF x.d.P T = r at *
    clear g2
    go_wp2_with fail
    go_ret
    exact ⟨rfl, B4.out⟩
theorem SchemaWider_walk (s : Sc) (A : Option Addr) (n c : Nat) (E : List En) (k : Int) (A3 : Option Addr) (n3 c3 : Nat) (T : List Nd) (w : World) (hs : ScOk w s) (hnil : ScNil s) (hE : Es w A n c E) (hT : Ns w A3 n3 c3 T) (hg : Door w) :
    Calls Tryz.prog 3 #[s.v, .slice A n c, .int .i64 k, .slice A3 n3 c3] w fun e w' => e = .returned (.bool true) ∧ Below w.heap.size w w' := by
  by_cases h : stoF s.k s.a E = 0 ∧ 0 ≤ k ∧ k < s.kn
  · obtain ⟨h1, h2, h3⟩ := h
    have hl : k.toNat < s.K.length := by rw [← hs.k.len]; omega
    exact SchemaWider_in s A n c E k A3 n3 c3 T w hs hE hT hg k.toNat s.K[k.toNat] (by omega) (List.getElem?_eq_getElem hl) h1 hnil
  · exact SchemaWider_no s A n c E k A3 n3 c3 w hs hE hg h
end Go.Proofs.YtnolmlhcikcceaaGreatDoor
namespace Go.Proofs.YtnolmlhcikcceaaGreatDoor
open Go Go.ChangeShapes Go.WideShapes
theorem SchemaWider_named : Tryz.prog.funcNamed Rows.schemaWiderRow.func = some 3 := by kernel_rfl
theorem SchemaWider_wf : Rows.schemaWiderRow.wfByText (OpenSpec.ofChange Rows.schemaWiderSpec) = true := by kernel_rfl
theorem SchemaWider_main : Tryz.prog.mainIs = some (Rows.schemaWiderCard.stood.harness.1, Rows.schemaWiderCard.stood.harness.2.toList) := by kernel_rfl
theorem SchemaWider_looks : true = Tryz.prog.looks [] := by kernel_rfl
theorem SchemaWider_goes : false = Rows.schemaWiderRow.goesBy Tryz.prog := by kernel_rfl
theorem SchemaWider_inst : Tryz.f3.isInstance Tryz.prog Rows.schemaWiderRow.origin Rows.schemaWiderRow.targs := of_decide_eq_true (by kernel_rfl)
theorem SchemaWider_wrap : Tryz.f3.isWrapper Tryz.prog Rows.schemaWiderRow.wrapper Rows.schemaWiderRow.mainSum := by unfold Func.isWrapper; rw [if_neg (by decide +kernel)]; exact ⟨rfl, rfl⟩
theorem SchemaWider_j1 : (Rows.schemaWiderRow.wf (OpenSpec.ofChange Rows.schemaWiderSpec)) = true := by kernel_rfl
theorem SchemaWider_j2 : (laidOutB Tryz.prog) = true := by kernel_rfl
theorem SchemaWider_j3 : (mapsRowed Tryz.prog) = true := by kernel_rfl
theorem SchemaWider_j4 : (Tryz.f3.params.all (Tryz.prog.readableRec ·)) = true := by kernel_rfl
theorem SchemaWider_j5 : (namedTie Tryz.prog Rows.schemaWiderRow.named Rows.schemaWiderSpec.vars) = true := by kernel_rfl
theorem SchemaWider_j6 : ((Rows.schemaWiderRow.stops == [])) = true := by kernel_rfl
theorem SchemaWider_j7 : ((Tryz.prog.stops == [])) = true := by kernel_rfl
theorem SchemaWider_j8 : ((Rows.schemaWiderRow.knobs == [])) = true := by kernel_rfl
theorem SchemaWider_j9 : ((Tryz.prog.stopKnobs == [])) = true := by kernel_rfl
theorem SchemaWider_j10 : ((Rows.schemaWiderRow.inPlace == Tryz.prog.inPlace 3)) = true := by kernel_rfl
theorem SchemaWider_j11 : ((Rows.schemaWiderRow.unfollowed == Tryz.prog.unfollowed 3)) = true := by kernel_rfl
theorem SchemaWider_j12 : ((Rows.schemaWiderRow.recurses == Tryz.prog.recurses 3)) = true := by kernel_rfl
theorem SchemaWider_j13 : ((Rows.schemaWiderRow.named == Tryz.prog.varsNamed 3)) = true := by kernel_rfl
theorem SchemaWider_j14 : ((Rows.schemaWiderRow.maps == (Tryz.f3.params.toList ++ Rows.schemaWiderSpec.plain.varTypes Tryz.prog).any (Tryz.prog.mapsRec ·))) = true := by kernel_rfl
theorem SchemaWider_j15 : ((Rows.schemaWiderRow.ifaces == (Tryz.f3.params.toList ++ Rows.schemaWiderSpec.plain.varTypes Tryz.prog).any (Tryz.prog.ifacesRec ·))) = true := by kernel_rfl
theorem SchemaWider_j16 : ((Rows.schemaWiderRow.mapsOut == Tryz.prog.mapsAmong Tryz.f3.resultTypes.toList)) = true := by kernel_rfl
theorem SchemaWider_j17 : ((Rows.schemaWiderRow.loops == (Tryz.f3.params.toList ++ Rows.schemaWiderSpec.plain.varTypes Tryz.prog).any (Tryz.prog.loopsFrom ·))) = true := by kernel_rfl
theorem SchemaWider_j18 : ((Rows.schemaWiderRow.wideKeys == (Tryz.f3.params.toList ++ Rows.schemaWiderSpec.plain.varTypes Tryz.prog ++ Tryz.f3.resultTypes.toList).any (Tryz.prog.wideKeysFrom ·))) = true := by kernel_rfl
theorem SchemaWider_j19 : (Rows.schemaWiderSpec.vars.all (Tryz.prog.varReadable ·)) = true := by kernel_rfl
theorem SchemaWider_j20 : (Tryz.f3.resultTypes.all (fun t => Tryz.prog.readableRec t && decide (t < Tryz.prog.types.size))) = true := by kernel_rfl
theorem SchemaWider_j21 : ((Rows.schemaWiderRow.ifacesOut == Tryz.f3.resultTypes.toList.any (Tryz.prog.ifacesRec ·))) = true := by kernel_rfl
theorem SchemaWider_j22 : ((Rows.schemaWiderRow.loopsOut == Tryz.f3.resultTypes.toList.any (Tryz.prog.loopsFrom ·))) = true := by kernel_rfl
theorem SchemaWider_j23 : ((Rows.schemaWiderRow.plainKeys == Tryz.prog.plainKeys)) = true := by kernel_rfl
theorem SchemaWider_j24 : (Rows.schemaWiderRow.shortTexts.isNone) = true := by kernel_rfl
theorem SchemaWider_j25 : (Tryz.prog.stopsHeard) = true := by kernel_rfl
theorem SchemaWider_j26 : (Tryz.prog.mayEnter) = true := by kernel_rfl
theorem SchemaWider_j27 : ((Rows.schemaWiderRow.lifted == Tryz.prog.liftsFinal)) = true := by kernel_rfl
theorem SchemaWider_j28 : ((Tryz.prog.make == some Rows.schemaWiderRow.make)) = true := by kernel_rfl
theorem SchemaWider_j29 : ((Rows.schemaWiderRow.kinds == (if Rows.schemaWiderRow.domain.isEmpty then [] else Tryz.f3.params.toList.map fun t => match Tryz.prog.underlying t with | some (.int k) => some k | _ => none))) = true := by kernel_rfl
theorem SchemaWider_j30 : ((Rows.schemaWiderRow.pinned == Rows.schemaWiderRow.pinnedBy)) = true := by kernel_rfl
theorem SchemaWider_j31 : ((Rows.schemaWiderRow.veiled == (Tryz.f3.params.toList ++ Rows.schemaWiderSpec.plain.varTypes Tryz.prog ++ Tryz.f3.resultTypes.toList).any (Tryz.prog.veiledRec ·))) = true := by kernel_rfl
theorem SchemaWider_j32 : (Rows.schemaWiderRow.veiledFits Tryz.prog Tryz.f3.params.toList (Tryz.f3.params.toList ++ Rows.schemaWiderSpec.plain.varTypes Tryz.prog ++ Tryz.f3.resultTypes.toList)) = true := by kernel_rfl
theorem and_two {a b : Bool} (h : a = true) (k : b = true) : (a && b) = true := by rw [h, k]; rfl
set_option maxRecDepth 100000 in
theorem SchemaWider_joined : joinedFacts Tryz.prog 3 Tryz.f3 Rows.schemaWiderSpec Rows.schemaWiderRow = true := by
  unfold joinedFacts
  exact (and_two (and_two (and_two (and_two (and_two (and_two (and_two (and_two (and_two (and_two (and_two (and_two (and_two (and_two (and_two (and_two (and_two (and_two (and_two (and_two (and_two (and_two (and_two (and_two (and_two (and_two (and_two (and_two (and_two (and_two (and_two SchemaWider_j1 SchemaWider_j2) SchemaWider_j3) SchemaWider_j4) SchemaWider_j5) SchemaWider_j6) SchemaWider_j7) SchemaWider_j8) SchemaWider_j9) SchemaWider_j10) SchemaWider_j11) SchemaWider_j12) SchemaWider_j13) SchemaWider_j14) SchemaWider_j15) SchemaWider_j16) SchemaWider_j17) SchemaWider_j18) SchemaWider_j19) SchemaWider_j20) SchemaWider_j21) SchemaWider_j22) SchemaWider_j23) SchemaWider_j24) SchemaWider_j25) SchemaWider_j26) SchemaWider_j27) SchemaWider_j28) SchemaWider_j29) SchemaWider_j30) SchemaWider_j31) SchemaWider_j32)
end Go.Proofs.YtnolmlhcikcceaaGreatDoor
namespace Go.Proofs.YtnolmlhcikcceaaGreatDoor
open Go Go.ChangeShapes Go.WideShapes Go.ChangeAt Go.RowKit Go.Wk
open Go.ChangeMaps (open_string)

set_option maxRecDepth 100000 in
theorem SchemaWider_lifted (os : Os) (started : os.Started) (H : Type) (enc : TypeId × Value → H) :
    ReturnsInHanded {} Tryz.checked os 3 .any (fun w args => (Rows.schemaWiderSpec.pre enc Tryz.prog Tryz.f3 [] false w args ∧ laidMetH Tryz.prog laidList w) ∧ sizedMet enc Tryz.prog Tryz.f3 (OpenSpec.ofChange Rows.schemaWiderSpec) false w args) (Rows.schemaWiderSpec.post enc Tryz.prog Tryz.f3 false true false false) := by
  refine returnsInHanded_of_change_and (C := Tryz.checked) (X := fun w _ => laidMetH Tryz.prog laidList w) (fun _ _ _ hh h => h.of_heap hh) own started (by kernel_rfl) Tryz.func3
    (ChangeSpec.witness_at (enc := enc) (C := Tryz.checked) (os := os) (X := fun w _ => laidMetH Tryz.prog laidList w) false (laidWorld os) #[.agg #[.slice none 0 0, .slice none 0 0], .slice none 0 0, .int .i64 0, .slice none 0 0] 8 rfl (by kernel_rfl) (by kernel_rfl) (by kernel_rfl) (by kernel_rfl) (by kernel_rfl) (laidWorld_met os _)) ?_
  intro W base args ds gs before hval0 hW _ _ hL _
  have hg := handle_of_laid hL
  have hval : ∀ (j : Nat) t v, Tryz.f3.params[j]? = some t → args[j]? = some v → Value.okWide Tryz.prog W .any base t v := hval0
  have hW0 := hW
  obtain ⟨p, q, hA0, _, _, _, _⟩ := hW
  have hA : DataW.TrodAll enc Tryz.prog W 0 (fun _ => true) true Tryz.f3.params.toList args.toList ds p := hA0
  rw [Tryz.params3] at hA hval
  clear hA0 hval0
  obtain ⟨v0, vs0, d0, ds0, p0, q0, hargs, rfl, rfl, h0, r0⟩ := trodAll_cons hA
  obtain ⟨v1, vs1, d1, ds1, p1, q1, rfl, rfl, rfl, h1, r1⟩ := trodAll_cons r0
  obtain ⟨v2, vs2, d2, ds2, p2, q2, rfl, rfl, rfl, h2, r2⟩ := trodAll_cons r1
  obtain ⟨v3, vs3, d3, ds3, p3, q3, rfl, rfl, rfl, h3, r3⟩ := trodAll_cons r2
  obtain ⟨rfl, rfl, rfl⟩ := trodAll_nil r3
  obtain ⟨args⟩ := args
  simp only at hargs
  subst hargs
  obtain ⟨x0, rfl, sx0, nx0⟩ := open_schemaN (hval 0 25 v0 rfl rfl) h0
  obtain ⟨A1, n1, c1, E1, rfl, sx1⟩ := open_ents (hval 1 26 v1 rfl rfl) h1
  obtain ⟨x2, rfl, -, -⟩ := open_i64 (hval 2 3 v2 rfl rfl) h2
  obtain ⟨A3, n3, c3, P3, rfl, sx3⟩ := open_nodes (hval 3 27 v3 rfl rfl) h3
  refine (SchemaWider_walk x0 A1 n1 c1 E1 x2 A3 n3 c3 P3 W sx0 nx0 sx1 sx3 hg).mono fun e W' ⟨he, hb'⟩ => ?_
  subst he
  refine ⟨_, rfl, law_post laidOut (by kernel_rfl) (by rfl) Tryz.underlying4 rfl ?_ hW0 hb'⟩
  intro ds hlen
  rw [Tryz.params3] at hlen
  match ds, hlen with
  | [e0, e1, e2, e3], _ => rfl

theorem SchemaWider_over : Rows.schemaWiderRow.holds Tryz.pinned (OpenSpec.ofChange Rows.schemaWiderSpec) :=
  OpenClaim.holds_of_wide 3 Tryz.f3 rfl rfl rfl rfl rfl rfl rfl ⟨rfl, rfl, rfl, rfl, rfl⟩ rfl rfl rfl rfl rfl SchemaWider_named Tryz.func3 SchemaWider_joined
    SchemaWider_inst SchemaWider_wrap
    (fun os started H enc _ => SchemaWider_lifted os started H enc)

theorem SchemaWider_holds : Rows.SchemaWiderCardSaid :=
  Claim7.holds_tied_plain_at .later [] [.handle] true Rows.schemaWiderCard.stood.harness true
    SchemaWider_over (fun _ h => by cases h) SchemaWider_wf (fun _ h => by cases h) schemaWider_row_tie rfl ⟨rfl, rfl⟩ SchemaWider_main rfl
    (fun f fn hf hfn => by
      obtain rfl : f = 3 := Option.some.inj (SchemaWider_named.symm.trans hf) |>.symm
      obtain rfl : fn = Tryz.f3 := (Option.some.inj (Tryz.func3.symm.trans hfn)).symm
      exact ⟨SchemaWider_looks, fun j t ht => by
        rw [Tryz.params3] at ht
        have hm := Array.mem_of_getElem? ht
        simp only [List.mem_toArray, List.mem_cons, List.not_mem_nil, or_false] at hm
        rcases hm with rfl | rfl | rfl | rfl
        all_goals exact (show Tryz.prog.wantsStandIn _ = false by kernel_rfl)⟩)
    SchemaWider_goes
#print axioms SchemaWider_holds
end Go.Proofs.YtnolmlhcikcceaaGreatDoor
