/-
  ref OwnKind: the type that a value has of its own.
  kinds.own: of sets.
  kinds.own: of records.
-/
import Derived.Test.YtmekockjgldndaaGreatDoorQc18
namespace Go.Proofs.YtmekockjgldndaaGreatDoor
open Go.RowKit Go.Wk Go.Sort
set_option maxRecDepth 100000

theorem jn_one_at {w w1 : World} (k : Kd) (x : Nd) (g : Nat) (hk : k.flat = [x]) (hx : NdOk x) (hb : Below w.heap.size w w1) (hg : w1.heap.size = g) : JnR w k (fun _ => False) (.returned (.slice (some ⟨g, 0, none⟩) 1 1)) (w1.alloc (.cells #[.int .i64 x.op, .int .i64 x.n, .string x.s, .string x.t] 44)) := by
  subst hg
  exact jn_one k x hk hx hb
set_option maxHeartbeats 1000000 in
theorem rown_leaf (A : Option Addr) (n c : Nat) (P : List Nd) (w : World) (h : Ns w A n c P) (hV : IsV P) (h5 : headOp P ≠ 5) (h6 : headOp P ≠ 6) :
    Calls Tryz.prog 20 #[.slice A n c] w (JnR w (ownV P) fun _ => False) := by
  obtain ⟨x, r, rfl, -, -⟩ := isV_head hV
  obtain ⟨a, rfl, d0, d1, d2, d3⟩ := h.at_ 0 x rfl
  rw [show a.add (0 * 4) = a from rfl] at d0 d1 d2 d3
  have hn1 : 1 ≤ n := by rw [h.len]; simp
  have hm := h.max
  have hxs := (h.ok x (by simp)).s
  have hl : a.block < w.heap.size := block_lt_of_cell d0
  unfold maxLen at hm
  have HB := Lib.hid (fun o => below_box w o)
  rcases isV_op hV with q | q | q | q | q | q
  · rw [ownV_1 q]
    rw [headOp_cons] at q
    rw [q] at d0
    have HK := Lib.hid (nd_ok0 (x := 41) (s := emp) 0 (by decide) (by decide) (Nat.zero_le _))
    clear h hV h5 h6 q
    go_enter Tryz.func20, Tryz.ntmps20
    go_wp2_with fail
    go_ret
    exact jn_one_at (.base 41) ⟨41, 0, emp, emp⟩ (w.heap.size + 1) rfl HK.out (HB.out _) (by simp)
  · rw [ownV_2 q]
    rw [headOp_cons] at q
    rw [q] at d0
    have HK := Lib.hid (nd_ok0 (x := 42) (s := emp) 0 (by decide) (by decide) (Nat.zero_le _))
    clear h hV h5 h6 q
    go_enter Tryz.func20, Tryz.ntmps20
    go_wp2_with fail
    go_ret
    exact jn_one_at (.base 42) ⟨42, 0, emp, emp⟩ (w.heap.size + 1) rfl HK.out (HB.out _) (by simp)
  · rw [ownV_3 q]
    rw [headOp_cons] at q
    rw [q] at d0
    have HK := Lib.hid (nd_ok0 (x := 43) (s := emp) 0 (by decide) (by decide) (Nat.zero_le _))
    clear h hV h5 h6 q
    go_enter Tryz.func20, Tryz.ntmps20
    go_wp2_with fail
    go_ret
    exact jn_one_at (.base 43) ⟨43, 0, emp, emp⟩ (w.heap.size + 1) rfl HK.out (HB.out _) (by simp)
  · rw [ownV_4 q]
    rw [headOp_cons] at q
    rw [q] at d0
    have HK := Lib.hid (nd_ok0 (x := 44) 0 (by decide) (by decide) hxs)
    clear h hV h5 h6 q
    go_enter Tryz.func20, Tryz.ntmps20
    go_wp2_with fail
    go_ret
    exact jn_one_at (.ent x.s) ⟨44, 0, x.s, emp⟩ (w.heap.size + 1) rfl HK.out (HB.out _) (by simp)
  · exact absurd q h5
  · exact absurd q h6
/-- The contract of OwnKind, for values of so much. -/
def OwnRC (N : Nat) : Prop := ∀ (P : List Nd), P.length ≤ N → valFault P = 0 → ∀ (A : Option Addr) (n c : Nat) (w : World), Ns w A n c P →
  Calls Tryz.prog 20 #[.slice A n c] w (JnR w (ownV P) fun _ => False)
set_option maxHeartbeats 2000000 in
theorem rown_set (N : Nat) (ih : OwnRC N) (A : Option Addr) (n c : Nat) (P : List Nd) (w : World) (h : Ns w A n c P) (hN : P.length ≤ N + 1) (hP : valFault P = 0) (h5 : headOp P = 5) :
    Calls Tryz.prog 20 #[.slice A n c] w (JnR w (ownV P) fun _ => False) := by
  obtain ⟨i0, hi, hz0, hz1, hz2⟩ := info_parts ndInfo
  obtain ⟨h200, hV⟩ := isV_zero.1 hP
  have C := Lib.hid (fun w' (hb : Below w.heap.size w w') => refParts_set A n c P w' (h.keep hb) hP h5)
  have HPV := Lib.hid (fun Q (hQ : Q ∈ setParts P) => part_fine hP ((isV_set hV h5).2.2.1 Q hQ) (Nat.le_of_lt (set_smaller hV h5 hQ)))
  have HPN := Lib.hid (fun Q (hQ : Q ∈ setParts P) => show Q.length ≤ N by have := set_smaller hV h5 hQ; omega)
  have HLN := Lib.hid (show (setParts P).length ≤ 200 from set_len200 h200 hV h5)
  have HIV := Lib.hid (isV_set hV h5).2.2.1
  have HFL := Lib.hid (show (setParts P).flatten.length ≤ 200 by have := congrArg List.length (isV_set hV h5).1; rw [List.length_cons] at this; omega)
  have HO := Lib.hid (show ownV P = .set (((setParts P).map ownV).foldl joinK (.base 49)) from ownV_5 hV h5)
  obtain ⟨x, r, hxr, -, -⟩ := isV_head hV
  obtain ⟨a, rfl, d0, d1, d2, d3⟩ := h.at_ 0 x (by rw [hxr]; rfl)
  rw [show a.add (0 * 4) = a from rfl] at d0 d1 d2 d3
  have hn1 : 1 ≤ n := by rw [h.len, hxr]; simp
  have hm := h.max
  have hl : a.block < w.heap.size := block_lt_of_cell d0
  unfold maxLen at hm
  have q : x.op = 5 := by rw [hxr, headOp_cons] at h5; exact h5
  rw [q] at d0
  have HB := Lib.hid (below_box w (.cells #[.int .i64 5, .int .i64 x.n, .string x.s, .string x.t] 44))
  have HX := Lib.hid (show (w.alloc (.cells #[.int .i64 5, .int .i64 x.n, .string x.s, .string x.t] 44)).cell? ⟨w.heap.size, 0, none⟩ = some (.int .i64 5) by rw [World.cell?_alloc_at _ _ _ _ rfl]; rfl)
  generalize ownV P = ow at *
  clear h hP h5 h200 hV hxr q hN
  generalize setParts P = R at *
  go_enter Tryz.func20, Tryz.ntmps20
  go_wp2_with fail
  refine (C.out _ HB.out).mono ?_
  rintro e w1 ⟨v, v', V, rfl, hT, hV, b1⟩
  obtain ⟨A1, c1, A2, c2, rfl, rfl, hS, hN⟩ := rows_at hT
  have B1 := Lib.hid (HB.out.trans (b1.mono (by simp)))
  have HS := Lib.hid hS
  have HVP := Lib.hid hV
  have hVl : V.length = R.length := by have := congrArg List.length hV; simpa using this
  have HVL := Lib.hid hVl
  rw [hVl]
  have hR200 := HLN.out
  have x1 := cell_keep b1 HX.out
  clear b1 hS hN hV hT C d0 d1 d2 d3
  have HSN := Lib.hid (fun k (hk : k < R.length) => fold_snoc (L := R) hk)
  have HFZ := Lib.hid (fun k => fold_sz (L := R) HIV.out k)
  have HFV := Lib.hid (fun k => fold_valid (L := R) HIV.out k)
  have HOV := Lib.hid (fun Q (hQ : Q ∈ R) => own_valid (HIV.out Q hQ))
  have HOZ := Lib.hid (fun Q (hQ : Q ∈ R) => show (ownV Q).sz ≤ 400 by have h1 := own_sz (HIV.out Q hQ); have h2 := (isV_zero.1 (HPV.out Q hQ)).1; omega)
  have HF0 : Hid (((R.take 0).map ownV).foldl joinK (.base 49) = .base 49) := Lib.hid rfl
  have HFE : Hid (((R.take R.length).map ownV).foldl joinK (.base 49) = (R.map ownV).foldl joinK (.base 49)) := Lib.hid (by rw [List.take_length])
  obtain ⟨fo, hfo⟩ : ∃ fo : Nat → Kd, fo = fun k => ((R.take k).map ownV).foldl joinK (.base 49) := ⟨_, rfl⟩
  have hfo' : ∀ k, ((R.take k).map ownV).foldl joinK (.base 49) = fo k := fun k => by rw [hfo]
  simp only [hfo'] at HSN HFZ HFV HF0 HFE
  have HJ0 := Lib.hid (fun w1 (hb : Below w.heap.size w w1) => jn_one (w := w) (w1 := w1) (.base 49) ⟨49, 0, emp, emp⟩ rfl (nd_ok0 0 (by decide) (by decide) (Nat.zero_le _)) hb)
  have HJ1 := Lib.hid (HJ0.out w1 B1.out)
  have B2 := Lib.hid (below_box w1 (.cells #[.int .i64 49, .int .i64 0, .string ⟨#[]⟩, .string ⟨#[]⟩] 44))
  clear hfo hfo' HJ0
  go_wp2_with fail
  go_loopw [6, 7] (fun o i wr => ∃ (k : Nat) (Ao : Option Addr) (co : Nat), i = .int .i64 k ∧ k ≤ R.length ∧ o = .slice Ao (fo k).flat.length co ∧ Hid (Ns wr Ao (fo k).flat.length co (fo k).flat) ∧ Hid (Below w1.heap.size w1 wr)) (fun _ i _ => R.length - (intOf i).toNat)
  case atStart =>
    obtain ⟨A5, c5, e5, n5, -, -⟩ := HJ1.out
    injection e5 with e5
    refine ⟨0, A5, c5, rfl, Nat.zero_le _, by rw [HF0.out]; exact e5, Lib.hid (by rw [HF0.out]; exact n5), B2⟩
  case round =>
    obtain ⟨k, Ao, co, rfl, hk, rfl, hO, hB⟩ := hrel
    have BW := Lib.hid (B1.out.trans (hB.out.mono B1.out.size))
    by_cases hlt : k < R.length
    · have hkv : k < V.length := by rw [HVL.out]; exact hlt
      obtain ⟨a1, rfl, q1, n1⟩ := (HS.out.keep hB.out).at hkv
      have hRV : V[k].P = R[k] := by
        have := congrArg (fun l => l[k]?) HVP.out
        simpa only [List.getElem?_map, List.getElem?_eq_getElem hkv, List.getElem?_eq_getElem hlt, Option.map_some, Option.some.injEq] using this
      rw [hRV] at n1
      have hmem := List.getElem_mem hlt
      have CO := Lib.hid (ih R[k] (HPN.out _ hmem) (HPV.out _ hmem) V[k].A V[k].n V[k].c wr n1)
      have HZ1 := HFZ.out k
      have HZ2 := HOZ.out _ hmem
      have CJ := Lib.hid (fun A n c w' (hb : Below wr.heap.size wr w') (hn : Ns w' A n c (ownV R[k]).flat) => ref_Join _ (fo k) (ownV R[k]) (Nat.le_refl _) (by have := HFL.out; omega) (HFV.out k) (HOV.out _ hmem) Ao A (fo k).flat.length co n c w' (hO.out.keep hb) hn)
      rw [← HSN.out k hlt] at CJ
      clear n1 hRV HZ1 HZ2
      generalize V[k] = r at *
      generalize ownV R[k] = ok at *
      go_wp2_with fail
      refine CO.out.mono ?_
      rintro e w3 ⟨A3, c3, rfl, n3, b3, -⟩
      have C4 := Lib.hid (CJ.out _ _ _ w3 b3 n3)
      have B3 := Lib.hid (hB.out.trans (b3.mono hB.out.size))
      clear CO CJ n3 b3 q1
      go_wp2_with fail
      refine C4.out.mono ?_
      rintro e w4 ⟨A4, c4, rfl, n4, b4, -⟩
      have B4 := Lib.hid (B3.out.trans (b4.mono B3.out.size))
      have N4 := Lib.hid n4
      clear C4 n4 b4 B3
      go_wp2_with fail
      go_roundw
      case rel => exact ⟨k + 1, A4, c4, by go_num, hlt, rfl, N4, B4⟩
      case measure => simp [intOf]; omega
    · obtain rfl : k = R.length := by omega
      have HO2 := Lib.hid (show ow = .set (fo R.length) by rw [HO.out, HFE.out])
      have HFZ2 := HFZ.out R.length
      have hfl := HFL.out
      have hsz : (fo R.length).flat.length ≤ 401 := by rw [flat_len]; omega
      obtain ⟨ao, rfl, -, -, -⟩ := head_at hO.out
      have HCE := Lib.hid (fun w' (hb : Below wr.heap.size wr w') => (hO.out.keep hb).at_.cells)
      have HOK := Lib.hid hO.out.ok
      have R0 : Hid ((wr.alloc (.cells #[.int .i64 45, .int .i64 0, .string ⟨#[]⟩, .string ⟨#[]⟩] 44)).ownsRow wr.heap.size 44 4 (.slice (some ⟨wr.heap.size, 0, none⟩) 1 1) 1 (ndCells [⟨45, 0, emp, emp⟩])) := Lib.hid (row_nd1 wr ⟨45, 0, emp, emp⟩)
      have BR := Lib.hid (below_box wr (.cells #[.int .i64 45, .int .i64 0, .string ⟨#[]⟩, .string ⟨#[]⟩] 44))
      have HFL2 := Lib.hid (show (Kd.set (fo R.length)).flat = ⟨45, 0, emp, emp⟩ :: (fo R.length).flat from rfl)
      have hcap := hO.out.cap
      clear hO HFZ2
      generalize (fo R.length).flat = jf at *
      generalize hjl : jf.length = jl at *
      have HJL := Lib.hid hjl
      go_wp2_with (at_builtin; refine wpList_append_own _ rfl _ _ 22 rfl wr.heap.size 44 i0 _ 4 48 Tryz.underlying22 hi hz0 hz1 hz2 rfl (by decide) _ 1 (ndCells [⟨45, 0, emp, emp⟩]) rfl R0.out ao jl co (ndCells jf) rfl (by rw [ndCells_length, HJL.out]) (HCE.out _ BR.out) (ndCells_one _) ?c1 ?c2 ?c3 ?_)
      case c1 => unfold maxLen; omega
      case c2 => omega
      case c3 => simp
      intro v1 w5 hown hgrow _
      have HW := Lib.hid hown
      have HG := Lib.hid hgrow
      clear hown hgrow
      have hown' : w5.ownsRow wr.heap.size 44 4 v1 (([⟨45, 0, emp, emp⟩] : List Nd) ++ jf).length (ndCells (([⟨45, 0, emp, emp⟩] : List Nd) ++ jf)) := by
        rw [ndCells_append, List.length_append, HJL.out]; exact HW.out
      have HB5 := Lib.hid (BR.out.grown HG.out BR.out.size (own_base R0.out))
      obtain ⟨A5, c5, rfl, -⟩ := nds_of_own hown'
      have OW := Lib.hid hown'
      have NF := Lib.hid (ns_of_row hown' (by simp; omega) (fun y hy => by
        rcases List.mem_cons.1 hy with rfl | hy
        · exact nd_ok0 0 (by decide) (by decide) (Nat.zero_le _)
        · exact HOK.out y hy))
      have hlk : (([⟨45, 0, emp, emp⟩] : List Nd) ++ jf).length = (Kd.set (fo R.length)).flat.length := by rw [HFL2.out]; rfl
      have HLK := Lib.hid hlk
      have HEQ := Lib.hid (show ([⟨45, 0, emp, emp⟩] : List Nd) ++ jf = (Kd.set (fo R.length)).flat by rw [HFL2.out]; rfl)
      clear hown' hlk HW HG
      generalize ([⟨45, 0, emp, emp⟩] : List Nd) ++ jf = Z at *
      go_wp2_with fail
      go_ret
      have hb := BW.out.trans (HB5.out.mono BW.out.size)
      have nf := NF.out
      have ow := OW.out
      rw [HO2.out]
      rw [HEQ.out] at nf ow ⊢
      exact ⟨A5, c5, rfl, nf, hb, fun y hy => .inl (by subst hy; have := own_base ow _ rfl; have := BW.out.size; omega)⟩
/-- The nodes of a record's type, so far. -/
theorem outJ_own {P : List Nd} (hV : IsV P) (h6 : headOp P = 6) : outJ ((recParts P).length : Int) ((recParts P).map fun x => (x.1, true, ownV x.2)) (recParts P).length = (ownV P).flat := by
  rw [ownV_6 hV h6]
  unfold outJ
  rw [List.take_of_length_le (by simp), Kd.flat]
  congr 1
  have : ∀ L : List Kfd, (ofL L).len = L.length := fun L => by
    have := len_list' (ofL L)
    rw [ofL_list] at this
    exact this.symm
  rw [this, List.length_map]
set_option maxHeartbeats 2000000 in
theorem rown_rec (N : Nat) (ih : OwnRC N) (A : Option Addr) (n c : Nat) (P : List Nd) (w : World) (h : Ns w A n c P) (hN : P.length ≤ N + 1) (hP : valFault P = 0) (h6 : headOp P = 6) :
    Calls Tryz.prog 20 #[.slice A n c] w (JnR w (ownV P) fun _ => False) := by
  obtain ⟨i0, hi, hz0, hz1, hz2⟩ := info_parts ndInfo
  obtain ⟨h200, hV⟩ := isV_zero.1 hP
  have C := Lib.hid (fun w' (hb : Below w.heap.size w w') => refParts_rec A n c P w' (h.keep hb) hP h6)
  have HPN := Lib.hid (show prtN P = (recParts P).map (·.1) by unfold prtN; rw [if_neg (by omega)])
  have HPV := Lib.hid (fun x (hx : x ∈ recParts P) => part_fine hP ((isV_rec hV h6).2.2.1 x hx).1 (Nat.le_of_lt (rec_smaller hV h6 hx)))
  have HPL := Lib.hid (fun x (hx : x ∈ recParts P) => show x.2.length ≤ N by have := rec_smaller hV h6 hx; omega)
  have HLN := Lib.hid (show (recParts P).length ≤ 200 from recParts_len hP h6)
  have HNM := Lib.hid (fun x (hx : x ∈ recParts P) => show x.1.size ≤ maxLen by obtain ⟨y, hy, e⟩ := rec_name_in hV h6 hx; rw [← e]; exact (h.ok y hy).s)
  have HOE := Lib.hid (outJ_own hV h6)
  have HOZ := Lib.hid (show (ownV P).sz ≤ 400 by have := own_sz hV; omega)
  have HOV := Lib.hid (own_valid hV)
  have HFZ := Lib.hid (fun (z : Int) i => show (outJ z ((recParts P).map fun x => (x.1, true, ownV x.2)) i).length ≤ 401 by
    have h1 := outJ_len z ((recParts P).map fun x => (x.1, true, ownV x.2)) i
    have h2 := HOZ.out
    rw [ownV_6 hV h6] at h2
    simp only [Kd.sz] at h2
    omega)
  obtain ⟨x, r, hxr, -, -⟩ := isV_head hV
  obtain ⟨a, rfl, d0, d1, d2, d3⟩ := h.at_ 0 x (by rw [hxr]; rfl)
  rw [show a.add (0 * 4) = a from rfl] at d0 d1 d2 d3
  have hn1 : 1 ≤ n := by rw [h.len, hxr]; simp
  have hm := h.max
  have hl : a.block < w.heap.size := block_lt_of_cell d0
  unfold maxLen at hm
  have q : x.op = 6 := by rw [hxr, headOp_cons] at h6; exact h6
  rw [q] at d0
  have HB := Lib.hid (below_box w (.cells #[.int .i64 6, .int .i64 x.n, .string x.s, .string x.t] 44))
  have HX := Lib.hid (show (w.alloc (.cells #[.int .i64 6, .int .i64 x.n, .string x.s, .string x.t] 44)).cell? ⟨w.heap.size, 0, none⟩ = some (.int .i64 6) by rw [World.cell?_alloc_at _ _ _ _ rfl]; rfl)
  generalize ownV P = ow at *
  clear h hP h6 h200 hV hxr q hN
  generalize recParts P = R at *
  go_enter Tryz.func20, Tryz.ntmps20
  go_wp2_with fail
  refine (C.out _ HB.out).mono ?_
  rintro e w1 ⟨v, v', V, rfl, hT, hV, b1⟩
  obtain ⟨A1, c1, A2, c2, rfl, rfl, hS, hN⟩ := rows_at hT
  have B1 := Lib.hid (HB.out.trans (b1.mono (by simp)))
  have HS := Lib.hid hS
  have HT := Lib.hid hN
  have HVP := Lib.hid hV
  have hVl : V.length = R.length := by have := congrArg List.length hV; simpa using this
  have hPl : (prtN P).length = R.length := by rw [HPN.out]; simp
  have HVL := Lib.hid hVl
  rw [hVl, hPl]
  have hR200 := HLN.out
  have x1 := cell_keep b1 HX.out
  clear b1 hS hN hV hT C d0 d1 d2 d3
  have HST := Lib.hid (fun (z : Int) i (hi : i < R.length) => show outJ z (R.map fun x => (x.1, true, ownV x.2)) (i + 1) = (outJ z (R.map fun x => (x.1, true, ownV x.2)) i ++ [(⟨47, 1, R[i].1, ⟨#[]⟩⟩ : Nd)]) ++ (ownV R[i].2).flat by
    rw [outJ_step (by rw [List.length_map]; exact hi)]
    simp [outJ, fldNd, emp])
  have H00 : Hid (outJ (R.length : Int) (R.map fun x => (x.1, true, ownV x.2)) 0 = [⟨46, R.length, emp, emp⟩]) := Lib.hid rfl
  obtain ⟨fo, hfo⟩ : ∃ fo : Nat → List Nd, fo = fun k => outJ (R.length : Int) (R.map fun x => (x.1, true, ownV x.2)) k := ⟨_, rfl⟩
  have hfo' : ∀ k, outJ (R.length : Int) (R.map fun x => (x.1, true, ownV x.2)) k = fo k := fun k => by rw [hfo]
  replace HST := Lib.hid (fun i hi => HST.out (R.length : Int) i hi)
  replace HFZ := Lib.hid (fun i => HFZ.out (R.length : Int) i)
  simp only [hfo'] at HST HFZ H00 HOE
  have R1 : Hid ((w1.alloc (.cells #[.int .i64 46, .int .i64 R.length, .string ⟨#[]⟩, .string ⟨#[]⟩] 44)).ownsRow w1.heap.size 44 4 (.slice (some ⟨w1.heap.size, 0, none⟩) 1 1) (fo 0).length (ndCells (fo 0))) := Lib.hid (by rw [H00.out]; exact row_nd1 w1 ⟨46, R.length, emp, emp⟩)
  have B2 := Lib.hid (below_box w1 (.cells #[.int .i64 46, .int .i64 R.length, .string ⟨#[]⟩, .string ⟨#[]⟩] 44))
  clear hfo hfo'
  go_wp2_with fail
  go_loopw [8, 9] (fun o i wr => ∃ (k : Nat) (Ao : Option Addr) (co : Nat), i = .int .i64 k ∧ k ≤ R.length ∧ o = .slice Ao (fo k).length co ∧ Hid (wr.ownsRow w1.heap.size 44 4 (.slice Ao (fo k).length co) (fo k).length (ndCells (fo k))) ∧ Hid (Below w1.heap.size w1 wr)) (fun _ i _ => R.length - (intOf i).toNat)
  case atStart =>
    have hl0 : (fo 0).length = 1 := by rw [H00.out]; rfl
    exact ⟨0, some ⟨w1.heap.size, 0, none⟩, 1, rfl, Nat.zero_le _, by rw [hl0], Lib.hid (by have := R1.out; rwa [hl0] at this ⊢), B2⟩
  case round =>
    obtain ⟨k, Ao, co, rfl, hk, rfl, hO, hB⟩ := hrel
    have BW := Lib.hid (B1.out.trans (hB.out.mono B1.out.size))
    by_cases hlt : k < R.length
    · have hkv : k < V.length := by rw [HVL.out]; exact hlt
      obtain ⟨a1, rfl, q1, n1⟩ := (HS.out.keep hB.out).at hkv
      have hRV : V[k].P = R[k].2 := by
        have := congrArg (fun l => l[k]?) HVP.out
        simpa only [List.getElem?_map, List.getElem?_eq_getElem hkv, List.getElem?_eq_getElem hlt, Option.map_some, Option.some.injEq] using this
      rw [hRV] at n1
      obtain ⟨a2, rfl, q2⟩ := (HT.out.keep hB.out) k R[k].1 (by rw [HPN.out, List.getElem?_map, List.getElem?_eq_getElem hlt]; rfl)
      have hmem := List.getElem_mem hlt
      have HS1 := Lib.hid (HST.out k hlt)
      have HQ := Lib.hid (fun w' (hb : Below w1.heap.size w1 w') => show w'.cell? (a1.add k) = some (.slice V[k].A V[k].n V[k].c) ∧ Calls Tryz.prog 20 #[.slice V[k].A V[k].n V[k].c] w' (JnR w' (ownV R[k].2) fun _ => False) from by
        obtain ⟨a', ea, qq, nn⟩ := (HS.out.keep hb).at hkv
        injection ea with ea
        subst ea
        rw [hRV] at nn
        exact ⟨qq, ih R[k].2 (HPL.out _ hmem) (HPV.out _ hmem) V[k].A V[k].n V[k].c w' nn⟩)
      have hf1 := HFZ.out k
      have hf2 := HFZ.out (k + 1)
      have hf3 := congrArg List.length HS1.out
      simp only [List.length_append, List.length_cons, List.length_nil] at hf3
      generalize R[k] = y at *
      generalize V[k] = rr at *
      obtain ⟨ys, yv⟩ := y
      simp only at q2 HS1 hf3 HQ
      clear n1 hRV hmem q1
      have RO : Hid ((wr.alloc (.cells #[.int .i64 47, .int .i64 1, .string ys, .string ⟨#[]⟩] 44)).ownsRow w1.heap.size 44 4 (.slice Ao (fo k).length co) (fo k).length (ndCells (fo k))) := Lib.hid (hO.out.alloc (.cells #[.int .i64 47, .int .i64 1, .string ys, .string ⟨#[]⟩] 44))
      have CN : Hid (∀ j u, (ndCells [⟨47, 1, ys, ⟨#[]⟩⟩])[j]? = some u → (wr.alloc (.cells #[.int .i64 47, .int .i64 1, .string ys, .string ⟨#[]⟩] 44)).cell? ((⟨wr.heap.size, 0, none⟩ : Addr).add j) = some u) := Lib.hid (cells_new wr (ndCells [⟨47, 1, ys, ⟨#[]⟩⟩]) 44)
      have hbs := hB.out.size
      go_wp2_with (at_builtin; refine wpList_append_own _ rfl _ _ 22 rfl w1.heap.size 44 i0 _ 4 48 Tryz.underlying22 hi hz0 hz1 hz2 rfl (by decide) _ (fo k).length (ndCells (fo k)) rfl RO.out ⟨wr.heap.size, 0, none⟩ 1 1 (ndCells [⟨47, 1, ys, ⟨#[]⟩⟩]) rfl rfl CN.out (ndCells_one _) ?c1 ?c2 ?c3 ?_)
      case c1 => unfold maxLen; omega
      case c2 => omega
      case c3 => first | omega | (simp; omega)
      intro v3 w3 hown hgrow _
      have hown' : w3.ownsRow w1.heap.size 44 4 v3 (fo k ++ [(⟨47, 1, ys, ⟨#[]⟩⟩ : Nd)]).length (ndCells (fo k ++ [(⟨47, 1, ys, ⟨#[]⟩⟩ : Nd)])) := by
        rw [ndCells_append, List.length_append]; exact hown
      have B3 := Lib.hid (below_append hB.out (Nat.le_refl _) hO.out _ hgrow)
      obtain ⟨A3, c3, rfl, -⟩ := nds_of_own hown'
      have hl3 : (fo k ++ [(⟨47, 1, ys, ⟨#[]⟩⟩ : Nd)]).length = (fo k).length + 1 := by rw [List.length_append]; rfl
      rw [hl3] at hown'
      rw [hl3]
      have HL3 := Lib.hid hl3
      have O3 := Lib.hid hown'
      obtain ⟨q13, h13⟩ := HQ.out w3 B3.out
      have C3 := Lib.hid h13
      clear hown hown' hgrow hl3 h13 HQ RO CN q2 hO hB BW
      go_wp2_with fail
      refine C3.out.mono ?_
      rintro e w4 ⟨A4, c4, rfl, n4, b4, -⟩
      obtain ⟨a4, rfl, -, -, -⟩ := head_at n4
      have O4 := Lib.hid (own_kept_below O3.out b4)
      have N4 := Lib.hid n4
      have B4 := Lib.hid (B3.out.trans (b4.mono B3.out.size))
      have hs4 := B4.out.size
      clear n4 b4 O3 B3 C3 q13
      go_wp2_with (at_builtin; refine wpList_append_own _ rfl _ _ 22 rfl w1.heap.size 44 i0 _ 4 48 Tryz.underlying22 hi hz0 hz1 hz2 rfl (by decide) _ ((fo k).length + 1) (ndCells (fo k ++ [(⟨47, 1, ys, ⟨#[]⟩⟩ : Nd)])) rfl O4.out a4 (ownV yv).flat.length c4 (ndCells (ownV yv).flat) rfl (ndCells_length _) N4.out.at_.cells (ndCells_one _) ?d1 ?d2 ?d3 ?_)
      case d1 => unfold maxLen; omega
      case d2 => omega
      case d3 => exact hs4
      intro v5 w5 hown2 hgrow2 _
      have O5 := Lib.hid (show w5.ownsRow w1.heap.size 44 4 v5 (fo (k + 1)).length (ndCells (fo (k + 1))) by
        rw [HS1.out, ndCells_append, List.length_append, HL3.out]
        exact hown2)
      have B5 := Lib.hid (B4.out.grown hgrow2 hs4 (own_base O4.out))
      obtain ⟨A5, c5, rfl, -⟩ := nds_of_own O5.out
      clear hown2 hgrow2 O4 N4 B4
      go_wp2_with fail
      go_roundw
      case rel => exact ⟨k + 1, A5, c5, by go_num, hlt, rfl, O5, B5⟩
      case measure => simp [intOf]; omega
    · have hke : k = R.length := by omega
      have HFE := Lib.hid (show fo k = ow.flat by rw [hke]; exact HOE.out)
      have NF := Lib.hid (show NdsOk ow.flat from Kd.valid.nds HOV.out (by have := HOZ.out; omega))
      have hlo : ow.flat.length ≤ 400 := by rw [flat_len]; exact HOZ.out
      go_wp2_with fail
      go_ret
      have o := hO.out
      rw [HFE.out] at o ⊢
      exact ⟨Ao, co, rfl, ns_of_row o (by omega) NF.out, BW.out, fun y hy => .inl (by subst hy; have := own_base o _ rfl; have := B1.out.size; omega)⟩
theorem ref_Own : ∀ N : Nat, OwnRC N
  | 0 => fun P hN hP => by
    have := (isV_zero.1 hP).2.pos
    omega
  | N + 1 => by
    intro P hN hP A n c w h
    obtain ⟨h200, hV⟩ := isV_zero.1 hP
    by_cases h5 : headOp P = 5
    · exact rown_set N (ref_Own N) A n c P w h hN hP h5
    by_cases h6 : headOp P = 6
    · exact rown_rec N (ref_Own N) A n c P w h hN hP h6
    exact rown_leaf A n c P w h hV h5 h6
end Go.Proofs.YtmekockjgldndaaGreatDoor
namespace Go.Proofs.YtmekockjgldndaaGreatDoor
open Go.RowKit Go.Wk Go.Sort
set_option maxRecDepth 100000

theorem len_sum : ∀ L : List (List Nd), (∀ Q ∈ L, 1 ≤ Q.length) → L.length ≤ (L.map List.length).sum
  | [], _ => Nat.le_refl _
  | Q :: L, h => by
    have h1 := h Q (by simp)
    have h2 := len_sum L fun Q hQ => h Q (by simp [hQ])
    simp only [List.length_cons, List.map_cons, List.sum_cons]
    omega
theorem joinK_joins {q : Kd} {L : List (List Nd)} {k : Nat} (hq : q = ((L.take k).map ownV).foldl joinK (.base 49)) (h : k < L.length) : joinK q (ownV L[k]) = ((L.take (k + 1)).map ownV).foldl joinK (.base 49) := by
  rw [fold_snoc h, hq]
/-- What the loop over a set's parts keeps. -/
structure SLp (w wr : World) (vp : Value) (V : List Sl) (q : Kd) (o n : Int) (s t : ByteArray) (p A : Option Addr) (m c : Nat) : Prop where
  R : Bx6 wr w.heap.size (.int .i64 0) (.int .i64 0) (.string ⟨#[]⟩) (.string ⟨#[]⟩) (.pointer none) (.slice none 0 0)
  X : Bx6 wr (w.heap.size + 2) (.int .i64 o) (.int .i64 n) (.string s) (.string t) (.pointer p) (.slice A m c)
  K : KAt wr (fun b => w.heap.size + 3 ≤ b) q [.int .i64 o, .int .i64 n, .string s, .string t, .pointer p, .slice A m c]
  V : OwnSls wr (w.heap.size + 3) vp V
  G : Below w.heap.size w wr
  z : w.heap.size + 3 ≤ wr.heap.size
set_option maxHeartbeats 8000000 in
theorem own_set (N : Nat) (ih : OwnC N) (A : Option Addr) (n c : Nat) (P : List Nd) (w : World) (hN : P.length ≤ N + 1) (h200 : P.length ≤ 200) (hns : Ns w A n c P) (hV : IsV P) (h5 : headOp P = 5) :
    Calls Tryz.prog 54 #[.slice A n c] w (OwnPost w (ownV P)) := by
  have HE := Lib.hid (ownV_5 hV h5)
  have HPV := Lib.hid (isV_set hV h5).2.2.1
  have HPS := Lib.hid (fun Q (hQ : Q ∈ setParts P) => set_smaller hV h5 hQ)
  have HPF := Lib.hid (show (setParts P).flatten.length ≤ 200 by
    have := (isV_set hV h5).1
    have h2 := congrArg List.length this
    rw [List.length_cons] at h2
    omega)
  have HPT := Lib.hid (show prtL P = setParts P ∧ prtE P = 0 by
    have h0 : valFault P = 0 := isV_zero.2 ⟨h200, hV⟩
    have h1 : prtE P = 0 := by unfold prtE; rw [if_pos h0, if_pos (.inl h5)]
    refine ⟨?_, h1⟩
    unfold prtL
    rw [if_pos h1, if_pos h5])
  have HPA := Lib.hid (fun w' hb => val_Parts A n c P w' (hns.keep (w' := w') hb))
  obtain ⟨x, r, rfl, -, -⟩ := isV_head hV
  change x.op = 5 at h5
  obtain ⟨a, rfl, q0, q1, q2, q3⟩ := hns.at_ 0 x rfl
  rw [show a.add (0 * 4) = a from rfl] at q0 q1 q2 q3
  have hl : a.block < w.heap.size := block_lt_of_cell q0
  have hn1 : 1 ≤ n := by rw [hns.len, List.length_cons]; omega
  have hm := hns.max
  unfold maxLen at hm
  rw [h5] at q0
  have HP := Lib.hid hN
  generalize ownV (x :: r) = kk at *
  obtain ⟨PP, hPP⟩ : ∃ PP, PP = x :: r := ⟨_, rfl⟩
  rw [← hPP] at HE HPV HPS HPF HPT HPA HP
  have IH := Lib.hid ih
  clear hns hV h5 hPP hN h200 ih
  have Ba := below_box w (.cells #[.int .i64 0, .int .i64 0, .string ⟨#[]⟩, .string ⟨#[]⟩, .pointer none, .slice none 0 0] 85)
  have Bb := below_box (w.alloc (.cells #[.int .i64 0, .int .i64 0, .string ⟨#[]⟩, .string ⟨#[]⟩, .pointer none, .slice none 0 0] 85)) (.cells #[.int .i64 5, .int .i64 x.n, .string x.s, .string x.t] 44)
  have Bc := below_box ((w.alloc (.cells #[.int .i64 0, .int .i64 0, .string ⟨#[]⟩, .string ⟨#[]⟩, .pointer none, .slice none 0 0] 85)).alloc (.cells #[.int .i64 5, .int .i64 x.n, .string x.s, .string x.t] 44)) (.cells #[.int .i64 49, .int .i64 0, .string ⟨#[]⟩, .string ⟨#[]⟩, .pointer none, .slice none 0 0] 85)
  have B3 := Lib.hid (Ba.trans ((Bb.trans (Bc.mono (by simp))).mono (by simp)))
  have XR := Lib.hid (((bx6_new w (.int .i64 0) (.int .i64 0) (.string ⟨#[]⟩) (.string ⟨#[]⟩) (.pointer none) (.slice none 0 0) 85).keep Bb).keep Bc)
  have xp := bx6_new ((w.alloc (.cells #[.int .i64 0, .int .i64 0, .string ⟨#[]⟩, .string ⟨#[]⟩, .pointer none, .slice none 0 0] 85)).alloc (.cells #[.int .i64 5, .int .i64 x.n, .string x.s, .string x.t] 44)) (.int .i64 49) (.int .i64 0) (.string ⟨#[]⟩) (.string ⟨#[]⟩) (.pointer none) (.slice none 0 0) 85
  have hz2 : ((w.alloc (.cells #[.int .i64 0, .int .i64 0, .string ⟨#[]⟩, .string ⟨#[]⟩, .pointer none, .slice none 0 0] 85)).alloc (.cells #[.int .i64 5, .int .i64 x.n, .string x.s, .string x.t] 44)).heap.size = w.heap.size + 2 := by simp
  have hz3 : (((w.alloc (.cells #[.int .i64 0, .int .i64 0, .string ⟨#[]⟩, .string ⟨#[]⟩, .pointer none, .slice none 0 0] 85)).alloc (.cells #[.int .i64 5, .int .i64 x.n, .string x.s, .string x.t] 44)).alloc (.cells #[.int .i64 49, .int .i64 0, .string ⟨#[]⟩, .string ⟨#[]⟩, .pointer none, .slice none 0 0] 85)).heap.size = w.heap.size + 3 := by simp
  rw [hz2] at xp
  have XP := Lib.hid xp
  have HZ3 := Lib.hid hz3
  clear Ba Bb Bc xp hz2 hz3
  go_enter Tryz.func54, Tryz.ntmps54
  go_wp2_with fail
  obtain ⟨w3, hw3⟩ : ∃ w3, (((w.alloc (.cells #[.int .i64 0, .int .i64 0, .string ⟨#[]⟩, .string ⟨#[]⟩, .pointer none, .slice none 0 0] 85)).alloc (.cells #[.int .i64 5, .int .i64 x.n, .string x.s, .string x.t] 44)).alloc (.cells #[.int .i64 49, .int .i64 0, .string ⟨#[]⟩, .string ⟨#[]⟩, .pointer none, .slice none 0 0] 85)) = w3 := ⟨_, rfl⟩
  rw [hw3] at B3 XR XP HZ3 ⊢
  clear hw3 q0 q1 q2 q3
  refine (HPA.out _ B3.out).mono ?_
  rintro e w4 ⟨v, V, rfl, hV4, hVL, hVA, b4⟩
  rw [HPT.out.2, errV_zero]
  rw [HPT.out.1] at hVL
  have HVL := Lib.hid hVL
  rw [HZ3.out] at hV4
  have HVA := Lib.hid (show ∀ r ∈ V, ∀ a, r.A = some a → w.heap.size + 3 ≤ a.block from fun r hr a ha => by have := hVA r hr a ha; have := HZ3.out; omega)
  have LP := Lib.hid (show SLp w w4 v V (.base 49) 49 0 ⟨#[]⟩ ⟨#[]⟩ none none 0 0 from ⟨XR.out.keep b4, XP.out.keep b4, ⟨0, rfl⟩, hV4, B3.out.trans (b4.mono B3.out.size), by have := b4.size; have := HZ3.out; omega⟩)
  obtain ⟨A5, c5, hv5, -, -⟩ := hV4.at
  obtain ⟨nv, hnv⟩ : ∃ nv, nv = V.length := ⟨_, rfl⟩
  have HNV := Lib.hid hnv
  have HNL := Lib.hid (show nv ≤ 200 by
    have h1 := congrArg List.length hVL
    rw [List.length_map] at h1
    have h2 := HPF.out
    rw [flat_sum] at h2
    have h3 := len_sum (setParts PP) (fun Q hQ => by obtain ⟨x, r, e, -⟩ := isV_head (HPV.out Q hQ); rw [e]; simp)
    omega)
  rw [← hnv] at hv5
  subst hv5
  have hnl : nv ≤ 200 := HNL.out
  clear hV4 hVL hVA hnv b4 B3 XR XP HPA
  go_wp2_with fail
  go_loopw [49] (fun i wr => ∃ (k : Nat) (q : Kd) (o n' : Int) (s t : ByteArray) (p A : Option Addr) (m c : Nat), i = .int .i64 k ∧ k ≤ nv ∧ Hid (q = (((setParts PP).take k).map ownV).foldl joinK (.base 49)) ∧ Hid (SLp w wr (.slice A5 nv c5) V q o n' s t p A m c)) (fun i _ => nv - (intOf i).toNat)
  case atStart => exact ⟨0, _, _, _, _, _, _, _, _, _, rfl, Nat.zero_le _, Lib.hid rfl, LP⟩
  case round =>
    clear LP
    obtain ⟨k, q, o, n', s, t, p, A, m, c, rfl, hk, hq, hL⟩ := hrel
    by_cases hlt : k < nv
    · have hkV : k < V.length := by rw [← HNV.out]; exact hlt
      have hkS : k < (setParts PP).length := by rw [← HVL.out, List.length_map]; exact hkV
      have heP : V[k].P = (setParts PP)[k] := by simp [← HVL.out]
      have hmem : (setParts PP)[k] ∈ setParts PP := List.getElem_mem hkS
      have HVK := Lib.hid (HPV.out _ hmem)
      have HLT := Lib.hid (HPS.out _ hmem)
      have HL2 := Lib.hid (show (setParts PP)[k].length ≤ 200 by have := mem_flat hmem; have := HPF.out; omega)
      have HNX := Lib.hid (joinK_joins hq.out hkS)
      have HQV := Lib.hid (show q.valid by rw [hq.out]; exact fold_valid HPV.out k)
      have HQS := Lib.hid (show q.sz ≤ 90000 by
        have h1 := fold_sz HPV.out k
        have h2 := HPF.out
        rw [← hq.out] at h1
        omega)
      obtain ⟨A5', c5', e5, -, hsl⟩ := hL.out.V.at
      injection e5 with e5 e5n e5'
      clear e5n
      subst e5 e5'
      obtain ⟨a5, rfl, hcell, hns5⟩ := hsl.at hkV
      rw [heP] at hns5
      obtain ⟨y, hy⟩ : ∃ y, y = V[k] := ⟨_, rfl⟩
      rw [← hy] at hcell hns5
      obtain ⟨yP, hyP⟩ : ∃ yP, yP = (setParts PP)[k] := ⟨_, rfl⟩
      rw [← hyP] at hns5 HVK HLT HL2 HNX
      obtain ⟨yA, yn, yc, yp⟩ := y
      simp only at hcell hns5
      have bd : Below wr.heap.size wr wr.drew := ⟨rfl, rfl, rfl, Nat.le_refl _, fun _ _ => rfl⟩
      have KO := Lib.hid (IH.out yA yn yc yP wr.drew (by have := HLT.out; have := HP.out; omega) HL2.out (hns5.keep bd) HVK.out)
      have HSZ := Lib.hid (own_sz HVK.out)
      have HOV := Lib.hid (own_valid HVK.out)
      have BD := Lib.hid bd
      have HS := Lib.hid (fun (w' : World) (hb : Below wr.heap.size wr w') => (show w'.cell? ⟨w.heap.size + 2, 0, none⟩ = some (.int .i64 o) ∧ w'.cell? ⟨w.heap.size + 2, 1, none⟩ = some (.int .i64 n') ∧ w'.cell? ⟨w.heap.size + 2, 2, none⟩ = some (.string s) ∧ w'.cell? ⟨w.heap.size + 2, 3, none⟩ = some (.string t) ∧ w'.cell? ⟨w.heap.size + 2, 4, none⟩ = some (.pointer p) ∧ w'.cell? ⟨w.heap.size + 2, 5, none⟩ = some (Value.slice A m c) from by
        obtain ⟨a0, a1, a2, a3, a4, a5, -, -, -, -, -, -⟩ := hL.out.X.keep hb
        exact ⟨a0, a1, a2, a3, a4, a5⟩))
      clear heP hmem hsl hy hyP hns5 bd
      go_wp2_with fail
      clear hcell
      refine wp_region_noPanic ?_
      refine wp_region_Z (fun (w' : World) => w'.cell? ⟨w.heap.size + 2, 0, none⟩ = some (.int .i64 o) ∧ w'.cell? ⟨w.heap.size + 2, 1, none⟩ = some (.int .i64 n') ∧ w'.cell? ⟨w.heap.size + 2, 2, none⟩ = some (.string s) ∧ w'.cell? ⟨w.heap.size + 2, 3, none⟩ = some (.string t) ∧ w'.cell? ⟨w.heap.size + 2, 4, none⟩ = some (.pointer p) ∧ w'.cell? ⟨w.heap.size + 2, 5, none⟩ = some (Value.slice A m c)) 4 (by kernel_rfl) (HS.out _ BD.out) (fun hHeld => ?_)
      refine wpAnyZ_take (i := 0) (oi := ⟨some 53, _, _, _, _, _⟩) (v := .agg #[.int .i64 o, .int .i64 n', .string s, .string t, .pointer p, .slice A m c]) rfl (by kernel_rfl) (by kernel_rfl) (by kernel_rfl) (by kernel_rfl) (fun _ _ _ h => h) (.inl ⟨by rfl, fun w' hSw => ?_⟩) hHeld ?_
      · obtain ⟨a0, a1, a2, a3, a4, a5⟩ := hSw
        go_simp
      simp only [Act.put, List.setIfInBounds_toArray, List.set_cons_zero, List.set_cons_succ]
      refine wpAnyZ_take (i := 1) (oi := ⟨some 54, _, _, _, _, _⟩) (v := .slice yA yn yc) rfl (by kernel_rfl) (by kernel_rfl) (by kernel_rfl) (by kernel_rfl) (fun _ _ _ h => h) (.inl ⟨by rfl, fun w' hSw => ?_⟩) hHeld ?_
      · clear hSw
        go_simp
      simp only [Act.put, List.setIfInBounds_toArray, List.set_cons_zero, List.set_cons_succ]
      refine wpAnyZ_one (i := 2) (o := ⟨some 55, _, _, _, _, _⟩) (by kernel_rfl) rfl (fun K' hK' => ?_)
      go_simp
      go_at_call 54
      refine KO.out.mono ?_
      rintro e w6 ⟨u, rfl, ku, b6⟩
      have B6 := Lib.hid (BD.out.trans (b6.mono BD.out.size))
      have KJ := Lib.hid (kind_join _ q (ownV yP) _ u w6 (fun b => w.heap.size + 3 ≤ b ∧ b < w6.heap.size) (Nat.le_refl _) HQS.out (by have := HSZ.out; have := HL2.out; omega)
        (((hL.out.K.mono (B' := fun b => w.heap.size + 3 ≤ b ∧ b < wr.heap.size) fun b h1 h2 => ⟨h1, h2⟩).cong (w' := w6) fun b hb => B6.out.block b hb.2).mono fun b hb h2 => ⟨hb.1, h2⟩)
        (ku.mono fun b h1 h2 => ⟨Nat.le_trans hL.out.z h1, h2⟩) HQV.out HOV.out (fun b hb => hb.2))
      obtain ⟨o6, n6, s6, t6, p6, A6, m6, c6, rfl⟩ := kat_six ku
      clear ku b6
      go_wp2_with fail
      refine hK'.out _ _ (fun _ => HS.out _ B6.out) ?_
      clear hK' K' hHeld
      try simp only [Act.put, List.setIfInBounds_toArray, List.set_cons_zero, List.set_cons_succ]
      refine wpAnyZ_one (i := 3) (o := ⟨some 56, _, _, _, _, _⟩) (by kernel_rfl) rfl (fun K' hK' => ?_)
      go_simp
      go_at_call 103
      refine KJ.out.mono ?_
      rintro e w7 ⟨u, rfl, ku, b7⟩
      have B7 := Lib.hid (B6.out.trans (b7.mono B6.out.size))
      obtain ⟨o7, n7, s7, t7, p7, A7, m7, c7, rfl⟩ := kat_six ku
      have KU := Lib.hid (ku.mono (B' := fun b => w.heap.size + 3 ≤ b) fun b h1 _ => by
        rcases h1 with h | h
        · exact h.1
        · have := hL.out.z; have := B6.out.size; omega)
      clear ku b7 KJ
      go_wp2_with fail
      refine hK'.out _ _ (fun _ => HS.out _ B7.out) ?_
      clear hK' K'
      try simp only [Act.put, List.setIfInBounds_toArray, List.set_cons_zero, List.set_cons_succ]
      obtain ⟨a0, a1, a2, a3, a4, a5, j0, j1, j2, j3, j4, j5⟩ := hL.out.X.keep B7.out
      refine wpAnyZ_one (i := 4) (o := ⟨none, _, _, _, _, _⟩) (by kernel_rfl) rfl (fun K' hK' => ?_)
      go_simp
      refine hK'.out _ _ (fun h => absurd rfl h) ?_
      refine wpAnyZ_done (by kernel_rfl) ?_
      refine NoPanic.normal ?_
      clear hK' K' a0 a1 a2 a3 a4 a5 j0 j1 j2 j3 j4 j5
      have gs := grown_set6 w7 (w.heap.size + 2) (.int .i64 o7) (.int .i64 n7) (.string s7) (.string t7) (.pointer p7) (.slice A7 m7 c7)
      have V7 := hL.out.V.keep B7.out
      have HNL := Lib.hid (show SLp w ((((((w7.setCell ⟨w.heap.size + 2, 0, none⟩ (.int .i64 o7)).setCell ⟨w.heap.size + 2, 1, none⟩ (.int .i64 n7)).setCell ⟨w.heap.size + 2, 2, none⟩ (.string s7)).setCell ⟨w.heap.size + 2, 3, none⟩ (.string t7)).setCell ⟨w.heap.size + 2, 4, none⟩ (.pointer p7)).setCell ⟨w.heap.size + 2, 5, none⟩ (.slice A7 m7 c7)) (.slice (some a5) nv c5) V (joinK q (ownV yP)) o7 n7 s7 t7 p7 A7 m7 c7 from
        ⟨(hL.out.R.keep B7.out).but gs (fun e => by injection e with e; omega), (hL.out.X.keep B7.out).set (.int .i64 o7) (.int .i64 n7) (.string s7) (.string t7) (.pointer p7) (.slice A7 m7 c7),
         KU.out.cong fun b hb => heap_set6 w7 (w.heap.size + 2) (.int .i64 o7) (.int .i64 n7) (.string s7) (.string t7) (.pointer p7) (.slice A7 m7 c7) (by omega),
         V7.row gs (.inr (fun e => by have := (V7.own.lt _ e).1; omega)) (fun r hr _ a ha e => by injection e with e; have := HVA.out r hr a ha; omega),
         below_set6 (hL.out.G.trans (B7.out.mono hL.out.G.size)) (by omega) (.int .i64 o7) (.int .i64 n7) (.string s7) (.string t7) (.pointer p7) (.slice A7 m7 c7), by have := hL.out.z; have := B7.out.size; simp [World.setCell]; omega⟩)
      clear gs V7
      go_wp2_with fail
      go_roundw
      case rel => exact ⟨k + 1, _, o7, n7, s7, t7, p7, A7, m7, c7, by go_num, hlt, HNX, HNL⟩
      case measure => simp [intOf]; omega
    · have hke : k = nv := by omega
      have HK := Lib.hid (show kk = .set q by
        have h1 := hq.out
        have h2 : (setParts PP).length = nv := by rw [← HVL.out, List.length_map, HNV.out]
        rw [hke, ← h2, List.take_length] at h1
        rw [HE.out, h1]
        rfl)
      obtain ⟨r0, r1, r2, r3, r4, r5, y0, y1, y2, y3, y4, y5⟩ := hL.out.R
      go_wp2_with fail
      obtain ⟨j0, j1, j2, j3, j4, j5, -, -, -, -, -, -⟩ := hL.out.R.set (.int .i64 45) (.int .i64 0) (.string ⟨#[]⟩) (.string ⟨#[]⟩) (.pointer (some ⟨w.heap.size + 2, 0, none⟩)) (.slice none 0 0)
      refine bodyPost_ret (v := .agg #[.int .i64 45, .int .i64 0, .string ⟨#[]⟩, .string ⟨#[]⟩, .pointer (some ⟨w.heap.size + 2, 0, none⟩), .slice none 0 0]) (by simp [results, Tryz.results54, go_sem, j0, j1, j2, j3, j4, j5]) rfl ?_
      rw [HK.out]
      refine ⟨[.int .i64 45, .int .i64 0, .string ⟨#[]⟩, .string ⟨#[]⟩, .pointer (some ⟨w.heap.size + 2, 0, none⟩), .slice none 0 0], rfl, ⟨0, w.heap.size + 2, _, rfl, by omega, hL.out.X.row.cong (heap_set6 wr w.heap.size _ _ _ _ _ _ (by show w.heap.size + 2 ≠ w.heap.size; omega)), ?_⟩, below_set6 hL.out.G (Nat.le_refl _) _ _ _ _ _ _⟩
      exact (hL.out.K.cong fun b hb => heap_set6 wr w.heap.size _ _ _ _ _ _ (by omega)).mono fun b hb _ => by omega
end Go.Proofs.YtmekockjgldndaaGreatDoor
namespace Go.Proofs.YtmekockjgldndaaGreatDoor
open Go.RowKit Go.Wk Go.Sort
set_option maxRecDepth 100000

/-- append of one field at a step of a region that draws its order. -/
theorem step_append_fe {ops : Array Oper} {o : Oper} {a : Act} {w : World} {K : Act → World → Prop} {Q : Exit → Act → World → Prop} {E' : Prop} (hgd : o.guard = none) (s x : Operand)
    (ho : o.op = .call { callee := .builtin .append, args := #[s, x], argTypes := #[83, 83] })
    (base : Nat) (v : Value) (E : List Fe) (hs : a.eval s = v) (hrow : RowF w base v E) (z : Fe) (ad : Addr) (c : Nat) (hx : a.eval x = .slice (some ad) 1 c)
    (hnews : ∀ j u, z.eight[j]? = some u → w.cell? (ad.add j) = some u) (hz : KAt w (fun b => base ≤ b ∧ some b ≠ v.ownBlock) z.y.2.2 z.u) (hl : E.length ≤ 1000000) (hbase : base ≤ w.heap.size)
    (h : ∀ v' w', RowF w' base v' (E ++ [z]) → w.grownBy w' v.ownBlock → K (a.put o.dst v') w') :
    if Region.wanted o (yielded ops a.tmps) = true then Oper.wp Tryz.prog o a w K Q else E' := by
  have hi := fdInfo
  cases hq : Tryz.prog.info? 168 with
  | none => rw [hq] at hi; cases hi
  | some i0 =>
    rw [hq] at hi
    simp only [Option.map_some, Option.some.injEq, Prod.mk.injEq] at hi
    refine step_append_lies w hgd s x _ ho base _ i0 _ 8 104 Tryz.underlying83 hq hi.1 hi.2.1 hi.2.2 (by decide) (by decide) v E.length (feCells E) hs hrow.own ad 1 c z.eight hx rfl hnews ?_ (by decide) (by unfold maxLen; omega) (by omega) hbase _ rfl ?_
    · intro u hu
      have := feCells_one [z] u (by simpa [feCells, Fe.eight, Fe.u] using hu)
      exact this
    · intro g cap w' h1 h2 h3 _
      refine h _ w' (hrow.snoc hz h1 h2 ?_) h2
      rcases h3 with h3 | h3
      · exact .inl h3.symm
      · exact .inr (by rw [h3]; rfl)
/-- What the loop over a record's parts keeps. -/
structure RLp (w w4 wr : World) (E : List Fe) (v : Value) : Prop where
  X : Bx6 wr (w.heap.size + 2) (.int .i64 46) (.int .i64 0) (.string ⟨#[]⟩) (.string ⟨#[]⟩) (.pointer none) v
  F : RowF wr w4.heap.size v E
  H : w4.grownBy wr (some (w.heap.size + 2))
/-- The rest of a slice of nodes, from a place on. -/
theorem ns_rest {w : World} {a : Addr} {n c i : Nat} {P : List Nd} (h : Ns w (some a) n c P) (hi : i ≤ n) (hlt : i < n → i < c) (a' : Addr) (ha : i < c → a' = a.add (i * 4)) : Ns w (some a') (n - i) (c - i) (P.drop i) := by
  have hl := h.len
  have hc := h.cap
  have hm := h.max
  refine ⟨by rw [List.length_drop]; omega, by omega, by omega, fun k y hy => ?_, fun y hy => h.ok y (List.mem_of_mem_drop hy)⟩
  rw [List.getElem?_drop] at hy
  have hk : i + k < P.length := by
    rcases Nat.lt_or_ge (i + k) P.length with h1 | h1
    · exact h1
    · rw [List.getElem?_eq_none h1] at hy; cases hy
  obtain ⟨b, e, q0, q1, q2, q3⟩ := h.at_ (i + k) y hy
  injection e with e
  subst e
  refine ⟨a', rfl, ?_⟩
  rw [ha (hlt (by omega)), add_add, show i * 4 + k * 4 = (i + k) * 4 by omega]
  exact ⟨q0, q1, q2, q3⟩
theorem flatR_drop (L : List (ByteArray × List Nd)) (k : Nat) (h : k < L.length) : flatR (L.drop k) = fieldN L[k].1 :: (L[k].2 ++ flatR (L.drop (k + 1))) := by
  rw [List.drop_eq_getElem_cons h]; rfl
set_option maxHeartbeats 2000000 in
theorem own_rec (N : Nat) (ih : OwnC N) (A : Option Addr) (n c : Nat) (P : List Nd) (w : World) (hN : P.length ≤ N + 1) (h200 : P.length ≤ 200) (hns : Ns w A n c P) (hV : IsV P) (h6 : headOp P = 6) :
    Calls Tryz.prog 54 #[.slice A n c] w (OwnPost w (ownV P)) := by
  have HE := Lib.hid (ownV_6 hV h6)
  have HPV := Lib.hid (isV_rec hV h6).2.2.1
  have HPS := Lib.hid (fun x (hx : x ∈ recParts P) => rec_smaller hV h6 hx)
  have HPF := Lib.hid (isV_rec hV h6).1
  have HPT := Lib.hid (show prtL P = (recParts P).map (·.2) ∧ prtE P = 0 by
    have h0 : valFault P = 0 := isV_zero.2 ⟨h200, hV⟩
    have h1 : prtE P = 0 := by unfold prtE; rw [if_pos h0, if_pos (.inr h6)]
    refine ⟨?_, h1⟩
    unfold prtL
    rw [if_pos h1, if_neg (by omega)])
  have HPA := Lib.hid (fun w' hb => val_Parts A n c P w' (hns.keep (w' := w') hb))
  have HNS := Lib.hid hns
  have HLEN := Lib.hid hns.len
  obtain ⟨x, r, hPx, -, -⟩ := isV_head hV
  have hop : x.op = 6 := by rw [hPx] at h6; exact h6
  obtain ⟨a, rfl, q0, q1, q2, q3⟩ := hns.at_ 0 x (by rw [hPx]; rfl)
  rw [show a.add (0 * 4) = a from rfl] at q0 q1 q2 q3
  have hl : a.block < w.heap.size := block_lt_of_cell q0
  have hn1 : 1 ≤ n := by rw [hns.len, hPx, List.length_cons]; omega
  have hnc : n ≤ c := hns.cap
  have hm := hns.max
  unfold maxLen at hm
  rw [hop] at q0
  have HP := Lib.hid hN
  have H200 := Lib.hid h200
  generalize ownV P = kk at *
  have IH := Lib.hid ih
  clear hns hV h6 hPx hop hN h200 ih
  have Ba := below_box w (.cells #[.int .i64 0, .int .i64 0, .string ⟨#[]⟩, .string ⟨#[]⟩, .pointer none, .slice none 0 0] 85)
  have Bb := below_box (w.alloc (.cells #[.int .i64 0, .int .i64 0, .string ⟨#[]⟩, .string ⟨#[]⟩, .pointer none, .slice none 0 0] 85)) (.cells #[.int .i64 6, .int .i64 x.n, .string x.s, .string x.t] 44)
  have Bc := below_box ((w.alloc (.cells #[.int .i64 0, .int .i64 0, .string ⟨#[]⟩, .string ⟨#[]⟩, .pointer none, .slice none 0 0] 85)).alloc (.cells #[.int .i64 6, .int .i64 x.n, .string x.s, .string x.t] 44)) (.cells #[.int .i64 46, .int .i64 0, .string ⟨#[]⟩, .string ⟨#[]⟩, .pointer none, .slice none 0 0] 85)
  have B3 := Lib.hid (Ba.trans ((Bb.trans (Bc.mono (by simp))).mono (by simp)))
  have XR := Lib.hid (((bx6_new w (.int .i64 0) (.int .i64 0) (.string ⟨#[]⟩) (.string ⟨#[]⟩) (.pointer none) (.slice none 0 0) 85).keep Bb).keep Bc)
  have xp := bx6_new ((w.alloc (.cells #[.int .i64 0, .int .i64 0, .string ⟨#[]⟩, .string ⟨#[]⟩, .pointer none, .slice none 0 0] 85)).alloc (.cells #[.int .i64 6, .int .i64 x.n, .string x.s, .string x.t] 44)) (.int .i64 46) (.int .i64 0) (.string ⟨#[]⟩) (.string ⟨#[]⟩) (.pointer none) (.slice none 0 0) 85
  have hz2 : ((w.alloc (.cells #[.int .i64 0, .int .i64 0, .string ⟨#[]⟩, .string ⟨#[]⟩, .pointer none, .slice none 0 0] 85)).alloc (.cells #[.int .i64 6, .int .i64 x.n, .string x.s, .string x.t] 44)).heap.size = w.heap.size + 2 := by simp
  have hz3 : (((w.alloc (.cells #[.int .i64 0, .int .i64 0, .string ⟨#[]⟩, .string ⟨#[]⟩, .pointer none, .slice none 0 0] 85)).alloc (.cells #[.int .i64 6, .int .i64 x.n, .string x.s, .string x.t] 44)).alloc (.cells #[.int .i64 46, .int .i64 0, .string ⟨#[]⟩, .string ⟨#[]⟩, .pointer none, .slice none 0 0] 85)).heap.size = w.heap.size + 3 := by simp
  rw [hz2] at xp
  have XP := Lib.hid xp
  have HZ3 := Lib.hid hz3
  clear Ba Bb Bc xp hz2 hz3
  have HFL := Lib.hid (show (flatR (recParts P)).length + 1 = n by
    have h2 := congrArg List.length HPF.out
    rw [List.length_cons] at h2
    rw [HLEN.out]; exact h2.symm)
  have HR1 := Lib.hid (show c = 1 → Ns w (some a) 0 0 (flatR (recParts P)) from fun h => by
    have h0 : flatR (recParts P) = [] := List.eq_nil_of_length_eq_zero (by have := HFL.out; omega)
    rw [h0]
    exact ⟨rfl, Nat.le_refl _, Nat.zero_le _, fun k y hy => by simp at hy, fun y hy => nomatch hy⟩)
  have HR2 := Lib.hid (show ¬ c = 1 → Ns w (some (a.add 4)) (n - 1) (c - 1) (flatR (recParts P)) from fun h => by
    have h1 := ns_rest (i := 1) HNS.out hn1 (fun h => by omega) (a.add 4) (fun _ => rfl)
    rw [HPF.out] at h1
    exact h1)
  rcases Decidable.em (c = 1) with rfl | hc
  all_goals
    go_enter Tryz.func54, Tryz.ntmps54
    go_wp2_with fail
    obtain ⟨w3, hw3⟩ : ∃ w3, ((w.alloc (.cells #[.int .i64 0, .int .i64 0, .string ⟨#[]⟩, .string ⟨#[]⟩, .pointer none, .slice none 0 0] 85)).alloc (.cells #[.int .i64 6, .int .i64 x.n, .string x.s, .string x.t] 44)).alloc (.cells #[.int .i64 46, .int .i64 0, .string ⟨#[]⟩, .string ⟨#[]⟩, .pointer none, .slice none 0 0] 85) = w3 := ⟨_, rfl⟩
    rw [hw3] at B3 XR XP HZ3 ⊢
    clear hw3 q0 q1 q2 q3
    refine (HPA.out _ B3.out).mono ?_
    rintro e w4 ⟨v, V, rfl, hV4, hVL, hVA, b4⟩
    rw [HPT.out.2, errV_zero]
    rw [HPT.out.1] at hVL
    have HVL := Lib.hid hVL
    rw [HZ3.out] at hV4
    have HVA := Lib.hid (show ∀ r ∈ V, ∀ a, r.A = some a → w.heap.size + 3 ≤ a.block from fun r hr a ha => by have := hVA r hr a ha; have := HZ3.out; omega)
    have HB4 := Lib.hid (B3.out.trans (b4.mono B3.out.size))
    have XR4 := Lib.hid (XR.out.keep b4)
    have XP4 := Lib.hid (XP.out.keep b4)
    have HZ4 := Lib.hid (show w.heap.size + 3 ≤ w4.heap.size by have := b4.size; have := HZ3.out; omega)
    have HV4 := Lib.hid hV4
    obtain ⟨A5, c5, hv5, -, -⟩ := hV4.at
    obtain ⟨nv, hnv⟩ : ∃ nv, nv = V.length := ⟨_, rfl⟩
    have HNV := Lib.hid hnv
    have hnl : nv ≤ 200 := by
      have h1 := congrArg List.length hVL
      rw [List.length_map, List.length_map] at h1
      have h2 := congrArg List.length HPF.out
      rw [List.length_cons, flatR_lenK] at h2
      have h3 : (recParts P).length ≤ ((recParts P).map fun x => x.2.length + 1).sum := by
        have : ∀ L : List (ByteArray × List Nd), L.length ≤ (L.map fun x => x.2.length + 1).sum := fun L => by
          induction L with
          | nil => exact Nat.le_refl _
          | cons y L ih => simp only [List.length_cons, List.map_cons, List.sum_cons]; omega
        exact this _
      have := H200.out
      omega
    rw [← hnv] at hv5
    subst hv5
    clear hV4 hVL hVA hnv b4 B3 XR XP HPA
    go_wp2_with fail
    go_loopw [10, 71] (fun u i wr => ∃ (k : Nat) (E : List Fe) (v : Value) (Ar : Option Addr) (nr cr : Nat), u = .slice Ar nr cr ∧ i = .int .i64 k ∧ k ≤ nv ∧ Hid (E.map Fe.y = ((recParts P).take k).map fun x => (x.1, true, ownV x.2)) ∧ Hid (Ns w4 Ar nr cr (flatR ((recParts P).drop k)) ∧ ∀ b, Ar = some b → b.block < w.heap.size) ∧ Hid (RLp w w4 wr E v)) (fun _ i _ => nv - (intOf i).toNat)
    case atStart =>
      refine ⟨0, [], _, _, _, _, rfl, rfl, Nat.zero_le _, Lib.hid rfl, Lib.hid ⟨?_, ?_⟩, Lib.hid ⟨XP4.out, RowF.nil _ _, World.grownBy.refl _ _⟩⟩
      · rw [List.drop_zero]
        first
          | exact (HR1.out (by trivial)).keep HB4.out
          | exact (HR2.out (by assumption)).keep HB4.out
      · intro b e
        injection e with e
        subst e
        exact hl
    case round =>
      obtain ⟨k, E, v, Ar, nr, cr, rfl, rfl, hk, hE, hN, hL⟩ := hrel
      by_cases hlt : k < nv
      · have hkV : k < V.length := by rw [← HNV.out]; exact hlt
        have hkS : k < (recParts P).length := by
          have := congrArg List.length HVL.out
          rw [List.length_map, List.length_map] at this
          omega
        have heP : V[k].P = (recParts P)[k].2 := by
          have h1 : (V.map Sl.P)[k]? = ((recParts P).map (·.2))[k]? := by rw [HVL.out]
          rw [List.getElem?_map, List.getElem?_map, List.getElem?_eq_getElem hkV, List.getElem?_eq_getElem hkS] at h1
          simpa using h1
        have hmem : (recParts P)[k] ∈ recParts P := List.getElem_mem hkS
        have HVK := Lib.hid (HPV.out _ hmem).1
        have HLT := Lib.hid (HPS.out _ hmem)
        have HDR := Lib.hid (flatR_drop (recParts P) k hkS)
        have HNX := Lib.hid (show ∀ z : Fe, z.y = ((recParts P)[k].1, true, ownV (recParts P)[k].2) → (E ++ [z]).map Fe.y = ((recParts P).take (k + 1)).map fun x => (x.1, true, ownV x.2) from fun z hz => by
          rw [List.take_succ_eq_append_getElem hkS, List.map_append, List.map_append, hE.out]
          simp [hz])
        have HEL := Lib.hid (show E.length ≤ 1000000 by
          have := congrArg List.length hE.out
          simp at this
          omega)
        have hns := hN.out.1
        rw [HDR.out] at hns
        obtain ⟨ar, har, -, -, g2, -⟩ := hns.at_ 0 _ rfl
        have hab := hN.out.2 ar har
        subst har
        rw [show ar.add (0 * 4) = ar from rfl] at g2
        have hnr1 : 1 ≤ nr := by have := hns.len; rw [List.length_cons] at this; omega
        have hnr0 : ¬ nr = 0 := by omega
        have hnr2 : (0 : Int) < (nr : Int) := by omega
        have HNR := Lib.hid hns.len
        have HNC := Lib.hid hns.cap
        have HNM := Lib.hid hns.max
        have HRN := Lib.hid hns
        obtain ⟨A5', c5', e5, -, hsl⟩ := HV4.out.at
        injection e5 with e5 e5n e5'
        clear e5n
        subst e5 e5'
        obtain ⟨a5, rfl, hcell, hns5⟩ := hsl.at hkV
        rw [heP] at hns5
        have hA5 : w.heap.size + 3 ≤ a5.block := by
          rcases HV4.out.own.2 with ⟨e0, -⟩ | ⟨gg, cap, cur, e0, hBg, -⟩
          · cases e0
          · injection e0 with e0; injection e0 with e0; subst e0; exact hBg
        have HVK5 := Lib.hid (HVA.out _ (List.getElem_mem hkV))
        obtain ⟨y, hy⟩ : ∃ y, y = V[k] := ⟨_, rfl⟩
        rw [← hy] at hcell hns5 HVK5
        obtain ⟨yP, hyP⟩ : ∃ yP, yP = (recParts P)[k].2 := ⟨_, rfl⟩
        obtain ⟨nm, hnm⟩ : ∃ nm, nm = (recParts P)[k].1 := ⟨_, rfl⟩
        rw [← hyP] at hns5 HVK HLT HNX HRN HNR
        rw [← hnm] at HNX HRN HNR
        have g2 : w4.cell? ⟨ar.block, ar.off + 2, none⟩ = some (.string nm) := by rw [hnm]; exact g2
        obtain ⟨yA, yn, yc, yp⟩ := y
        simp only at hcell hns5 HVK5
        have hyn : yn = yP.length := hns5.len
        have hynr : yn + 1 ≤ nr := by have := HNR.out; rw [List.length_cons, List.length_append] at this; omega
        have HYN := Lib.hid hyn
        have hcell2 : wr.cell? (a5.add k) = some (.slice yA yn yc) := (World.cell?_of_block (hL.out.H.block (a5.add k).block (block_lt_of_cell hcell) (fun e => by rw [add_block] at e; injection e with e; omega))).trans hcell
        have hns6 := Ns.row (r := ⟨yA, yn, yc, yP⟩) hns5 hL.out.H (fun _ b hb e => by injection e with e; have := HVK5.out b hb; omega)
        have hab2 : ar.block < w4.heap.size := block_lt_of_cell (a := ⟨ar.block, ar.off + 2, none⟩) g2
        have G2 := Lib.hid (show ∀ w', w4.grownBy w' (some (w.heap.size + 2)) → w'.cell? ⟨ar.block, ar.off + 2, none⟩ = some (.string nm) from fun w' hg => (World.cell?_of_block (a := ⟨ar.block, ar.off + 2, none⟩) (hg.block ar.block hab2 (fun e => by injection e with e; omega))).trans g2)
        have bd : Below wr.heap.size wr wr.drew := ⟨rfl, rfl, rfl, Nat.le_refl _, fun _ _ => rfl⟩
        have KO := Lib.hid (IH.out yA yn yc yP wr.drew (by have := HLT.out; have := HP.out; omega) (by have := HLT.out; have := H200.out; omega) (hns6.keep bd) HVK.out)
        have HW := Lib.hid hL.out.H.size
        have BD := Lib.hid bd
        have HS := Lib.hid (fun (w' : World) (hb : Below wr.heap.size wr w') => (show w'.cell? ⟨w.heap.size + 2, 5, none⟩ = some v ∧ w'.cell? ⟨ar.block, ar.off + 2, none⟩ = some (.string nm) from ⟨(hL.out.X.keep hb).c5, G2.out w' (grown_trans hL.out.H (grown_of_below hb _))⟩))
        have HKL := Lib.hid (show w.heap.size + 3 ≤ w4.heap.size from HZ4.out)
        clear heP hmem hsl hy hyP hnm hyn hns5 hns6 bd hns g2 hcell
        go_wp2_with fail
        clear hcell2
        refine wp_region_noPanic ?_
        refine wp_region_Z (fun (w' : World) => w'.cell? ⟨w.heap.size + 2, 5, none⟩ = some v ∧ w'.cell? ⟨ar.block, ar.off + 2, none⟩ = some (.string nm)) 12 (by kernel_rfl) (HS.out _ BD.out) (fun hHeld => ?_)
        refine wpAnyZ_take (i := 0) (oi := ⟨some 75, _, _, _, _, _⟩) (v := .pointer (some ⟨w.heap.size + 2, 5, none⟩)) rfl (by kernel_rfl) (by kernel_rfl) (by kernel_rfl) (by kernel_rfl) (fun _ _ _ h => h) (.inl ⟨by rfl, fun w' hSw => ?_⟩) hHeld ?_
        · obtain ⟨a0, a1⟩ := hSw
          go_simp
        try simp only [Act.put, List.setIfInBounds_toArray, List.set_cons_zero, List.set_cons_succ]
        refine wpAnyZ_take (i := 1) (oi := ⟨some 76, _, _, _, _, _⟩) (v := v) rfl (by kernel_rfl) (by kernel_rfl) (by kernel_rfl) (by kernel_rfl) (fun _ _ _ h => h) (.inl ⟨by rfl, fun w' hSw => ?_⟩) hHeld ?_
        · obtain ⟨a0, a1⟩ := hSw
          go_simp
        try simp only [Act.put, List.setIfInBounds_toArray, List.set_cons_zero, List.set_cons_succ]
        refine wpAnyZ_take (i := 2) (oi := ⟨some 77, _, _, _, _, _⟩) (v := .slice (some ar) nr cr) rfl (by kernel_rfl) (by kernel_rfl) (by kernel_rfl) (by kernel_rfl) (fun _ _ _ h => h) (.inl ⟨by rfl, fun w' hSw => ?_⟩) hHeld ?_
        · obtain ⟨a0, a1⟩ := hSw
          go_simp
        try simp only [Act.put, List.setIfInBounds_toArray, List.set_cons_zero, List.set_cons_succ]
        refine wpAnyZ_take (i := 3) (oi := ⟨some 78, _, _, _, _, _⟩) (v := .pointer (some ar)) rfl (by kernel_rfl) (by kernel_rfl) (by kernel_rfl) (by kernel_rfl) (fun _ _ _ h => h) (.inl ⟨by rfl, fun w' hSw => ?_⟩) hHeld ?_
        · obtain ⟨a0, a1⟩ := hSw
          go_simp
        try simp only [Act.put, List.setIfInBounds_toArray, List.set_cons_zero, List.set_cons_succ]
        refine wpAnyZ_take (i := 4) (oi := ⟨some 79, _, _, _, _, _⟩) (v := .pointer (some ⟨ar.block, ar.off + 2, none⟩)) rfl (by kernel_rfl) (by kernel_rfl) (by kernel_rfl) (by kernel_rfl) (fun _ _ _ h => h) (.inl ⟨by rfl, fun w' hSw => ?_⟩) hHeld ?_
        · obtain ⟨a0, a1⟩ := hSw
          go_simp
        try simp only [Act.put, List.setIfInBounds_toArray, List.set_cons_zero, List.set_cons_succ]
        refine wpAnyZ_take (i := 5) (oi := ⟨some 80, _, _, _, _, _⟩) (v := .string nm) rfl (by kernel_rfl) (by kernel_rfl) (by kernel_rfl) (by kernel_rfl) (fun _ _ _ h => h) (.inl ⟨by rfl, fun w' hSw => ?_⟩) hHeld ?_
        · obtain ⟨a0, a1⟩ := hSw
          go_simp
        try simp only [Act.put, List.setIfInBounds_toArray, List.set_cons_zero, List.set_cons_succ]
        refine wpAnyZ_take (i := 6) (oi := ⟨some 81, _, _, _, _, _⟩) (v := .slice yA yn yc) rfl (by kernel_rfl) (by kernel_rfl) (by kernel_rfl) (by kernel_rfl) (fun _ _ _ h => h) (.inl ⟨by rfl, fun w' hSw => ?_⟩) hHeld ?_
        · obtain ⟨a0, a1⟩ := hSw
          go_simp
        try simp only [Act.put, List.setIfInBounds_toArray, List.set_cons_zero, List.set_cons_succ]
        refine wpAnyZ_one (i := 7) (o := ⟨some 82, _, _, _, _, _⟩) (by kernel_rfl) rfl (fun K' hK' => ?_)
        go_simp
        go_at_call 54
        refine KO.out.mono ?_
        rintro e w6 ⟨u, rfl, ku, b6⟩
        have B6 := Lib.hid (BD.out.trans (b6.mono BD.out.size))
        obtain ⟨o6, n6, s6, t6, p6, A6, m6, c6, rfl⟩ := kat_six ku
        have KU := Lib.hid ku
        clear ku b6
        go_wp2_with fail
        refine hK'.out _ _ (fun _ => HS.out _ B6.out) ?_
        clear hK' K' hHeld
        try simp only [Act.put, List.setIfInBounds_toArray, List.set_cons_zero, List.set_cons_succ]
        refine wpAnyZ_take (i := 8) (oi := ⟨some 83, _, _, _, _, _⟩) (v := .agg #[.string nm, .bool true, .int .i64 o6, .int .i64 n6, .string s6, .string t6, .pointer p6, .slice A6 m6 c6]) rfl (by kernel_rfl) (by kernel_rfl) (by kernel_rfl) (by kernel_rfl) (fun _ _ _ h => h) (.inl ⟨by rfl, fun w' hSw => ?_⟩) (HS.out _ B6.out) ?_
        · clear hSw
          go_simp
        try simp only [Act.put, List.setIfInBounds_toArray, List.set_cons_zero, List.set_cons_succ]
        have B7 := Lib.hid (B6.out.trans ((below_box w6 (.cells #[.string nm, .bool true, .int .i64 o6, .int .i64 n6, .string s6, .string t6, .pointer p6, .slice A6 m6 c6] 168)).mono B6.out.size))
        refine wpAnyZ_one (i := 9) (o := ⟨some 84, _, _, _, _, _⟩) (by kernel_rfl) rfl (fun K' hK' => ?_)
        go_simp
        refine hK'.out _ _ (fun _ => HS.out _ B7.out) ?_
        clear hK' K'
        try simp only [Act.put, List.setIfInBounds_toArray, List.set_cons_zero, List.set_cons_succ]
        have RN := Lib.hid (row0_new w6 [.string nm, .bool true, .int .i64 o6, .int .i64 n6, .string s6, .string t6, .pointer p6, .slice A6 m6 c6] 168)
        have X7 := Lib.hid (hL.out.X.keep B7.out)
        have F7 := Lib.hid (hL.out.F.keepN (grown_of_below B7.out none))
        have H7 := Lib.hid (grown_trans hL.out.H (grown_of_below B7.out (some (w.heap.size + 2))))
        have HOL := Lib.hid (fun g hg => hL.out.F.own.lt g hg)
        have KK := Lib.hid (show KAt (w6.alloc (.cells #[.string nm, .bool true, .int .i64 o6, .int .i64 n6, .string s6, .string t6, .pointer p6, .slice A6 m6 c6] 168)) (fun b => w4.heap.size ≤ b ∧ some b ≠ v.ownBlock) (ownV yP) [.int .i64 o6, .int .i64 n6, .string s6, .string t6, .pointer p6, .slice A6 m6 c6] from
          ((KU.out.mono (B' := fun b => wr.heap.size ≤ b ∧ b < w6.heap.size) fun b h1 h2 => ⟨h1, h2⟩).cong fun b hb => (below_box w6 _).block b hb.2).mono fun b hb _ => ⟨Nat.le_trans HW.out hb.1, fun e => by have := (HOL.out b e.symm).2; have := hb.1; omega⟩)
        have HB7 := Lib.hid (show w4.heap.size ≤ (w6.alloc (.cells #[.string nm, .bool true, .int .i64 o6, .int .i64 n6, .string s6, .string t6, .pointer p6, .slice A6 m6 c6] 168)).heap.size from Nat.le_trans HW.out B7.out.size)
        refine wpAnyZ_one (i := 10) (o := ⟨some 85, _, _, _, _, _⟩) (by kernel_rfl) rfl (fun K' hK' => ?_)
        refine step_append_fe rfl (.tmp 76) (.tmp 84) rfl w4.heap.size v E rfl F7.out ⟨(nm, true, ownV yP), o6, n6, s6, t6, p6, A6, m6, c6⟩ ⟨w6.heap.size, 0, none⟩ 1 rfl RN.out KK.out HEL.out HB7.out ?_
        intro v' w8 hrow hg
        have hn : ∀ b, b < w4.heap.size → some b ≠ v.ownBlock := fun b hb e => by have := (HOL.out b e.symm).1; omega
        have X8 := Lib.hid (X7.out.but hg (hn _ (by have := HKL.out; omega)))
        have H8 := Lib.hid (show w4.grownBy w8 (some (w.heap.size + 2)) from by
          rcases hv2 : v.ownBlock with _ | q
          · rw [hv2] at hg
            exact grown_trans H7.out ⟨hg.os, hg.tape, hg.output, hg.size, fun i hi _ => hg.block i hi (fun e => nomatch e)⟩
          · rw [hv2] at hg
            exact grown_new H7.out hg (HOL.out q hv2).1)
        have S8 := Lib.hid (show w8.cell? ⟨w.heap.size + 2, 5, none⟩ = some v ∧ w8.cell? ⟨ar.block, ar.off + 2, none⟩ = some (.string nm) from ⟨X8.out.c5, G2.out w8 H8.out⟩)
        have HROW := Lib.hid hrow
        obtain ⟨A8, cp8, hv', -, -, -⟩ := hrow.fat
        obtain ⟨nl, hnl⟩ : ∃ nl, nl = (E ++ [(⟨(nm, true, ownV yP), o6, n6, s6, t6, p6, A6, m6, c6⟩ : Fe)]).length := ⟨_, rfl⟩
        rw [← hnl] at hv'
        subst hv'
        refine hK'.out _ _ (fun _ => S8.out) ?_
        clear hnl hrow hg hn hK' K'
        try simp only [Act.put, List.setIfInBounds_toArray, List.set_cons_zero, List.set_cons_succ]
        refine wpAnyZ_take (i := 11) (oi := ⟨some 86, _, _, _, _, _⟩) (v := .pointer (some ⟨w.heap.size + 2, 5, none⟩)) rfl (by kernel_rfl) (by kernel_rfl) (by kernel_rfl) (by kernel_rfl) (fun _ _ _ h => h) (.inl ⟨by rfl, fun w' hSw => ?_⟩) S8.out ?_
        · clear hSw
          go_simp
        try simp only [Act.put, List.setIfInBounds_toArray, List.set_cons_zero, List.set_cons_succ]
        obtain ⟨k0, k1, k2, k3, k4, k5, y0, y1, y2, y3, y4, y5⟩ := X8.out
        refine wpAnyZ_one (i := 12) (o := ⟨none, _, _, _, _, _⟩) (by kernel_rfl) rfl (fun K' hK' => ?_)
        go_simp
        refine hK'.out _ _ (fun h => absurd rfl h) ?_
        refine wpAnyZ_done (by kernel_rfl) ?_
        refine NoPanic.normal ?_
        clear hK' K' k0 k1 k2 k3 k4 k5 y0 y1 y2 y3 y4 y5
        have HNL := Lib.hid (show RLp w w4 (w8.setCell ⟨w.heap.size + 2, 5, none⟩ (.slice A8 nl cp8)) (E ++ [⟨(nm, true, ownV yP), o6, n6, s6, t6, p6, A6, m6, c6⟩]) (.slice A8 nl cp8) from by
          have gs : w8.grownBy (w8.setCell ⟨w.heap.size + 2, 5, none⟩ (.slice A8 nl cp8)) (some (w.heap.size + 2)) := grown_setCell w8 ⟨w.heap.size + 2, 5, none⟩ _
          exact ⟨X8.out.set5 _, HROW.out.keep gs (by have := HKL.out; omega), grown_trans H8.out gs⟩)
        have hyb : yn ≤ 200 := by have := HLT.out; have := H200.out; have := HYN.out; omega
        have HNS2 := Lib.hid (show ∀ a', (1 + yn < cr → a' = ar.add ((1 + yn) * 4)) → Ns w4 (some a') (nr - (1 + yn)) (cr - (1 + yn)) (flatR ((recParts P).drop (k + 1))) from fun a' ha' => by
          have h1 := ns_rest (i := 1 + yn) HRN.out (by omega) (fun h => by have := HNC.out; omega) a' ha'
          have e : (fieldN nm :: (yP ++ flatR ((recParts P).drop (k + 1)))).drop (1 + yn) = flatR ((recParts P).drop (k + 1)) := by
            rw [HYN.out, Nat.add_comm, List.drop_succ_cons, List.drop_append_of_le_length (Nat.le_refl _), List.drop_length, List.nil_append]
          rw [e] at h1
          exact h1)
        have hnc2 : 1 + yn ≤ cr := by have := HNC.out; omega
        go_wp2_with fail
        go_roundw
        case rel =>
          obtain ⟨a', e', ha', hb'⟩ : ∃ a' : Addr, (if cr = 1 + yn then some ar else some (ar.add ((1 + yn) * 4))) = some a' ∧ (1 + yn < cr → a' = ar.add ((1 + yn) * 4)) ∧ a'.block < w.heap.size := by
            split
            · exact ⟨ar, rfl, fun h => by omega, hab⟩
            · exact ⟨_, rfl, fun _ => rfl, by rw [add_block]; exact hab⟩
          exact ⟨k + 1, E ++ [⟨(nm, true, ownV yP), o6, n6, s6, t6, p6, A6, m6, c6⟩], _, some a', _, _, by rw [e'], by go_num, hlt, Lib.hid (HNX.out _ rfl), Lib.hid ⟨HNS2.out a' ha', fun b e => by injection e with e; subst e; exact hb'⟩, HNL⟩
        case measure => simp [intOf]; omega
      · have hke : k = nv := by omega
        have HEQ := Lib.hid (show kk = .fs (ofL (E.map Fe.y)) by
          have h1 := hE.out
          have h2 : (recParts P).length = nv := by
            have := congrArg List.length HVL.out
            rw [List.length_map, List.length_map] at this
            rw [HNV.out]; omega
          rw [hke, ← h2, List.take_length] at h1
          rw [HE.out, h1])
        have R4 := Lib.hid (XR4.out.but hL.out.H (fun e => by injection e with e; omega))
        obtain ⟨A7, cp7, hv', hfat, hle, hcm⟩ := hL.out.F.fat
        have hlen : (ofL (E.map Fe.y)).len = E.length := by rw [ofL_len, List.length_map]
        rw [← hlen] at hv' hle
        obtain ⟨nl, hnl⟩ : ∃ nl, nl = (ofL (E.map Fe.y)).len := ⟨_, rfl⟩
        rw [← hnl] at hv' hle
        subst hv'
        have HFA := Lib.hid hfat
        have HLE := Lib.hid hle
        have HCM := Lib.hid hcm
        have HNLL := Lib.hid hnl
        have HBW := Lib.hid (show Below w.heap.size w wr from HB4.out.trans (below_of_grown hL.out.H (by omega) HB4.out.size))
        have HZ := Lib.hid (show w.heap.size + 3 ≤ w4.heap.size from HZ4.out)
        clear hfat hle hcm hlen hnl hke
        obtain ⟨k0, k1, k2, k3, k4, k5, -, -, -, -, -, -⟩ := hL.out.X
        obtain ⟨z0, z1, z2, z3, z4, z5, r0, r1, r2, r3, r4, r5⟩ := R4.out
        go_wp2_with fail
        obtain ⟨j0, j1, j2, j3, j4, j5, -, -, -, -, -, -⟩ := R4.out.set (.int .i64 46) (.int .i64 0) (.string ⟨#[]⟩) (.string ⟨#[]⟩) (.pointer none) (.slice A7 nl cp7)
        refine bodyPost_ret (v := .agg #[.int .i64 46, .int .i64 0, .string ⟨#[]⟩, .string ⟨#[]⟩, .pointer none, .slice A7 nl cp7]) (by simp [results, Tryz.results54, go_sem, j0, j1, j2, j3, j4, j5]) rfl ?_
        rw [HEQ.out]
        refine ⟨[.int .i64 46, .int .i64 0, .string ⟨#[]⟩, .string ⟨#[]⟩, .pointer none, .slice A7 nl cp7], rfl, ⟨0, A7, cp7, by rw [HNLL.out]; rfl, by rw [← HNLL.out]; exact HLE.out, HCM.out, ?_⟩, below_set6 HBW.out (Nat.le_refl _) _ _ _ _ _ _⟩
        exact (HFA.out.cong fun b hb => heap_set6 wr w.heap.size _ _ _ _ _ _ (by have := HZ.out; omega)).mono fun b hb _ => by have := HZ.out; omega
/-- kinds.own: the type that a value has of its own. -/
theorem kind_own : ∀ N : Nat, OwnC N
  | 0 => fun A n c P w h _ _ hV => absurd hV.pos (by omega)
  | N + 1 => fun A n c P w h h2 hns hV => by
    by_cases h5 : headOp P = 5
    · exact own_set N (kind_own N) A n c P w h h2 hns hV h5
    · by_cases h6 : headOp P = 6
      · exact own_rec N (kind_own N) A n c P w h h2 hns hV h6
      · exact own_leaf A n c P w hns hV h5 h6
end Go.Proofs.YtmekockjgldndaaGreatDoor
