/-
  kinds.own: of records.
  kinds: Has, Own over nodes that are handed in.
  ref HasKind, among: by the words of the laws.
  Uids in a row of the call's own: their cells.
  (ent.store).above: all that are above one, each once.
  ent.Check's function, slices.IndexFunc and slices.ContainsFunc with it: is an entity of this uid there.
-/
import Derived.Deep.RegionHeld3
import Derived.Test.YtnolmlhcikcceaaGreatDoorQt26
namespace Go.Proofs.YtnolmlhcikcceaaGreatDoor
open Go.RowKit Go.Wk Go.Sort
set_option maxRecDepth 100000

/-- append of one field at a step of a region that draws its order. -/
theorem step_append_fe {ops : Array Oper} {o : Oper} {a : Act} {w : World} {K : Act → World → Prop} {Q : Exit → Act → World → Prop} {E' : Prop} (hgd : o.guard = none) (s x : Operand)
    (ho : o.op = .call { callee := .builtin .append, args := #[s, x], argTypes := #[72, 72] })
    (base : Nat) (v : Value) (E : List Fe) (hs : a.eval s = v) (hrow : RowF w base v E) (z : Fe) (ad : Addr) (c : Nat) (hx : a.eval x = .slice (some ad) 1 c)
    (hnews : ∀ j u, z.eight[j]? = some u → w.cell? (ad.add j) = some u) (hz : KAt w (fun b => base ≤ b ∧ some b ≠ v.ownBlock) z.y.2.2 z.u) (hl : E.length ≤ 1000000) (hbase : base ≤ w.heap.size)
    (h : ∀ v' w', RowF w' base v' (E ++ [z]) → w.grownBy w' v.ownBlock → K (a.put o.dst v') w') :
    if Region.wanted o (yielded ops a.tmps) = true then Oper.wp Tryz.prog o a w K Q else E' := by
  have hi := fdInfo
  cases hq : Tryz.prog.info? 124 with
  | none => rw [hq] at hi; cases hi
  | some i0 =>
    rw [hq] at hi
    simp only [Option.map_some, Option.some.injEq, Prod.mk.injEq] at hi
    refine step_append_lies w hgd s x _ ho base _ i0 _ 8 104 Tryz.underlying72 hq hi.1 hi.2.1 hi.2.2 (by decide) (by decide) v E.length (feCells E) hs hrow.own ad 1 c z.eight hx rfl hnews ?_ (by decide) (by unfold maxLen; omega) (by omega) hbase _ rfl ?_
    · intro u hu
      have := feCells_one [z] u (by simpa [feCells, Fe.eight, Fe.u] using hu)
      exact this
    · intro g cap w' h1 h2 h3 _
      refine h _ w' (hrow.snoc hz h1 h2 ?_) h2
      rcases h3 with h3 | h3
      · exact .inl h3.symm
      · exact .inr (by rw [h3]; rfl)
/-- What the loop over a record's parts keeps. -/
structure RLp (w w4 wr : World) (E : List Fe) (v : Value) : Prop where
  X : Bx6 wr (w.heap.size + 2) (.int .i64 46) (.int .i64 0) (.string ⟨#[]⟩) (.string ⟨#[]⟩) (.pointer none) v
  F : RowF wr w4.heap.size v E
  H : w4.grownBy wr (some (w.heap.size + 2))
/-- The rest of a slice of nodes, from a place on. -/
theorem ns_rest {w : World} {a : Addr} {n c i : Nat} {P : List Nd} (h : Ns w (some a) n c P) (hi : i ≤ n) (hlt : i < n → i < c) (a' : Addr) (ha : i < c → a' = a.add (i * 4)) : Ns w (some a') (n - i) (c - i) (P.drop i) := by
  have hl := h.len
  have hc := h.cap
  have hm := h.max
  refine ⟨by rw [List.length_drop]; omega, by omega, by omega, fun k y hy => ?_, fun y hy => h.ok y (List.mem_of_mem_drop hy)⟩
  rw [List.getElem?_drop] at hy
  have hk : i + k < P.length := by
    rcases Nat.lt_or_ge (i + k) P.length with h1 | h1
    · exact h1
    · rw [List.getElem?_eq_none h1] at hy; cases hy
  obtain ⟨b, e, q0, q1, q2, q3⟩ := h.at_ (i + k) y hy
  injection e with e
  subst e
  refine ⟨a', rfl, ?_⟩
  rw [ha (hlt (by omega)), add_add, show i * 4 + k * 4 = (i + k) * 4 by omega]
  exact ⟨q0, q1, q2, q3⟩
theorem flatR_drop (L : List (ByteArray × List Nd)) (k : Nat) (h : k < L.length) : flatR (L.drop k) = fieldN L[k].1 :: (L[k].2 ++ flatR (L.drop (k + 1))) := by
  rw [List.drop_eq_getElem_cons h]; rfl
set_option maxHeartbeats 2000000 in
theorem own_rec (N : Nat) (ih : OwnC N) (A : Option Addr) (n c : Nat) (P : List Nd) (w : World) (hN : P.length ≤ N + 1) (h200 : P.length ≤ 200) (hns : Ns w A n c P) (hV : IsV P) (h6 : headOp P = 6) :
    Calls Tryz.prog 57 #[.slice A n c] w (OwnPost w (ownV P)) := by
  have HE := Lib.hid (ownV_6 hV h6)
  have HPV := Lib.hid (isV_rec hV h6).2.2.1
  have HPS := Lib.hid (fun x (hx : x ∈ recParts P) => rec_smaller hV h6 hx)
  have HPF := Lib.hid (isV_rec hV h6).1
  have HPT := Lib.hid (show prtL P = (recParts P).map (·.2) ∧ prtE P = 0 by
    have h0 : valFault P = 0 := isV_zero.2 ⟨h200, hV⟩
    have h1 : prtE P = 0 := by unfold prtE; rw [if_pos h0, if_pos (.inr h6)]
    refine ⟨?_, h1⟩
    unfold prtL
    rw [if_pos h1, if_neg (by omega)])
  have HPA := Lib.hid (fun w' hb => val_Parts A n c P w' (hns.keep (w' := w') hb))
  have HNS := Lib.hid hns
  have HLEN := Lib.hid hns.len
  obtain ⟨x, r, hPx, -, -⟩ := isV_head hV
  have hop : x.op = 6 := by rw [hPx] at h6; exact h6
  obtain ⟨a, rfl, q0, q1, q2, q3⟩ := hns.at_ 0 x (by rw [hPx]; rfl)
  rw [show a.add (0 * 4) = a from rfl] at q0 q1 q2 q3
  have hl : a.block < w.heap.size := block_lt_of_cell q0
  have hn1 : 1 ≤ n := by rw [hns.len, hPx, List.length_cons]; omega
  have hnc : n ≤ c := hns.cap
  have hm := hns.max
  unfold maxLen at hm
  rw [hop] at q0
  have HP := Lib.hid hN
  have H200 := Lib.hid h200
  generalize ownV P = kk at *
  have IH := Lib.hid ih
  clear hns hV h6 hPx hop hN h200 ih
  have Ba := below_box w (.cells #[.int .i64 0, .int .i64 0, .string ⟨#[]⟩, .string ⟨#[]⟩, .pointer none, .slice none 0 0] 74)
  have Bb := below_box (w.alloc (.cells #[.int .i64 0, .int .i64 0, .string ⟨#[]⟩, .string ⟨#[]⟩, .pointer none, .slice none 0 0] 74)) (.cells #[.int .i64 6, .int .i64 x.n, .string x.s, .string x.t] 35)
  have Bc := below_box ((w.alloc (.cells #[.int .i64 0, .int .i64 0, .string ⟨#[]⟩, .string ⟨#[]⟩, .pointer none, .slice none 0 0] 74)).alloc (.cells #[.int .i64 6, .int .i64 x.n, .string x.s, .string x.t] 35)) (.cells #[.int .i64 46, .int .i64 0, .string ⟨#[]⟩, .string ⟨#[]⟩, .pointer none, .slice none 0 0] 74)
  have B3 := Lib.hid (Ba.trans ((Bb.trans (Bc.mono (by simp))).mono (by simp)))
  have XR := Lib.hid (((bx6_new w (.int .i64 0) (.int .i64 0) (.string ⟨#[]⟩) (.string ⟨#[]⟩) (.pointer none) (.slice none 0 0) 74).keep Bb).keep Bc)
  have xp := bx6_new ((w.alloc (.cells #[.int .i64 0, .int .i64 0, .string ⟨#[]⟩, .string ⟨#[]⟩, .pointer none, .slice none 0 0] 74)).alloc (.cells #[.int .i64 6, .int .i64 x.n, .string x.s, .string x.t] 35)) (.int .i64 46) (.int .i64 0) (.string ⟨#[]⟩) (.string ⟨#[]⟩) (.pointer none) (.slice none 0 0) 74
  have hz2 : ((w.alloc (.cells #[.int .i64 0, .int .i64 0, .string ⟨#[]⟩, .string ⟨#[]⟩, .pointer none, .slice none 0 0] 74)).alloc (.cells #[.int .i64 6, .int .i64 x.n, .string x.s, .string x.t] 35)).heap.size = w.heap.size + 2 := by simp
  have hz3 : (((w.alloc (.cells #[.int .i64 0, .int .i64 0, .string ⟨#[]⟩, .string ⟨#[]⟩, .pointer none, .slice none 0 0] 74)).alloc (.cells #[.int .i64 6, .int .i64 x.n, .string x.s, .string x.t] 35)).alloc (.cells #[.int .i64 46, .int .i64 0, .string ⟨#[]⟩, .string ⟨#[]⟩, .pointer none, .slice none 0 0] 74)).heap.size = w.heap.size + 3 := by simp
  rw [hz2] at xp
  have XP := Lib.hid xp
  have HZ3 := Lib.hid hz3
  clear Ba Bb Bc xp hz2 hz3
  have HFL := Lib.hid (show (flatR (recParts P)).length + 1 = n by
    have h2 := congrArg List.length HPF.out
    rw [List.length_cons] at h2
    rw [HLEN.out]; exact h2.symm)
  have HR1 := Lib.hid (show c = 1 → Ns w (some a) 0 0 (flatR (recParts P)) from fun h => by
    have h0 : flatR (recParts P) = [] := List.eq_nil_of_length_eq_zero (by have := HFL.out; omega)
    rw [h0]
    exact ⟨rfl, Nat.le_refl _, Nat.zero_le _, fun k y hy => by simp at hy, fun y hy => nomatch hy⟩)
  have HR2 := Lib.hid (show ¬ c = 1 → Ns w (some (a.add 4)) (n - 1) (c - 1) (flatR (recParts P)) from fun h => by
    have h1 := ns_rest (i := 1) HNS.out hn1 (fun h => by omega) (a.add 4) (fun _ => rfl)
    rw [HPF.out] at h1
    exact h1)
  rcases Decidable.em (c = 1) with rfl | hc
  all_goals
    go_enter Tryz.func57, Tryz.ntmps57
    go_wp2_with fail
    obtain ⟨w3, hw3⟩ : ∃ w3, ((w.alloc (.cells #[.int .i64 0, .int .i64 0, .string ⟨#[]⟩, .string ⟨#[]⟩, .pointer none, .slice none 0 0] 74)).alloc (.cells #[.int .i64 6, .int .i64 x.n, .string x.s, .string x.t] 35)).alloc (.cells #[.int .i64 46, .int .i64 0, .string ⟨#[]⟩, .string ⟨#[]⟩, .pointer none, .slice none 0 0] 74) = w3 := ⟨_, rfl⟩
    rw [hw3] at B3 XR XP HZ3 ⊢
    clear hw3 q0 q1 q2 q3
    refine (HPA.out _ B3.out).mono ?_
    rintro e w4 ⟨v, V, rfl, hV4, hVL, hVA, b4⟩
    rw [HPT.out.2, errV_zero]
    rw [HPT.out.1] at hVL
    have HVL := Lib.hid hVL
    rw [HZ3.out] at hV4
    have HVA := Lib.hid (show ∀ r ∈ V, ∀ a, r.A = some a → w.heap.size + 3 ≤ a.block from fun r hr a ha => by have := hVA r hr a ha; have := HZ3.out; omega)
    have HB4 := Lib.hid (B3.out.trans (b4.mono B3.out.size))
    have XR4 := Lib.hid (XR.out.keep b4)
    have XP4 := Lib.hid (XP.out.keep b4)
    have HZ4 := Lib.hid (show w.heap.size + 3 ≤ w4.heap.size by have := b4.size; have := HZ3.out; omega)
    have HV4 := Lib.hid hV4
    obtain ⟨A5, c5, hv5, -, -⟩ := hV4.at
    obtain ⟨nv, hnv⟩ : ∃ nv, nv = V.length := ⟨_, rfl⟩
    have HNV := Lib.hid hnv
    have hnl : nv ≤ 200 := by
      have h1 := congrArg List.length hVL
      rw [List.length_map, List.length_map] at h1
      have h2 := congrArg List.length HPF.out
      rw [List.length_cons, flatR_lenK] at h2
      have h3 : (recParts P).length ≤ ((recParts P).map fun x => x.2.length + 1).sum := by
        have : ∀ L : List (ByteArray × List Nd), L.length ≤ (L.map fun x => x.2.length + 1).sum := fun L => by
          induction L with
          | nil => exact Nat.le_refl _
          | cons y L ih => simp only [List.length_cons, List.map_cons, List.sum_cons]; omega
        exact this _
      have := H200.out
      omega
    rw [← hnv] at hv5
    subst hv5
    clear hV4 hVL hVA hnv b4 B3 XR XP HPA
    go_wp2_with fail
    go_loopw [10, 71] (fun u i wr => ∃ (k : Nat) (E : List Fe) (v : Value) (Ar : Option Addr) (nr cr : Nat), u = .slice Ar nr cr ∧ i = .int .i64 k ∧ k ≤ nv ∧ Hid (E.map Fe.y = ((recParts P).take k).map fun x => (x.1, true, ownV x.2)) ∧ Hid (Ns w4 Ar nr cr (flatR ((recParts P).drop k)) ∧ ∀ b, Ar = some b → b.block < w.heap.size) ∧ Hid (RLp w w4 wr E v)) (fun _ i _ => nv - (intOf i).toNat)
    case atStart =>
      refine ⟨0, [], _, _, _, _, rfl, rfl, Nat.zero_le _, Lib.hid rfl, Lib.hid ⟨?_, ?_⟩, Lib.hid ⟨XP4.out, RowF.nil _ _, World.grownBy.refl _ _⟩⟩
      · rw [List.drop_zero]
        first
          | exact (HR1.out (by trivial)).keep HB4.out
          | exact (HR2.out (by assumption)).keep HB4.out
      · intro b e
        injection e with e
        subst e
        exact hl
    case round =>
      obtain ⟨k, E, v, Ar, nr, cr, rfl, rfl, hk, hE, hN, hL⟩ := hrel
      by_cases hlt : k < nv
      · have hkV : k < V.length := by rw [← HNV.out]; exact hlt
        have hkS : k < (recParts P).length := by
          have := congrArg List.length HVL.out
          rw [List.length_map, List.length_map] at this
          omega
        have heP : V[k].P = (recParts P)[k].2 := by
          have h1 : (V.map Sl.P)[k]? = ((recParts P).map (·.2))[k]? := by rw [HVL.out]
          rw [List.getElem?_map, List.getElem?_map, List.getElem?_eq_getElem hkV, List.getElem?_eq_getElem hkS] at h1
          simpa using h1
        have hmem : (recParts P)[k] ∈ recParts P := List.getElem_mem hkS
        have HVK := Lib.hid (HPV.out _ hmem).1
        have HLT := Lib.hid (HPS.out _ hmem)
        have HDR := Lib.hid (flatR_drop (recParts P) k hkS)
        have HNX := Lib.hid (show ∀ z : Fe, z.y = ((recParts P)[k].1, true, ownV (recParts P)[k].2) → (E ++ [z]).map Fe.y = ((recParts P).take (k + 1)).map fun x => (x.1, true, ownV x.2) from fun z hz => by
          rw [List.take_succ_eq_append_getElem hkS, List.map_append, List.map_append, hE.out]
          simp [hz])
        have HEL := Lib.hid (show E.length ≤ 1000000 by
          have := congrArg List.length hE.out
          simp at this
          omega)
        have hns := hN.out.1
        rw [HDR.out] at hns
        obtain ⟨ar, har, -, -, g2, -⟩ := hns.at_ 0 _ rfl
        have hab := hN.out.2 ar har
        subst har
        rw [show ar.add (0 * 4) = ar from rfl] at g2
        have hnr1 : 1 ≤ nr := by have := hns.len; rw [List.length_cons] at this; omega
        have hnr0 : ¬ nr = 0 := by omega
        have hnr2 : (0 : Int) < (nr : Int) := by omega
        have HNR := Lib.hid hns.len
        have HNC := Lib.hid hns.cap
        have HNM := Lib.hid hns.max
        have HRN := Lib.hid hns
        obtain ⟨A5', c5', e5, -, hsl⟩ := HV4.out.at
        injection e5 with e5 e5n e5'
        clear e5n
        subst e5 e5'
        obtain ⟨a5, rfl, hcell, hns5⟩ := hsl.at hkV
        rw [heP] at hns5
        have hA5 : w.heap.size + 3 ≤ a5.block := by
          rcases HV4.out.own.2 with ⟨e0, -⟩ | ⟨gg, cap, cur, e0, hBg, -⟩
          · cases e0
          · injection e0 with e0; injection e0 with e0; subst e0; exact hBg
        have HVK5 := Lib.hid (HVA.out _ (List.getElem_mem hkV))
        obtain ⟨y, hy⟩ : ∃ y, y = V[k] := ⟨_, rfl⟩
        rw [← hy] at hcell hns5 HVK5
        obtain ⟨yP, hyP⟩ : ∃ yP, yP = (recParts P)[k].2 := ⟨_, rfl⟩
        obtain ⟨nm, hnm⟩ : ∃ nm, nm = (recParts P)[k].1 := ⟨_, rfl⟩
        rw [← hyP] at hns5 HVK HLT HNX HRN HNR
        rw [← hnm] at HNX HRN HNR
        have g2 : w4.cell? ⟨ar.block, ar.off + 2, none⟩ = some (.string nm) := by rw [hnm]; exact g2
        obtain ⟨yA, yn, yc, yp⟩ := y
        simp only at hcell hns5 HVK5
        have hyn : yn = yP.length := hns5.len
        have hynr : yn + 1 ≤ nr := by have := HNR.out; rw [List.length_cons, List.length_append] at this; omega
        have HYN := Lib.hid hyn
        have hcell2 : wr.cell? (a5.add k) = some (.slice yA yn yc) := (World.cell?_of_block (hL.out.H.block (a5.add k).block (block_lt_of_cell hcell) (fun e => by rw [add_block] at e; injection e with e; omega))).trans hcell
        have hns6 := Ns.row (r := ⟨yA, yn, yc, yP⟩) hns5 hL.out.H (fun _ b hb e => by injection e with e; have := HVK5.out b hb; omega)
        have hab2 : ar.block < w4.heap.size := block_lt_of_cell (a := ⟨ar.block, ar.off + 2, none⟩) g2
        have G2 := Lib.hid (show ∀ w', w4.grownBy w' (some (w.heap.size + 2)) → w'.cell? ⟨ar.block, ar.off + 2, none⟩ = some (.string nm) from fun w' hg => (World.cell?_of_block (a := ⟨ar.block, ar.off + 2, none⟩) (hg.block ar.block hab2 (fun e => by injection e with e; omega))).trans g2)
        have bd : Below wr.heap.size wr wr.drew := ⟨rfl, rfl, rfl, Nat.le_refl _, fun _ _ => rfl⟩
        have KO := Lib.hid (IH.out yA yn yc yP wr.drew (by have := HLT.out; have := HP.out; omega) (by have := HLT.out; have := H200.out; omega) (hns6.keep bd) HVK.out)
        have HW := Lib.hid hL.out.H.size
        have BD := Lib.hid bd
        have HS := Lib.hid (fun (w' : World) (hb : Below wr.heap.size wr w') => (show w'.cell? ⟨w.heap.size + 2, 5, none⟩ = some v ∧ w'.cell? ⟨ar.block, ar.off + 2, none⟩ = some (.string nm) from ⟨(hL.out.X.keep hb).c5, G2.out w' (grown_trans hL.out.H (grown_of_below hb _))⟩))
        have HKL := Lib.hid (show w.heap.size + 3 ≤ w4.heap.size from HZ4.out)
        clear heP hmem hsl hy hyP hnm hyn hns5 hns6 bd hns g2 hcell
        go_wp2_with fail
        clear hcell2
        refine wp_region_noPanic ?_
        refine wp_region_Z (fun (w' : World) => w'.cell? ⟨w.heap.size + 2, 5, none⟩ = some v ∧ w'.cell? ⟨ar.block, ar.off + 2, none⟩ = some (.string nm)) 12 (by kernel_rfl) (HS.out _ BD.out) (fun hHeld => ?_)
        refine wpAnyZ_take (i := 0) (oi := ⟨some 75, _, _, _, _, _⟩) (v := .pointer (some ⟨w.heap.size + 2, 5, none⟩)) rfl (by kernel_rfl) (by kernel_rfl) (by kernel_rfl) (by kernel_rfl) (fun _ _ _ h => h) (.inl ⟨by rfl, fun w' hSw => ?_⟩) hHeld ?_
        · obtain ⟨a0, a1⟩ := hSw
          go_simp
        try simp only [Act.put, List.setIfInBounds_toArray, List.set_cons_zero, List.set_cons_succ]
        refine wpAnyZ_take (i := 1) (oi := ⟨some 76, _, _, _, _, _⟩) (v := v) rfl (by kernel_rfl) (by kernel_rfl) (by kernel_rfl) (by kernel_rfl) (fun _ _ _ h => h) (.inl ⟨by rfl, fun w' hSw => ?_⟩) hHeld ?_
        · obtain ⟨a0, a1⟩ := hSw
          go_simp
        try simp only [Act.put, List.setIfInBounds_toArray, List.set_cons_zero, List.set_cons_succ]
        refine wpAnyZ_take (i := 2) (oi := ⟨some 77, _, _, _, _, _⟩) (v := .slice (some ar) nr cr) rfl (by kernel_rfl) (by kernel_rfl) (by kernel_rfl) (by kernel_rfl) (fun _ _ _ h => h) (.inl ⟨by rfl, fun w' hSw => ?_⟩) hHeld ?_
        · obtain ⟨a0, a1⟩ := hSw
          go_simp
        try simp only [Act.put, List.setIfInBounds_toArray, List.set_cons_zero, List.set_cons_succ]
        refine wpAnyZ_take (i := 3) (oi := ⟨some 78, _, _, _, _, _⟩) (v := .pointer (some ar)) rfl (by kernel_rfl) (by kernel_rfl) (by kernel_rfl) (by kernel_rfl) (fun _ _ _ h => h) (.inl ⟨by rfl, fun w' hSw => ?_⟩) hHeld ?_
        · obtain ⟨a0, a1⟩ := hSw
          go_simp
        try simp only [Act.put, List.setIfInBounds_toArray, List.set_cons_zero, List.set_cons_succ]
        refine wpAnyZ_take (i := 4) (oi := ⟨some 79, _, _, _, _, _⟩) (v := .pointer (some ⟨ar.block, ar.off + 2, none⟩)) rfl (by kernel_rfl) (by kernel_rfl) (by kernel_rfl) (by kernel_rfl) (fun _ _ _ h => h) (.inl ⟨by rfl, fun w' hSw => ?_⟩) hHeld ?_
        · obtain ⟨a0, a1⟩ := hSw
          go_simp
        try simp only [Act.put, List.setIfInBounds_toArray, List.set_cons_zero, List.set_cons_succ]
        refine wpAnyZ_take (i := 5) (oi := ⟨some 80, _, _, _, _, _⟩) (v := .string nm) rfl (by kernel_rfl) (by kernel_rfl) (by kernel_rfl) (by kernel_rfl) (fun _ _ _ h => h) (.inl ⟨by rfl, fun w' hSw => ?_⟩) hHeld ?_
        · obtain ⟨a0, a1⟩ := hSw
          go_simp
        try simp only [Act.put, List.setIfInBounds_toArray, List.set_cons_zero, List.set_cons_succ]
        refine wpAnyZ_take (i := 6) (oi := ⟨some 81, _, _, _, _, _⟩) (v := .slice yA yn yc) rfl (by kernel_rfl) (by kernel_rfl) (by kernel_rfl) (by kernel_rfl) (fun _ _ _ h => h) (.inl ⟨by rfl, fun w' hSw => ?_⟩) hHeld ?_
        · obtain ⟨a0, a1⟩ := hSw
          go_simp
        try simp only [Act.put, List.setIfInBounds_toArray, List.set_cons_zero, List.set_cons_succ]
        refine wpAnyZ_one (i := 7) (o := ⟨some 82, _, _, _, _, _⟩) (by kernel_rfl) rfl (fun K' hK' => ?_)
        go_simp
        go_at_call 57
        refine KO.out.mono ?_
        rintro e w6 ⟨u, rfl, ku, b6⟩
        have B6 := Lib.hid (BD.out.trans (b6.mono BD.out.size))
        obtain ⟨o6, n6, s6, t6, p6, A6, m6, c6, rfl⟩ := kat_six ku
        have KU := Lib.hid ku
        clear ku b6
        go_wp2_with fail
        refine hK'.out _ _ (fun _ => HS.out _ B6.out) ?_
        clear hK' K' hHeld
        try simp only [Act.put, List.setIfInBounds_toArray, List.set_cons_zero, List.set_cons_succ]
        refine wpAnyZ_take (i := 8) (oi := ⟨some 83, _, _, _, _, _⟩) (v := .agg #[.string nm, .bool true, .int .i64 o6, .int .i64 n6, .string s6, .string t6, .pointer p6, .slice A6 m6 c6]) rfl (by kernel_rfl) (by kernel_rfl) (by kernel_rfl) (by kernel_rfl) (fun _ _ _ h => h) (.inl ⟨by rfl, fun w' hSw => ?_⟩) (HS.out _ B6.out) ?_
        · clear hSw
          go_simp
        try simp only [Act.put, List.setIfInBounds_toArray, List.set_cons_zero, List.set_cons_succ]
        have B7 := Lib.hid (B6.out.trans ((below_box w6 (.cells #[.string nm, .bool true, .int .i64 o6, .int .i64 n6, .string s6, .string t6, .pointer p6, .slice A6 m6 c6] 124)).mono B6.out.size))
        refine wpAnyZ_one (i := 9) (o := ⟨some 84, _, _, _, _, _⟩) (by kernel_rfl) rfl (fun K' hK' => ?_)
        go_simp
        refine hK'.out _ _ (fun _ => HS.out _ B7.out) ?_
        clear hK' K'
        try simp only [Act.put, List.setIfInBounds_toArray, List.set_cons_zero, List.set_cons_succ]
        have RN := Lib.hid (row0_new w6 [.string nm, .bool true, .int .i64 o6, .int .i64 n6, .string s6, .string t6, .pointer p6, .slice A6 m6 c6] 124)
        have X7 := Lib.hid (hL.out.X.keep B7.out)
        have F7 := Lib.hid (hL.out.F.keepN (grown_of_below B7.out none))
        have H7 := Lib.hid (grown_trans hL.out.H (grown_of_below B7.out (some (w.heap.size + 2))))
        have HOL := Lib.hid (fun g hg => hL.out.F.own.lt g hg)
        have KK := Lib.hid (show KAt (w6.alloc (.cells #[.string nm, .bool true, .int .i64 o6, .int .i64 n6, .string s6, .string t6, .pointer p6, .slice A6 m6 c6] 124)) (fun b => w4.heap.size ≤ b ∧ some b ≠ v.ownBlock) (ownV yP) [.int .i64 o6, .int .i64 n6, .string s6, .string t6, .pointer p6, .slice A6 m6 c6] from
          ((KU.out.mono (B' := fun b => wr.heap.size ≤ b ∧ b < w6.heap.size) fun b h1 h2 => ⟨h1, h2⟩).cong fun b hb => (below_box w6 _).block b hb.2).mono fun b hb _ => ⟨Nat.le_trans HW.out hb.1, fun e => by have := (HOL.out b e.symm).2; have := hb.1; omega⟩)
        have HB7 := Lib.hid (show w4.heap.size ≤ (w6.alloc (.cells #[.string nm, .bool true, .int .i64 o6, .int .i64 n6, .string s6, .string t6, .pointer p6, .slice A6 m6 c6] 124)).heap.size from Nat.le_trans HW.out B7.out.size)
        refine wpAnyZ_one (i := 10) (o := ⟨some 85, _, _, _, _, _⟩) (by kernel_rfl) rfl (fun K' hK' => ?_)
        refine step_append_fe rfl (.tmp 76) (.tmp 84) rfl w4.heap.size v E rfl F7.out ⟨(nm, true, ownV yP), o6, n6, s6, t6, p6, A6, m6, c6⟩ ⟨w6.heap.size, 0, none⟩ 1 rfl RN.out KK.out HEL.out HB7.out ?_
        intro v' w8 hrow hg
        have hn : ∀ b, b < w4.heap.size → some b ≠ v.ownBlock := fun b hb e => by have := (HOL.out b e.symm).1; omega
        have X8 := Lib.hid (X7.out.but hg (hn _ (by have := HKL.out; omega)))
        have H8 := Lib.hid (show w4.grownBy w8 (some (w.heap.size + 2)) from by
          rcases hv2 : v.ownBlock with _ | q
          · rw [hv2] at hg
            exact grown_trans H7.out ⟨hg.os, hg.tape, hg.output, hg.size, fun i hi _ => hg.block i hi (fun e => nomatch e)⟩
          · rw [hv2] at hg
            exact grown_new H7.out hg (HOL.out q hv2).1)
        have S8 := Lib.hid (show w8.cell? ⟨w.heap.size + 2, 5, none⟩ = some v ∧ w8.cell? ⟨ar.block, ar.off + 2, none⟩ = some (.string nm) from ⟨X8.out.c5, G2.out w8 H8.out⟩)
        have HROW := Lib.hid hrow
        obtain ⟨A8, cp8, hv', -, -, -⟩ := hrow.fat
        obtain ⟨nl, hnl⟩ : ∃ nl, nl = (E ++ [(⟨(nm, true, ownV yP), o6, n6, s6, t6, p6, A6, m6, c6⟩ : Fe)]).length := ⟨_, rfl⟩
        rw [← hnl] at hv'
        subst hv'
        refine hK'.out _ _ (fun _ => S8.out) ?_
        clear hnl hrow hg hn hK' K'
        try simp only [Act.put, List.setIfInBounds_toArray, List.set_cons_zero, List.set_cons_succ]
        refine wpAnyZ_take (i := 11) (oi := ⟨some 86, _, _, _, _, _⟩) (v := .pointer (some ⟨w.heap.size + 2, 5, none⟩)) rfl (by kernel_rfl) (by kernel_rfl) (by kernel_rfl) (by kernel_rfl) (fun _ _ _ h => h) (.inl ⟨by rfl, fun w' hSw => ?_⟩) S8.out ?_
        · clear hSw
          go_simp
        try simp only [Act.put, List.setIfInBounds_toArray, List.set_cons_zero, List.set_cons_succ]
        obtain ⟨k0, k1, k2, k3, k4, k5, y0, y1, y2, y3, y4, y5⟩ := X8.out
        refine wpAnyZ_one (i := 12) (o := ⟨none, _, _, _, _, _⟩) (by kernel_rfl) rfl (fun K' hK' => ?_)
        go_simp
        refine hK'.out _ _ (fun h => absurd rfl h) ?_
        refine wpAnyZ_done (by kernel_rfl) ?_
        refine NoPanic.normal ?_
        clear hK' K' k0 k1 k2 k3 k4 k5 y0 y1 y2 y3 y4 y5
        have HNL := Lib.hid (show RLp w w4 (w8.setCell ⟨w.heap.size + 2, 5, none⟩ (.slice A8 nl cp8)) (E ++ [⟨(nm, true, ownV yP), o6, n6, s6, t6, p6, A6, m6, c6⟩]) (.slice A8 nl cp8) from by
          have gs : w8.grownBy (w8.setCell ⟨w.heap.size + 2, 5, none⟩ (.slice A8 nl cp8)) (some (w.heap.size + 2)) := grown_setCell w8 ⟨w.heap.size + 2, 5, none⟩ _
          exact ⟨X8.out.set5 _, HROW.out.keep gs (by have := HKL.out; omega), grown_trans H8.out gs⟩)
        have hyb : yn ≤ 200 := by have := HLT.out; have := H200.out; have := HYN.out; omega
        have HNS2 := Lib.hid (show ∀ a', (1 + yn < cr → a' = ar.add ((1 + yn) * 4)) → Ns w4 (some a') (nr - (1 + yn)) (cr - (1 + yn)) (flatR ((recParts P).drop (k + 1))) from fun a' ha' => by
          have h1 := ns_rest (i := 1 + yn) HRN.out (by omega) (fun h => by have := HNC.out; omega) a' ha'
          have e : (fieldN nm :: (yP ++ flatR ((recParts P).drop (k + 1)))).drop (1 + yn) = flatR ((recParts P).drop (k + 1)) := by
            rw [HYN.out, Nat.add_comm, List.drop_succ_cons, List.drop_append_of_le_length (Nat.le_refl _), List.drop_length, List.nil_append]
          rw [e] at h1
          exact h1)
        have hnc2 : 1 + yn ≤ cr := by have := HNC.out; omega
        go_wp2_with fail
        go_roundw
        case rel =>
          obtain ⟨a', e', ha', hb'⟩ : ∃ a' : Addr, (if cr = 1 + yn then some ar else some (ar.add ((1 + yn) * 4))) = some a' ∧ (1 + yn < cr → a' = ar.add ((1 + yn) * 4)) ∧ a'.block < w.heap.size := by
            split
            · exact ⟨ar, rfl, fun h => by omega, hab⟩
            · exact ⟨_, rfl, fun _ => rfl, by rw [add_block]; exact hab⟩
          exact ⟨k + 1, E ++ [⟨(nm, true, ownV yP), o6, n6, s6, t6, p6, A6, m6, c6⟩], _, some a', _, _, by rw [e'], by go_num, hlt, Lib.hid (HNX.out _ rfl), Lib.hid ⟨HNS2.out a' ha', fun b e => by injection e with e; subst e; exact hb'⟩, HNL⟩
        case measure => simp [intOf]; omega
      · have hke : k = nv := by omega
        have HEQ := Lib.hid (show kk = .fs (ofL (E.map Fe.y)) by
          have h1 := hE.out
          have h2 : (recParts P).length = nv := by
            have := congrArg List.length HVL.out
            rw [List.length_map, List.length_map] at this
            rw [HNV.out]; omega
          rw [hke, ← h2, List.take_length] at h1
          rw [HE.out, h1])
        have R4 := Lib.hid (XR4.out.but hL.out.H (fun e => by injection e with e; omega))
        obtain ⟨A7, cp7, hv', hfat, hle, hcm⟩ := hL.out.F.fat
        have hlen : (ofL (E.map Fe.y)).len = E.length := by rw [ofL_len, List.length_map]
        rw [← hlen] at hv' hle
        obtain ⟨nl, hnl⟩ : ∃ nl, nl = (ofL (E.map Fe.y)).len := ⟨_, rfl⟩
        rw [← hnl] at hv' hle
        subst hv'
        have HFA := Lib.hid hfat
        have HLE := Lib.hid hle
        have HCM := Lib.hid hcm
        have HNLL := Lib.hid hnl
        have HBW := Lib.hid (show Below w.heap.size w wr from HB4.out.trans (below_of_grown hL.out.H (by omega) HB4.out.size))
        have HZ := Lib.hid (show w.heap.size + 3 ≤ w4.heap.size from HZ4.out)
        clear hfat hle hcm hlen hnl hke
        obtain ⟨k0, k1, k2, k3, k4, k5, -, -, -, -, -, -⟩ := hL.out.X
        obtain ⟨z0, z1, z2, z3, z4, z5, r0, r1, r2, r3, r4, r5⟩ := R4.out
        go_wp2_with fail
        obtain ⟨j0, j1, j2, j3, j4, j5, -, -, -, -, -, -⟩ := R4.out.set (.int .i64 46) (.int .i64 0) (.string ⟨#[]⟩) (.string ⟨#[]⟩) (.pointer none) (.slice A7 nl cp7)
        refine bodyPost_ret (v := .agg #[.int .i64 46, .int .i64 0, .string ⟨#[]⟩, .string ⟨#[]⟩, .pointer none, .slice A7 nl cp7]) (by simp [results, Tryz.results57, go_sem, j0, j1, j2, j3, j4, j5]) rfl ?_
        rw [HEQ.out]
        refine ⟨[.int .i64 46, .int .i64 0, .string ⟨#[]⟩, .string ⟨#[]⟩, .pointer none, .slice A7 nl cp7], rfl, ⟨0, A7, cp7, by rw [HNLL.out]; rfl, by rw [← HNLL.out]; exact HLE.out, HCM.out, ?_⟩, below_set6 HBW.out (Nat.le_refl _) _ _ _ _ _ _⟩
        exact (HFA.out.cong fun b hb => heap_set6 wr w.heap.size _ _ _ _ _ _ (by have := HZ.out; omega)).mono fun b hb _ => by have := HZ.out; omega
/-- kinds.own: the type that a value has of its own. -/
theorem kind_own : ∀ N : Nat, OwnC N
  | 0 => fun A n c P w h _ _ hV => absurd hV.pos (by omega)
  | N + 1 => fun A n c P w h h2 hns hV => by
    by_cases h5 : headOp P = 5
    · exact own_set N (kind_own N) A n c P w h h2 hns hV h5
    · by_cases h6 : headOp P = 6
      · exact own_rec N (kind_own N) A n c P w h h2 hns hV h6
      · exact own_leaf A n c P w hns hV h5 h6
end Go.Proofs.YtnolmlhcikcceaaGreatDoor
namespace Go.Proofs.YtnolmlhcikcceaaGreatDoor
open Go.RowKit Go.Wk Go.Sort
set_option maxRecDepth 100000

set_option maxHeartbeats 1000000 in
theorem Ns.kinds_Has {A1 A2 : Option Addr} {n1 c1 n2 c2 : Nat} {T V : List Nd} {w : World} (h : Ns w A1 n1 c1 T) (k : Ns w A2 n2 c2 V) :
    Calls Tryz.prog 25 #[.slice A1 n1 c1, .slice A2 n2 c2] w fun e w' => e = .returned (.tuple #[.bool (kHasB T V), errV (kHasE T V)]) ∧ Below w.heap.size w w' := by
  have C1 := Lib.hid (kinds_read A1 n1 c1 T w h)
  have C2 := Lib.hid (fun w' hb => val_Check_ns (k.keep (w' := w') hb))
  have HV := Lib.hid k
  have HF := Lib.hid (show kHasE T V = if kindFault T = 0 then valFault V else kindFault T from rfl)
  clear h k
  go_enter Tryz.func25, Tryz.ntmps25
  go_wp2_with fail
  refine C1.out.mono ?_
  rintro e w1 ⟨b1, o, n, s, t, p, A, m, c, rfl, hk⟩
  have B1 := Lib.hid b1
  have HK := Lib.hid hk
  have X1 := Lib.hid (bx6_new w1 (.int .i64 o) (.int .i64 n) (.string s) (.string t) (.pointer p) (.slice A m c) 74)
  have BX := Lib.hid (b1.trans ((below_box w1 (.cells #[.int .i64 o, .int .i64 n, .string s, .string t, .pointer p, .slice A m c] 74)).mono b1.size))
  have HZ := Lib.hid (show (w1.alloc (.cells #[.int .i64 o, .int .i64 n, .string s, .string t, .pointer p, .slice A m c] 74)).heap.size = w1.heap.size + 1 by simp)
  clear b1 hk C1
  obtain ⟨f1, hf1⟩ : ∃ f1, f1 = kindFault T := ⟨_, rfl⟩
  obtain ⟨f2, hf2⟩ : ∃ f2, f2 = valFault V := ⟨_, rfl⟩
  obtain ⟨f, hf⟩ : ∃ f, f = kHasE T V := ⟨_, rfl⟩
  have HFF := Lib.hid hf
  rw [← hf, ← hf1, ← hf2] at HF
  rw [← hf2] at C2
  rw [← hf1]
  have HF1 := Lib.hid hf1
  have HF2 := Lib.hid hf2
  clear hf1 hf2 hf
  have KF := Lib.hid (show ∀ (ad : Addr) (w' : World), w'.cell? ad = some (errV f1) → w'.cell? ⟨ad.block, ad.off + 1, none⟩ = some (errV f2) → Calls Tryz.prog 64 #[.slice (some ad) 2 2] w' fun e w'' => e = .returned (errV f) ∧ Below w'.heap.size w' w'' from fun ad w' h0 h1 => by
    rw [HF.out]; exact kind_first f1 f2 ad w' h0 h1)
  have W1 := (errV_ways f1).imp And.right And.right
  have W2 := (errV_ways f2).imp And.right And.right
  by_cases h0 : f = 0
  · rw [h0, errV_zero] at KF
    have h12 := has_zero.1 (HFF.out.symm.trans h0)
    obtain ⟨kk, vk, ek, kat⟩ := HK.out h12.1
    have HKA := Lib.hid kat
    have HVK := Lib.hid vk
    have hkin : Kin T kk := ⟨vk, ek, (kindFault_zero.1 h12.1).1⟩
    have HB := Lib.hid (hkin.has h12.2)
    have HKS := Lib.hid hkin.sz
    have HIV := Lib.hid (isV_zero.1 h12.2)
    have HF0 := Lib.hid h0
    clear h0 h12 vk ek kat hkin HK
    generalize errV f1 = v1 at *
    generalize errV f2 = v2 at *
    rcases W1 with rfl | rfl <;> rcases W2 with rfl | rfl
    all_goals
      go_wp2_with fail
      refine (C2.out _ BX.out).mono ?_
      rintro e w2 ⟨rfl, b2⟩
      have B2 := Lib.hid b2
      clear b2
      have rn := fun v1 v2 => cells_new w2 [v1, v2] 30
      have R0 := Lib.hid (fun v1 v2 => rn v1 v2 0 _ rfl)
      have R1 := Lib.hid (fun v1 v2 => rn v1 v2 1 _ rfl)
      clear rn
      go_wp2_with fail
      refine (KF.out _ _ (R0.out _ _) (R1.out _ _)).mono ?_
      rintro e w3 ⟨rfl, b3⟩
      have B3 := Lib.hid (B2.out.trans (((below_box w2 _).trans (b3.mono (by simp))).mono B2.out.size))
      clear b3
      go_wp2_with fail
      have X3 := Lib.hid (X1.out.keep B3.out)
      have BW3 := Lib.hid (BX.out.trans (B3.out.mono BX.out.size))
      have B13 := Lib.hid (show Below w1.heap.size w1 w3 from (below_box w1 (.cells #[.int .i64 o, .int .i64 n, .string s, .string t, .pointer p, .slice A m c] 74)).trans (B3.out.mono (by simp)))
      have bd : Below w3.heap.size w3 w3.drew := ⟨rfl, rfl, rfl, Nat.le_refl _, fun _ _ => rfl⟩
      have BD := Lib.hid bd
      have KO := Lib.hid (kind_own _ A2 n2 c2 V w3.drew (Nat.le_refl _) HIV.out.1 (HV.out.keep (BW3.out.trans (bd.mono BW3.out.size))) HIV.out.2)
      have HOS := Lib.hid (own_sz HIV.out.2)
      have KBB := Lib.hid (fun (u : List Value) (w5 : World) (hb : Below w3.heap.size w3 w5) (ku : KAt w5 (fun b => w3.drew.heap.size ≤ b) (ownV V) u) => kind_below _ (ownV V) kk u _ w5 (fun b => w.heap.size ≤ b ∧ b < w5.heap.size) (Nat.le_refl _) (by have := HOS.out; have := HIV.out.1; omega) (by have := HKS.out; omega)
        (ku.mono fun b h1 h2 => ⟨Nat.le_trans BW3.out.size h1, h2⟩)
        (((HKA.out.mono (B' := fun b => w.heap.size ≤ b ∧ b < w1.heap.size) fun b h1 h2 => ⟨h1, h2⟩).cong (w' := w5) fun b hb2 => (B13.out.trans (hb.mono B13.out.size)).block b hb2.2).mono fun b h1 h2 => ⟨h1.1, h2⟩)
        (own_valid HIV.out.2) HVK.out (fun b hb => hb.2))
      clear bd
      obtain ⟨a0, a1, a2, a3, a4, a5, -, -, -, -, -, -⟩ := X3.out
      go_region_held3 (fun (w' : World) => w'.cell? ⟨w1.heap.size, 0, none⟩ = some (.int .i64 o) ∧ w'.cell? ⟨w1.heap.size, 1, none⟩ = some (.int .i64 n) ∧ w'.cell? ⟨w1.heap.size, 2, none⟩ = some (.string s) ∧ w'.cell? ⟨w1.heap.size, 3, none⟩ = some (.string t) ∧ w'.cell? ⟨w1.heap.size, 4, none⟩ = some (.pointer p) ∧ w'.cell? ⟨w1.heap.size, 5, none⟩ = some (Value.slice A m c)) (first | go_keep)
        (first
          | (go_at_call 57; (refine KO.out.mono ?_); rintro e w5 ⟨u, rfl, ku, b5⟩; (have B5 := Lib.hid (BD.out.trans (b5.mono BD.out.size))); (have KB := Lib.hid (KBB.out u w5 B5.out ku)); (obtain ⟨o6, n6, s6, t6, p6, A6, m6, c6, rfl⟩ := kat_six ku); clear a0 a1 a2 a3 a4 a5 ku b5; (obtain ⟨a0, a1, a2, a3, a4, a5, -, -, -, -, -, -⟩ := X3.out.keep B5.out))
          | (go_at_call 27; (refine KB.out.mono ?_); rintro e w6 ⟨rfl, b6⟩; (have B6 := Lib.hid (B5.out.trans (b6.mono B5.out.size))); clear a0 a1 a2 a3 a4 a5 b6; (obtain ⟨a0, a1, a2, a3, a4, a5, -, -, -, -, -, -⟩ := X3.out.keep B6.out)))
      all_goals
        go_wp2_with fail
        go_ret2
        exact ⟨by rw [HB.out, ← HFF.out, HF0.out]; rfl, BW3.out.trans (B6.out.mono BW3.out.size)⟩
  · have HE := Lib.hid (show kHasB T V = false by unfold kHasB; rw [← HFF.out, decide_eq_false h0]; rfl)
    have HE2 := Lib.hid (show errV (kHasE T V) = .iface 39 (.int .i64 f) by rw [← HFF.out]; exact errV_ne h0)
    rw [errV_ne h0] at KF
    clear h0
    generalize errV f1 = v1 at *
    generalize errV f2 = v2 at *
    rcases W1 with rfl | rfl <;> rcases W2 with rfl | rfl
    all_goals
      go_wp2_with fail
      refine (C2.out _ BX.out).mono ?_
      rintro e w2 ⟨rfl, b2⟩
      have B2 := Lib.hid b2
      clear b2
      have rn := fun v1 v2 => cells_new w2 [v1, v2] 30
      have R0 := Lib.hid (fun v1 v2 => rn v1 v2 0 _ rfl)
      have R1 := Lib.hid (fun v1 v2 => rn v1 v2 1 _ rfl)
      clear rn
      go_wp2_with fail
      refine (KF.out _ _ (R0.out _ _) (R1.out _ _)).mono ?_
      rintro e w3 ⟨rfl, b3⟩
      have B3 := Lib.hid (B2.out.trans (((below_box w2 _).trans (b3.mono (by simp))).mono B2.out.size))
      clear b3
      go_wp2_with fail
      go_ret2
      exact ⟨by rw [HE.out, HE2.out]; rfl, BX.out.trans (B3.out.mono BX.out.size)⟩
end Go.Proofs.YtnolmlhcikcceaaGreatDoor
namespace Go.Proofs.YtnolmlhcikcceaaGreatDoor
open Go.RowKit Go.Wk Go.Sort
set_option maxRecDepth 100000

end Go.Proofs.YtnolmlhcikcceaaGreatDoor
namespace Go.Proofs.YtnolmlhcikcceaaGreatDoor
open Go.RowKit Go.Wk
set_option maxRecDepth 100000

def udCells : List Ud → List Value
  | [] => []
  | u :: U => .string u.1 :: .string u.2 :: udCells U
@[simp] theorem udCells_length (U : List Ud) : (udCells U).length = U.length * 2 := by
  induction U with
  | nil => rfl
  | cons u U ih => simp only [udCells, List.length_cons, ih]; omega
theorem udCells_append (U V : List Ud) : udCells (U ++ V) = udCells U ++ udCells V := by
  induction U with
  | nil => rfl
  | cons u U ih => simp only [List.cons_append, udCells, ih]
theorem uds_cells {w : World} {a : Addr} {P : List Ud} (h : ∀ j u, (udCells P)[j]? = some u → w.cell? (a.add j) = some u) : UdsAt w (some a) P := by
  have key : ∀ (P : List Ud) (k : Nat) (x : Ud), P[k]? = some x → (udCells P)[k * 2]? = some (.string x.1) ∧ (udCells P)[k * 2 + 1]? = some (.string x.2) := by
    intro P
    induction P with
    | nil => intro k x hx; simp at hx
    | cons y P ih =>
      intro k x hx
      cases k with
      | zero => simp at hx; subst hx; exact ⟨rfl, rfl⟩
      | succ k =>
        have := ih k x (by simpa using hx)
        rw [show (k + 1) * 2 = k * 2 + 1 + 1 by omega]
        simpa [udCells] using this
  intro k x hx
  obtain ⟨h1, h2⟩ := key P k x hx
  refine ⟨a, rfl, h _ _ h1, ?_⟩
  have := h _ _ h2
  rw [← add_add] at this
  unfold Addr.add at this ⊢
  simpa using this
theorem us_of_own {w : World} {B : Nat} {v : Value} {P : List Ud} (h : w.ownsRow B 33 2 v P.length (udCells P)) (hP : ∀ x ∈ P, UOk x) (hl : P.length ≤ 1000000) : ∃ A c, v = .slice A P.length c ∧ Us w A P.length c P := by
  rcases h.2 with ⟨rfl, h0⟩ | ⟨g, cap, cur, rfl, hB, _, hc, _⟩
  · have : P = [] := List.eq_nil_of_length_eq_zero h0
    subst this
    exact ⟨none, 0, rfl, rfl, Nat.le_refl _, Nat.zero_le _, fun k x hx => by simp at hx, fun x hx => nomatch hx⟩
  · exact ⟨some ⟨g, 0, none⟩, cap, rfl, rfl, hc, by unfold maxLen; omega, uds_cells (h.cells (g := g) rfl), hP⟩
end Go.Proofs.YtnolmlhcikcceaaGreatDoor
namespace Go.Wk
/-- How many of these are not met yet. -/
def unmet (K M : List Ud) : Nat := (K.filter fun p => !hadU M p).length
theorem unmet_le (K M : List Ud) : unmet K M ≤ K.length := List.length_filter_le _ _
theorem unmet_mono {K M M' : List Ud} (h : ∀ x ∈ M, x ∈ M') : unmet K M' ≤ unmet K M := by
  induction K with
  | nil => exact Nat.le_refl _
  | cons x K ih =>
    unfold unmet at ih ⊢
    simp only [List.filter_cons]
    by_cases h1 : hadU M x = true
    · rw [hadU_iff.2 (h x (hadU_iff.1 h1)), h1]; simpa using ih
    · have h1' : hadU M x = false := by simpa using h1
      rw [h1']
      by_cases h2 : hadU M' x = true
      · rw [h2]; simp; omega
      · have h2' : hadU M' x = false := by simpa using h2
        rw [h2']; simp; omega
theorem unmet_snoc {K M : List Ud} {p : Ud} (hp : p ∈ K) (hn : p ∉ M) : unmet K (M ++ [p]) < unmet K M := by
  induction K with
  | nil => cases hp
  | cons x K ih =>
    have hle := unmet_mono (K := K) (M := M) (M' := M ++ [p]) (fun y hy => List.mem_append_left _ hy)
    unfold unmet at ih hle ⊢
    simp only [List.filter_cons]
    by_cases hx : x = p
    · subst hx
      have h1 : hadU M x = false := hadU_not.2 hn
      have h2 : hadU (M ++ [x]) x = true := hadU_iff.2 (by simp)
      rw [h1, h2]; simp; omega
    · have hpk : p ∈ K := by
        rcases List.mem_cons.1 hp with h | h
        · exact absurd h.symm hx
        · exact h
      have := ih hpk
      have e : hadU (M ++ [p]) x = hadU M x := by
        rw [Bool.eq_iff_iff, hadU_iff, hadU_iff, List.mem_append]
        constructor
        · rintro (h | h)
          · exact h
          · simp only [List.mem_cons, List.not_mem_nil, or_false] at h; exact absurd h hx
        · exact fun h => .inl h
      rw [e]
      by_cases h1 : hadU M x = true
      · rw [h1]; simpa using this
      · have h1' : hadU M x = false := by simpa using h1
        rw [h1']; simp; omega
/-- What above adds to what was met. -/
structure Adds (G : List (Ud × List Ud)) (u : Ud) (M M' : List Ud) : Prop where
  sub : ∀ x ∈ M, x ∈ M'
  sound : ∀ x ∈ M', x ∈ M ∨ Abv G u x
  here : ∀ p, Stp G u p → p ∈ M'
  shut : ∀ x ∈ M', x ∉ M → ∀ p, Stp G x p → p ∈ M'
theorem adds_all {G : List (Ud × List Ud)} {u : Ud} {M' : List Ud} (h : Adds G u [] M') (x : Ud) : x ∈ M' ↔ Abv G u x :=
  ⟨fun hx => (h.sound x hx).resolve_left (by simp), abv_closed (C := fun y => y ∈ M') (fun y hy p hp => h.shut y hy (by simp) p hp) h.here x⟩
end Go.Wk
namespace Go.Proofs.YtnolmlhcikcceaaGreatDoor
open Go.RowKit Go.Wk Go.Maps
set_option maxRecDepth 100000

theorem Us.but0 {w w' : World} {A : Option Addr} {n c : Nat} {P : List Ud} {g : Option Nat} (h : Us w A n c P) (hg : w.grownBy w' g) (hR : 0 < P.length → ∀ a, A = some a → g ≠ some a.block) : Us w' A n c P := by
  rcases Nat.eq_zero_or_pos P.length with h0 | h0
  · have : P = [] := List.eq_nil_of_length_eq_zero h0
    subst this
    exact ⟨h.len, h.cap, h.max, fun k x hx => by simp at hx, h.ok⟩
  · exact h.but hg (hR h0)
/-- The store, as above reads it beside the map of those met. -/
structure StoreAt (w : World) (bs bm : Nat) (E : List En) : Prop where
  map : w.ownsMap Tryz.prog 33 heldR bs E.length (mapU (putsE E))
  ne : bs ≠ bm
  ups : ∀ x ∈ E, Us w x.UA x.un x.uc x.ups
  ap : ∀ x ∈ E, 0 < x.ups.length → ∀ a, x.UA = some a → some bm ≠ some a.block
theorem StoreAt.grown {w w' : World} {bs bm : Nat} {E : List En} (h : StoreAt w bs bm E) (hg : w.grownBy w' (some bm)) : StoreAt w' bs bm E :=
  ⟨ownsMap_block h.map (hg.block bs h.map.lt (fun e => h.ne (by injection e))), h.ne, fun x hx => (h.ups x hx).but0 hg (h.ap x hx), h.ap⟩
def metM (M : List Ud) : List (Ud × Value) := M.map fun p => (p, .int .i64 1)
def MetAt (w : World) (bm : Nat) (M : List Ud) : Prop := w.ownsMap Tryz.prog 33 heldR bm M.length (mapU (metM M))
theorem lastU_met (M : List Ud) (p : Ud) : lastU (metM M) p = if hadU M p = true then some (.int .i64 1) else none := by
  induction M with
  | nil => rfl
  | cons x r ih =>
    have : hadU (x :: r) p = (decide (x = p) || hadU r p) := rfl
    simp only [metM, List.map_cons, lastU]
    have ih' : lastU (List.map (fun p => (p, Value.int .i64 1)) r) p = if hadU r p = true then some (.int .i64 1) else none := ih
    rw [ih', this]
    by_cases h1 : hadU r p = true
    · rw [h1]; simp
    · have h1' : hadU r p = false := by simpa using h1
      rw [h1']
      by_cases h2 : x = p
      · simp [h2]
      · simp [h2]
theorem metM_ok {M : List Ud} (h : ∀ x ∈ M, UOk x) : ∀ y ∈ metM M, UOk y.1 := fun y hy => by
  obtain ⟨x, hx, rfl⟩ := List.mem_map.1 hy
  exact h x hx
def graphE (E : List En) : List (Ud × List Ud) := E.map fun x => (x.u, x.ups)
def allUps (E : List En) : List Ud := E.flatMap fun x => x.ups
/-- What stands at a uid in the store: its Up. -/
theorem store_look {w : World} {bs bm : Nat} {E : List En} (h : StoreAt w bs bm E) (hn : (E.map En.u).Nodup) (hok : ∀ x ∈ E, UOk x.u) (u : Ud) (hu : UOk u) :
    ∃ (ty id : ByteArray) (UA : Option Addr) (un uc : Nat) (ups : List Ud) (NA : Option Addr) (nn nc : Nat),
      (mapU (putsE E)).atKey (keyU u) (.held zeroE) = .held (.agg #[.string ty, .string id, .slice UA un uc, .slice NA nn nc]) ∧ Us w UA un uc ups ∧
      (0 < ups.length → ∀ a, UA = some a → some bm ≠ some a.block) ∧ (∀ p, Stp (graphE E) u p ↔ p ∈ ups) ∧ ∀ p ∈ ups, p ∈ allUps E := by
  by_cases hx : ∃ x ∈ E, x.u = u
  · obtain ⟨x, hx, rfl⟩ := hx
    refine ⟨x.u.1, x.u.2, x.UA, x.un, x.uc, x.ups, x.NA, x.nn, x.nc, ?_, h.ups x hx, h.ap x hx, fun p => ⟨?_, fun hp => ⟨(x.u, x.ups), List.mem_map.2 ⟨x, hx, rfl⟩, rfl, hp⟩⟩, fun p hp => List.mem_flatMap.2 ⟨x, hx, hp⟩⟩
    · rw [at_mapU _ _ (hok x hx) _ (putsE_ok hok)]
      have : lastU (putsE E) x.u = some x.v := lastU_some (x := (x.u, x.v)) (by rw [putsE, List.map_map]; exact hn) (List.mem_map.2 ⟨x, hx, rfl⟩)
      rw [this]; rfl
    · rintro ⟨e, he, h1, h2⟩
      obtain ⟨y, hy, rfl⟩ := List.mem_map.1 he
      have : y = x := by
        obtain ⟨i, hi, rfl⟩ := List.getElem_of_mem hy
        obtain ⟨j, hj, rfl⟩ := List.getElem_of_mem hx
        have hp := List.pairwise_iff_getElem.1 hn
        rcases Nat.lt_trichotomy i j with hlt | he | hlt
        · have q := hp i j (by simpa using hi) (by simpa using hj) hlt
          rw [List.getElem_map, List.getElem_map] at q
          exact absurd h1 q
        · subst he; rfl
        · have q := hp j i (by simpa using hj) (by simpa using hi) hlt
          rw [List.getElem_map, List.getElem_map] at q
          exact absurd h1.symm q
      subst this; exact h2
  · refine ⟨⟨#[]⟩, ⟨#[]⟩, none, 0, 0, [], none, 0, 0, ?_, ⟨rfl, Nat.le_refl _, Nat.zero_le _, fun k x hx => by simp at hx, fun x hx => by cases hx⟩, fun h => absurd h (by simp), fun p => ⟨?_, fun h => by cases h⟩, fun p hp => by cases hp⟩
    · rw [at_mapU _ _ hu _ (putsE_ok hok), lastU_none]
      · rfl
      · intro y hy e
        obtain ⟨z, hz, rfl⟩ := List.mem_map.1 hy
        exact hx ⟨z, hz, e⟩
    · rintro ⟨e, he, h1, h2⟩
      obtain ⟨y, hy, rfl⟩ := List.mem_map.1 he
      exact absurd ⟨y, hy, h1⟩ hx
/-- In the midst of above's loop. -/
structure Mid (E : List En) (u : Ud) (ups M Mk : List Ud) (k : Nat) (w wr : World) (bm : Nat) : Prop where
  sub : ∀ x ∈ M, x ∈ Mk
  sound : ∀ x ∈ Mk, x ∈ M ∨ Abv (graphE E) u x
  here : ∀ p ∈ ups.take k, p ∈ Mk
  shut : ∀ x ∈ Mk, x ∉ M → ∀ p, Stp (graphE E) x p → p ∈ Mk
  ok : ∀ x ∈ Mk, UOk x
  cnt : Mk.length + unmet (allUps E) Mk ≤ M.length + unmet (allUps E) M
  met : MetAt wr bm Mk
  grow : w.grownBy wr (some bm)
/-- What above does. -/
def AbvPost (E : List En) (u : Ud) (M : List Ud) (w : World) (bm : Nat) (e : Ending) (w' : World) : Prop :=
  e = .returned (.tuple #[]) ∧ ∃ M', Adds (graphE E) u M M' ∧ (∀ x ∈ M', UOk x) ∧ M'.length + unmet (allUps E) M' ≤ M.length + unmet (allUps E) M ∧ MetAt w' bm M' ∧ w.grownBy w' (some bm)
theorem field_up (x y : Value) (A B : Option Addr) (n c m d : Nat) (w : World) : (Instr.field 38 (.agg #[x, y, .slice A n c, .slice B m d]) 1).run Tryz.prog w = .ok (.slice A n c) w := by kernel_rfl
theorem zero_int (w : World) : (zeroValue 3).run Tryz.prog w = .ok (.int .i64 0) w := by kernel_rfl
set_option maxHeartbeats 4000000 in
theorem ent_above (E : List En) (bs bm : Nat) (hn : (E.map En.u).Nodup) (hok : ∀ x ∈ E, UOk x.u) : ∀ (m : Nat) (w : World) (u : Ud) (M : List Ud), UOk u → (∀ x ∈ M, UOk x) → unmet (allUps E) M < m → M.length + unmet (allUps E) M ≤ 1000000 →
    StoreAt w bs bm E → MetAt w bm M → Calls Tryz.prog 47 #[.map (some bs), udV u, .map (some bm)] w (AbvPost E u M w bm) := by
  intro m
  induction m with
  | zero => intro w u M _ _ h; omega
  | succ m ih =>
    intro w u M hu hM hm hc hS hMet
    obtain ⟨ty, id, UA, un, uc, ups, NA, nn, nc, hat, hus, hap, hstp, hin⟩ := store_look hS hn hok u hu
    have HS := Lib.hid hS
    have HMet := Lib.hid hMet
    have HAT := Lib.hid hat
    have HUS := Lib.hid hus
    have HK := Lib.hid (keyOf_ud u hu)
    have HSTP := Lib.hid hstp
    have HIN := Lib.hid hin
    have HAP := Lib.hid hap
    have HUL := Lib.hid hus.len
    have hmax := hus.max
    unfold maxLen at hmax
    clear hS hMet hat hus hstp hin hap
    unfold udV at HK ⊢
    have G0 := Lib.hid (World.grownBy_alloc w (.cells #[.string u.1, .string u.2] 33) (some bm))
    have S0 := Lib.hid (HS.out.grown G0.out)
    have M0 := Lib.hid (show MetAt _ bm M from ownsMap_keep HMet.out (below_box w (.cells #[.string u.1, .string u.2] 33)))
    have U0 := Lib.hid (HUS.out.keep (below_box w (.cells #[.string u.1, .string u.2] 33)))
    clear HS HMet HUS
    go_enter Tryz.func47, Tryz.ntmps47
    go_wp2_with (at_lookup; refine wpList_lookup_at _ rfl _ _ 98 rfl 33 38 uidKeyed Tryz.underlying98 (zero_ent _) bs E.length _ rfl S0.out.map _ _ rfl HK.out _ HAT.out ?_)
    obtain ⟨w0, hw0⟩ : ∃ w0, w.alloc (.cells #[.string u.1, .string u.2] 33) = w0 := ⟨_, rfl⟩
    rw [hw0] at G0 S0 M0 U0 ⊢
    clear hw0 HK HAT
    have hfu := field_up (.string ty) (.string id) UA NA un uc nn nc
    go_wp2_with fail
    rw [hfu]
    clear hfu
    go_wp2_with fail
    go_loopw [7, 13] (fun _ i wr => ∃ (k : Nat) (Mk : List Ud), k ≤ un ∧ i = .int .i64 k ∧ Hid (Mid E u ups M Mk k w0 wr bm)) (fun _ i _ => un - (intOf i).toNat)
    case atStart => exact ⟨0, M, Nat.zero_le _, rfl, ⟨fun _ h => h, fun _ h => .inl h, fun p h => by simp at h, fun x h h2 => absurd h h2, hM, Nat.le_refl _, M0.out, ⟨rfl, rfl, rfl, Nat.le_refl _, fun _ _ _ => rfl⟩⟩⟩
    case round =>
      obtain ⟨k, Mk, hk, rfl, hMid⟩ := hrel
      by_cases hlt : k < un
      · have hlt' : k < ups.length := by rw [← HUL.out]; exact hlt
        have SR := Lib.hid (S0.out.grown hMid.out.grow)
        have UR := Lib.hid (U0.out.but0 hMid.out.grow HAP.out)
        obtain ⟨a, rfl, q0, q1⟩ := UR.out.at_ k _ (List.getElem?_eq_getElem hlt')
        have hpk := HIN.out _ (List.getElem_mem hlt')
        have hps := (HSTP.out _).2 (List.getElem_mem hlt')
        have hpo : UOk ups[k] := UR.out.ok _ (List.getElem_mem hlt')
        have htk : ups.take (k + 1) = ups.take k ++ [ups[k]] := List.take_succ_eq_append_getElem hlt'
        generalize ups[k] = p at *
        have HKp := Lib.hid (keyOf_ud p hpo)
        have HTK := Lib.hid htk
        have HPK := Lib.hid hpk
        have HPS := Lib.hid hps
        have HPO := Lib.hid hpo
        clear htk hpk hps hpo
        unfold udV at HKp
        have G1 := Lib.hid (hMid.out.grow.trans (World.grownBy_alloc wr (.cells #[.string p.1, .string p.2] 33) (some bm)))
        have M1 := Lib.hid (show MetAt _ bm Mk from ownsMap_keep hMid.out.met (below_box wr (.cells #[.string p.1, .string p.2] 33)))
        have P1 := Lib.hid (vr2_new wr (.string p.1) (.string p.2) 33)
        have S1 := Lib.hid (SR.out.grown (World.grownBy_alloc wr (.cells #[.string p.1, .string p.2] 33) (some bm)))
        have HAM := Lib.hid (at_mapU (metM Mk) p HPO.out (.int .i64 0) (metM_ok hMid.out.ok))
        rw [lastU_met] at HAM
        by_cases hp : p ∈ Mk
        · rw [if_pos (hadU_iff.2 hp)] at HAM
          have HP := Lib.hid hp
          clear hp
          go_wp2_with (at_lookup; refine wpList_lookup_at _ rfl _ _ 100 rfl 33 3 uidKeyed Tryz.underlying100 (zero_int _) bm Mk.length _ rfl M1.out _ _ rfl HKp.out _ HAM.out ?_)
          go_wp2_with fail
          go_roundw
          case rel =>
            refine ⟨k + 1, Mk, by omega, by go_num, Lib.hid ⟨hMid.out.sub, hMid.out.sound, fun y hy => ?_, hMid.out.shut, hMid.out.ok, hMid.out.cnt, M1.out, G1.out⟩⟩
            rw [HTK.out] at hy
            rcases List.mem_append.1 hy with hy | hy
            · exact hMid.out.here y hy
            · simp only [List.mem_cons, List.not_mem_nil, or_false] at hy; subst hy; exact HP.out
          case measure => simp [intOf]; omega
        · rw [if_neg (fun e => hp (hadU_iff.1 e))] at HAM
          have hum := unmet_snoc HPK.out hp
          have HP := Lib.hid hp
          clear hp
          go_wp2_with (first | (at_lookup; refine wpList_lookup_at _ rfl _ _ 100 rfl 33 3 uidKeyed Tryz.underlying100 (zero_int _) bm Mk.length _ rfl M1.out _ _ rfl HKp.out _ HAM.out ?_) | (at_mapUpdate; refine wpList_mapUpdate_own _ rfl _ _ _ 100 rfl 33 3 uidKeyed Tryz.underlying100 heldR bm Mk.length _ rfl M1.out (by have := hMid.out.cnt; unfold maxLen; omega) _ _ _ rfl rfl HKp.out _ [] rfl ?_))
          intro w4 hown hgrow
          have hbl := M1.out.lt
          have hbw : bm < wr.heap.size := hMid.out.met.lt
          have M4 := Lib.hid (show MetAt w4 bm (Mk ++ [p]) by
            unfold MetAt
            have e : metM (Mk ++ [p]) = metM Mk ++ [(p, .int .i64 1)] := by simp [metM]
            rw [e, mapU_snoc, List.length_append]; exact hown)
          have G4 := Lib.hid (G1.out.trans hgrow)
          have S4 := Lib.hid (S1.out.grown hgrow)
          have hpb : w4.heap[wr.heap.size]? = (wr.alloc (.cells #[.string p.1, .string p.2] 33)).heap[wr.heap.size]? := hgrow.block _ (by simp) (by intro e; injection e with e; omega)
          have c0 : w4.cell? ⟨wr.heap.size, 0, none⟩ = some (.string p.1) := (World.cell?_of_block (a := ⟨wr.heap.size, 0, none⟩) hpb).trans P1.out.c0
          have c1 : w4.cell? ⟨wr.heap.size, 1, none⟩ = some (.string p.2) := (World.cell?_of_block (a := ⟨wr.heap.size, 1, none⟩) hpb).trans P1.out.c1
          have hcnt := hMid.out.cnt
          have hmono := unmet_mono (K := allUps E) hMid.out.sub
          have hlen1 : (Mk ++ [p]).length = Mk.length + 1 := by simp
          have KI := Lib.hid (ih w4 p (Mk ++ [p]) HPO.out (fun y hy => by
            rcases List.mem_append.1 hy with hy | hy
            · exact hMid.out.ok y hy
            · simp only [List.mem_cons, List.not_mem_nil, or_false] at hy; subst hy; exact HPO.out) (by omega) (by omega) S4.out M4.out)
          unfold udV at KI
          clear hown hgrow hbl hbw hpb M1 P1 S1 G1 q0 q1 SR UR HAM
          go_wp2_with fail
          refine (KI.out).mono ?_
          rintro e w5 ⟨rfl, M5, hA, hok5, hc5, hm5, hg5⟩
          go_wp2_with fail
          go_roundw
          case rel =>
            have hsub : ∀ y ∈ Mk, y ∈ M5 := fun y hy => hA.sub y (List.mem_append_left _ hy)
            have hpM : p ∈ M5 := hA.sub p (by simp)
            refine ⟨k + 1, M5, by omega, by go_num, Lib.hid ⟨fun y hy => hsub y (hMid.out.sub y hy), fun y hy => ?_, fun y hy => ?_, fun y hy hyM q hq => ?_, hok5, by omega, hm5, G4.out.trans hg5⟩⟩
            · rcases hA.sound y hy with h | h
              · rcases List.mem_append.1 h with h | h
                · exact hMid.out.sound y h
                · simp only [List.mem_cons, List.not_mem_nil, or_false] at h; subst h; exact .inr (.one HPS.out)
              · exact .inr (.more HPS.out h)
            · rw [HTK.out] at hy
              rcases List.mem_append.1 hy with hy | hy
              · exact hsub y (hMid.out.here y hy)
              · simp only [List.mem_cons, List.not_mem_nil, or_false] at hy; subst hy; exact hpM
            · by_cases h1 : y ∈ Mk
              · exact hsub q (hMid.out.shut y h1 hyM q hq)
              · by_cases h2 : y = p
                · subst h2; exact hA.here q hq
                · exact hA.shut y hy (by
                    intro h
                    rcases List.mem_append.1 h with h | h
                    · exact h1 h
                    · simp only [List.mem_cons, List.not_mem_nil, or_false] at h; exact h2 h) q hq
          case measure => simp [intOf]; omega
      · have htk : ups.take k = ups := List.take_of_length_le (by rw [← HUL.out]; omega)
        go_wp2_with fail
        go_end0
        refine ⟨rfl, Mk, ⟨hMid.out.sub, hMid.out.sound, fun q hq => hMid.out.here q (by rw [htk]; exact (HSTP.out q).1 hq), hMid.out.shut⟩, hMid.out.ok, hMid.out.cnt, hMid.out.met, G0.out.trans hMid.out.grow⟩
end Go.Proofs.YtnolmlhcikcceaaGreatDoor
namespace Go.Proofs.YtnolmlhcikcceaaGreatDoor
open Go.RowKit Go.Wk
set_option maxRecDepth 100000

set_option maxHeartbeats 1000000 in
theorem ent_check1 (x e : En) (b : Nat) (w : World) (hv : Vr4 w b e) :
    Calls Tryz.prog 44 #[x.v, .pointer (some ⟨b, 0, none⟩)] w fun r w' => r = .returned (.bool (decide (x.u = e.u))) ∧ Below w.heap.size w w' := by
  have B0 := Lib.hid (below_box w (.cells #[.string x.u.1, .string x.u.2, .slice x.UA x.un x.uc, .slice x.NA x.nn x.nc] 38))
  obtain ⟨e0, e1, -, -⟩ := hv.keep B0.out
  clear hv
  have HD := Lib.hid (show decide (x.u = e.u) = (x.u.1.toList == e.u.1.toList && x.u.2.toList == e.u.2.toList) by
    by_cases he : x.u = e.u
    · rw [he]; simp
    · rcases uid_ne he with h1 | ⟨h1, h2⟩
      · rw [decide_eq_false he, h1]; rfl
      · rw [decide_eq_false he, h1, h2]; rfl)
  obtain ⟨d, hd⟩ : ∃ d, d = decide (x.u = e.u) := ⟨_, rfl⟩
  rw [← hd] at HD ⊢
  clear hd
  unfold En.v
  obtain ⟨⟨p1, p2⟩, UA, un, uc, ups, NA, nn, nc, P⟩ := x
  generalize e.u = q at *
  dsimp only at *
  rcases h1 : (p1.toList == q.1.toList) with _ | _
  · rw [h1] at HD
    go_enter Tryz.func44, Tryz.ntmps44
    go_wp2_with fail
    go_ret
    exact ⟨by rw [HD.out]; rfl, B0.out⟩
  · rcases h2 : (p2.toList == q.2.toList) with _ | _
    · rw [h1, h2] at HD
      go_enter Tryz.func44, Tryz.ntmps44
      go_wp2_with fail
      go_ret
      exact ⟨by rw [HD.out]; rfl, B0.out⟩
    · rw [h1, h2] at HD
      go_enter Tryz.func44, Tryz.ntmps44
      go_wp2_with fail
      go_ret
      exact ⟨by rw [HD.out]; rfl, B0.out⟩
def hadE (E : List En) (u : Ud) : Bool := E.any fun x => decide (x.u = u)
theorem hadE_iff {E : List En} {u : Ud} : hadE E u = true ↔ ∃ x ∈ E, x.u = u := by simp [hadE]
theorem hadE_take {E : List En} {k : Nat} (h : k < E.length) (u : Ud) : hadE (E.take (k + 1)) u = (hadE (E.take k) u || decide (E[k].u = u)) := by
  unfold hadE
  rw [List.take_succ_eq_append_getElem h, List.any_append]
  simp
theorem Es.take {w : World} {A : Option Addr} {n c k : Nat} {E : List En} (h : Es w A n c E) (hk : k ≤ n) : Es w A k c (E.take k) :=
  ⟨by rw [List.length_take, ← h.len]; omega, Nat.le_trans hk h.cap, Nat.le_trans hk h.max, fun j x hx => by
    rw [List.getElem?_take] at hx
    split at hx
    · exact h.at_ j x hx
    · cases hx⟩
set_option maxHeartbeats 1000000 in
theorem ents_IndexFunc (A : Option Addr) (n c : Nat) (E : List En) (e : En) (b : Nat) (w : World) (h : Es w A n c E) (hv : Vr4 w b e) :
    Calls Tryz.prog 87 #[.slice A n c, .func (.func 44) #[] #[.pointer (some ⟨b, 0, none⟩)]] w
      fun r w' => (∃ k : Int, r = .returned (.int .i64 k) ∧ (0 ≤ k ↔ hadE E e.u = true)) ∧ Below w.heap.size w w' := by
  have eg : ∀ args w, (callFunc 44 args).run Tryz.prog w = .ok (.enter 44 args) w := enters_of Tryz.func44 (by kernel_rfl) rfl
  have K := Lib.hid (fun x w' hb => ent_check1 x e b w' (hv.keep (w' := w') hb))
  have HL := Lib.hid h.len
  have HM := h.max
  unfold maxLen at HM
  have HA := Lib.hid (h.at_)
  clear h hv
  generalize e.u = u at *
  go_enter Tryz.func87, Tryz.ntmps87
  go_wp2_with fail
  go_loopw [5, 8] (fun _ i wr => ∃ k : Nat, k ≤ n ∧ i = .int .i64 k ∧ Hid (hadE (E.take k) u = false) ∧ Hid (Below w.heap.size w wr)) (fun _ i _ => n - (intOf i).toNat)
  case atStart => exact ⟨0, Nat.zero_le _, rfl, rfl, Lib.hid (Below.refl _ _)⟩
  case round =>
    obtain ⟨k, hk, rfl, hN, hB⟩ := hrel
    by_cases hlt : k < n
    · have hlt' : k < E.length := by rw [← HL.out]; exact hlt
      have HT := Lib.hid (hadE_take hlt' u)
      obtain ⟨a, rfl, q0, q1, q2, q3, -⟩ := (HA.out.keep hB.out) k _ (List.getElem?_eq_getElem hlt')
      have KX := Lib.hid (K.out E[k] wr hB.out)
      have HY := Lib.hid (show decide (E[k].u = u) = true → hadE E u = true from fun he => hadE_iff.2 ⟨_, List.getElem_mem hlt', of_decide_eq_true he⟩)
      generalize E[k] = x at *
      unfold En.v at KX
      rcases hd : decide (x.u = u) with _ | _
      · rw [hd, Bool.or_false, hN.out] at HT
        rw [hd] at KX
        clear hd
        go_wp2_with (go_at_fn 44; refine KX.out.mono ?_; rintro e w1 ⟨rfl, b1⟩)
        have B1 := bh hB b1
        clear q0 q1 q2 q3 hB b1 KX
        go_wp2_with fail
        go_roundw
        case rel => exact ⟨k + 1, by omega, by go_num, HT, B1⟩
        case measure => simp [intOf]; omega
      · rw [hd] at KX
        have HZ := Lib.hid (HY.out hd)
        clear hd HT
        go_wp2_with (go_at_fn 44; refine KX.out.mono ?_; rintro e w1 ⟨rfl, b1⟩)
        have B1 := bh hB b1
        clear q0 q1 q2 q3 hB b1 KX
        go_wp2_with fail
        go_ret
        exact ⟨⟨k, rfl, by rw [HZ.out]; simp⟩, B1.out⟩
    · have HN := Lib.hid (show hadE E u = false by rw [← hN.out, List.take_of_length_le (by rw [← HL.out]; omega)])
      go_wp2_with fail
      go_ret
      exact ⟨⟨-1, rfl, by rw [HN.out]; simp⟩, hB.out⟩
theorem ents_ContainsFunc (A : Option Addr) (n c : Nat) (E : List En) (e : En) (b : Nat) (w : World) (h : Es w A n c E) (hv : Vr4 w b e) :
    Calls Tryz.prog 43 #[.slice A n c, .func (.func 44) #[] #[.pointer (some ⟨b, 0, none⟩)]] w
      fun r w' => r = .returned (.bool (hadE E e.u)) ∧ Below w.heap.size w w' := by
  have K := Lib.hid (ents_IndexFunc A n c E e b w h hv)
  clear h hv
  go_enter Tryz.func43, Tryz.ntmps43
  go_wp2_with fail
  refine K.out.mono ?_
  rintro r w1 ⟨⟨k, rfl, hk⟩, b1⟩
  have B1 := Lib.hid b1
  have HK := Lib.hid (show decide (0 ≤ k) = hadE E e.u by
    rcases hu : hadE E e.u with _ | _
    · exact decide_eq_false (fun h => by have := hk.1 h; rw [hu] at this; cases this)
    · exact decide_eq_true (hk.2 hu))
  clear hk b1
  go_wp2_with fail
  go_ret
  exact ⟨by rw [← HK.out]; rfl, B1.out⟩
end Go.Proofs.YtnolmlhcikcceaaGreatDoor
