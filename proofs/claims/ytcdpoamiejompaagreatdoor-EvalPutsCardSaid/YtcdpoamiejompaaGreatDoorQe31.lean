/-
  eval.made: a record.
  eval.next: the value of the expression at the place. (gen_evnext.py)
  eval.next: a node with two parts; all of it. (gen_evnext.py)
  eval.Value's deferred function: what was told as a panic becomes an error.
-/
import Derived.Deep.AppendLies
import Derived.Test.YtcdpoamiejompaaGreatDoorQe30
namespace Go.Proofs.YtcdpoamiejompaaGreatDoor
open Go.RowKit Go.Wk Go.Sort
set_option maxRecDepth 100000

def preF (L : List (ByteArray × List Nd)) : Except Int (List (ByteArray × List Nd)) → Except Int (List (ByteArray × List Nd))
  | .error e => .error e
  | .ok M => .ok (L ++ M)
theorem preF_nil (x : Except Int (List (ByteArray × List Nd))) : preF [] x = x := by cases x <;> rfl
theorem preF_err {σ : Env} {L : List (ByteArray × List Nd)} {x : Ex} {r : Exs} {e : Int} (h : evFld σ x = .error e) : preF L (evF σ (.cons x r)) = .error e := by rw [evF, h]; rfl
theorem preF_ok {σ : Env} {L : List (ByteArray × List Nd)} {x : Ex} {r : Exs} {U : List Nd} (h : evFld σ x = .ok U) : preF L (evF σ (.cons x r)) = preF (L ++ [(x.head.s, U)]) (evF σ r) := by
  rw [evF, h]
  simp only
  rcases evF σ r with e | M
  · rfl
  · simp [preF]
/-- Names and values lie apart from the evaluation. -/
theorem TwoRows.past {w w' : World} {B R : Nat} {v v' : Value} {V : List Sl} {N : List ByteArray} (h : TwoRows w B v v' V N) (hg : w.grownBy w' (some R)) (hR : R < B) (ha : ∀ r ∈ V, Apart r (some R)) : TwoRows w' B v v' V N :=
  ⟨h.a.row hg (own_ne h.a.own hR) ha, h.b.kept hg (own_ne h.b hR), h.ab, h.ap⟩
theorem TwoRows.name2 {w w' : World} {B : Nat} {v v' v1 : Value} {V : List Sl} {N : List ByteArray} {s : ByteArray} (h : TwoRows w B v v' V N)
    (hown : w'.ownsRow B 9 1 v1 (N.length + 1) (N.map Value.string ++ [.string s])) (hg : w.grownBy w' v'.ownBlock) (hat : v1.ownBlock = v'.ownBlock ∨ v1.ownBlock = some w.heap.size) : TwoRows w' B v v1 V (N ++ [s]) := by
  refine ⟨h.a.row hg h.ab h.ap, by simpa using hown, ?_, fun r hr h0 a e => ?_⟩
  · rcases hv : v.ownBlock with _ | g
    · exact .inl rfl
    · have hlt := own_lt h.a.own g hv
      refine .inr ?_
      rcases hat with q | q
      · rw [q, ← hv]
        rcases h.ab with z | z
        · rw [hv] at z; cases z
        · exact z
      · rw [q]; intro z; injection z with z; omega
  · rcases hat with q | q
    · rw [q]; exact h.ap r hr h0 a e
    · rw [q]
      have := (h.a.each r hr).at_.lt h0 a e
      intro z; injection z with z; omega
/-- One text more in a row of the call's own, at a step of a region that draws its order. -/
theorem step_append_str {ops : Array Oper} {o : Oper} {a : Act} {w : World} {K : Act → World → Prop} {Q : Exit → Act → World → Prop} {E : Prop} (hgd : o.guard = none) (s x : Operand)
    (ho : o.op = .call { callee := .builtin .append, args := #[s, x], argTypes := #[58, 58] })
    (base : Nat) (v : Value) (N : List ByteArray) (hs : a.eval s = v) (hrow : w.ownsRow base 9 1 v N.length (N.map Value.string)) (z : ByteArray) (ad : Addr) (c : Nat) (hx : a.eval x = .slice (some ad) 1 c)
    (hnew : w.cell? ad = some (.string z)) (hl : N.length ≤ 1000000) (hbase : base ≤ w.heap.size)
    (h : ∀ v' w', w'.ownsRow base 9 1 v' (N.length + 1) (N.map Value.string ++ [.string z]) → w.grownBy w' v.ownBlock → (v'.ownBlock = v.ownBlock ∨ v'.ownBlock = some w.heap.size) → K (a.put o.dst v') w') :
    if Region.wanted o (yielded ops a.tmps) = true then Oper.wp Tryz.prog o a w K Q else E := by
  have hi := strInfo
  cases hq : Tryz.prog.info? 9 with
  | none => rw [hq] at hi; cases hi
  | some i0 =>
    rw [hq] at hi
    simp only [Option.map_some, Option.some.injEq, Prod.mk.injEq] at hi
    refine step_append_lies w hgd s x _ ho base _ i0 _ 1 16 Tryz.underlying58 hq hi.1 hi.2.1 hi.2.2 (by decide) (by decide) v N.length (N.map Value.string) hs hrow ad 1 c [.string z] hx rfl ?_ ?_ (by decide) (by unfold maxLen; omega) (by omega) hbase _ rfl ?_
    · intro j u hj
      match j, hj with
      | 0, hj =>
        simp only [List.getElem?_cons_zero, Option.some.injEq] at hj
        subst hj
        exact hnew
      | j + 1, hj => simp at hj
    · intro u hu
      simp only [List.mem_cons, List.not_mem_nil, or_false] at hu
      subst hu
      rfl
    · intro g cap w' h1 h2 h3 h4
      refine h _ w' h1 h2 ?_
      rcases h3 with h3 | h3
      · exact .inl h3.symm
      · exact .inr (by rw [← h3]; rfl)
set_option maxHeartbeats 8000000 in
theorem made_rec {W : World} {R N : Nat} {k : Cx} (ih : NextC W R k N) {w : World} {p : Nat} (h : EvAt W w R k (p : Int)) (n : Nd) (ps : Exs) (hx : XsAt k.P p true ps) (h6 : n.op = 6) (hn : n.n = (ps.len : Int)) (hl : ps.flat.length ≤ N) (h200 : ps.len ≤ 200) :
    Calls Tryz.prog 54 #[.pointer (some ⟨R, 0, none⟩), ndV n] w (EvPost W w R k ((p + ps.flat.length : Nat) : Int) (resF (evF k.env ps))) := by
  obtain ⟨i0, hi, hz0, hz1, hz2⟩ := info_parts slInfo
  obtain ⟨j0, hj0, jz0, jz1, jz2⟩ := info_parts strInfo
  have IH := Lib.hid ih
  have H0 := Lib.hid (h.keep (below_box w (.cells #[.int .i64 6, .int .i64 n.n, .string n.s, .string n.t] 42)))
  have G0 := Lib.hid (grown_of_below (below_box w (.cells #[.int .i64 6, .int .i64 n.n, .string n.s, .string n.t] 42)) (some R))
  have hRl := h.lt
  have HX := Lib.hid hx
  have HL := Lib.hid hl
  have hmx := h.cx.ns.max
  unfold maxLen at hmx
  unfold ndV
  rw [h6]
  obtain ⟨m, hm⟩ : ∃ m : Nat, m = ps.len := ⟨_, rfl⟩
  rw [← hm] at hn h200
  rw [hn] at H0 G0 ⊢
  have HM := Lib.hid hm
  clear h hx hl h6 ih hm hn
  go_enter Tryz.func54, Tryz.ntmps54
  go_wp2_with fail
  go_loopw [5, 6, 9] (fun nv v i wr => ∃ (j q : Nat) (r : Exs) (V : List Sl) (X : List (ByteArray × List Nd)), i = .int .i64 j ∧ j ≤ m ∧ V.length = j ∧ X.length = j ∧ Hid (V.map Sl.P = X.map Prod.snd) ∧ Hid (∀ x ∈ X, x.1.size ≤ maxLen) ∧ Hid (j + r.len = m) ∧ Hid (evF k.env ps = preF X (evF k.env r)) ∧ Hid (XsAt k.P q true r) ∧ Hid (q + r.flat.length = p + ps.flat.length) ∧ Hid (r.flat.length ≤ N) ∧
    Hid (TwoRows wr (w.heap.size + 1) v nv V (X.map Prod.fst)) ∧ Hid (EvAt W wr R k q) ∧ Hid (w.grownBy wr (some R)) ∧ wr.cell? ⟨w.heap.size, 0, none⟩ = some (.int .i64 6)) (fun _ _ i _ => m - (intOf i).toNat)
  case atStart => exact ⟨0, p, ps, [], [], rfl, Nat.zero_le _, rfl, rfl, Lib.hid rfl, Lib.hid (fun x hx => nomatch hx), Lib.hid (by rw [Nat.zero_add]; exact HM.out.symm), Lib.hid (preF_nil _).symm, HX, Lib.hid rfl, HL, Lib.hid ⟨OwnSls.nil _ _, World.ownsRow_nil _ _ _ 1, .inl rfl, (by intro r hr; cases hr)⟩, H0, G0, by simp⟩
  case round =>
    obtain ⟨j, q, r, V, X, rfl, hj, hVl, hXl, hVX, hXz, hM, hS, hXs, hQ, hN, hT, hE, hG, hb⟩ := hrel
    clear H0 G0
    by_cases hlt : j < m
    · obtain ⟨x, r', rfl⟩ : ∃ x r', r = .cons x r' := by
        cases r with
        | nil => have := hM.out; simp only [Exs.len] at this; omega
        | cons x r' => exact ⟨x, r', rfl⟩
      obtain ⟨hx, hr'⟩ := hXs.out.head
      obtain ⟨fn, y, rfl, h7, -, hy, hyl⟩ := hx.field
      obtain ⟨a, ha, hqn, D, ho⟩ := hE.out.node hx
      have hfl : (Exs.cons (.node fn (.cons y .nil)) r').flat.length = (Ex.node fn (.cons y .nil)).flat.length + r'.flat.length := by simp [Exs.flat]
      have ly : y.flat.length ≤ N := by have := hN.out; omega
      have hQ2 := Lib.hid (show q + 1 + y.flat.length + r'.flat.length = p + ps.flat.length by have := hQ.out; omega)
      have hN2 := Lib.hid (show r'.flat.length ≤ N by have := hN.out; omega)
      have hM2 := Lib.hid (show j + 1 + r'.len = m by have := hM.out; simp only [Exs.len] at this; omega)
      have HR2 := Lib.hid (show XsAt k.P (q + 1 + y.flat.length) true r' by rw [show q + 1 + y.flat.length = q + (Ex.node fn (.cons y .nil)).flat.length by omega]; exact hr')
      have HY := Lib.hid hy
      have c8 : wr.cell? ⟨R, 8, none⟩ = some (.slice (some a) k.n k.c) := by rw [← ha]; exact hE.out.c8
      have c9 := hE.out.c9
      have z9 := hE.out.z 9
      have hRl2 := hE.out.lt
      have d2 := D.c2
      have hwr : w.heap.size < wr.heap.size := block_lt_of_cell hb
      have BA : Below wr.heap.size wr ((wr.alloc (.cells #[.string fn.s] 9)).drew) := (below_box wr _).trans ((below_drew _).mono (by simp))
      have hsA : ((wr.alloc (.cells #[.string fn.s] 9)).drew).heap.size = wr.heap.size + 1 := by
        show (wr.alloc (.cells #[.string fn.s] 9)).heap.size = _
        simp
      have T1 := hT.out.keep BA
      have e8 := cell_keep BA c8
      have e9 := cell_keep BA c9
      have ed := cell_keep BA d2
      have hbA := cell_keep BA hb
      have EA := hE.out.keep BA
      have GA := grown_trans hG.out (grown_of_below BA (some R))
      have hcell : ((wr.alloc (.cells #[.string fn.s] 9)).drew).cell? ⟨wr.heap.size, 0, none⟩ = some (.string fn.s) := cell_row (heap_alloc_last wr _) rfl
      have OBs : ∀ g, u5.ownBlock = some g → w.heap.size + 1 ≤ g := fun g hg => own_base hT.out.b g hg
      have NE8 : some R ≠ u5.ownBlock := fun e => by have := OBs R e.symm; omega
      have NEa : some (a.add (q * 4)).block ≠ u5.ownBlock := fun e => by
        have h1 := OBs _ e.symm
        have h2 := hE.out.ok.ns.at_.lt (by rw [← hE.out.ok.ns.len]; omega) a ha
        have h3 := hE.out.hi
        rw [add_block] at h1
        omega
      have NEb : some w.heap.size ≠ u5.ownBlock := fun e => by have := OBs _ e.symm; omega
      have hlX : (X.map Prod.fst).length ≤ 1000000 := by rw [List.length_map]; omega
      have hbs : w.heap.size + 1 ≤ ((wr.alloc (.cells #[.string fn.s] 9)).drew).heap.size := by rw [hsA]; omega
      have hp0 : (0 : Int) ≤ (q : Int) := by omega
      have hp1 : (q : Int) < (k.n : Int) := by omega
      have FB : ∀ g, u5.ownBlock = some g → R < g := fun g hg => by have := OBs g hg; omega
      go_wp2_with fail
      go_region_held3 (fun w' : World => w'.cell? ⟨R, 8, none⟩ = some (.slice (some a) k.n k.c) ∧ w'.cell? ⟨R, 9, none⟩ = some (.int .i64 q) ∧ w'.cell? ⟨(a.add (q * 4)).block, (a.add (q * 4)).off + 2, none⟩ = some (.string fn.s)) (first | exact ⟨c8, c9, d2⟩ | exact ⟨e8, e9, ed⟩ | exact ⟨t8, t9, td⟩)
        ((refine step_append_str rfl (.tmp 14) (.tmp 26) rfl (w.heap.size + 1) u5 (X.map Prod.fst) rfl T1.b fn.s ⟨wr.heap.size, 0, none⟩ 1 rfl hcell hlX hbs ?_; intro v1 w1 hown hgrow hat; have t8 := hgrow.cell e8 NE8; have t9 := hgrow.cell e9 NE8; have td := hgrow.cell ed NEa))
      have T2 := T1.name2 (s := fn.s) hown hgrow hat
      have E1 := EA.far hgrow FB
      have G1 := grown_own GA hgrow (fun x hx => Nat.le_of_succ_le (OBs x hx))
      have hb1 : w1.cell? ⟨w.heap.size, 0, none⟩ = some (.int .i64 6) := hgrow.cell hbA NEb
      have E2 := ev_put E1 ((q : Int) + 1)
      have T3 := Lib.hid (T2.past E2.2 (Nat.lt_succ_of_lt hRl) (fun r hr => E1.apart (T2.a.each r hr)))
      have G2 := Lib.hid (grown_trans G1 E2.2)
      have hb2 := E2.2.cell hb1 (show some w.heap.size ≠ some R from fun e => by injection e with e; omega)
      have HE2 := Lib.hid E2.1
      have zz := E1.z 9
      have hlw := E1.lt
      have C := Lib.hid (IH.out y (q + 1) (w1.setCell ⟨R, 9, none⟩ (.int .i64 ((q : Int) + 1))) E2.1 HY.out ly)
      have hXl2 : (X ++ [(fn.s, ([] : List Nd))]).length = j + 1 := by simp [hXl]
      have HSZ := Lib.hid ho.s
      have hq64 : (q : Int) + 1 ≤ 9223372036854775807 := by omega
      have hq0 : (0 : Int) ≤ (q : Int) := by omega
      clear hown hgrow hat T1 T2 E1 G1 EA GA hbA hcell OBs NE8 NEa NEb hlX hbs FB BA hsA e8 e9 ed hT hE hG td t8 c8 c9 d2 D ha ho z9 hp0 hb
      rcases qa : evX k.env y with e | U
      · have HEr := Lib.hid (hS.out.trans (preF_err (x := .node fn (.cons y .nil)) (by rw [evFld, evFst, qa])))
        rw [qa] at C
        unfold EvPost at C
        clear hS hXs hQ hN hx hr' hfl ly qa hQ2 hN2 hM2 HR2 hy hyl
        go_wp2_with fail
        refine C.out.mono ?_
        rintro e w3 ⟨g3, rfl⟩
        have G3 := Lib.hid (grown_trans G2.out g3)
        clear g3
        go_wp2_with fail
        refine ⟨rfl, ?_⟩
        rw [resF_err HEr.out]
        exact ⟨G3.out, rfl⟩
      · have HSr := Lib.hid (hS.out.trans (preF_ok (x := .node fn (.cons y .nil)) (by rw [evFld, evFst, qa])))
        rw [qa] at C
        unfold EvPost at C
        clear hS hXs hQ hN hx hr' hfl ly qa hy hyl
        go_wp2_with fail
        refine C.out.mono ?_
        rintro e w3 ⟨g3, ⟨A1, n1, c1, rfl, N1, F1⟩, E3⟩
        have T4 := Lib.hid (T3.out.past g3 (Nat.lt_succ_of_lt hRl) (fun x hx => HE2.out.apart (T3.out.a.each x hx)))
        have A4 := Lib.hid (come_apart HE2.out (Nat.lt_succ_of_lt hRl) T3.out.a.own ⟨A1, n1, c1, U⟩ F1)
        have A5 := Lib.hid (come_apart HE2.out (Nat.lt_succ_of_lt hRl) T3.out.b ⟨A1, n1, c1, U⟩ F1)
        have G3 := Lib.hid (grown_trans G2.out g3)
        have HN1 := Lib.hid (show Ns w3 (⟨A1, n1, c1, U⟩ : Sl).A _ _ _ from N1)
        have HE3 := Lib.hid E3
        have hb3 : w3.cell? ⟨w.heap.size, 0, none⟩ = some (.int .i64 6) := g3.cell hb2 (show some w.heap.size ≠ some R from fun e => by injection e with e; omega)
        have hw3 : w.heap.size < w3.heap.size := block_lt_of_cell hb3
        have OB := Lib.hid (fun g hg => own_base T4.out.a.own g hg)
        clear g3 N1 E3 F1 C T3 HE2 G2 hb2 hb1 t9 zz hlw
        go_wp2_with (at_builtin; refine wpList_append_own_at _ rfl _ _ 59 rfl (w.heap.size + 1) 25 i0 _ 1 24 Tryz.underlying59 hi hz0 hz1 hz2 rfl (by decide) _ V.length (V.map Sl.v) rfl (T4.out.a.own.alloc _) ⟨_, 0, none⟩ 1 1 [.slice A1 n1 c1] rfl rfl (cell_one_new _ _ _) (by intro u hu; simp only [List.mem_cons, List.not_mem_nil, or_false] at hu; subst hu; rfl) ?d1 ?d2 ?d3 ?_)
        case d1 => unfold maxLen; omega
        case d2 => omega
        case d3 => simp; omega
        intro v2 w5 hown hgrow _ hat
        have E5 := Lib.hid ((HE3.out.keep (below_box w3 _)).far hgrow (fun x hx => by have := OB.out x hx; omega))
        have G5 := Lib.hid (grown_own (grown_trans G3.out (grown_of_below (below_box w3 _) _)) hgrow (fun x hx => Nat.le_of_succ_le (OB.out x hx)))
        have T5 := T4.out.part (r := ⟨A1, n1, c1, U⟩) HN1.out A4.out A5.out (by rw [hVl]; exact hown) hgrow (by simpa using hat)
        have hb5 : w5.cell? ⟨w.heap.size, 0, none⟩ = some (.int .i64 6) := hgrow.cell (cell_keep (below_box w3 _) hb3) (fun e => by have := OB.out w.heap.size e.symm; omega)
        have hl5 : (V ++ [(⟨A1, n1, c1, U⟩ : Sl)]).length = j + 1 := by simp [hVl]
        have hl6 : (X ++ [(fn.s, U)]).length = j + 1 := by simp [hXl]
        have HVX := Lib.hid (show (V ++ [(⟨A1, n1, c1, U⟩ : Sl)]).map Sl.P = (X ++ [(fn.s, U)]).map Prod.snd by rw [List.map_append, List.map_append, hVX.out]; rfl)
        have HXZ := Lib.hid (show ∀ x ∈ X ++ [(fn.s, U)], x.1.size ≤ maxLen from fun x hx => by
          rcases List.mem_append.1 hx with hx | hx
          · exact hXz.out x hx
          · simp only [List.mem_cons, List.not_mem_nil, or_false] at hx
            subst hx
            exact HSZ.out)
        have T6 := Lib.hid (show TwoRows w5 (w.heap.size + 1) v2 v1 (V ++ [(⟨A1, n1, c1, U⟩ : Sl)]) ((X ++ [(fn.s, U)]).map Prod.fst) by rw [List.map_append]; exact T5)
        clear hown hgrow hat T4 T5 HN1 A4 A5 HE3 G3 hVX hXz
        go_wp2_with fail
        go_roundw
        case rel => exact ⟨j + 1, q + 1 + y.flat.length, r', _, _, by go_num, by omega, hl5, hl6, HVX, HXZ, hM2, HSr, HR2, hQ2, hN2, T6, E5, G5, hb5⟩
        case measure => simp [intOf]; omega
    · obtain rfl : r = .nil := by
        cases r with
        | nil => rfl
        | cons a r' => have := hM.out; simp only [Exs.len] at this; omega
      have HV := Lib.hid (resF_ok (L := X) (hS.out.trans (by simp [evF, preF])))
      have HQ := Lib.hid (show p + ps.flat.length = q by have := hQ.out; simpa [Exs.flat] using this.symm)
      obtain ⟨A, c, rfl, hc, hSl⟩ := hT.out.a.at
      obtain ⟨A2, c2, rfl, hTx⟩ := strs_of_own hT.out.b
      have hlX : (X.map Prod.fst).length = j := by rw [List.length_map]; exact hXl
      have K := Lib.hid (coll_rec A2 j c2 (X.map Prod.fst) A j c V wr hlX.symm (by omega) (fun i x hi => hTx i (.string x) (by rw [List.getElem?_map, hi]; rfl)) (fun x hx => by obtain ⟨y, hy, rfl⟩ := List.mem_map.1 hx; exact hXz.out y hy) hVl.symm (by omega) hSl hE.out.cx.door)
      rw [hVX.out] at K
      have TE := Lib.hid (fun e w2 (h : TellPost wr (tellV (recE (X.map Prod.fst) (X.map Prod.snd)) (recV (X.map Prod.fst) (X.map Prod.snd))) e w2) => tell_ev h hE.out hG.out)
      generalize tellV (recE (X.map Prod.fst) (X.map Prod.snd)) (recV (X.map Prod.fst) (X.map Prod.snd)) = rr at *
      clear hM hS hXs hQ hN hT hE hG hSl hc hTx hVX hXz
      rcases rr with u | U
      · go_wp2_with fail
        refine K.out.mono ?_
        rintro e w2 hp
        have HP := Lib.hid (TE.out _ _ hp)
        obtain ⟨-, rfl⟩ := hp
        go_wp2_with fail
        refine ⟨rfl, ?_⟩
        rw [HV.out]
        first
          | (rw [show ((p : Int) + (ps.flat.length : Int)) = (q : Int) by have := HQ.out; omega]; exact HP.out)
          | (rw [HQ.out]; exact HP.out)
      · go_wp2_with fail
        refine K.out.mono ?_
        rintro e w2 hp
        have HP := Lib.hid (TE.out _ _ hp)
        obtain ⟨-, A3, n3, c3, rfl, -, -⟩ := hp
        go_wp2_with fail
        go_ret
        rw [HV.out]
        first
          | (rw [HQ.out]; exact HP.out)
          | (rw [show ((p : Int) + (ps.flat.length : Int)) = (q : Int) by have := HQ.out; omega]; exact HP.out)
end Go.Proofs.YtcdpoamiejompaaGreatDoor
namespace Go.Proofs.YtcdpoamiejompaaGreatDoor
open Go.RowKit Go.Wk Go.Sort
set_option maxRecDepth 100000

theorem ev_up {W w w1 w2 : World} {R : Nat} {k : Cx} {q : Int} {r : Res} {e : Ending} (h : EvPost W w1 R k q r e w2) (G : w.grownBy w1 (some R)) : EvPost W w R k q r e w2 := by
  refine ⟨grown_trans G h.1, ?_⟩
  cases r with
  | error x => exact h.2
  | ok V =>
    obtain ⟨⟨A, n, c, he, hN, hF⟩, hE⟩ := h.2
    exact ⟨⟨A, n, c, he, hN, fun a ha => (hF a ha).imp id (fun z => Nat.le_trans G.size z)⟩, hE⟩
set_option maxHeartbeats 8000000 in
theorem next_either {W : World} {R N : Nat} {k : Cx} (ih : NextC W R k N) {w : World} {p : Nat} (h : EvAt W w R k (p : Int)) (n : Nd) (ps : Exs) (hx : XAt k.P p false (.node n ps)) (hN : (Ex.node n ps).flat.length ≤ N + 1) (hop : n.op = 11 ∨ n.op = 12) (hp : partsN n = 2) :
    Calls Tryz.prog 32 #[.pointer (some ⟨R, 0, none⟩)] w (EvPost W w R k ((p + (Ex.node n ps).flat.length : Nat) : Int) (evX k.env (.node n ps))) := by
  obtain ⟨b1, b2, rfl, x1, x2, hfl⟩ := hx.two hp (not_rec (by omega))
  have ways : n.op = 11 ∨ n.op = 12 := hop
  have HR := Lib.hid (show evX k.env (.node n (.cons b1 (.cons b2 .nil))) = evEither k.env (decide (n.op = 12)) (.cons b1 (.cons b2 .nil)) by rw [evX, if_neg (by omega), if_neg (by omega), if_pos hop])
  have HF := Lib.hid (show ((p + (Ex.node n (.cons b1 (.cons b2 .nil))).flat.length : Nat) : Int) = ((p + 1 + b1.flat.length + b2.flat.length : Nat) : Int) by rw [hfl]; congr 1; omega)
  rw [HR.out, HF.out]
  obtain ⟨rr, hrr⟩ : ∃ rr : Res, rr = evEither k.env (decide (n.op = 12)) (.cons b1 (.cons b2 .nil)) := ⟨_, rfl⟩
  obtain ⟨Qp, hQp⟩ : ∃ Qp : Int, Qp = ((p + 1 + b1.flat.length + b2.flat.length : Nat) : Int) := ⟨_, rfl⟩
  rw [← hrr, ← hQp]
  have HRR := Lib.hid hrr
  have HQP := Lib.hid hQp
  clear hrr hQp
  have l1 : b1.flat.length ≤ N := by omega
  have l2 : b2.flat.length ≤ N := by omega
  have X1 := Lib.hid x1
  have X2 := Lib.hid x2
  have IH := Lib.hid ih
  obtain ⟨a, ha, hpn, D, ho⟩ := h.node hx
  obtain ⟨o, v, s, t⟩ := n
  obtain ⟨d0, d1, d2, d3⟩ := D
  dsimp only at d0 d1 d2 d3 ways
  have hm := h.cx.ns.max
  unfold maxLen at hm
  have c8 : w.cell? ⟨R, 8, none⟩ = some (.slice (some a) k.n k.c) := by rw [← ha]; exact h.c8
  have c9 := h.c9
  have z9 := h.z 9
  have hRl := h.lt
  have HO := Lib.hid ho
  have E1 := Lib.hid (ev_step h (.cells #[.int .i64 o, .int .i64 v, .string s, .string t] 42)).1
  have G1 := Lib.hid (ev_step h (.cells #[.int .i64 o, .int .i64 v, .string s, .string t] 42)).2
  have nw8 := World.new_ne w ⟨R, 8, none⟩ c8
  have nw9 := World.new_ne w ⟨R, 9, none⟩ c9
  have nd0 := World.new_ne w _ d0
  have nd1 := World.new_ne w _ d1
  have nd2 := World.new_ne w _ d2
  have nd3 := World.new_ne w _ d3
  have hp0 : (0 : Int) ≤ (p : Int) := by omega
  generalize k.n = kn at *
  have hp1 : (p : Int) < (kn : Int) := by omega
  clear ha ho hx h hp hop hN HR HF hfl x1 x2 ih
  go_enter Tryz.func32, Tryz.ntmps32
  go_wp2_with fail
  go_region_held3 (fun w' : World => w'.cell? ⟨R, 8, none⟩ = some (.slice (some a) kn k.c) ∧ w'.cell? ⟨R, 9, none⟩ = some (.int .i64 p) ∧ w'.cell? (a.add (p * 4)) = some (.int .i64 o) ∧ w'.cell? ⟨(a.add (p * 4)).block, (a.add (p * 4)).off + 1, none⟩ = some (.int .i64 v) ∧ w'.cell? ⟨(a.add (p * 4)).block, (a.add (p * 4)).off + 2, none⟩ = some (.string s) ∧ w'.cell? ⟨(a.add (p * 4)).block, (a.add (p * 4)).off + 3, none⟩ = some (.string t)) (go_keep) (fail)
  rcases ways with rfl | rfl
  · have K := Lib.hid (either_11 (p := p + 1) IH.out E1.out b1 b2 X1.out X2.out l1 l2)
    rw [show evEither k.env false (.cons b1 (.cons b2 .nil)) = rr by rw [HRR.out]; rfl, ← HQP.out] at K
    clear HRR
    rcases rr with u | U
    · go_wp2_with fail
      refine K.out.mono ?_
      rintro e w2 hp
      have HP := Lib.hid (ev_up hp G1.out)
      obtain ⟨-, rfl⟩ := hp
      go_wp2_with fail
      exact ⟨rfl, HP.out⟩
    · go_wp2_with fail
      refine K.out.mono ?_
      rintro e w2 hp
      have HP := Lib.hid (ev_up hp G1.out)
      obtain ⟨-, ⟨A2, n2, c2, rfl, -, -⟩, -⟩ := hp
      go_wp2_with fail
      go_ret
      exact HP.out
  · have K := Lib.hid (either_12 (p := p + 1) IH.out E1.out b1 b2 X1.out X2.out l1 l2)
    rw [show evEither k.env true (.cons b1 (.cons b2 .nil)) = rr by rw [HRR.out]; rfl, ← HQP.out] at K
    clear HRR
    rcases rr with u | U
    · go_wp2_with fail
      refine K.out.mono ?_
      rintro e w2 hp
      have HP := Lib.hid (ev_up hp G1.out)
      obtain ⟨-, rfl⟩ := hp
      go_wp2_with fail
      exact ⟨rfl, HP.out⟩
    · go_wp2_with fail
      refine K.out.mono ?_
      rintro e w2 hp
      have HP := Lib.hid (ev_up hp G1.out)
      obtain ⟨-, ⟨A2, n2, c2, rfl, -, -⟩, -⟩ := hp
      go_wp2_with fail
      go_ret
      exact HP.out
theorem principalT_list : principalT.toList = [112, 114, 105, 110, 99, 105, 112, 97, 108] := by kernel_rfl
theorem actionL_list : actionL.toList = [97, 99, 116, 105, 111, 110] := by kernel_rfl
theorem resourceT_list : resourceT.toList = [114, 101, 115, 111, 117, 114, 99, 101] := by kernel_rfl
theorem contextT_list : contextT.toList = [99, 111, 110, 116, 101, 120, 116] := by kernel_rfl
set_option maxHeartbeats 4000000 in
theorem eval_named {W w : World} {R : Nat} {k : Cx} {p : Int} (h : EvAt W w R k p) (s : ByteArray) : Calls Tryz.prog 51 #[.pointer (some ⟨R, 0, none⟩), .string s] w (EvPost W w R k p (namedX k.env s)) := by
  have H := Lib.hid h
  have hrq := h.cx.rq
  by_cases g0 : s = principalT
  · subst g0
    have f0 : (principalT.toList == [112, 114, 105, 110, 99, 105, 112, 97, 108]) = true := beq_iff_eq.2 principalT_list
    have HR := Lib.hid (show namedX k.env principalT = .ok (entN k.q.who) by unfold namedX; rw [if_pos rfl]; rfl)
    rw [HR.out]
    have KE := Lib.hid (fun w => eval_entity k.q.who w hrq.w1 hrq.w2)
    have d1 := h.c1
    have d2 := h.c2
    clear h hrq 
    go_enter Tryz.func51, Tryz.ntmps51
    go_wp2_with fail
    refine (KE.out _).mono ?_
    rintro e w2 hp
    have HP := Lib.hid (tell_ev hp H.out (grown_refl w _))
    obtain ⟨-, A2, n2, c2, rfl, -, -⟩ := hp
    go_wp2_with fail
    go_ret
    exact HP.out
  by_cases g1 : s = actionL
  · subst g1
    have f1 : (actionL.toList == [97, 99, 116, 105, 111, 110]) = true := beq_iff_eq.2 actionL_list
    have f0 : (actionL.toList == [112, 114, 105, 110, 99, 105, 112, 97, 108]) = false := beq_eq_false_iff_ne.2 (fun q => g0 (toList_inj (q.trans principalT_list.symm)))
    have HR := Lib.hid (show namedX k.env actionL = .ok (entN k.q.act) by unfold namedX; rw [if_neg g0]; rw [if_pos rfl]; rfl)
    rw [HR.out]
    have KE := Lib.hid (fun w => eval_entity k.q.act w hrq.a1 hrq.a2)
    have d1 := h.c3
    have d2 := h.c4
    clear h hrq g0
    go_enter Tryz.func51, Tryz.ntmps51
    go_wp2_with fail
    refine (KE.out _).mono ?_
    rintro e w2 hp
    have HP := Lib.hid (tell_ev hp H.out (grown_refl w _))
    obtain ⟨-, A2, n2, c2, rfl, -, -⟩ := hp
    go_wp2_with fail
    go_ret
    exact HP.out
  by_cases g2 : s = resourceT
  · subst g2
    have f2 : (resourceT.toList == [114, 101, 115, 111, 117, 114, 99, 101]) = true := beq_iff_eq.2 resourceT_list
    have f0 : (resourceT.toList == [112, 114, 105, 110, 99, 105, 112, 97, 108]) = false := beq_eq_false_iff_ne.2 (fun q => g0 (toList_inj (q.trans principalT_list.symm)))
    have f1 : (resourceT.toList == [97, 99, 116, 105, 111, 110]) = false := beq_eq_false_iff_ne.2 (fun q => g1 (toList_inj (q.trans actionL_list.symm)))
    have HR := Lib.hid (show namedX k.env resourceT = .ok (entN k.q.what) by unfold namedX; rw [if_neg g0]; rw [if_neg g1]; rw [if_pos rfl]; rfl)
    rw [HR.out]
    have KE := Lib.hid (fun w => eval_entity k.q.what w hrq.t1 hrq.t2)
    have d1 := h.c5
    have d2 := h.c6
    clear h hrq g0 g1
    go_enter Tryz.func51, Tryz.ntmps51
    go_wp2_with fail
    refine (KE.out _).mono ?_
    rintro e w2 hp
    have HP := Lib.hid (tell_ev hp H.out (grown_refl w _))
    obtain ⟨-, A2, n2, c2, rfl, -, -⟩ := hp
    go_wp2_with fail
    go_ret
    exact HP.out
  by_cases g3 : s = contextT
  · subst g3
    have f3 : (contextT.toList == [99, 111, 110, 116, 101, 120, 116]) = true := beq_iff_eq.2 contextT_list
    have f0 : (contextT.toList == [112, 114, 105, 110, 99, 105, 112, 97, 108]) = false := beq_eq_false_iff_ne.2 (fun q => g0 (toList_inj (q.trans principalT_list.symm)))
    have f1 : (contextT.toList == [97, 99, 116, 105, 111, 110]) = false := beq_eq_false_iff_ne.2 (fun q => g1 (toList_inj (q.trans actionL_list.symm)))
    have f2 : (contextT.toList == [114, 101, 115, 111, 117, 114, 99, 101]) = false := beq_eq_false_iff_ne.2 (fun q => g2 (toList_inj (q.trans resourceT_list.symm)))
    have HR := Lib.hid (show namedX k.env contextT = .ok k.q.P by unfold namedX; rw [if_neg g0]; rw [if_neg g1]; rw [if_neg g2]; rw [if_pos rfl]; rfl)
    rw [HR.out]
    have d7 := h.c7
    have HLT := Lib.hid (show ∀ a, k.q.NA = some a → a.block < W.heap.size from fun a e => h.ok.rq.ns.at_.lt (valFault_pos h.ok.ok.ctx.1) a e)
    have HNS := Lib.hid hrq.ns
    clear h hrq g0 g1 g2
    go_enter Tryz.func51, Tryz.ntmps51
    go_wp2_with fail
    go_ret
    exact ⟨grown_refl w _, ⟨_, _, _, rfl, HNS.out, fun a e => .inl (HLT.out a e)⟩, H.out⟩
  have f0 : (s.toList == [112, 114, 105, 110, 99, 105, 112, 97, 108]) = false := beq_eq_false_iff_ne.2 (fun q => g0 (toList_inj (q.trans principalT_list.symm)))
  have f1 : (s.toList == [97, 99, 116, 105, 111, 110]) = false := beq_eq_false_iff_ne.2 (fun q => g1 (toList_inj (q.trans actionL_list.symm)))
  have f2 : (s.toList == [114, 101, 115, 111, 117, 114, 99, 101]) = false := beq_eq_false_iff_ne.2 (fun q => g2 (toList_inj (q.trans resourceT_list.symm)))
  have f3 : (s.toList == [99, 111, 110, 116, 101, 120, 116]) = false := beq_eq_false_iff_ne.2 (fun q => g3 (toList_inj (q.trans contextT_list.symm)))
  have HR := Lib.hid (show namedX k.env s = .error 3 by unfold namedX; rw [if_neg g0, if_neg g1, if_neg g2, if_neg g3])
  rw [HR.out]
  clear h hrq g0 g1 g2 g3
  go_enter Tryz.func51, Tryz.ntmps51
  go_wp2_with fail
  exact ⟨rfl, grown_refl w _, rfl⟩
set_option maxHeartbeats 8000000 in
theorem next_var {W w : World} {R : Nat} {k : Cx} {p : Nat} (h : EvAt W w R k (p : Int)) (n : Nd) (ps : Exs) (hx : XAt k.P p false (.node n ps)) (hop : n.op = 8) (hp : partsN n = 0) :
    Calls Tryz.prog 32 #[.pointer (some ⟨R, 0, none⟩)] w (EvPost W w R k ((p + (Ex.node n ps).flat.length : Nat) : Int) (evX k.env (.node n ps))) := by
  have ways : n.op = 8 := hop
  have HR := Lib.hid (show evX k.env (.node n ps) = namedX k.env n.s by rw [evX, if_neg (by omega), if_pos hop])
  rw [HR.out, (hx.none hp).2]
  obtain ⟨rr, hrr⟩ : ∃ rr : Res, rr = namedX k.env n.s := ⟨_, rfl⟩
  rw [← hrr]
  have HRR := Lib.hid hrr
  clear hrr
  obtain ⟨a, ha, hpn, D, ho⟩ := h.node hx
  obtain ⟨o, v, s, t⟩ := n
  obtain ⟨d0, d1, d2, d3⟩ := D
  dsimp only at d0 d1 d2 d3 ways
  have hm := h.cx.ns.max
  unfold maxLen at hm
  have c8 : w.cell? ⟨R, 8, none⟩ = some (.slice (some a) k.n k.c) := by rw [← ha]; exact h.c8
  have c9 := h.c9
  have z9 := h.z 9
  have hRl := h.lt
  have HO := Lib.hid ho
  have E1 := Lib.hid (ev_step h (.cells #[.int .i64 o, .int .i64 v, .string s, .string t] 42)).1
  have G1 := Lib.hid (ev_step h (.cells #[.int .i64 o, .int .i64 v, .string s, .string t] 42)).2
  have nw8 := World.new_ne w ⟨R, 8, none⟩ c8
  have nw9 := World.new_ne w ⟨R, 9, none⟩ c9
  have nd0 := World.new_ne w _ d0
  have nd1 := World.new_ne w _ d1
  have nd2 := World.new_ne w _ d2
  have nd3 := World.new_ne w _ d3
  have hp0 : (0 : Int) ≤ (p : Int) := by omega
  generalize k.n = kn at *
  have hp1 : (p : Int) < (kn : Int) := by omega
  clear ha ho hx h hp hop HR
  go_enter Tryz.func32, Tryz.ntmps32
  go_wp2_with fail
  go_region_held3 (fun w' : World => w'.cell? ⟨R, 8, none⟩ = some (.slice (some a) kn k.c) ∧ w'.cell? ⟨R, 9, none⟩ = some (.int .i64 p) ∧ w'.cell? (a.add (p * 4)) = some (.int .i64 o) ∧ w'.cell? ⟨(a.add (p * 4)).block, (a.add (p * 4)).off + 1, none⟩ = some (.int .i64 v) ∧ w'.cell? ⟨(a.add (p * 4)).block, (a.add (p * 4)).off + 2, none⟩ = some (.string s) ∧ w'.cell? ⟨(a.add (p * 4)).block, (a.add (p * 4)).off + 3, none⟩ = some (.string t)) (go_keep) (fail)
  subst ways
  have K := Lib.hid (eval_named E1.out s)
  rw [show namedX k.env s = rr from HRR.out.symm] at K
  clear HRR
  rcases rr with u | U
  · go_wp2_with fail
    refine K.out.mono ?_
    rintro e w2 hp
    have HP := Lib.hid (ev_up hp G1.out)
    obtain ⟨-, rfl⟩ := hp
    go_wp2_with fail
    exact ⟨rfl, HP.out⟩
  · go_wp2_with fail
    refine K.out.mono ?_
    rintro e w2 hp
    have HP := Lib.hid (ev_up hp G1.out)
    obtain ⟨-, ⟨A2, n2, c2, rfl, -, -⟩, -⟩ := hp
    go_wp2_with fail
    go_ret
    exact HP.out
set_option maxHeartbeats 8000000 in
theorem next_choice {W : World} {R N : Nat} {k : Cx} (ih : NextC W R k N) {w : World} {p : Nat} (h : EvAt W w R k (p : Int)) (n : Nd) (ps : Exs) (hx : XAt k.P p false (.node n ps)) (hN : (Ex.node n ps).flat.length ≤ N + 1) (hop : n.op = 13) (hp : partsN n = 3) :
    Calls Tryz.prog 32 #[.pointer (some ⟨R, 0, none⟩)] w (EvPost W w R k ((p + (Ex.node n ps).flat.length : Nat) : Int) (evX k.env (.node n ps))) := by
  obtain ⟨b1, b2, b3, rfl, x1, x2, x3, hfl⟩ := hx.three hp (not_rec (by omega))
  have ways : n.op = 13 := hop
  have HR := Lib.hid (show evX k.env (.node n (.cons b1 (.cons b2 (.cons b3 .nil)))) = evIf k.env (.cons b1 (.cons b2 (.cons b3 .nil))) by rw [evX, if_neg (by omega), if_neg (by omega), if_neg (by omega), if_pos hop])
  have HF := Lib.hid (show ((p + (Ex.node n (.cons b1 (.cons b2 (.cons b3 .nil)))).flat.length : Nat) : Int) = ((p + 1 + b1.flat.length + b2.flat.length + b3.flat.length : Nat) : Int) by rw [hfl]; congr 1; omega)
  rw [HR.out, HF.out]
  obtain ⟨rr, hrr⟩ : ∃ rr : Res, rr = evIf k.env (.cons b1 (.cons b2 (.cons b3 .nil))) := ⟨_, rfl⟩
  obtain ⟨Qp, hQp⟩ : ∃ Qp : Int, Qp = ((p + 1 + b1.flat.length + b2.flat.length + b3.flat.length : Nat) : Int) := ⟨_, rfl⟩
  rw [← hrr, ← hQp]
  have HRR := Lib.hid hrr
  have HQP := Lib.hid hQp
  clear hrr hQp
  have l1 : b1.flat.length ≤ N := by omega
  have l2 : b2.flat.length ≤ N := by omega
  have l3 : b3.flat.length ≤ N := by omega
  have X1 := Lib.hid x1
  have X2 := Lib.hid x2
  have X3 := Lib.hid x3
  have IH := Lib.hid ih
  obtain ⟨a, ha, hpn, D, ho⟩ := h.node hx
  obtain ⟨o, v, s, t⟩ := n
  obtain ⟨d0, d1, d2, d3⟩ := D
  dsimp only at d0 d1 d2 d3 ways
  have hm := h.cx.ns.max
  unfold maxLen at hm
  have c8 : w.cell? ⟨R, 8, none⟩ = some (.slice (some a) k.n k.c) := by rw [← ha]; exact h.c8
  have c9 := h.c9
  have z9 := h.z 9
  have hRl := h.lt
  have HO := Lib.hid ho
  have E1 := Lib.hid (ev_step h (.cells #[.int .i64 o, .int .i64 v, .string s, .string t] 42)).1
  have G1 := Lib.hid (ev_step h (.cells #[.int .i64 o, .int .i64 v, .string s, .string t] 42)).2
  have nw8 := World.new_ne w ⟨R, 8, none⟩ c8
  have nw9 := World.new_ne w ⟨R, 9, none⟩ c9
  have nd0 := World.new_ne w _ d0
  have nd1 := World.new_ne w _ d1
  have nd2 := World.new_ne w _ d2
  have nd3 := World.new_ne w _ d3
  have hp0 : (0 : Int) ≤ (p : Int) := by omega
  generalize k.n = kn at *
  have hp1 : (p : Int) < (kn : Int) := by omega
  clear ha ho hx h hp hop hN HR HF hfl x1 x2 x3 ih
  go_enter Tryz.func32, Tryz.ntmps32
  go_wp2_with fail
  go_region_held3 (fun w' : World => w'.cell? ⟨R, 8, none⟩ = some (.slice (some a) kn k.c) ∧ w'.cell? ⟨R, 9, none⟩ = some (.int .i64 p) ∧ w'.cell? (a.add (p * 4)) = some (.int .i64 o) ∧ w'.cell? ⟨(a.add (p * 4)).block, (a.add (p * 4)).off + 1, none⟩ = some (.int .i64 v) ∧ w'.cell? ⟨(a.add (p * 4)).block, (a.add (p * 4)).off + 2, none⟩ = some (.string s) ∧ w'.cell? ⟨(a.add (p * 4)).block, (a.add (p * 4)).off + 3, none⟩ = some (.string t)) (go_keep) (fail)
  subst ways
  have K := Lib.hid (eval_choice (p := p + 1) IH.out E1.out b1 b2 b3 X1.out X2.out X3.out l1 l2 l3)
  rw [← HRR.out, ← HQP.out] at K
  clear HRR
  rcases rr with u | U
  · go_wp2_with fail
    refine K.out.mono ?_
    rintro e w2 hp
    have HP := Lib.hid (ev_up hp G1.out)
    obtain ⟨-, rfl⟩ := hp
    go_wp2_with fail
    exact ⟨rfl, HP.out⟩
  · go_wp2_with fail
    refine K.out.mono ?_
    rintro e w2 hp
    have HP := Lib.hid (ev_up hp G1.out)
    obtain ⟨-, ⟨A2, n2, c2, rfl, -, -⟩, -⟩ := hp
    go_wp2_with fail
    go_ret
    exact HP.out
set_option maxHeartbeats 8000000 in
theorem next_set {W : World} {R N : Nat} {k : Cx} (ih : NextC W R k N) {w : World} {p : Nat} (h : EvAt W w R k (p : Int)) (n : Nd) (ps : Exs) (hx : XAt k.P p false (.node n ps)) (hN : (Ex.node n ps).flat.length ≤ N + 1) (hop : n.op = 5) (h200 : k.P.length ≤ 200) :
    Calls Tryz.prog 32 #[.pointer (some ⟨R, 0, none⟩)] w (EvPost W w R k ((p + (Ex.node n ps).flat.length : Nat) : Int) (evX k.env (.node n ps))) := by
  have ways : n.op = 5 := hop
  have HR := Lib.hid (show evX k.env (.node n ps) = resS (evS k.env ps) by rw [evX, if_neg (by omega), if_neg (by omega), if_neg (by omega), if_neg (by omega), if_neg (by omega)]; rcases evS k.env ps with e | L <;> simp [resS, hop])
  have hfl : (Ex.node n ps).flat.length = ps.flat.length + 1 := by simp [Ex.flat]
  have HF := Lib.hid (show ((p + (Ex.node n ps).flat.length : Nat) : Int) = ((p + 1 + ps.flat.length : Nat) : Int) by rw [hfl]; congr 1; omega)
  rw [HR.out, HF.out]
  obtain ⟨rr, hrr⟩ : ∃ rr : Res, rr = resS (evS k.env ps) := ⟨_, rfl⟩
  obtain ⟨Qp, hQp⟩ : ∃ Qp : Int, Qp = ((p + 1 + ps.flat.length : Nat) : Int) := ⟨_, rfl⟩
  rw [← hrr, ← hQp]
  have HRR := Lib.hid hrr
  have HQP := Lib.hid hQp
  clear hrr hQp
  have l1 : ps.flat.length ≤ N := by omega
  have X1 := Lib.hid (show XsAt k.P (p + 1) false ps by have := hx.parts; rwa [show isRec (Ex.node n ps).head = false from decide_eq_false (by show n.op ≠ 6; omega)] at this)
  have HN := Lib.hid (show n.n = (ps.len : Int) by have := hx.valid.2.1; unfold partsN at this; rw [if_pos (by omega)] at this; exact this.symm)
  have h2 : ps.len ≤ 200 := by have := hx.le; have := flatXs_len ps; omega
  have IH := Lib.hid ih
  obtain ⟨a, ha, hpn, D, ho⟩ := h.node hx
  obtain ⟨o, v, s, t⟩ := n
  obtain ⟨d0, d1, d2, d3⟩ := D
  dsimp only at d0 d1 d2 d3 ways
  have hm := h.cx.ns.max
  unfold maxLen at hm
  have c8 : w.cell? ⟨R, 8, none⟩ = some (.slice (some a) k.n k.c) := by rw [← ha]; exact h.c8
  have c9 := h.c9
  have z9 := h.z 9
  have hRl := h.lt
  have HO := Lib.hid ho
  have E1 := Lib.hid (ev_step h (.cells #[.int .i64 o, .int .i64 v, .string s, .string t] 42)).1
  have G1 := Lib.hid (ev_step h (.cells #[.int .i64 o, .int .i64 v, .string s, .string t] 42)).2
  have nw8 := World.new_ne w ⟨R, 8, none⟩ c8
  have nw9 := World.new_ne w ⟨R, 9, none⟩ c9
  have nd0 := World.new_ne w _ d0
  have nd1 := World.new_ne w _ d1
  have nd2 := World.new_ne w _ d2
  have nd3 := World.new_ne w _ d3
  have hp0 : (0 : Int) ≤ (p : Int) := by omega
  generalize k.n = kn at *
  have hp1 : (p : Int) < (kn : Int) := by omega
  clear ha ho hx h hop hN HR HF hfl ih h200
  go_enter Tryz.func32, Tryz.ntmps32
  go_wp2_with fail
  go_region_held3 (fun w' : World => w'.cell? ⟨R, 8, none⟩ = some (.slice (some a) kn k.c) ∧ w'.cell? ⟨R, 9, none⟩ = some (.int .i64 p) ∧ w'.cell? (a.add (p * 4)) = some (.int .i64 o) ∧ w'.cell? ⟨(a.add (p * 4)).block, (a.add (p * 4)).off + 1, none⟩ = some (.int .i64 v) ∧ w'.cell? ⟨(a.add (p * 4)).block, (a.add (p * 4)).off + 2, none⟩ = some (.string s) ∧ w'.cell? ⟨(a.add (p * 4)).block, (a.add (p * 4)).off + 3, none⟩ = some (.string t)) (go_keep) (fail)
  subst ways
  have K := Lib.hid (made_set (p := p + 1) IH.out E1.out ⟨5, v, s, t⟩ ps X1.out rfl HN.out l1 h2)
  unfold ndV at K
  rw [← HRR.out, ← HQP.out] at K
  clear HRR
  rcases rr with u | U
  · go_wp2_with fail
    refine K.out.mono ?_
    rintro e w2 hp
    have HP := Lib.hid (ev_up hp G1.out)
    obtain ⟨-, rfl⟩ := hp
    go_wp2_with fail
    exact ⟨rfl, HP.out⟩
  · go_wp2_with fail
    refine K.out.mono ?_
    rintro e w2 hp
    have HP := Lib.hid (ev_up hp G1.out)
    obtain ⟨-, ⟨A2, n2, c2, rfl, -, -⟩, -⟩ := hp
    go_wp2_with fail
    go_ret
    exact HP.out
set_option maxHeartbeats 8000000 in
theorem next_rec {W : World} {R N : Nat} {k : Cx} (ih : NextC W R k N) {w : World} {p : Nat} (h : EvAt W w R k (p : Int)) (n : Nd) (ps : Exs) (hx : XAt k.P p false (.node n ps)) (hN : (Ex.node n ps).flat.length ≤ N + 1) (hop : n.op = 6) (h200 : k.P.length ≤ 200) :
    Calls Tryz.prog 32 #[.pointer (some ⟨R, 0, none⟩)] w (EvPost W w R k ((p + (Ex.node n ps).flat.length : Nat) : Int) (evX k.env (.node n ps))) := by
  have ways : n.op = 6 := hop
  have HR := Lib.hid (show evX k.env (.node n ps) = resF (evF k.env ps) by rw [evX, if_neg (by omega), if_neg (by omega), if_neg (by omega), if_neg (by omega), if_pos hop]; rcases evF k.env ps with e | L <;> rfl)
  have hfl : (Ex.node n ps).flat.length = ps.flat.length + 1 := by simp [Ex.flat]
  have HF := Lib.hid (show ((p + (Ex.node n ps).flat.length : Nat) : Int) = ((p + 1 + ps.flat.length : Nat) : Int) by rw [hfl]; congr 1; omega)
  rw [HR.out, HF.out]
  obtain ⟨rr, hrr⟩ : ∃ rr : Res, rr = resF (evF k.env ps) := ⟨_, rfl⟩
  obtain ⟨Qp, hQp⟩ : ∃ Qp : Int, Qp = ((p + 1 + ps.flat.length : Nat) : Int) := ⟨_, rfl⟩
  rw [← hrr, ← hQp]
  have HRR := Lib.hid hrr
  have HQP := Lib.hid hQp
  clear hrr hQp
  have l1 : ps.flat.length ≤ N := by omega
  have X1 := Lib.hid (show XsAt k.P (p + 1) true ps by have := hx.parts; rwa [show isRec (Ex.node n ps).head = true from decide_eq_true hop] at this)
  have HN := Lib.hid (show n.n = (ps.len : Int) by have := hx.valid.2.1; unfold partsN at this; rw [if_pos (by omega)] at this; exact this.symm)
  have h2 : ps.len ≤ 200 := by have := hx.le; have := flatXs_len ps; omega
  have IH := Lib.hid ih
  obtain ⟨a, ha, hpn, D, ho⟩ := h.node hx
  obtain ⟨o, v, s, t⟩ := n
  obtain ⟨d0, d1, d2, d3⟩ := D
  dsimp only at d0 d1 d2 d3 ways
  have hm := h.cx.ns.max
  unfold maxLen at hm
  have c8 : w.cell? ⟨R, 8, none⟩ = some (.slice (some a) k.n k.c) := by rw [← ha]; exact h.c8
  have c9 := h.c9
  have z9 := h.z 9
  have hRl := h.lt
  have HO := Lib.hid ho
  have E1 := Lib.hid (ev_step h (.cells #[.int .i64 o, .int .i64 v, .string s, .string t] 42)).1
  have G1 := Lib.hid (ev_step h (.cells #[.int .i64 o, .int .i64 v, .string s, .string t] 42)).2
  have nw8 := World.new_ne w ⟨R, 8, none⟩ c8
  have nw9 := World.new_ne w ⟨R, 9, none⟩ c9
  have nd0 := World.new_ne w _ d0
  have nd1 := World.new_ne w _ d1
  have nd2 := World.new_ne w _ d2
  have nd3 := World.new_ne w _ d3
  have hp0 : (0 : Int) ≤ (p : Int) := by omega
  generalize k.n = kn at *
  have hp1 : (p : Int) < (kn : Int) := by omega
  clear ha ho hx h hop hN HR HF hfl ih h200
  go_enter Tryz.func32, Tryz.ntmps32
  go_wp2_with fail
  go_region_held3 (fun w' : World => w'.cell? ⟨R, 8, none⟩ = some (.slice (some a) kn k.c) ∧ w'.cell? ⟨R, 9, none⟩ = some (.int .i64 p) ∧ w'.cell? (a.add (p * 4)) = some (.int .i64 o) ∧ w'.cell? ⟨(a.add (p * 4)).block, (a.add (p * 4)).off + 1, none⟩ = some (.int .i64 v) ∧ w'.cell? ⟨(a.add (p * 4)).block, (a.add (p * 4)).off + 2, none⟩ = some (.string s) ∧ w'.cell? ⟨(a.add (p * 4)).block, (a.add (p * 4)).off + 3, none⟩ = some (.string t)) (go_keep) (fail)
  subst ways
  have K := Lib.hid (made_rec (p := p + 1) IH.out E1.out ⟨6, v, s, t⟩ ps X1.out rfl HN.out l1 h2)
  unfold ndV at K
  rw [← HRR.out, ← HQP.out] at K
  clear HRR
  rcases rr with u | U
  · go_wp2_with fail
    refine K.out.mono ?_
    rintro e w2 hp
    have HP := Lib.hid (ev_up hp G1.out)
    obtain ⟨-, rfl⟩ := hp
    go_wp2_with fail
    exact ⟨rfl, HP.out⟩
  · go_wp2_with fail
    refine K.out.mono ?_
    rintro e w2 hp
    have HP := Lib.hid (ev_up hp G1.out)
    obtain ⟨-, ⟨A2, n2, c2, rfl, -, -⟩, -⟩ := hp
    go_wp2_with fail
    go_ret
    exact HP.out
theorem box_w {W w : World} {R : Nat} {k : Cx} {p : Int} (_h : EvAt W w R k p) (x : Nd) : Nd4 ((w.setCell ⟨R, 9, none⟩ (.int .i64 (p + 1))).alloc (.cells #[.int .i64 x.op, .int .i64 x.n, .string x.s, .string x.t] 42)).drew ⟨w.heap.size, 0, none⟩ x := by
  have h1 := nd4_new (w.setCell ⟨R, 9, none⟩ (.int .i64 (p + 1))) x 42
  rw [show (w.setCell ⟨R, 9, none⟩ (.int .i64 (p + 1))).heap.size = w.heap.size by simp [World.setCell]] at h1
  exact h1.keep (below_drew _)
theorem Nd4.but {w w' : World} {b : Nat} {x : Nd} {R : Nat} (h : Nd4 w ⟨b, 0, none⟩ x) (hg : w.grownBy w' (some R)) (hne : b ≠ R) : Nd4 w' ⟨b, 0, none⟩ x :=
  have e : some b ≠ some R := fun q => hne (by injection q)
  ⟨hg.cell h.c0 e, hg.cell h.c1 e, hg.cell h.c2 e, hg.cell h.c3 e⟩
theorem ev_single (σ : Env) {n : Nd} {a : Ex} (h : n.op = 9 ∨ n.op = 10 ∨ n.op = 21 ∨ n.op = 22 ∨ n.op = 23 ∨ n.op = 24) : evX σ (.node n (.cons a .nil)) = (match evX σ a with | .error e => .error e | .ok V => oneX σ.E n V) := by
  rw [evX, if_neg (by omega), if_neg (by omega), if_neg (by omega), if_neg (by omega), if_neg (by omega)]
  simp only [evS]
  rcases evX σ a with e | V
  · rfl
  · simp only [applyX]
    rw [if_neg (by omega)]
theorem ev_double (σ : Env) {n : Nd} {a b : Ex} (h : 14 ≤ n.op ∧ n.op ≤ 20 ∨ 25 ≤ n.op ∧ n.op ≤ 27) : evX σ (.node n (.cons a (.cons b .nil))) = (match evX σ a with | .error e => .error e | .ok V => match evX σ b with | .error e => .error e | .ok U => twoX σ.E n.op V U) := by
  rw [evX, if_neg (by omega), if_neg (by omega), if_neg (by omega), if_neg (by omega), if_neg (by omega)]
  simp only [evS]
  rcases evX σ a with e | V
  · rfl
  · simp only
    rcases evX σ b with e | U
    · rfl
    · simp only [applyX]
      rw [if_neg (by omega)]
theorem eval_single {W w : World} {R : Nat} {k : Cx} {p : Int} (h : EvAt W w R k p) (x : Nd) (hx : x.op = 9 ∨ x.op = 10 ∨ x.op = 21 ∨ x.op = 22 ∨ x.op = 23 ∨ x.op = 24) (hs : x.s.size ≤ maxLen) (A : Option Addr) (n c : Nat) (V : List Nd) (hv : Ns w A n c V) (h0 : 0 < V.length) :
    Calls Tryz.prog 55 #[.pointer (some ⟨R, 0, none⟩), ndV x, .slice A n c] w (TellPost w (oneX k.E x V)) := by
  rcases hx with q | q | q | q | q | q
  · exact single_not h x q A n c V hv h0
  · exact single_neg h x q A n c V hv h0
  · exact single_has h x q A n c V hv h0
  · exact single_get h x q A n c V hv h0
  · exact single_like h x q hs A n c V hv h0
  · exact single_is h x q A n c V hv h0
set_option maxHeartbeats 4000000 in
theorem double_in {W w : World} {R : Nat} {k : Cx} {p : Int} (h : EvAt W w R k p) (A B : Option Addr) (n m c d : Nat) (P Q : List Nd) (hP : Ns w A n c P) (h0 : 0 < P.length) (hQ : Ns w B m d Q) (h1 : 0 < Q.length) (vQ : valFault Q = 0) :
    Calls Tryz.prog 56 #[.pointer (some ⟨R, 0, none⟩), .int .i64 20, .slice A n c, .slice B m d] w (TellPost w (twoX k.E 20 P Q)) := by
  have K := Lib.hid (eval_in h A B n m c d P Q hP h0 hQ h1 vQ)
  unfold InPost at K
  have HR := Lib.hid (show twoX k.E 20 P Q = (if headOp P = 4 ∧ (topsX Q).all (fun t => decide (headOp t = 4)) then .ok (truthN ((topsX Q).any fun t => inB k.E (uidN P) (uidN t))) else .error 2) by unfold twoX; rw [if_neg (by decide), if_pos rfl]; rfl)
  rw [HR.out]
  generalize ((topsX Q).any fun t => inB k.E (uidN P) (uidN t)) = b at *
  clear h hP h0 hQ h1 vQ
  by_cases g : headOp P = 4 ∧ (topsX Q).all (fun t => decide (headOp t = 4)) = true
  · rw [if_pos g]
    simp only [if_pos g] at K
    clear g HR
    go_enter Tryz.func56, Tryz.ntmps56
    go_wp2_with fail
    refine K.out.mono ?_
    rintro e w1 ⟨b1, rfl⟩
    have B1 := Lib.hid b1
    clear b1 K
    go_wp2_with fail
    refine (eval_truth b w1).mono ?_
    rintro e w2 hp
    have HP := Lib.hid (hp.up B1.out)
    obtain ⟨-, A2, n2, c2, rfl, -, -⟩ := hp
    go_wp2_with fail
    go_ret
    exact HP.out
  · rw [if_neg g]
    simp only [if_neg g] at K
    clear g HR
    go_enter Tryz.func56, Tryz.ntmps56
    go_wp2_with fail
    refine K.out.mono ?_
    rintro e w1 ⟨b1, rfl⟩
    have B1 := Lib.hid b1
    clear b1 K
    go_wp2_with fail
    exact ⟨rfl, tell_bad B1.out⟩
theorem eval_double {W w : World} {R : Nat} {k : Cx} {p : Int} (h : EvAt W w R k p) (op : Int) (A B : Option Addr) (n m c d : Nat) (P Q : List Nd) (hP : Ns w A n c P) (h0 : 0 < P.length) (hQ : Ns w B m d Q) (h1 : 0 < Q.length) (vQ : valFault Q = 0) :
    Calls Tryz.prog 56 #[.pointer (some ⟨R, 0, none⟩), .int .i64 op, .slice A n c, .slice B m d] w (TellPost w (twoX k.E op P Q)) := by
  by_cases q14 : op = 14
  · subst q14; exact double_eq h A B n m c d P Q hP hQ
  by_cases q20 : op = 20
  · subst q20; exact double_in h A B n m c d P Q hP h0 hQ h1 vQ
  by_cases q25 : op = 25
  · subst q25; exact double_one h A B n m c d P Q hP hQ
  by_cases q26 : op = 26
  · subst q26; exact double_all h A B n m c d P Q hP hQ
  by_cases q27 : op = 27
  · subst q27; exact double_any h A B n m c d P Q hP hQ
  by_cases g : headOp P = 2
  · by_cases g2 : headOp Q = 2
    · by_cases q15 : op = 15
      · subst q15; exact double_lt h A B n m c d P Q hP h0 hQ h1 g g2
      by_cases q16 : op = 16
      · subst q16; exact double_le h A B n m c d P Q hP h0 hQ h1 g g2
      exact double_do h op ⟨q14, q20, q25, q26, q27⟩ ⟨q15, q16⟩ A B n m c d P Q hP h0 hQ h1 g g2
    · exact double_no2 h op ⟨q14, q20, q25, q26, q27⟩ A B n m c d P Q hP h0 hQ h1 g g2
  · exact double_no1 h op ⟨q14, q20, q25, q26, q27⟩ A B n m c d P Q hP h0 hQ h1 g
set_option maxHeartbeats 8000000 in
theorem next_single {W : World} {R N : Nat} {k : Cx} (ih : NextC W R k N) {w : World} {p : Nat} (h : EvAt W w R k (p : Int)) (n : Nd) (ps : Exs) (hx : XAt k.P p false (.node n ps)) (hN : (Ex.node n ps).flat.length ≤ N + 1) (hop : n.op = 9 ∨ n.op = 10 ∨ n.op = 21 ∨ n.op = 22 ∨ n.op = 23 ∨ n.op = 24) (hp : partsN n = 1) :
    Calls Tryz.prog 32 #[.pointer (some ⟨R, 0, none⟩)] w (EvPost W w R k ((p + (Ex.node n ps).flat.length : Nat) : Int) (evX k.env (.node n ps))) := by
  obtain ⟨b1, rfl, x1, hfl⟩ := hx.one hp (not_rec (by omega))
  have ways := hop
  have HR := Lib.hid (ev_single k.env (a := b1) hop)
  have HF := Lib.hid (show ((p + (Ex.node n (.cons b1 .nil)).flat.length : Nat) : Int) = ((p + 1 + b1.flat.length : Nat) : Int) by rw [hfl]; congr 1; omega)
  rw [HR.out, HF.out]
  obtain ⟨rr, hrr⟩ : ∃ rr : Res, rr = (match evX k.env b1 with | .error e => .error e | .ok V => oneX k.env.E n V) := ⟨_, rfl⟩
  obtain ⟨Qp, hQp⟩ : ∃ Qp : Int, Qp = ((p + 1 + b1.flat.length : Nat) : Int) := ⟨_, rfl⟩
  rw [← hrr, ← hQp]
  have HRR := Lib.hid hrr
  have HQP := Lib.hid hQp
  clear hrr hQp
  have l1 : b1.flat.length ≤ N := by omega
  have X1 := Lib.hid x1
  have IH := Lib.hid ih
  have HEO := Lib.hid h.ok.ok
  have B4 := Lib.hid (box_w h n)
  obtain ⟨a, ha, hpn, D, ho⟩ := h.node hx
  obtain ⟨o, v, s, t⟩ := n
  obtain ⟨d0, d1, d2, d3⟩ := D
  dsimp only at d0 d1 d2 d3 ways
  have hm := h.cx.ns.max
  unfold maxLen at hm
  have c8 : w.cell? ⟨R, 8, none⟩ = some (.slice (some a) k.n k.c) := by rw [← ha]; exact h.c8
  have c9 := h.c9
  have z9 := h.z 9
  have hRl := h.lt
  have HO := Lib.hid ho
  have E1 := Lib.hid (ev_step h (.cells #[.int .i64 o, .int .i64 v, .string s, .string t] 42)).1
  have G1 := Lib.hid (ev_step h (.cells #[.int .i64 o, .int .i64 v, .string s, .string t] 42)).2
  have nw8 := World.new_ne w ⟨R, 8, none⟩ c8
  have nw9 := World.new_ne w ⟨R, 9, none⟩ c9
  have nd0 := World.new_ne w _ d0
  have nd1 := World.new_ne w _ d1
  have nd2 := World.new_ne w _ d2
  have nd3 := World.new_ne w _ d3
  have hp0 : (0 : Int) ≤ (p : Int) := by omega
  generalize k.n = kn at *
  have hp1 : (p : Int) < (kn : Int) := by omega
  clear ha ho hx h hp hop hN HR HF hfl x1 ih
  go_enter Tryz.func32, Tryz.ntmps32
  go_wp2_with fail
  go_region_held3 (fun w' : World => w'.cell? ⟨R, 8, none⟩ = some (.slice (some a) kn k.c) ∧ w'.cell? ⟨R, 9, none⟩ = some (.int .i64 p) ∧ w'.cell? (a.add (p * 4)) = some (.int .i64 o) ∧ w'.cell? ⟨(a.add (p * 4)).block, (a.add (p * 4)).off + 1, none⟩ = some (.int .i64 v) ∧ w'.cell? ⟨(a.add (p * 4)).block, (a.add (p * 4)).off + 2, none⟩ = some (.string s) ∧ w'.cell? ⟨(a.add (p * 4)).block, (a.add (p * 4)).off + 3, none⟩ = some (.string t)) (go_keep) (fail)
  have hbR : w.heap.size ≠ R := by omega
  have K1 := Lib.hid (IH.out b1 (p + 1) _ E1.out X1.out l1)
  rcases qa : evX k.env b1 with u | V
  · obtain rfl : rr = .error u := by rw [HRR.out, qa]
    rw [qa] at K1
    unfold EvPost at K1
    clear qa
    rcases ways with rfl | rfl | rfl | rfl | rfl | rfl
    all_goals
      go_wp2_with fail
      refine K1.out.mono ?_
      rintro e w2 ⟨g2, rfl⟩
      have G2 := Lib.hid (grown_trans G1.out g2)
      clear g2
      go_wp2_with fail
      exact ⟨rfl, G2.out, rfl⟩
  · obtain ⟨-, pV⟩ := ev_pos HEO.out X1.out qa
    have hr3 : oneX k.E ⟨o, v, s, t⟩ V = rr := by rw [HRR.out, qa]; rfl
    rw [qa, ← HQP.out] at K1
    unfold EvPost at K1
    have KSF := Lib.hid (fun (q : Int) (w2 : World) (E2 : EvAt W w2 R k q) (A2 : Option Addr) (n2 c2 : Nat) (N2 : Ns w2 A2 n2 c2 V) => eval_single E2 ⟨o, v, s, t⟩ ways HO.out.s A2 n2 c2 V N2 pV)
    clear qa HRR
    rcases ways with rfl | rfl | rfl | rfl | rfl | rfl
    all_goals
      go_wp2_with fail
      refine K1.out.mono ?_
      rintro e w2 ⟨g2, ⟨A2, n2, c2, rfl, N2, F2⟩, E2⟩
      have G2 := Lib.hid (grown_trans G1.out g2)
      obtain ⟨y0, y1, y2, y3⟩ := B4.out.but g2 hbR
      have KS := Lib.hid (KSF.out _ w2 E2 A2 n2 c2 N2)
      have HE2 := Lib.hid E2
      clear g2 N2 F2 E2 K1
      rw [hr3] at KS
      unfold ndV at KS
      dsimp only at KS y0 y1 y2 y3
      clear hr3
      rcases rr with u | U
      · go_wp2_with fail
        refine KS.out.mono ?_
        rintro e w3 hp
        have HP := Lib.hid (tell_ev hp HE2.out G2.out)
        obtain ⟨-, rfl⟩ := hp
        go_wp2_with fail
        exact ⟨rfl, HP.out⟩
      · go_wp2_with fail
        refine KS.out.mono ?_
        rintro e w3 hp
        have HP := Lib.hid (tell_ev hp HE2.out G2.out)
        obtain ⟨-, A3, n3, c3, rfl, -, -⟩ := hp
        go_wp2_with fail
        go_ret
        exact HP.out
end Go.Proofs.YtcdpoamiejompaaGreatDoor
namespace Go.Proofs.YtcdpoamiejompaaGreatDoor
open Go.RowKit Go.Wk Go.Sort
set_option maxRecDepth 100000

noncomputable def dblR (E : List En) (op : Int) (x y : Res) : Res := match x with
  | .error e => .error e
  | .ok V => match y with
    | .error e => .error e
    | .ok U => twoX E op V U
theorem ev_dbl (σ : Env) {n : Nd} {a b : Ex} (h : 14 ≤ n.op ∧ n.op ≤ 20 ∨ 25 ≤ n.op ∧ n.op ≤ 27) : evX σ (.node n (.cons a (.cons b .nil))) = dblR σ.E n.op (evX σ a) (evX σ b) := by
  rw [ev_double σ h]
  unfold dblR
  rcases evX σ a with e | V
  · rfl
  · rcases evX σ b with e | U <;> rfl
set_option maxHeartbeats 8000000 in
theorem next_double {W : World} {R N : Nat} {k : Cx} (ih : NextC W R k N) {w : World} {p : Nat} (h : EvAt W w R k (p : Int)) (n : Nd) (ps : Exs) (hx : XAt k.P p false (.node n ps)) (hN : (Ex.node n ps).flat.length ≤ N + 1) (hop : 14 ≤ n.op ∧ n.op ≤ 20 ∨ 25 ≤ n.op ∧ n.op ≤ 27) (hp : partsN n = 2) :
    Calls Tryz.prog 32 #[.pointer (some ⟨R, 0, none⟩)] w (EvPost W w R k ((p + (Ex.node n ps).flat.length : Nat) : Int) (evX k.env (.node n ps))) := by
  obtain ⟨b1, b2, rfl, x1, x2, hfl⟩ := hx.two hp (not_rec (by omega))
  have ways := hop
  have HR := Lib.hid (ev_dbl k.env (a := b1) (b := b2) hop)
  have HF := Lib.hid (show ((p + (Ex.node n (.cons b1 (.cons b2 .nil))).flat.length : Nat) : Int) = ((p + 1 + b1.flat.length + b2.flat.length : Nat) : Int) by rw [hfl]; congr 1; omega)
  rw [HR.out, HF.out]
  obtain ⟨rr, hrr⟩ : ∃ rr : Res, rr = dblR k.env.E n.op (evX k.env b1) (evX k.env b2) := ⟨_, rfl⟩
  obtain ⟨Qp, hQp⟩ : ∃ Qp : Int, Qp = ((p + 1 + b1.flat.length + b2.flat.length : Nat) : Int) := ⟨_, rfl⟩
  rw [← hrr, ← hQp]
  have HRR := Lib.hid hrr
  have HQP := Lib.hid hQp
  clear hrr hQp
  have l1 : b1.flat.length ≤ N := by omega
  have l2 : b2.flat.length ≤ N := by omega
  have X1 := Lib.hid x1
  have X2 := Lib.hid x2
  have IH := Lib.hid ih
  have HEO := Lib.hid h.ok.ok
  have B4 := Lib.hid (box_w h n)
  obtain ⟨a, ha, hpn, D, ho⟩ := h.node hx
  obtain ⟨o, v, s, t⟩ := n
  obtain ⟨d0, d1, d2, d3⟩ := D
  dsimp only at d0 d1 d2 d3 ways
  have hm := h.cx.ns.max
  unfold maxLen at hm
  have c8 : w.cell? ⟨R, 8, none⟩ = some (.slice (some a) k.n k.c) := by rw [← ha]; exact h.c8
  have c9 := h.c9
  have z9 := h.z 9
  have hRl := h.lt
  have HO := Lib.hid ho
  have E1 := Lib.hid (ev_step h (.cells #[.int .i64 o, .int .i64 v, .string s, .string t] 42)).1
  have G1 := Lib.hid (ev_step h (.cells #[.int .i64 o, .int .i64 v, .string s, .string t] 42)).2
  have nw8 := World.new_ne w ⟨R, 8, none⟩ c8
  have nw9 := World.new_ne w ⟨R, 9, none⟩ c9
  have nd0 := World.new_ne w _ d0
  have nd1 := World.new_ne w _ d1
  have nd2 := World.new_ne w _ d2
  have nd3 := World.new_ne w _ d3
  have hp0 : (0 : Int) ≤ (p : Int) := by omega
  have f1 : (o == 1) = false := beq_eq_false_iff_ne.2 (by omega)
  have f2 : (o == 2) = false := beq_eq_false_iff_ne.2 (by omega)
  have f3 : (o == 3) = false := beq_eq_false_iff_ne.2 (by omega)
  have f4 : (o == 4) = false := beq_eq_false_iff_ne.2 (by omega)
  have f8 : (o == 8) = false := beq_eq_false_iff_ne.2 (by omega)
  have f11 : (o == 11) = false := beq_eq_false_iff_ne.2 (by omega)
  have f12 : (o == 12) = false := beq_eq_false_iff_ne.2 (by omega)
  have f13 : (o == 13) = false := beq_eq_false_iff_ne.2 (by omega)
  have f5 : (o == 5) = false := beq_eq_false_iff_ne.2 (by omega)
  have f6 : (o == 6) = false := beq_eq_false_iff_ne.2 (by omega)
  have f9 : (o == 9) = false := beq_eq_false_iff_ne.2 (by omega)
  have f10 : (o == 10) = false := beq_eq_false_iff_ne.2 (by omega)
  have f21 : (o == 21) = false := beq_eq_false_iff_ne.2 (by omega)
  have f22 : (o == 22) = false := beq_eq_false_iff_ne.2 (by omega)
  have f23 : (o == 23) = false := beq_eq_false_iff_ne.2 (by omega)
  have f24 : (o == 24) = false := beq_eq_false_iff_ne.2 (by omega)
  generalize k.n = kn at *
  have hp1 : (p : Int) < (kn : Int) := by omega
  clear ha ho hx h hp hop hN HR HF hfl x1 x2 ih
  go_enter Tryz.func32, Tryz.ntmps32
  go_wp2_with fail
  go_region_held3 (fun w' : World => w'.cell? ⟨R, 8, none⟩ = some (.slice (some a) kn k.c) ∧ w'.cell? ⟨R, 9, none⟩ = some (.int .i64 p) ∧ w'.cell? (a.add (p * 4)) = some (.int .i64 o) ∧ w'.cell? ⟨(a.add (p * 4)).block, (a.add (p * 4)).off + 1, none⟩ = some (.int .i64 v) ∧ w'.cell? ⟨(a.add (p * 4)).block, (a.add (p * 4)).off + 2, none⟩ = some (.string s) ∧ w'.cell? ⟨(a.add (p * 4)).block, (a.add (p * 4)).off + 3, none⟩ = some (.string t)) (go_keep) (fail)
  have hbR : w.heap.size ≠ R := by omega
  have K1 := Lib.hid (IH.out b1 (p + 1) _ E1.out X1.out l1)
  rcases qa : evX k.env b1 with u | V
  · obtain rfl : rr = .error u := by rw [HRR.out, qa]; rfl
    rw [qa] at K1
    unfold EvPost at K1
    clear qa ways
    go_wp2_with fail
    refine K1.out.mono ?_
    rintro e w2 ⟨g2, rfl⟩
    have G2 := Lib.hid (grown_trans G1.out g2)
    clear g2
    go_wp2_with fail
    exact ⟨rfl, G2.out, rfl⟩
  obtain ⟨-, pV⟩ := ev_pos HEO.out X1.out qa
  have PV := Lib.hid pV
  rw [qa] at K1
  unfold EvPost at K1
  have HRV := Lib.hid (show rr = dblR k.E o (.ok V) (evX k.env b2) by rw [HRR.out, qa]; rfl)
  clear qa ways HRR pV
  go_wp2_with fail
  refine K1.out.mono ?_
  rintro e w2 ⟨g2, ⟨A2, n2, c2, rfl, N2, F2⟩, E2⟩
  have G2 := Lib.hid (grown_trans G1.out g2)
  obtain ⟨y0, y1, y2, y3⟩ := B4.out.but g2 hbR
  dsimp only at y0 y1 y2 y3
  have HE2 := Lib.hid E2
  have HN2 := Lib.hid N2
  clear g2 N2 F2 E2 K1
  go_wp2_with fail
  have HD2 := Lib.hid (HE2.out.keep (below_drew w2))
  have GD2 := Lib.hid (grown_trans G2.out (grown_of_below (below_drew w2) (some R)))
  have ND2 := Lib.hid (HN2.out.keep (below_drew w2))
  have K2 := Lib.hid (IH.out b2 (p + 1 + b1.flat.length) w2.drew HD2.out X2.out l2)
  refine wp_region_Z (fun (w' : World) => w'.cell? ⟨w.heap.size, 0, none⟩ = some (.int .i64 o)) 7 (by kernel_rfl) (show w2.drew.cell? ⟨w.heap.size, 0, none⟩ = some (.int .i64 o) from y0) (fun hHeld => ?_)
  refine wpAnyZ_take (i := 0) (oi := ⟨some 69, _, _, _, _, _⟩) (v := .pointer (some ⟨R, 0, none⟩)) rfl (by kernel_rfl) (by kernel_rfl) (by kernel_rfl) (by kernel_rfl) (fun _ _ _ h => h) (.inl ⟨by rfl, fun w' hSw => ?_⟩) hHeld ?_
  · go_simp
  simp only [Act.put, List.setIfInBounds_toArray, List.set_cons_zero, List.set_cons_succ]
  refine wpAnyZ_take (i := 1) (oi := ⟨some 70, _, _, _, _, _⟩) (v := .pointer (some ⟨w.heap.size, 0, none⟩)) rfl (by kernel_rfl) (by kernel_rfl) (by kernel_rfl) (by kernel_rfl) (fun _ _ _ h => h) (.inl ⟨by rfl, fun w' hSw => ?_⟩) hHeld ?_
  · go_simp
  simp only [Act.put, List.setIfInBounds_toArray, List.set_cons_zero, List.set_cons_succ]
  refine wpAnyZ_take (i := 2) (oi := ⟨some 71, _, _, _, _, _⟩) (v := .int .i64 o) rfl (by kernel_rfl) (by kernel_rfl) (by kernel_rfl) (by kernel_rfl) (fun _ _ _ h => h) (.inl ⟨by rfl, fun w' hSw => ?_⟩) hHeld ?_
  · go_simp
  simp only [Act.put, List.setIfInBounds_toArray, List.set_cons_zero, List.set_cons_succ]
  refine wpAnyZ_take (i := 3) (oi := ⟨some 72, _, _, _, _, _⟩) (v := .slice A2 n2 c2) rfl (by kernel_rfl) (by kernel_rfl) (by kernel_rfl) (by kernel_rfl) (fun _ _ _ h => h) (.inl ⟨by rfl, fun w' hSw => ?_⟩) hHeld ?_
  · go_simp
  simp only [Act.put, List.setIfInBounds_toArray, List.set_cons_zero, List.set_cons_succ]
  refine wpAnyZ_take (i := 4) (oi := ⟨some 73, _, _, _, _, _⟩) (v := .pointer (some ⟨R, 0, none⟩)) rfl (by kernel_rfl) (by kernel_rfl) (by kernel_rfl) (by kernel_rfl) (fun _ _ _ h => h) (.inl ⟨by rfl, fun w' hSw => ?_⟩) hHeld ?_
  · go_simp
  simp only [Act.put, List.setIfInBounds_toArray, List.set_cons_zero, List.set_cons_succ]
  rcases qb : evX k.env b2 with u | U
  · obtain rfl : rr = .error u := by rw [HRV.out, qb]; rfl
    rw [qb] at K2
    unfold EvPost at K2
    clear qb HRV
    refine wpAnyZ_one (i := 5) (o := ⟨some 74, _, _, _, _, _⟩) (by kernel_rfl) rfl (fun K' hK' => ?_)
    go_simp
    go_at_call 32
    refine K2.out.mono ?_
    rintro e w3 ⟨g3, rfl⟩
    have G3 := Lib.hid (grown_trans GD2.out g3)
    clear g3
    go_wp2_with fail
    exact ⟨rfl, G3.out, rfl⟩
  obtain ⟨vU, pU⟩ := ev_pos HEO.out X2.out qb
  have hr3 : twoX k.E o V U = rr := by rw [HRV.out, qb]; rfl
  rw [qb, ← HQP.out] at K2
  unfold EvPost at K2
  clear qb HRV
  refine wpAnyZ_one (i := 5) (o := ⟨some 74, _, _, _, _, _⟩) (by kernel_rfl) rfl (fun K' hK' => ?_)
  go_simp
  go_at_call 32
  refine K2.out.mono ?_
  rintro e w3 ⟨g3, ⟨A3, n3, c3, rfl, N3, F3⟩, E3⟩
  have G3 := Lib.hid (grown_trans GD2.out g3)
  have z0 := g3.cell hHeld (show some w.heap.size ≠ some R from fun e => hbR (by injection e))
  have KD := Lib.hid (eval_double E3 o A2 A3 n2 n3 c2 c3 V U (HD2.out.ns ND2.out g3) PV.out N3 pU vU)
  rw [hr3] at KD
  have HE3 := Lib.hid E3
  clear g3 N3 F3 E3 vU pU hr3 K2
  go_wp2_with fail
  refine hK'.out _ _ (fun _ => z0) ?_
  clear hK' K' hHeld
  try simp only [Act.put, List.setIfInBounds_toArray, List.set_cons_zero, List.set_cons_succ]
  refine wpAnyZ_one (i := 6) (o := ⟨some 75, _, _, _, _, _⟩) (by kernel_rfl) rfl (fun K' hK' => ?_)
  go_simp
  go_at_call 56
  rcases rr with u | T
  · refine KD.out.mono ?_
    rintro e w4 hp
    have HP := Lib.hid (tell_ev hp HE3.out G3.out)
    obtain ⟨-, rfl⟩ := hp
    go_wp2_with fail
    exact ⟨rfl, HP.out⟩
  · refine KD.out.mono ?_
    rintro e w4 hp
    have HP := Lib.hid (tell_ev hp HE3.out G3.out)
    obtain ⟨b4, A4, n4, c4, rfl, -, -⟩ := hp
    have z4 := cell_keep b4 z0
    clear b4
    go_wp2_with fail
    refine hK'.out _ _ (fun _ => z4) ?_
    clear hK' K'
    try simp only [Act.put, List.setIfInBounds_toArray, List.set_cons_zero, List.set_cons_succ]
    refine wpAnyZ_one (i := 7) (o := ⟨some 2, _, _, _, _, _⟩) (by kernel_rfl) rfl (fun K' hK' => ?_)
    go_simp
    refine hK'.out _ _ (fun h => absurd rfl h) ?_
    refine wpAnyZ_done (by kernel_rfl) ?_
    clear hK' K'
    go_wp2_with fail
    go_ret
    exact HP.out
theorem eval_next {W : World} {R : Nat} {k : Cx} (h200 : k.P.length ≤ 200) : ∀ N : Nat, NextC W R k N
  | 0 => fun x p w _ _ hl => by have := flatX_pos x; omega
  | N + 1 => fun x p w h hx hl => by
    have ih := eval_next (W := W) (R := R) h200 N
    obtain ⟨n, ps⟩ := x
    rcases hx.ways with ⟨g1, g2, hp⟩ | ⟨g, hp⟩ | ⟨g, hp⟩ | ⟨g, hp⟩ | g | g | ⟨g, hp⟩ | ⟨g, hp⟩
    · exact next_leaf h n ps hx ⟨g1, g2⟩ hp
    · exact next_var h n ps hx g hp
    · exact next_either ih h n ps hx hl g hp
    · exact next_choice ih h n ps hx hl g hp
    · exact next_set ih h n ps hx hl g h200
    · exact next_rec ih h n ps hx hl g h200
    · exact next_single ih h n ps hx hl g hp
    · exact next_double ih h n ps hx hl g hp
end Go.Proofs.YtcdpoamiejompaaGreatDoor
namespace Go.Proofs.YtcdpoamiejompaaGreatDoor
open Go.RowKit Go.Wk Go.Sort
set_option maxRecDepth 100000

set_option maxHeartbeats 4000000 in
theorem value_idle (p q : Addr) (w : World) :
    CallsD Tryz.prog 30 #[.pointer (some p), .pointer (some q)] .returning w fun e u' w' => e = .returned (.tuple #[]) ∧ u' = .returning ∧ w' = w := by
  refine callsD_of_wpS Tryz.func30 rfl fun c₀ cs hu => ?_
  apply wpS_seq
  apply wpS_region
  simp [wpOpsS, go_sem, recoverD, hu, Tryz.ntmps30, Exit.thenS]
  refine wpS_of_wp ?_
  go_wp2_with fail
  cases c₀
  simp_all [bodyPostS, results, Tryz.results30]
set_option maxHeartbeats 4000000 in
theorem value_caught (E F : Nat) (x : Int) (v0 v1 : Value) (older : List PanicEntry) (w : World) (hE : w.cell? ⟨E, 0, none⟩ = some v0) (zE : w.frozen? ⟨E, 0, none⟩ = false) (hF : w.cell? ⟨F, 0, none⟩ = some v1) (zF : w.frozen? ⟨F, 0, none⟩ = false) (hne : E ≠ F) :
    CallsD Tryz.prog 30 #[.pointer (some ⟨E, 0, none⟩), .pointer (some ⟨F, 0, none⟩)] (.panicking ({ v := .iface 39 (.int .i64 x), recovered := false } :: older)) w fun e u' w' =>
      e = .returned (.tuple #[]) ∧ u' = .panicking ({ v := .iface 39 (.int .i64 x), recovered := true } :: older) ∧ w' = ((w.setCell ⟨E, 0, none⟩ (.slice none 0 0)).setCell ⟨F, 0, none⟩ (.iface 39 (.int .i64 x))) := by
  have hl : E < w.heap.size := block_lt_of_cell hE
  have hl2 : F < w.heap.size := block_lt_of_cell hF
  have hne2 : F ≠ E := hne.symm
  have hta : ∀ w, (Instr.typeAssert (.iface 39 (.int .i64 x)) 20 39 true).run Tryz.prog w = .ok (.tuple #[.int .i64 x, .bool true]) w := fun _ => by kernel_rfl
  refine callsD_of_wpS Tryz.func30 rfl fun c₀ cs hu => ?_
  apply wpS_seq
  apply wpS_region
  simp [wpOpsS, go_sem, recoverD, hu, Tryz.ntmps30]
  refine wpS_of_wp ?_
  go_wp2_with fail
  cases c₀
  simp [bodyPostS, results, Tryz.results30]
end Go.Proofs.YtcdpoamiejompaaGreatDoor
