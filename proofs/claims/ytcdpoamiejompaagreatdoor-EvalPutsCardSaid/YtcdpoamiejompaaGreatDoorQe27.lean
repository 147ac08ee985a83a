/-
  The program's RecOf: a map from the names to the values, then the names in their order.
  errors.As at the target '*api.Errno': the contracts of plain.Told, and of the statements' Error and Told: the number of an error.
  plain.Told, and the statements' Error and Told: the number of an error, nil's is 0.
  An evaluation: its ten cells, what they lead to.
  eval's small functions: the kind of a value, what must be, what is told without an error, what a name stands for. (gen_evsm.py)
-/
import Derived.WalkKit
import Derived.StringKeys
import Derived.Maps.OwnSet
import Derived.Maps.AppendAt
import Derived.LaidEql
import Derived.Stop.Asserts
import Derived.RowKitTokens
import Derived.Deep.RegionHeld3
import Derived.Test.YtcdpoamiejompaaGreatDoorQe26
namespace Go.Proofs.YtcdpoamiejompaaGreatDoor
open Go.RowKit Go.Wk Go.Sort Go.Maps
set_option maxRecDepth 100000

/-- .. and that the record lies in new blocks. -/
def RecPostN (w : World) (N : List ByteArray) (L : List (List Nd)) (e : Ending) (w' : World) : Prop :=
  ∃ (A : Option Addr) (n c : Nat), e = .returned (.tuple #[.slice A n c, errV (recE N L)]) ∧ Ns w' A n c (recV N L) ∧ (∀ a, A = some a → w.heap.size ≤ a.block) ∧ Below w.heap.size w w'
theorem rec_err {w w' : World} {N : List ByteArray} {L : List (List Nd)} {x : Int} (h : recE N L = x) (h0 : x ≠ 0) (hb : Below w.heap.size w w') : RecPostN w N L (.returned (.tuple #[.slice none 0 0, errV x])) w' :=
  ⟨none, 0, 0, by rw [h], by rw [recV_err (by rw [h]; exact h0)]; exact ns_nil _, (fun a e => nomatch e), hb⟩
theorem recKeyed : Keyed Tryz.prog 9 := string_keyed Tryz.underlying9
theorem zero_nds (w : World) : (zeroValue 25).run Tryz.prog w = .ok (.slice none 0 0) w := by kernel_rfl
/-- What was put by the first k names. -/
def putsK (N : List ByteArray) (V : List Sl) (k : Nat) : List (ByteArray × Value) := (N.zip (V.map Sl.v)).take k
/-- m[k], where it is known what stands there. -/
theorem wpList_lookup_held {P : Program} (w : World) {ops : Array Oper} {rest : List Oper} {o : Oper} {a : Act} {Q : Exit → Act → World → Prop}
    (hg : o.guard = none) (m x : Operand) (t : TypeId) (hop : o.op = Op.lookup t m x false)
    (k e : TypeId) (K : Keyed P k) (ht : P.underlying t = some (.map k e)) {z : Value} (hz : (zeroValue e).run P w = .ok z w) (b n : Nat) (D : DataW Value)
    (hm : a.eval m = .map (some b)) (hown : w.ownsMap P k heldR b n D) (key : Value) (kl : Lit) (hx : a.eval x = key) (hkey : keyOf P k key = some kl) (u : Value) (hu : D.atKey kl (.held z) = .held u)
    (hK : wpList P ops Q rest (a.put o.dst u) w) :
    wpList P ops Q (o :: rest) a w := by
  refine wpList_plain hg fun K' hK' => ?_
  obtain ⟨v, ps, hrun, hv⟩ := hown.lookup K ht hz (zd := .held z) (zp := []) rfl hkey
  have : v = u := by
    unfold heldR at hv
    rw [hu] at hv
    simp at hv
    exact hv.1
  subst this
  unfold Oper.wp
  simp [execOp, hop, hm, hx, hrun, Result.andThen]
  exact hK' _ _ hK
theorem strs_of_own {w : World} {B : Nat} {v : Value} {k : Nat} {xs : List Value} (h : w.ownsRow B 9 1 v k xs) : ∃ A c, v = .slice A k c ∧ ∀ j u, xs[j]? = some u → ∃ a, A = some a ∧ w.cell? (a.add j) = some u := by
  have h1 := h.1
  rcases h.2 with ⟨rfl, h0⟩ | ⟨g, cap, cur, rfl, _⟩
  · refine ⟨none, 0, by rw [h0], fun j u hj => ?_⟩
    have : j < xs.length := (List.getElem?_eq_some_iff.1 hj).1
    omega
  · exact ⟨some ⟨g, 0, none⟩, cap, rfl, fun j u hj => ⟨_, rfl, h.cells (g := g) rfl j u hj⟩⟩
theorem rows_apart {W : World} {base base' : Nat} {e e' : TypeId} {size size' : Nat} {v v' : Value} {k k' : Nat} {xs xs' : List Value} (h : W.ownsRow base e size v k xs) (h' : W.ownsRow base' e' size' v' k' xs') (hne : e ≠ e') : v.ownBlock = none ∨ v.ownBlock ≠ v'.ownBlock := by
  rcases h.2 with ⟨rfl, _⟩ | ⟨g, cap, cur, rfl, _, hgb, _⟩
  · exact .inl rfl
  · refine .inr fun e0 => ?_
    rcases h'.2 with ⟨rfl, _⟩ | ⟨g', cap', cur', rfl, _, hgb', _⟩
    · simp [Value.ownBlock] at e0
    · have : g = g' := by simpa [Value.ownBlock] using e0
      subst this
      rw [hgb] at hgb'
      simp at hgb'
      exact hne hgb'.2
theorem putsK_step {N : List ByteArray} {V : List Sl} {k : Nat} (h1 : k < N.length) (h2 : k < V.length) : putsK N V (k + 1) = putsK N V k ++ [(N[k], V[k].v)] := by
  have hz : k < (N.zip (V.map Sl.v)).length := by simp; omega
  unfold putsK
  rw [← List.take_append_getElem hz, List.getElem_zip, List.getElem_map]
theorem putsK_names {N : List ByteArray} {V : List Sl} (hl : N.length = V.length) (k : Nat) : (putsK N V k).map (·.1) = N.take k := by
  unfold putsK
  rw [List.map_take]
  congr 1
  rw [List.map_fst_zip (by simp; omega)]
theorem any_puts {N : List ByteArray} {V : List Sl} (hl : N.length = V.length) (k : Nat) (s : ByteArray) : ((putsK N V k).any fun p => decide (p.1 = s)) = hadB (N.take k) s := by
  have e : ((putsK N V k).any fun p => decide (p.1 = s)) = ((putsK N V k).map (·.1)).any fun x => decide (x = s) := by rw [List.any_map]; rfl
  rw [e, putsK_names hl]
  unfold hadB
  congr 1
  funext x
  have := cmpB_cmp.zero x s
  simp [this]

set_option maxHeartbeats 1600000 in
theorem val_RecOfN (A : Option Addr) (n c : Nat) (N : List ByteArray) (A' : Option Addr) (m c' : Nat) (V : List Sl) (w : World) (hn : n = N.length) (hn2 : n ≤ 5864062014634 * 2) (hT : TxAt w A N) (hz : ∀ x ∈ N, x.size ≤ maxLen) (hm : m = V.length) (hm2 : m ≤ 5864062014634) (hV : SlsAt w A' V) :
    Calls Tryz.prog 128 #[.slice A n c, .slice A' m c'] w (RecPostN w N (V.map Sl.P)) := by
  have hmm := @run_makeMap Tryz.prog
  obtain ⟨i0, hi, hz0, hz1, hz2⟩ := info_parts ndInfo
  have HT := Lib.hid hT
  have HV := Lib.hid hV
  have HN := Lib.hid hn
  have HM := Lib.hid hm
  have HZ := Lib.hid hz
  clear hT hV hz
  by_cases hnm : n = m
  · subst hnm
    have HL := Lib.hid (show N.length = (V.map Sl.P).length by rw [List.length_map, ← hn, ← hm])
    have HR := Lib.hid (show recE N (V.map Sl.P) = or2 (recChk [] (N.zip (V.map Sl.P))) (if 200 < (flatR (N.zip (V.map Sl.P))).length + 1 then 4 else 0) by unfold recE; rw [if_pos HL.out])
    have HLV := Lib.hid (show ∀ k, (h : k < V.length) → ∀ h', (V.map Sl.P)[k]'h' = V[k].P from fun k h h' => by simp)
    generalize V.map Sl.P = L at *
    clear hn hm
    go_enter Tryz.func128, Tryz.ntmps128
    go_wp2_with fail
    go_loopw [7, 8, 9, 10, 11, 12, 25] (fun _ _ _ _ _ _ i wr => ∃ k : Nat, k ≤ n ∧ i = .int .i64 k ∧ Hid (wr.ownsMap Tryz.prog 9 heldR w.heap.size k (mapD (putsK N V k))) ∧ Hid (recChk [] (N.zip L) = recChk (N.take k) ((N.zip L).drop k)) ∧ Hid (∀ j, (h : j < V.length) → j < k → valFault V[j].P = 0) ∧ Hid (Below w.heap.size w wr)) (fun _ _ _ _ _ _ i _ => n - (intOf i).toNat)
    case atStart => exact ⟨0, Nat.zero_le _, rfl, Lib.hid (World.ownsMap_made _ _ _ _), Lib.hid (by simp), Lib.hid (fun j _ h => by omega), Lib.hid ((Below.refl _ _).alloc (Nat.le_refl _) _)⟩
    case round =>
      obtain ⟨k, hk, rfl, hO, hC, hF, hB⟩ := hrel
      by_cases hlt : k < n
      · have hk1 : k < N.length := by rw [← HN.out]; exact hlt
        have hk2 : k < V.length := by rw [← HM.out]; exact hlt
        obtain ⟨a, rfl, c0⟩ := (HT.out.keep hB.out).at hk1
        obtain ⟨b, rfl, c1, hs⟩ := (HV.out.keep hB.out).at hk2
        have HC := Lib.hid (hC.out.trans (chk_at HL.out hk1))
        have hkl : k < L.length := by rw [← HL.out]; exact hk1
        have eL : L[k] = V[k].P := HLV.out k hk2 hkl
        rw [eL] at HC
        have zz := HZ.out _ (List.getElem_mem hk1)
        have C1 := Lib.hid (name_Check N[k] wr zz)
        have N1 := Lib.hid hs
        clear hC eL hs
        by_cases h1 : nameFault N[k] = 0
        · rw [h1, or2_zero] at HC
          rw [h1, errV_zero] at C1
          clear h1
          go_wp2_with fail
          refine (C1.out).mono ?_
          rintro e w1 ⟨rfl, b1⟩
          have O1 := Lib.hid (ownsMap_keep hO.out b1)
          have B1 := bh hB b1
          have d1 := cell_keep b1 c1
          have N2 := Lib.hid (N1.out.keep b1)
          have HK := Lib.hid (show keyOf Tryz.prog 9 (.string N[k]) = some (keyL N[k]) from WideMaps.keyOf_string_mk Tryz.underlying9 zz)
          have HA := Lib.hid ((has_mapD (putsK N V k) N[k]).trans (any_puts (by rw [← HN.out, HM.out]) k N[k]))
          clear C1 N1 c0 c1 b1 hO hB
          go_wp2_with (at_lookup; refine wpList_lookup_own_ok _ rfl _ _ 233 rfl 9 25 recKeyed Tryz.underlying233 heldR (zero_nds _) _ [] rfl w.heap.size k _ rfl O1.out _ _ rfl HK.out ?_)
          intro v ps hv
          rw [HA.out]
          clear hv HA
          have HH := Lib.hid (show hadB (N.take k) N[k] = true → recE N L = 6 from fun hh => by
            have e := HC.out
            rw [hh, if_pos rfl] at e
            rw [HR.out, e]; rfl)
          have HH2 := Lib.hid (show hadB (N.take k) N[k] = false → recChk [] (N.zip L) = or2 (valFault V[k].P) (recChk (N.take (k + 1)) ((N.zip L).drop (k + 1))) from fun hh => by
            have e := HC.out
            rwa [hh, if_neg (by simp), or2_zero] at e)
          clear HC
          generalize hadB (N.take k) N[k] = q at *
          cases q with
          | true =>
            have HE := Lib.hid (HH.out rfl)
            clear HH HH2
            go_wp2_with fail
            go_ret2
            exact rec_err HE.out (by decide) B1.out
          | false =>
            have HC2 := Lib.hid (HH2.out rfl)
            clear HH HH2
            have C2 := Lib.hid (val_Check_ns N2.out)
            by_cases h2 : valFault V[k].P = 0
            · rw [h2, or2_zero] at HC2
              rw [h2, errV_zero] at C2
              have O2 := Lib.hid (show ∀ j, (h : j < V.length) → j < k + 1 → valFault V[j].P = 0 from fun j h hj => by
                rcases Nat.lt_or_ge j k with h3 | h3
                · exact hF.out j h h3
                · have : j = k := by omega
                  subst this; exact h2)
              clear h2 hF
              go_wp2_with fail
              refine (C2.out).mono ?_
              rintro e w3 ⟨rfl, b3⟩
              have d3 := cell_keep b3 d1
              have B3 := bh B1 b3
              have O3 := Lib.hid (ownsMap_keep O1.out b3)
              clear b3 C2 B1 O1 d1 N2
              go_wp2_with (at_mapUpdate; refine wpList_mapUpdate_own _ rfl _ _ _ 233 rfl 9 25 recKeyed Tryz.underlying233 heldR w.heap.size k _ rfl O3.out (by unfold maxLen; omega) _ _ _ rfl rfl HK.out _ [] rfl ?_)
              intro w4 hown hgrow
              have O4 := Lib.hid (show w4.ownsMap Tryz.prog 9 heldR w.heap.size (k + 1) (mapD (putsK N V (k + 1))) by
                rw [putsK_step hk1 hk2, mapD_snoc]; exact hown)
              have B4 := Lib.hid (B3.out.grown hgrow B3.out.size (fun g hg => by cases hg; exact Nat.le_refl _))
              clear hown hgrow O3 B3
              go_wp2_with fail
              go_roundw
              case rel => exact ⟨k + 1, by omega, by go_num, O4, HC2, O2, B4⟩
              case measure => simp [intOf]; omega
            · have HE := Lib.hid (show recE N L = valFault V[k].P by
                have e := HC2.out.trans (or2_ne h2 _)
                rw [HR.out, e, or2_ne h2])
              have H2 := Lib.hid h2
              have HEV := Lib.hid (errV_ne h2)
              have hev := errV_ne h2
              rw [hev] at C2
              clear h2 HC2 hev
              go_wp2_with fail
              refine (C2.out).mono ?_
              rintro e w3 ⟨rfl, b3⟩
              go_wp2_with fail
              go_ret2
              have := rec_err (w := w) (L := L) HE.out H2.out (bh B1 b3).out
              rw [HEV.out] at this
              exact this
        · have HE := Lib.hid (show recE N L = nameFault N[k] by
            have e := HC.out.trans (or2_ne h1 _)
            rw [HR.out, e, or2_ne h1])
          have H1 := Lib.hid h1
          have HEV := Lib.hid (errV_ne h1)
          have hev := errV_ne h1
          rw [hev] at C1
          clear h1 HC hev
          go_wp2_with fail
          refine (C1.out).mono ?_
          rintro e w1 ⟨rfl, b1⟩
          go_wp2_with fail
          go_ret2
          have := rec_err (w := w) (L := L) HE.out H1.out (bh hB b1).out
          rw [HEV.out] at this
          exact this
      · have HC0 := Lib.hid (show recChk [] (N.zip L) = 0 by
          rw [hC.out, List.drop_of_length_le (by rw [List.length_zip, ← HL.out, ← HN.out]; omega)]; rfl)
        have HVF := Lib.hid (show ∀ j, (h : j < V.length) → valFault V[j].P = 0 from fun j h => hF.out j h (by have := HM.out; omega))
        have HRE := Lib.hid (show recE N L = if 200 < (flatR (N.zip L)).length + 1 then 4 else 0 by rw [HR.out, HC0.out, or2_zero])
        obtain ⟨-, hnd, -⟩ := recChk_zero.1 HC0.out
        have hzn : (N.zip L).map (·.1) = N := List.map_fst_zip (by rw [HL.out]; exact Nat.le_refl _)
        have hls : (sortR (N.zip L)).length = n := by rw [(perm_sortR _).length_eq, List.length_zip, ← HL.out, ← HN.out]; omega
        have HSN := Lib.hid (show (sortT N).map encStr = (sortR (N.zip L)).map fun x => Value.string x.1 by
          have h := names_sorted hnd
          rw [hzn] at h
          unfold sortT
          rw [← h, List.map_map]
          apply List.map_congr_left
          intro x _
          simp [encStr])
        have HIX := Lib.hid (show ∀ r, (h : r < (sortR (N.zip L)).length) → ∃ i, ∃ h1 : i < N.length, ∃ h2 : i < V.length, (sortR (N.zip L))[r] = (N[i], V[i].P) ∧ (mapD (putsK N V k)).atKey (keyL N[i]) (.held (.slice none 0 0)) = .held V[i].v from fun r h => by
          have hm := (perm_sortR (N.zip L)).mem_iff.1 (List.getElem_mem h)
          obtain ⟨i, hi, e⟩ := List.getElem_of_mem hm
          rw [List.length_zip] at hi
          have h1 : i < N.length := by omega
          have h2 : i < V.length := by rw [← HM.out, HN.out]; exact h1
          refine ⟨i, h1, h2, ?_, ?_⟩
          · rw [← e, List.getElem_zip, HLV.out i h2 (by omega)]
          · refine at_mapD (p := (N[i], V[i].v)) ?_ ?_ _
            · rw [putsK_names (by rw [← HN.out, HM.out])]
              exact (hzn ▸ hnd).sublist (List.take_sublist _ _)
            · unfold putsK
              rw [List.take_of_length_le (by simp; have := HN.out; omega)]
              have hz : i < (N.zip (V.map Sl.v)).length := by simp; omega
              have : (N.zip (V.map Sl.v))[i] = (N[i], V[i].v) := by rw [List.getElem_zip, List.getElem_map]
              rw [← this]; exact List.getElem_mem hz)
        have HFS := Lib.hid (show ∀ r, (flatR ((sortR (N.zip L)).take r)).length ≤ (flatR (N.zip L)).length from fun r => Nat.le_trans (flatR_take_le _ r) (by rw [flatR_perm (perm_sortR _)]; exact Nat.le_refl _))
        have HFA := Lib.hid (show (flatR (sortR (N.zip L))).length = (flatR (N.zip L)).length from by rw [flatR_perm (perm_sortR _)])
        have HSZ := Lib.hid (show ∀ x ∈ N.zip L, x.1.size ≤ maxLen ∧ NdsOk x.2 from fun x hx => by
          obtain ⟨i, hi, rfl⟩ := List.getElem_of_mem hx
          rw [List.length_zip] at hi
          have h1 : i < N.length := by omega
          have h2 : i < V.length := by rw [← HM.out, HN.out]; exact h1
          rw [List.getElem_zip, HLV.out i h2 (by omega)]
          obtain ⟨-, -, -, q⟩ := HV.out.at (k := i) h2
          exact ⟨HZ.out _ (List.getElem_mem h1), q.ok⟩)
        have HRV := Lib.hid (fun h : recE N L = 0 => recV_eq h)
        have HMEM := Lib.hid (show ∀ x ∈ sortR (N.zip L), x ∈ N.zip L from fun x hx => (perm_sortR _).mem_iff.1 hx)
        generalize hSS : sortR (N.zip L) = S at *
        generalize mapD (putsK N V k) = D at *
        clear hC hF hnd hzn hSS HC0 HR
        have R0 := Lib.hid (row_one wr (recHead n))
        obtain ⟨w0, rfl⟩ : ∃ w0 : World, w0 = wr := ⟨_, rfl⟩
        have B1 := Lib.hid ((Below.refl w0.heap.size w0).alloc (Nat.le_refl _) (.cells #[.int .i64 (recHead n).op, .int .i64 (recHead n).n, .string (recHead n).s, .string (recHead n).t] 42))
        have B2 := Lib.hid (B1.out.alloc B1.out.size (.cells #[.slice A n c] 58))
        have CS := Lib.hid (sorted_call (w0.heap.size + 1) w.heap.size A c N (by rw [← HN.out]; omega) ((w0.alloc (.cells #[.int .i64 (recHead n).op, .int .i64 (recHead n).n, .string (recHead n).s, .string (recHead n).t] 42)).alloc (.cells #[.slice A n c] 58)) (by simp) (Nat.le_trans hB.out.size B2.out.size)
          (by have := (Boxed.new (w0.alloc (.cells #[.int .i64 (recHead n).op, .int .i64 (recHead n).n, .string (recHead n).s, .string (recHead n).t] 42)) 58 (.slice A n c)).cell; rw [World.size_alloc] at this; rw [← HN.out]; exact this) (HT.out.keep (hB.out.trans (B2.out.mono hB.out.size))) (fun a ha h0 => by
            obtain ⟨b, hb, q⟩ := HT.out 0 N[0] (List.getElem?_eq_getElem h0)
            rw [ha] at hb
            injection hb with hb
            subst hb
            have := block_lt_of_cell q
            rwa [add_block] at this))
        go_wp2_with fail
        refine (callsIn_wide.1 (values_in Fence.wide 5 trivial rfl _ _ _ _)).mono ?_
        rintro e w2 ⟨rfl, rfl⟩
        rw [World.size_alloc]
        go_wp2_with fail
        refine (CS.out).mono ?_
        rintro e w3 ⟨v, rfl, hrow, hb⟩
        rw [HSN.out] at hrow
        obtain ⟨A5, c5, rfl, -⟩ := strs_of_own hrow
        have HS5 := Lib.hid hrow
        have B3 := Lib.hid (B2.out.trans (hb.mono B2.out.size))
        have O3 := Lib.hid (ownsMap_keep hO.out (B3.out))
        have B4 := Lib.hid (hB.out.trans (B3.out.mono hB.out.size))
        have R3 := Lib.hid (((R0.out.alloc (.cells #[.slice A n c] 58)).kept (grown_of_below hb none) (by simp [Value.ownBlock])))
        clear hrow CS HSN B1 B2 hb R0
        have HN2 := Lib.hid HN.out.symm
        rw [← HN.out]
        have hfn : w.heap.size < w0.heap.size := hO.out.lt
        go_wp2_with fail
        generalize hB5 : ((w0.alloc (.cells #[.int .i64 (recHead n).op, .int .i64 (recHead n).n, .string (recHead n).s, .string (recHead n).t] 42)).alloc (.cells #[.slice A n c] 58)).heap.size = B5 at *
        clear hB5
        go_loopw [13, 15, 66] (fun o _ i wk => ∃ r : Nat, r ≤ n ∧ i = .int .i64 r ∧ (recHead n :: flatR (S.take r)).length ≤ 200 ∧ Hid (wk.ownsRow w0.heap.size 42 4 o (recHead n :: flatR (S.take r)).length (ndCells (recHead n :: flatR (S.take r)))) ∧ Hid (wk.ownsRow B5 9 1 (.slice A5 n c5) n (S.map fun x => Value.string x.1)) ∧ Hid (Below w0.heap.size w0 wk)) (fun _ _ i _ => n - (intOf i).toNat)
        case atStart => exact ⟨0, Nat.zero_le _, rfl, by simp [flatR], R3, Lib.hid (by have := HS5.out; rw [← HN.out] at this; exact this), B3⟩
        case round =>
          clear R3 HS5 O3
          obtain ⟨r, hr, rfl, hl2, hR, hS, hBk⟩ := hrel
          by_cases hlr : r < n
          · have hr1 : r < S.length := by omega
            obtain ⟨i, h1, h2, eS, hat⟩ := HIX.out r hr1
            obtain ⟨A6, c6, e6, hc6⟩ := strs_of_own hS.out
            injection e6 with ea _ ec
            subst ea
            obtain ⟨a, rfl, c0⟩ := hc6 r (.string S[r].1) (by rw [List.getElem?_map, List.getElem?_eq_getElem hr1]; rfl)
            clear hc6 ec
            have BW := Lib.hid (hB.out.trans (hBk.out.mono hB.out.size))
            obtain ⟨b, hb', q, hs⟩ := (HV.out.keep BW.out).at h2
            have hv := HVF.out i h2
            obtain ⟨hv2, hV2⟩ := isV_zero.1 hv
            obtain ⟨a2, ea, -⟩ := hs.at_.nd hV2.pos
            have HRN := Lib.hid hs.len
            have hrn : V[i].n ≤ 200 := by rw [hs.len]; exact hv2
            have HSL := Lib.hid hs
            have EA := Lib.hid ea
            have HROW := Lib.hid (show recHead n :: flatR (S.take (r + 1)) = ((recHead n :: flatR (S.take r)) ++ [fieldN N[i]]) ++ V[i].P by
              rw [flatR_step S r hr1, eS]; simp)
            rw [eS] at c0
            have HAT := Lib.hid hat
            have zi := HZ.out _ (List.getElem_mem h1)
            have HK := Lib.hid (show keyOf Tryz.prog 9 (.string N[i]) = some (keyL N[i]) from WideMaps.keyOf_string_mk Tryz.underlying9 zi)
            have RK := hR
            generalize hX : recHead n :: flatR (S.take r) = X at RK HROW hl2
            have hsz := hBk.out.size
            clear hX hs hv hv2 hV2 ea hR eS hat q hb'
            go_wp2_with (at_builtin; refine wpList_append_own _ rfl _ _ 25 rfl w0.heap.size 42 i0 _ 4 48 Tryz.underlying25 hi hz0 hz1 hz2 rfl (by decide) _ X.length (ndCells X) rfl (RK.out.alloc _) ⟨_, 0, none⟩ 1 1 (ndCells [fieldN N[i]]) rfl rfl (cells_new _ _ _) (ndCells_one _) ?c1 ?c2 ?c3 ?_)
            case c1 => unfold maxLen; omega
            case c2 => omega
            case c3 => first | omega | (simp; omega)
            intro v1 w6 hown hgrow _
            have B6 := Lib.hid ((hBk.out.alloc hBk.out.size _).grown hgrow (by simp; omega) (fun g hg => by have := own_base RK.out g hg; omega))
            have S6 := Lib.hid ((hS.out.alloc _).kept hgrow (by have := rows_apart hS.out RK.out (by decide); exact this))
            have O6 := Lib.hid (ownsMap_keep hO.out B6.out)
            have BW6 := Lib.hid (hB.out.trans (B6.out.mono hB.out.size))
            have OW := Lib.hid (show w6.ownsRow w0.heap.size 42 4 v1 (X ++ [fieldN N[i]]).length (ndCells (X ++ [fieldN N[i]])) by
              rw [List.length_append, ndCells_append]; exact hown)
            have h16 : (X ++ [fieldN N[i]]).length ≤ 201 := by simp; omega
            have HC6 := Lib.hid (show ∀ j u, (ndCells V[i].P)[j]? = some u → w6.cell? (a2.add j) = some u from by
              obtain ⟨b6, hb6, q6, hs6⟩ := (HV.out.keep BW6.out).at h2
              have := hs6.at_
              rw [EA.out] at this
              exact this.cells)
            have EV : V[i].v = .slice (some a2) V[i].n V[i].c := by unfold Sl.v; rw [EA.out]
            rw [EV] at HAT
            clear hown hgrow RK hS hBk HSL BW c0
            generalize hX1 : X ++ [fieldN N[i]] = X1 at OW HROW h16
            clear hX1
            have hsz6 := B6.out.size
            go_wp2_with (first | (at_lookup; refine wpList_lookup_held _ rfl _ _ 233 rfl 9 25 recKeyed Tryz.underlying233 (zero_nds _) w.heap.size k _ rfl O6.out _ _ rfl HK.out _ HAT.out ?_) | (at_builtin; refine wpList_append_own _ rfl _ _ 25 rfl w0.heap.size 42 i0 _ 4 48 Tryz.underlying25 hi hz0 hz1 hz2 rfl (by decide) _ X1.length (ndCells X1) rfl OW.out a2 V[i].n V[i].c (ndCells V[i].P) rfl (by simp [ndCells_length, HRN.out]) HC6.out (ndCells_one _) ?c1 ?c2 ?c3 ?_))
            case c1 => unfold maxLen; omega
            case c2 => omega
            case c3 => omega
            intro v2 w7 hown2 hgrow2 _
            have B7 := Lib.hid (B6.out.grown hgrow2 (by omega) (fun g hg => by have := own_base OW.out g hg; omega))
            have S7 := Lib.hid (S6.out.kept hgrow2 (rows_apart S6.out OW.out (by decide)))
            have OW2 := Lib.hid (show w7.ownsRow w0.heap.size 42 4 v2 (X1 ++ V[i].P).length (ndCells (X1 ++ V[i].P)) by
              rw [List.length_append, ndCells_append, ← HRN.out]; exact hown2)
            rw [← HROW.out] at OW2
            have BW7 := Lib.hid (hB.out.trans (B7.out.mono hB.out.size))
            have hf := HFS.out (r + 1)
            obtain ⟨A7, c7, rfl, -, -, -⟩ := nds_of_own OW2.out
            clear hown2 hgrow2 OW B6 HROW S6 O6 BW6 HC6 HAT
            by_cases h200 : 200 < (recHead n :: flatR (S.take (r + 1))).length
            · have HE := Lib.hid (show recE N L = 4 by
                rw [HRE.out, if_pos (by simp at h200; omega)])
              generalize (recHead n :: flatR (S.take (r + 1))).length = G at h200
              go_wp2_with fail
              go_ret2
              exact rec_err HE.out (by decide) BW7.out
            · have hl7 : (recHead n :: flatR (S.take (r + 1))).length ≤ 200 := by omega
              obtain ⟨G, hG⟩ : ∃ G, G = (recHead n :: flatR (S.take (r + 1))).length := ⟨_, rfl⟩
              have OW3 := OW2
              rw [← hG] at h200 OW3
              rw [← hG]
              have HG := Lib.hid hG
              clear hG
              go_wp2_with fail
              go_roundw
              case rel => exact ⟨r + 1, by omega, by go_num, hl7, by rw [HG.out]; exact OW2, S7, B7⟩
              case measure => simp [intOf]; omega
          · have HTK := Lib.hid (show S.take r = S from List.take_of_length_le (by omega))
            rw [HTK.out] at hl2 hR
            have HE := Lib.hid (show recE N L = 0 by
              rw [HRE.out, if_neg (by have := HFA.out; simp at hl2; omega)])
            obtain ⟨A8, c8, rfl, hc8, hA8, hF8⟩ := nds_of_own hR.out
            have HF8 := Lib.hid (show ∀ a, A8 = some a → w.heap.size ≤ a.block from fun a e => Nat.le_trans hB.out.size (hF8 a e))
            have NN := Lib.hid (show Ns wr A8 (recHead n :: flatR S).length c8 (recV N L) by
              rw [HRV.out HE.out, ← HN.out]
              refine ⟨rfl, hc8, by unfold maxLen; omega, hA8, ?_⟩
              intro x hx
              rcases List.mem_cons.1 hx with rfl | hx
              · exact ⟨Nat.zero_le _, Nat.zero_le _, by show _ ≤ (n : Int); omega, by show (n : Int) ≤ _; omega⟩
              · exact flatR_ok (Z := S) (fun y hy => HSZ.out y (HMEM.out y hy)) x hx)
            have BW := Lib.hid (hB.out.trans (hBk.out.mono hB.out.size))
            clear hR hS hc8 hA8 hF8
            go_wp2_with fail
            go_ret2
            exact ⟨A8, _, c8, by rw [HE.out]; rfl, NN.out, HF8.out, BW.out⟩
  · have HE := Lib.hid (show recE N (V.map Sl.P) = 1 by unfold recE; rw [if_neg (by rw [List.length_map, ← hn, ← hm]; exact hnm)])
    have e0 : (n != m) = true := by rw [bne_iff_ne]; exact hnm
    clear hnm hn hm
    go_enter Tryz.func128, Tryz.ntmps128
    go_wp2_with fail
    go_ret2
    exact rec_err (x := 1) HE.out (by decide) (Below.refl _ _)
end Go.Proofs.YtcdpoamiejompaaGreatDoor
namespace Go.Proofs.YtcdpoamiejompaaGreatDoor
open Go.RowKit Go.Extern.Stop Go.Stop Go.Extern

/-! ### Closed facts on the model's entries for internal/reflectlite, at this program's types -/
theorem valueOfT (t : Addr) (w : World) : (ReflectliteValue.unpack (.iface 109 (.pointer (some t)))).run Tryz.prog w
    = .ok (.agg #[.pointer (some ⟨2, 109, none⟩), .pointer (some ⟨w.heap.size, 0, none⟩), .int .u64 150]) (w.alloc (.cells #[.pointer (some t)] 109)) := by kernel_rfl
theorem typeT (a : Addr) (w : World) : (ReflectliteValue.methodAny (ReflectliteValue.valueError "reflectlite.Value.Type" 0) (fun t _ _ _ => ReflectliteType.toType t) #[.agg #[.pointer (some ⟨2, 109, none⟩), .pointer (some a), .int .u64 150]]).run Tryz.prog w
    = .ok (.iface 214 (.agg #[.pointer (some ⟨2, 109, none⟩)])) w := by kernel_rfl
theorem methodKind (h : Value) (w : World) : (Go.method 479 214 (.agg #[h]) "Kind").run Tryz.prog w = .ok (261, h) w := by kernel_rfl
theorem kindT (w : World) : ((ReflectliteType.abiMethod fun t => (fun a : Nat => Value.int IntKind.u8 (a : Int)) <$> Rtype.kind t) #[.pointer (some ⟨2, 109, none⟩)]).run Tryz.prog w = .ok (.int .u8 22) w := by kernel_rfl
theorem kindE (w : World) : ((ReflectliteType.abiMethod fun t => (fun a : Nat => Value.int IntKind.u8 (a : Int)) <$> Rtype.kind t) #[.pointer (some ⟨2, 39, none⟩)]).run Tryz.prog w = .ok (.int .u8 2) w := by kernel_rfl
theorem rlm (z : Sem Value) (f : TypeId → Addr → Nat → Nat → Sem Value) (v : Value) :
    ReflectliteValue.method z f #[v] = (do match ← ReflectliteValue.parts v with | none => z | some (t, a, fl) => f t a fl (fl % 32)) := rfl
theorem partsT (a : Addr) (w : World) : (ReflectliteValue.parts (.agg #[.pointer (some ⟨2, 109, none⟩), .pointer (some a), .int .u64 150])).run Tryz.prog w = .ok (some (109, a, 150)) w := by kernel_rfl
theorem isNilT (a p : Addr) (W : World) (ha : W.cell? a = some (.pointer (some p))) :
    (ReflectliteValue.method (ReflectliteValue.valueError "reflectlite.Value.IsNil" 0) ReflectliteValue.isNil #[.agg #[.pointer (some ⟨2, 109, none⟩), .pointer (some a), .int .u64 150]]).run Tryz.prog W = .ok (.bool false) W := by
  rw [rlm]
  simp only [Sem.run_bind, partsT, Result.andThen]
  simp [ReflectliteValue.isNil, loadVar, isAgg, underlying, Tryz.underlying109, ha, Result.andThen]
theorem methodElem (h : Value) (w : World) : (Go.method 479 214 (.agg #[h]) "Elem").run Tryz.prog w = .ok (271, .agg #[h]) w := by kernel_rfl
theorem methodImplements (h : Value) (w : World) : (Go.method 479 214 (.agg #[h]) "Implements").run Tryz.prog w = .ok (272, .agg #[h]) w := by kernel_rfl
theorem methodAssignableTo (h : Value) (w : World) : (Go.method 479 214 (.agg #[h]) "AssignableTo").run Tryz.prog w = .ok (269, .agg #[h]) w := by kernel_rfl
theorem elemT (w : World) : (ReflectliteType.method ReflectliteType.elem #[.agg #[.pointer (some ⟨2, 109, none⟩)]]).run Tryz.prog w = .ok (.iface 214 (.agg #[.pointer (some ⟨2, 39, none⟩)])) w := by kernel_rfl
theorem implementsE (w : World) : (ReflectliteType.relation "Implements" ReflectliteType.implements_ #[.agg #[.pointer (some ⟨2, 39, none⟩)], .iface 214 (.agg #[.pointer (some ⟨2, 30, none⟩)])]).run Tryz.prog w = .ok (.bool true) w := by kernel_rfl
theorem typeOfE (v : Value) (w : World) : (ReflectliteType.typeOf #[.iface 39 v]).run Tryz.prog w = .ok (.iface 214 (.agg #[.pointer (some ⟨2, 39, none⟩)])) w := by kernel_rfl
theorem assignableE (w : World) : (ReflectliteType.relation "AssignableTo" ReflectliteType.assignableTo #[.agg #[.pointer (some ⟨2, 39, none⟩)], .iface 214 (.agg #[.pointer (some ⟨2, 39, none⟩)])]).run Tryz.prog w = .ok (.bool true) w := by kernel_rfl
theorem valueOfE (n : Int) (w : World) : (ReflectliteValue.unpack (.iface 39 (.int .i64 n))).run Tryz.prog w
    = .ok (.agg #[.pointer (some ⟨2, 39, none⟩), .pointer (some ⟨w.heap.size, 0, none⟩), .int .u64 130]) (w.alloc (.cells #[.int .i64 n] 39)) := by kernel_rfl
theorem elemOfT (w : World) : (Rtype.elem? 109).run Tryz.prog w = .ok (some 39) w := by kernel_rfl
theorem mkE (p : Addr) (w : World) : (ReflectliteValue.mk 39 p ReflectliteValue.flagAddr).run Tryz.prog w = .ok (.agg #[.pointer (some ⟨2, 39, none⟩), .pointer (some p), .int .u64 386]) w := by kernel_rfl
theorem elemVT (a p : Addr) (W : World) (ha : W.cell? a = some (.pointer (some p))) :
    (ReflectliteValue.method (ReflectliteValue.valueError "reflectlite.Value.Elem" 0) ReflectliteValue.elem #[.agg #[.pointer (some ⟨2, 109, none⟩), .pointer (some a), .int .u64 150]]).run Tryz.prog W
      = .ok (.agg #[.pointer (some ⟨2, 39, none⟩), .pointer (some p), .int .u64 386]) W := by
  rw [rlm]
  simp only [Sem.run_bind, partsT, Result.andThen]
  simp [ReflectliteValue.elem, loadVar, isAgg, underlying, Tryz.underlying109, ha, Result.andThen, elemOfT, mkE]
theorem rls (v x : Value) : ReflectliteValue.set #[v, x] = (do
    let (some (dst, a, fl), some (src, b, _)) := (← ReflectliteValue.parts v, ← ReflectliteValue.parts x)
      | unsupported (.noEntry "extern/(internal/reflectlite.Value).Set.zeroValue")
    if fl / ReflectliteValue.flagAddr % 2 == 0 then unsupported (.noEntry "extern/(internal/reflectlite.Value).Set.unaddressable")
    let val ← loadVar src b
    if ← Rtype.directlyAssignable dst src then storeVar dst a val
    else if ← Rtype.implements dst src then
      if (← Rtype.kind src) == 20 then
        match val with
        | .nilIface => unsupported (.noEntry "extern/reflectlite: a nil value of one interface type handed on as a value of another")
        | _ => storeVar dst a val
      else storeVar dst a (.iface src val)
    else panicString ("reflectlite.Set: value of type " ++ (← Rtype.spelt src) ++ " is not assignable to type " ++ (← Rtype.spelt dst))
    pure (.tuple #[])) := rfl
theorem partsEa (a : Addr) (w : World) : (ReflectliteValue.parts (.agg #[.pointer (some ⟨2, 39, none⟩), .pointer (some a), .int .u64 386])).run Tryz.prog w = .ok (some (39, a, 386)) w := by kernel_rfl
theorem partsE (a : Addr) (w : World) : (ReflectliteValue.parts (.agg #[.pointer (some ⟨2, 39, none⟩), .pointer (some a), .int .u64 130])).run Tryz.prog w = .ok (some (39, a, 130)) w := by kernel_rfl
theorem directE (w : World) : (Rtype.directlyAssignable 39 39).run Tryz.prog w = .ok true w := by kernel_rfl
theorem setE (ta b : Addr) (n : Int) (old : Value) (W : World) (hb : W.cell? b = some (.int .i64 n)) (ht : W.cell? ta = some old) (hf : W.frozen? ta = false) :
    (ReflectliteValue.set #[.agg #[.pointer (some ⟨2, 39, none⟩), .pointer (some ta), .int .u64 386], .agg #[.pointer (some ⟨2, 39, none⟩), .pointer (some b), .int .u64 130]]).run Tryz.prog W
      = .ok (.tuple #[]) (W.setCell ta (.int .i64 n)) := by
  rw [rls]
  simp only [Sem.run_bind, partsEa, partsE, Result.andThen]
  simp [ReflectliteValue.flagAddr, loadVar, isAgg, underlying, Tryz.underlying39, hb, Result.andThen, directE, storeVar, Value.cells, storeCells, Addr.add]
  rw [run_store Tryz.prog W ta _ _ (by rfl)]
  simp [ht, hf]

set_option maxHeartbeats 4000000 in
theorem as_hit (n : Int) (t : Addr) (old : Value) (w : World) (hg : w.cell? ⟨0, 0, none⟩ = some (.iface 214 (.agg #[.pointer (some ⟨2, 30, none⟩)]))) (ht0 : w.cell? t = some old) (hf0 : w.frozen? t = false) :
    Calls Tryz.prog 65 #[.iface 39 (.int .i64 n), .iface 109 (.pointer (some t))] w fun ev w' => ev = .returned (.bool true) ∧ w' = (((((w.alloc (.cells #[.pointer (some t)] 109)).alloc (.cells #[.pointer (some ⟨2, 109, none⟩), .pointer (some ⟨w.heap.size, 0, none⟩), .int .u64 150] 150)).alloc (.cells #[.pointer (some ⟨2, 109, none⟩), .pointer (some ⟨w.heap.size, 0, none⟩), .int .u64 150] 150)).alloc (.cells #[.int .i64 n] 39)).setCell t (.int .i64 n)) := by
  have h6 := @run_callFunc_extern Tryz.prog 107 _ (fun args => ReflectliteValue.unpack (args.getD 0 (.tuple #[]))) Tryz.func107 (by kernel_rfl) (by kernel_rfl) (by kernel_rfl) (by kernel_rfl)
  have h7 := @run_callFunc_extern Tryz.prog 108 _ (ReflectliteValue.methodAny (ReflectliteValue.valueError "reflectlite.Value.Type" 0) (fun t _ _ _ => ReflectliteType.toType t)) Tryz.func108 (by kernel_rfl) (by kernel_rfl) (by kernel_rfl) (by kernel_rfl)
  have h8 := @run_callFunc_extern Tryz.prog 109 _ (ReflectliteValue.method (ReflectliteValue.valueError "reflectlite.Value.IsNil" 0) ReflectliteValue.isNil) Tryz.func109 (by kernel_rfl) (by kernel_rfl) (by kernel_rfl) (by kernel_rfl)
  have h27 := @run_callFunc_extern Tryz.prog 261 _ (ReflectliteType.abiMethod fun t => do pure (.int .u8 (← Rtype.kind t))) Tryz.func261 (by kernel_rfl) (by kernel_rfl) (by kernel_rfl) (by kernel_rfl)
  have h37 := @run_callFunc_extern Tryz.prog 271 _ (ReflectliteType.method ReflectliteType.elem) Tryz.func271 (by kernel_rfl) (by kernel_rfl) (by kernel_rfl) (by kernel_rfl)
  have h38 := @run_callFunc_extern Tryz.prog 272 _ (ReflectliteType.relation "Implements" ReflectliteType.implements_) Tryz.func272 (by kernel_rfl) (by kernel_rfl) (by kernel_rfl) (by kernel_rfl)
  have h10 := @run_callFunc_extern Tryz.prog 150 _ (ReflectliteType.typeOf) Tryz.func150 (by kernel_rfl) (by kernel_rfl) (by kernel_rfl) (by kernel_rfl)
  have h35 := @run_callFunc_extern Tryz.prog 269 _ (ReflectliteType.relation "AssignableTo" ReflectliteType.assignableTo) Tryz.func269 (by kernel_rfl) (by kernel_rfl) (by kernel_rfl) (by kernel_rfl)
  have h11 := @run_callFunc_extern Tryz.prog 151 _ (ReflectliteValue.method (ReflectliteValue.valueError "reflectlite.Value.Elem" 0) ReflectliteValue.elem) Tryz.func151 (by kernel_rfl) (by kernel_rfl) (by kernel_rfl) (by kernel_rfl)
  have h12 := @run_callFunc_extern Tryz.prog 152 _ (ReflectliteValue.set) Tryz.func152 (by kernel_rfl) (by kernel_rfl) (by kernel_rfl) (by kernel_rfl)
  have tO := typeOfE
  have mA := methodAssignableTo
  have a25 := assignableE
  have v25 := valueOfE
  have f6 := valueOfT
  have f7 := typeT
  have mK := methodKind
  have mE := methodElem
  have mI := methodImplements
  have k27 := kindT
  have k25 := kindE
  have e27 := elemT
  have i25 := implementsE
  have n8 := isNilT ⟨w.heap.size, 0, none⟩ t ((w.alloc (.cells #[.pointer (some t)] 109)).alloc (.cells #[.pointer (some ⟨2, 109, none⟩), .pointer (some ⟨w.heap.size, 0, none⟩), .int .u64 150] 150)) (by simp)
  have hlt : 0 < w.heap.size := by
    rcases Nat.eq_zero_or_pos w.heap.size with h0 | h
    · simp [World.cell?, h0] at hg
    · exact h
  have hg2 : ((w.alloc (.cells #[.pointer (some t)] 109)).alloc (.cells #[.pointer (some ⟨2, 109, none⟩), .pointer (some ⟨w.heap.size, 0, none⟩), .int .u64 150] 150)).cell? ⟨0, 0, none⟩ = some (.iface 214 (.agg #[.pointer (some ⟨2, 30, none⟩)])) := by
    rw [World.cell?_alloc_lt _ _ ⟨0, 0, none⟩ (by simp), World.cell?_alloc_lt _ _ ⟨0, 0, none⟩ hlt]; exact hg
  have htl : t.block < w.heap.size := by
    rcases Nat.lt_or_ge t.block w.heap.size with h | h
    · exact h
    · simp [World.cell?, Array.getElem?_eq_none h] at ht0
  have el := elemVT ⟨w.heap.size, 0, none⟩ t (((w.alloc (.cells #[.pointer (some t)] 109)).alloc (.cells #[.pointer (some ⟨2, 109, none⟩), .pointer (some ⟨w.heap.size, 0, none⟩), .int .u64 150] 150)).alloc (.cells #[.pointer (some ⟨2, 109, none⟩), .pointer (some ⟨w.heap.size, 0, none⟩), .int .u64 150] 150)) (by rw [World.cell?_alloc_lt _ _ ⟨w.heap.size, 0, none⟩ (by simp; omega)]; simp)
  have st := setE t ⟨w.heap.size + 1 + 1 + 1, 0, none⟩ n old ((((w.alloc (.cells #[.pointer (some t)] 109)).alloc (.cells #[.pointer (some ⟨2, 109, none⟩), .pointer (some ⟨w.heap.size, 0, none⟩), .int .u64 150] 150)).alloc (.cells #[.pointer (some ⟨2, 109, none⟩), .pointer (some ⟨w.heap.size, 0, none⟩), .int .u64 150] 150)).alloc (.cells #[.int .i64 n] 39))
    (by rw [World.cell?_alloc_at _ _ _ _ (by simp)]; rfl)
    (by rw [World.cell?_alloc_lt _ _ t (by simp; omega), World.cell?_alloc_lt _ _ t (by simp; omega), World.cell?_alloc_lt _ _ t (by simp; omega), World.cell?_alloc_lt _ _ t htl]; exact ht0)
    (by rw [World.frozen?_alloc_old _ _ t (by simp; omega), World.frozen?_alloc_old _ _ t (by simp; omega), World.frozen?_alloc_old _ _ t (by simp; omega), World.frozen?_alloc_old _ _ t (Nat.ne_of_lt htl)]; exact hf0)
  go_enter Tryz.func65, Tryz.ntmps65
  go_wp2
  refine wp_loop_rounds 1 ?_
  rw [rounds_succ]
  go_wp2
  go_ret
  exact ⟨rfl, rfl⟩
end Go.Proofs.YtcdpoamiejompaaGreatDoor
namespace Go.Proofs.YtcdpoamiejompaaGreatDoor
open Go.RowKit

/-- The one package-level variable that errors.As reads, as the program's text lays it. -/
def Door (w : World) : Prop := w.cell? ⟨0, 0, none⟩ = some (.iface 214 (.agg #[.pointer (some ⟨2, 30, none⟩)]))
theorem Door.keep {w w' : World} (h : Door w) (hb : Below w.heap.size w w') : Door w' := cell_keep hb h
theorem Door.pos {w : World} (h : Door w) : 0 < w.heap.size := block_lt_of_cell h
theorem Door.alloc {w : World} (h : Door w) (o : Obj) : Door (w.alloc o) := h.keep ((Below.refl _ _).alloc (Nat.le_refl _) _)
theorem Door.drewN {w : World} (h : Door w) (n : Nat) : Door (w.drewN n) := h
theorem Door.drew {w : World} (h : Door w) : Door w.drew := h

theorem Told_nil (w : World) : Calls Tryz.prog 43 #[.nilIface] w fun e w' => e = .returned (.int .i64 0) ∧ Below w.heap.size w w' := by
  go_enter Tryz.func43, Tryz.ntmps43
  go_wp2
  go_ret
  exact ⟨rfl, Below.refl _ _⟩

set_option maxHeartbeats 1000000 in
theorem Told_err (n : Int) (w : World) (hg : Door w) : Calls Tryz.prog 43 #[.iface 39 (.int .i64 n)] w fun e w' => e = .returned (.int .i64 n) ∧ Below w.heap.size w w' := by
  have h1 := hg.alloc (.cells #[.int .i64 0] 39)
  have c1 := as_hit n ⟨w.heap.size, 0, none⟩ (.int .i64 0) (w.alloc (.cells #[.int .i64 0] 39)) h1 (by simp) (by simp)
  have C1 := Lib.hid c1
  clear c1 h1
  go_enter Tryz.func43, Tryz.ntmps43
  go_wp2_with (go_at_call 65; refine C1.out.mono ?_; rintro e w' ⟨rfl, rfl⟩)
  go_ret
  refine ⟨rfl, ?_⟩
  exact (by (repeat' (first | exact Below.refl _ _ | refine Below.alloc ?_ ?_ _ | refine Below.setCell ?_ ?_ _ | refine Below.drew ?_ | refine Below.drewN ?_ _)) <;> (try simp) <;> omega)

theorem plain_Told (n : Int) (w : World) (hg : Door w) : Calls Tryz.prog 43 #[errV n] w fun e w' => e = .returned (.int .i64 n) ∧ Below w.heap.size w w' := by
  by_cases h : n = 0
  · subst h; exact Told_nil w
  · rw [errV_ne h]; exact Told_err n w hg

theorem same_Error (n k : Int) (w : World) (hg : Door w) : Calls Tryz.prog 22 #[errV n, .int .i64 k] w fun e w' => e = .returned (.bool (n == k)) ∧ Below w.heap.size w w' := by
  have C1 := Lib.hid (plain_Told n w hg)
  go_enter Tryz.func22, Tryz.ntmps22
  go_wp2_with (go_at_call 43; refine C1.out.mono ?_; rintro e w' ⟨rfl, hb⟩)
  go_ret
  exact ⟨rfl, hb⟩

theorem same_Told (n k : Int) (w : World) (hg : Door w) : Calls Tryz.prog 50 #[errV n, errV k] w fun e w' => e = .returned (.bool (n == k)) ∧ Below w.heap.size w w' := by
  have C1 := Lib.hid (plain_Told n w hg)
  have C2 := Lib.hid (fun w1 hb => plain_Told k w1 (hg.keep (w' := w1) hb))
  go_enter Tryz.func50, Tryz.ntmps50
  go_wp2_with fail
  refine C1.out.mono ?_
  rintro e w1 ⟨rfl, hb⟩
  go_wp2_with fail
  refine (C2.out w1 hb).mono ?_
  rintro e w2 ⟨rfl, hb2⟩
  go_wp2
  go_ret
  exact ⟨rfl, hb.trans (hb2.mono hb.size)⟩
end Go.Proofs.YtcdpoamiejompaaGreatDoor
namespace Go.Proofs.YtcdpoamiejompaaGreatDoor
open Go.RowKit Go.Wk Go.Sort
set_option maxRecDepth 100000

/-- What is evaluated: a store, a request, an expression, and where they lie. -/
structure Cx where
  EA : Option Addr
  en : Nat
  ec : Nat
  E : List En
  q : Rq
  A : Option Addr
  n : Nat
  c : Nat
  P : List Nd
def Cx.env (k : Cx) : Env := ⟨k.E, k.q.who, k.q.act, k.q.what, k.q.P⟩
structure CxOk (w : World) (k : Cx) : Prop where
  es : Es w k.EA k.en k.ec k.E
  rq : RqOk w k.q
  ns : Ns w k.A k.n k.c k.P
  door : Door w
  ok : EnvOk k.env
theorem CxOk.keep {w w' : World} {k : Cx} (h : CxOk w k) (hb : Below w.heap.size w w') : CxOk w' k := ⟨h.es.keep hb, h.rq.keep hb, h.ns.keep hb, h.door.keep hb, h.ok⟩
def Cx.row (k : Cx) (p : Int) : Array Value := #[.slice k.EA k.en k.ec, .string k.q.who.1, .string k.q.who.2, .string k.q.act.1, .string k.q.act.2, .string k.q.what.1, .string k.q.what.2, .slice k.q.NA k.q.nn k.q.nc, .slice k.A k.n k.c, .int .i64 p]
/-- The evaluation in block R, at place p; what it stands on lies in the world W. -/
structure EvAt (W w : World) (R : Nat) (k : Cx) (p : Int) : Prop where
  base : Below W.heap.size W w
  hi : W.heap.size ≤ R
  ok : CxOk W k
  row : ∃ t, w.heap[R]? = some (.cells (k.row p) t (0, 0))
section
variable {W w w' : World} {R : Nat} {k : Cx} {p : Int}
theorem EvAt.cx (h : EvAt W w R k p) : CxOk w k := h.ok.keep h.base
theorem EvAt.cell (h : EvAt W w R k p) {j : Nat} {v : Value} (hj : (k.row p)[j]? = some v) : w.cell? ⟨R, j, none⟩ = some v := by
  obtain ⟨t, e⟩ := h.row
  exact cell_row e hj
theorem EvAt.c0 (h : EvAt W w R k p) : w.cell? ⟨R, 0, none⟩ = some (.slice k.EA k.en k.ec) := h.cell rfl
theorem EvAt.c1 (h : EvAt W w R k p) : w.cell? ⟨R, 1, none⟩ = some (.string k.q.who.1) := h.cell rfl
theorem EvAt.c2 (h : EvAt W w R k p) : w.cell? ⟨R, 2, none⟩ = some (.string k.q.who.2) := h.cell rfl
theorem EvAt.c3 (h : EvAt W w R k p) : w.cell? ⟨R, 3, none⟩ = some (.string k.q.act.1) := h.cell rfl
theorem EvAt.c4 (h : EvAt W w R k p) : w.cell? ⟨R, 4, none⟩ = some (.string k.q.act.2) := h.cell rfl
theorem EvAt.c5 (h : EvAt W w R k p) : w.cell? ⟨R, 5, none⟩ = some (.string k.q.what.1) := h.cell rfl
theorem EvAt.c6 (h : EvAt W w R k p) : w.cell? ⟨R, 6, none⟩ = some (.string k.q.what.2) := h.cell rfl
theorem EvAt.c7 (h : EvAt W w R k p) : w.cell? ⟨R, 7, none⟩ = some (.slice k.q.NA k.q.nn k.q.nc) := h.cell rfl
theorem EvAt.c8 (h : EvAt W w R k p) : w.cell? ⟨R, 8, none⟩ = some (.slice k.A k.n k.c) := h.cell rfl
theorem EvAt.c9 (h : EvAt W w R k p) : w.cell? ⟨R, 9, none⟩ = some (.int .i64 p) := h.cell rfl
theorem EvAt.lt (h : EvAt W w R k p) : R < w.heap.size := block_lt_of_cell h.c9
theorem EvAt.z (h : EvAt W w R k p) (j : Nat) : w.frozen? ⟨R, j, none⟩ = false := by
  obtain ⟨t, e⟩ := h.row
  unfold World.frozen?
  rw [e]
  simp
theorem EvAt.keep (h : EvAt W w R k p) (hb : Below w.heap.size w w') : EvAt W w' R k p := by
  obtain ⟨t, e⟩ := h.row
  exact ⟨h.base.trans (hb.mono h.base.size), h.hi, h.ok, t, (hb.block R h.lt).trans e⟩
theorem EvAt.put (h : EvAt W w R k p) (q : Int) : EvAt W (w.setCell ⟨R, 9, none⟩ (.int .i64 q)) R k q := by
  obtain ⟨b, hi, ok, t, e⟩ := h
  refine ⟨b.setCell (p := ⟨R, 9, none⟩) hi _, hi, ok, t, ?_⟩
  simp only [World.setCell]
  rw [Array.getElem?_modify]
  simp [e, Cx.row]
theorem EvAt.fork (h : EvAt W w R k p) {A : Option Addr} {n c : Nat} {V : List Nd} (hv : Ns w A n c V) (h0 : 0 < V.length) : ∀ a, A = some a → a.block ≠ R := by
  intro a ha hR
  subst ha
  obtain ⟨b, hb, q1, q2, -, -⟩ := hv.at_ 0 V[0] (List.getElem?_eq_getElem h0)
  injection hb with hb
  subst hb
  rw [show a.add (0 * 4) = a from rfl] at q1 q2
  obtain ⟨t, e⟩ := h.row
  obtain ⟨blk, off, spot⟩ := a
  simp only at hR
  subst hR
  unfold World.cell? at q1 q2
  simp only [e] at q1 q2
  split at q1
  · cases q1
  · unfold Cx.row at q1 q2
    rcases off with _ | _ | _ | _ | _ | _ | _ | _ | _ | _ | off <;> simp at q1 q2
theorem EvAt.ns (h : EvAt W w R k p) {A : Option Addr} {n c : Nat} {V : List Nd} (hv : Ns w A n c V) (hg : w.grownBy w' (some R)) : Ns w' A n c V := hv.but hg fun h0 a e => h.fork hv h0 a e
end
abbrev tellE (k : Int) : List PanicEntry := [{ v := .iface 39 (.int .i64 k), recovered := false }]
/-- What a part of an evaluation tells that leaves it where it is. -/
def TellPost (w : World) (r : Res) (e : Ending) (w' : World) : Prop :=
  Below w.heap.size w w' ∧ match r with
    | .error x => e = .panicked (tellE x)
    | .ok V => ∃ A n c, e = .returned (.slice A n c) ∧ Ns w' A n c V ∧ (∀ a, A = some a → w.heap.size ≤ a.block)
/-- What a part of an evaluation tells that goes on to q. -/
def EvPost (W w : World) (R : Nat) (k : Cx) (q : Int) (r : Res) (e : Ending) (w' : World) : Prop :=
  w.grownBy w' (some R) ∧ match r with
    | .error x => e = .panicked (tellE x)
    | .ok V => (∃ A n c, e = .returned (.slice A n c) ∧ Ns w' A n c V ∧ (∀ a, A = some a → a.block < W.heap.size ∨ w.heap.size ≤ a.block)) ∧ EvAt W w' R k q
/-- The contract of next, for expressions of at most N nodes. -/
def NextC (W : World) (R : Nat) (k : Cx) (N : Nat) : Prop :=
  ∀ (x : Ex) (p : Nat) (w : World), EvAt W w R k (p : Int) → XAt k.P p false x → x.flat.length ≤ N →
    Calls Tryz.prog 32 #[.pointer (some ⟨R, 0, none⟩)] w (EvPost W w R k ((p + x.flat.length : Nat) : Int) (evX k.env x))
end Go.Proofs.YtcdpoamiejompaaGreatDoor
namespace Go.Proofs.YtcdpoamiejompaaGreatDoor
open Go.RowKit Go.Wk Go.Sort
set_option maxRecDepth 100000

theorem ns_hd {w : World} {A : Option Addr} {n c : Nat} {V : List Nd} (h : Ns w A n c V) (h0 : 0 < V.length) : ∃ a, A = some a ∧ 1 ≤ n ∧ Nd4 w a (hdN V) ∧ NdOk (hdN V) ∧ headOp V = (hdN V).op := by
  obtain ⟨a, ha, D⟩ := h.at_.nd h0
  rw [show a.add (0 * 4) = a from rfl] at D
  have e : hdN V = V[0] := by
    cases V with
    | nil => simp at h0
    | cons x r => rfl
  refine ⟨a, ha, by rw [h.len]; exact h0, by rw [e]; exact D, by rw [e]; exact h.ok.at h0, ?_⟩
  rw [e]
  exact headOp_at h0
theorem eval_is (A : Option Addr) (n c : Nat) (V : List Nd) (o : Int) (w : World) (h : Ns w A n c V) (h0 : 0 < V.length) :
    Calls Tryz.prog 126 #[.slice A n c, .int .i64 o] w fun e w' => e = .returned (.bool (headOp V == o)) ∧ Below w.heap.size w w' := by
  obtain ⟨a, rfl, hn1, D, -, e⟩ := ns_hd h h0
  have d0 := D.c0
  rw [e]
  have hn : (0 : Int) < (n : Int) := by omega
  generalize hdN V = x at *
  clear h D e
  go_enter Tryz.func126, Tryz.ntmps126
  go_wp2_with fail
  go_ret
  exact ⟨rfl, Below.refl _ _⟩
theorem eval_must (A : Option Addr) (n c : Nat) (V : List Nd) (o : Int) (w : World) (h : Ns w A n c V) (h0 : 0 < V.length) :
    Calls Tryz.prog 82 #[.slice A n c, .int .i64 o] w fun e w' => e = (if headOp V = o then .returned (.slice A n c) else .panicked (tellE 2)) ∧ Below w.heap.size w w' := by
  have K := Lib.hid (eval_is A n c V o w h h0)
  clear h h0
  by_cases g : headOp V = o
  · rw [if_pos g]
    have f1 : (headOp V == o) = true := beq_iff_eq.2 g
    rw [f1] at K
    clear f1 g
    go_enter Tryz.func82, Tryz.ntmps82
    go_wp2_with fail
    refine K.out.mono ?_
    rintro e w1 ⟨rfl, b1⟩
    have B1 := Lib.hid b1
    clear b1 K
    go_wp2_with fail
    go_ret
    exact ⟨rfl, B1.out⟩
  · rw [if_neg g]
    have f1 : (headOp V == o) = false := beq_eq_false_iff_ne.2 g
    rw [f1] at K
    clear f1 g
    go_enter Tryz.func82, Tryz.ntmps82
    go_wp2_with fail
    refine K.out.mono ?_
    rintro e w1 ⟨rfl, b1⟩
    have B1 := Lib.hid b1
    clear b1 K
    go_wp2_with fail
    exact ⟨rfl, rfl, B1.out⟩
theorem TellPost.up {w w1 w2 : World} {r : Res} {e : Ending} (h : TellPost w1 r e w2) (hb : Below w.heap.size w w1) : TellPost w r e w2 := by
  refine ⟨hb.trans (h.1.mono hb.size), ?_⟩
  cases r with
  | error x => exact h.2
  | ok V =>
    obtain ⟨A, n, c, he, hN, hF⟩ := h.2
    exact ⟨A, n, c, he, hN, fun a ha => Nat.le_trans hb.size (hF a ha)⟩
theorem tell_bad {w w1 : World} {k : Int} (hb : Below w.heap.size w w1) : TellPost w (.error k) (.panicked (tellE k)) w1 := ⟨hb, rfl⟩
theorem valFault_pos {V : List Nd} (h : valFault V = 0) : 0 < V.length := (isV_zero.1 h).2.pos
theorem lit_tell (w : World) (x : Nd) (hx : NdOk x) : TellPost w (.ok [x]) (.returned (.slice (some ⟨w.heap.size, 0, none⟩) 1 1)) (w.alloc (.cells #[.int .i64 x.op, .int .i64 x.n, .string x.s, .string x.t] 42)) :=
  ⟨below_box w _, some ⟨w.heap.size, 0, none⟩, 1, 1, rfl, nd_lit w x hx, fun a e => by injection e with e; subst e; exact Nat.le_refl _⟩
theorem numV_i64 (op a b : Int) : I64 (numV op a b) := by
  unfold numV
  split
  · split
    · rename_i h
      unfold fits at h
      simpa [I64] using h
    · unfold I64; omega
  · unfold I64; omega
theorem nd_plain (o n : Int) (h : I64 n) : NdOk ⟨o, n, emp, emp⟩ := ⟨Nat.zero_le _, Nat.zero_le _, h.1, h.2⟩
theorem eval_truth (b : Bool) (w : World) : Calls Tryz.prog 85 #[.bool b] w (TellPost w (.ok (truthN b))) := by
  have T := Lib.hid (lit_tell w ⟨1, if b then 1 else 0, emp, emp⟩ (nd_plain _ _ (by cases b <;> (unfold I64; decide))))
  rcases b with _ | _
  · go_enter Tryz.func85, Tryz.ntmps85
    go_wp2_with fail
    go_ret
    exact T.out
  · go_enter Tryz.func85, Tryz.ntmps85
    go_wp2_with fail
    go_ret
    exact T.out
theorem eval_entity (u : Ud) (w : World) (h1 : u.1.size ≤ maxLen) (h2 : u.2.size ≤ maxLen) : Calls Tryz.prog 81 #[.agg #[.string u.1, .string u.2]] w (TellPost w (.ok (entN u))) := by
  obtain ⟨s, t⟩ := u
  have T := Lib.hid ((lit_tell (w.alloc (.cells #[.string s, .string t] 24)) ⟨4, 0, s, t⟩ ⟨h1, h2, (show -9223372036854775808 ≤ (0 : Int) by decide), (show (0 : Int) ≤ 9223372036854775807 by decide)⟩).up (below_box w _))
  rw [World.size_alloc] at T
  clear h1 h2
  go_enter Tryz.func81, Tryz.ntmps81
  go_wp2_with fail
  go_ret
  exact T.out
theorem eval_uid (A : Option Addr) (n c : Nat) (V : List Nd) (w : World) (h : Ns w A n c V) (h0 : 0 < V.length) :
    Calls Tryz.prog 132 #[.slice A n c] w fun e w' => e = .returned (udV (uidN V)) ∧ Below w.heap.size w w' := by
  obtain ⟨a, rfl, hn1, ⟨d0, d1, d2, d3⟩, -, e⟩ := ns_hd h h0
  have hn : (0 : Int) < (n : Int) := by omega
  unfold uidN udV
  generalize hdN V = x at *
  clear h e
  have B0 := below_box w (.cells #[.string ⟨#[]⟩, .string ⟨#[]⟩] 24)
  have hn0 : 0 < n := hn1
  obtain ⟨w0, hw0⟩ : ∃ w0, w.alloc (.cells #[.string ⟨#[]⟩, .string ⟨#[]⟩] 24) = w0 := ⟨_, rfl⟩
  have V0 := vr2_new w (.string ⟨#[]⟩) (.string ⟨#[]⟩) 24
  rw [hw0] at B0 V0
  have e2 : (⟨w0.heap, w0.tape, w0.drawn + 1, w0.os, w0.output⟩ : World).cell? ⟨a.block, a.off + 2, none⟩ = some (.string x.s) := cell_keep B0 d2
  have e3 : (⟨w0.heap, w0.tape, w0.drawn + 1, w0.os, w0.output⟩ : World).cell? ⟨a.block, a.off + 3, none⟩ = some (.string x.t) := cell_keep B0 d3
  go_enter Tryz.func132, Tryz.ntmps132
  go_wp2_with fail
  have g2 := cell_keep B0 d2
  have g3 := cell_keep B0 d3
  clear e2 e3
  obtain ⟨v0, v1, z0, z1⟩ := V0
  have hl : w.heap.size < w0.heap.size := block_lt_of_cell v0
  have hab : a.block < w.heap.size := block_lt_of_cell d0
  have k2 : ((w0.setCell ⟨w.heap.size, 0, none⟩ (.string x.s)).setCell ⟨w.heap.size, 1, none⟩ (.string x.t)).drew.cell? ⟨a.block, a.off + 2, none⟩ = some (.string x.s) :=
    (World.cell?_setCell_other _ _ _ _ (by intro e; injection e with e; omega)).trans ((World.cell?_setCell_other _ _ _ _ (by intro e; injection e with e; omega)).trans g2)
  have k3 : ((w0.setCell ⟨w.heap.size, 0, none⟩ (.string x.s)).setCell ⟨w.heap.size, 1, none⟩ (.string x.t)).drew.cell? ⟨a.block, a.off + 3, none⟩ = some (.string x.t) :=
    (World.cell?_setCell_other _ _ _ _ (by intro e; injection e with e; omega)).trans ((World.cell?_setCell_other _ _ _ _ (by intro e; injection e with e; omega)).trans g3)
  go_region_held3 (fun w' : World => w'.cell? ⟨a.block, a.off + 2, none⟩ = some (.string x.s) ∧ w'.cell? ⟨a.block, a.off + 3, none⟩ = some (.string x.t)) (first | exact ⟨g2, g3⟩ | exact ⟨k2, k3⟩) (fail)
  have u1 : ((w0.setCell ⟨w.heap.size, 0, none⟩ (.string x.s)).setCell ⟨w.heap.size, 1, none⟩ (.string x.t)).drew.cell? ⟨w.heap.size, 1, none⟩ = some (.string x.t) :=
    World.cell?_setCell_same _ _ _ ((World.cell?_setCell_other w0 ⟨w.heap.size, 0, none⟩ ⟨w.heap.size, 1, none⟩ _ (by intro e; injection e with _ e; cases e)).trans v1)
  have u0 : ((w0.setCell ⟨w.heap.size, 0, none⟩ (.string x.s)).setCell ⟨w.heap.size, 1, none⟩ (.string x.t)).drew.cell? ⟨w.heap.size, 0, none⟩ = some (.string x.s) :=
    (World.cell?_setCell_other _ _ _ _ (by intro e; injection e with _ e; cases e)).trans (World.cell?_setCell_same w0 _ _ v0)
  have B1 : Below w.heap.size w ((w0.setCell ⟨w.heap.size, 0, none⟩ (.string x.s)).setCell ⟨w.heap.size, 1, none⟩ (.string x.t)).drew := ((B0.setCell (p := ⟨w.heap.size, 0, none⟩) (Nat.le_refl _) _).setCell (p := ⟨w.heap.size, 1, none⟩) (Nat.le_refl _) _).drew
  generalize ((w0.setCell ⟨w.heap.size, 0, none⟩ (.string x.s)).setCell ⟨w.heap.size, 1, none⟩ (.string x.t)).drew = w2 at *
  go_wp2_with fail
  exact ⟨rfl, .agg #[.string x.s, .string x.t], by simp [results, Tryz.results132, go_sem, u0, u1], rfl, B1⟩
theorem as_nil (v : Value) (w : World) : Calls Tryz.prog 65 #[.nilIface, v] w fun e w' => e = .returned (.bool false) ∧ w' = w := by
  go_enter Tryz.func65, Tryz.ntmps65
  go_wp2_with fail
  go_ret
  exact ⟨rfl, rfl⟩
theorem toldInt_err (v : Value) (n : Int) (w : World) (hg : Door w) : Calls Tryz.prog 86 #[v, .iface 39 (.int .i64 n)] w fun e w' => e = .panicked (tellE n) ∧ Below w.heap.size w w' := by
  have h1 := hg.alloc (.cells #[.int .i64 0] 39)
  have c1 := as_hit n ⟨w.heap.size, 0, none⟩ (.int .i64 0) (w.alloc (.cells #[.int .i64 0] 39)) h1 (by simp) (by simp)
  have C1 := Lib.hid c1
  clear c1 h1
  go_enter Tryz.func86, Tryz.ntmps86
  go_wp2_with (go_at_call 65; refine C1.out.mono ?_; rintro e w' ⟨rfl, rfl⟩)
  exact ⟨rfl, rfl, (by (repeat' (first | exact Below.refl _ _ | refine Below.alloc ?_ ?_ _ | refine Below.setCell ?_ ?_ _ | refine Below.drew ?_ | refine Below.drewN ?_ _)) <;> (try simp) <;> omega)⟩
theorem toldInt_nil (v : Value) (w : World) : Calls Tryz.prog 86 #[v, .nilIface] w fun e w' => e = .returned v ∧ Below w.heap.size w w' := by
  have C1 := Lib.hid (fun x w => as_nil x w)
  go_enter Tryz.func86, Tryz.ntmps86
  go_wp2_with (go_at_call 65; refine (C1.out _ _).mono ?_; rintro e w' ⟨rfl, rfl⟩)
  go_ret
  exact ⟨rfl, below_box _ _⟩
theorem toldBool_err (v : Value) (n : Int) (w : World) (hg : Door w) : Calls Tryz.prog 88 #[v, .iface 39 (.int .i64 n)] w fun e w' => e = .panicked (tellE n) ∧ Below w.heap.size w w' := by
  have h1 := hg.alloc (.cells #[.int .i64 0] 39)
  have c1 := as_hit n ⟨w.heap.size, 0, none⟩ (.int .i64 0) (w.alloc (.cells #[.int .i64 0] 39)) h1 (by simp) (by simp)
  have C1 := Lib.hid c1
  clear c1 h1
  go_enter Tryz.func88, Tryz.ntmps88
  go_wp2_with (go_at_call 65; refine C1.out.mono ?_; rintro e w' ⟨rfl, rfl⟩)
  exact ⟨rfl, rfl, (by (repeat' (first | exact Below.refl _ _ | refine Below.alloc ?_ ?_ _ | refine Below.setCell ?_ ?_ _ | refine Below.drew ?_ | refine Below.drewN ?_ _)) <;> (try simp) <;> omega)⟩
theorem toldBool_nil (v : Value) (w : World) : Calls Tryz.prog 88 #[v, .nilIface] w fun e w' => e = .returned v ∧ Below w.heap.size w w' := by
  have C1 := Lib.hid (fun x w => as_nil x w)
  go_enter Tryz.func88, Tryz.ntmps88
  go_wp2_with (go_at_call 65; refine (C1.out _ _).mono ?_; rintro e w' ⟨rfl, rfl⟩)
  go_ret
  exact ⟨rfl, below_box _ _⟩
theorem toldNds_err (v : Value) (n : Int) (w : World) (hg : Door w) : Calls Tryz.prog 92 #[v, .iface 39 (.int .i64 n)] w fun e w' => e = .panicked (tellE n) ∧ Below w.heap.size w w' := by
  have h1 := hg.alloc (.cells #[.int .i64 0] 39)
  have c1 := as_hit n ⟨w.heap.size, 0, none⟩ (.int .i64 0) (w.alloc (.cells #[.int .i64 0] 39)) h1 (by simp) (by simp)
  have C1 := Lib.hid c1
  clear c1 h1
  go_enter Tryz.func92, Tryz.ntmps92
  go_wp2_with (go_at_call 65; refine C1.out.mono ?_; rintro e w' ⟨rfl, rfl⟩)
  exact ⟨rfl, rfl, (by (repeat' (first | exact Below.refl _ _ | refine Below.alloc ?_ ?_ _ | refine Below.setCell ?_ ?_ _ | refine Below.drew ?_ | refine Below.drewN ?_ _)) <;> (try simp) <;> omega)⟩
theorem toldNds_nil (v : Value) (w : World) : Calls Tryz.prog 92 #[v, .nilIface] w fun e w' => e = .returned v ∧ Below w.heap.size w w' := by
  have C1 := Lib.hid (fun x w => as_nil x w)
  go_enter Tryz.func92, Tryz.ntmps92
  go_wp2_with (go_at_call 65; refine (C1.out _ _).mono ?_; rintro e w' ⟨rfl, rfl⟩)
  go_ret
  exact ⟨rfl, below_box _ _⟩
theorem toldSls_nil (v : Value) (w : World) : Calls Tryz.prog 135 #[v, .nilIface] w fun e w' => e = .returned v ∧ Below w.heap.size w w' := by
  have C1 := Lib.hid (fun x w => as_nil x w)
  go_enter Tryz.func135, Tryz.ntmps135
  go_wp2_with (go_at_call 65; refine (C1.out _ _).mono ?_; rintro e w' ⟨rfl, rfl⟩)
  go_ret
  exact ⟨rfl, below_box _ _⟩
end Go.Proofs.YtcdpoamiejompaaGreatDoor
