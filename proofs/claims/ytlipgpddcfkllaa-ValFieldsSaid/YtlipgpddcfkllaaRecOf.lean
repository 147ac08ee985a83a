/-
  The program's RecOf: a map from the names to the values, then the names in their order.
-/
import Derived.WalkKit
import Derived.StringKeys
import Derived.Maps.OwnSet
import Derived.Maps.AppendAt
import Derived.Test.YtlipgpddcfkllaaRecMap
import Derived.Test.YtlipgpddcfkllaaRecSort
import Derived.Test.YtlipgpddcfkllaaSeqSorted
import Derived.Test.YtlipgpddcfkllaaRefRecOf
import Derived.Test.YtlipgpddcfkllaaName
import Derived.Test.YtlipgpddcfkllaaSetOf
namespace Go.Proofs.Ytlipgpddcfkllaa
open Go.RowKit Go.Wk Go.Sort Go.Maps
set_option maxRecDepth 100000

def RecPost (w : World) (N : List ByteArray) (L : List (List Nd)) (e : Ending) (w' : World) : Prop :=
  ∃ (A : Option Addr) (n c : Nat), e = .returned (.tuple #[.slice A n c, errV (recE N L)]) ∧ Ns w' A n c (recV N L) ∧ Below w.heap.size w w'
theorem rec_err {w w' : World} {N : List ByteArray} {L : List (List Nd)} {x : Int} (h : recE N L = x) (h0 : x ≠ 0) (hb : Below w.heap.size w w') : RecPost w N L (.returned (.tuple #[.slice none 0 0, errV x])) w' :=
  ⟨none, 0, 0, by rw [h], by rw [recV_err (by rw [h]; exact h0)]; exact ns_nil _, hb⟩
theorem recKeyed : Keyed Try.prog 9 := string_keyed Try.underlying9
theorem zero_nds (w : World) : (zeroValue 35).run Try.prog w = .ok (.slice none 0 0) w := by kernel_rfl
theorem ownsMap_keep {H : Type} {P : Program} {k : TypeId} {R : Value → Option (DataW H × List MemPlace)} {w w' : World} {b n : Nat} {D : DataW H} (h : w.ownsMap P k R b n D) (hb : Below w.heap.size w w') : w'.ownsMap P k R b n D :=
  let hl := h.lt
  let ⟨es, clock, h1, r⟩ := h
  ⟨es, clock, (hb.block b hl).trans h1, r⟩
/-- What was put by the first k names. -/
def putsK (N : List ByteArray) (V : List Sl) (k : Nat) : List (ByteArray × Value) := (N.zip (V.map Sl.v)).take k
/-- m[k], where it is known what stands there. -/
theorem wpList_lookup_held {P : Program} (w : World) {ops : Array Oper} {rest : List Oper} {o : Oper} {a : Act} {Q : Exit → Act → World → Prop}
    (hg : o.guard = none) (m x : Operand) (t : TypeId) (hop : o.op = Op.lookup t m x false)
    (k e : TypeId) (K : Keyed P k) (ht : P.underlying t = some (.map k e)) {z : Value} (hz : (zeroValue e).run P w = .ok z w) (b n : Nat) (D : DataW Value)
    (hm : a.eval m = .map (some b)) (hown : w.ownsMap P k heldR b n D) (key : Value) (kl : Lit) (hx : a.eval x = key) (hkey : keyOf P k key = some kl) (u : Value) (hu : D.atKey kl (.held z) = .held u)
    (hK : wpList P ops Q rest (a.put o.dst u) w) :
    wpList P ops Q (o :: rest) a w := by
  refine wpList_plain hg fun K' hK' => ?_
  obtain ⟨v, ps, hrun, hv⟩ := hown.lookup K ht hz (zd := .held z) (zp := []) rfl hkey
  have : v = u := by
    unfold heldR at hv
    rw [hu] at hv
    simp at hv
    exact hv.1
  subst this
  unfold Oper.wp
  simp [execOp, hop, hm, hx, hrun, Result.andThen]
  exact hK' _ _ hK
theorem strs_of_own {w : World} {B : Nat} {v : Value} {k : Nat} {xs : List Value} (h : w.ownsRow B 9 1 v k xs) : ∃ A c, v = .slice A k c ∧ ∀ j u, xs[j]? = some u → ∃ a, A = some a ∧ w.cell? (a.add j) = some u := by
  have h1 := h.1
  rcases h.2 with ⟨rfl, h0⟩ | ⟨g, cap, cur, rfl, _⟩
  · refine ⟨none, 0, by rw [h0], fun j u hj => ?_⟩
    have : j < xs.length := (List.getElem?_eq_some_iff.1 hj).1
    omega
  · exact ⟨some ⟨g, 0, none⟩, cap, rfl, fun j u hj => ⟨_, rfl, h.cells (g := g) rfl j u hj⟩⟩
theorem rows_apart {W : World} {base base' : Nat} {e e' : TypeId} {size size' : Nat} {v v' : Value} {k k' : Nat} {xs xs' : List Value} (h : W.ownsRow base e size v k xs) (h' : W.ownsRow base' e' size' v' k' xs') (hne : e ≠ e') : v.ownBlock = none ∨ v.ownBlock ≠ v'.ownBlock := by
  rcases h.2 with ⟨rfl, _⟩ | ⟨g, cap, cur, rfl, _, hgb, _⟩
  · exact .inl rfl
  · refine .inr fun e0 => ?_
    rcases h'.2 with ⟨rfl, _⟩ | ⟨g', cap', cur', rfl, _, hgb', _⟩
    · simp [Value.ownBlock] at e0
    · have : g = g' := by simpa [Value.ownBlock] using e0
      subst this
      rw [hgb] at hgb'
      simp at hgb'
      exact hne hgb'.2
theorem putsK_zero (N : List ByteArray) (V : List Sl) : putsK N V 0 = [] := rfl
theorem putsK_step {N : List ByteArray} {V : List Sl} {k : Nat} (h1 : k < N.length) (h2 : k < V.length) : putsK N V (k + 1) = putsK N V k ++ [(N[k], V[k].v)] := by
  have hz : k < (N.zip (V.map Sl.v)).length := by simp; omega
  unfold putsK
  rw [← List.take_append_getElem hz, List.getElem_zip, List.getElem_map]
theorem putsK_names {N : List ByteArray} {V : List Sl} (hl : N.length = V.length) (k : Nat) : (putsK N V k).map (·.1) = N.take k := by
  unfold putsK
  rw [List.map_take]
  congr 1
  rw [List.map_fst_zip (by simp; omega)]
theorem any_puts {N : List ByteArray} {V : List Sl} (hl : N.length = V.length) (k : Nat) (s : ByteArray) : ((putsK N V k).any fun p => decide (p.1 = s)) = hadB (N.take k) s := by
  have e : ((putsK N V k).any fun p => decide (p.1 = s)) = ((putsK N V k).map (·.1)).any fun x => decide (x = s) := by rw [List.any_map]; rfl
  rw [e, putsK_names hl]
  unfold hadB
  congr 1
  funext x
  have := cmpB_cmp.zero x s
  simp [this]

set_option maxHeartbeats 1600000 in
theorem val_RecOf (A : Option Addr) (n c : Nat) (N : List ByteArray) (A' : Option Addr) (m c' : Nat) (V : List Sl) (w : World) (hn : n = N.length) (hn2 : n ≤ 5864062014634 * 2) (hT : TxAt w A N) (hz : ∀ x ∈ N, x.size ≤ maxLen) (hm : m = V.length) (hm2 : m ≤ 5864062014634) (hV : SlsAt w A' V) :
    Calls Try.prog 10 #[.slice A n c, .slice A' m c'] w (RecPost w N (V.map Sl.P)) := by
  have hmm := @run_makeMap Try.prog
  obtain ⟨i0, hi, hz0, hz1, hz2⟩ := info_parts ndInfo
  have HT := Lib.hid hT
  have HV := Lib.hid hV
  have HN := Lib.hid hn
  have HM := Lib.hid hm
  have HZ := Lib.hid hz
  clear hT hV hz
  by_cases hnm : n = m
  · subst hnm
    have HL := Lib.hid (show N.length = (V.map Sl.P).length by rw [List.length_map, ← hn, ← hm])
    have HR := Lib.hid (show recE N (V.map Sl.P) = or2 (recChk [] (N.zip (V.map Sl.P))) (if 200 < (flatR (N.zip (V.map Sl.P))).length + 1 then 4 else 0) by unfold recE; rw [if_pos HL.out])
    have HLV := Lib.hid (show ∀ k, (h : k < V.length) → ∀ h', (V.map Sl.P)[k]'h' = V[k].P from fun k h h' => by simp)
    generalize V.map Sl.P = L at *
    clear hn hm
    go_enter Try.func10, Try.ntmps10
    go_wp2_with fail
    go_loopw [7, 8, 9, 10, 11, 12, 25] (fun _ _ _ _ _ _ i wr => ∃ k : Nat, k ≤ n ∧ i = .int .i64 k ∧ Hid (wr.ownsMap Try.prog 9 heldR w.heap.size k (mapD (putsK N V k))) ∧ Hid (recChk [] (N.zip L) = recChk (N.take k) ((N.zip L).drop k)) ∧ Hid (∀ j, (h : j < V.length) → j < k → valFault V[j].P = 0) ∧ Hid (Below w.heap.size w wr)) (fun _ _ _ _ _ _ i _ => n - (intOf i).toNat)
    case atStart => exact ⟨0, Nat.zero_le _, rfl, Lib.hid (World.ownsMap_made _ _ _ _), Lib.hid (by simp), Lib.hid (fun j _ h => by omega), Lib.hid ((Below.refl _ _).alloc (Nat.le_refl _) _)⟩
    case round =>
      obtain ⟨k, hk, rfl, hO, hC, hF, hB⟩ := hrel
      by_cases hlt : k < n
      · have hk1 : k < N.length := by rw [← HN.out]; exact hlt
        have hk2 : k < V.length := by rw [← HM.out]; exact hlt
        obtain ⟨a, rfl, c0⟩ := (HT.out.keep hB.out).at hk1
        obtain ⟨b, rfl, c1, hs⟩ := (HV.out.keep hB.out).at hk2
        have HC := Lib.hid (hC.out.trans (chk_at HL.out hk1))
        have hkl : k < L.length := by rw [← HL.out]; exact hk1
        have eL : L[k] = V[k].P := HLV.out k hk2 hkl
        rw [eL] at HC
        have zz := HZ.out _ (List.getElem_mem hk1)
        have C1 := Lib.hid (name_Check N[k] wr zz)
        have N1 := Lib.hid hs
        clear hC eL hs
        by_cases h1 : nameFault N[k] = 0
        · rw [h1, or2_zero] at HC
          rw [h1, errV_zero] at C1
          clear h1
          go_wp2_with fail
          refine (C1.out).mono ?_
          rintro e w1 ⟨rfl, b1⟩
          have O1 := Lib.hid (ownsMap_keep hO.out b1)
          have B1 := bh hB b1
          have d1 := cell_keep b1 c1
          have N2 := Lib.hid (N1.out.keep b1)
          have HK := Lib.hid (show keyOf Try.prog 9 (.string N[k]) = some (keyL N[k]) from WideMaps.keyOf_string_mk Try.underlying9 zz)
          have HA := Lib.hid ((has_mapD (putsK N V k) N[k]).trans (any_puts (by rw [← HN.out, HM.out]) k N[k]))
          clear C1 N1 c0 c1 b1 hO hB
          go_wp2_with (at_lookup; refine wpList_lookup_own_ok _ rfl _ _ 58 rfl 9 35 recKeyed Try.underlying58 heldR (zero_nds _) _ [] rfl w.heap.size k _ rfl O1.out _ _ rfl HK.out ?_)
          intro v ps hv
          rw [HA.out]
          clear hv HA
          have HH := Lib.hid (show hadB (N.take k) N[k] = true → recE N L = 6 from fun hh => by
            have e := HC.out
            rw [hh, if_pos rfl] at e
            rw [HR.out, e]; rfl)
          have HH2 := Lib.hid (show hadB (N.take k) N[k] = false → recChk [] (N.zip L) = or2 (valFault V[k].P) (recChk (N.take (k + 1)) ((N.zip L).drop (k + 1))) from fun hh => by
            have e := HC.out
            rwa [hh, if_neg (by simp), or2_zero] at e)
          clear HC
          generalize hadB (N.take k) N[k] = q at *
          cases q with
          | true =>
            have HE := Lib.hid (HH.out rfl)
            clear HH HH2
            go_wp2_with fail
            go_ret2
            exact rec_err HE.out (by decide) B1.out
          | false =>
            have HC2 := Lib.hid (HH2.out rfl)
            clear HH HH2
            have C2 := Lib.hid (val_Check_ns N2.out)
            by_cases h2 : valFault V[k].P = 0
            · rw [h2, or2_zero] at HC2
              rw [h2, errV_zero] at C2
              have O2 := Lib.hid (show ∀ j, (h : j < V.length) → j < k + 1 → valFault V[j].P = 0 from fun j h hj => by
                rcases Nat.lt_or_ge j k with h3 | h3
                · exact hF.out j h h3
                · have : j = k := by omega
                  subst this; exact h2)
              clear h2 hF
              go_wp2_with fail
              refine (C2.out).mono ?_
              rintro e w3 ⟨rfl, b3⟩
              have d3 := cell_keep b3 d1
              have B3 := bh B1 b3
              have O3 := Lib.hid (ownsMap_keep O1.out b3)
              clear b3 C2 B1 O1 d1 N2
              go_wp2_with (at_mapUpdate; refine wpList_mapUpdate_own _ rfl _ _ _ 58 rfl 9 35 recKeyed Try.underlying58 heldR w.heap.size k _ rfl O3.out (by unfold maxLen; omega) _ _ _ rfl rfl HK.out _ [] rfl ?_)
              intro w4 hown hgrow
              have O4 := Lib.hid (show w4.ownsMap Try.prog 9 heldR w.heap.size (k + 1) (mapD (putsK N V (k + 1))) by
                rw [putsK_step hk1 hk2, mapD_snoc]; exact hown)
              have B4 := Lib.hid (B3.out.grown hgrow B3.out.size (fun g hg => by cases hg; exact Nat.le_refl _))
              clear hown hgrow O3 B3
              go_wp2_with fail
              go_roundw
              case rel => exact ⟨k + 1, by omega, by go_num, O4, HC2, O2, B4⟩
              case measure => simp [intOf]; omega
            · have HE := Lib.hid (show recE N L = valFault V[k].P by
                have e := HC2.out.trans (or2_ne h2 _)
                rw [HR.out, e, or2_ne h2])
              have H2 := Lib.hid h2
              have HEV := Lib.hid (errV_ne h2)
              have hev := errV_ne h2
              rw [hev] at C2
              clear h2 HC2 hev
              go_wp2_with fail
              refine (C2.out).mono ?_
              rintro e w3 ⟨rfl, b3⟩
              go_wp2_with fail
              go_ret2
              have := rec_err (w := w) (L := L) HE.out H2.out (bh B1 b3).out
              rw [HEV.out] at this
              exact this
        · have HE := Lib.hid (show recE N L = nameFault N[k] by
            have e := HC.out.trans (or2_ne h1 _)
            rw [HR.out, e, or2_ne h1])
          have H1 := Lib.hid h1
          have HEV := Lib.hid (errV_ne h1)
          have hev := errV_ne h1
          rw [hev] at C1
          clear h1 HC hev
          go_wp2_with fail
          refine (C1.out).mono ?_
          rintro e w1 ⟨rfl, b1⟩
          go_wp2_with fail
          go_ret2
          have := rec_err (w := w) (L := L) HE.out H1.out (bh hB b1).out
          rw [HEV.out] at this
          exact this
      · have HC0 := Lib.hid (show recChk [] (N.zip L) = 0 by
          rw [hC.out, List.drop_of_length_le (by rw [List.length_zip, ← HL.out, ← HN.out]; omega)]; rfl)
        have HVF := Lib.hid (show ∀ j, (h : j < V.length) → valFault V[j].P = 0 from fun j h => hF.out j h (by have := HM.out; omega))
        have HRE := Lib.hid (show recE N L = if 200 < (flatR (N.zip L)).length + 1 then 4 else 0 by rw [HR.out, HC0.out, or2_zero])
        obtain ⟨-, hnd, -⟩ := recChk_zero.1 HC0.out
        have hzn : (N.zip L).map (·.1) = N := List.map_fst_zip (by rw [HL.out]; exact Nat.le_refl _)
        have hls : (sortR (N.zip L)).length = n := by rw [(perm_sortR _).length_eq, List.length_zip, ← HL.out, ← HN.out]; omega
        have HSN := Lib.hid (show (sortT N).map encStr = (sortR (N.zip L)).map fun x => Value.string x.1 by
          have h := names_sorted hnd
          rw [hzn] at h
          unfold sortT
          rw [← h, List.map_map]
          apply List.map_congr_left
          intro x _
          simp [encStr])
        have HIX := Lib.hid (show ∀ r, (h : r < (sortR (N.zip L)).length) → ∃ i, ∃ h1 : i < N.length, ∃ h2 : i < V.length, (sortR (N.zip L))[r] = (N[i], V[i].P) ∧ (mapD (putsK N V k)).atKey (keyL N[i]) (.held (.slice none 0 0)) = .held V[i].v from fun r h => by
          have hm := (perm_sortR (N.zip L)).mem_iff.1 (List.getElem_mem h)
          obtain ⟨i, hi, e⟩ := List.getElem_of_mem hm
          rw [List.length_zip] at hi
          have h1 : i < N.length := by omega
          have h2 : i < V.length := by rw [← HM.out, HN.out]; exact h1
          refine ⟨i, h1, h2, ?_, ?_⟩
          · rw [← e, List.getElem_zip, HLV.out i h2 (by omega)]
          · refine at_mapD (p := (N[i], V[i].v)) ?_ ?_ _
            · rw [putsK_names (by rw [← HN.out, HM.out])]
              exact (hzn ▸ hnd).sublist (List.take_sublist _ _)
            · unfold putsK
              rw [List.take_of_length_le (by simp; have := HN.out; omega)]
              have hz : i < (N.zip (V.map Sl.v)).length := by simp; omega
              have : (N.zip (V.map Sl.v))[i] = (N[i], V[i].v) := by rw [List.getElem_zip, List.getElem_map]
              rw [← this]; exact List.getElem_mem hz)
        have HFS := Lib.hid (show ∀ r, (flatR ((sortR (N.zip L)).take r)).length ≤ (flatR (N.zip L)).length from fun r => Nat.le_trans (flatR_take_le _ r) (by rw [flatR_perm (perm_sortR _)]; exact Nat.le_refl _))
        have HFA := Lib.hid (show (flatR (sortR (N.zip L))).length = (flatR (N.zip L)).length from by rw [flatR_perm (perm_sortR _)])
        have HSZ := Lib.hid (show ∀ x ∈ N.zip L, x.1.size ≤ maxLen ∧ NdsOk x.2 from fun x hx => by
          obtain ⟨i, hi, rfl⟩ := List.getElem_of_mem hx
          rw [List.length_zip] at hi
          have h1 : i < N.length := by omega
          have h2 : i < V.length := by rw [← HM.out, HN.out]; exact h1
          rw [List.getElem_zip, HLV.out i h2 (by omega)]
          obtain ⟨-, -, -, q⟩ := HV.out.at (k := i) h2
          exact ⟨HZ.out _ (List.getElem_mem h1), q.ok⟩)
        have HRV := Lib.hid (fun h : recE N L = 0 => recV_eq h)
        have HMEM := Lib.hid (show ∀ x ∈ sortR (N.zip L), x ∈ N.zip L from fun x hx => (perm_sortR _).mem_iff.1 hx)
        generalize hSS : sortR (N.zip L) = S at *
        generalize mapD (putsK N V k) = D at *
        clear hC hF hnd hzn hSS HC0 HR
        have R0 := Lib.hid (row_one wr (recHead n))
        obtain ⟨w0, rfl⟩ : ∃ w0 : World, w0 = wr := ⟨_, rfl⟩
        have B1 := Lib.hid ((Below.refl w0.heap.size w0).alloc (Nat.le_refl _) (.cells #[.int .i64 (recHead n).op, .int .i64 (recHead n).n, .string (recHead n).s, .string (recHead n).t] 40))
        have B2 := Lib.hid (B1.out.alloc B1.out.size (.cells #[.slice A n c] 33))
        have CS := Lib.hid (sorted_call (w0.heap.size + 1) w.heap.size A c N (by rw [← HN.out]; omega) ((w0.alloc (.cells #[.int .i64 (recHead n).op, .int .i64 (recHead n).n, .string (recHead n).s, .string (recHead n).t] 40)).alloc (.cells #[.slice A n c] 33)) (by simp) (Nat.le_trans hB.out.size B2.out.size)
          (by have := (Boxed.new (w0.alloc (.cells #[.int .i64 (recHead n).op, .int .i64 (recHead n).n, .string (recHead n).s, .string (recHead n).t] 40)) 33 (.slice A n c)).cell; rw [World.size_alloc] at this; rw [← HN.out]; exact this) (HT.out.keep (hB.out.trans (B2.out.mono hB.out.size))) (fun a ha h0 => by
            obtain ⟨b, hb, q⟩ := HT.out 0 N[0] (List.getElem?_eq_getElem h0)
            rw [ha] at hb
            injection hb with hb
            subst hb
            have := block_lt_of_cell q
            rwa [add_block] at this))
        go_wp2_with fail
        refine (callsIn_wide.1 (values_in Fence.wide 5 trivial rfl _ _ _ _)).mono ?_
        rintro e w2 ⟨rfl, rfl⟩
        rw [World.size_alloc]
        go_wp2_with fail
        refine (CS.out).mono ?_
        rintro e w3 ⟨v, rfl, hrow, hb⟩
        rw [HSN.out] at hrow
        obtain ⟨A5, c5, rfl, -⟩ := strs_of_own hrow
        have HS5 := Lib.hid hrow
        have B3 := Lib.hid (B2.out.trans (hb.mono B2.out.size))
        have O3 := Lib.hid (ownsMap_keep hO.out (B3.out))
        have B4 := Lib.hid (hB.out.trans (B3.out.mono hB.out.size))
        have R3 := Lib.hid (((R0.out.alloc (.cells #[.slice A n c] 33)).kept (grown_of_below hb none) (by simp [Value.ownBlock])))
        clear hrow CS HSN B1 B2 hb R0
        have HN2 := Lib.hid HN.out.symm
        rw [← HN.out]
        have hfn : w.heap.size < w0.heap.size := hO.out.lt
        go_wp2_with fail
        generalize hB5 : ((w0.alloc (.cells #[.int .i64 (recHead n).op, .int .i64 (recHead n).n, .string (recHead n).s, .string (recHead n).t] 40)).alloc (.cells #[.slice A n c] 33)).heap.size = B5 at *
        clear hB5
        go_loopw [13, 15, 66] (fun o _ i wk => ∃ r : Nat, r ≤ n ∧ i = .int .i64 r ∧ (recHead n :: flatR (S.take r)).length ≤ 200 ∧ Hid (wk.ownsRow w0.heap.size 40 4 o (recHead n :: flatR (S.take r)).length (ndCells (recHead n :: flatR (S.take r)))) ∧ Hid (wk.ownsRow B5 9 1 (.slice A5 n c5) n (S.map fun x => Value.string x.1)) ∧ Hid (Below w0.heap.size w0 wk)) (fun _ _ i _ => n - (intOf i).toNat)
        case atStart => exact ⟨0, Nat.zero_le _, rfl, by simp [flatR], R3, Lib.hid (by have := HS5.out; rw [← HN.out] at this; exact this), B3⟩
        case round =>
          clear R3 HS5 O3
          obtain ⟨r, hr, rfl, hl2, hR, hS, hBk⟩ := hrel
          by_cases hlr : r < n
          · have hr1 : r < S.length := by omega
            obtain ⟨i, h1, h2, eS, hat⟩ := HIX.out r hr1
            obtain ⟨A6, c6, e6, hc6⟩ := strs_of_own hS.out
            injection e6 with ea _ ec
            subst ea
            obtain ⟨a, rfl, c0⟩ := hc6 r (.string S[r].1) (by rw [List.getElem?_map, List.getElem?_eq_getElem hr1]; rfl)
            clear hc6 ec
            have BW := Lib.hid (hB.out.trans (hBk.out.mono hB.out.size))
            obtain ⟨b, hb', q, hs⟩ := (HV.out.keep BW.out).at h2
            have hv := HVF.out i h2
            obtain ⟨hv2, hV2⟩ := isV_zero.1 hv
            obtain ⟨a2, ea, -⟩ := hs.at_.nd hV2.pos
            have HRN := Lib.hid hs.len
            have hrn : V[i].n ≤ 200 := by rw [hs.len]; exact hv2
            have HSL := Lib.hid hs
            have EA := Lib.hid ea
            have HROW := Lib.hid (show recHead n :: flatR (S.take (r + 1)) = ((recHead n :: flatR (S.take r)) ++ [fieldN N[i]]) ++ V[i].P by
              rw [flatR_step S r hr1, eS]; simp)
            rw [eS] at c0
            have HAT := Lib.hid hat
            have zi := HZ.out _ (List.getElem_mem h1)
            have HK := Lib.hid (show keyOf Try.prog 9 (.string N[i]) = some (keyL N[i]) from WideMaps.keyOf_string_mk Try.underlying9 zi)
            have RK := hR
            generalize hX : recHead n :: flatR (S.take r) = X at RK HROW hl2
            have hsz := hBk.out.size
            clear hX hs hv hv2 hV2 ea hR eS hat q hb'
            go_wp2_with (at_builtin; refine wpList_append_own _ rfl _ _ 35 rfl w0.heap.size 40 i0 _ 4 48 Try.underlying35 hi hz0 hz1 hz2 rfl (by decide) _ X.length (ndCells X) rfl (RK.out.alloc _) ⟨_, 0, none⟩ 1 1 (ndCells [fieldN N[i]]) rfl rfl (cells_new _ _ _) (ndCells_one _) ?c1 ?c2 ?c3 ?_)
            case c1 => unfold maxLen; omega
            case c2 => omega
            case c3 => first | omega | (simp; omega)
            intro v1 w6 hown hgrow _
            have B6 := Lib.hid ((hBk.out.alloc hBk.out.size _).grown hgrow (by simp; omega) (fun g hg => by have := own_base RK.out g hg; omega))
            have S6 := Lib.hid ((hS.out.alloc _).kept hgrow (by have := rows_apart hS.out RK.out (by decide); exact this))
            have O6 := Lib.hid (ownsMap_keep hO.out B6.out)
            have BW6 := Lib.hid (hB.out.trans (B6.out.mono hB.out.size))
            have OW := Lib.hid (show w6.ownsRow w0.heap.size 40 4 v1 (X ++ [fieldN N[i]]).length (ndCells (X ++ [fieldN N[i]])) by
              rw [List.length_append, ndCells_append]; exact hown)
            have h16 : (X ++ [fieldN N[i]]).length ≤ 201 := by simp; omega
            have HC6 := Lib.hid (show ∀ j u, (ndCells V[i].P)[j]? = some u → w6.cell? (a2.add j) = some u from by
              obtain ⟨b6, hb6, q6, hs6⟩ := (HV.out.keep BW6.out).at h2
              have := hs6.at_
              rw [EA.out] at this
              exact this.cells)
            have EV : V[i].v = .slice (some a2) V[i].n V[i].c := by unfold Sl.v; rw [EA.out]
            rw [EV] at HAT
            clear hown hgrow RK hS hBk HSL BW c0
            generalize hX1 : X ++ [fieldN N[i]] = X1 at OW HROW h16
            clear hX1
            have hsz6 := B6.out.size
            go_wp2_with (first | (at_lookup; refine wpList_lookup_held _ rfl _ _ 58 rfl 9 35 recKeyed Try.underlying58 (zero_nds _) w.heap.size k _ rfl O6.out _ _ rfl HK.out _ HAT.out ?_) | (at_builtin; refine wpList_append_own _ rfl _ _ 35 rfl w0.heap.size 40 i0 _ 4 48 Try.underlying35 hi hz0 hz1 hz2 rfl (by decide) _ X1.length (ndCells X1) rfl OW.out a2 V[i].n V[i].c (ndCells V[i].P) rfl (by simp [ndCells_length, HRN.out]) HC6.out (ndCells_one _) ?c1 ?c2 ?c3 ?_))
            case c1 => unfold maxLen; omega
            case c2 => omega
            case c3 => omega
            intro v2 w7 hown2 hgrow2 _
            have B7 := Lib.hid (B6.out.grown hgrow2 (by omega) (fun g hg => by have := own_base OW.out g hg; omega))
            have S7 := Lib.hid (S6.out.kept hgrow2 (rows_apart S6.out OW.out (by decide)))
            have OW2 := Lib.hid (show w7.ownsRow w0.heap.size 40 4 v2 (X1 ++ V[i].P).length (ndCells (X1 ++ V[i].P)) by
              rw [List.length_append, ndCells_append, ← HRN.out]; exact hown2)
            rw [← HROW.out] at OW2
            have BW7 := Lib.hid (hB.out.trans (B7.out.mono hB.out.size))
            have hf := HFS.out (r + 1)
            obtain ⟨A7, c7, rfl, -, -, -⟩ := nds_of_own OW2.out
            clear hown2 hgrow2 OW B6 HROW S6 O6 BW6 HC6 HAT
            by_cases h200 : 200 < (recHead n :: flatR (S.take (r + 1))).length
            · have HE := Lib.hid (show recE N L = 4 by
                rw [HRE.out, if_pos (by simp at h200; omega)])
              generalize (recHead n :: flatR (S.take (r + 1))).length = G at h200
              go_wp2_with fail
              go_ret2
              exact rec_err HE.out (by decide) BW7.out
            · have hl7 : (recHead n :: flatR (S.take (r + 1))).length ≤ 200 := by omega
              obtain ⟨G, hG⟩ : ∃ G, G = (recHead n :: flatR (S.take (r + 1))).length := ⟨_, rfl⟩
              have OW3 := OW2
              rw [← hG] at h200 OW3
              rw [← hG]
              have HG := Lib.hid hG
              clear hG
              go_wp2_with fail
              go_roundw
              case rel => exact ⟨r + 1, by omega, by go_num, hl7, by rw [HG.out]; exact OW2, S7, B7⟩
              case measure => simp [intOf]; omega
          · have HTK := Lib.hid (show S.take r = S from List.take_of_length_le (by omega))
            rw [HTK.out] at hl2 hR
            have HE := Lib.hid (show recE N L = 0 by
              rw [HRE.out, if_neg (by have := HFA.out; simp at hl2; omega)])
            obtain ⟨A8, c8, rfl, hc8, hA8, -⟩ := nds_of_own hR.out
            have NN := Lib.hid (show Ns wr A8 (recHead n :: flatR S).length c8 (recV N L) by
              rw [HRV.out HE.out, ← HN.out]
              refine ⟨rfl, hc8, by unfold maxLen; omega, hA8, ?_⟩
              intro x hx
              rcases List.mem_cons.1 hx with rfl | hx
              · exact ⟨Nat.zero_le _, Nat.zero_le _, by show _ ≤ (n : Int); omega, by show (n : Int) ≤ _; omega⟩
              · exact flatR_ok (Z := S) (fun y hy => HSZ.out y (HMEM.out y hy)) x hx)
            have BW := Lib.hid (hB.out.trans (hBk.out.mono hB.out.size))
            clear hR hS hc8 hA8
            go_wp2_with fail
            go_ret2
            exact ⟨A8, _, c8, by rw [HE.out]; rfl, NN.out, BW.out⟩
  · have HE := Lib.hid (show recE N (V.map Sl.P) = 1 by unfold recE; rw [if_neg (by rw [List.length_map, ← hn, ← hm]; exact hnm)])
    have e0 : (n != m) = true := by rw [bne_iff_ne]; exact hnm
    clear hnm hn hm
    go_enter Try.func10, Try.ntmps10
    go_wp2_with fail
    go_ret2
    exact rec_err (x := 1) HE.out (by decide) (Below.refl _ _)
end Go.Proofs.Ytlipgpddcfkllaa
