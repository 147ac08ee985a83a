/-
  val.SetOf: the set of values.
  slices.Values over a slice of texts: the iterator's contract, for bodies that keep what lay below (after the worked proof of slices.Values over ints).
  slices.Sorted(slices.Values(names)): a new slice of the names in their order.
  The reference's RecOf: the fields by their ranks.
-/
import Derived.RangeFuncBox
import Derived.RangeFuncLeaves
import Derived.RangeFuncWrites
import Derived.Shelf.Abstract
import Derived.WalkKit
import Derived.OwnWalkIn
import Derived.TacticsInMore
import Derived.LoopNIn
import Derived.LoopIn
import Derived.Laws.OwnMore
import Derived.RangeFuncBound
import Derived.Sort.OwnSorted
import Derived.Test.YtcdpoamiejompaaGreatDoorQe25
namespace Go.Proofs.YtcdpoamiejompaaGreatDoor
open Go.RowKit Go.Wk Go.Sort
set_option maxRecDepth 100000

def SortPost (w : World) (B : Nat) (v : Value) (V : List Sl) (e : Ending) (w' : World) : Prop :=
  e = .returned (.tuple #[]) ∧ ∃ V' : List Sl, V'.Perm V ∧ V'.Pairwise (fun a b => cmpNds a.P b.P ≤ 0) ∧ OwnSls w' B v V' ∧ w.grownBy w' v.ownBlock
theorem sorted_pair {V : List Sl} (h : SortedSl V) : V.Pairwise (fun a b => cmpNds a.P b.P ≤ 0) :=
  List.pairwise_iff_getElem.2 fun i j _ hj hij => h i j hij hj
theorem sort_any (w : World) (B : Nat) (v : Value) (V : List Sl) (h : OwnSls w B v V) (hs : V.length ≤ 5864062014634) :
    Calls Tryz.prog 166 #[v, .func (.func 58) #[] #[]] w (SortPost w B v V) := by
  rcases h.own.2 with ⟨rfl, h0⟩ | ⟨g, cap, cur, rfl, _⟩
  · have : V = [] := List.eq_nil_of_length_eq_zero h0
    subst this
    exact (sort_none w none 0 _).mono fun e w' ⟨h1, h2⟩ => ⟨h1, [], List.Perm.refl _, List.Pairwise.nil, by rw [h2]; exact h, by rw [h2]; exact World.grownBy.refl _ _⟩
  · exact (sort_Sls w B g cap V h hs).mono fun e w' ⟨h1, V', h2, h3, h4, h5⟩ => ⟨h1, V', h2, sorted_pair h3, h4, h5⟩
def CompactPost (w : World) (B : Nat) (v : Value) (V : List Sl) (e : Ending) (w' : World) : Prop := ∃ v', e = .returned v' ∧ OwnSls w' B v' (compactL V) ∧ w.grownBy w' v.ownBlock
theorem compact_nil (w : World) : Calls Tryz.prog 167 #[.slice none 0 0, .func (.func 168) #[] #[]] w fun e w' => e = .returned (.slice none 0 0) ∧ w = w' := by
  go_enter Tryz.func167, Tryz.ntmps167
  go_wp2
  go_ret
  exact ⟨rfl, rfl⟩
theorem compact_any (w : World) (B : Nat) (v : Value) (V : List Sl) (h : OwnSls w B v V) (hs : V.length ≤ 5864062014634) :
    Calls Tryz.prog 167 #[v, .func (.func 168) #[] #[]] w (CompactPost w B v V) := by
  rcases h.own.2 with ⟨rfl, h0⟩ | ⟨g, cap, cur, rfl, _⟩
  · have : V = [] := List.eq_nil_of_length_eq_zero h0
    subst this
    exact (compact_nil w).mono fun e w' ⟨h1, h2⟩ => ⟨_, h1, by rw [← h2]; exact OwnSls.nil _ _, by rw [← h2]; exact World.grownBy.refl _ _⟩
  · exact (compact_sls w B g cap V h hs).mono fun e w' ⟨h1, h2, h3⟩ => ⟨_, h1, h2, h3⟩

/-- .. and that the set lies in new blocks. -/
def SetPostN (w : World) (L : List (List Nd)) (e : Ending) (w' : World) : Prop :=
  ∃ (A : Option Addr) (n c : Nat), e = .returned (.tuple #[.slice A n c, errV (setE L)]) ∧ Ns w' A n c (setV L) ∧ (∀ a, A = some a → w.heap.size ≤ a.block) ∧ Below w.heap.size w w'
theorem ns_nil (w : World) : Ns w none 0 0 [] := ⟨rfl, Nat.le_refl _, Nat.zero_le _, fun k x hx => by simp at hx, fun x hx => by cases hx⟩
/-- What is collected of a set's parts. -/
def outP (n : Nat) (L : List (List Nd)) (k : Nat) : List Nd := setHead n :: (L.take k).flatten
theorem outP_step {n : Nat} {L : List (List Nd)} {k : Nat} (h : k < L.length) : outP n L (k + 1) = outP n L k ++ L[k] := by
  unfold outP
  rw [← List.take_append_getElem h, List.flatten_append]
  simp
theorem outP_len {n : Nat} {L : List (List Nd)} (k : Nat) : (outP n L k).length ≤ L.flatten.length + 1 := by
  unfold outP
  conv => rhs; rw [← List.take_append_drop k L]
  rw [List.flatten_append]
  simp only [List.length_cons, List.length_append]; omega
theorem outP_all {n : Nat} {L : List (List Nd)} {k : Nat} (h : L.length ≤ k) : outP n L k = setHead n :: L.flatten := by
  unfold outP; rw [List.take_of_length_le h]
theorem ndsOk_mem {L : List (List Nd)} (h : ∀ P ∈ L, NdsOk P) : NdsOk L.flatten := fun x hx => let ⟨P, hP, hx⟩ := List.mem_flatten.1 hx; h P hP x hx
theorem outP_ok {n : Nat} {L : List (List Nd)} (hn : n ≤ 5864062014634) (h : ∀ P ∈ L, NdsOk P) : NdsOk (setHead n :: L.flatten) := by
  intro x hx
  rcases List.mem_cons.1 hx with rfl | hx
  · exact ⟨Nat.zero_le _, Nat.zero_le _, by show _ ≤ (n : Int); omega, by show (n : Int) ≤ _; omega⟩
  · exact ndsOk_mem h x hx
theorem row_one (w : World) (x : Nd) : (w.alloc (.cells #[.int .i64 x.op, .int .i64 x.n, .string x.s, .string x.t] 42)).ownsRow w.heap.size 42 4 (.slice (some ⟨w.heap.size, 0, none⟩) 1 1) 1 (ndCells [x]) :=
  ⟨rfl, .inr ⟨_, 1, _, rfl, Nat.le_refl _, heap_alloc_new w _, Nat.le_refl _, by unfold maxLen; omega, rfl, rfl⟩⟩
theorem SlsAt.nds {w : World} {A : Option Addr} {V : List Sl} (h : SlsAt w A V) : ∀ P ∈ V.map Sl.P, NdsOk P := by
  intro P hP
  obtain ⟨r, hr, rfl⟩ := List.mem_map.1 hP
  obtain ⟨k, hk, rfl⟩ := List.getElem_of_mem hr
  obtain ⟨-, -, -, q⟩ := h.at hk
  exact q.ok

set_option maxHeartbeats 8000000 in
theorem val_SetOfN (A : Option Addr) (n c : Nat) (V : List Sl) (w : World) (hn : n = V.length) (hm : n ≤ 5864062014634) (hV : SlsAt w A V) :
    Calls Tryz.prog 129 #[.slice A n c] w (SetPostN w (V.map Sl.P)) := by
  obtain ⟨i0, hi, hz0, hz1, hz2⟩ := info_parts ndInfo
  have HV := Lib.hid hV
  have HN := Lib.hid hn
  clear hV hn
  go_enter Tryz.func129, Tryz.ntmps129
  go_wp2_with fail
  go_loopw [5, 6, 13] (fun _ _ i wr => ∃ k : Nat, k ≤ n ∧ i = .int .i64 k ∧ Hid (slFaults V = slFaults (V.drop k)) ∧ Hid (Below w.heap.size w wr)) (fun _ _ i _ => n - (intOf i).toNat)
  case atStart => exact ⟨0, Nat.zero_le _, rfl, rfl, Below.refl _ _⟩
  case round =>
    obtain ⟨k, hk, rfl, hE, hB⟩ := hrel
    by_cases hlt : k < n
    · have h1 : k < V.length := by rw [← HN.out]; exact hlt
      obtain ⟨a, rfl, q, hs⟩ := (HV.out.keep hB.out).at h1
      have HA := Lib.hid (hE.out.trans (slFaults_at h1))
      have C := Lib.hid (val_Check_ns hs)
      generalize V[k] = r at *
      clear hE hs
      by_cases h0 : valFault r.P = 0
      · rw [h0, errV_zero] at C
        rw [h0] at HA
        clear h0
        go_wp2_with fail
        refine (C.out).mono ?_
        rintro e w1 ⟨rfl, b1⟩
        go_wp2_with fail
        go_roundw
        case rel => exact ⟨k + 1, by omega, by go_num, HA, bh hB b1⟩
        case measure => simp [intOf]; omega
      · have HE := Lib.hid (show setE (V.map Sl.P) = valFault r.P ∧ setE (V.map Sl.P) ≠ 0 by
          have e : faults (V.map Sl.P) = valFault r.P := HA.out.trans (or2_ne h0 _)
          have e2 : setE (V.map Sl.P) = valFault r.P := by unfold setE; rw [e, or2_ne h0]
          exact ⟨e2, by rw [e2]; exact h0⟩)
        have hev := errV_ne h0
        have HEV := Lib.hid (errV_ne h0)
        rw [hev] at C
        clear h0 hev
        go_wp2_with fail
        refine (C.out).mono ?_
        rintro e w1 ⟨rfl, b1⟩
        go_wp2_with fail
        go_ret2
        refine ⟨none, 0, 0, by rw [HE.out.1, HEV.out]; rfl, by rw [setV_err HE.out.2]; exact ns_nil _, (fun a e => nomatch e), (bh hB b1).out⟩
    · have HF := Lib.hid (show faults (V.map Sl.P) = 0 from hE.out.trans (slFaults_end (by rw [← HN.out]; omega)))
      have C1 := Lib.hid (clone_sls A n c V wr HN.out (by omega) (HV.out.keep hB.out))
      clear hE
      go_wp2_with fail
      refine C1.out.mono ?_
      rintro e w1 ⟨v, rfl, hO1, b1⟩
      have C2 := Lib.hid (sort_any w1 wr.heap.size v V hO1 (by rw [← HN.out]; exact hm))
      have OB1 := Lib.hid (own_base hO1.own)
      have B1 := Lib.hid b1
      clear hO1 b1
      go_wp2_with fail
      refine C2.out.mono ?_
      rintro e w2 ⟨rfl, V', hp, hso, hO2, hg2⟩
      have C3 := Lib.hid (compact_any w2 wr.heap.size v V' hO2 (by rw [hp.length_eq, ← HN.out]; exact hm))
      have B2 := Lib.hid (B1.out.grown hg2 B1.out.size OB1.out)
      have HS := Lib.hid (show (compactL V').map Sl.P = setL (V.map Sl.P) by
        rw [compact_set hso]
        exact setL_congr fun x => (hp.map Sl.P).mem_iff)
      have HL := Lib.hid (show (compactL V').length ≤ n by have := compact_len V'; rw [hp.length_eq, ← HN.out] at this; exact this)
      clear hp hso hO2 hg2 C1 C2 B1
      go_wp2_with fail
      refine C3.out.mono ?_
      rintro e w3 ⟨v3, rfl, hO3, hg3⟩
      have B3 := Lib.hid (hB.out.trans ((B2.out.grown hg3 B2.out.size OB1.out).mono hB.out.size))
      obtain ⟨A3, c3, rfl, -, hS3⟩ := hO3.at
      generalize compactL V' = U at *
      have HU := Lib.hid hS3
      have hUn := HL.out
      clear hO3 hg3 hS3 C3 B2 OB1 hB HL
      have R0 := Lib.hid (row_one w3 (setHead U.length))
      have HP := Lib.hid (show ∀ r ∈ U, valFault r.P = 0 from fun r hr => faults_zero.1 HF.out r.P (mem_setL.1 (by rw [← HS.out]; exact List.mem_map_of_mem hr)))
      go_wp2_with fail
      go_loopw [8, 10, 35] (fun v _ i wr => ∃ k : Nat, k ≤ U.length ∧ i = .int .i64 k ∧ Hid ((outP U.length (U.map Sl.P) k).length ≤ 200 ∧ wr.ownsRow w3.heap.size 42 4 v (outP U.length (U.map Sl.P) k).length (ndCells (outP U.length (U.map Sl.P) k))) ∧ Hid (Below w3.heap.size w3 wr)) (fun _ _ i _ => U.length - (intOf i).toNat)
      case atStart => exact ⟨0, Nat.zero_le _, rfl, ⟨by simp [outP], R0.out⟩, below_box _ _⟩
      case round =>
        obtain ⟨k, hk, rfl, hR, hB⟩ := hrel
        have hsz := hB.out.size
        by_cases hlt : k < U.length
        · have hlm : k < (U.map Sl.P).length := by rw [List.length_map]; exact hlt
          have HO := Lib.hid (outP_step (n := U.length) hlm)
          obtain ⟨a, rfl, q, hs⟩ := (HU.out.keep hB.out).at hlt
          have hv := HP.out _ (List.getElem_mem hlt)
          have hg : (U.map Sl.P)[k] = U[k].P := by simp
          rw [hg] at HO
          clear hg
          generalize U[k] = r at *
          obtain ⟨hl2, hV2⟩ := isV_zero.1 hv
          obtain ⟨a2, ea, -⟩ := hs.at_.nd hV2.pos
          rw [ea] at q
          have HC := Lib.hid (show ∀ j u, (ndCells r.P)[j]? = some u → wr.cell? (a2.add j) = some u from by
            have := hs.at_
            rw [ea] at this
            exact this.cells)
          have HRN := Lib.hid hs.len
          have hrn : r.n ≤ 200 := by rw [hs.len]; exact hl2
          have hol := hR.out.1
          clear hs hv hl2 hV2 ea
          go_wp2_with (at_builtin; refine wpList_append_own _ rfl _ _ 25 rfl w3.heap.size 42 i0 _ 4 48 Tryz.underlying25 hi hz0 hz1 hz2 rfl (by decide) _ (outP U.length (U.map Sl.P) k).length (ndCells (outP U.length (U.map Sl.P) k)) rfl hR.out.2 a2 r.n r.c (ndCells r.P) rfl (by rw [ndCells_length, HRN.out]) HC.out (ndCells_one _) ?c1 ?c2 ?c3 ?_)
          case c1 => unfold maxLen; omega
          case c2 => omega
          case c3 => exact hsz
          intro v1 w5 hown hgrow _
          have B5 := Lib.hid (hB.out.grown hgrow hsz (own_base hR.out.2))
          rw [HRN.out, ← ndCells_append, ← List.length_append, ← HO.out] at hown
          have OW := Lib.hid hown
          obtain ⟨A5, c5, rfl, -⟩ := nds_of_own hown
          have OL := Lib.hid (outP_len (n := U.length) (L := U.map Sl.P) (k + 1))
          generalize hX : outP U.length (U.map Sl.P) (k + 1) = X at *
          have HX := Lib.hid hX
          clear hown hgrow hX hB hR HO HC q
          by_cases h200 : 200 < X.length
          · have HE := Lib.hid (show setE (V.map Sl.P) = 4 by
              unfold setE
              rw [HF.out, or2_zero, ← HS.out, if_pos (by have := OL.out; omega)])
            go_wp2_with fail
            go_ret2
            refine ⟨none, 0, 0, by rw [HE.out]; rfl, by rw [setV_err (by rw [HE.out]; decide)]; exact ns_nil _, (fun a e => nomatch e), B3.out.trans (B5.out.mono B3.out.size)⟩
          · go_wp2_with fail
            go_roundw
            case rel => exact ⟨k + 1, by omega, by go_num, Lib.hid (by rw [HX.out]; exact ⟨by omega, OW.out⟩), B5⟩
            case measure => simp [intOf]; omega
        · obtain ⟨A5, c5, rfl, hc5, hA5, hF5⟩ := nds_of_own hR.out.2
          have HF5 := Lib.hid (show ∀ a, A5 = some a → w.heap.size ≤ a.block from fun a e => Nat.le_trans B3.out.size (hF5 a e))
          have HX := Lib.hid (outP_all (n := U.length) (L := U.map Sl.P) (k := k) (by rw [List.length_map]; omega))
          have HE := Lib.hid (show setE (V.map Sl.P) = 0 by
            refine setE_zero.2 ⟨HF.out, ?_⟩
            have := hR.out.1
            rw [HX.out, HS.out] at this
            simpa using this)
          have NN := Lib.hid (show Ns wr A5 (outP U.length (U.map Sl.P) k).length c5 (setV (V.map Sl.P)) by
            have e : setV (V.map Sl.P) = outP U.length (U.map Sl.P) k := by
              rw [HX.out, setV_eq HE.out, ← HS.out, List.length_map]
            rw [e]
            refine ⟨rfl, hc5, by have := hR.out.1; unfold maxLen; omega, hA5, ?_⟩
            rw [HX.out]
            exact outP_ok (by omega) HU.out.nds)
          have B6 := Lib.hid (B3.out.trans (hB.out.mono B3.out.size))
          clear hR hB hc5 hA5 hF5
          go_wp2_with fail
          go_ret2
          exact ⟨A5, _, c5, by rw [HE.out]; rfl, NN.out, HF5.out, B6.out⟩
end Go.Proofs.YtcdpoamiejompaaGreatDoor
namespace Go.Proofs.YtcdpoamiejompaaGreatDoor
open Go.RowKit Go.Shelf Go.Wk
attribute [local go_sem] Oper.semAt_some

set_option maxRecDepth 100000 in
set_option maxHeartbeats 2000000 in
theorem values1_in (F : Fence) (n : Nat) (h7 : F.fn 181) (hro : F.round = none) (hn : 1 ≤ n) (l Bs n₀ : Nat) (a : Addr) (len cap : Nat) (N : List ByteArray) (hlen : len = N.length) (hreach : len * 16 ≤ 140737488351232) (hb : a.block < n₀) (J Jx : List ByteArray → World → Prop)
    (hY : ∀ pre x W, J pre W → pre.length < len → YieldAt F (n - 1) Tryz.prog l #[.string x] W fun e W' =>
      (e = .returned (.bool true) ∧ J (pre ++ [x]) W' ∧ Below n₀ W W') ∨ (e = .returned (.bool false) ∧ Jx (pre ++ [x]) W'))
    (W : World) (hBs : W.cell? ⟨Bs, 0, none⟩ = some (.slice (some a) len cap)) (hc : ∀ j, (h : j < N.length) → W.cell? (a.add j) = some (.string N[j])) (h0 : J [] W) :
    CallsIn F n Tryz.prog 181 #[.func (.yield l) #[] #[], .pointer (some ⟨Bs, 0, none⟩)] W fun e W' => (∃ v, e = .returned v) ∧
      ((∃ ys, ys = N ∧ J ys W') ∨ (∃ pre, pre <+: N ∧ Jx pre W')) := by
  refine callsIn_of_wp Tryz.func181 rfl h7 ?_ hro
  simp only [Tryz.ntmps181, List.size_toArray, List.length_cons, List.length_nil, Nat.reduceAdd, Nat.reduceSub, Array.replicate_succ, Array.replicate_zero, List.push_toArray, List.append_toArray, List.nil_append, List.cons_append]
  have HL := Lib.hid hlen
  clear hlen
  gi_wp2
  gi_loopw [7] (fun i wr => ∃ k : Nat, k ≤ len ∧ i = .int .i64 k ∧ J (N.take k) wr ∧ Below n₀ W wr)
    (fun i _ => len - (intOf i).toNat)
  case atStart => exact ⟨0, Nat.zero_le _, rfl, h0, Below.refl _ _⟩
  case round =>
    obtain ⟨k, hk, rfl, hJs, hnx⟩ := hrel
    by_cases hlt : k < len
    · have hkN : k < N.length := by rw [← HL.out]; exact hlt
      have hcx' : wr.cell? (a.add k) = some (.string N[k]) := (hnx.cell (p := a.add k) (by unfold Addr.add; split <;> exact hb)).trans (hc k hkN)
      obtain ⟨fn, tmps, assign, body, hy, hR⟩ := hY _ N[k] wr hJs (by rw [List.length_take]; omega)
      rw [List.take_append_getElem hkN] at hR
      gi_wp2
      refine hR.mono ?_
      rintro e W3 (⟨rfl, hJ3, hk3⟩ | ⟨rfl, hJx3⟩)
      · gi_wp2
        go_roundw
        case rel => exact ⟨k + 1, by omega, by simp, hJ3, hnx.trans hk3⟩
        case measure => simp [intOf]; omega
      · gi_wp2
        refine bodyPost_ret (results_none rfl _ _ _) rfl ?_
        exact ⟨⟨_, rfl⟩, .inr ⟨_, List.take_prefix _ _, hJx3⟩⟩
    · obtain rfl : k = len := by omega
      rw [List.take_of_length_le (by rw [← HL.out]; exact Nat.le_refl _)] at hJs
      gi_wp2
      go_end0
      exact ⟨⟨_, rfl⟩, .inl ⟨_, rfl, hJs⟩⟩

set_option maxRecDepth 100000 in
set_option maxHeartbeats 1000000 in
theorem values1_none_in (F : Fence) (n : Nat) (h7 : F.fn 181) (hro : F.round = none) (l Bs : Nat) (A : Option Addr) (cap : Nat) (J : List ByteArray → World → Prop) (W : World) (hBs : W.cell? ⟨Bs, 0, none⟩ = some (.slice A 0 cap)) (h0 : J [] W) :
    CallsIn F n Tryz.prog 181 #[.func (.yield l) #[] #[], .pointer (some ⟨Bs, 0, none⟩)] W fun e W' => (∃ v, e = .returned v) ∧ J [] W' := by
  refine callsIn_of_wp Tryz.func181 rfl h7 ?_ hro
  simp only [Tryz.ntmps181, List.size_toArray, List.length_cons, List.length_nil, Nat.reduceAdd, Nat.reduceSub, Array.replicate_succ, Array.replicate_zero, List.push_toArray, List.append_toArray, List.nil_append, List.cons_append]
  gi_wp2
  gi_loopw [7] (fun i wr => i = .int .i64 0 ∧ J [] wr) (fun _ _ => 0)
  case atStart => exact ⟨rfl, h0⟩
  case round =>
    obtain ⟨rfl, hJs⟩ := hrel
    gi_wp2
    go_end0
    exact ⟨⟨_, rfl⟩, hJs⟩

set_option maxHeartbeats 1000000 in
theorem values_in (F : Fence) (n : Nat) (h5 : F.fn 164) (hro : F.round = none) (a : Option Addr) (len cap : Nat) (w : World) :
    CallsIn F n Tryz.prog 164 #[.slice a len cap] w fun e w' => e = .returned (.func (.func 181) #[] #[.pointer (some ⟨w.heap.size, 0, none⟩)]) ∧ w' = w.alloc (.cells #[.slice a len cap] 58) := by
  refine callsIn_of_wp Tryz.func164 rfl h5 ?_ hro
  simp only [Tryz.ntmps164, List.size_toArray, List.length_cons, List.length_nil, Nat.reduceAdd, Nat.reduceSub, Array.replicate_succ, Array.replicate_zero, List.push_toArray, List.append_toArray, List.nil_append, List.cons_append]
  gi_wp2
  go_ret
  exact ⟨rfl, rfl⟩
/-- All the texts come, in their order; or the first ones. -/
theorem values_stops (F : Fence) (n : Nat) (h7 : F.fn 181) (hro : F.round = none) (hn : 1 ≤ n) (Bs n₀ : Nat) (A : Option Addr) (cap : Nat) (N : List ByteArray) (hreach : N.length * 16 ≤ 140737488351232) (w : World) (hBs : Bs < w.heap.size)
    (hc : w.cell? ⟨Bs, 0, none⟩ = some (.slice A N.length cap)) (hI : TxAt w A N) (hA : ∀ a, A = some a → 0 < N.length → a.block < n₀) :
    SeqStopsK F n Tryz.prog 181 #[.pointer (some ⟨Bs, 0, none⟩)] (fun x : ByteArray => #[Value.string x]) (Below n₀) (fun ys => ys = N) (fun pre => pre <+: N) N.length w := fun l J Jx W hW _ _ hY h0 => by
  have hc' := (hW.cell (p := ⟨Bs, 0, none⟩) hBs).trans hc
  have hI' := hI.keep hW
  by_cases hz : 0 < N.length
  · obtain ⟨a, rfl, -⟩ := hI' 0 N[0] (List.getElem?_eq_getElem hz)
    have hcs : ∀ j, (h : j < N.length) → W.cell? (a.add j) = some (.string N[j]) := fun j h => by
      obtain ⟨a2, e, c⟩ := hI' j N[j] (List.getElem?_eq_getElem h)
      injection e with e; subst e; exact c
    exact values1_in F n h7 hro hn l Bs n₀ a N.length cap N rfl hreach (hA a rfl hz) J Jx hY W hc' hcs h0
  · have : N = [] := List.eq_nil_of_length_eq_zero (by omega)
    subst this
    exact (values1_none_in F n h7 hro l Bs A cap J W hc' h0).mono fun e W' ⟨he, hj⟩ => ⟨he, .inl ⟨_, rfl, hj⟩⟩
end Go.Proofs.YtcdpoamiejompaaGreatDoor
namespace Go.Proofs.YtcdpoamiejompaaGreatDoor
open Go.RowKit Go.Shelf Go.Wk Go.Sort
attribute [local go_sem] Oper.semAt_some

set_option maxRecDepth 100000 in
set_option maxHeartbeats 2000000 in
/-- slices.AppendSeq(nil, seq). -/
theorem appendSeq_in (F : Fence) (n : Nat) (h3 : F.fn 191) (hro : F.round = none) (hn : 3 ≤ n) (gf : Nat) (lb : Array Value) (hFg : F.fn gf) (eg : ∀ args w, (callFunc gf args).run Tryz.prog w = .ok (.enter gf args) w)
    (n₀ : Nat) (N : List ByteArray) (hreach : N.length * 16 ≤ 140737488351232) (w : World) (hn₀ : n₀ ≤ w.heap.size) (hseq : SeqStopsK F (n - 1) Tryz.prog gf lb (fun x : ByteArray => #[Value.string x]) (Below n₀) (fun ys => ys = N) (fun pre => pre <+: N) N.length w) :
    CallsIn F n Tryz.prog 191 #[.slice none 0 0, .func (.func gf) #[] lb] w fun e w' => ∃ v, e = .returned v ∧ w'.ownsRow w.heap.size 9 1 v N.length (N.map Value.string) ∧ (v = .slice none 0 0 ↔ N = []) ∧ Below w.heap.size w w' := by
  have h1 : 1 ≤ n := by omega
  obtain ⟨i0, hi, hz0, hz1, hz2⟩ := info_parts strInfo
  refine callsIn_of_wp_marks Tryz.func191 rfl h3 ?_ hro
  simp only [Tryz.ntmps191, List.size_toArray, List.length_cons, List.length_nil, Nat.reduceAdd, Nat.reduceSub, Array.replicate_succ, Array.replicate_zero, List.push_toArray, List.append_toArray, List.nil_append, List.cons_append]
  gi_wp2
  have bO := Boxed.new w 58 (.slice none 0 0)
  have hB0 : Below w.heap.size w (w.alloc (.cells #[.slice none 0 0] 58)) := (Below.refl _ w).alloc (Nat.le_refl _) _
  refine wpIn_rangeFunc_ownG hro h1 (gf := gf) (lb := lb) rfl hFg eg hseq belowK_t (belowK_b (by simp; omega)) hB0 (fun _ => rfl)
    (fun pre W => (∃ v, Boxed W w.heap.size 58 v ∧ W.ownsRow w.heap.size 9 1 v pre.length (pre.map Value.string) ∧ (v = .slice none 0 0 ↔ pre = [])) ∧ Below w.heap.size w W)
    (fun _ _ _ => False)
    (OwnFrom.and (Own.from (holdsRow_own w.heap.size w.heap.size 58 9 1 (fun pre : List ByteArray => pre.length) (fun pre => pre.map Value.string) (fun pre v => v = .slice none 0 0 ↔ pre = [])) _) (ownFrom_below (Nat.le_refl _) (by simp)))
    (fun _ _ _ _ _ hs _ _ => hs)
    ⟨⟨_, bO, World.ownsRow_nil _ _ _ _, by simp⟩, hB0⟩
    (fun x => { tmps := #[.slice none 0 0, .func (.func gf) #[] lb, .pointer (some ⟨w.heap.size, 0, none⟩), undef, .slice none 0 0, .string x, .func (.func gf) #[] lb, .string x, undef, undef, undef, undef, undef], defers := [] }) ?assign ?body ?done ?stop
  case assign =>
    intro l x W K hK
    gi_wp2
    exact hK
  case body =>
    rintro l pre x W ⟨⟨v, hv, hrow, hnil⟩, hB⟩ hlt
    have hc := hv.cell
    gi_wp2_with (gi_at_builtin; refine wpListIn_append_own _ rfl _ _ 58 rfl w.heap.size 9 i0 (.string ⟨#[]⟩) 1 16 Tryz.underlying58 hi hz0 hz1 hz2 rfl (by decide) _ _ _ rfl (hrow.alloc _) ⟨W.heap.size, 0, none⟩ 1 1 [.string x] rfl rfl (cell_one_new _ _ _) (by simp [Value.oneCell']) (by unfold maxLen; omega) (by omega) (by have := hB.size; simp; omega) ?_; intro v' w1 hown' hgrow _; obtain ⟨g', cap', rfl⟩ := ownsRow_succ hown'; obtain ⟨hv1, hv2, hr2, hk2, hb2⟩ := hv.appended (by decide) hrow hB.size (Nat.le_refl _) hown' hgrow; have hc1 := hv1.cell; have hf1 := hv1.frozen)
    exact ⟨hk2.from _, hb2.mono hn₀, ⟨_, hv2, by simpa using hr2, by simp⟩, hB.trans hb2⟩
  case done =>
    rintro D ys W hD rfl ⟨⟨v, hv, hrow, hnil⟩, hB⟩ hK
    have hc := hv.cell
    gi_wp2
    refine ⟨by simp, .inl ⟨_, _, rfl, run_takeDeferred hK, ?_⟩⟩
    exact ⟨_, results_tmp rfl _ _ _, v, rfl, ownsRow_putObj hrow _ hK rfl, hnil, hB.trans (belowK_b (w := w) (Nat.le_refl _) W D _ _ (by simp at hD; omega) hK rfl rfl)⟩
  case stop =>
    rintro D c pre W _ _ h _
    exact h.elim

set_option maxRecDepth 100000 in
set_option maxHeartbeats 1000000 in
theorem collect_in (F : Fence) (n : Nat) (h8 : F.fn 179) (h3 : F.fn 191) (hro : F.round = none) (hn : 4 ≤ n) (gf : Nat) (lb : Array Value) (hFg : F.fn gf) (eg : ∀ args w, (callFunc gf args).run Tryz.prog w = .ok (.enter gf args) w)
    (n₀ : Nat) (N : List ByteArray) (hreach : N.length * 16 ≤ 140737488351232) (w : World) (hn₀ : n₀ ≤ w.heap.size) (hseq : SeqStopsK F (n - 1 - 1) Tryz.prog gf lb (fun x : ByteArray => #[Value.string x]) (Below n₀) (fun ys => ys = N) (fun pre => pre <+: N) N.length w) :
    CallsIn F n Tryz.prog 179 #[.func (.func gf) #[] lb] w fun e w' => ∃ v, e = .returned v ∧ w'.ownsRow w.heap.size 9 1 v N.length (N.map Value.string) ∧ (v = .slice none 0 0 ↔ N = []) ∧ Below w.heap.size w w' := by
  have h1 : 1 ≤ n := by omega
  refine callsIn_of_wp Tryz.func179 rfl h8 ?_ hro
  simp only [Tryz.ntmps179, List.size_toArray, List.length_cons, List.length_nil, Nat.reduceAdd, Nat.reduceSub, Array.replicate_succ, Array.replicate_zero, List.push_toArray, List.append_toArray, List.nil_append, List.cons_append]
  gi_wp2_with (gi_at_call 191; refine (appendSeq_in F (n - 1) h3 hro (by omega) gf lb hFg eg n₀ N hreach _ hn₀ hseq).mono ?_; rintro e w1 ⟨v, rfl, hrow, hnil, hb⟩)
  go_ret
  exact ⟨v, rfl, hrow, hnil, hb⟩

/-- The names in their order, as slices.Sort puts them. -/
def sortT (N : List ByteArray) : List (List UInt8) := (N.map fun x => x.data.toList).mergeSort fun x y => decide (x ≤ y)
theorem sortT_length (N : List ByteArray) : (sortT N).length = N.length := by simp [sortT]
theorem enc_names (N : List ByteArray) : (N.map fun x => x.data.toList).map encStr = N.map Value.string := by
  rw [List.map_map]; apply List.map_congr_left; intro x _; simp [encStr]

set_option maxRecDepth 100000 in
set_option maxHeartbeats 2000000 in
/-- slices.Sorted(slices.Values(names)): the iterator lies boxed in Bs. -/
theorem sorted_call (Bs n₀ : Nat) (A : Option Addr) (cap : Nat) (N : List ByteArray) (hreach : N.length * 16 ≤ 140737488351232) (w : World) (hBs : Bs < w.heap.size) (hn₀ : n₀ ≤ w.heap.size)
    (hc : w.cell? ⟨Bs, 0, none⟩ = some (.slice A N.length cap)) (hI : TxAt w A N) (hA : ∀ a, A = some a → 0 < N.length → a.block < n₀) :
    Calls Tryz.prog 163 #[.func (.func 181) #[] #[.pointer (some ⟨Bs, 0, none⟩)]] w fun e w' => ∃ v, e = .returned v ∧ w'.ownsRow w.heap.size 9 1 v N.length ((sortT N).map encStr) ∧ Below w.heap.size w w' := by
  have hC := callsIn_wide.1 (collect_in Fence.wide 9 trivial trivial rfl (by omega) 181 #[.pointer (some ⟨Bs, 0, none⟩)] trivial (enters_of Tryz.func181 (by kernel_rfl) rfl) n₀ N hreach w hn₀ (values_stops Fence.wide 7 trivial rfl (by omega) Bs n₀ A cap N hreach w hBs hc hI hA))
  have HC := Lib.hid hC
  have HR := Lib.hid hreach
  clear hC hI hA hc hreach
  go_enter Tryz.func163, Tryz.ntmps163
  go_wp2_with fail
  refine (HC.out).mono ?_
  rintro e w1 ⟨v, rfl, hrow, hnil, hb⟩
  rcases hrow.2 with ⟨rfl, hz⟩ | ⟨gb, cp, cur, rfl, hbase, hgb, r1, r2, r3, r4⟩
  · have hss : N = [] := List.eq_nil_of_length_eq_zero hz
    subst hss
    go_wp2_with fail
    refine (Tryz.slices_Sort_string_none none 0 w1).mono ?_
    rintro e w2 ⟨rfl, rfl⟩
    go_wp2_with fail
    go_ret
    exact ⟨_, rfl, by simpa [sortT] using hrow, hb⟩
  · have r5 := r4
    rw [← enc_names] at r5
    have hlen : (N.map fun x => x.data.toList).length = N.length := List.length_map _
    have hH : Holds encStr w1 gb 0 (N.map fun x => x.data.toList).toArray := holds_of_block hgb (by rw [hlen]; simpa using r5)
    have hgl : gb < w1.heap.size := (Array.getElem?_eq_some_iff.1 hgb).1
    have cS := Lib.hid (Tryz.slices_Sort_string gb 0 cp _ w1 hH hgl (by rw [hlen]; have := HR.out; omega))
    rw [hlen] at cS
    go_wp2_with fail
    refine (cS.out).mono ?_
    rintro e w2 ⟨rfl, nn, os, rfl⟩
    go_wp2_with fail
    go_ret
    refine ⟨_, rfl, ?_, hb.grown (grownBy_sorted _) hb.size (fun j hj => by cases hj; exact hbase)⟩
    have := ownsRow_sorted (w := w1) (n := nn) (os := os) (ss := N.map fun x => x.data.toList) (ts := sortT N) (by rw [sortT_length, hlen]) hbase hgb (by rw [hlen]; exact r1) r2 r3
    rw [hlen] at this
    exact this
end Go.Proofs.YtcdpoamiejompaaGreatDoor
namespace Go.Wk
theorem recChk_step {N : List ByteArray} {x : Fld} {r : List Fld} : recChk N (x :: r) = or2 (nameFault x.1) (or2 (if hadB N x.1 then 6 else 0) (or2 (valFault x.2) (recChk (N ++ [x.1]) r))) := rfl
/-- What is checked behind the first k. -/
theorem chk_at {N : List ByteArray} {L : List (List Nd)} (hl : N.length = L.length) {k : Nat} (h : k < N.length) :
    recChk (N.take k) ((N.zip L).drop k) = or2 (nameFault N[k]) (or2 (if hadB (N.take k) N[k] then 6 else 0) (or2 (valFault (L[k]'(by omega))) (recChk (N.take (k + 1)) ((N.zip L).drop (k + 1))))) := by
  have hz : k < (N.zip L).length := by simp; omega
  rw [List.drop_eq_getElem_cons hz, recChk_step, List.getElem_zip, List.take_append_getElem h]
end Go.Wk
namespace Go.Proofs.YtcdpoamiejompaaGreatDoor
open Go.RowKit Go.Wk Go.Sort
set_option maxRecDepth 100000

theorem TxAt.at {w : World} {A : Option Addr} {N : List ByteArray} (h : TxAt w A N) {k : Nat} (hk : k < N.length) : ∃ a, A = some a ∧ w.cell? (a.add k) = some (.string N[k]) := h k N[k] (List.getElem?_eq_getElem hk)

theorem flatR_ok {Z : List Fld} (h : ∀ y ∈ Z, y.1.size ≤ maxLen ∧ NdsOk y.2) : NdsOk (flatR Z) := by
  induction Z with
  | nil => intro x hx; cases hx
  | cons y r ih =>
    intro x hx
    simp only [flatR] at hx
    rcases List.mem_cons.1 hx with rfl | hx
    · exact ⟨(h y (by simp)).1, Nat.zero_le _, by show _ ≤ (0 : Int); omega, by show (0 : Int) ≤ _; omega⟩
    · rcases List.mem_append.1 hx with hx | hx
      · exact (h y (by simp)).2 x hx
      · exact ih (fun z hz => h z (by simp [hz])) x hx
end Go.Proofs.YtcdpoamiejompaaGreatDoor
