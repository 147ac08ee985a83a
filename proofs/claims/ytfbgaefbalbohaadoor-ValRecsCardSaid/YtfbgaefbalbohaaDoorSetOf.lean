/-
  val.SetOf: the set of values.
-/
import Derived.Test.YtfbgaefbalbohaaDoorCompact
import Derived.Test.YtfbgaefbalbohaaDoorClone2
import Derived.Test.YtfbgaefbalbohaaDoorParts
import Derived.Test.YtfbgaefbalbohaaDoorRefVal
namespace Go.Proofs.YtfbgaefbalbohaaDoor
open Go.RowKit Go.Wk Go.Sort
set_option maxRecDepth 100000

def SortPost (w : World) (B : Nat) (v : Value) (V : List Sl) (e : Ending) (w' : World) : Prop :=
  e = .returned (.tuple #[]) ∧ ∃ V' : List Sl, V'.Perm V ∧ V'.Pairwise (fun a b => cmpNds a.P b.P ≤ 0) ∧ OwnSls w' B v V' ∧ w.grownBy w' v.ownBlock
theorem sorted_pair {V : List Sl} (h : SortedSl V) : V.Pairwise (fun a b => cmpNds a.P b.P ≤ 0) :=
  List.pairwise_iff_getElem.2 fun i j _ hj hij => h i j hij hj
theorem sort_any (w : World) (B : Nat) (v : Value) (V : List Sl) (h : OwnSls w B v V) (hs : V.length ≤ 5864062014634) :
    Calls Tryd.prog 41 #[v, .func (.func 42) #[] #[]] w (SortPost w B v V) := by
  rcases h.own.2 with ⟨rfl, h0⟩ | ⟨g, cap, cur, rfl, _⟩
  · have : V = [] := List.eq_nil_of_length_eq_zero h0
    subst this
    exact (sort_none w none 0 _).mono fun e w' ⟨h1, h2⟩ => ⟨h1, [], List.Perm.refl _, List.Pairwise.nil, by rw [h2]; exact h, by rw [h2]; exact World.grownBy.refl _ _⟩
  · exact (sort_Sls w B g cap V h hs).mono fun e w' ⟨h1, V', h2, h3, h4, h5⟩ => ⟨h1, V', h2, sorted_pair h3, h4, h5⟩
def CompactPost (w : World) (B : Nat) (v : Value) (V : List Sl) (e : Ending) (w' : World) : Prop := ∃ v', e = .returned v' ∧ OwnSls w' B v' (compactL V) ∧ w.grownBy w' v.ownBlock
theorem compact_nil (w : World) : Calls Tryd.prog 43 #[.slice none 0 0, .func (.func 44) #[] #[]] w fun e w' => e = .returned (.slice none 0 0) ∧ w = w' := by
  go_enter Tryd.func43, Tryd.ntmps43
  go_wp2
  go_ret
  exact ⟨rfl, rfl⟩
theorem compact_any (w : World) (B : Nat) (v : Value) (V : List Sl) (h : OwnSls w B v V) (hs : V.length ≤ 5864062014634) :
    Calls Tryd.prog 43 #[v, .func (.func 44) #[] #[]] w (CompactPost w B v V) := by
  rcases h.own.2 with ⟨rfl, h0⟩ | ⟨g, cap, cur, rfl, _⟩
  · have : V = [] := List.eq_nil_of_length_eq_zero h0
    subst this
    exact (compact_nil w).mono fun e w' ⟨h1, h2⟩ => ⟨_, h1, by rw [← h2]; exact OwnSls.nil _ _, by rw [← h2]; exact World.grownBy.refl _ _⟩
  · exact (compact_sls w B g cap V h hs).mono fun e w' ⟨h1, h2, h3⟩ => ⟨_, h1, h2, h3⟩

/-- What SetOf tells. -/
def SetPost (w : World) (L : List (List Nd)) (e : Ending) (w' : World) : Prop :=
  ∃ (A : Option Addr) (n c : Nat), e = .returned (.tuple #[.slice A n c, errV (setE L)]) ∧ Ns w' A n c (setV L) ∧ Below w.heap.size w w'
theorem ns_nil (w : World) : Ns w none 0 0 [] := ⟨rfl, Nat.le_refl _, Nat.zero_le _, fun k x hx => by simp at hx, fun x hx => by cases hx⟩
/-- What is collected of a set's parts. -/
def outP (n : Nat) (L : List (List Nd)) (k : Nat) : List Nd := setHead n :: (L.take k).flatten
theorem outP_step {n : Nat} {L : List (List Nd)} {k : Nat} (h : k < L.length) : outP n L (k + 1) = outP n L k ++ L[k] := by
  unfold outP
  rw [← List.take_append_getElem h, List.flatten_append]
  simp
theorem outP_len {n : Nat} {L : List (List Nd)} (k : Nat) : (outP n L k).length ≤ L.flatten.length + 1 := by
  unfold outP
  conv => rhs; rw [← List.take_append_drop k L]
  rw [List.flatten_append]
  simp only [List.length_cons, List.length_append]; omega
theorem outP_all {n : Nat} {L : List (List Nd)} {k : Nat} (h : L.length ≤ k) : outP n L k = setHead n :: L.flatten := by
  unfold outP; rw [List.take_of_length_le h]
theorem ndsOk_mem {L : List (List Nd)} (h : ∀ P ∈ L, NdsOk P) : NdsOk L.flatten := fun x hx => let ⟨P, hP, hx⟩ := List.mem_flatten.1 hx; h P hP x hx
theorem outP_ok {n : Nat} {L : List (List Nd)} (hn : n ≤ 5864062014634) (h : ∀ P ∈ L, NdsOk P) : NdsOk (setHead n :: L.flatten) := by
  intro x hx
  rcases List.mem_cons.1 hx with rfl | hx
  · exact ⟨Nat.zero_le _, Nat.zero_le _, by show _ ≤ (n : Int); omega, by show (n : Int) ≤ _; omega⟩
  · exact ndsOk_mem h x hx
theorem row_one (w : World) (x : Nd) : (w.alloc (.cells #[.int .i64 x.op, .int .i64 x.n, .string x.s, .string x.t] 45)).ownsRow w.heap.size 45 4 (.slice (some ⟨w.heap.size, 0, none⟩) 1 1) 1 (ndCells [x]) :=
  ⟨rfl, .inr ⟨_, 1, _, rfl, Nat.le_refl _, heap_alloc_new w _, Nat.le_refl _, by unfold maxLen; omega, rfl, rfl⟩⟩
theorem SlsAt.nds {w : World} {A : Option Addr} {V : List Sl} (h : SlsAt w A V) : ∀ P ∈ V.map Sl.P, NdsOk P := by
  intro P hP
  obtain ⟨r, hr, rfl⟩ := List.mem_map.1 hP
  obtain ⟨k, hk, rfl⟩ := List.getElem_of_mem hr
  obtain ⟨-, -, -, q⟩ := h.at hk
  exact q.ok

set_option maxHeartbeats 8000000 in
theorem val_SetOf (A : Option Addr) (n c : Nat) (V : List Sl) (w : World) (hn : n = V.length) (hm : n ≤ 5864062014634) (hV : SlsAt w A V) :
    Calls Tryd.prog 14 #[.slice A n c] w (SetPost w (V.map Sl.P)) := by
  obtain ⟨i0, hi, hz0, hz1, hz2⟩ := info_parts ndInfo
  have HV := Lib.hid hV
  have HN := Lib.hid hn
  clear hV hn
  go_enter Tryd.func14, Tryd.ntmps14
  go_wp2_with fail
  go_loopw [5, 6, 13] (fun _ _ i wr => ∃ k : Nat, k ≤ n ∧ i = .int .i64 k ∧ Hid (slFaults V = slFaults (V.drop k)) ∧ Hid (Below w.heap.size w wr)) (fun _ _ i _ => n - (intOf i).toNat)
  case atStart => exact ⟨0, Nat.zero_le _, rfl, rfl, Below.refl _ _⟩
  case round =>
    obtain ⟨k, hk, rfl, hE, hB⟩ := hrel
    by_cases hlt : k < n
    · have h1 : k < V.length := by rw [← HN.out]; exact hlt
      obtain ⟨a, rfl, q, hs⟩ := (HV.out.keep hB.out).at h1
      have HA := Lib.hid (hE.out.trans (slFaults_at h1))
      have C := Lib.hid (val_Check_ns hs)
      generalize V[k] = r at *
      clear hE hs
      by_cases h0 : valFault r.P = 0
      · rw [h0, errV_zero] at C
        rw [h0] at HA
        clear h0
        go_wp2_with fail
        refine (C.out).mono ?_
        rintro e w1 ⟨rfl, b1⟩
        go_wp2_with fail
        go_roundw
        case rel => exact ⟨k + 1, by omega, by go_num, HA, bh hB b1⟩
        case measure => simp [intOf]; omega
      · have HE := Lib.hid (show setE (V.map Sl.P) = valFault r.P ∧ setE (V.map Sl.P) ≠ 0 by
          have e : faults (V.map Sl.P) = valFault r.P := HA.out.trans (or2_ne h0 _)
          have e2 : setE (V.map Sl.P) = valFault r.P := by unfold setE; rw [e, or2_ne h0]
          exact ⟨e2, by rw [e2]; exact h0⟩)
        have hev := errV_ne h0
        have HEV := Lib.hid (errV_ne h0)
        rw [hev] at C
        clear h0 hev
        go_wp2_with fail
        refine (C.out).mono ?_
        rintro e w1 ⟨rfl, b1⟩
        go_wp2_with fail
        go_ret2
        refine ⟨none, 0, 0, by rw [HE.out.1, HEV.out]; rfl, by rw [setV_err HE.out.2]; exact ns_nil _, (bh hB b1).out⟩
    · have HF := Lib.hid (show faults (V.map Sl.P) = 0 from hE.out.trans (slFaults_end (by rw [← HN.out]; omega)))
      have C1 := Lib.hid (clone_sls A n c V wr HN.out (by omega) (HV.out.keep hB.out))
      clear hE
      go_wp2_with fail
      refine C1.out.mono ?_
      rintro e w1 ⟨v, rfl, hO1, b1⟩
      have C2 := Lib.hid (sort_any w1 wr.heap.size v V hO1 (by rw [← HN.out]; exact hm))
      have OB1 := Lib.hid (own_base hO1.own)
      have B1 := Lib.hid b1
      clear hO1 b1
      go_wp2_with fail
      refine C2.out.mono ?_
      rintro e w2 ⟨rfl, V', hp, hso, hO2, hg2⟩
      have C3 := Lib.hid (compact_any w2 wr.heap.size v V' hO2 (by rw [hp.length_eq, ← HN.out]; exact hm))
      have B2 := Lib.hid (B1.out.grown hg2 B1.out.size OB1.out)
      have HS := Lib.hid (show (compactL V').map Sl.P = setL (V.map Sl.P) by
        rw [compact_set hso]
        exact setL_congr fun x => (hp.map Sl.P).mem_iff)
      have HL := Lib.hid (show (compactL V').length ≤ n by have := compact_len V'; rw [hp.length_eq, ← HN.out] at this; exact this)
      clear hp hso hO2 hg2 C1 C2 B1
      go_wp2_with fail
      refine C3.out.mono ?_
      rintro e w3 ⟨v3, rfl, hO3, hg3⟩
      have B3 := Lib.hid (hB.out.trans ((B2.out.grown hg3 B2.out.size OB1.out).mono hB.out.size))
      obtain ⟨A3, c3, rfl, -, hS3⟩ := hO3.at
      generalize compactL V' = U at *
      have HU := Lib.hid hS3
      have hUn := HL.out
      clear hO3 hg3 hS3 C3 B2 OB1 hB HL
      have R0 := Lib.hid (row_one w3 (setHead U.length))
      have HP := Lib.hid (show ∀ r ∈ U, valFault r.P = 0 from fun r hr => faults_zero.1 HF.out r.P (mem_setL.1 (by rw [← HS.out]; exact List.mem_map_of_mem hr)))
      go_wp2_with fail
      go_loopw [8, 10, 35] (fun v _ i wr => ∃ k : Nat, k ≤ U.length ∧ i = .int .i64 k ∧ Hid ((outP U.length (U.map Sl.P) k).length ≤ 200 ∧ wr.ownsRow w3.heap.size 45 4 v (outP U.length (U.map Sl.P) k).length (ndCells (outP U.length (U.map Sl.P) k))) ∧ Hid (Below w3.heap.size w3 wr)) (fun _ _ i _ => U.length - (intOf i).toNat)
      case atStart => exact ⟨0, Nat.zero_le _, rfl, ⟨by simp [outP], R0.out⟩, below_box _ _⟩
      case round =>
        obtain ⟨k, hk, rfl, hR, hB⟩ := hrel
        have hsz := hB.out.size
        by_cases hlt : k < U.length
        · have hlm : k < (U.map Sl.P).length := by rw [List.length_map]; exact hlt
          have HO := Lib.hid (outP_step (n := U.length) hlm)
          obtain ⟨a, rfl, q, hs⟩ := (HU.out.keep hB.out).at hlt
          have hv := HP.out _ (List.getElem_mem hlt)
          have hg : (U.map Sl.P)[k] = U[k].P := by simp
          rw [hg] at HO
          clear hg
          generalize U[k] = r at *
          obtain ⟨hl2, hV2⟩ := isV_zero.1 hv
          obtain ⟨a2, ea, -⟩ := hs.at_.nd hV2.pos
          rw [ea] at q
          have HC := Lib.hid (show ∀ j u, (ndCells r.P)[j]? = some u → wr.cell? (a2.add j) = some u from by
            have := hs.at_
            rw [ea] at this
            exact this.cells)
          have HRN := Lib.hid hs.len
          have hrn : r.n ≤ 200 := by rw [hs.len]; exact hl2
          have hol := hR.out.1
          clear hs hv hl2 hV2 ea
          go_wp2_with (at_builtin; refine wpList_append_own _ rfl _ _ 31 rfl w3.heap.size 45 i0 _ 4 48 Tryd.underlying31 hi hz0 hz1 hz2 rfl (by decide) _ (outP U.length (U.map Sl.P) k).length (ndCells (outP U.length (U.map Sl.P) k)) rfl hR.out.2 a2 r.n r.c (ndCells r.P) rfl (by rw [ndCells_length, HRN.out]) HC.out (ndCells_one _) ?c1 ?c2 ?c3 ?_)
          case c1 => unfold maxLen; omega
          case c2 => omega
          case c3 => exact hsz
          intro v1 w5 hown hgrow _
          have B5 := Lib.hid (hB.out.grown hgrow hsz (own_base hR.out.2))
          rw [HRN.out, ← ndCells_append, ← List.length_append, ← HO.out] at hown
          have OW := Lib.hid hown
          obtain ⟨A5, c5, rfl, -⟩ := nds_of_own hown
          have OL := Lib.hid (outP_len (n := U.length) (L := U.map Sl.P) (k + 1))
          generalize hX : outP U.length (U.map Sl.P) (k + 1) = X at *
          have HX := Lib.hid hX
          clear hown hgrow hX hB hR HO HC q
          by_cases h200 : 200 < X.length
          · have HE := Lib.hid (show setE (V.map Sl.P) = 4 by
              unfold setE
              rw [HF.out, or2_zero, ← HS.out, if_pos (by have := OL.out; omega)])
            go_wp2_with fail
            go_ret2
            refine ⟨none, 0, 0, by rw [HE.out]; rfl, by rw [setV_err (by rw [HE.out]; decide)]; exact ns_nil _, B3.out.trans (B5.out.mono B3.out.size)⟩
          · go_wp2_with fail
            go_roundw
            case rel => exact ⟨k + 1, by omega, by go_num, Lib.hid (by rw [HX.out]; exact ⟨by omega, OW.out⟩), B5⟩
            case measure => simp [intOf]; omega
        · obtain ⟨A5, c5, rfl, hc5, hA5, -⟩ := nds_of_own hR.out.2
          have HX := Lib.hid (outP_all (n := U.length) (L := U.map Sl.P) (k := k) (by rw [List.length_map]; omega))
          have HE := Lib.hid (show setE (V.map Sl.P) = 0 by
            refine setE_zero.2 ⟨HF.out, ?_⟩
            have := hR.out.1
            rw [HX.out, HS.out] at this
            simpa using this)
          have NN := Lib.hid (show Ns wr A5 (outP U.length (U.map Sl.P) k).length c5 (setV (V.map Sl.P)) by
            have e : setV (V.map Sl.P) = outP U.length (U.map Sl.P) k := by
              rw [HX.out, setV_eq HE.out, ← HS.out, List.length_map]
            rw [e]
            refine ⟨rfl, hc5, by have := hR.out.1; unfold maxLen; omega, hA5, ?_⟩
            rw [HX.out]
            exact outP_ok (by omega) HU.out.nds)
          have B6 := Lib.hid (B3.out.trans (hB.out.mono B3.out.size))
          clear hR hB hc5 hA5
          go_wp2_with fail
          go_ret2
          exact ⟨A5, _, c5, by rw [HE.out]; rfl, NN.out, B6.out⟩
end Go.Proofs.YtfbgaefbalbohaaDoor
