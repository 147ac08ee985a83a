/-
  The reference's SetOf: the least above the last one, again and again.
-/
import Derived.Test.YtfbgaefbalbohaaDoorSetOf
import Derived.Laws.OwnMore
import Derived.Deep.LoopGhost
import Derived.Deep.Onto
namespace Go.Wk
theorem insP_len (p : List Nd) (l : List (List Nd)) : (insP p l).length ≤ l.length + 1 := by
  induction l with
  | nil => simp [insP]
  | cons q r ih =>
    simp only [insP]
    split
    · simp
    · split
      · simp
      · simp; omega
theorem setL_len (l : List (List Nd)) : (setL l).length ≤ l.length := by
  induction l with
  | nil => simp [setL]
  | cons p r ih => have := insP_len p (setL r); simp only [setL, List.length_cons]; omega
def stepL (lo cur p : List Nd) : List Nd :=
  if (lo.isEmpty || decide (0 < cmpNds p lo)) && (cur.isEmpty || decide (cmpNds p cur < 0)) then p else cur
def pickL (lo : List Nd) (l : List (List Nd)) : List Nd := l.foldl (stepL lo) []
theorem pickL_snoc {lo : List Nd} {l : List (List Nd)} {k : Nat} (h : k < l.length) : pickL lo (l.take (k + 1)) = stepL lo (pickL lo (l.take k)) l[k] := by
  unfold pickL
  rw [← List.take_append_getElem h, List.foldl_append]; rfl
theorem stepL_take {lo cur p : List Nd} (h1 : lo = [] ∨ 0 < cmpNds p lo) (h2 : cur = [] ∨ cmpNds p cur < 0) : stepL lo cur p = p := by
  unfold stepL
  rw [if_pos]
  rw [Bool.and_eq_true, Bool.or_eq_true, Bool.or_eq_true, decide_eq_true_eq, decide_eq_true_eq, List.isEmpty_iff, List.isEmpty_iff]
  exact ⟨h1, h2⟩
theorem stepL_keep1 {lo cur p : List Nd} (h1 : lo ≠ []) (h2 : ¬ 0 < cmpNds p lo) : stepL lo cur p = cur := by
  unfold stepL
  rw [if_neg]
  rw [Bool.and_eq_true, Bool.or_eq_true, decide_eq_true_eq, List.isEmpty_iff]
  exact fun q => q.1.elim h1 h2
theorem stepL_keep2 {lo cur p : List Nd} (h1 : cur ≠ []) (h2 : ¬ cmpNds p cur < 0) : stepL lo cur p = cur := by
  unfold stepL
  rw [if_neg]
  rw [Bool.and_eq_true, Bool.or_eq_true, Bool.or_eq_true, decide_eq_true_eq, decide_eq_true_eq, List.isEmpty_iff, List.isEmpty_iff]
  exact fun q => q.2.elim h1 h2
def toO : List Nd → Option (List Nd)
  | [] => none
  | x :: r => some (x :: r)
theorem toO_ne {P : List Nd} (h : P ≠ []) : toO P = some P := by
  cases P with
  | nil => exact absurd rfl h
  | cons x r => rfl
theorem toO_step {lo cur p : List Nd} (hp : p ≠ []) : toO (stepL lo cur p) = least (toO lo) (toO cur) p := by
  unfold stepL least
  have e1 : (lo.isEmpty || decide (0 < cmpNds p lo)) = above (toO lo) p := by
    cases lo with
    | nil => rfl
    | cons x r => simp [toO, above]
  have e2 : (cur.isEmpty || decide (cmpNds p cur < 0)) = under (toO cur) p := by
    cases cur with
    | nil => rfl
    | cons x r => simp [toO, under]
  rw [e1, e2]
  by_cases hb : (above (toO lo) p && under (toO cur) p) = true
  · rw [if_pos hb, if_pos hb]; exact toO_ne hp
  · rw [if_neg hb, if_neg hb]
theorem toO_go (lo : List Nd) (l : List (List Nd)) : ∀ cur, (∀ p ∈ l, p ≠ []) → toO (l.foldl (stepL lo) cur) = l.foldl (least (toO lo)) (toO cur) := by
  induction l with
  | nil => intro cur _; rfl
  | cons p r ih =>
    intro cur h
    simp only [List.foldl_cons]
    rw [ih _ fun q hq => h q (by simp [hq]), toO_step (h p (by simp))]
theorem toO_pick {lo : List Nd} {l : List (List Nd)} (h : ∀ p ∈ l, p ≠ []) : toO (pickL lo l) = leastOf (toO lo) l := toO_go lo l [] h
/-- The last one that was put out. -/
def lastP (L : List (List Nd)) : Nat → List Nd
  | 0 => []
  | i + 1 => (L[i]?).getD []
theorem pick_is {l : List (List Nd)} (h : ∀ p ∈ l, p ≠ []) {i : Nat} (hi : i ≤ (setL l).length) : toO (pickL (lastP (setL l) i) l) = (setL l)[i]? := by
  rw [toO_pick h]
  rcases i with _ | i
  · exact leastOf_first l
  · have hi' : i < (setL l).length := by omega
    have hn : (setL l)[i] ≠ [] := h _ (mem_setL.1 (List.getElem_mem hi'))
    simp only [lastP, List.getElem?_eq_getElem hi', Option.getD_some]
    rw [toO_ne hn]
    exact leastOf_next l i hi'
theorem pick_some {l : List (List Nd)} (h : ∀ p ∈ l, p ≠ []) {i : Nat} (hi : i < (setL l).length) : pickL (lastP (setL l) i) l = (setL l)[i] := by
  have := pick_is h (Nat.le_of_lt hi)
  rw [List.getElem?_eq_getElem hi] at this
  cases hp : pickL (lastP (setL l) i) l with
  | nil => rw [hp] at this; cases this
  | cons x r => rw [hp] at this; simpa [toO] using this
theorem pick_none {l : List (List Nd)} (h : ∀ p ∈ l, p ≠ []) : pickL (lastP (setL l) (setL l).length) l = [] := by
  have := pick_is h (Nat.le_refl (setL l).length)
  rw [List.getElem?_eq_none (Nat.le_refl _)] at this
  cases hp : pickL (lastP (setL l) (setL l).length) l with
  | nil => rfl
  | cons x r => rw [hp] at this; cases this
end Go.Wk
namespace Go.Proofs.YtfbgaefbalbohaaDoor
open Go.RowKit Go.Wk Go.Sort
set_option maxRecDepth 100000

theorem Ns.nodes {w : World} {A B : Option Addr} {n m c d : Nat} {P Q : List Nd} (h : Ns w A n c P) (k : Ns w B m d Q) :
    Calls Tryd.prog 38 #[.slice A n c, .slice B m d] w fun e w' => e = .returned (.int .i64 (cmpNds P Q)) ∧ Below w.heap.size w w' :=
  ref_Nodes A B n m c d P Q w h.len k.len h.max k.max h.at_ k.at_ h.ok k.ok
theorem Ns.zero {w : World} {A : Option Addr} {c : Nat} {P : List Nd} (h : Ns w A 0 c P) : P = [] := List.eq_nil_of_length_eq_zero h.len.symm
theorem Ns.ne {w : World} {A : Option Addr} {n c : Nat} {P : List Nd} (h : Ns w A n c P) (hn : ¬ n = 0) : P ≠ [] := fun e => hn (by rw [h.len, e]; rfl)
def RSetPost (w : World) (L : List (List Nd)) (e : Ending) (w' : World) : Prop :=
  ∃ (A : Option Addr) (n c : Nat), e = .returned (.tuple #[.slice A n c, .int .i64 (setE L)]) ∧ Ns w' A n c (setV L) ∧ Below w.heap.size w w' ∧ ∀ a, A = some a → w.heap.size ≤ a.block
theorem head_set (n m : Int) (Q : List Nd) : (ndCells (setHead n :: Q)).set 1 (.int .i64 m) = ndCells (setHead m :: Q) := rfl
theorem outP_head (n : Nat) (L : List (List Nd)) (k : Nat) : outP n L k = setHead n :: (L.take k).flatten := rfl
theorem outP_len2 (n m : Nat) (L : List (List Nd)) (k : Nat) : (outP n L k).length = (outP m L k).length := rfl

set_option maxHeartbeats 8000000 in
/-- A round of the search. -/
theorem ref_SetOf (A : Option Addr) (n c : Nat) (V : List Sl) (w : World) (hn : n = V.length) (hm : n ≤ 5864062014634) (hV : SlsAt w A V) :
    Calls Tryd.prog 13 #[.slice A n c] w (RSetPost w (V.map Sl.P)) := by
  obtain ⟨i0, hi, hz0, hz1, hz2⟩ := info_parts ndInfo
  have HV := Lib.hid hV
  have HN := Lib.hid hn
  have CF := Lib.hid (ref_Faults A n c V w hn (by unfold maxLen; omega) hV)
  clear hV hn
  by_cases hF : slFaults V = 0
  · have HF := Lib.hid (show faults (V.map Sl.P) = 0 from hF)
    have HP := Lib.hid (show ∀ p ∈ V.map Sl.P, p ≠ [] from fun p hp e => by
      have := (isV_zero.1 (faults_zero.1 hF p hp)).2.pos
      rw [e] at this; simp at this)
    have HLL := Lib.hid (show (setL (V.map Sl.P)).length ≤ n by have := setL_len (V.map Sl.P); rw [List.length_map, ← HN.out] at this; exact this)
    rw [hF] at CF
    clear hF
    go_enter Tryd.func13, Tryd.ntmps13
    go_wp2_with fail
    refine (CF.out).mono ?_
    rintro e w1 ⟨rfl, b1⟩
    have B1 := Lib.hid b1
    clear b1 CF
    have R0 := Lib.hid (World.ownsRow.mono (row_one w1 (setHead 0)) B1.out.size)
    have B2 := Lib.hid (B1.out.alloc B1.out.size (.cells #[.int .i64 5, .int .i64 0, .string ⟨#[]⟩, .string ⟨#[]⟩] 45))
    go_wp2_with fail
    generalize hL : setL (V.map Sl.P) = L at *
    have HL := Lib.hid hL
    clear hL
    go_loopg [5, 6, 7, 8] L.length (fun g out last _ _ wr => ∃ i : Nat, i ≤ L.length ∧ L.length - i ≤ g ∧ (∃ (A1 : Option Addr) (n1 c1 : Nat), last = .slice A1 n1 c1 ∧ Hid (Ns w A1 n1 c1 (lastP L i))) ∧ Hid ((outP i L i).length ≤ 200 ∧ wr.ownsRow w.heap.size 45 4 out (outP i L i).length (ndCells (outP i L i))) ∧ Hid (Below w.heap.size w wr))
    case atStart => exact ⟨0, Nat.zero_le _, by omega, ⟨none, 0, 0, rfl, ns_nil _⟩, ⟨by simp [outP], R0.out⟩, B2⟩
    case round =>
      obtain ⟨i, hiL, hg, ⟨A1, n1, c1, rfl, N1⟩, hR, hB⟩ := hrel
      have HK := Lib.hid (show ∀ k, (h : k < V.length) → pickL (lastP L i) ((V.map Sl.P).take (k + 1)) = stepL (lastP L i) (pickL (lastP L i) ((V.map Sl.P).take k)) V[k].P from fun k h => by
        rw [pickL_snoc (by rw [List.length_map]; exact h)]; simp)
      have HQ := Lib.hid (show i < L.length → pickL (lastP L i) (V.map Sl.P) = L[i]! from fun h => by
        have e := HL.out
        subst e
        rw [pick_some HP.out h]; simp [h])
      have HZ := Lib.hid (show i = L.length → pickL (lastP L i) (V.map Sl.P) = [] from fun h => by
        have e := HL.out
        subst e
        rw [h]; exact pick_none HP.out)
      have HE := Lib.hid (show i < L.length → lastP L (i + 1) = L[i]! ∧ outP (i + 1) L (i + 1) = setHead ((i + 1 : Nat) : Int) :: ((L.take i).flatten ++ L[i]!) from fun h => by
        refine ⟨by simp [lastP, h], ?_⟩
        rw [outP_step h, outP_head, List.cons_append]; simp [h])
      generalize hlo : lastP L i = lo at N1 HK HQ HZ
      clear hlo
      go_wp2_with fail
      go_loopw [7, 8] (fun nx ii wk => ∃ k : Nat, k ≤ n ∧ ii = .int .i64 k ∧ (∃ (A2 : Option Addr) (n2 c2 : Nat), nx = .slice A2 n2 c2 ∧ Hid (Ns w A2 n2 c2 (pickL lo ((V.map Sl.P).take k)))) ∧ Hid (Below wr.heap.size wr wk)) (fun _ ii _ => n - (intOf ii).toNat)
      case atStart => exact ⟨0, Nat.zero_le _, rfl, ⟨none, 0, 0, rfl, ns_nil _⟩, Below.refl _ _⟩
      case round =>
        obtain ⟨k, hk, rfl, ⟨A2, n2, c2, rfl, N2⟩, hK⟩ := hrel
        have BK := bhid hB hK (Nat.le_refl _)
        by_cases hlt : k < n
        · have h1 : k < V.length := by rw [← HN.out]; exact hlt
          obtain ⟨a, rfl, q, -⟩ := (HV.out.keep BK.out).at h1
          obtain ⟨-, -, -, hs0⟩ := HV.out.at h1
          have HK1 := Lib.hid (HK.out k h1)
          generalize V[k] = r at *
          have HS0 := Lib.hid hs0
          clear hs0
          generalize pickL lo ((V.map Sl.P).take k) = cur at *
          by_cases l0 : n1 = 0
          · subst l0
            by_cases m0 : n2 = 0
            · subst m0
              have N3 := Lib.hid (show Ns w r.A r.n r.c (pickL lo ((V.map Sl.P).take (k + 1))) by
                rw [HK1.out, stepL_take (.inl N1.out.zero) (.inl N2.out.zero)]; exact HS0.out)
              go_wp2_with fail
              go_roundw
              case rel => exact ⟨k + 1, by omega, by go_num, ⟨_, _, _, rfl, N3⟩, hK⟩
              case measure => simp [intOf]; omega
            · have M0 : ((n2 : Int) == 0) = false := beq_eq_false_iff_ne.2 (by omega)
              have NE2 := Lib.hid (N2.out.ne m0)
              have C := Lib.hid ((HS0.out.keep BK.out).nodes (N2.out.keep BK.out))
              clear m0
              go_wp2_with fail
              refine (C.out).mono ?_
              rintro e w3 ⟨rfl, b3⟩
              have q3 := cell_keep b3 q
              have K3 := bh hK b3
              clear b3 C hK BK q
              by_cases h2 : cmpNds r.P cur < 0
              · have N3 := Lib.hid (show Ns w r.A r.n r.c (pickL lo ((V.map Sl.P).take (k + 1))) by
                  rw [HK1.out, stepL_take (.inl N1.out.zero) (.inr h2)]; exact HS0.out)
                go_wp2_with fail
                go_roundw
                case rel => exact ⟨k + 1, by omega, by go_num, ⟨_, _, _, rfl, N3⟩, K3⟩
                case measure => simp [intOf]; omega
              · have N3 := Lib.hid (show Ns w A2 n2 c2 (pickL lo ((V.map Sl.P).take (k + 1))) by
                  rw [HK1.out, stepL_keep2 NE2.out h2]; exact N2.out)
                go_wp2_with fail
                go_roundw
                case rel => exact ⟨k + 1, by omega, by go_num, ⟨_, _, _, rfl, N3⟩, K3⟩
                case measure => simp [intOf]; omega
          · have L0 : ((n1 : Int) == 0) = false := beq_eq_false_iff_ne.2 (by omega)
            have NE1 := Lib.hid (N1.out.ne l0)
            have C := Lib.hid ((HS0.out.keep BK.out).nodes (N1.out.keep BK.out))
            clear l0
            go_wp2_with fail
            refine (C.out).mono ?_
            rintro e w3 ⟨rfl, b3⟩
            have q3 := cell_keep b3 q
            have K3 := bh hK b3
            have B3 := bh BK b3
            clear b3 C hK BK q
            by_cases h1 : 0 < cmpNds r.P lo
            · by_cases m0 : n2 = 0
              · subst m0
                have N3 := Lib.hid (show Ns w r.A r.n r.c (pickL lo ((V.map Sl.P).take (k + 1))) by
                  rw [HK1.out, stepL_take (.inr h1) (.inl N2.out.zero)]; exact HS0.out)
                go_wp2_with fail
                go_roundw
                case rel => exact ⟨k + 1, by omega, by go_num, ⟨_, _, _, rfl, N3⟩, K3⟩
                case measure => simp [intOf]; omega
              · have M0 : ((n2 : Int) == 0) = false := beq_eq_false_iff_ne.2 (by omega)
                have NE2 := Lib.hid (N2.out.ne m0)
                have C := Lib.hid ((HS0.out.keep B3.out).nodes (N2.out.keep B3.out))
                clear m0
                go_wp2_with fail
                refine (C.out).mono ?_
                rintro e w4 ⟨rfl, b4⟩
                have q4 := cell_keep b4 q3
                have K4 := bh K3 b4
                clear b4 C K3 B3 q3
                by_cases h2 : cmpNds r.P cur < 0
                · have N3 := Lib.hid (show Ns w r.A r.n r.c (pickL lo ((V.map Sl.P).take (k + 1))) by
                    rw [HK1.out, stepL_take (.inr h1) (.inr h2)]; exact HS0.out)
                  go_wp2_with fail
                  go_roundw
                  case rel => exact ⟨k + 1, by omega, by go_num, ⟨_, _, _, rfl, N3⟩, K4⟩
                  case measure => simp [intOf]; omega
                · have N3 := Lib.hid (show Ns w A2 n2 c2 (pickL lo ((V.map Sl.P).take (k + 1))) by
                    rw [HK1.out, stepL_keep2 NE2.out h2]; exact N2.out)
                  go_wp2_with fail
                  go_roundw
                  case rel => exact ⟨k + 1, by omega, by go_num, ⟨_, _, _, rfl, N3⟩, K4⟩
                  case measure => simp [intOf]; omega
            · have N3 := Lib.hid (show Ns w A2 n2 c2 (pickL lo ((V.map Sl.P).take (k + 1))) by
                rw [HK1.out, stepL_keep1 NE1.out h1]; exact N2.out)
              go_wp2_with fail
              go_roundw
              case rel => exact ⟨k + 1, by omega, by go_num, ⟨_, _, _, rfl, N3⟩, K3⟩
              case measure => simp [intOf]; omega
        · obtain rfl : k = n := by omega
          have N3 := Lib.hid (show Ns w A2 n2 c2 (pickL lo (V.map Sl.P)) by
            have := N2.out
            rwa [List.take_of_length_le (by rw [List.length_map, ← HN.out]; exact Nat.le_refl _)] at this)
          have hszw := BK.out.size
          have rowK := hR.out.2.kept (grown_of_below hK.out none) (by cases hv : u5.ownBlock <;> simp)
          have hO200 := hR.out.1
          clear N2 hK hR hB
          by_cases hlt2 : i < L.length
          · have N4 := Lib.hid (show Ns w A2 n2 c2 L[i]! by have := N3.out; rwa [HQ.out hlt2] at this)
            have hmem : L[i]! ∈ L := by simp [hlt2]
            have hv := faults_zero.1 HF.out _ (mem_setL.1 (by rw [HL.out]; exact hmem))
            obtain ⟨hl2, hV2⟩ := isV_zero.1 hv
            have hpos := hV2.pos
            obtain ⟨a2, rfl, -⟩ := N4.out.at_.nd hpos
            have hn2 := N4.out.len
            have M0 : ((n2 : Int) == 0) = false := beq_eq_false_iff_ne.2 (by omega)
            have hn2' : n2 ≤ 200 := by omega
            have HN2 := Lib.hid hn2
            have HE1 := Lib.hid (HE.out hlt2)
            clear hmem hv hl2 hV2 hpos hn2 N3 HE HQ HZ
            generalize L[i]! = X at *
            rcases rowK.2 with ⟨-, h0⟩ | ⟨g, cap, cur, rfl, hgB, -⟩
            · simp [outP] at h0
            have c1' : wr.cell? ⟨g, 1, none⟩ = some (.int .i64 i) := by
              rw [rowK.cellAt 1 (by simp [outP]; omega)]; rfl
            have f1 := rowK.frozenAt 1
            obtain ⟨rowS, grS⟩ := rowK.stored 1 (.int .i64 ((i : Int) + 1))
            rw [show (ndCells (outP i L i)).set 1 (.int .i64 ((i : Int) + 1)) = ndCells (setHead ((i : Int) + 1) :: (L.take i).flatten) from rfl] at rowS
            have hlen0 : 0 < (outP i L i).length := by simp [outP]
            have HRS := Lib.hid rowS
            have NS := Lib.hid ((N4.out.keep BK.out).but grS (fun h0 a e => by have := N4.out.at_.lt h0 a e; omega))
            have BS := Lib.hid (BK.out.grown grS hszw (fun k hk => by injection hk with hk; omega))
            have hszS := BS.out.size
            have hi8 : i ≤ 5864062014634 := by have := HLL.out; omega
            clear rowK rowS grS
            go_wp2_with (at_builtin; refine wpList_append_own _ rfl _ _ 31 rfl w.heap.size 45 i0 _ 4 48 Tryd.underlying31 hi hz0 hz1 hz2 rfl (by decide) _ (outP i L i).length (ndCells (setHead ((i : Int) + 1) :: (L.take i).flatten)) rfl HRS.out a2 n2 c2 (ndCells X) rfl (by rw [ndCells_length, HN2.out]) NS.out.at_.cells (ndCells_one _) ?c1 ?c2 ?c3 ?_)
            case c1 => unfold maxLen; omega
            case c2 => omega
            case c3 => exact hszS
            intro v1 w5 hown hgrow _
            have B5 := Lib.hid (BS.out.grown hgrow hszS (own_base HRS.out))
            have HX0 := Lib.hid (show (outP i L i).length + n2 = (outP (i + 1) L (i + 1)).length ∧ ndCells (setHead ((i : Int) + 1) :: (L.take i).flatten) ++ ndCells X = ndCells (outP (i + 1) L (i + 1)) by
              rw [HE1.out.2, outP_head, ← ndCells_append]
              refine ⟨by simp [HN2.out]; omega, rfl⟩)
            rw [HX0.out.1, HX0.out.2] at hown
            have OW := Lib.hid hown
            obtain ⟨A5, c5, rfl, -⟩ := nds_of_own hown
            have OL := Lib.hid (outP_len (n := i + 1) (L := L) (i + 1))
            have NL := Lib.hid (show Ns w (some a2) n2 c2 (lastP L (i + 1)) by rw [HE1.out.1]; exact N4.out)
            generalize hZ : outP (i + 1) L (i + 1) = Z at *
            have HZZ := Lib.hid hZ
            clear hown hgrow hZ HX0 HE1 NS HRS c1' f1
            by_cases h200 : 200 < Z.length
            · have HEE := Lib.hid (show setE (V.map Sl.P) = 4 by
                unfold setE
                rw [HF.out, or2_zero, HL.out, if_pos (by have := OL.out; omega)])
              go_wp2_with fail
              go_ret2
              refine ⟨none, 0, 0, by rw [HEE.out]; rfl, by rw [setV_err (by rw [HEE.out]; decide)]; exact ns_nil _, B5.out, fun a e => by cases e⟩
            · go_wp2_with fail
              go_roundg (L.length - (i + 1))
              case measure => omega
              case rel => exact ⟨i + 1, by omega, Nat.le_refl _, ⟨_, _, _, rfl, NL⟩, Lib.hid (by rw [HZZ.out]; exact ⟨by omega, OW.out⟩), B5⟩
          · obtain rfl : i = L.length := by omega
            have hp := HZ.out rfl
            have hn0 : n2 = 0 := by have := N3.out.len; rw [hp] at this; exact this
            subst hn0
            obtain ⟨A5, c5, rfl, hc5, hA5, hB5⟩ := nds_of_own rowK
            have HB5 := Lib.hid hB5
            have HX := Lib.hid (outP_all (n := L.length) (L := L) (Nat.le_refl _))
            have HEE := Lib.hid (show setE (V.map Sl.P) = 0 by
              refine setE_zero.2 ⟨HF.out, ?_⟩
              rw [HX.out] at hO200
              rw [HL.out]
              simpa using hO200)
            have NN := Lib.hid (show Ns wr A5 (outP L.length L L.length).length c5 (setV (V.map Sl.P)) by
              have e : setV (V.map Sl.P) = outP L.length L L.length := by
                rw [HX.out, setV_eq HEE.out, HL.out]
              rw [e]
              refine ⟨rfl, hc5, by unfold maxLen; omega, hA5, ?_⟩
              rw [HX.out]
              refine outP_ok (by have := HLL.out; omega) fun P hP => ?_
              rw [← HL.out] at hP
              exact HV.out.nds P (mem_setL.1 hP))
            clear hp rowK hc5 hA5 hB5 N3 HQ HZ HE HK
            go_wp2_with fail
            go_ret2
            exact ⟨A5, _, c5, by rw [HEE.out]; rfl, NN.out, BK.out, HB5.out⟩
  · have HE := Lib.hid (show setE (V.map Sl.P) = slFaults V ∧ setE (V.map Sl.P) ≠ 0 by
      have e2 : setE (V.map Sl.P) = slFaults V := by unfold setE; exact or2_ne hF _
      exact ⟨e2, by rw [e2]; exact hF⟩)
    have e0 : (slFaults V != 0) = true := by rw [bne_iff_ne]; exact hF
    clear hF
    go_enter Tryd.func13, Tryd.ntmps13
    go_wp2_with fail
    refine (CF.out).mono ?_
    rintro e w1 ⟨rfl, b1⟩
    go_wp2_with fail
    go_ret2
    exact ⟨none, 0, 0, by rw [HE.out.1]; rfl, by rw [setV_err HE.out.2]; exact ns_nil _, b1, fun a e => by cases e⟩
end Go.Proofs.YtfbgaefbalbohaaDoor
