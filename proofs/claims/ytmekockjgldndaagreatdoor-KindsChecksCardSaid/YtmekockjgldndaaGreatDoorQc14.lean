/-
  ref HasKind, Field: has a value a type?
  ref JoinKinds: the least above two types.
  kinds' reader: a field.
  Fields of types in a row of the call's own: their cells.
-/
import Derived.Deep.AppendLies
import Derived.Deep.Onto
import Derived.Laws.AppendOwnNone
import Derived.Maps.AppendAt
import Derived.Test.YtmekockjgldndaaGreatDoorQc13
namespace Go.Proofs.YtmekockjgldndaaGreatDoor
open Go.RowKit Go.Wk Go.Sort
set_option maxRecDepth 100000
set_option linter.unusedSectionVars false

/-- A slice that holds texts. -/
def TxsIn (w : World) (A : Option Addr) (N : List ByteArray) : Prop := ∀ (k : Nat) (x : ByteArray), N[k]? = some x → ∃ a, A = some a ∧ w.cell? (a.add k) = some (.string x)
theorem TxsIn.keep {w w' : World} {A : Option Addr} {N : List ByteArray} (h : TxsIn w A N) (hb : Below w.heap.size w w') : TxsIn w' A N := fun k x hx => by
  obtain ⟨a, e, q⟩ := h k x hx
  exact ⟨a, e, cell_keep hb q⟩
theorem txs_own {w : World} {B : Nat} {v : Value} {N : List ByteArray} (h : w.ownsRow B 9 1 v N.length (N.map Value.string)) : ∃ A c, v = .slice A N.length c ∧ TxsIn w A N := by
  rcases h.2 with ⟨rfl, h0⟩ | ⟨g, cap, cur, rfl, _⟩
  · have : N = [] := List.eq_nil_of_length_eq_zero h0
    subst this
    exact ⟨none, 0, rfl, fun k x hx => by simp at hx⟩
  · refine ⟨some ⟨g, 0, none⟩, cap, rfl, fun k x hx => ⟨_, rfl, h.cells (g := g) rfl _ _ ?_⟩⟩
    rw [List.getElem?_map, hx]; rfl
/-- What Parts tells, as slices. -/
theorem rows_at {w : World} {B : Nat} {v v' : Value} {V : List Sl} {N : List ByteArray} (h : TwoRows w B v v' V N) : ∃ A c A2 c2, v = .slice A V.length c ∧ v' = .slice A2 N.length c2 ∧ SlsAt w A V ∧ TxsIn w A2 N := by
  obtain ⟨A, c, e1, -, h1⟩ := h.a.at
  obtain ⟨A2, c2, e2, h2⟩ := txs_own h.b
  exact ⟨A, c, A2, c2, e1, e2, h1, h2⟩
theorem val_head {w : World} {A : Option Addr} {n c : Nat} {P : List Nd} (h : Ns w A n c P) (hp : 0 < P.length) : ∃ a, A = some a ∧ 1 ≤ n ∧ w.cell? a = some (.int .i64 (headOp P)) ∧ w.cell? ⟨a.block, a.off + 2, none⟩ = some (.string (headS P)) := by
  cases P with
  | nil => simp at hp
  | cons x r =>
    obtain ⟨a, ea, d0, d1, d2, d3⟩ := h.at_ 0 x rfl
    exact ⟨a, ea, by rw [h.len]; simp, d0, d2⟩
/-- What Field tells. -/
def RFldPost (w : World) (R : List (ByteArray × List Nd)) (s : ByteArray) (e : Ending) (w' : World) : Prop :=
  ∃ (A' : Option Addr) (n' c' : Nat), e = .returned (.tuple #[.slice A' n' c', .bool (R.any fun x => decide (x.1 = s))]) ∧ Below w.heap.size w w' ∧ ((∀ x ∈ R, x.1 ≠ s) ∨ ∃ x ∈ R, x.1 = s ∧ Ns w' A' n' c' x.2)
set_option maxHeartbeats 1000000 in
/-- Field: is there one of a name? -/
theorem ref_Field (A : Option Addr) (n c : Nat) (P : List Nd) (s : ByteArray) (w : World) (h : Ns w A n c P) (hv : valFault P = 0) (h6 : headOp P = 6) :
    Calls Tryz.prog 51 #[.slice A n c, .string s] w (RFldPost w (recParts P) s) := by
  have C := Lib.hid (refParts_rec A n c P w h hv h6)
  have HPN := Lib.hid (show prtN P = (recParts P).map (·.1) by unfold prtN; rw [if_neg (by omega)])
  have HLN := Lib.hid (show (recParts P).length ≤ 200 from recParts_len hv h6)
  clear h hv h6
  generalize recParts P = R at *
  go_enter Tryz.func51, Tryz.ntmps51
  go_wp2_with fail
  refine C.out.mono ?_
  rintro e w1 ⟨v, v', V, rfl, hT, hV, b1⟩
  obtain ⟨A1, c1, A2, c2, rfl, rfl, hS, hN⟩ := rows_at hT
  have B1 := Lib.hid b1
  have HS := Lib.hid hS
  have HT := Lib.hid hN
  have HVP := Lib.hid hV
  have hVl : V.length = R.length := by have := congrArg List.length hV; simpa using this
  have hPl : (prtN P).length = R.length := by rw [HPN.out]; simp
  have HVL := Lib.hid hVl
  rw [hVl, hPl]
  have hR200 := HLN.out
  clear b1 hS hN hV hT C
  go_wp2_with fail
  go_loopw [8] (fun i wr => ∃ k : Nat, i = .int .i64 k ∧ k ≤ R.length ∧ Hid (∀ x ∈ R.take k, x.1 ≠ s) ∧ Hid (Below w1.heap.size w1 wr)) (fun i _ => R.length - (intOf i).toNat)
  case atStart => exact ⟨0, rfl, Nat.zero_le _, (by intro x hx; simp at hx), Below.refl _ _⟩
  case round =>
    obtain ⟨k, rfl, hk, hno, hB⟩ := hrel
    have BW := Lib.hid (B1.out.trans (hB.out.mono B1.out.size))
    by_cases hlt : k < R.length
    · have hkv : k < V.length := by rw [HVL.out]; exact hlt
      obtain ⟨a1, rfl, q1, n1⟩ := (HS.out.keep hB.out).at hkv
      obtain ⟨a2, rfl, q2⟩ := (HT.out.keep hB.out) k R[k].1 (by rw [HPN.out, List.getElem?_map, List.getElem?_eq_getElem hlt]; rfl)
      by_cases hs : R[k].1 = s
      · have HR := Lib.hid (show (R.any fun x => decide (x.1 = s)) = true by rw [List.any_eq_true]; exact ⟨R[k], List.getElem_mem hlt, by simpa using hs⟩)
        have HX := Lib.hid (show ∃ x ∈ R, x.1 = s ∧ Ns wr V[k].A V[k].n V[k].c x.2 from ⟨R[k], List.getElem_mem hlt, hs, by
          have := congrArg (fun l => l[k]?) HVP.out
          simp only [List.getElem?_map, List.getElem?_eq_getElem hkv, List.getElem?_eq_getElem hlt, Option.map_some, Option.some.injEq] at this
          rw [← this]; exact n1⟩)
        rw [hs] at q2
        clear n1 hs hno
        generalize V[k] = r at *
        go_wp2_with fail
        go_ret2
        exact ⟨_, _, _, by rw [HR.out]; rfl, BW.out, .inr HX.out⟩
      · have HNO := Lib.hid (show ∀ x ∈ R.take (k + 1), x.1 ≠ s from fun x hx => by
          rw [List.take_succ_eq_append_getElem hlt, List.mem_append] at hx
          rcases hx with hx | hx
          · exact hno.out x hx
          · simp only [List.mem_cons, List.not_mem_nil, or_false] at hx
            subst hx; exact hs)
        have f6 : (R[k].1.toList == s.toList) = false := beq_eq_false_iff_ne.2 (fun q => hs (toList_inj q))
        generalize R[k].1 = y at *
        clear hs hno n1 q1
        go_wp2_with fail
        go_roundw
        case rel => exact ⟨k + 1, by go_num, hlt, HNO, hB⟩
        case measure => simp [intOf]; omega
    · have HX := Lib.hid (show ∀ x ∈ R, x.1 ≠ s from fun x hx => hno.out x (by rw [List.take_of_length_le (by omega)]; exact hx))
      have HR := Lib.hid (show (R.any fun x => decide (x.1 = s)) = false by rw [List.any_eq_false]; intro x hx; simpa using HX.out x hx)
      clear hno
      go_wp2_with fail
      go_ret2
      exact ⟨none, 0, 0, by rw [HR.out]; rfl, BW.out, .inl HX.out⟩
section
variable (a b : Addr) (n c m d : Nat) (o1 o2 : Int) (s1 s2 : ByteArray) (w : World) (hn : 1 ≤ n) (hm : 1 ≤ m) (hl : n ≤ 4000) (hl2 : m ≤ 4000) (hnc : n ≤ c) (hmd : m ≤ d) (d0 : w.cell? a = some (.int .i64 o1)) (d2 : w.cell? ⟨a.block, a.off + 2, none⟩ = some (.string s1)) (e0 : w.cell? b = some (.int .i64 o2)) (e2 : w.cell? ⟨b.block, b.off + 2, none⟩ = some (.string s2))
include hn hm hl hl2 hnc hmd d0 d2 e0 e2
set_option maxHeartbeats 1000000 in
theorem rh_any (h : o1 = 48) :
    Calls Tryz.prog 18 #[.slice (some a) n c, .slice (some b) m d] w fun e w' => e = .returned (.bool true) ∧ Below w.heap.size w w' := by
  subst h
  go_enter Tryz.func18, Tryz.ntmps18
  go_wp2_with fail
  go_ret
  exact ⟨rfl, Below.refl _ _⟩
set_option maxHeartbeats 1000000 in
theorem rh_base (h : o1 = 41 ∨ o1 = 42 ∨ o1 = 43) :
    Calls Tryz.prog 18 #[.slice (some a) n c, .slice (some b) m d] w fun e w' => e = .returned (.bool (decide (o2 = o1 - 40))) ∧ Below w.heap.size w w' := by
  have hq : (decide (o2 = o1 - 40)) = (o2 == o1 - 40) := by rw [Bool.eq_iff_iff]; simp
  rw [hq]
  rcases h with rfl | rfl | rfl
  all_goals
    go_enter Tryz.func18, Tryz.ntmps18
    go_wp2_with fail
    go_ret
    exact ⟨rfl, Below.refl _ _⟩
set_option maxHeartbeats 1000000 in
theorem rh_ent (h : o1 = 44) :
    Calls Tryz.prog 18 #[.slice (some a) n c, .slice (some b) m d] w fun e w' => e = .returned (.bool (decide (o2 = 4) && decide (s2 = s1))) ∧ Below w.heap.size w w' := by
  subst h
  have k0 := cell_regrown e0
  have k1 := cell_regrown e2
  have k2 := cell_regrown d2
  by_cases h4 : o2 = 4
  · subst h4
    by_cases hs : s2 = s1
    · subst hs
      go_enter Tryz.func18, Tryz.ntmps18
      go_wp2_with fail
      refine wp_region_quiet_below (by kernel_rfl) (by kernel_rfl) ?_
      repeat (first | go_big_quiet_step (fail) | quiet_step (fail))
      refine wpQuiet_nil ?_
      intro w1 hw'
      have B1 := Lib.hid (show Below w.heap.size w w1 by obtain ⟨⟨d, os⟩, rfl⟩ := hw'; exact below_regrown _ _ _)
      clear hw'
      clear k0 k1 k2
      go_wp2_with fail
      go_ret
      exact ⟨by simp, B1.out⟩
    · have f6 : (s2.toList == s1.toList) = false := beq_eq_false_iff_ne.2 (fun q => hs (toList_inj q))
      have HR := Lib.hid (show (decide ((4 : Int) = 4) && decide (s2 = s1)) = false by simp [hs])
      clear hs
      go_enter Tryz.func18, Tryz.ntmps18
      go_wp2_with fail
      refine wp_region_quiet_below (by kernel_rfl) (by kernel_rfl) ?_
      repeat (first | go_big_quiet_step (fail) | quiet_step (fail))
      refine wpQuiet_nil ?_
      intro w1 hw'
      have B1 := Lib.hid (show Below w.heap.size w w1 by obtain ⟨⟨d, os⟩, rfl⟩ := hw'; exact below_regrown _ _ _)
      clear hw'
      clear k0 k1 k2
      go_wp2_with fail
      go_ret
      exact ⟨by rw [HR.out]; rfl, B1.out⟩
  · have f4 : (o2 == 4) = false := beq_eq_false_iff_ne.2 h4
    have HR := Lib.hid (show (decide (o2 = 4) && decide (s2 = s1)) = false by simp [h4])
    clear h4
    go_enter Tryz.func18, Tryz.ntmps18
    go_wp2_with fail
    refine wp_region_quiet_below (by kernel_rfl) (by kernel_rfl) ?_
    repeat (first | go_big_quiet_step (fail) | quiet_step (fail))
    refine wpQuiet_nil ?_
    intro w1 hw'
    have B1 := Lib.hid (show Below w.heap.size w w1 by obtain ⟨⟨d, os⟩, rfl⟩ := hw'; exact below_regrown _ _ _)
    clear hw'
    clear k0 k1 k2
    go_wp2_with fail
    go_ret
    exact ⟨by rw [HR.out]; rfl, B1.out⟩
set_option maxHeartbeats 1000000 in
theorem rh_not (h : o1 = 49 ∨ (o1 = 45 ∧ o2 ≠ 5) ∨ (o1 = 46 ∧ o2 ≠ 6)) :
    Calls Tryz.prog 18 #[.slice (some a) n c, .slice (some b) m d] w fun e w' => e = .returned (.bool false) ∧ Below w.heap.size w w' := by
  rcases h with rfl | ⟨rfl, h⟩ | ⟨rfl, h⟩
  · go_enter Tryz.func18, Tryz.ntmps18
    go_wp2_with fail
    go_ret
    exact ⟨rfl, Below.refl _ _⟩
  · have f4 : (o2 == 5) = false := beq_eq_false_iff_ne.2 h
    clear h
    go_enter Tryz.func18, Tryz.ntmps18
    go_wp2_with fail
    go_ret
    exact ⟨rfl, Below.refl _ _⟩
  · have f4 : (o2 == 6) = false := beq_eq_false_iff_ne.2 h
    have f5 : (o2 != 6) = true := by rw [bne_iff_ne]; exact h
    clear h
    go_enter Tryz.func18, Tryz.ntmps18
    go_wp2_with fail
    go_ret
    exact ⟨rfl, Below.refl _ _⟩
end
/-- The contract of HasKind, for types of so much. -/
def HasRC (N : Nat) : Prop := ∀ (k : Kd) (P : List Nd), k.sz ≤ N → k.valid → valFault P = 0 → ∀ (A B : Option Addr) (n c m d : Nat) (w : World), n ≤ 4000 → Ns w A n c k.flat → Ns w B m d P →
  Calls Tryz.prog 18 #[.slice A n c, .slice B m d] w fun e w' => e = .returned (.bool (belowK (ownV P) k)) ∧ Below w.heap.size w w'
theorem part_fine {P Q : List Nd} (h : valFault P = 0) (hq : IsV Q) (hl : Q.length ≤ P.length) : valFault Q = 0 := by
  obtain ⟨h1, h2⟩ := isV_zero.1 h
  exact isV_zero.2 ⟨by omega, hq⟩
set_option maxHeartbeats 2000000 in
theorem rh_set (N : Nat) (ih : HasRC N) (q : Kd) (P : List Nd) (hq : q.sz ≤ N) (hvq : q.valid) (hP : valFault P = 0) (h5 : headOp P = 5) (A B : Option Addr) (n c m d : Nat) (w : World) (hl : n ≤ 4000) (h : Ns w A n c (Kd.set q).flat) (k : Ns w B m d P) :
    Calls Tryz.prog 18 #[.slice A n c, .slice B m d] w fun e w' => e = .returned (.bool ((setParts P).all fun Q => belowK (ownV Q) q)) ∧ Below w.heap.size w w' := by
  obtain ⟨h200, hV⟩ := isV_zero.1 hP
  obtain ⟨a, rfl, hn1, d0, -⟩ := head_at h
  obtain ⟨b, rfl, hm1, e0, -⟩ := val_head k hV.pos
  have C := Lib.hid (refParts_set (some b) m d P w k hP h5)
  have HPV := Lib.hid (fun Q (hQ : Q ∈ setParts P) => part_fine hP ((isV_set hV h5).2.2.1 Q hQ) (Nat.le_of_lt (set_smaller hV h5 hQ)))
  have HLN := Lib.hid (show (setParts P).length ≤ 200 from set_len200 h200 hV h5)
  have HA := Lib.hid h
  have hnc := h.cap
  have hcm := h.max
  have hmk := k.max
  have hmd := k.cap
  unfold maxLen at hcm hmk
  have hn2 : 2 ≤ n := by have := h.len; have := flat_pos q; rw [Kd.flat, List.length_cons] at *; omega
  simp only [opN] at d0
  rw [h5] at e0
  clear h k hP h5 h200 hV
  generalize setParts P = R at *
  go_enter Tryz.func18, Tryz.ntmps18
  go_wp2_with fail
  refine C.out.mono ?_
  rintro e w1 ⟨v, v', V, rfl, hT, hV, b1⟩
  obtain ⟨A1, c1, A2, c2, rfl, rfl, hS, hN⟩ := rows_at hT
  have B1 := Lib.hid b1
  have HS := Lib.hid hS
  have HVP := Lib.hid hV
  have hVl : V.length = R.length := by have := congrArg List.length hV; simpa using this
  have HVL := Lib.hid hVl
  rw [hVl]
  have hR200 := HLN.out
  clear b1 hS hN hV hT C d0 e0
  go_wp2_with fail
  go_loopw [8] (fun i wr => ∃ k : Nat, i = .int .i64 k ∧ k ≤ R.length ∧ Hid ((R.take k).all (fun Q => belowK (ownV Q) q) = true) ∧ Hid (Below w1.heap.size w1 wr)) (fun i _ => R.length - (intOf i).toNat)
  case atStart => exact ⟨0, rfl, Nat.zero_le _, rfl, Below.refl _ _⟩
  case round =>
    obtain ⟨k, rfl, hk, hall, hB⟩ := hrel
    have BW := Lib.hid (B1.out.trans (hB.out.mono B1.out.size))
    by_cases hlt : k < R.length
    · have hkv : k < V.length := by rw [HVL.out]; exact hlt
      obtain ⟨a1, rfl, q1, n1⟩ := (HS.out.keep hB.out).at hkv
      have hRV : V[k].P = R[k] := by
        have := congrArg (fun l => l[k]?) HVP.out
        simpa only [List.getElem?_map, List.getElem?_eq_getElem hkv, List.getElem?_eq_getElem hlt, Option.map_some, Option.some.injEq] using this
      rw [hRV] at n1
      have HBAD := Lib.hid (fun hx => all_bad (p := fun Q => belowK (ownV Q) q) hlt hx)
      have HGOOD := Lib.hid (fun hx => all_take_succ (p := fun Q => belowK (ownV Q) q) hlt hall.out hx)
      have HPK := Lib.hid (HPV.out _ (List.getElem_mem hlt))
      have RB := fun w' (hb : Below wr.heap.size wr w') => ih q R[k] hq hvq HPK.out (some (a.add 4)) V[k].A (n - 1) (c - 1) V[k].n V[k].c w' (by omega) (ns_tail (HA.out.keep (BW.out.trans (hb.mono BW.out.size)))) (n1.keep hb)
      have s1 := rq (w := wr) RB
      have k1 := cell_regrown q1
      generalize R[k] = x at *
      generalize V[k] = r at *
      generalize belowK (ownV x) q = rr at *
      clear RB n1 hall q1
      go_wp2_with fail
      refine wp_region_quiet_below (by kernel_rfl) (by kernel_rfl) ?_
      repeat (first | go_big_quiet_step (exact s1 _ _) | quiet_step (exact s1 _ _))
      refine wpQuiet_nil ?_
      intro w3 hw'
      have B3 := Lib.hid (show Below wr.heap.size wr w3 by obtain ⟨⟨d, os⟩, rfl⟩ := hw'; exact below_regrown _ _ _)
      clear hw'
      clear s1 k1
      have B4 := Lib.hid (hB.out.trans (B3.out.mono hB.out.size))
      have BW4 := Lib.hid (B1.out.trans (B4.out.mono B1.out.size))
      cases rr
      · have HR := Lib.hid (HBAD.out rfl)
        clear HBAD HGOOD
        go_wp2_with fail
        go_ret
        exact ⟨by rw [HR.out]; rfl, BW4.out⟩
      · have HR := Lib.hid (HGOOD.out rfl)
        clear HBAD HGOOD
        go_wp2_with fail
        go_roundw
        case rel => exact ⟨k + 1, by go_num, hlt, HR, B4⟩
        case measure => simp [intOf]; omega
    · have HALL := Lib.hid (show R.all (fun Q => belowK (ownV Q) q) = true by
        have := hall.out
        rwa [List.take_of_length_le (by omega)] at this)
      clear hall
      go_wp2_with fail
      go_ret
      exact ⟨by rw [HALL.out]; rfl, BW.out⟩
set_option maxHeartbeats 2000000 in
theorem rh_rec (N : Nat) (ih : HasRC N) (f : Fl) (P : List Nd) (hfs : f.sz ≤ N) (hvf : f.validFrom emp) (hP : valFault P = 0) (h6 : headOp P = 6) (A B : Option Addr) (n c m d : Nat) (w : World) (hl : n ≤ 4000) (h : Ns w A n c (Kd.fs f).flat) (k : Ns w B m d P) :
    Calls Tryz.prog 18 #[.slice A n c, .slice B m d] w fun e w' => e = .returned (.bool ((recParts P).all (hasOne f) && f.list.all (hasMust (recParts P)))) ∧ Below w.heap.size w w' := by
  obtain ⟨h200, hV⟩ := isV_zero.1 hP
  obtain ⟨a, rfl, hn1, d0, -⟩ := head_at h
  obtain ⟨b, rfl, hm1, e0, -⟩ := val_head k hV.pos
  have C := Lib.hid (refParts_rec (some b) m d P w k hP h6)
  have HPN := Lib.hid (show prtN P = (recParts P).map (·.1) by unfold prtN; rw [if_neg (by omega)])
  have HPV := Lib.hid (fun x (hx : x ∈ recParts P) => part_fine hP ((isV_rec hV h6).2.2.1 x hx).1 (Nat.le_of_lt (rec_smaller hV h6 hx)))
  have HLN := Lib.hid (show (recParts P).length ≤ 200 from recParts_len hP h6)
  have HNM := Lib.hid (fun x (hx : x ∈ recParts P) => show x.1.size ≤ maxLen by obtain ⟨y, hy, e⟩ := rec_name_in hV h6 hx; rw [← e]; exact (k.ok y hy).s)
  have HA := Lib.hid h
  have HB := Lib.hid k
  have FA := Lib.hid (fun w' (hb : Below w.heap.size w w') => ref_FieldsOf f hvf (some a) n c w' (h.keep hb) hl)
  have KA := Lib.hid (fun s w' (hs : s.size ≤ maxLen) (hb : Below w.heap.size w w') => ref_FieldKind f hvf (some a) n c s w' (h.keep hb) hl hs)
  have FP := Lib.hid (fun s w' (hb : Below w.heap.size w w') => ref_Field (some b) m d P s w' (k.keep hb) hP h6)
  have LA := Lib.hid (KLeft.start hvf)
  have HFS := Lib.hid (fun s m k (e : f.find s = some (m, k)) => Nat.le_trans (Nat.le_of_lt (find_sz e)) hfs)
  have HLF := Lib.hid (len_list' f)
  have hfn : f.len < n := by
    rw [h.len, Kd.flat, List.length_cons]
    have := fl_len_flat f
    omega
  have hnc := h.cap
  have hcm := h.max
  have hmk := k.max
  have hmd := k.cap
  unfold maxLen at hcm hmk
  simp only [opN] at d0
  rw [h6] at e0
  generalize (Kd.fs f).flat = t at *
  clear h k hP h6 h200 hV hvf hfs
  generalize recParts P = R at *
  go_enter Tryz.func18, Tryz.ntmps18
  go_wp2_with fail
  refine C.out.mono ?_
  rintro e w1 ⟨v, v', V, rfl, hT, hV, b1⟩
  obtain ⟨A1, c1, A2, c2, rfl, rfl, hS, hN⟩ := rows_at hT
  have B1 := Lib.hid b1
  have HS := Lib.hid hS
  have HT := Lib.hid hN
  have HVP := Lib.hid hV
  have hVl : V.length = R.length := by have := congrArg List.length hV; simpa using this
  have hPl : (prtN P).length = R.length := by rw [HPN.out]; simp
  have HVL := Lib.hid hVl
  rw [hVl, hPl]
  have hR200 := HLN.out
  clear b1 hS hN hV hT C d0 e0
  go_wp2_with fail
  go_loopw [11] (fun i wr => ∃ k : Nat, i = .int .i64 k ∧ k ≤ R.length ∧ Hid ((R.take k).all (hasOne f) = true) ∧ Hid (Below w1.heap.size w1 wr)) (fun i _ => R.length - (intOf i).toNat)
  case atStart => exact ⟨0, rfl, Nat.zero_le _, rfl, Below.refl _ _⟩
  case round =>
    obtain ⟨k, rfl, hk, hall, hB⟩ := hrel
    have BW := Lib.hid (B1.out.trans (hB.out.mono B1.out.size))
    by_cases hlt : k < R.length
    · have hkv : k < V.length := by rw [HVL.out]; exact hlt
      obtain ⟨a1, rfl, q1, n1⟩ := (HS.out.keep hB.out).at hkv
      have hRV : V[k].P = R[k].2 := by
        have := congrArg (fun l => l[k]?) HVP.out
        simpa only [List.getElem?_map, List.getElem?_eq_getElem hkv, List.getElem?_eq_getElem hlt, Option.map_some, Option.some.injEq] using this
      rw [hRV] at n1
      obtain ⟨a2, rfl, q2⟩ := (HT.out.keep hB.out) k R[k].1 (by rw [HPN.out, List.getElem?_map, List.getElem?_eq_getElem hlt]; rfl)
      have HBAD := Lib.hid (fun hx => show (R.all (hasOne f) && f.list.all (hasMust R)) = false by rw [all_bad (p := hasOne f) hlt hx, Bool.false_and])
      have HGOOD := Lib.hid (fun hx => all_take_succ (p := hasOne f) hlt hall.out hx)
      have HPK := Lib.hid (HPV.out _ (List.getElem_mem hlt))
      have hys := HNM.out _ (List.getElem_mem hlt)
      generalize R[k] = x at *
      generalize V[k] = r at *
      obtain ⟨xs, xv⟩ := x
      simp only at q2 n1 HPK hys hRV
      have N1 := Lib.hid n1
      clear hall n1 hRV
      go_wp2_with fail
      refine (KA.out xs wr hys BW.out).mono ?_
      rintro e w2 ⟨rfl, b2⟩
      have B2 := Lib.hid (hB.out.trans (b2.mono hB.out.size))
      have BW2 := Lib.hid (B1.out.trans (B2.out.mono B1.out.size))
      have q12 := cell_keep b2 q1
      have N2 := Lib.hid (N1.out.keep b2)
      clear q1 q2 hB BW b2 N1
      rcases hg2 : f.find xs with _ | ⟨m', k'⟩
      · rw [posOf_none hg2]
        have HR := Lib.hid (HBAD.out (by unfold hasOne; rw [hg2]))
        clear hg2 HBAD HGOOD
        go_wp2_with fail
        refine wp_region_quiet_below (by kernel_rfl) (by kernel_rfl) ?_
        repeat (first | go_big_quiet_step (fail) | quiet_step (fail))
        refine wpQuiet_nil ?_
        intro w3 hw'
        have B3 := Lib.hid (show Below w2.heap.size w2 w3 by obtain ⟨⟨d, os⟩, rfl⟩ := hw'; exact below_regrown _ _ _)
        clear hw'
        go_wp2_with fail
        go_ret
        exact ⟨by rw [HR.out]; rfl, BW2.out.trans (B3.out.mono BW2.out.size)⟩
      · obtain ⟨q3, hq3, hfd2⟩ := posOf_some LA.out hg2
        rw [hq3]
        have hle2 := hfd2.le
        rw [← HA.out.len] at hle2
        have PA := fun w' (hb : Below w2.heap.size w2 w') => ref_PartKind t q3 xs m' k' hfd2 a n c w' (HA.out.keep (BW2.out.trans (hb.mono BW2.out.size)))
        have RB := fun w' (hb : Below w2.heap.size w2 w') => ih k' xv (HFS.out _ _ _ hg2) hfd2.valid HPK.out (some (a.add ((q3 + 1) * 4))) r.A k'.flat.length (c - (q3 + 1)) r.n r.c w' (by omega) (part_ns hfd2 (HA.out.keep (BW2.out.trans (hb.mono BW2.out.size)))) (N2.out.keep hb)
        have s1 := rq (w := w2) PA
        have s3 := rq (w := w2) RB
        have k1 := cell_regrown q12
        have HRX := Lib.hid (show hasOne f (xs, xv) = belowK (ownV xv) k' by unfold hasOne; rw [hg2])
        generalize belowK (ownV xv) k' = rr at *
        generalize k'.flat.length = l2 at *
        have hq0 : decide ((q3 : Int) < 0) = false := decide_eq_false (by omega)
        clear PA RB hfd2 hg2 hq3
        go_wp2_with fail
        refine wp_region_quiet_below (by kernel_rfl) (by kernel_rfl) ?_
        repeat (first | go_big_quiet_step (first | exact s1 _ _ | exact s3 _ _) | quiet_step (first | exact s1 _ _ | exact s3 _ _))
        refine wpQuiet_nil ?_
        intro w3 hw'
        have B3 := Lib.hid (show Below w2.heap.size w2 w3 by obtain ⟨⟨d, os⟩, rfl⟩ := hw'; exact below_regrown _ _ _)
        clear hw'
        clear s1 s3 k1
        have B4 := Lib.hid (B2.out.trans (B3.out.mono B2.out.size))
        have BW4 := Lib.hid (B1.out.trans (B4.out.mono B1.out.size))
        cases rr
        · have HR := Lib.hid (HBAD.out HRX.out)
          clear HBAD HGOOD
          go_wp2_with fail
          go_ret
          exact ⟨by rw [HR.out]; rfl, BW4.out⟩
        · have HR := Lib.hid (HGOOD.out HRX.out)
          clear HBAD HGOOD
          go_wp2_with fail
          go_roundw
          case rel => exact ⟨k + 1, by go_num, hlt, HR, B4⟩
          case measure => simp [intOf]; omega
    · have HALL := Lib.hid (show R.all (hasOne f) = true by
        have := hall.out
        rwa [List.take_of_length_le (by omega)] at this)
      clear hall hk
      go_wp2_with fail
      refine (FA.out wr BW.out).mono ?_
      rintro e w2 ⟨A3, c3, rfl, hc3, hI3, b2⟩
      have B2 := Lib.hid (BW.out.trans (b2.mono BW.out.size))
      have I2 := Lib.hid hI3
      clear b2 hI3 hB BW
      go_wp2_with fail
      go_loopw [14] (fun i wr => ∃ k : Nat, i = .int .i64 k ∧ k ≤ f.len ∧ Hid ((f.list.take k).all (hasMust R) = true) ∧ Hid (Below w2.heap.size w2 wr)) (fun i _ => f.len - (intOf i).toNat)
      case atStart => exact ⟨0, rfl, Nat.zero_le _, rfl, Below.refl _ _⟩
      case round =>
        obtain ⟨k, rfl, hk, hall, hB⟩ := hrel
        have BW := Lib.hid (B2.out.trans (hB.out.mono B2.out.size))
        by_cases hlt : k < f.len
        · have hkl : k < f.list.length := by rw [HLF.out]; exact hlt
          have hy := List.getElem?_eq_getElem hkl
          obtain ⟨q, hq, hfd⟩ := LA.out.at k _ hy
          obtain ⟨ai, rfl, hci⟩ := (I2.out.keep hB.out) k q hq
          obtain ⟨a', ea, p0, p1, p2, p3⟩ := (HA.out.keep BW.out).at_ q _ hfd.nd
          injection ea with ea
          subst ea
          have hqn : q < n := by rw [HA.out.len]; exact (List.getElem?_eq_some_iff.1 hfd.nd).1
          have HBAD := Lib.hid (fun hx => show (R.all (hasOne f) && f.list.all (hasMust R)) = false by rw [all_bad (p := hasMust R) hkl hx, Bool.and_false])
          have HGOOD := Lib.hid (fun hx => all_take_succ (p := hasMust R) hkl hall.out hx)
          generalize f.list[k] = y at *
          obtain ⟨ys, ym, yk⟩ := y
          simp only [fldNd] at p0 p1 p2 p3 hfd
          clear hfd p0 p3 hall hy hq
          go_wp2_with fail
          refine (FP.out ys wr BW.out).mono ?_
          rintro e w3 ⟨A4, n4, c4, rfl, b3, -⟩
          have B3 := Lib.hid (hB.out.trans (b3.mono hB.out.size))
          have BW3 := Lib.hid (B2.out.trans (B3.out.mono B2.out.size))
          have hci2 := cell_keep b3 hci
          have p12 := cell_keep b3 p1
          have HRX := Lib.hid (show hasMust R (ys, ym, yk) = (!ym || R.any fun x => decide (x.1 = ys)) from rfl)
          generalize (R.any fun x => decide (x.1 = ys)) = bb at *
          clear hci p2 p1 hB BW b3
          cases ym
          · have HR := Lib.hid (HGOOD.out (by rw [HRX.out]; rfl))
            clear HBAD HGOOD
            simp only [Bool.false_eq_true, if_false] at p12
            go_wp2_with fail
            go_roundw
            case rel => exact ⟨k + 1, by go_num, hlt, HR, B3⟩
            case measure => simp [intOf]; omega
          · simp only [if_true] at p12
            cases bb
            · have HR := Lib.hid (HBAD.out (by rw [HRX.out]; rfl))
              clear HBAD HGOOD
              go_wp2_with fail
              go_ret
              exact ⟨by rw [HR.out]; rfl, BW3.out⟩
            · have HR := Lib.hid (HGOOD.out (by rw [HRX.out]; rfl))
              clear HBAD HGOOD
              go_wp2_with fail
              go_roundw
              case rel => exact ⟨k + 1, by go_num, hlt, HR, B3⟩
              case measure => simp [intOf]; omega
        · have HR := Lib.hid (show (R.all (hasOne f) && f.list.all (hasMust R)) = true by
            have := hall.out
            rw [List.take_of_length_le (by rw [HLF.out]; omega)] at this
            rw [this, HALL.out]; rfl)
          clear hall hk
          go_wp2_with fail
          go_ret
          exact ⟨by rw [HR.out]; rfl, BW.out⟩
theorem ref_Has : ∀ N : Nat, HasRC N
  | 0 => fun k _ h => by cases k <;> simp [Kd.sz] at h
  | N + 1 => by
    intro k P hsz hv hP A B n c m d w hl h k2
    obtain ⟨h200, hV⟩ := isV_zero.1 hP
    obtain ⟨a, ea, hn1, d0, d2⟩ := head_at h
    obtain ⟨b, eb, hm1, e0, e2⟩ := val_head k2 hV.pos
    have hm2 : m ≤ 4000 := by rw [k2.len]; omega
    cases k with
    | base x =>
      have hx := opN_base hv
      by_cases h48 : x = 48
      · subst h48
        rw [below_any _ _ rfl, ea, eb]
        exact rh_any a b n c m d _ _ _ _ w hn1 hm1 hl hm2 h.cap k2.cap d0 d2 e0 e2 rfl
      · rw [has_base hV hv h48, ea, eb]
        by_cases h49 : x = 49
        · have : decide (headOp P = x - 40) = false := decide_eq_false (by have := isV_op hV; omega)
          rw [this]
          exact rh_not a b n c m d _ _ _ _ w hn1 hm1 hl hm2 h.cap k2.cap d0 d2 e0 e2 (.inl h49)
        · exact rh_base a b n c m d _ _ _ _ w hn1 hm1 hl hm2 h.cap k2.cap d0 d2 e0 e2 (by have : opN (.base x) = x := rfl; omega)
    | ent s =>
      rw [has_ent hV, ea, eb]
      exact rh_ent a b n c m d _ _ _ _ w hn1 hm1 hl hm2 h.cap k2.cap d0 d2 e0 e2 rfl
    | set q =>
      by_cases h5 : headOp P = 5
      · simp only [Kd.sz] at hsz
        rw [has_set hV h5 (Kd.valid.ok (show q.valid from hv))]
        exact rh_set N (ref_Has N) q P (by omega) hv hP h5 A B n c m d w hl h k2
      · rw [has_not hV (.inl ⟨⟨q, rfl⟩, h5⟩), ea, eb]
        exact rh_not a b n c m d _ _ _ _ w hn1 hm1 hl hm2 h.cap k2.cap d0 d2 e0 e2 (.inr (.inl ⟨rfl, h5⟩))
    | fs f =>
      by_cases h6 : headOp P = 6
      · simp only [Kd.sz] at hsz
        rw [has_rec hV h6 (show (Kd.fs f).ok from Kd.valid.ok hv).1]
        exact rh_rec N (ref_Has N) f P (by omega) hv hP h6 A B n c m d w hl h k2
      · rw [has_not hV (.inr ⟨⟨f, rfl⟩, h6⟩), ea, eb]
        exact rh_not a b n c m d _ _ _ _ w hn1 hm1 hl hm2 h.cap k2.cap d0 d2 e0 e2 (.inr (.inr ⟨rfl, h6⟩))
end Go.Proofs.YtmekockjgldndaaGreatDoor
namespace Go.Proofs.YtmekockjgldndaaGreatDoor
open Go.RowKit Go.Wk Go.Sort
set_option maxRecDepth 100000
set_option linter.unusedSectionVars false

/-- Nodes of a type, wherever they lie. -/
def JnR (w : World) (k : Kd) (D : Nat → Prop) (e : Ending) (w' : World) : Prop := ∃ (A : Option Addr) (c : Nat), e = .returned (.slice A k.flat.length c) ∧ Ns w' A k.flat.length c k.flat ∧ Below w.heap.size w w' ∧ ∀ x, A = some x → w.heap.size ≤ x.block ∨ D x.block
/-- A slice's block. -/
def InB (A : Option Addr) (g : Nat) : Prop := ∃ x, A = some x ∧ x.block = g
theorem jn_weak {w w' : World} {k : Kd} {D : Nat → Prop} {e : Ending} (h : JnR w k (fun _ => False) e w') : JnR w k D e w' := by
  obtain ⟨A, c, h1, h2, h3, h4⟩ := h
  exact ⟨A, c, h1, h2, h3, fun x hx => (h4 x hx).elim .inl False.elim⟩
theorem nd_ok0 {x : Int} {s : ByteArray} (n : Int) (h0 : -9223372036854775808 ≤ n) (h1 : n ≤ 9223372036854775807) (hs : s.size ≤ maxLen) : NdOk ⟨x, n, s, emp⟩ := ⟨hs, by show (0 : Nat) ≤ maxLen; exact Nat.zero_le _, h0, h1⟩
/-- One node of the call's own. -/
theorem jn_one {w w1 : World} (k : Kd) (x : Nd) (hk : k.flat = [x]) (hx : NdOk x) (hb : Below w.heap.size w w1) : JnR w k (fun _ => False) (.returned (.slice (some ⟨w1.heap.size, 0, none⟩) 1 1)) (w1.alloc (.cells #[.int .i64 x.op, .int .i64 x.n, .string x.s, .string x.t] 44)) := by
  obtain ⟨A', c', e, q1, q2, q3⟩ := nds_of_own (P := [x]) (row_nd1 w1 x)
  injection e with e1 e2 e3
  subst e1 e3
  have hl : k.flat.length = 1 := by rw [hk]; rfl
  refine ⟨_, _, by rw [hl], ⟨rfl, by rw [hl]; exact Nat.le_refl _, by rw [hl]; unfold maxLen; omega, by rw [hk]; exact q2, ?_⟩, hb.alloc hb.size _, fun y hy => .inl (by injection hy with hy; subst hy; exact hb.size)⟩
  rw [hk]
  intro y hy
  simp only [List.mem_cons, List.not_mem_nil, or_false] at hy
  subst hy
  exact hx
/-- An append of nodes at a step of a region that draws its order. -/
theorem step_append_nds {ops : Array Oper} {o : Oper} {a : Act} {w : World} {K : Act → World → Prop} {Q : Exit → Act → World → Prop} {E : Prop} (hgd : o.guard = none) (s x : Operand)
    (ho : o.op = .call { callee := .builtin .append, args := #[s, x], argTypes := #[22, 22] })
    (base : Nat) (v : Value) (n : Nat) (P Z : List Nd) (hs : a.eval s = v) (hrow : w.ownsRow base 44 4 v n (ndCells P)) (hn : n = P.length) (ad : Addr) (m c : Nat) (hx : a.eval x = .slice (some ad) m c) (hm : m = Z.length)
    (hnews : ∀ j u, (ndCells Z)[j]? = some u → w.cell? (ad.add j) = some u) (hl : 0 < m ∧ n + m ≤ 1000000) (hbase : base ≤ w.heap.size)
    (h : ∀ A c' w', w'.ownsRow base 44 4 (.slice (some A) (n + m) c') (P ++ Z).length (ndCells (P ++ Z)) → w.grownBy w' v.ownBlock → K (a.put o.dst (.slice (some A) (n + m) c')) w') :
    if Region.wanted o (yielded ops a.tmps) = true then Oper.wp Tryz.prog o a w K Q else E := by
  have hi := ndInfo
  cases hq : Tryz.prog.info? 44 with
  | none => rw [hq] at hi; cases hi
  | some i0 =>
    rw [hq] at hi
    simp only [Option.map_some, Option.some.injEq, Prod.mk.injEq] at hi
    refine step_append_lies w hgd s x _ ho base _ i0 _ 4 48 Tryz.underlying22 hq hi.1 hi.2.1 hi.2.2 (by decide) (by decide) v n (ndCells P) hs hrow ad m c (ndCells Z) hx (by rw [ndCells_length, hm]) hnews (ndCells_one _) hl.1 (by unfold maxLen; omega) (by omega) hbase _ rfl ?_
    intro g cap w' h1 h2 h3 h4
    exact h _ _ w' (by rw [ndCells_append, List.length_append, ← hn, ← hm]; exact h1) h2
theorem ns_of_row {w : World} {B n c : Nat} {A : Option Addr} {P : List Nd} (h : w.ownsRow B 44 4 (.slice A n c) P.length (ndCells P)) (hl : P.length ≤ 1000000) (hok : NdsOk P) : Ns w A P.length c P := by
  obtain ⟨A', c', e, h1, h2, -⟩ := nds_of_own h
  injection e with e1 e2 e3
  subst e1 e3
  exact ⟨rfl, h1, by unfold maxLen; omega, h2, hok⟩
theorem slice_len_row {w : World} {B n c : Nat} {A : Option Addr} {P : List Nd} (h : w.ownsRow B 44 4 (.slice A n c) P.length (ndCells P)) : n = P.length := by
  obtain ⟨A', c', e, -, -, -⟩ := nds_of_own h
  injection e
section
variable (a b : Addr) (n c m d : Nat) (o1 o2 : Int) (s1 s2 : ByteArray) (w : World) (hn : 1 ≤ n) (hm : 1 ≤ m) (hl : n ≤ 4000) (hl2 : m ≤ 4000) (hnc : n ≤ c) (hmd : m ≤ d) (d0 : w.cell? a = some (.int .i64 o1)) (d2 : w.cell? ⟨a.block, a.off + 2, none⟩ = some (.string s1)) (e0 : w.cell? b = some (.int .i64 o2)) (e2 : w.cell? ⟨b.block, b.off + 2, none⟩ = some (.string s2))
include hn hm hl hl2 hnc hmd d0 d2 e0 e2
set_option maxHeartbeats 1000000 in
theorem rj_right (h : o1 = 49) :
    Calls Tryz.prog 55 #[.slice (some a) n c, .slice (some b) m d] w fun e w' => e = .returned (.slice (some b) m d) ∧ Below w.heap.size w w' := by
  subst h
  go_enter Tryz.func55, Tryz.ntmps55
  go_wp2_with fail
  go_ret
  exact ⟨rfl, Below.refl _ _⟩
set_option maxHeartbeats 1000000 in
theorem rj_left (h1 : o1 ≠ 49) (h : o2 = 49) :
    Calls Tryz.prog 55 #[.slice (some a) n c, .slice (some b) m d] w fun e w' => e = .returned (.slice (some a) n c) ∧ Below w.heap.size w w' := by
  have f1 : (o1 == 49) = false := beq_eq_false_iff_ne.2 h1
  subst h
  clear h1
  go_enter Tryz.func55, Tryz.ntmps55
  go_wp2_with fail
  go_ret
  exact ⟨rfl, Below.refl _ _⟩
set_option maxHeartbeats 1000000 in
theorem rj_same (h1 : o1 ≠ 49) (h3 : o1 ≠ 45) (h4 : o1 ≠ 46) (h : o1 = o2) (hs : s1 = s2) :
    Calls Tryz.prog 55 #[.slice (some a) n c, .slice (some b) m d] w fun e w' => e = .returned (.slice (some a) n c) ∧ Below w.heap.size w w' := by
  subst h hs
  have f1 : (o1 == 49) = false := beq_eq_false_iff_ne.2 h1
  have f3 : (o1 == 45) = false := beq_eq_false_iff_ne.2 h3
  have f4 : (o1 == 46) = false := beq_eq_false_iff_ne.2 h4
  clear h1 h3 h4
  have k0 := cell_regrown d0
  have k1 := cell_regrown e0
  have k2 := cell_regrown d2
  have k3 := cell_regrown e2
  go_enter Tryz.func55, Tryz.ntmps55
  go_wp2_with fail
  refine wp_region_quiet_below (by kernel_rfl) (by kernel_rfl) ?_
  repeat (first | go_big_quiet_step (fail) | quiet_step (fail))
  refine wpQuiet_nil ?_
  intro w1 hw'
  have B1 := Lib.hid (show Below w.heap.size w w1 by obtain ⟨⟨d, os⟩, rfl⟩ := hw'; exact below_regrown _ _ _)
  clear hw'
  clear k0 k1 k2 k3
  go_wp2_with fail
  go_ret
  exact ⟨rfl, B1.out⟩
set_option maxHeartbeats 1000000 in
theorem rj_any (h1 : o1 ≠ 49) (h2 : o2 ≠ 49) (h : o1 ≠ o2 ∨ (s1 ≠ s2 ∧ o1 ≠ 45 ∧ o1 ≠ 46)) :
    Calls Tryz.prog 55 #[.slice (some a) n c, .slice (some b) m d] w (JnR w (.base 48) (fun _ => False)) := by
  have f1 : (o1 == 49) = false := beq_eq_false_iff_ne.2 h1
  have f2 : (o2 == 49) = false := beq_eq_false_iff_ne.2 h2
  have HR := Lib.hid (fun w1 (hb : Below w.heap.size w w1) => jn_one (w := w) (w1 := w1) (.base 48) ⟨48, 0, emp, emp⟩ rfl (nd_ok0 0 (by decide) (by decide) (Nat.zero_le _)) hb)
  have k0 := cell_regrown d0
  have k1 := cell_regrown e0
  have k2 := cell_regrown d2
  have k3 := cell_regrown e2
  by_cases ho : o1 = o2
  · obtain ⟨hs, h45, h46⟩ := h.resolve_left (fun q => q ho)
    subst ho
    have f3 : (o1 == 45) = false := beq_eq_false_iff_ne.2 h45
    have f4 : (o1 == 46) = false := beq_eq_false_iff_ne.2 h46
    have f6 : (s1.toList == s2.toList) = false := beq_eq_false_iff_ne.2 (fun q => hs (toList_inj q))
    clear h h1 h2 hs h45 h46
    go_enter Tryz.func55, Tryz.ntmps55
    go_wp2_with fail
    refine wp_region_quiet_below (by kernel_rfl) (by kernel_rfl) ?_
    repeat (first | go_big_quiet_step (fail) | quiet_step (fail))
    refine wpQuiet_nil ?_
    intro w1 hw'
    have B1 := Lib.hid (show Below w.heap.size w w1 by obtain ⟨⟨d, os⟩, rfl⟩ := hw'; exact below_regrown _ _ _)
    clear hw'
    clear k0 k1 k2 k3
    go_wp2_with fail
    go_ret
    exact HR.out w1 B1.out
  · have f5 : (o1 == o2) = false := beq_eq_false_iff_ne.2 ho
    by_cases h45 : o1 = 45
    · subst h45
      have f6 : (o2 == 45) = false := beq_eq_false_iff_ne.2 (fun e => ho e.symm)
      clear h h1 h2 ho
      go_enter Tryz.func55, Tryz.ntmps55
      go_wp2_with fail
      refine wp_region_quiet_below (by kernel_rfl) (by kernel_rfl) ?_
      repeat (first | go_big_quiet_step (fail) | quiet_step (fail))
      refine wpQuiet_nil ?_
      intro w1 hw'
      have B1 := Lib.hid (show Below w.heap.size w w1 by obtain ⟨⟨d, os⟩, rfl⟩ := hw'; exact below_regrown _ _ _)
      clear hw'
      clear k0 k1 k2 k3
      go_wp2_with fail
      go_ret
      exact HR.out w1 B1.out
    · have f3 : (o1 == 45) = false := beq_eq_false_iff_ne.2 h45
      by_cases h46 : o1 = 46
      · subst h46
        have f6 : (o2 == 46) = false := beq_eq_false_iff_ne.2 (fun e => ho e.symm)
        clear h h1 h2 ho h45
        go_enter Tryz.func55, Tryz.ntmps55
        go_wp2_with fail
        refine wp_region_quiet_below (by kernel_rfl) (by kernel_rfl) ?_
        repeat (first | go_big_quiet_step (fail) | quiet_step (fail))
        refine wpQuiet_nil ?_
        intro w1 hw'
        have B1 := Lib.hid (show Below w.heap.size w w1 by obtain ⟨⟨d, os⟩, rfl⟩ := hw'; exact below_regrown _ _ _)
        clear hw'
        clear k0 k1 k2 k3
        go_wp2_with fail
        go_ret
        exact HR.out w1 B1.out
      · have f4 : (o1 == 46) = false := beq_eq_false_iff_ne.2 h46
        clear h h1 h2 ho h45 h46
        go_enter Tryz.func55, Tryz.ntmps55
        go_wp2_with fail
        refine wp_region_quiet_below (by kernel_rfl) (by kernel_rfl) ?_
        repeat (first | go_big_quiet_step (fail) | quiet_step (fail))
        refine wpQuiet_nil ?_
        intro w1 hw'
        have B1 := Lib.hid (show Below w.heap.size w w1 by obtain ⟨⟨d, os⟩, rfl⟩ := hw'; exact below_regrown _ _ _)
        clear hw'
        clear k0 k1 k2 k3
        go_wp2_with fail
        go_ret
        exact HR.out w1 B1.out
end
/-- What a call ahead of the row's making gives. -/
theorem set_other {w w3 : World} {A : Option Addr} {n c : Nat} {P : List Nd} (hb : Below w.heap.size w w3) (h : Ns w3 A n c P) :
    (w3.alloc (.cells #[.int .i64 45, .int .i64 0, .string ⟨#[]⟩, .string ⟨#[]⟩] 44)).ownsRow w.heap.size 44 4 (.slice (some ⟨w3.heap.size, 0, none⟩) 1 1) 1 (ndCells [⟨45, 0, emp, emp⟩]) ∧ Below w.heap.size w (w3.alloc (.cells #[.int .i64 45, .int .i64 0, .string ⟨#[]⟩, .string ⟨#[]⟩] 44)) ∧ Ns (w3.alloc (.cells #[.int .i64 45, .int .i64 0, .string ⟨#[]⟩, .string ⟨#[]⟩] 44)) A n c P :=
  ⟨World.ownsRow.mono (row_nd1 w3 ⟨45, 0, emp, emp⟩) hb.size, hb.alloc hb.size (.cells #[.int .i64 45, .int .i64 0, .string ⟨#[]⟩, .string ⟨#[]⟩] 44), h.keep (below_box w3 (.cells #[.int .i64 45, .int .i64 0, .string ⟨#[]⟩, .string ⟨#[]⟩] 44))⟩
/-- The contract of JoinKinds, for types of so much. -/
def JnRC (N : Nat) : Prop := ∀ (k1 k2 : Kd), k1.sz ≤ N → k1.sz + k2.sz ≤ 2000 → k1.valid → k2.valid → ∀ (A B : Option Addr) (n c m d : Nat) (w : World), Ns w A n c k1.flat → Ns w B m d k2.flat →
  Calls Tryz.prog 55 #[.slice A n c, .slice B m d] w (JnR w (joinK k1 k2) fun g => InB A g ∨ InB B g)
theorem setHead_ok : NdOk ⟨45, 0, emp, emp⟩ := ⟨by decide, by decide, by decide, by decide⟩
set_option maxHeartbeats 1000000 in
theorem rj_set (N : Nat) (ih : JnRC N) (p q : Kd) (hp : p.sz ≤ N) (hsz : p.sz + q.sz ≤ 2000) (hvp : p.valid) (hvq : q.valid) (A B : Option Addr) (n c m d : Nat) (w : World) (h : Ns w A n c (Kd.set p).flat) (k : Ns w B m d (Kd.set q).flat) :
    Calls Tryz.prog 55 #[.slice A n c, .slice B m d] w (JnR w (.set (joinK p q)) (fun _ => False)) := by
  obtain ⟨i0, hi, hz0, hz1, hz2⟩ := info_parts ndInfo
  obtain ⟨a, rfl, hn1, d0, -⟩ := head_at h
  obtain ⟨b, rfl, hm1, e0, -⟩ := head_at k
  have R := Lib.hid (fun w' (hb : Below w.heap.size w w') => ih p q hp hsz hvp hvq (some (a.add 4)) (some (b.add 4)) (n - 1) (c - 1) (m - 1) (d - 1) w' (ns_tail (h.keep hb)) (ns_tail (k.keep hb)))
  have hnc := h.cap
  have hmd := k.cap
  have hcm := h.max
  have hdm := k.max
  have hb0 : a.block < w.heap.size := block_lt_of_cell d0
  have hb1 : b.block < w.heap.size := block_lt_of_cell e0
  have HB := Lib.hid (below_box w (.cells #[.int .i64 45, .int .i64 0, .string ⟨#[]⟩, .string ⟨#[]⟩] 44))
  have HR0 := Lib.hid (row_nd1 w ⟨45, 0, emp, emp⟩)
  have hp1 : 2 ≤ n := by have := h.len; have := flat_pos p; rw [Kd.flat, List.length_cons] at *; omega
  have hq1 : 2 ≤ m := by have := k.len; have := flat_pos q; rw [Kd.flat, List.length_cons] at *; omega
  have hln : n ≤ 4000 := by have := h.len; rw [flat_len] at this; simp only [Kd.sz] at this; omega
  have hlm : m ≤ 4000 := by have := k.len; rw [flat_len] at this; simp only [Kd.sz] at this; omega
  have HSZ := Lib.hid (show (joinK p q).flat.length ≤ 2000 by rw [flat_len]; have := joinK_sz hvp.ok hvq.ok; omega)
  unfold maxLen at hcm hdm
  simp only [opN] at d0 e0
  have HFL := Lib.hid (show (Kd.set (joinK p q)).flat = ⟨45, 0, emp, emp⟩ :: (joinK p q).flat from rfl)
  generalize (joinK p q) = r at *
  clear h k ih hp hvp hvq hsz
  go_enter Tryz.func55, Tryz.ntmps55
  have hcne : c ≠ 1 := by omega
  have hdne : d ≠ 1 := by omega
  have hni : (1 : Int) ≤ (n : Int) := by omega
  have hmi : (1 : Int) ≤ (m : Int) := by omega
  have HB1 : Hid (Below w.heap.size w w.drew) := Lib.hid ⟨rfl, rfl, rfl, Nat.le_refl _, fun _ _ => rfl⟩
  have HB2 : Hid (Below w.heap.size w (w.alloc (.cells #[.int .i64 45, .int .i64 0, .string ⟨#[]⟩, .string ⟨#[]⟩] 44)).drew) := Lib.hid (HB.out.drew)
  have RA : Hid ((w.alloc (.cells #[.int .i64 45, .int .i64 0, .string ⟨#[]⟩, .string ⟨#[]⟩] 44)).drew.ownsRow w.heap.size 44 4 (.slice (some ⟨w.heap.size, 0, none⟩) 1 1) 1 (ndCells [⟨45, 0, emp, emp⟩])) := Lib.hid HR0.out
  go_wp2_with fail
  go_region_law (first
    | (refine step_append_nds rfl (.tmp 30) (.tmp 35) rfl w.heap.size _ 1 [⟨45, 0, emp, emp⟩] r.flat rfl RW.out rfl a3 r.flat.length c3 rfl rfl NC.out HLZ.out HBS.out ?_; intro A5 c5 w5 hown hgrow)
    | (go_simp; go_at_call 55; (refine (R.out _ ?hbx).mono ?_); (case hbx => first | exact HB1.out | exact HB2.out); rintro e w3 ⟨A3, c3, rfl, n3, b3, -⟩; (obtain ⟨a3, rfl, -, -, -⟩ := head_at n3); (have NO := Lib.hid n3.ok); (first | (have RW := Lib.hid (own_kept_below RA.out b3); have BX := Lib.hid (HB2.out.trans (b3.mono HB2.out.size)); have NC := Lib.hid n3.at_.cells) | (have SO := set_other (HB1.out.trans (b3.mono HB1.out.size)) n3; have RW := Lib.hid SO.1; have BX := Lib.hid SO.2.1; have NC := Lib.hid SO.2.2.at_.cells)); (have HBS := Lib.hid BX.out.size); (have HLZ := Lib.hid (show 0 < r.flat.length ∧ 1 + r.flat.length ≤ 1000000 from ⟨flat_pos r, by have := HSZ.out; omega⟩)); clear n3 b3))
  all_goals
    have B5 := Lib.hid (BX.out.grown hgrow HBS.out (own_base RW.out))
    have OW := Lib.hid hown
    clear hown hgrow RW NC HBS BX
    go_wp2_with fail
    go_ret
    refine ⟨some A5, c5, ?_, ?_, B5.out, fun y hy => .inl (by injection hy with hy; subst hy; exact own_base OW.out _ rfl)⟩
    rotate_left
    · rw [HFL.out]
      exact ns_of_row OW.out (by have := HSZ.out; simp; omega) (fun y hy => by
        rcases List.mem_cons.1 hy with rfl | hy
        · exact nd_ok0 0 (by decide) (by decide) (Nat.zero_le _)
        · exact NO.out y hy)
    · have := slice_len_row OW.out
      rw [HFL.out]
      simp only [List.length_cons]
      rw [show 1 + r.flat.length = r.flat.length + 1 by omega]
      rfl
end Go.Proofs.YtmekockjgldndaaGreatDoor
namespace Go.Proofs.YtmekockjgldndaaGreatDoor
open Go.RowKit Go.Wk Go.Sort
set_option maxRecDepth 100000

/-- What kind tells. -/
def KindPost (w : World) (R : Nat) : Option (Kd × List Nd) → Ending → World → Prop
  | none, e, w' => e = .panicked kwrong ∧ w.grownBy w' (some R)
  | some (k, r), e, w' => ∃ v : List Value, e = .returned (.agg v.toArray) ∧ KAt w' (fun b => w.heap.size ≤ b) k v ∧ RdK w' R r ∧ w.grownBy w' (some R)
/-- The contract of kind, with so much fuel. -/
def KindC (R m : Nat) : Prop := ∀ (Q : List Nd) (w : World), RdK w R Q → Q.length ≤ m → Calls Tryz.prog 98 #[.pointer (some ⟨R, 0, none⟩)] w (KindPost w R (parseK m Q))
/-- What field tells. -/
def FldPost (w : World) (R : Nat) : Option (ByteArray × Bool × Kd × List Nd) → Ending → World → Prop
  | none, e, w' => e = .panicked kwrong ∧ w.grownBy w' (some R)
  | some (s, b, k, r), e, w' => ∃ u : List Value, e = .returned (.agg (.string s :: .bool b :: u).toArray) ∧ KAt w' (fun b => w.heap.size ≤ b) k u ∧ RdK w' R r ∧ w.grownBy w' (some R)
theorem RdK.but {w w' : World} {R b : Nat} {Q : List Nd} (h : RdK w R Q) (hg : w.grownBy w' (some b)) (hb : R < b) : RdK w' R Q := by
  obtain ⟨⟨A, n, c, h1, h2, h3⟩, h4⟩ := h
  have hne : some R ≠ some b := fun e => by injection e with e; omega
  refine ⟨⟨A, n, c, hg.cell h1 hne, h2.but hg (fun h0 a e => Nat.ne_of_lt (Nat.lt_trans (h3 h0 a e) hb)), h3⟩, ?_⟩
  exact (World.frozen?_of_block (a := ⟨R, 0, none⟩) (hg.block R (block_lt_of_cell h1) hne)).trans h4
theorem grown_set8 (w : World) (b : Nat) (y0 y1 y2 y3 y4 y5 y6 y7 : Value) : w.grownBy ((((((((w.setCell ⟨b, 0, none⟩ y0).setCell ⟨b, 1, none⟩ y1).setCell ⟨b, 2, none⟩ y2).setCell ⟨b, 3, none⟩ y3).setCell ⟨b, 4, none⟩ y4).setCell ⟨b, 5, none⟩ y5).setCell ⟨b, 6, none⟩ y6).setCell ⟨b, 7, none⟩ y7) (some b) :=
  grown_trans (grown_trans (grown_trans (grown_trans (grown_trans (grown_trans (grown_trans (grown_trans (grown_refl w (some b)) (grown_setCell _ ⟨b, 0, none⟩ _)) (grown_setCell _ ⟨b, 1, none⟩ _)) (grown_setCell _ ⟨b, 2, none⟩ _)) (grown_setCell _ ⟨b, 3, none⟩ _)) (grown_setCell _ ⟨b, 4, none⟩ _)) (grown_setCell _ ⟨b, 5, none⟩ _)) (grown_setCell _ ⟨b, 6, none⟩ _)) (grown_setCell _ ⟨b, 7, none⟩ _)
theorem heap_set8 (w : World) (b : Nat) (y0 y1 y2 y3 y4 y5 y6 y7 : Value) {g : Nat} (h : g ≠ b) : ((((((((w.setCell ⟨b, 0, none⟩ y0).setCell ⟨b, 1, none⟩ y1).setCell ⟨b, 2, none⟩ y2).setCell ⟨b, 3, none⟩ y3).setCell ⟨b, 4, none⟩ y4).setCell ⟨b, 5, none⟩ y5).setCell ⟨b, 6, none⟩ y6).setCell ⟨b, 7, none⟩ y7).heap[g]? = w.heap[g]? := by
  iterate 8 rw [Below.heap_setCell _ _ _ g h]
theorem grown_new {w w4 W : World} {R b : Nat} (h : w.grownBy w4 (some R)) (k : w4.grownBy W (some b)) (hb : w.heap.size ≤ b) : w.grownBy W (some R) :=
  ⟨k.os.trans h.os, k.tape.trans h.tape, k.output.trans h.output, Nat.le_trans h.size k.size, fun i hi hn => (k.block i (Nat.lt_of_lt_of_le hi h.size) (fun e => by injection e with e; omega)).trans (h.block i hi hn)⟩
theorem toList_emp : emp.toList = [] := by rw [ByteArray.toList_eq]; rfl
theorem kat_shape {w : World} {B : Nat → Prop} {k : Kd} {v : List Value} (h : KAt w B k v) : ∃ (o n : Int) (s t : ByteArray) (p : Option Addr) (A : Option Addr) (m c : Nat), v = [.int .i64 o, .int .i64 n, .string s, .string t, .pointer p, .slice A m c] := by
  cases k with
  | base x => obtain ⟨_, rfl⟩ := h; exact ⟨_, _, _, _, _, _, _, _, rfl⟩
  | ent s => obtain ⟨_, rfl⟩ := h; exact ⟨_, _, _, _, _, _, _, _, rfl⟩
  | set q => obtain ⟨_, _, _, rfl, _⟩ := h; exact ⟨_, _, _, _, _, _, _, _, rfl⟩
  | fs f => obtain ⟨_, _, _, rfl, _⟩ := h; exact ⟨_, _, _, _, _, _, _, _, rfl⟩
set_option maxHeartbeats 4000000 in
theorem kind_field (R m : Nat) (ih : KindC R m) (x : ByteArray) (Q : List Nd) (w : World) (h : RdK w R Q) (hl : Q.length ≤ m + 1) :
    Calls Tryz.prog 167 #[.pointer (some ⟨R, 0, none⟩), .string x] w (FldPost w R (parse1 m x Q)) := by
  have HR := Lib.hid h
  have IH := Lib.hid ih
  clear h ih
  go_enter Tryz.func167, Tryz.ntmps167
  go_wp2_with fail
  have G0 := Lib.hid (grown_of_below (below_box w (.cells #[.string ⟨#[]⟩, .bool false, .int .i64 0, .int .i64 0, .string ⟨#[]⟩, .string ⟨#[]⟩, .pointer none, .slice none 0 0] 168)) (some R))
  have X0 := Lib.hid (bx8_new w (.string ⟨#[]⟩) (.bool false) (.int .i64 0) (.int .i64 0) (.string ⟨#[]⟩) (.string ⟨#[]⟩) (.pointer none) (.slice none 0 0) 168)
  have R0 := Lib.hid (HR.out.keep (below_box w (.cells #[.string ⟨#[]⟩, .bool false, .int .i64 0, .int .i64 0, .string ⟨#[]⟩, .string ⟨#[]⟩, .pointer none, .slice none 0 0] 168)))
  have HRL := Lib.hid (show R < w.heap.size by obtain ⟨⟨_, _, _, h1, _⟩, _⟩ := HR.out; exact block_lt_of_cell h1)
  have HNE := Lib.hid (show some w.heap.size ≠ some R from fun e => by injection e with e; have := HRL.out; omega)
  obtain ⟨w0, hw0⟩ : ∃ w0, w.alloc (.cells #[.string ⟨#[]⟩, .bool false, .int .i64 0, .int .i64 0, .string ⟨#[]⟩, .string ⟨#[]⟩, .pointer none, .slice none 0 0] 168) = w0 := ⟨_, rfl⟩
  have HS0 := Lib.hid (show w.heap.size ≤ w0.heap.size by rw [← hw0]; simp)
  rw [hw0] at G0 X0 R0 ⊢
  clear hw0 HR
  refine (kind_node R Q w0 R0.out).mono ?_
  cases Q with
  | nil =>
    rintro e w1 ⟨rfl, g1⟩
    go_wp2_with fail
    exact ⟨rfl, rfl, G0.out.trans g1⟩
  | cons y r =>
    rintro e w1 ⟨rfl, r1, g1⟩
    have G1 := Lib.hid (G0.out.trans g1)
    have X1 := Lib.hid (X0.out.but g1 HNE.out)
    have R1 := Lib.hid r1
    have HS1 := Lib.hid (Nat.le_trans HS0.out g1.size)
    have HYO := Lib.hid (show NdOk y by obtain ⟨⟨_, _, _, _, h2, _⟩, _⟩ := R0.out; exact h2.ok y (by simp))
    have HW1 := Lib.hid (show R < w1.heap.size by have := HRL.out; have := HS1.out; omega)
    clear r1 g1 G0 X0 R0 HS0
    unfold ndV
    have HBAD := Lib.hid (show ¬ kfOk x y → parse1 m x (y :: r) = none from fun h => if_neg h)
    have HGOOD := Lib.hid (show kfOk x y → parse1 m x (y :: r) = (match parseK m r with | none => none | some (k, r') => some (y.s, y.n == 1, k, r')) from fun h => if_pos h)
    generalize parse1 m x (y :: r) = PP at *
    by_cases ho : y.op = 47
    · have HO := Lib.hid ho
      have KN := Lib.hid (fun w => name_Check y.s w HYO.out.s)
      rw [ho]
      clear ho
      by_cases hn : y.n = 0
      · have HN := Lib.hid hn
        rw [hn]
        clear hn
        rcases empty_or y.t with ht | ⟨t1, t2, t3⟩
        · have HT := Lib.hid ht
          rw [ht]
          clear ht
          have B2 := Lib.hid (below_box w1 (.cells #[.int .i64 47, .int .i64 0, .string y.s, .string ⟨#[]⟩] 44))
          have V2 := Lib.hid (bx4_new w1 (.int .i64 47) (.int .i64 0) (.string y.s) (.string ⟨#[]⟩) 44)
          go_wp2_with fail
          obtain ⟨w2, hw2⟩ : ∃ w2, w1.alloc (.cells #[.int .i64 47, .int .i64 0, .string y.s, .string ⟨#[]⟩] 44) = w2 := ⟨_, rfl⟩
          rw [hw2] at B2 V2 ⊢
          clear hw2
          refine (KN.out w2).mono ?_
          rintro e w3 ⟨rfl, b3⟩
          have B3 := bh B2 b3
          have V3 := Lib.hid (V2.out.keep b3)
          have G3 := Lib.hid (grown_trans G1.out (grown_of_below B3.out (some R)))
          have R3 := Lib.hid (R1.out.keep B3.out)
          have X3 := Lib.hid (X1.out.keep B3.out)
          have HS3 := Lib.hid (Nat.le_trans HS1.out B3.out.size)
          clear b3 B2 V2 G1 R1 X1 HS1 KN B3
          obtain ⟨c0, c1, c2, c3, -, -, -, -⟩ := V3.out
          by_cases hf : nameFault y.s = 0
          · have HF := Lib.hid hf
            rw [hf, errV_zero]
            clear hf
            rcases leq_ways y.s x with ⟨l0, l1, l2⟩ | hl2
            · have HPG := Lib.hid (HGOOD.out ⟨HO.out, by rw [HN.out]; simp, HT.out, HF.out, l0⟩)
              have bd3 : Below w3.heap.size w3 w3.drew := ⟨rfl, rfl, rfl, Nat.le_refl _, fun _ _ => rfl⟩
              have VD := Lib.hid (V3.out.keep bd3)
              have XD := Lib.hid (X3.out.keep bd3)
              have GD := Lib.hid (grown_trans G3.out (grown_of_below bd3 (some R)))
              have HSD := Lib.hid (show w.heap.size ≤ w3.drew.heap.size from HS3.out)
              have HWD := Lib.hid (show R < w1.heap.size from HW1.out)
              have IK := Lib.hid (IH.out r w3.drew (R3.out.keep bd3) (by simp at hl; omega))
              clear bd3
              obtain ⟨e0, e1, e2, e3, -, -, -, -⟩ := VD.out
              rcases hp : parseK m r with _ | ⟨k, r'⟩
              · have HPN := Lib.hid (show PP = none by rw [HPG.out, hp])
                have IK2 := Lib.hid (fun d os => (IH.out r (grow (redrawn w3 d) os) (R3.out.keep (below_regrown w3 d os)) (by simp at hl; omega)))
                simp only [hp] at IK2
                clear IK hp e0 e1 e2 e3 HPG
                have k0 := cell_regrown c0
                have k1 := cell_regrown c1
                have k2 := cell_regrown c2
                have k3 := cell_regrown c3
                go_wp2_with fail
                refine wp_region_throw (l := [_, _, _, _, _, _]) [0, 1, 2, 3, 4, 5] [6] (by kernel_rfl) (by decide) (by kernel_rfl) rfl (fun w' => ∃ p : Regrown, w' = grow (redrawn w3 p.d) p.os) (fun ch w' => ch = kwrong ∧ w3.grownBy w' (some R)) ⟨⟨w3.drawn + 1, #[]⟩, by rw [grow_empty]; rfl⟩ ?_ ?_
                · rintro a' ch w' hd ⟨rfl, hg⟩
                  exact ⟨hd, by rw [HPN.out]; exact ⟨rfl, grown_trans G3.out hg⟩⟩
                · repeat (first | go_big_quiet_step (fail) | quiet_step (fail))
                  refine wpQuiet_nil ?_
                  refine ⟨fun o ho => ?_, trivial⟩
                  injection ho with ho
                  subst ho
                  refine ⟨by go_simp, ?_⟩
                  rintro w' ⟨⟨d, os⟩, rfl⟩
                  go_wp2_with fail
                  refine (IK2.out d os).mono ?_
                  rintro e w4 ⟨rfl, g4⟩
                  exact ⟨rfl, grown_trans (grown_of_below (below_regrown w3 d os) _) g4⟩
              · have HPN := Lib.hid (show PP = some (y.s, y.n == 1, k, r') by rw [HPG.out, hp])
                rw [hp] at IK
                clear hp
                go_wp2_with fail
                go_region_with (go_at_call 98; (refine IK.out.mono ?_); rintro e w4 ⟨v, rfl, hk, hr, g4⟩; (obtain ⟨o, n, s0, t0, p, A, m0, cc, rfl⟩ := kat_shape hk); (have HK4 := Lib.hid hk); (have HR4 := Lib.hid hr); (have G4 := Lib.hid g4); (obtain ⟨u0, u1, u2, u3, -, -, -, -⟩ := VD.out.but g4 (by intro e; injection e with e; have := HWD.out; omega)); (obtain ⟨d0, d1, d2, d3, d4, d5, d6, d7, z0, z1, z2, z3, z4, z5, z6, z7⟩ := XD.out.but g4 HNE.out); clear hk hr g4)
                all_goals
                  have HPB := Lib.hid (show PP = some (y.s, false, k, r') by rw [HPN.out, HN.out]; rfl)
                  have Y5 := (XD.out.but G4.out HNE.out).set (.string y.s) (.bool false) (.int .i64 o) (.int .i64 n) (.string s0) (.string t0) (.pointer p) (.slice A m0 cc)
                  obtain ⟨j0, j1, j2, j3, j4, j5, j6, j7, -, -, -, -, -, -, -, -⟩ := Y5
                  have gs := grown_set8 w4 w.heap.size (.string y.s) (.bool false) (.int .i64 o) (.int .i64 n) (.string s0) (.string t0) (.pointer p) (.slice A m0 cc)
                  have hRb := HRL.out
                  have R5 := Lib.hid (HR4.out.but gs hRb)
                  have K5 := Lib.hid ((HK4.out.cong (fun g hg => heap_set8 w4 w.heap.size (.string y.s) (.bool false) (.int .i64 o) (.int .i64 n) (.string s0) (.string t0) (.pointer p) (.slice A m0 cc) (by have hq : w.heap.size < w3.drew.heap.size := block_lt_of_cell XD.out.c0; have hg' : w3.drew.heap.size ≤ g := hg; omega))).mono (B' := fun b => w.heap.size ≤ b) (fun b hb _ => Nat.le_trans HSD.out hb))
                  have G5 := Lib.hid (show w.grownBy _ (some R) from grown_new (grown_trans GD.out G4.out) gs (Nat.le_refl _))
                  clear gs
                  go_wp2_with fail
                  refine bodyPost_ret (v := .agg #[.string y.s, .bool false, .int .i64 o, .int .i64 n, .string s0, .string t0, .pointer p, .slice A m0 cc]) (by simp [results, Tryz.results167, go_sem, j0, j1, j2, j3, j4, j5, j6, j7]) rfl ?_
                  rw [HPB.out]
                  exact ⟨[.int .i64 o, .int .i64 n, .string s0, .string t0, .pointer p, .slice A m0 cc], rfl, K5.out, R5.out, G5.out⟩
            · have HPN := Lib.hid (HBAD.out (fun h => by rcases hl2 with h2 | h2 <;> exact h2.1 h.2.2.2.2))
              have GB := G3
              rcases hl2 with ⟨-, l1⟩ | ⟨-, l1, l2⟩
              · go_wp2_with fail
                refine ⟨rfl, ?_⟩
                rw [HPN.out]
                exact ⟨rfl, GB.out⟩
              · go_wp2_with fail
                refine ⟨rfl, ?_⟩
                rw [HPN.out]
                exact ⟨rfl, GB.out⟩
          · have HPN := Lib.hid (HBAD.out (fun h => hf h.2.2.2.1))
            rw [errV_ne hf]
            generalize nameFault y.s = ff at *
            clear hf
            have GB := G3
            go_wp2_with fail
            refine ⟨rfl, ?_⟩
            rw [HPN.out]
            exact ⟨rfl, GB.out⟩
        · have HPN := Lib.hid (HBAD.out (fun h => t2 (by rw [h.2.2.1]; exact toList_emp)))
          clear HBAD HGOOD
          go_wp2_with fail
          refine ⟨rfl, ?_⟩
          rw [HPN.out]
          exact ⟨rfl, grown_trans G1.out (grown_of_below (below_box _ _) _)⟩
      · by_cases hn1 : y.n = 1
        · have hn := hn1
          clear hn1
          have HN := Lib.hid hn
          rw [hn]
          clear hn
          rcases empty_or y.t with ht | ⟨t1, t2, t3⟩
          · have HT := Lib.hid ht
            rw [ht]
            clear ht
            have B2 := Lib.hid (below_box w1 (.cells #[.int .i64 47, .int .i64 1, .string y.s, .string ⟨#[]⟩] 44))
            have V2 := Lib.hid (bx4_new w1 (.int .i64 47) (.int .i64 1) (.string y.s) (.string ⟨#[]⟩) 44)
            go_wp2_with fail
            obtain ⟨w2, hw2⟩ : ∃ w2, w1.alloc (.cells #[.int .i64 47, .int .i64 1, .string y.s, .string ⟨#[]⟩] 44) = w2 := ⟨_, rfl⟩
            rw [hw2] at B2 V2 ⊢
            clear hw2
            refine (KN.out w2).mono ?_
            rintro e w3 ⟨rfl, b3⟩
            have B3 := bh B2 b3
            have V3 := Lib.hid (V2.out.keep b3)
            have G3 := Lib.hid (grown_trans G1.out (grown_of_below B3.out (some R)))
            have R3 := Lib.hid (R1.out.keep B3.out)
            have X3 := Lib.hid (X1.out.keep B3.out)
            have HS3 := Lib.hid (Nat.le_trans HS1.out B3.out.size)
            clear b3 B2 V2 G1 R1 X1 HS1 KN B3
            obtain ⟨c0, c1, c2, c3, -, -, -, -⟩ := V3.out
            by_cases hf : nameFault y.s = 0
            · have HF := Lib.hid hf
              rw [hf, errV_zero]
              clear hf
              rcases leq_ways y.s x with ⟨l0, l1, l2⟩ | hl2
              · have HPG := Lib.hid (HGOOD.out ⟨HO.out, by rw [HN.out]; simp, HT.out, HF.out, l0⟩)
                have bd3 : Below w3.heap.size w3 w3.drew := ⟨rfl, rfl, rfl, Nat.le_refl _, fun _ _ => rfl⟩
                have VD := Lib.hid (V3.out.keep bd3)
                have XD := Lib.hid (X3.out.keep bd3)
                have GD := Lib.hid (grown_trans G3.out (grown_of_below bd3 (some R)))
                have HSD := Lib.hid (show w.heap.size ≤ w3.drew.heap.size from HS3.out)
                have HWD := Lib.hid (show R < w1.heap.size from HW1.out)
                have IK := Lib.hid (IH.out r w3.drew (R3.out.keep bd3) (by simp at hl; omega))
                clear bd3
                obtain ⟨e0, e1, e2, e3, -, -, -, -⟩ := VD.out
                rcases hp : parseK m r with _ | ⟨k, r'⟩
                · have HPN := Lib.hid (show PP = none by rw [HPG.out, hp])
                  have IK2 := Lib.hid (fun d os => (IH.out r (grow (redrawn w3 d) os) (R3.out.keep (below_regrown w3 d os)) (by simp at hl; omega)))
                  simp only [hp] at IK2
                  clear IK hp e0 e1 e2 e3 HPG
                  have k0 := cell_regrown c0
                  have k1 := cell_regrown c1
                  have k2 := cell_regrown c2
                  have k3 := cell_regrown c3
                  go_wp2_with fail
                  refine wp_region_throw (l := [_, _, _, _, _, _]) [0, 1, 2, 3, 4, 5] [6] (by kernel_rfl) (by decide) (by kernel_rfl) rfl (fun w' => ∃ p : Regrown, w' = grow (redrawn w3 p.d) p.os) (fun ch w' => ch = kwrong ∧ w3.grownBy w' (some R)) ⟨⟨w3.drawn + 1, #[]⟩, by rw [grow_empty]; rfl⟩ ?_ ?_
                  · rintro a' ch w' hd ⟨rfl, hg⟩
                    exact ⟨hd, by rw [HPN.out]; exact ⟨rfl, grown_trans G3.out hg⟩⟩
                  · repeat (first | go_big_quiet_step (fail) | quiet_step (fail))
                    refine wpQuiet_nil ?_
                    refine ⟨fun o ho => ?_, trivial⟩
                    injection ho with ho
                    subst ho
                    refine ⟨by go_simp, ?_⟩
                    rintro w' ⟨⟨d, os⟩, rfl⟩
                    go_wp2_with fail
                    refine (IK2.out d os).mono ?_
                    rintro e w4 ⟨rfl, g4⟩
                    exact ⟨rfl, grown_trans (grown_of_below (below_regrown w3 d os) _) g4⟩
                · have HPN := Lib.hid (show PP = some (y.s, y.n == 1, k, r') by rw [HPG.out, hp])
                  rw [hp] at IK
                  clear hp
                  go_wp2_with fail
                  go_region_with (go_at_call 98; (refine IK.out.mono ?_); rintro e w4 ⟨v, rfl, hk, hr, g4⟩; (obtain ⟨o, n, s0, t0, p, A, m0, cc, rfl⟩ := kat_shape hk); (have HK4 := Lib.hid hk); (have HR4 := Lib.hid hr); (have G4 := Lib.hid g4); (obtain ⟨u0, u1, u2, u3, -, -, -, -⟩ := VD.out.but g4 (by intro e; injection e with e; have := HWD.out; omega)); (obtain ⟨d0, d1, d2, d3, d4, d5, d6, d7, z0, z1, z2, z3, z4, z5, z6, z7⟩ := XD.out.but g4 HNE.out); clear hk hr g4)
                  all_goals
                    have HPB := Lib.hid (show PP = some (y.s, true, k, r') by rw [HPN.out, HN.out]; rfl)
                    have Y5 := (XD.out.but G4.out HNE.out).set (.string y.s) (.bool true) (.int .i64 o) (.int .i64 n) (.string s0) (.string t0) (.pointer p) (.slice A m0 cc)
                    obtain ⟨j0, j1, j2, j3, j4, j5, j6, j7, -, -, -, -, -, -, -, -⟩ := Y5
                    have gs := grown_set8 w4 w.heap.size (.string y.s) (.bool true) (.int .i64 o) (.int .i64 n) (.string s0) (.string t0) (.pointer p) (.slice A m0 cc)
                    have hRb := HRL.out
                    have R5 := Lib.hid (HR4.out.but gs hRb)
                    have K5 := Lib.hid ((HK4.out.cong (fun g hg => heap_set8 w4 w.heap.size (.string y.s) (.bool true) (.int .i64 o) (.int .i64 n) (.string s0) (.string t0) (.pointer p) (.slice A m0 cc) (by have hq : w.heap.size < w3.drew.heap.size := block_lt_of_cell XD.out.c0; have hg' : w3.drew.heap.size ≤ g := hg; omega))).mono (B' := fun b => w.heap.size ≤ b) (fun b hb _ => Nat.le_trans HSD.out hb))
                    have G5 := Lib.hid (show w.grownBy _ (some R) from grown_new (grown_trans GD.out G4.out) gs (Nat.le_refl _))
                    clear gs
                    go_wp2_with fail
                    refine bodyPost_ret (v := .agg #[.string y.s, .bool true, .int .i64 o, .int .i64 n, .string s0, .string t0, .pointer p, .slice A m0 cc]) (by simp [results, Tryz.results167, go_sem, j0, j1, j2, j3, j4, j5, j6, j7]) rfl ?_
                    rw [HPB.out]
                    exact ⟨[.int .i64 o, .int .i64 n, .string s0, .string t0, .pointer p, .slice A m0 cc], rfl, K5.out, R5.out, G5.out⟩
              · have HPN := Lib.hid (HBAD.out (fun h => by rcases hl2 with h2 | h2 <;> exact h2.1 h.2.2.2.2))
                have GB := G3
                rcases hl2 with ⟨-, l1⟩ | ⟨-, l1, l2⟩
                · go_wp2_with fail
                  refine ⟨rfl, ?_⟩
                  rw [HPN.out]
                  exact ⟨rfl, GB.out⟩
                · go_wp2_with fail
                  refine ⟨rfl, ?_⟩
                  rw [HPN.out]
                  exact ⟨rfl, GB.out⟩
            · have HPN := Lib.hid (HBAD.out (fun h => hf h.2.2.2.1))
              rw [errV_ne hf]
              generalize nameFault y.s = ff at *
              clear hf
              have GB := G3
              go_wp2_with fail
              refine ⟨rfl, ?_⟩
              rw [HPN.out]
              exact ⟨rfl, GB.out⟩
          · have HPN := Lib.hid (HBAD.out (fun h => t2 (by rw [h.2.2.1]; exact toList_emp)))
            clear HBAD HGOOD
            go_wp2_with fail
            refine ⟨rfl, ?_⟩
            rw [HPN.out]
            exact ⟨rfl, grown_trans G1.out (grown_of_below (below_box _ _) _)⟩
        · have HPN := Lib.hid (HBAD.out (fun h => h.2.1.elim hn hn1))
          have e0 : (y.n != 0) = true := by rw [bne_iff_ne]; exact hn
          have e1 : (y.n != 1) = true := by rw [bne_iff_ne]; exact hn1
          clear HBAD HGOOD hn hn1
          go_wp2_with fail
          refine ⟨rfl, ?_⟩
          rw [HPN.out]
          exact ⟨rfl, grown_trans G1.out (grown_of_below (below_box _ _) _)⟩
    · have HPN := Lib.hid (HBAD.out (fun h => ho h.1))
      have h1 : (y.op != 47) = true := by rw [bne_iff_ne]; exact ho
      clear ho HBAD HGOOD
      go_wp2_with fail
      refine ⟨rfl, ?_⟩
      rw [HPN.out]
      exact ⟨rfl, grown_trans G1.out (grown_of_below (below_box _ _) _)⟩
end Go.Proofs.YtmekockjgldndaaGreatDoor
namespace Go.Proofs.YtmekockjgldndaaGreatDoor
open Go.RowKit Go.Wk Go.Sort
set_option maxRecDepth 100000

/-- A field, and the cells of its type. -/
structure Fe where
  y : Kfd
  o : Int
  n : Int
  s : ByteArray
  t : ByteArray
  p : Option Addr
  A : Option Addr
  m : Nat
  c : Nat
def Fe.u (x : Fe) : List Value := [.int .i64 x.o, .int .i64 x.n, .string x.s, .string x.t, .pointer x.p, .slice x.A x.m x.c]
def Fe.eight (x : Fe) : List Value := .string x.y.1 :: .bool x.y.2.1 :: x.u
def feCells : List Fe → List Value
  | [] => []
  | x :: E => .string x.y.1 :: .bool x.y.2.1 :: .int .i64 x.o :: .int .i64 x.n :: .string x.s :: .string x.t :: .pointer x.p :: .slice x.A x.m x.c :: feCells E
@[simp] theorem feCells_length (E : List Fe) : (feCells E).length = E.length * 8 := by
  induction E with
  | nil => rfl
  | cons x E ih => simp only [feCells, List.length_cons, ih]; omega
theorem feCells_append (U V : List Fe) : feCells (U ++ V) = feCells U ++ feCells V := by
  induction U with
  | nil => rfl
  | cons u U ih => simp only [List.cons_append, feCells, ih]
theorem feCells_one (E : List Fe) : ∀ v ∈ feCells E, v.oneCell' = true := by
  induction E with
  | nil => intro v hv; cases hv
  | cons u U ih =>
    intro v hv
    simp only [feCells, List.mem_cons] at hv
    rcases hv with rfl | rfl | rfl | rfl | rfl | rfl | rfl | rfl | hv
    · rfl
    · rfl
    · rfl
    · rfl
    · rfl
    · rfl
    · rfl
    · rfl
    · exact ih v hv
theorem feCells_at : ∀ (E : List Fe) (k : Nat) (x : Fe), E[k]? = some x → ∀ j v, x.eight[j]? = some v → (feCells E)[k * 8 + j]? = some v
  | [], k, x, h => by simp at h
  | y :: E, 0, x, h => by
    simp at h; subst h
    intro j v hv
    rw [Nat.zero_mul, Nat.zero_add]
    match j, hv with
    | 0, hv => exact hv
    | 1, hv => exact hv
    | 2, hv => exact hv
    | 3, hv => exact hv
    | 4, hv => exact hv
    | 5, hv => exact hv
    | 6, hv => exact hv
    | 7, hv => exact hv
    | j + 8, hv => simp [Fe.eight, Fe.u] at hv
  | y :: E, k + 1, x, h => by
    intro j v hv
    have := feCells_at E k x (by simpa using h) j v hv
    rw [show (k + 1) * 8 + j = k * 8 + j + 1 + 1 + 1 + 1 + 1 + 1 + 1 + 1 by omega]
    simpa [feCells] using this
theorem fdInfo : (Tryz.prog.info? 168).map (fun i => (i.zero, i.size, i.bytes)) = some (some (.agg #[.string ⟨#[]⟩, .bool false, .int .i64 0, .int .i64 0, .string ⟨#[]⟩, .string ⟨#[]⟩, .pointer none, .slice none 0 0]), 8, 104) := by kernel_rfl
theorem add_add' (a : Addr) (x y : Nat) : (a.add x).add y = a.add (x + y) := by
  unfold Addr.add
  by_cases hx : x = 0 <;> by_cases hy : y = 0 <;> simp [hx, hy, Nat.add_assoc]
/-- Cells that stand in a row are fields. -/
theorem fat_of_cells {w : World} {B : Nat → Prop} {a : Addr} (hB : B a.block) : ∀ (E0 E : List Fe), (∀ j u, (feCells (E0 ++ E))[j]? = some u → w.cell? (a.add j) = some u) → (∀ x ∈ E, KAt w B x.y.2.2 x.u) → FAt w B (some a) E0.length (ofL (E.map Fe.y))
  | _, [], _, _ => trivial
  | E0, x :: E, h, hE => by
    refine ⟨⟨a, x.u, rfl, hB, fun j v hv => ?_, hE x (by simp)⟩, ?_⟩
    · rw [add_add']
      exact h _ _ (feCells_at (E0 ++ x :: E) E0.length x (by simp) j v hv)
    · have := fat_of_cells hB (E0 ++ [x]) E (by simpa using h) fun y hy => hE y (by simp [hy])
      simpa [ofL] using this
theorem ofL_len : ∀ L : List Kfd, (ofL L).len = L.length
  | [] => rfl
  | y :: r => by simp [ofL, Fl.len, ofL_len r]
/-- A row of the call's own that holds fields; what their types lead to lies elsewhere. -/
structure RowF (w : World) (base : Nat) (v : Value) (E : List Fe) : Prop where
  own : w.ownsRow base 168 8 v E.length (feCells E)
  ok : ∀ x ∈ E, KAt w (fun b => base ≤ b ∧ some b ≠ v.ownBlock) x.y.2.2 x.u
theorem RowF.nil (w : World) (base : Nat) : RowF w base (.slice none 0 0) [] := ⟨World.ownsRow_nil _ _ _ _, fun _ h => nomatch h⟩
theorem RowF.keep {w w' : World} {base : Nat} {v : Value} {E : List Fe} {R : Nat} (h : RowF w base v E) (hg : w.grownBy w' (some R)) (hR : R < base) : RowF w' base v E := by
  refine ⟨h.own.kept hg ?_, fun x hx => ?_⟩
  · rcases hv : v.ownBlock with _ | k
    · exact .inl rfl
    · refine .inr fun e => ?_
      injection e with e
      have := (h.own.lt k hv).1
      omega
  · have h1 := ((kat_mono (w := w) (B' := fun b => (base ≤ b ∧ some b ≠ v.ownBlock) ∧ b < w.heap.size) (fun b hb hl => ⟨hb, hl⟩) _).1 _ _ (Nat.le_refl _) (h.ok x hx))
    have h2 := h1.cong (w' := w') fun b hb => hg.block b hb.2 (fun e => by injection e with e; have := hb.1.1; omega)
    exact h2.mono fun b hb _ => hb.1
theorem RowF.keepN {w w' : World} {base : Nat} {v : Value} {E : List Fe} (h : RowF w base v E) (hg : w.grownBy w' none) : RowF w' base v E := by
  refine ⟨h.own.kept hg ?_, fun x hx => ?_⟩
  · rcases hv : v.ownBlock with _ | k
    · exact .inl rfl
    · exact .inr (fun e => nomatch e)
  · have h1 := ((kat_mono (w := w) (B' := fun b => (base ≤ b ∧ some b ≠ v.ownBlock) ∧ b < w.heap.size) (fun b hb hl => ⟨hb, hl⟩) _).1 _ _ (Nat.le_refl _) (h.ok x hx))
    have h2 := h1.cong (w' := w') fun b hb => hg.block b hb.2 (fun e => nomatch e)
    exact h2.mono fun b hb _ => hb.1
/-- What the row is as fields of a type. -/
theorem RowF.fat {w : World} {base : Nat} {v : Value} {E : List Fe} (h : RowF w base v E) : ∃ A c, v = .slice A E.length c ∧ FAt w (fun b => base ≤ b) A 0 (ofL (E.map Fe.y)) ∧ E.length ≤ c ∧ c ≤ maxLen := by
  obtain ⟨h1, h2⟩ := h
  have h0 := h1
  rcases h1.2 with ⟨rfl, e0⟩ | ⟨g, cap, cur, rfl, hB, hh, hc, hm, hrest⟩
  · have : E = [] := List.eq_nil_of_length_eq_zero e0
    subst this
    exact ⟨none, 0, rfl, trivial, Nat.le_refl _, Nat.zero_le _⟩
  · refine ⟨some ⟨g, 0, none⟩, cap, rfl, ?_, hc, hm⟩
    exact fat_of_cells (B := fun b => base ≤ b) (a := ⟨g, 0, none⟩) hB [] E (by simpa using h0.cells (g := g) rfl) fun x hx => (h2 x hx).mono fun b hb _ => hb.1
/-- One more. -/
theorem RowF.snoc {w w' : World} {base : Nat} {v v' : Value} {E : List Fe} {x : Fe} (h : RowF w base v E) (hx : KAt w (fun b => base ≤ b ∧ some b ≠ v.ownBlock) x.y.2.2 x.u) (hown : w'.ownsRow base 168 8 v' (E.length + 1) (feCells E ++ x.eight)) (hg : w.grownBy w' v.ownBlock)
    (hb : v'.ownBlock = v.ownBlock ∨ v'.ownBlock = some w.heap.size) : RowF w' base v' (E ++ [x]) := by
  refine ⟨?_, fun z hz => ?_⟩
  · rw [feCells_append, List.length_append]; exact hown
  · have hz' : KAt w (fun b => base ≤ b ∧ some b ≠ v.ownBlock) z.y.2.2 z.u := by
      rcases List.mem_append.1 hz with hz | hz
      · exact h.ok z hz
      · simp only [List.mem_cons, List.not_mem_nil, or_false] at hz; subst hz; exact hx
    have h1 := (kat_mono (w := w) (B' := fun b => (base ≤ b ∧ some b ≠ v.ownBlock) ∧ b < w.heap.size) (fun b hb hl => ⟨hb, hl⟩) _).1 _ _ (Nat.le_refl _) hz'
    have h2 := h1.cong (w' := w') fun b hb => hg.block b hb.2 (fun e => hb.1.2 (by rw [← e]))
    refine h2.mono fun b hb _ => ⟨hb.1.1, ?_⟩
    rcases ‹v'.ownBlock = v.ownBlock ∨ v'.ownBlock = some w.heap.size› with e | e
    · rw [e]; exact hb.1.2
    · rw [e]; intro q; injection q with q; have := hb.2; omega
/-- append of one field to such a row. -/
theorem wpList_append_fe {ops : Array Oper} {rest : List Oper} {o : Oper} {a : Act} {w : World} {Q : Exit → Act → World → Prop} (hgd : o.guard = none) (s x : Operand)
    (ho : o.op = .call { callee := .builtin .append, args := #[s, x], argTypes := #[83, 83] })
    (base : Nat) (v : Value) (E : List Fe) (hs : a.eval s = v) (hrow : RowF w base v E) (z : Fe) (ad : Addr) (m c : Nat) (hx : a.eval x = .slice (some ad) m c) (hm : m = 1)
    (hnews : ∀ j u, z.eight[j]? = some u → w.cell? (ad.add j) = some u) (hz : KAt w (fun b => base ≤ b ∧ some b ≠ v.ownBlock) z.y.2.2 z.u) (hl : E.length ≤ 1000000) (hbase : base ≤ w.heap.size)
    (h : ∀ v' w', RowF w' base v' (E ++ [z]) → w.grownBy w' v.ownBlock → wpList Tryz.prog ops Q rest (a.put o.dst v') w') : wpList Tryz.prog ops Q (o :: rest) a w := by
  subst hm
  have hi := fdInfo
  cases hq : Tryz.prog.info? 168 with
  | none => rw [hq] at hi; cases hi
  | some i0 =>
    rw [hq] at hi
    simp only [Option.map_some, Option.some.injEq, Prod.mk.injEq] at hi
    refine wpList_append_own_at w hgd s x _ ho base _ i0 _ 8 104 Tryz.underlying83 hq hi.1 hi.2.1 hi.2.2 (by decide) (by decide) v E.length (feCells E) hs hrow.own ad 1 c z.eight hx rfl hnews ?_ (by unfold maxLen; omega) (by omega) hbase ?_
    · intro u hu
      have := feCells_one [z] u (by simpa [feCells, Fe.eight, Fe.u] using hu)
      exact this
    · intro v' w' h1 h2 _ h4
      exact h v' w' (hrow.snoc hz h1 h2 h4) h2
end Go.Proofs.YtmekockjgldndaaGreatDoor
