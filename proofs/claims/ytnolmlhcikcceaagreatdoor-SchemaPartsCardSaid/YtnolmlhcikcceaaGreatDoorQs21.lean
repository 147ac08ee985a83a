/-
  ref HasKind, Field: has a value a type?
  ref nameFaults, recordFault, among: names and types of a schema.
  ref kindFault: what is wrong with a kind of a schema.
  ref actFault: what is wrong with an act of a schema.
-/
import Derived.Test.YtnolmlhcikcceaaGreatDoorQs20
namespace Go.Proofs.YtnolmlhcikcceaaGreatDoor
open Go.RowKit Go.Wk Go.Sort
set_option maxRecDepth 100000
set_option linter.unusedSectionVars false

/-- A slice that holds texts. -/
def TxsIn (w : World) (A : Option Addr) (N : List ByteArray) : Prop := ∀ (k : Nat) (x : ByteArray), N[k]? = some x → ∃ a, A = some a ∧ w.cell? (a.add k) = some (.string x)
theorem TxsIn.keep {w w' : World} {A : Option Addr} {N : List ByteArray} (h : TxsIn w A N) (hb : Below w.heap.size w w') : TxsIn w' A N := fun k x hx => by
  obtain ⟨a, e, q⟩ := h k x hx
  exact ⟨a, e, cell_keep hb q⟩
theorem txs_own {w : World} {B : Nat} {v : Value} {N : List ByteArray} (h : w.ownsRow B 9 1 v N.length (N.map Value.string)) : ∃ A c, v = .slice A N.length c ∧ TxsIn w A N := by
  rcases h.2 with ⟨rfl, h0⟩ | ⟨g, cap, cur, rfl, _⟩
  · have : N = [] := List.eq_nil_of_length_eq_zero h0
    subst this
    exact ⟨none, 0, rfl, fun k x hx => by simp at hx⟩
  · refine ⟨some ⟨g, 0, none⟩, cap, rfl, fun k x hx => ⟨_, rfl, h.cells (g := g) rfl _ _ ?_⟩⟩
    rw [List.getElem?_map, hx]; rfl
/-- What Parts tells, as slices. -/
theorem rows_at {w : World} {B : Nat} {v v' : Value} {V : List Sl} {N : List ByteArray} (h : TwoRows w B v v' V N) : ∃ A c A2 c2, v = .slice A V.length c ∧ v' = .slice A2 N.length c2 ∧ SlsAt w A V ∧ TxsIn w A2 N := by
  obtain ⟨A, c, e1, -, h1⟩ := h.a.at
  obtain ⟨A2, c2, e2, h2⟩ := txs_own h.b
  exact ⟨A, c, A2, c2, e1, e2, h1, h2⟩
theorem val_head {w : World} {A : Option Addr} {n c : Nat} {P : List Nd} (h : Ns w A n c P) (hp : 0 < P.length) : ∃ a, A = some a ∧ 1 ≤ n ∧ w.cell? a = some (.int .i64 (headOp P)) ∧ w.cell? ⟨a.block, a.off + 2, none⟩ = some (.string (headS P)) := by
  cases P with
  | nil => simp at hp
  | cons x r =>
    obtain ⟨a, ea, d0, d1, d2, d3⟩ := h.at_ 0 x rfl
    exact ⟨a, ea, by rw [h.len]; simp, d0, d2⟩
/-- What Field tells. -/
def RFldPost (w : World) (R : List (ByteArray × List Nd)) (s : ByteArray) (e : Ending) (w' : World) : Prop :=
  ∃ (A' : Option Addr) (n' c' : Nat), e = .returned (.tuple #[.slice A' n' c', .bool (R.any fun x => decide (x.1 = s))]) ∧ Below w.heap.size w w' ∧ ((∀ x ∈ R, x.1 ≠ s) ∨ ∃ x ∈ R, x.1 = s ∧ Ns w' A' n' c' x.2)
set_option maxHeartbeats 1000000 in
/-- Field: is there one of a name? -/
theorem ref_Field (A : Option Addr) (n c : Nat) (P : List Nd) (s : ByteArray) (w : World) (h : Ns w A n c P) (hv : valFault P = 0) (h6 : headOp P = 6) :
    Calls Tryz.prog 83 #[.slice A n c, .string s] w (RFldPost w (recParts P) s) := by
  have C := Lib.hid (refParts_rec A n c P w h hv h6)
  have HPN := Lib.hid (show prtN P = (recParts P).map (·.1) by unfold prtN; rw [if_neg (by omega)])
  have HLN := Lib.hid (show (recParts P).length ≤ 200 from recParts_len hv h6)
  clear h hv h6
  generalize recParts P = R at *
  go_enter Tryz.func83, Tryz.ntmps83
  go_wp2_with fail
  refine C.out.mono ?_
  rintro e w1 ⟨v, v', V, rfl, hT, hV, b1⟩
  obtain ⟨A1, c1, A2, c2, rfl, rfl, hS, hN⟩ := rows_at hT
  have B1 := Lib.hid b1
  have HS := Lib.hid hS
  have HT := Lib.hid hN
  have HVP := Lib.hid hV
  have hVl : V.length = R.length := by have := congrArg List.length hV; simpa using this
  have hPl : (prtN P).length = R.length := by rw [HPN.out]; simp
  have HVL := Lib.hid hVl
  rw [hVl, hPl]
  have hR200 := HLN.out
  clear b1 hS hN hV hT C
  go_wp2_with fail
  go_loopw [8] (fun i wr => ∃ k : Nat, i = .int .i64 k ∧ k ≤ R.length ∧ Hid (∀ x ∈ R.take k, x.1 ≠ s) ∧ Hid (Below w1.heap.size w1 wr)) (fun i _ => R.length - (intOf i).toNat)
  case atStart => exact ⟨0, rfl, Nat.zero_le _, (by intro x hx; simp at hx), Below.refl _ _⟩
  case round =>
    obtain ⟨k, rfl, hk, hno, hB⟩ := hrel
    have BW := Lib.hid (B1.out.trans (hB.out.mono B1.out.size))
    by_cases hlt : k < R.length
    · have hkv : k < V.length := by rw [HVL.out]; exact hlt
      obtain ⟨a1, rfl, q1, n1⟩ := (HS.out.keep hB.out).at hkv
      obtain ⟨a2, rfl, q2⟩ := (HT.out.keep hB.out) k R[k].1 (by rw [HPN.out, List.getElem?_map, List.getElem?_eq_getElem hlt]; rfl)
      by_cases hs : R[k].1 = s
      · have HR := Lib.hid (show (R.any fun x => decide (x.1 = s)) = true by rw [List.any_eq_true]; exact ⟨R[k], List.getElem_mem hlt, by simpa using hs⟩)
        have HX := Lib.hid (show ∃ x ∈ R, x.1 = s ∧ Ns wr V[k].A V[k].n V[k].c x.2 from ⟨R[k], List.getElem_mem hlt, hs, by
          have := congrArg (fun l => l[k]?) HVP.out
          simp only [List.getElem?_map, List.getElem?_eq_getElem hkv, List.getElem?_eq_getElem hlt, Option.map_some, Option.some.injEq] at this
          rw [← this]; exact n1⟩)
        rw [hs] at q2
        clear n1 hs hno
        generalize V[k] = r at *
        go_wp2_with fail
        go_ret2
        exact ⟨_, _, _, by rw [HR.out]; rfl, BW.out, .inr HX.out⟩
      · have HNO := Lib.hid (show ∀ x ∈ R.take (k + 1), x.1 ≠ s from fun x hx => by
          rw [List.take_succ_eq_append_getElem hlt, List.mem_append] at hx
          rcases hx with hx | hx
          · exact hno.out x hx
          · simp only [List.mem_cons, List.not_mem_nil, or_false] at hx
            subst hx; exact hs)
        have f6 : (R[k].1.toList == s.toList) = false := beq_eq_false_iff_ne.2 (fun q => hs (toList_inj q))
        generalize R[k].1 = y at *
        clear hs hno n1 q1
        go_wp2_with fail
        go_roundw
        case rel => exact ⟨k + 1, by go_num, hlt, HNO, hB⟩
        case measure => simp [intOf]; omega
    · have HX := Lib.hid (show ∀ x ∈ R, x.1 ≠ s from fun x hx => hno.out x (by rw [List.take_of_length_le (by omega)]; exact hx))
      have HR := Lib.hid (show (R.any fun x => decide (x.1 = s)) = false by rw [List.any_eq_false]; intro x hx; simpa using HX.out x hx)
      clear hno
      go_wp2_with fail
      go_ret2
      exact ⟨none, 0, 0, by rw [HR.out]; rfl, BW.out, .inl HX.out⟩
section
variable (a b : Addr) (n c m d : Nat) (o1 o2 : Int) (s1 s2 : ByteArray) (w : World) (hn : 1 ≤ n) (hm : 1 ≤ m) (hl : n ≤ 4000) (hl2 : m ≤ 4000) (hnc : n ≤ c) (hmd : m ≤ d) (d0 : w.cell? a = some (.int .i64 o1)) (d2 : w.cell? ⟨a.block, a.off + 2, none⟩ = some (.string s1)) (e0 : w.cell? b = some (.int .i64 o2)) (e2 : w.cell? ⟨b.block, b.off + 2, none⟩ = some (.string s2))
include hn hm hl hl2 hnc hmd d0 d2 e0 e2
set_option maxHeartbeats 1000000 in
theorem rh_any (h : o1 = 48) :
    Calls Tryz.prog 37 #[.slice (some a) n c, .slice (some b) m d] w fun e w' => e = .returned (.bool true) ∧ Below w.heap.size w w' := by
  subst h
  go_enter Tryz.func37, Tryz.ntmps37
  go_wp2_with fail
  go_ret
  exact ⟨rfl, Below.refl _ _⟩
set_option maxHeartbeats 1000000 in
theorem rh_base (h : o1 = 41 ∨ o1 = 42 ∨ o1 = 43) :
    Calls Tryz.prog 37 #[.slice (some a) n c, .slice (some b) m d] w fun e w' => e = .returned (.bool (decide (o2 = o1 - 40))) ∧ Below w.heap.size w w' := by
  have hq : (decide (o2 = o1 - 40)) = (o2 == o1 - 40) := by rw [Bool.eq_iff_iff]; simp
  rw [hq]
  rcases h with rfl | rfl | rfl
  all_goals
    go_enter Tryz.func37, Tryz.ntmps37
    go_wp2_with fail
    go_ret
    exact ⟨rfl, Below.refl _ _⟩
set_option maxHeartbeats 1000000 in
theorem rh_ent (h : o1 = 44) :
    Calls Tryz.prog 37 #[.slice (some a) n c, .slice (some b) m d] w fun e w' => e = .returned (.bool (decide (o2 = 4) && decide (s2 = s1))) ∧ Below w.heap.size w w' := by
  subst h
  have k0 := cell_regrown e0
  have k1 := cell_regrown e2
  have k2 := cell_regrown d2
  by_cases h4 : o2 = 4
  · subst h4
    by_cases hs : s2 = s1
    · subst hs
      go_enter Tryz.func37, Tryz.ntmps37
      go_wp2_with fail
      refine wp_region_quiet_below (by kernel_rfl) (by kernel_rfl) ?_
      repeat (first | go_big_quiet_step (fail) | quiet_step (fail))
      refine wpQuiet_nil ?_
      intro w1 hw'
      have B1 := Lib.hid (show Below w.heap.size w w1 by obtain ⟨⟨d, os⟩, rfl⟩ := hw'; exact below_regrown _ _ _)
      clear hw'
      clear k0 k1 k2
      go_wp2_with fail
      go_ret
      exact ⟨by simp, B1.out⟩
    · have f6 : (s2.toList == s1.toList) = false := beq_eq_false_iff_ne.2 (fun q => hs (toList_inj q))
      have HR := Lib.hid (show (decide ((4 : Int) = 4) && decide (s2 = s1)) = false by simp [hs])
      clear hs
      go_enter Tryz.func37, Tryz.ntmps37
      go_wp2_with fail
      refine wp_region_quiet_below (by kernel_rfl) (by kernel_rfl) ?_
      repeat (first | go_big_quiet_step (fail) | quiet_step (fail))
      refine wpQuiet_nil ?_
      intro w1 hw'
      have B1 := Lib.hid (show Below w.heap.size w w1 by obtain ⟨⟨d, os⟩, rfl⟩ := hw'; exact below_regrown _ _ _)
      clear hw'
      clear k0 k1 k2
      go_wp2_with fail
      go_ret
      exact ⟨by rw [HR.out]; rfl, B1.out⟩
  · have f4 : (o2 == 4) = false := beq_eq_false_iff_ne.2 h4
    have HR := Lib.hid (show (decide (o2 = 4) && decide (s2 = s1)) = false by simp [h4])
    clear h4
    go_enter Tryz.func37, Tryz.ntmps37
    go_wp2_with fail
    refine wp_region_quiet_below (by kernel_rfl) (by kernel_rfl) ?_
    repeat (first | go_big_quiet_step (fail) | quiet_step (fail))
    refine wpQuiet_nil ?_
    intro w1 hw'
    have B1 := Lib.hid (show Below w.heap.size w w1 by obtain ⟨⟨d, os⟩, rfl⟩ := hw'; exact below_regrown _ _ _)
    clear hw'
    clear k0 k1 k2
    go_wp2_with fail
    go_ret
    exact ⟨by rw [HR.out]; rfl, B1.out⟩
set_option maxHeartbeats 1000000 in
theorem rh_not (h : o1 = 49 ∨ (o1 = 45 ∧ o2 ≠ 5) ∨ (o1 = 46 ∧ o2 ≠ 6)) :
    Calls Tryz.prog 37 #[.slice (some a) n c, .slice (some b) m d] w fun e w' => e = .returned (.bool false) ∧ Below w.heap.size w w' := by
  rcases h with rfl | ⟨rfl, h⟩ | ⟨rfl, h⟩
  · go_enter Tryz.func37, Tryz.ntmps37
    go_wp2_with fail
    go_ret
    exact ⟨rfl, Below.refl _ _⟩
  · have f4 : (o2 == 5) = false := beq_eq_false_iff_ne.2 h
    clear h
    go_enter Tryz.func37, Tryz.ntmps37
    go_wp2_with fail
    go_ret
    exact ⟨rfl, Below.refl _ _⟩
  · have f4 : (o2 == 6) = false := beq_eq_false_iff_ne.2 h
    have f5 : (o2 != 6) = true := by rw [bne_iff_ne]; exact h
    clear h
    go_enter Tryz.func37, Tryz.ntmps37
    go_wp2_with fail
    go_ret
    exact ⟨rfl, Below.refl _ _⟩
end
/-- The contract of HasKind, for types of so much. -/
def HasRC (N : Nat) : Prop := ∀ (k : Kd) (P : List Nd), k.sz ≤ N → k.valid → valFault P = 0 → ∀ (A B : Option Addr) (n c m d : Nat) (w : World), n ≤ 4000 → Ns w A n c k.flat → Ns w B m d P →
  Calls Tryz.prog 37 #[.slice A n c, .slice B m d] w fun e w' => e = .returned (.bool (belowK (ownV P) k)) ∧ Below w.heap.size w w'
theorem part_fine {P Q : List Nd} (h : valFault P = 0) (hq : IsV Q) (hl : Q.length ≤ P.length) : valFault Q = 0 := by
  obtain ⟨h1, h2⟩ := isV_zero.1 h
  exact isV_zero.2 ⟨by omega, hq⟩
set_option maxHeartbeats 2000000 in
theorem rh_set (N : Nat) (ih : HasRC N) (q : Kd) (P : List Nd) (hq : q.sz ≤ N) (hvq : q.valid) (hP : valFault P = 0) (h5 : headOp P = 5) (A B : Option Addr) (n c m d : Nat) (w : World) (hl : n ≤ 4000) (h : Ns w A n c (Kd.set q).flat) (k : Ns w B m d P) :
    Calls Tryz.prog 37 #[.slice A n c, .slice B m d] w fun e w' => e = .returned (.bool ((setParts P).all fun Q => belowK (ownV Q) q)) ∧ Below w.heap.size w w' := by
  obtain ⟨h200, hV⟩ := isV_zero.1 hP
  obtain ⟨a, rfl, hn1, d0, -⟩ := head_at h
  obtain ⟨b, rfl, hm1, e0, -⟩ := val_head k hV.pos
  have C := Lib.hid (refParts_set (some b) m d P w k hP h5)
  have HPV := Lib.hid (fun Q (hQ : Q ∈ setParts P) => part_fine hP ((isV_set hV h5).2.2.1 Q hQ) (Nat.le_of_lt (set_smaller hV h5 hQ)))
  have HLN := Lib.hid (show (setParts P).length ≤ 200 from set_len200 h200 hV h5)
  have HA := Lib.hid h
  have hnc := h.cap
  have hcm := h.max
  have hmk := k.max
  have hmd := k.cap
  unfold maxLen at hcm hmk
  have hn2 : 2 ≤ n := by have := h.len; have := flat_pos q; rw [Kd.flat, List.length_cons] at *; omega
  simp only [opN] at d0
  rw [h5] at e0
  clear h k hP h5 h200 hV
  generalize setParts P = R at *
  go_enter Tryz.func37, Tryz.ntmps37
  go_wp2_with fail
  refine C.out.mono ?_
  rintro e w1 ⟨v, v', V, rfl, hT, hV, b1⟩
  obtain ⟨A1, c1, A2, c2, rfl, rfl, hS, hN⟩ := rows_at hT
  have B1 := Lib.hid b1
  have HS := Lib.hid hS
  have HVP := Lib.hid hV
  have hVl : V.length = R.length := by have := congrArg List.length hV; simpa using this
  have HVL := Lib.hid hVl
  rw [hVl]
  have hR200 := HLN.out
  clear b1 hS hN hV hT C d0 e0
  go_wp2_with fail
  go_loopw [8] (fun i wr => ∃ k : Nat, i = .int .i64 k ∧ k ≤ R.length ∧ Hid ((R.take k).all (fun Q => belowK (ownV Q) q) = true) ∧ Hid (Below w1.heap.size w1 wr)) (fun i _ => R.length - (intOf i).toNat)
  case atStart => exact ⟨0, rfl, Nat.zero_le _, rfl, Below.refl _ _⟩
  case round =>
    obtain ⟨k, rfl, hk, hall, hB⟩ := hrel
    have BW := Lib.hid (B1.out.trans (hB.out.mono B1.out.size))
    by_cases hlt : k < R.length
    · have hkv : k < V.length := by rw [HVL.out]; exact hlt
      obtain ⟨a1, rfl, q1, n1⟩ := (HS.out.keep hB.out).at hkv
      have hRV : V[k].P = R[k] := by
        have := congrArg (fun l => l[k]?) HVP.out
        simpa only [List.getElem?_map, List.getElem?_eq_getElem hkv, List.getElem?_eq_getElem hlt, Option.map_some, Option.some.injEq] using this
      rw [hRV] at n1
      have HBAD := Lib.hid (fun hx => all_bad (p := fun Q => belowK (ownV Q) q) hlt hx)
      have HGOOD := Lib.hid (fun hx => all_take_succ (p := fun Q => belowK (ownV Q) q) hlt hall.out hx)
      have HPK := Lib.hid (HPV.out _ (List.getElem_mem hlt))
      have RB := fun w' (hb : Below wr.heap.size wr w') => ih q R[k] hq hvq HPK.out (some (a.add 4)) V[k].A (n - 1) (c - 1) V[k].n V[k].c w' (by omega) (ns_tail (HA.out.keep (BW.out.trans (hb.mono BW.out.size)))) (n1.keep hb)
      have s1 := rq (w := wr) RB
      have k1 := cell_regrown q1
      generalize R[k] = x at *
      generalize V[k] = r at *
      generalize belowK (ownV x) q = rr at *
      clear RB n1 hall q1
      go_wp2_with fail
      refine wp_region_quiet_below (by kernel_rfl) (by kernel_rfl) ?_
      repeat (first | go_big_quiet_step (exact s1 _ _) | quiet_step (exact s1 _ _))
      refine wpQuiet_nil ?_
      intro w3 hw'
      have B3 := Lib.hid (show Below wr.heap.size wr w3 by obtain ⟨⟨d, os⟩, rfl⟩ := hw'; exact below_regrown _ _ _)
      clear hw'
      clear s1 k1
      have B4 := Lib.hid (hB.out.trans (B3.out.mono hB.out.size))
      have BW4 := Lib.hid (B1.out.trans (B4.out.mono B1.out.size))
      cases rr
      · have HR := Lib.hid (HBAD.out rfl)
        clear HBAD HGOOD
        go_wp2_with fail
        go_ret
        exact ⟨by rw [HR.out]; rfl, BW4.out⟩
      · have HR := Lib.hid (HGOOD.out rfl)
        clear HBAD HGOOD
        go_wp2_with fail
        go_roundw
        case rel => exact ⟨k + 1, by go_num, hlt, HR, B4⟩
        case measure => simp [intOf]; omega
    · have HALL := Lib.hid (show R.all (fun Q => belowK (ownV Q) q) = true by
        have := hall.out
        rwa [List.take_of_length_le (by omega)] at this)
      clear hall
      go_wp2_with fail
      go_ret
      exact ⟨by rw [HALL.out]; rfl, BW.out⟩
set_option maxHeartbeats 2000000 in
theorem rh_rec (N : Nat) (ih : HasRC N) (f : Fl) (P : List Nd) (hfs : f.sz ≤ N) (hvf : f.validFrom emp) (hP : valFault P = 0) (h6 : headOp P = 6) (A B : Option Addr) (n c m d : Nat) (w : World) (hl : n ≤ 4000) (h : Ns w A n c (Kd.fs f).flat) (k : Ns w B m d P) :
    Calls Tryz.prog 37 #[.slice A n c, .slice B m d] w fun e w' => e = .returned (.bool ((recParts P).all (hasOne f) && f.list.all (hasMust (recParts P)))) ∧ Below w.heap.size w w' := by
  obtain ⟨h200, hV⟩ := isV_zero.1 hP
  obtain ⟨a, rfl, hn1, d0, -⟩ := head_at h
  obtain ⟨b, rfl, hm1, e0, -⟩ := val_head k hV.pos
  have C := Lib.hid (refParts_rec (some b) m d P w k hP h6)
  have HPN := Lib.hid (show prtN P = (recParts P).map (·.1) by unfold prtN; rw [if_neg (by omega)])
  have HPV := Lib.hid (fun x (hx : x ∈ recParts P) => part_fine hP ((isV_rec hV h6).2.2.1 x hx).1 (Nat.le_of_lt (rec_smaller hV h6 hx)))
  have HLN := Lib.hid (show (recParts P).length ≤ 200 from recParts_len hP h6)
  have HNM := Lib.hid (fun x (hx : x ∈ recParts P) => show x.1.size ≤ maxLen by obtain ⟨y, hy, e⟩ := rec_name_in hV h6 hx; rw [← e]; exact (k.ok y hy).s)
  have HA := Lib.hid h
  have HB := Lib.hid k
  have FA := Lib.hid (fun w' (hb : Below w.heap.size w w') => ref_FieldsOf f hvf (some a) n c w' (h.keep hb) hl)
  have KA := Lib.hid (fun s w' (hs : s.size ≤ maxLen) (hb : Below w.heap.size w w') => ref_FieldKind f hvf (some a) n c s w' (h.keep hb) hl hs)
  have FP := Lib.hid (fun s w' (hb : Below w.heap.size w w') => ref_Field (some b) m d P s w' (k.keep hb) hP h6)
  have LA := Lib.hid (KLeft.start hvf)
  have HFS := Lib.hid (fun s m k (e : f.find s = some (m, k)) => Nat.le_trans (Nat.le_of_lt (find_sz e)) hfs)
  have HLF := Lib.hid (len_list' f)
  have hfn : f.len < n := by
    rw [h.len, Kd.flat, List.length_cons]
    have := fl_len_flat f
    omega
  have hnc := h.cap
  have hcm := h.max
  have hmk := k.max
  have hmd := k.cap
  unfold maxLen at hcm hmk
  simp only [opN] at d0
  rw [h6] at e0
  generalize (Kd.fs f).flat = t at *
  clear h k hP h6 h200 hV hvf hfs
  generalize recParts P = R at *
  go_enter Tryz.func37, Tryz.ntmps37
  go_wp2_with fail
  refine C.out.mono ?_
  rintro e w1 ⟨v, v', V, rfl, hT, hV, b1⟩
  obtain ⟨A1, c1, A2, c2, rfl, rfl, hS, hN⟩ := rows_at hT
  have B1 := Lib.hid b1
  have HS := Lib.hid hS
  have HT := Lib.hid hN
  have HVP := Lib.hid hV
  have hVl : V.length = R.length := by have := congrArg List.length hV; simpa using this
  have hPl : (prtN P).length = R.length := by rw [HPN.out]; simp
  have HVL := Lib.hid hVl
  rw [hVl, hPl]
  have hR200 := HLN.out
  clear b1 hS hN hV hT C d0 e0
  go_wp2_with fail
  go_loopw [11] (fun i wr => ∃ k : Nat, i = .int .i64 k ∧ k ≤ R.length ∧ Hid ((R.take k).all (hasOne f) = true) ∧ Hid (Below w1.heap.size w1 wr)) (fun i _ => R.length - (intOf i).toNat)
  case atStart => exact ⟨0, rfl, Nat.zero_le _, rfl, Below.refl _ _⟩
  case round =>
    obtain ⟨k, rfl, hk, hall, hB⟩ := hrel
    have BW := Lib.hid (B1.out.trans (hB.out.mono B1.out.size))
    by_cases hlt : k < R.length
    · have hkv : k < V.length := by rw [HVL.out]; exact hlt
      obtain ⟨a1, rfl, q1, n1⟩ := (HS.out.keep hB.out).at hkv
      have hRV : V[k].P = R[k].2 := by
        have := congrArg (fun l => l[k]?) HVP.out
        simpa only [List.getElem?_map, List.getElem?_eq_getElem hkv, List.getElem?_eq_getElem hlt, Option.map_some, Option.some.injEq] using this
      rw [hRV] at n1
      obtain ⟨a2, rfl, q2⟩ := (HT.out.keep hB.out) k R[k].1 (by rw [HPN.out, List.getElem?_map, List.getElem?_eq_getElem hlt]; rfl)
      have HBAD := Lib.hid (fun hx => show (R.all (hasOne f) && f.list.all (hasMust R)) = false by rw [all_bad (p := hasOne f) hlt hx, Bool.false_and])
      have HGOOD := Lib.hid (fun hx => all_take_succ (p := hasOne f) hlt hall.out hx)
      have HPK := Lib.hid (HPV.out _ (List.getElem_mem hlt))
      have hys := HNM.out _ (List.getElem_mem hlt)
      generalize R[k] = x at *
      generalize V[k] = r at *
      obtain ⟨xs, xv⟩ := x
      simp only at q2 n1 HPK hys hRV
      have N1 := Lib.hid n1
      clear hall n1 hRV
      go_wp2_with fail
      refine (KA.out xs wr hys BW.out).mono ?_
      rintro e w2 ⟨rfl, b2⟩
      have B2 := Lib.hid (hB.out.trans (b2.mono hB.out.size))
      have BW2 := Lib.hid (B1.out.trans (B2.out.mono B1.out.size))
      have q12 := cell_keep b2 q1
      have N2 := Lib.hid (N1.out.keep b2)
      clear q1 q2 hB BW b2 N1
      rcases hg2 : f.find xs with _ | ⟨m', k'⟩
      · rw [posOf_none hg2]
        have HR := Lib.hid (HBAD.out (by unfold hasOne; rw [hg2]))
        clear hg2 HBAD HGOOD
        go_wp2_with fail
        refine wp_region_quiet_below (by kernel_rfl) (by kernel_rfl) ?_
        repeat (first | go_big_quiet_step (fail) | quiet_step (fail))
        refine wpQuiet_nil ?_
        intro w3 hw'
        have B3 := Lib.hid (show Below w2.heap.size w2 w3 by obtain ⟨⟨d, os⟩, rfl⟩ := hw'; exact below_regrown _ _ _)
        clear hw'
        go_wp2_with fail
        go_ret
        exact ⟨by rw [HR.out]; rfl, BW2.out.trans (B3.out.mono BW2.out.size)⟩
      · obtain ⟨q3, hq3, hfd2⟩ := posOf_some LA.out hg2
        rw [hq3]
        have hle2 := hfd2.le
        rw [← HA.out.len] at hle2
        have PA := fun w' (hb : Below w2.heap.size w2 w') => ref_PartKind t q3 xs m' k' hfd2 a n c w' (HA.out.keep (BW2.out.trans (hb.mono BW2.out.size)))
        have RB := fun w' (hb : Below w2.heap.size w2 w') => ih k' xv (HFS.out _ _ _ hg2) hfd2.valid HPK.out (some (a.add ((q3 + 1) * 4))) r.A k'.flat.length (c - (q3 + 1)) r.n r.c w' (by omega) (part_ns hfd2 (HA.out.keep (BW2.out.trans (hb.mono BW2.out.size)))) (N2.out.keep hb)
        have s1 := rq (w := w2) PA
        have s3 := rq (w := w2) RB
        have k1 := cell_regrown q12
        have HRX := Lib.hid (show hasOne f (xs, xv) = belowK (ownV xv) k' by unfold hasOne; rw [hg2])
        generalize belowK (ownV xv) k' = rr at *
        generalize k'.flat.length = l2 at *
        have hq0 : decide ((q3 : Int) < 0) = false := decide_eq_false (by omega)
        clear PA RB hfd2 hg2 hq3
        go_wp2_with fail
        refine wp_region_quiet_below (by kernel_rfl) (by kernel_rfl) ?_
        repeat (first | go_big_quiet_step (first | exact s1 _ _ | exact s3 _ _) | quiet_step (first | exact s1 _ _ | exact s3 _ _))
        refine wpQuiet_nil ?_
        intro w3 hw'
        have B3 := Lib.hid (show Below w2.heap.size w2 w3 by obtain ⟨⟨d, os⟩, rfl⟩ := hw'; exact below_regrown _ _ _)
        clear hw'
        clear s1 s3 k1
        have B4 := Lib.hid (B2.out.trans (B3.out.mono B2.out.size))
        have BW4 := Lib.hid (B1.out.trans (B4.out.mono B1.out.size))
        cases rr
        · have HR := Lib.hid (HBAD.out HRX.out)
          clear HBAD HGOOD
          go_wp2_with fail
          go_ret
          exact ⟨by rw [HR.out]; rfl, BW4.out⟩
        · have HR := Lib.hid (HGOOD.out HRX.out)
          clear HBAD HGOOD
          go_wp2_with fail
          go_roundw
          case rel => exact ⟨k + 1, by go_num, hlt, HR, B4⟩
          case measure => simp [intOf]; omega
    · have HALL := Lib.hid (show R.all (hasOne f) = true by
        have := hall.out
        rwa [List.take_of_length_le (by omega)] at this)
      clear hall hk
      go_wp2_with fail
      refine (FA.out wr BW.out).mono ?_
      rintro e w2 ⟨A3, c3, rfl, hc3, hI3, b2⟩
      have B2 := Lib.hid (BW.out.trans (b2.mono BW.out.size))
      have I2 := Lib.hid hI3
      clear b2 hI3 hB BW
      go_wp2_with fail
      go_loopw [14] (fun i wr => ∃ k : Nat, i = .int .i64 k ∧ k ≤ f.len ∧ Hid ((f.list.take k).all (hasMust R) = true) ∧ Hid (Below w2.heap.size w2 wr)) (fun i _ => f.len - (intOf i).toNat)
      case atStart => exact ⟨0, rfl, Nat.zero_le _, rfl, Below.refl _ _⟩
      case round =>
        obtain ⟨k, rfl, hk, hall, hB⟩ := hrel
        have BW := Lib.hid (B2.out.trans (hB.out.mono B2.out.size))
        by_cases hlt : k < f.len
        · have hkl : k < f.list.length := by rw [HLF.out]; exact hlt
          have hy := List.getElem?_eq_getElem hkl
          obtain ⟨q, hq, hfd⟩ := LA.out.at k _ hy
          obtain ⟨ai, rfl, hci⟩ := (I2.out.keep hB.out) k q hq
          obtain ⟨a', ea, p0, p1, p2, p3⟩ := (HA.out.keep BW.out).at_ q _ hfd.nd
          injection ea with ea
          subst ea
          have hqn : q < n := by rw [HA.out.len]; exact (List.getElem?_eq_some_iff.1 hfd.nd).1
          have HBAD := Lib.hid (fun hx => show (R.all (hasOne f) && f.list.all (hasMust R)) = false by rw [all_bad (p := hasMust R) hkl hx, Bool.and_false])
          have HGOOD := Lib.hid (fun hx => all_take_succ (p := hasMust R) hkl hall.out hx)
          generalize f.list[k] = y at *
          obtain ⟨ys, ym, yk⟩ := y
          simp only [fldNd] at p0 p1 p2 p3 hfd
          clear hfd p0 p3 hall hy hq
          go_wp2_with fail
          refine (FP.out ys wr BW.out).mono ?_
          rintro e w3 ⟨A4, n4, c4, rfl, b3, -⟩
          have B3 := Lib.hid (hB.out.trans (b3.mono hB.out.size))
          have BW3 := Lib.hid (B2.out.trans (B3.out.mono B2.out.size))
          have hci2 := cell_keep b3 hci
          have p12 := cell_keep b3 p1
          have HRX := Lib.hid (show hasMust R (ys, ym, yk) = (!ym || R.any fun x => decide (x.1 = ys)) from rfl)
          generalize (R.any fun x => decide (x.1 = ys)) = bb at *
          clear hci p2 p1 hB BW b3
          cases ym
          · have HR := Lib.hid (HGOOD.out (by rw [HRX.out]; rfl))
            clear HBAD HGOOD
            simp only [Bool.false_eq_true, if_false] at p12
            go_wp2_with fail
            go_roundw
            case rel => exact ⟨k + 1, by go_num, hlt, HR, B3⟩
            case measure => simp [intOf]; omega
          · simp only [if_true] at p12
            cases bb
            · have HR := Lib.hid (HBAD.out (by rw [HRX.out]; rfl))
              clear HBAD HGOOD
              go_wp2_with fail
              go_ret
              exact ⟨by rw [HR.out]; rfl, BW3.out⟩
            · have HR := Lib.hid (HGOOD.out (by rw [HRX.out]; rfl))
              clear HBAD HGOOD
              go_wp2_with fail
              go_roundw
              case rel => exact ⟨k + 1, by go_num, hlt, HR, B3⟩
              case measure => simp [intOf]; omega
        · have HR := Lib.hid (show (R.all (hasOne f) && f.list.all (hasMust R)) = true by
            have := hall.out
            rw [List.take_of_length_le (by rw [HLF.out]; omega)] at this
            rw [this, HALL.out]; rfl)
          clear hall hk
          go_wp2_with fail
          go_ret
          exact ⟨by rw [HR.out]; rfl, BW.out⟩
theorem ref_Has : ∀ N : Nat, HasRC N
  | 0 => fun k _ h => by cases k <;> simp [Kd.sz] at h
  | N + 1 => by
    intro k P hsz hv hP A B n c m d w hl h k2
    obtain ⟨h200, hV⟩ := isV_zero.1 hP
    obtain ⟨a, ea, hn1, d0, d2⟩ := head_at h
    obtain ⟨b, eb, hm1, e0, e2⟩ := val_head k2 hV.pos
    have hm2 : m ≤ 4000 := by rw [k2.len]; omega
    cases k with
    | base x =>
      have hx := opN_base hv
      by_cases h48 : x = 48
      · subst h48
        rw [below_any _ _ rfl, ea, eb]
        exact rh_any a b n c m d _ _ _ _ w hn1 hm1 hl hm2 h.cap k2.cap d0 d2 e0 e2 rfl
      · rw [has_base hV hv h48, ea, eb]
        by_cases h49 : x = 49
        · have : decide (headOp P = x - 40) = false := decide_eq_false (by have := isV_op hV; omega)
          rw [this]
          exact rh_not a b n c m d _ _ _ _ w hn1 hm1 hl hm2 h.cap k2.cap d0 d2 e0 e2 (.inl h49)
        · exact rh_base a b n c m d _ _ _ _ w hn1 hm1 hl hm2 h.cap k2.cap d0 d2 e0 e2 (by have : opN (.base x) = x := rfl; omega)
    | ent s =>
      rw [has_ent hV, ea, eb]
      exact rh_ent a b n c m d _ _ _ _ w hn1 hm1 hl hm2 h.cap k2.cap d0 d2 e0 e2 rfl
    | set q =>
      by_cases h5 : headOp P = 5
      · simp only [Kd.sz] at hsz
        rw [has_set hV h5 (Kd.valid.ok (show q.valid from hv))]
        exact rh_set N (ref_Has N) q P (by omega) hv hP h5 A B n c m d w hl h k2
      · rw [has_not hV (.inl ⟨⟨q, rfl⟩, h5⟩), ea, eb]
        exact rh_not a b n c m d _ _ _ _ w hn1 hm1 hl hm2 h.cap k2.cap d0 d2 e0 e2 (.inr (.inl ⟨rfl, h5⟩))
    | fs f =>
      by_cases h6 : headOp P = 6
      · simp only [Kd.sz] at hsz
        rw [has_rec hV h6 (show (Kd.fs f).ok from Kd.valid.ok hv).1]
        exact rh_rec N (ref_Has N) f P (by omega) hv hP h6 A B n c m d w hl h k2
      · rw [has_not hV (.inr ⟨⟨f, rfl⟩, h6⟩), ea, eb]
        exact rh_not a b n c m d _ _ _ _ w hn1 hm1 hl hm2 h.cap k2.cap d0 d2 e0 e2 (.inr (.inr ⟨rfl, h6⟩))
end Go.Proofs.YtnolmlhcikcceaaGreatDoor
namespace Go.Proofs.YtnolmlhcikcceaaGreatDoor
open Go.RowKit Go.Wk Go.Sort
set_option maxRecDepth 100000

theorem TxAt.cell {w : World} {A : Option Addr} {N : List ByteArray} (h : TxAt w A N) {k : Nat} (hk : k < N.length) : ∃ a, A = some a ∧ w.cell? (a.add k) = some (.string N[k]) := h k N[k] (List.getElem?_eq_getElem hk)
set_option maxHeartbeats 1000000 in
theorem ref_nameFaults (A : Option Addr) (n c : Nat) (N : List ByteArray) (w : World) (h : Txs w A n c N) :
    Calls Tryz.prog 73 #[.slice A n c] w fun e w' => e = .returned (.int .i64 (namesF N)) ∧ w = w' := by
  have HL := Lib.hid h.len
  have HT := Lib.hid h.at_
  have HO := Lib.hid h.ok
  have hm := h.max
  unfold maxLen at hm
  clear h
  go_enter Tryz.func73, Tryz.ntmps73
  go_wp2_with fail
  go_loopw [3] (fun i wr => ∃ k : Nat, i = .int .i64 k ∧ k ≤ n ∧ Hid (namesF N = namesF (N.drop k)) ∧ wr = w) (fun i _ => n - (intOf i).toNat)
  case atStart => exact ⟨0, rfl, Nat.zero_le _, Lib.hid (by simp), rfl⟩
  case round =>
    obtain ⟨k, rfl, hk, hF, rfl⟩ := hrel
    by_cases hlt : k < n
    · have hkn : k < N.length := by rw [← HL.out]; exact hlt
      obtain ⟨a, rfl, q⟩ := HT.out.cell hkn
      have HS := Lib.hid (hF.out.trans (namesF_step hkn))
      have V := Lib.hid (ref_NameFault N[k] wr (HO.out _ (List.getElem_mem hkn)))
      generalize N[k] = s at *
      clear hF
      by_cases hf : nameFault s = 0
      · rw [hf, or2_zero] at HS
        rw [hf] at V
        clear hf
        go_wp2_with fail
        refine V.out.mono ?_
        rintro e w1 ⟨rfl, rfl⟩
        go_wp2_with fail
        go_roundw
        case rel => exact ⟨k + 1, by go_num, hlt, HS, trivial⟩
        case measure => simp [intOf]; omega
      · rw [or2_ne hf] at HS
        have f1 : (nameFault s == 0) = false := beq_eq_false_iff_ne.2 hf
        have f2 : (nameFault s != 0) = true := by rw [bne_iff_ne]; exact hf
        generalize nameFault s = r at *
        clear hf
        go_wp2_with fail
        refine V.out.mono ?_
        rintro e w1 ⟨rfl, rfl⟩
        go_wp2_with fail
        go_ret
        exact ⟨by rw [HS.out]; rfl, rfl⟩
    · have HS := Lib.hid (show namesF N = 0 by
        rw [hF.out, List.drop_eq_nil_of_le (by rw [← HL.out]; omega)]; rfl)
      clear hF
      go_wp2_with fail
      go_ret
      exact ⟨by rw [HS.out]; rfl, rfl⟩
set_option maxHeartbeats 1000000 in
theorem ref_recordFault (A : Option Addr) (n c : Nat) (P : List Nd) (w : World) (h : Ns w A n c P) :
    Calls Tryz.prog 74 #[.slice A n c] w fun e w' => e = .returned (.int .i64 (recF P)) ∧ Below w.heap.size w w' := by
  have K := Lib.hid (ref_KindFault A n c P w h)
  by_cases h0 : kindFault P = 0
  · obtain ⟨k, hk⟩ := kin_of h0
    obtain ⟨a, rfl, hn1, d0, -⟩ := val_head h (by rw [hk.e]; have := flat_pos k; omega)
    rw [h0] at K
    have HR := Lib.hid (show recF P = if headOp P = 46 then 0 else 2 by unfold recF; rw [h0]; rfl)
    have hm := h.max
    unfold maxLen at hm
    clear h hk h0
    by_cases h46 : headOp P = 46
    · rw [if_pos h46] at HR
      rw [h46] at d0
      clear h46
      go_enter Tryz.func74, Tryz.ntmps74
      go_wp2_with fail
      refine K.out.mono ?_
      rintro e w1 ⟨rfl, b1⟩
      have d1 := cell_keep b1 d0
      have B1 := Lib.hid b1
      clear b1 d0
      go_wp2_with fail
      go_ret
      exact ⟨by rw [HR.out]; rfl, B1.out⟩
    · rw [if_neg h46] at HR
      have f1 : (headOp P == 46) = false := beq_eq_false_iff_ne.2 h46
      have f2 : (headOp P != 46) = true := by rw [bne_iff_ne]; exact h46
      generalize headOp P = o at *
      clear h46
      go_enter Tryz.func74, Tryz.ntmps74
      go_wp2_with fail
      refine K.out.mono ?_
      rintro e w1 ⟨rfl, b1⟩
      have d1 := cell_keep b1 d0
      have B1 := Lib.hid b1
      clear b1 d0
      go_wp2_with fail
      go_ret
      exact ⟨by rw [HR.out]; rfl, B1.out⟩
  · have HR := Lib.hid (show recF P = kindFault P by unfold recF; exact or2_ne h0 _)
    have f1 : (kindFault P == 0) = false := beq_eq_false_iff_ne.2 h0
    generalize kindFault P = r at *
    clear h h0
    go_enter Tryz.func74, Tryz.ntmps74
    go_wp2_with fail
    refine K.out.mono ?_
    rintro e w1 ⟨rfl, b1⟩
    have B1 := Lib.hid b1
    clear b1
    go_wp2_with fail
    go_ret
    exact ⟨by rw [HR.out]; rfl, B1.out⟩
theorem hadB_take {N : List ByteArray} {s : ByteArray} {k : Nat} (hk : k < N.length) (h : hadB (N.take k) s = false) (hn : N[k] ≠ s) : hadB (N.take (k + 1)) s = false := by
  rw [List.take_succ_eq_append_getElem hk]
  unfold hadB at *
  rw [List.any_append, h]
  simp only [List.any_cons, List.any_nil, Bool.or_false, Bool.false_or, decide_eq_false_iff_not]
  exact fun e => hn ((cmpB_cmp.zero _ _).1 e)
set_option maxHeartbeats 1000000 in
theorem ref_among (s : ByteArray) (A : Option Addr) (n c : Nat) (N : List ByteArray) (w : World) (h : Txs w A n c N) :
    Calls Tryz.prog 36 #[.string s, .slice A n c] w fun e w' => e = .returned (.bool (hadB N s)) ∧ w = w' := by
  have HL := Lib.hid h.len
  have HT := Lib.hid h.at_
  have hm := h.max
  unfold maxLen at hm
  clear h
  go_enter Tryz.func36, Tryz.ntmps36
  go_wp2_with fail
  go_loopw [5] (fun i wr => ∃ k : Nat, i = .int .i64 k ∧ k ≤ n ∧ Hid (hadB (N.take k) s = false) ∧ wr = w) (fun i _ => n - (intOf i).toNat)
  case atStart => exact ⟨0, rfl, Nat.zero_le _, Lib.hid rfl, rfl⟩
  case round =>
    obtain ⟨k, rfl, hk, hF, rfl⟩ := hrel
    by_cases hlt : k < n
    · have hkn : k < N.length := by rw [← HL.out]; exact hlt
      obtain ⟨a, rfl, q⟩ := HT.out.cell hkn
      by_cases hs : N[k] = s
      · have HR := Lib.hid (show hadB N s = true from hadB_iff.2 (by rw [← hs]; exact List.getElem_mem hkn))
        rw [hs] at q
        clear hF hs
        go_wp2_with fail
        go_ret
        exact ⟨by rw [HR.out]; rfl, rfl⟩
      · have HF := Lib.hid (hadB_take hkn hF.out hs)
        have f6 : (N[k].toList == s.toList) = false := beq_eq_false_iff_ne.2 (fun q => hs (toList_inj q))
        generalize N[k] = y at *
        clear hF hs
        go_wp2_with fail
        go_roundw
        case rel => exact ⟨k + 1, by go_num, hlt, HF, trivial⟩
        case measure => simp [intOf]; omega
    · have HR := Lib.hid (show hadB N s = false by
        have := hF.out
        rwa [List.take_of_length_le (by rw [← HL.out]; omega)] at this)
      clear hF
      go_wp2_with fail
      go_ret
      exact ⟨by rw [HR.out]; rfl, rfl⟩
end Go.Proofs.YtnolmlhcikcceaaGreatDoor
namespace Go.Proofs.YtnolmlhcikcceaaGreatDoor
open Go.RowKit Go.Wk Go.Sort
set_option maxRecDepth 100000

/-- The two cells of a schema in a variable. -/
structure Vs (w : World) (b : Nat) (s : Sc) : Prop where
  c0 : w.cell? ⟨b, 0, none⟩ = some (.slice s.KA s.kn s.kc)
  c1 : w.cell? ⟨b, 1, none⟩ = some (.slice s.AA s.an s.ac)
theorem Vs.keep {w w' : World} {b : Nat} {s : Sc} (h : Vs w b s) (hb : Below w.heap.size w w') : Vs w' b s := ⟨cell_keep hb h.c0, cell_keep hb h.c1⟩
theorem vs_new (w : World) (s : Sc) (t : TypeId) : Vs (w.alloc (.cells #[.slice s.KA s.kn s.kc, .slice s.AA s.an s.ac] t)) w.heap.size s :=
  ⟨cell_row (heap_alloc_last w _) rfl, cell_row (heap_alloc_last w _) rfl⟩
/-- The three cells of a kind in a variable. -/
structure Vk (w : World) (b : Nat) (x : Kn) : Prop where
  c0 : w.cell? ⟨b, 0, none⟩ = some (.string x.d.nm)
  c1 : w.cell? ⟨b, 1, none⟩ = some (.slice x.UA x.un x.uc)
  c2 : w.cell? ⟨b, 2, none⟩ = some (.slice x.NA x.nn x.nc)
theorem Vk.keep {w w' : World} {b : Nat} {x : Kn} (h : Vk w b x) (hb : Below w.heap.size w w') : Vk w' b x := ⟨cell_keep hb h.c0, cell_keep hb h.c1, cell_keep hb h.c2⟩
theorem vk_new (w : World) (x : Kn) (t : TypeId) : Vk (w.alloc (.cells #[.string x.d.nm, .slice x.UA x.un x.uc, .slice x.NA x.nn x.nc] t)) w.heap.size x :=
  ⟨cell_row (heap_alloc_last w _) rfl, cell_row (heap_alloc_last w _) rfl, cell_row (heap_alloc_last w _) rfl⟩
theorem or2_assoc (a b c : Int) : or2 (or2 a b) c = or2 a (or2 b c) := by
  by_cases h : a = 0
  · rw [h, or2_zero, or2_zero]
  · rw [or2_ne h, or2_ne h, or2_ne h]
theorem hadB_mono {N : List ByteArray} {s : ByteArray} {k i : Nat} (hk : k ≤ i) (h : hadB (N.take k) s = true) : hadB (N.take i) s = true := by
  rw [hadB_iff] at *
  exact List.mem_of_mem_take (i := k) (by rwa [List.take_take, Nat.min_eq_left hk])
/-- The first two faults, of names so far. -/
def twoF (f : Int) (N : List ByteArray) (s : ByteArray) (k : Nat) : Int := or2 f (if hadB (N.take k) s then 6 else 0)
theorem twoF_ne {f : Int} {N : List ByteArray} {s : ByteArray} {k i : Nat} (hk : k ≤ i) (h : twoF f N s k ≠ 0) : twoF f N s i = twoF f N s k := by
  unfold twoF at *
  by_cases hf : f = 0
  · rw [hf, or2_zero] at h ⊢
    rw [or2_zero]
    by_cases hh : hadB (N.take k) s = true
    · rw [if_pos hh, if_pos (hadB_mono hk hh)]
    · rw [if_neg hh] at h; exact absurd rfl h
  · rw [or2_ne hf, or2_ne hf]
theorem twoF_step {f : Int} {N : List ByteArray} {s : ByteArray} {k : Nat} (hk : k < N.length) (h : twoF f N s k = 0) : twoF f N s (k + 1) = if N[k] = s then 6 else 0 := by
  unfold twoF at *
  rw [or2_zero_iff] at h
  obtain ⟨h1, h2⟩ := h
  rw [h1, or2_zero]
  have hh : hadB (N.take k) s = false := by
    cases hb : hadB (N.take k) s with
    | false => rfl
    | true => rw [hb] at h2; cases h2
  by_cases e : N[k] = s
  · have hm : hadB (N.take (k + 1)) s = true := hadB_iff.2 (by rw [List.take_succ_eq_append_getElem hk, e]; simp)
    rw [if_pos e, if_pos hm]
  · rw [if_neg e, if_neg]
    rw [hadB_take hk hh e]; simp
set_option maxHeartbeats 2000000 in
theorem ref_kindFault (s : Sc) (i : Nat) (w : World) (h : ScOk w s) (hi : i < s.K.length) (h8 : s.K.length ≤ 8) :
    Calls Tryz.prog 32 #[s.v, .int .i64 i] w fun e w' => e = .returned (.int .i64 (kdF ((s.K.take i).map fun x => x.d.nm) s.K[i].d)) ∧ Below w.heap.size w w' := by
  obtain ⟨KA, kn, kc, K, AA, an, ac, L⟩ := s
  have hk := h.k
  simp only at hi h8 hk
  obtain ⟨a, ea, d0, d1, d2, hok⟩ := hk.at_ i _ (List.getElem?_eq_getElem hi)
  subst ea
  have HK := Lib.hid hk
  have hkn := hk.len
  have hkc := hk.cap
  have hik : i < kn := by omega
  have hkm : kn ≤ 8 := by omega
  have HKL := Lib.hid hkn
  have hl : (a.add (i * 3)).block < w.heap.size := block_lt_of_cell d0
  have KN := Lib.hid (fun w => ref_NameFault K[i].d.nm w hok.s)
  have KU := Lib.hid (fun w' (hb : Below w.heap.size w w') => ref_nameFaults _ _ _ _ w' (hok.us.keep hb))
  have KR := Lib.hid (fun w' (hb : Below w.heap.size w w') => ref_recordFault _ _ _ _ w' (hok.ns.keep hb))
  have HUL := Lib.hid hok.us.len
  have hux := hok.us.max
  unfold maxLen at hux
  have HNM := Lib.hid (fun j (hj : j < K.length) => show (K.map fun x => x.d.nm)[j]? = some K[j].d.nm by rw [List.getElem?_map, List.getElem?_eq_getElem hj]; rfl)
  have HT := Lib.hid (List.map_take (f := fun x : Kn => x.d.nm) (l := K) (i := i))
  have V0 := Lib.hid (vs_new w ⟨some a, kn, kc, K, AA, an, ac, L⟩ 25)
  have B0 := Lib.hid (below_box w (.cells #[.slice (some a) kn kc, .slice AA an ac] 25))
  generalize hx : K[i] = x at *
  have W0 := Lib.hid (vk_new (w.alloc (.cells #[.slice (some a) kn kc, .slice AA an ac] 25)) x 44)
  have B1 := Lib.hid (B0.out.trans ((below_box (w.alloc (.cells #[.slice (some a) kn kc, .slice AA an ac] 25)) (.cells #[.string x.d.nm, .slice x.UA x.un x.uc, .slice x.NA x.nn x.nc] 44)).mono (by simp)))
  have V1 := Lib.hid (V0.out.keep (below_box (w.alloc (.cells #[.slice (some a) kn kc, .slice AA an ac] 25)) (.cells #[.string x.d.nm, .slice x.UA x.un x.uc, .slice x.NA x.nn x.nc] 44)))
  clear hk h hok hx hkn hi h8 V0 B0
  unfold Sc.v
  dsimp only
  go_enter Tryz.func32, Tryz.ntmps32
  go_wp2_with fail
  refine (KN.out _).mono ?_
  rintro e w1 ⟨rfl, rfl⟩
  go_wp2_with fail
  have HT0 : Hid (twoF (nameFault x.d.nm) (K.map fun x => x.d.nm) x.d.nm 0 = nameFault x.d.nm) := Lib.hid (by
    unfold twoF
    by_cases hf : nameFault x.d.nm = 0
    · rw [hf, or2_zero]; rfl
    · exact or2_ne hf _)
  go_loopw [6, 7] (fun e j wr => ∃ k : Nat, j = .int .i64 k ∧ k ≤ i ∧ e = .int .i64 (twoF (nameFault x.d.nm) (K.map fun x => x.d.nm) x.d.nm k) ∧ Hid (Below w.heap.size w wr) ∧ Hid (Vs wr w.heap.size ⟨some a, kn, kc, K, AA, an, ac, L⟩) ∧ Hid (Vk wr (w.heap.size + 1) x)) (fun _ j _ => i - (intOf j).toNat)
  case atStart => exact ⟨0, rfl, Nat.zero_le _, by rw [HT0.out], B1, V1, Lib.hid (by simpa using W0.out)⟩
  case round =>
    obtain ⟨k, rfl, hk, rfl, hB, hV, hW⟩ := hrel
    have HK0 := Lib.hid (fun h => twoF_ne (f := nameFault x.d.nm) (N := K.map fun x => x.d.nm) (s := x.d.nm) hk h)
    obtain ⟨ee, hee⟩ : ∃ ee, ee = twoF (nameFault x.d.nm) (K.map fun x => x.d.nm) x.d.nm k := ⟨_, rfl⟩
    rw [← hee] at HK0
    have HEE := Lib.hid hee
    rw [← hee]
    obtain ⟨v0, v1⟩ := hV.out
    obtain ⟨y0, y1, y2⟩ := hW.out
    dsimp only at v0 v1
    clear hee V1 W0 B1
    by_cases hlt : k < i ∧ ee = 0
    · obtain ⟨hlt, he0⟩ := hlt
      have hkK : k < K.length := by rw [← HKL.out]; omega
      have hkk : k < kn := by omega
      obtain ⟨a', ea, q0, -, -, -⟩ := (HK.out.keep hB.out).at_ k _ (List.getElem?_eq_getElem hkK)
      injection ea with ea
      subst ea
      have HS := Lib.hid (show twoF (nameFault x.d.nm) (K.map fun x => x.d.nm) x.d.nm (k + 1) = if K[k].d.nm = x.d.nm then 6 else 0 by
        have h := twoF_step (f := nameFault x.d.nm) (N := K.map fun x => x.d.nm) (s := x.d.nm) (k := k) (by rw [List.length_map]; exact hkK) (HEE.out.symm.trans he0)
        rwa [List.getElem_map] at h)
      generalize K[k] = z at *
      have k0 := cell_regrown v0
      have k1 := cell_regrown q0
      have k2 := cell_regrown y0
      subst he0
      clear q0
      go_wp2_with fail
      refine wp_region_quiet_below (by kernel_rfl) (by kernel_rfl) ?_
      repeat (first | go_big_quiet_step (fail) | quiet_step (fail))
      refine wpQuiet_nil ?_
      intro w6 hw'
      have B6 := Lib.hid (show Below wr.heap.size wr w6 by obtain ⟨⟨d, os⟩, rfl⟩ := hw'; exact below_regrown _ _ _)
      clear hw'
      have B7 := bhid hB B6 (Nat.le_refl _)
      have V7 := Lib.hid (hV.out.keep B6.out)
      have W7 := Lib.hid (hW.out.keep B6.out)
      clear k0 k1 k2 B6 hB hV hW v0 v1 y0 y1 y2
      by_cases hz : z.d.nm = x.d.nm
      · rw [if_pos hz] at HS
        have f1 : (z.d.nm.toList == x.d.nm.toList) = true := by rw [hz]; exact beq_self_eq_true _
        rw [f1]
        clear f1 hz
        go_wp2_with fail
        go_roundw
        case rel => exact ⟨k + 1, by go_num, by omega, by rw [HS.out], B7, V7, W7⟩
        case measure => simp [intOf]; omega
      · rw [if_neg hz] at HS
        have f1 : (z.d.nm.toList == x.d.nm.toList) = false := beq_eq_false_iff_ne.2 (fun q => hz (toList_inj q))
        rw [f1]
        clear f1 hz
        go_wp2_with fail
        go_roundw
        case rel => exact ⟨k + 1, by go_num, by omega, by rw [HS.out], B7, V7, W7⟩
        case measure => simp [intOf]; omega
    · have HF := Lib.hid (show twoF (nameFault x.d.nm) (K.map fun x => x.d.nm) x.d.nm i = ee by
        rcases Nat.lt_or_ge k i with h | h
        · have h0 : ee ≠ 0 := fun e => hlt ⟨h, e⟩
          rw [HK0.out h0, HEE.out]
        · have : k = i := by omega
          rw [← this, HEE.out])
      have HKD := Lib.hid (show kdF ((K.take i).map fun x => x.d.nm) x.d = or2 ee (or2 (if 6 < x.un then 4 else 0) (or2 (namesF x.d.up) (recF x.d.P))) by
        unfold kdF
        rw [HT.out, ← HF.out, HUL.out]
        unfold twoF
        rw [or2_assoc])
      by_cases he0 : ee = 0
      · have hki : k = i := by
          rcases Nat.lt_or_ge k i with h | h
          · exact absurd ⟨h, he0⟩ hlt
          · omega
        subst he0
        rw [or2_zero] at HKD
        subst hki
        clear hlt HK0 HEE HF
        by_cases h6 : 6 < x.un
        · have HR := Lib.hid (HKD.out.trans (by rw [if_pos h6]; rfl : _ = (4 : Int)))
          have f1 : decide (6 < (x.un : Int)) = true := decide_eq_true (by omega)
          clear h6
          go_wp2_with fail
          go_ret
          exact ⟨by rw [HR.out]; rfl, hB.out⟩
        · have HR := Lib.hid (HKD.out.trans (by rw [if_neg h6, or2_zero] : _ = or2 (namesF x.d.up) (recF x.d.P)))
          have f1 : decide (6 < (x.un : Int)) = false := decide_eq_false (by omega)
          have U1 := Lib.hid (KU.out wr hB.out)
          have R1 := Lib.hid (KR.out wr hB.out)
          clear h6 HKD
          by_cases hn : namesF x.d.up = 0
          · rw [hn, or2_zero] at HR
            rw [hn] at U1
            clear hn
            generalize recF x.d.P = rr at *
            go_wp2_with fail
            refine U1.out.mono ?_
            rintro e w6 ⟨rfl, rfl⟩
            go_wp2_with fail
            refine R1.out.mono ?_
            rintro e w7 ⟨rfl, b7⟩
            have B7 := Lib.hid (hB.out.trans (b7.mono hB.out.size))
            clear b7
            go_wp2_with fail
            go_ret
            exact ⟨by rw [HR.out]; rfl, B7.out⟩
          · rw [or2_ne hn] at HR
            have f2 : (namesF x.d.up == 0) = false := beq_eq_false_iff_ne.2 hn
            generalize namesF x.d.up = rn at *
            clear hn R1
            go_wp2_with fail
            refine U1.out.mono ?_
            rintro e w6 ⟨rfl, rfl⟩
            go_wp2_with fail
            go_ret
            exact ⟨by rw [HR.out]; rfl, hB.out⟩
      · have HR := Lib.hid (HKD.out.trans (or2_ne he0 _))
        have f1 : (ee == 0) = false := beq_eq_false_iff_ne.2 he0
        have f2 : (decide (k < i) && (ee == 0)) = false := by rw [f1, Bool.and_false]
        clear hlt HK0 HEE HF HKD he0
        go_wp2_with fail
        all_goals (go_ret; exact ⟨by rw [HR.out]; rfl, hB.out⟩)
end Go.Proofs.YtnolmlhcikcceaaGreatDoor
namespace Go.Proofs.YtnolmlhcikcceaaGreatDoor
open Go.RowKit Go.Wk Go.Sort
set_option maxRecDepth 100000

/-- The four cells of an act in a variable. -/
structure Va (w : World) (b : Nat) (x : An) : Prop where
  c0 : w.cell? ⟨b, 0, none⟩ = some (.string x.d.id)
  c1 : w.cell? ⟨b, 1, none⟩ = some (.slice x.WA x.wn x.wc)
  c2 : w.cell? ⟨b, 2, none⟩ = some (.slice x.TA x.tn x.tc)
  c3 : w.cell? ⟨b, 3, none⟩ = some (.slice x.NA x.nn x.nc)
theorem Va.keep {w w' : World} {b : Nat} {x : An} (h : Va w b x) (hb : Below w.heap.size w w') : Va w' b x := ⟨cell_keep hb h.c0, cell_keep hb h.c1, cell_keep hb h.c2, cell_keep hb h.c3⟩
theorem va_new (w : World) (x : An) (t : TypeId) : Va (w.alloc (.cells #[.string x.d.id, .slice x.WA x.wn x.wc, .slice x.TA x.tn x.tc, .slice x.NA x.nn x.nc] t)) w.heap.size x :=
  ⟨cell_row (heap_alloc_last w _) rfl, cell_row (heap_alloc_last w _) rfl, cell_row (heap_alloc_last w _) rfl, cell_row (heap_alloc_last w _) rfl⟩
set_option maxHeartbeats 2000000 in
theorem ref_actFault (s : Sc) (i : Nat) (w : World) (h : ScOk w s) (hi : i < s.L.length) (h8 : s.L.length ≤ 8) :
    Calls Tryz.prog 33 #[s.v, .int .i64 i] w fun e w' => e = .returned (.int .i64 (adF ((s.L.take i).map fun x => x.d.id) s.L[i].d)) ∧ Below w.heap.size w w' := by
  obtain ⟨AA, an, ac, L, KA, kn, kc, K⟩ := s
  have hk := h.a
  simp only at hi h8 hk
  obtain ⟨a, ea, d0, d1, d2, d3, hok⟩ := hk.at_ i _ (List.getElem?_eq_getElem hi)
  subst ea
  have HK := Lib.hid hk
  have hkn := hk.len
  have hkc := hk.cap
  have hik : i < kn := by omega
  have hkm : kn ≤ 8 := by omega
  have HKL := Lib.hid hkn
  have hl : (a.add (i * 4)).block < w.heap.size := block_lt_of_cell d0
  have KN := Lib.hid (fun w => ref_TextFault K[i].d.id w hok.s)
  have KU := Lib.hid (fun w' (hb : Below w.heap.size w w') => ref_nameFaults _ _ _ _ w' (hok.ws.keep hb))
  have KU2 := Lib.hid (fun w' (hb : Below w.heap.size w w') => ref_nameFaults _ _ _ _ w' (hok.ts.keep hb))
  have KR := Lib.hid (fun w' (hb : Below w.heap.size w w') => ref_recordFault _ _ _ _ w' (hok.ns.keep hb))
  have HUL := Lib.hid hok.ws.len
  have HUL2 := Lib.hid hok.ts.len
  have hux := hok.ws.max
  have hux2 := hok.ts.max
  unfold maxLen at hux hux2
  have HNM := Lib.hid (fun j (hj : j < K.length) => show (K.map fun x => x.d.id)[j]? = some K[j].d.id by rw [List.getElem?_map, List.getElem?_eq_getElem hj]; rfl)
  have HT := Lib.hid (List.map_take (f := fun x : An => x.d.id) (l := K) (i := i))
  have V0 := Lib.hid (vs_new w ⟨AA, an, ac, L, some a, kn, kc, K⟩ 25)
  have B0 := Lib.hid (below_box w (.cells #[.slice AA an ac, .slice (some a) kn kc] 25))
  generalize hx : K[i] = x at *
  have W0 := Lib.hid (va_new (w.alloc (.cells #[.slice AA an ac, .slice (some a) kn kc] 25)) x 55)
  have B1 := Lib.hid (B0.out.trans ((below_box (w.alloc (.cells #[.slice AA an ac, .slice (some a) kn kc] 25)) (.cells #[.string x.d.id, .slice x.WA x.wn x.wc, .slice x.TA x.tn x.tc, .slice x.NA x.nn x.nc] 55)).mono (by simp)))
  have V1 := Lib.hid (V0.out.keep (below_box (w.alloc (.cells #[.slice AA an ac, .slice (some a) kn kc] 25)) (.cells #[.string x.d.id, .slice x.WA x.wn x.wc, .slice x.TA x.tn x.tc, .slice x.NA x.nn x.nc] 55)))
  clear hk h hok hx hkn hi h8 V0 B0
  unfold Sc.v
  dsimp only
  go_enter Tryz.func33, Tryz.ntmps33
  go_wp2_with fail
  refine (KN.out _).mono ?_
  rintro e w1 ⟨rfl, b1⟩
  have hsz : (w.alloc (.cells #[.slice AA an ac, .slice (some a) kn kc] 25)).heap.size = w.heap.size + 1 := by simp
  have W0' := W0.out
  rw [hsz] at W0'
  have V2 := Lib.hid (V1.out.keep b1)
  have W2 := Lib.hid (W0'.keep b1)
  have B2 := Lib.hid (B1.out.trans (b1.mono B1.out.size))
  clear b1 W0 W0' V1 B1 hsz
  go_wp2_with fail
  have HT0 : Hid (twoF (textFault x.d.id) (K.map fun x => x.d.id) x.d.id 0 = textFault x.d.id) := Lib.hid (by
    unfold twoF
    by_cases hf : textFault x.d.id = 0
    · rw [hf, or2_zero]; rfl
    · exact or2_ne hf _)
  go_loopw [6, 7] (fun e j wr => ∃ k : Nat, j = .int .i64 k ∧ k ≤ i ∧ e = .int .i64 (twoF (textFault x.d.id) (K.map fun x => x.d.id) x.d.id k) ∧ Hid (Below w.heap.size w wr) ∧ Hid (Vs wr w.heap.size ⟨AA, an, ac, L, some a, kn, kc, K⟩) ∧ Hid (Va wr (w.heap.size + 1) x)) (fun _ j _ => i - (intOf j).toNat)
  case atStart => exact ⟨0, rfl, Nat.zero_le _, by rw [HT0.out], B2, V2, W2⟩
  case round =>
    obtain ⟨k, rfl, hk, rfl, hB, hV, hW⟩ := hrel
    have HK0 := Lib.hid (fun h => twoF_ne (f := textFault x.d.id) (N := K.map fun x => x.d.id) (s := x.d.id) hk h)
    obtain ⟨ee, hee⟩ : ∃ ee, ee = twoF (textFault x.d.id) (K.map fun x => x.d.id) x.d.id k := ⟨_, rfl⟩
    rw [← hee] at HK0
    have HEE := Lib.hid hee
    rw [← hee]
    obtain ⟨v0, v1⟩ := hV.out
    obtain ⟨y0, y1, y2, y3⟩ := hW.out
    dsimp only at v0 v1
    clear hee V2 W2 B2
    by_cases hlt : k < i ∧ ee = 0
    · obtain ⟨hlt, he0⟩ := hlt
      have hkK : k < K.length := by rw [← HKL.out]; omega
      have hkk : k < kn := by omega
      obtain ⟨a', ea, q0, -, -, -, -⟩ := (HK.out.keep hB.out).at_ k _ (List.getElem?_eq_getElem hkK)
      injection ea with ea
      subst ea
      have HS := Lib.hid (show twoF (textFault x.d.id) (K.map fun x => x.d.id) x.d.id (k + 1) = if K[k].d.id = x.d.id then 6 else 0 by
        have h := twoF_step (f := textFault x.d.id) (N := K.map fun x => x.d.id) (s := x.d.id) (k := k) (by rw [List.length_map]; exact hkK) (HEE.out.symm.trans he0)
        rwa [List.getElem_map] at h)
      generalize K[k] = z at *
      have k0 := cell_regrown v1
      have k1 := cell_regrown q0
      have k2 := cell_regrown y0
      subst he0
      clear q0
      go_wp2_with fail
      refine wp_region_quiet_below (by kernel_rfl) (by kernel_rfl) ?_
      repeat (first | go_big_quiet_step (fail) | quiet_step (fail))
      refine wpQuiet_nil ?_
      intro w6 hw'
      have B6 := Lib.hid (show Below wr.heap.size wr w6 by obtain ⟨⟨d, os⟩, rfl⟩ := hw'; exact below_regrown _ _ _)
      clear hw'
      have B7 := bhid hB B6 (Nat.le_refl _)
      have V7 := Lib.hid (hV.out.keep B6.out)
      have W7 := Lib.hid (hW.out.keep B6.out)
      clear k0 k1 k2 B6 hB hV hW v0 v1 y0 y1 y2 y3
      by_cases hz : z.d.id = x.d.id
      · rw [if_pos hz] at HS
        have f1 : (z.d.id.toList == x.d.id.toList) = true := by rw [hz]; exact beq_self_eq_true _
        rw [f1]
        clear f1 hz
        go_wp2_with fail
        go_roundw
        case rel => exact ⟨k + 1, by go_num, by omega, by rw [HS.out], B7, V7, W7⟩
        case measure => simp [intOf]; omega
      · rw [if_neg hz] at HS
        have f1 : (z.d.id.toList == x.d.id.toList) = false := beq_eq_false_iff_ne.2 (fun q => hz (toList_inj q))
        rw [f1]
        clear f1 hz
        go_wp2_with fail
        go_roundw
        case rel => exact ⟨k + 1, by go_num, by omega, by rw [HS.out], B7, V7, W7⟩
        case measure => simp [intOf]; omega
    · have HF := Lib.hid (show twoF (textFault x.d.id) (K.map fun x => x.d.id) x.d.id i = ee by
        rcases Nat.lt_or_ge k i with h | h
        · have h0 : ee ≠ 0 := fun e => hlt ⟨h, e⟩
          rw [HK0.out h0, HEE.out]
        · have : k = i := by omega
          rw [← this, HEE.out])
      have HKD := Lib.hid (show adF ((K.take i).map fun x => x.d.id) x.d = or2 ee (or2 (if 6 < x.wn ∨ 6 < x.tn then 4 else 0) (or2 (namesF x.d.who) (or2 (namesF x.d.what) (recF x.d.P)))) by
        unfold adF
        rw [HT.out, ← HF.out, HUL.out, HUL2.out]
        unfold twoF
        rw [or2_assoc])
      by_cases he0 : ee = 0
      · have hki : k = i := by
          rcases Nat.lt_or_ge k i with h | h
          · exact absurd ⟨h, he0⟩ hlt
          · omega
        subst he0
        rw [or2_zero] at HKD
        subst hki
        clear hlt HK0 HEE HF
        by_cases h6 : 6 < x.wn ∨ 6 < x.tn
        · have HR := Lib.hid (HKD.out.trans (by rw [if_pos h6]; rfl : _ = (4 : Int)))
          by_cases h61 : 6 < x.wn
          · have f1 : decide (6 < (x.wn : Int)) = true := decide_eq_true (by omega)
            clear h6 h61
            go_wp2_with fail
            go_ret
            exact ⟨by rw [HR.out]; rfl, hB.out⟩
          · have f1 : decide (6 < (x.wn : Int)) = false := decide_eq_false (by omega)
            have f2 : decide (6 < (x.tn : Int)) = true := decide_eq_true (by omega)
            clear h6 h61
            go_wp2_with fail
            go_ret
            exact ⟨by rw [HR.out]; rfl, hB.out⟩
        · have HR := Lib.hid (HKD.out.trans (by rw [if_neg h6, or2_zero] : _ = or2 (namesF x.d.who) (or2 (namesF x.d.what) (recF x.d.P))))
          have f1 : decide (6 < (x.wn : Int)) = false := decide_eq_false (by omega)
          have f2 : decide (6 < (x.tn : Int)) = false := decide_eq_false (by omega)
          have U1 := Lib.hid (KU.out wr hB.out)
          have U2 := Lib.hid (KU2.out wr hB.out)
          have R1 := Lib.hid (KR.out wr hB.out)
          clear h6 HKD
          by_cases hn : namesF x.d.who = 0
          · rw [hn, or2_zero] at HR
            rw [hn] at U1
            clear hn
            by_cases hn2 : namesF x.d.what = 0
            · rw [hn2, or2_zero] at HR
              rw [hn2] at U2
              clear hn2
              generalize recF x.d.P = rr at *
              go_wp2_with fail
              refine U1.out.mono ?_
              rintro e w6 ⟨rfl, rfl⟩
              go_wp2_with fail
              refine U2.out.mono ?_
              rintro e w6 ⟨rfl, rfl⟩
              go_wp2_with fail
              refine R1.out.mono ?_
              rintro e w7 ⟨rfl, b7⟩
              have B7 := Lib.hid (hB.out.trans (b7.mono hB.out.size))
              clear b7
              go_wp2_with fail
              go_ret
              exact ⟨by rw [HR.out]; rfl, B7.out⟩
            · rw [or2_ne hn2] at HR
              have f3 : (namesF x.d.what == 0) = false := beq_eq_false_iff_ne.2 hn2
              generalize namesF x.d.what = rn at *
              clear hn2 R1
              go_wp2_with fail
              refine U1.out.mono ?_
              rintro e w6 ⟨rfl, rfl⟩
              go_wp2_with fail
              refine U2.out.mono ?_
              rintro e w6 ⟨rfl, rfl⟩
              go_wp2_with fail
              go_ret
              exact ⟨by rw [HR.out]; rfl, hB.out⟩
          · rw [or2_ne hn] at HR
            have f3 : (namesF x.d.who == 0) = false := beq_eq_false_iff_ne.2 hn
            generalize namesF x.d.who = rn at *
            clear hn R1 U2
            go_wp2_with fail
            refine U1.out.mono ?_
            rintro e w6 ⟨rfl, rfl⟩
            go_wp2_with fail
            go_ret
            exact ⟨by rw [HR.out]; rfl, hB.out⟩
      · have HR := Lib.hid (HKD.out.trans (or2_ne he0 _))
        have f1 : (ee == 0) = false := beq_eq_false_iff_ne.2 he0
        have f2 : (decide (k < i) && (ee == 0)) = false := by rw [f1, Bool.and_false]
        clear hlt HK0 HEE HF HKD he0
        go_wp2_with fail
        all_goals (go_ret; exact ⟨by rw [HR.out]; rfl, hB.out⟩)
end Go.Proofs.YtnolmlhcikcceaaGreatDoor
