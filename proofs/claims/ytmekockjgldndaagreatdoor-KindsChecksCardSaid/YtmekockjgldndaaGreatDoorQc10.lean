/-
  val.first, val.Compare.
  What slices that come in are made of: nodes.
  The contracts of the reference's checks of names and texts.
  ref KindEnd: the place behind a type; ref KindFault.
  ref KindEnd: of records.
  Aids of later walks: a node's four cells; contracts that end in Below, met in a region that draws.
  Slices of slices of nodes: how they lie; those that a call collects; slices.Clone of nodes.
  val.split: the parts of a set or a record, in new slices.
-/
import Derived.Deep.Slices
import Derived.Maps.AppendAt
import Derived.Test.YtmekockjgldndaaGreatDoorQc9
namespace Go.Wk
def cmpE (P Q : List Nd) : Int := or2 (valFault P) (valFault Q)
def cmpV (P Q : List Nd) : Int := if cmpE P Q = 0 then cmpNds P Q else 0
end Go.Wk
namespace Go.Proofs.YtmekockjgldndaaGreatDoor
open Go.RowKit Go.Wk Go.Sort
set_option maxRecDepth 100000

theorem errV_ways (x : Int) : (x = 0 ∧ errV x = .nilIface) ∨ (x ≠ 0 ∧ errV x = .iface 23 (.int .i64 x)) := by
  by_cases h : x = 0
  · exact .inl ⟨h, by rw [h]; rfl⟩
  · exact .inr ⟨h, errV_ne h⟩
theorem cmpNd_eq {x y : Nd} (h : x = y) : cmpNd x y = 0 := (cmpNd_cmp.zero x y).2 h
theorem nd_neq {x y : Nd} (h : x ≠ y) (w : World) : (binOp .neq 44 (.agg #[.int .i64 x.op, .int .i64 x.n, .string x.s, .string x.t]) (.agg #[.int .i64 y.op, .int .i64 y.n, .string y.s, .string y.t])).run Tryz.prog w = .ok (.bool true) w := by
  simp [go_sem]
  exact fun h1 h2 h3 h4 => h (Nd.ext4 h1 h2 (toList_inj h3) (toList_inj h4))
theorem cmpNds_zero_at {P Q : List Nd} {k : Nat} (h1 : k < P.length) (h2 : k < Q.length) (h : P[k] ≠ Q[k]) (hc : cmpNds P Q = cmpNds (P.drop k) (Q.drop k)) : cmpNds P Q ≠ 0 := by
  rw [hc, cmpNds_at h1 h2, or2_ne (fun e => h ((cmpNd_cmp.zero _ _).1 e))]
  exact fun e => h ((cmpNd_cmp.zero _ _).1 e)
set_option maxHeartbeats 1000000 in
theorem same_Nodes (A B : Option Addr) (n m c d : Nat) (P Q : List Nd) (w : World) (hn : n = P.length) (hm : m = Q.length) (hln : n ≤ maxLen) (hlm : m ≤ maxLen) (hP : NdsAt w A P) (hQ : NdsAt w B Q) :
    Calls Tryz.prog 22 #[.slice A n c, .slice B m d] w fun e w' => e = .returned (.bool (decide (cmpNds P Q = 0))) ∧ Below w.heap.size w w' := by
  unfold maxLen at hln hlm
  have HN := Lib.hid hn
  have HM := Lib.hid hm
  have HP := Lib.hid hP
  have HQ := Lib.hid hQ
  clear hn hm hP hQ
  by_cases hl : n = m
  · subst hl
    go_enter Tryz.func22, Tryz.ntmps22
    go_wp2_with fail
    go_loopw [5] (fun i wr => ∃ k : Nat, k ≤ n ∧ i = .int .i64 k ∧ Hid (cmpNds P Q = cmpNds (P.drop k) (Q.drop k)) ∧ Hid (Below w.heap.size w wr)) (fun i _ => n - (intOf i).toNat)
    case atStart => exact ⟨0, Nat.zero_le _, rfl, rfl, Below.refl _ _⟩
    case round =>
      obtain ⟨k, hk, rfl, hE, hB⟩ := hrel
      by_cases hlt : k < n
      · have h1 : k < P.length := by rw [← HN.out]; exact hlt
        have h2 : k < Q.length := by rw [← HM.out]; exact hlt
        obtain ⟨a, rfl, a1, a2, a3, a4⟩ := (HP.out.keep hB.out) k P[k] (List.getElem?_eq_getElem h1)
        obtain ⟨b, rfl, b1, b2, b3, b4⟩ := (HQ.out.keep hB.out) k Q[k] (List.getElem?_eq_getElem h2)
        by_cases he : P[k] = Q[k]
        · have HE := Lib.hid (hE.out.trans ((cmpNds_at h1 h2).trans (by rw [cmpNd_eq he, or2_zero])))
          rw [he] at a1 a2 a3 a4
          generalize Q[k] = y at *
          clear he hE
          go_wp2_with fail
          go_quiet (fail)
          go_wp2_with fail
          go_roundw
          case rel => exact ⟨k + 1, by omega, by go_num, HE, hB.out.drewN _⟩
          case measure => simp [intOf]; omega
        · have HE := Lib.hid (cmpNds_zero_at h1 h2 he hE.out)
          have hne := fun w => nd_neq he w
          generalize P[k] = x at *
          generalize Q[k] = y at *
          clear he hE
          go_wp2_with fail
          go_quiet (fail)
          go_wp2_with fail
          go_ret
          exact ⟨ret_bool (decide_eq_false HE.out).symm, hB.out.drewN _⟩
      · have HE := Lib.hid (hE.out.trans (cmpNds_end0 (by rw [← HN.out]; omega) (by rw [← HM.out]; omega)))
        clear hE
        go_wp2_with fail
        go_ret
        exact ⟨ret_bool (decide_eq_true HE.out).symm, hB.out⟩
  · have HE := Lib.hid (show cmpNds P Q ≠ 0 from fun h => hl (by rw [HN.out, HM.out, (cmpNds_cmp.zero _ _).1 h]))
    have h3 : (n != m) = true := by rw [bne_iff_ne]; exact hl
    clear hl
    go_enter Tryz.func22, Tryz.ntmps22
    go_wp2_with fail
    go_ret
    exact ⟨ret_bool (decide_eq_false HE.out).symm, Below.refl _ _⟩

def ndCells : List Nd → List Value
  | [] => []
  | x :: r => .int .i64 x.op :: .int .i64 x.n :: .string x.s :: .string x.t :: ndCells r
theorem ndCells_append (P Q : List Nd) : ndCells (P ++ Q) = ndCells P ++ ndCells Q := by
  induction P with
  | nil => rfl
  | cons x P ih => simp [ndCells, ih]
theorem ndCells_length (P : List Nd) : (ndCells P).length = P.length * 4 := by
  induction P with
  | nil => rfl
  | cons x P ih => simp only [ndCells, List.length_cons, ih]; omega
theorem ndCells_at (P : List Nd) (k : Nat) (x : Nd) (h : P[k]? = some x) : (ndCells P)[k * 4]? = some (.int .i64 x.op) ∧ (ndCells P)[k * 4 + 1]? = some (.int .i64 x.n) ∧ (ndCells P)[k * 4 + 2]? = some (.string x.s) ∧ (ndCells P)[k * 4 + 3]? = some (.string x.t) := by
  induction P generalizing k with
  | nil => simp at h
  | cons y P ih =>
    cases k with
    | zero => simp only [List.getElem?_cons_zero, Option.some.injEq] at h; subst h; exact ⟨rfl, rfl, rfl, rfl⟩
    | succ k =>
      have := ih k (by simpa using h)
      rw [show (k + 1) * 4 = k * 4 + 1 + 1 + 1 + 1 by omega]
      simp only [ndCells, List.getElem?_cons_succ]
      exact this
theorem addr_add (g o k : Nat) : (⟨g, o, none⟩ : Addr).add k = ⟨g, o + k, none⟩ := by
  unfold Addr.add; split
  · rename_i h0; subst h0; rfl
  · simp
/-- Cells that are those of nodes. -/
theorem nds_of_cells {w : World} {b o : Nat} {P : List Nd} (h : ∀ (j : Nat) u, (ndCells P)[j]? = some u → w.cell? ((⟨b, o, none⟩ : Addr).add j) = some u) : NdsAt w (some ⟨b, o, none⟩) P := by
  intro k x hx
  obtain ⟨h1, h2, h3, h4⟩ := ndCells_at P k x hx
  have g1 := h _ _ h1
  have g2 := h _ _ h2
  have g3 := h _ _ h3
  have g4 := h _ _ h4
  simp only [addr_add] at g1 g2 g3 g4
  exact ⟨_, rfl, by simp only [addr_add]; exact g1, by simp only [addr_add]; exact g2, by simp only [addr_add]; exact g3, by simp only [addr_add]; exact g4⟩
theorem nds_new (w : World) (P : List Nd) (t : TypeId) : NdsAt (w.alloc (.cells (ndCells P).toArray t)) (some ⟨w.heap.size, 0, none⟩) P := nds_of_cells (cells_new w _ t)
end Go.Proofs.YtmekockjgldndaaGreatDoor
namespace Go.Wk
open Go.ChangeShapes Go.WideShapes Go.RowKit Go.Deep
section
variable {P : Program} {w : World} {t : TypeId} {cs : List Value}
theorem list_of {α : Type} (n : Nat) (R : Nat → α → Prop) (h : ∀ i, i < n → ∃ x, R i x) : ∃ l : List α, l.length = n ∧ ∀ k x, l[k]? = some x → R k x := by
  induction n with
  | zero => exact ⟨[], rfl, fun k x hx => by simp at hx⟩
  | succ n ih =>
    obtain ⟨l, hl, hr⟩ := ih (fun i hi => h i (by omega))
    obtain ⟨y, hy⟩ := h n (by omega)
    refine ⟨l ++ [y], by simp [hl], fun k x hx => ?_⟩
    by_cases hk : k < n
    · rw [List.getElem?_append_left (by omega)] at hx; exact hr k x hx
    · rw [List.getElem?_append_right (by omega)] at hx
      by_cases hk2 : k = n
      · subst hk2
        rw [hl, Nat.sub_self] at hx
        simp only [List.getElem?_cons_zero, Option.some.injEq] at hx
        subst hx; exact hy
      · have : k - l.length ≠ 0 := by omega
        obtain ⟨j, hj⟩ : ∃ j, k - l.length = j + 1 := ⟨k - l.length - 1, by omega⟩
        rw [hj] at hx; simp at hx
theorem rd_slice {e : TypeId} (ht : P.underlying t = some (.slice e)) (h : Rd P w t cs) :
    ∃ (A : Option Addr) (n c : Nat), cs = [.slice A n c] ∧ n ≤ c ∧ c ≤ maxLen ∧ ∀ i, i < n → ∃ a, A = some a ∧ ∃ cs' : List Value, cs'.length = P.cellsOf e ∧ (∀ j, j < P.cellsOf e → w.cell? (a.add (i * P.cellsOf e + j)) = cs'[j]?) ∧ Rd P w e cs' := by
  obtain ⟨H, enc, b, sp, hd, f, x, hx⟩ := h
  rcases open_slice ht hx with ⟨h0, _⟩ | ⟨a, len, cap, m, n, D, Pl, hcs, hb, hl, hm, hmm, hx, hi⟩
  · exact ⟨none, 0, 0, h0, Nat.le_refl _, by unfold maxLen; omega, fun i hi => by omega⟩
  · refine ⟨some a, len, cap, hcs, hl, hm, fun i hil => ⟨a, rfl, ?_⟩⟩
    obtain ⟨cs', hc, ht'⟩ := hi i (by rw [hmm]; split <;> omega)
    obtain ⟨_, hcl, hat⟩ := World.cells?_some hc
    refine ⟨cs', hcl, fun j hj => ?_, ⟨H, enc, b, sp, hd, n, _, ht'⟩⟩
    have := hat j hj
    rw [← Go.Deep.add_add]
    exact this
end
end Go.Wk
namespace Go.Proofs.YtmekockjgldndaaGreatDoor
open Go.Wk Go.ChangeShapes Go.WideShapes Go.RowKit
set_option maxRecDepth 100000

/-- A slice of nodes that came in. -/
structure Ns (w : World) (A : Option Addr) (n c : Nat) (P : List Nd) : Prop where
  len : n = P.length
  cap : n ≤ c
  max : n ≤ maxLen
  at_ : NdsAt w A P
  ok : NdsOk P
theorem Ns.keep {w w' : World} {A : Option Addr} {n c : Nat} {P : List Nd} (h : Ns w A n c P) (hb : Below w.heap.size w w') : Ns w' A n c P := ⟨h.len, h.cap, h.max, h.at_.keep hb, h.ok⟩
theorem Ns.same {w : World} {A B : Option Addr} {n c m d : Nat} {P Q : List Nd} (h : Ns w A n c P) (k : Ns w B m d Q) :
    Calls Tryz.prog 22 #[.slice A n c, .slice B m d] w fun e w' => e = .returned (.bool (decide (cmpNds P Q = 0))) ∧ Below w.heap.size w w' :=
  same_Nodes A B n m c d P Q w h.len k.len h.max k.max h.at_ k.at_

theorem cells_node : Tryz.prog.cellsOf 44 = 4 := by kernel_rfl
theorem cells_int : Tryz.prog.cellsOf 3 = 1 := by kernel_rfl
theorem rd_node {w : World} {cs : List Value} (h : Rd Tryz.prog w 44 cs) : ∃ x : Nd, cs = [.int .i64 x.op, .int .i64 x.n, .string x.s, .string x.t] ∧ NdOk x := by
  have hl := (rd_struct Tryz.underlying44 h).1
  rw [cells_node] at hl
  match cs, hl with
  | [c0, c1, c2, c3], _ =>
    have h0 : Rd Tryz.prog w 3 [c0] := rd_field Tryz.underlying44 h 0 3 0 1 rfl cells_int
    have h1 : Rd Tryz.prog w 3 [c1] := rd_field Tryz.underlying44 h 1 3 1 1 rfl cells_int
    have h2 : Rd Tryz.prog w 9 [c2] := rd_field Tryz.underlying44 h 2 9 2 1 rfl cells_string
    have h3 : Rd Tryz.prog w 9 [c3] := rd_field Tryz.underlying44 h 3 9 3 1 rfl cells_string
    obtain ⟨o, e0, o1, o2⟩ := rd_i64 Tryz.underlying3 h0
    obtain ⟨n, e1, n1, n2⟩ := rd_i64 Tryz.underlying3 h1
    obtain ⟨a, e2, s2⟩ := rd_string Tryz.underlying9 h2
    obtain ⟨b, e3, s3⟩ := rd_string Tryz.underlying9 h3
    simp only [List.cons.injEq, and_true] at e0 e1 e2 e3
    exact ⟨⟨o, n, a, b⟩, by rw [e0, e1, e2, e3], s2, s3, n1, n2⟩
theorem rd_nodes {w : World} {cs : List Value} (h : Rd Tryz.prog w 22 cs) :
    ∃ (A : Option Addr) (n c : Nat) (P : List Nd), cs = [.slice A n c] ∧ n = P.length ∧ n ≤ c ∧ n ≤ maxLen ∧ NdsAt w A P ∧ NdsOk P := by
  obtain ⟨A, n, c, rfl, h1, h2, h3⟩ := rd_slice Tryz.underlying22 h
  rw [cells_node] at h3
  obtain ⟨P, hl, hr⟩ := list_of n (fun k x => (∃ a, A = some a ∧ w.cell? (a.add (k * 4)) = some (.int .i64 x.op) ∧ w.cell? (a.add (k * 4 + 1)) = some (.int .i64 x.n) ∧ w.cell? (a.add (k * 4 + 2)) = some (.string x.s) ∧ w.cell? (a.add (k * 4 + 3)) = some (.string x.t)) ∧ NdOk x) (fun i hi => by
    obtain ⟨a, rfl, cs', hl, hc, hr⟩ := h3 i hi
    obtain ⟨x, rfl, hx⟩ := rd_node hr
    exact ⟨x, ⟨a, rfl, hc 0 (by omega), hc 1 (by omega), hc 2 (by omega), hc 3 (by omega)⟩, hx⟩)
  refine ⟨A, n, c, P, rfl, hl.symm, h1, by omega, fun k x hx => ?_, fun x hx => ?_⟩
  · obtain ⟨⟨a, e, q1, q2, q3, q4⟩, -⟩ := hr k x hx
    refine ⟨a, e, q1, ?_, ?_, ?_⟩
    all_goals
      rw [← add_add] at q2 q3 q4
      unfold Addr.add at q2 q3 q4 ⊢
      first | (simpa using q2) | (simpa using q3) | (simpa using q4)
  · obtain ⟨k, hk, rfl⟩ := List.getElem_of_mem hx
    exact (hr k _ (List.getElem?_eq_getElem hk)).2
theorem open_nodes {H : Type} {enc : TypeId × Value → H} {w : World} {b b0 : Nat} {sp : Nat → Bool} {hd : Bool} {v : Value} {d : DataW H} {ps : List MemPlace} {r : Reach}
    (hv : Value.okWide Tryz.prog w r b0 22 v) (h : DataW.Trod enc Tryz.prog w b sp hd 22 v d ps) :
    ∃ (A : Option Addr) (n c : Nat) (P : List Nd), v = .slice A n c ∧ Ns w A n c P := by
  obtain ⟨A', n', c', rfl⟩ := okWide_slice Tryz.underlying22 hv
  obtain ⟨A, n, c, P, e, h1, h2, h3, h4, h5⟩ := rd_nodes (rd_of_trod h)
  have e' : (Value.slice A' n' c') = .slice A n c := by simpa [Value.cells] using e
  exact ⟨A, n, c, P, e', h1, h2, h3, h4, h5⟩
end Go.Proofs.YtmekockjgldndaaGreatDoor
namespace Go.Proofs.YtmekockjgldndaaGreatDoor
open Go.RowKit Go.Wk

theorem ref_isLetter (n : Int) (w : World) (h0 : 0 ≤ n) (h1 : n ≤ 255) : Calls Tryz.prog 159 #[.int .u8 n] w fun e w' => e = .returned (.bool (isLet n)) ∧ w = w' := by
  go_enter Tryz.func159, Tryz.ntmps159
  go_wp2
  all_goals (go_ret; exact ⟨ret_bool (by unfold isLet; rw [Bool.eq_iff_iff]; simp; omega), rfl⟩)
theorem ref_isDigit (n : Int) (w : World) (h0 : 0 ≤ n) (h1 : n ≤ 255) : Calls Tryz.prog 160 #[.int .u8 n] w fun e w' => e = .returned (.bool (isDig n)) ∧ w = w' := by
  go_enter Tryz.func160, Tryz.ntmps160
  go_wp2
  all_goals (go_ret; exact ⟨ret_bool (by unfold isDig; rw [Bool.eq_iff_iff]; simp; omega), rfl⟩)

set_option maxHeartbeats 1000000 in
theorem ref_NameFault (s : ByteArray) (w : World) (hs : s.size ≤ maxLen) : Calls Tryz.prog 94 #[.string s] w fun e w' => e = .returned (.int .i64 (nameFault s)) ∧ w = w' := by
  unfold maxLen at hs
  go_enter Tryz.func94, Tryz.ntmps94
  go_wp2
  go_loop [2, 3] (fun r i => ∃ k : Nat, k ≤ s.size ∧ i = .int .i64 k ∧ r = .int .i64 0 ∧ Hid (0 < k → nameOk (s.data.toList.take k) = true)) (fun _ i => s.size - (intOf i).toNat)
  case atStart => exact ⟨0, Nat.zero_le _, rfl, rfl, fun h => absurd h (by omega)⟩
  case round =>
    obtain ⟨k, hk, rfl, rfl, hall⟩ := hrel
    by_cases hlt : k < s.size
    · have C1 := Lib.hid (fun w => ref_isLetter (s[k].toNat : Int) w (by omega) (by have := s[k].toNat_lt; omega))
      have C2 := Lib.hid (fun w => ref_isDigit (s[k].toNat : Int) w (by omega) (by have := s[k].toNat_lt; omega))
      by_cases hk0 : k = 0
      · subst hk0
        have G1 := Lib.hid (fun q : isLet (s[0].toNat : Int) = true => (show nameOk (s.data.toList.take 1) = true from nameOk_take_one hlt q))
        have G2 := Lib.hid (fun q : isLet (s[0].toNat : Int) = false => (show nameFault s = 1 by unfold nameFault; rw [nameOk_first hlt q]; rfl))
        clear hall
        rcases hx : isLet (s[0].toNat : Int) with _ | _ <;> rw [hx] at C1 G1 G2 <;> clear hx
        · go_wp2_with (go_at_call 159; refine (C1.out _).mono ?_; rintro e w' ⟨rfl, rfl⟩)
          go_ret
          exact ⟨by rw [G2.out (by simp)]; rfl, rfl⟩
        · go_wp2_with (go_at_call 159; refine (C1.out _).mono ?_; rintro e w' ⟨rfl, rfl⟩)
          go_round
          case rel => exact ⟨1, by omega, by go_num, rfl, fun _ => G1.out (by simp)⟩
          case measure => simp [intOf]; omega
      · have hst : isWrd s[k] = (isLet (s[k].toNat : Int) || isDig (s[k].toNat : Int)) := rfl
        have G1 := Lib.hid (fun q : isWrd s[k] = true => (show nameOk (s.data.toList.take (k + 1)) = true from nameOk_take_succ (by omega) hlt (hall.out (by omega)) q))
        have G2 := Lib.hid (fun q : isWrd s[k] = false => (show nameFault s = 1 by unfold nameFault; rw [nameOk_stop (by omega) hlt q]; rfl))
        rw [hst] at G1 G2
        have hk1 : ((k : Int) == 0) = false := by rw [beq_eq_false_iff_ne]; omega
        clear hst hall hk0
        rcases hx : isLet (s[k].toNat : Int) with _ | _ <;> rcases hy : isDig (s[k].toNat : Int) with _ | _ <;> rw [hx] at C1 G1 G2 <;> rw [hy] at C2 G1 G2 <;> clear hx hy
        all_goals go_wp2_with (first | (go_at_call 159; refine (C1.out _).mono ?_; rintro e w' ⟨rfl, rfl⟩) | (go_at_call 160; refine (C2.out _).mono ?_; rintro e w' ⟨rfl, rfl⟩))
        · go_ret
          exact ⟨by rw [G2.out (by simp)]; rfl, rfl⟩
        all_goals
          go_round
          case rel => exact ⟨k + 1, by omega, by go_num, rfl, fun _ => G1.out rfl⟩
          case measure => simp [intOf]; omega
    · by_cases h0 : s.size = 0
      · have H3 := Lib.hid (show nameFault s = 1 by unfold nameFault; rw [nameOk_empty h0]; rfl)
        have h1 : ((s.size : Int) == 0) = true := by rw [beq_iff_eq]; omega
        clear hall
        go_wp2
        go_ret
        exact ⟨by rw [H3.out]; rfl, rfl⟩
      · have H2 := Lib.hid (show nameOk s.data.toList = true from nameOk_end (by omega) (hall.out (by omega)))
        have h1 : ((s.size : Int) == 0) = false := by rw [beq_eq_false_iff_ne]; omega
        clear hall h0
        by_cases h20 : 20 < s.size
        · have H3 := Lib.hid (show nameFault s = 4 by unfold nameFault; rw [H2.out, if_pos rfl, if_pos h20])
          clear H2
          go_wp2
          go_ret
          exact ⟨by rw [H3.out]; rfl, rfl⟩
        · have H3 := Lib.hid (show nameFault s = 0 by unfold nameFault; rw [H2.out, if_pos rfl, if_neg h20])
          clear H2
          go_wp2
          go_ret
          exact ⟨by rw [H3.out]; rfl, rfl⟩

set_option maxHeartbeats 400000 in
theorem ref_TextFault (s : ByteArray) (w : World) (hs : s.size ≤ maxLen) : Calls Tryz.prog 115 #[.string s] w fun e w' => e = .returned (.int .i64 (textFault s)) ∧ Below w.heap.size w w' := by
  unfold maxLen at hs
  by_cases h60 : 60 < s.size
  · have H := Lib.hid (show textFault s = 4 by unfold textFault; rw [if_pos h60])
    go_enter Tryz.func115, Tryz.ntmps115
    go_wp2
    go_ret
    exact ⟨by rw [H.out]; rfl, Below.refl _ _⟩
  have H := Lib.hid (show textFault s = if s.data.toList.all isPrtB then 0 else 1 by unfold textFault; rw [if_neg (by omega)])
  go_enter Tryz.func115, Tryz.ntmps115
  go_wp2
  go_loopw [2, 3] (fun r i wr => ∃ k : Nat, k ≤ s.size ∧ i = .int .i64 k ∧ r = .int .i64 0 ∧ Hid ((s.data.toList.take k).all isPrtB = true) ∧ Below w.heap.size w wr) (fun _ i _ => s.size - (intOf i).toNat)
  case atStart => exact ⟨0, Nat.zero_le _, rfl, rfl, by simp [Hid], Below.refl _ _⟩
  case round =>
    obtain ⟨k, hk, rfl, rfl, hall, hb⟩ := hrel
    by_cases hlt : k < s.size
    · by_cases hp : 32 ≤ (s[k].toNat : Int) ∧ (s[k].toNat : Int) ≤ 126
      · have H2 := Lib.hid (show (s.data.toList.take (k + 1)).all isPrtB = true by rw [all_succ s isPrtB hlt, hall.out, Bool.true_and]; unfold isPrtB isPrt; simp; omega)
        obtain ⟨hp1, hp2⟩ := hp
        have q1 : decide ((s[k].toNat : Int) < 32) = false := by simp; omega
        clear hall
        go_wp2
        go_roundw
        case rel => exact ⟨k + 1, by omega, by go_num, rfl, H2, hb⟩
        case measure => simp [intOf]; omega
      · have H2 := Lib.hid (show s.data.toList.all isPrtB = false from all_stop hlt (by unfold isPrtB isPrt; rw [Bool.eq_false_iff]; simp; omega))
        clear hall
        by_cases hq : (s[k].toNat : Int) < 32
        · clear hp
          have q1 : decide ((s[k].toNat : Int) < 32) = true := by simp; omega
          go_wp2
          go_ret
          exact ⟨by rw [H.out, H2.out]; rfl, hb⟩
        · have hq2 : 126 < (s[k].toNat : Int) := by omega
          clear hp
          have q1 : decide ((s[k].toNat : Int) < 32) = false := by simp; omega
          go_wp2
          go_ret
          exact ⟨by rw [H.out, H2.out]; rfl, hb⟩
    · have H2 := Lib.hid (show s.data.toList.all isPrtB = true from (all_end (k := k) (by omega)).symm.trans hall.out)
      clear hall
      go_wp2
      go_ret
      exact ⟨by rw [H.out, H2.out]; rfl, hb⟩
end Go.Proofs.YtmekockjgldndaaGreatDoor
namespace Go.Proofs.YtmekockjgldndaaGreatDoor
open Go.RowKit Go.Wk Go.Sort
set_option maxRecDepth 100000

theorem emp_or' (s : ByteArray) : s = ⟨#[]⟩ ∨ s ≠ emp ∧ (s.toList == []) = false ∧ (s.toList != []) = true := by
  rcases empty_or s with h | ⟨h1, h2, h3⟩
  · exact .inl h
  · exact .inr ⟨fun e => h2 (by rw [e, show emp.toList = [] by rw [ByteArray.toList_eq]; rfl]), beq_eq_false_iff_ne.2 h2, by rw [bne_iff_ne]; exact h2⟩
theorem bx4_new' (w : World) (x0 x1 x2 x3 : Value) (t : TypeId) : (w.alloc (.cells #[x0, x1, x2, x3] t)).cell? ⟨w.heap.size, 1, none⟩ = some x1 := by
  rw [World.cell?_alloc_at _ _ _ _ rfl]; rfl
/-- The contract of KindEnd, with so much fuel. -/
def KeC (P : List Nd) (A : Option Addr) (n c : Nat) (m : Nat) : Prop :=
  ∀ (q : Nat) (w : World), Ns w A n c P → n - q ≤ m → Calls Tryz.prog 43 #[.slice A n c, .int .i64 q] w fun e w' => e = .returned (.int .i64 (kEnd P q)) ∧ Below w.heap.size w w'
set_option maxHeartbeats 1000000 in
theorem ke_out (P : List Nd) (A : Option Addr) (n c q : Nat) (w : World) (hn : n = P.length) (h : n ≤ q) :
    Calls Tryz.prog 43 #[.slice A n c, .int .i64 q] w fun e w' => e = .returned (.int .i64 (kEnd P q)) ∧ Below w.heap.size w w' := by
  have HE := Lib.hid (kEnd_out (t := P) (p := q) (by omega))
  clear hn
  go_enter Tryz.func43, Tryz.ntmps43
  go_wp2_with fail
  go_ret
  exact ⟨by rw [HE.out]; rfl, Below.refl _ _⟩
section
variable (a : Addr) (n c q : Nat) (xo xn : Int) (xs xt : ByteArray) (w : World) (hm : n ≤ maxLen) (hq : q < n) (d0 : w.cell? (a.add (q * 4)) = some (.int .i64 xo)) (d1 : w.cell? ⟨(a.add (q * 4)).block, (a.add (q * 4)).off + 1, none⟩ = some (.int .i64 xn)) (d2 : w.cell? ⟨(a.add (q * 4)).block, (a.add (q * 4)).off + 2, none⟩ = some (.string xs)) (d3 : w.cell? ⟨(a.add (q * 4)).block, (a.add (q * 4)).off + 3, none⟩ = some (.string xt))
include hm hq d0 d1 d2 d3
set_option maxHeartbeats 1000000 in
/-- A head that is none. -/
theorem ke_bad (h : xt ≠ emp ∨ (xo ≠ 44 ∧ xs ≠ emp) ∨ (xo ≠ 46 ∧ xn ≠ 0) ∨ xn < 0) :
    Calls Tryz.prog 43 #[.slice (some a) n c, .int .i64 q] w fun e w' => e = .returned (.int .i64 (-1)) ∧ Below w.heap.size w w' := by
  unfold maxLen at hm
  have hl : (a.add (q * 4)).block < w.heap.size := block_lt_of_cell d0
  have HB := Lib.hid (fun o => below_box w o)
  rcases emp_or' xt with rfl | ⟨ht, t1, t2⟩
  · have h := h.resolve_left (fun e => e rfl)
    by_cases h44 : xo = 44
    · subst h44
      have h := h.resolve_left (fun e => e.1 rfl)
      by_cases hn : xn = 0
      · have h := h.resolve_left (fun e => e.2 hn)
        omega
      · have e1 : (xn == 0) = false := beq_eq_false_iff_ne.2 hn
        have e2 : (xn != 0) = true := by rw [bne_iff_ne]; exact hn
        clear h
        go_enter Tryz.func43, Tryz.ntmps43
        go_wp2_with fail
        go_ret
        exact ⟨rfl, HB.out _⟩
    · have f1 : (xo == 44) = false := beq_eq_false_iff_ne.2 h44
      have f2 : (xo != 44) = true := by rw [bne_iff_ne]; exact h44
      rcases emp_or' xs with rfl | ⟨hs, s1, s2⟩
      · have h := h.resolve_left (fun e => e.2 rfl)
        by_cases h46 : xo = 46
        · subst h46
          have h := h.resolve_left (fun e => e.1 rfl)
          have e1 : decide (xn < 0) = true := decide_eq_true h
          clear h44
          go_enter Tryz.func43, Tryz.ntmps43
          go_wp2_with fail
          go_ret
          exact ⟨rfl, HB.out _⟩
        · have g1 : (xo == 46) = false := beq_eq_false_iff_ne.2 h46
          have g2 : (xo != 46) = true := by rw [bne_iff_ne]; exact h46
          have hn : xn ≠ 0 := by rcases h with h | h <;> omega
          have e1 : (xn == 0) = false := beq_eq_false_iff_ne.2 hn
          have e2 : (xn != 0) = true := by rw [bne_iff_ne]; exact hn
          clear h hn h44 h46
          go_enter Tryz.func43, Tryz.ntmps43
          go_wp2_with fail
          go_ret
          exact ⟨rfl, HB.out _⟩
      · clear h hs h44
        go_enter Tryz.func43, Tryz.ntmps43
        go_wp2_with fail
        go_ret
        exact ⟨rfl, HB.out _⟩
  · clear h ht
    go_enter Tryz.func43, Tryz.ntmps43
    go_wp2_with fail
    go_ret
    exact ⟨rfl, HB.out _⟩
set_option maxHeartbeats 1000000 in
/-- An entity. -/
theorem ke_ent (hs : xs.size ≤ maxLen) (h1 : xo = 44) (h2 : xn = 0) (h3 : xt = emp) :
    Calls Tryz.prog 43 #[.slice (some a) n c, .int .i64 q] w fun e w' => e = .returned (.int .i64 (if nameFault xs = 0 then ((q + 1 : Nat) : Int) else -1)) ∧ Below w.heap.size w w' := by
  unfold maxLen at hm
  have hl : (a.add (q * 4)).block < w.heap.size := block_lt_of_cell d0
  have HB := Lib.hid (fun o => below_box w o)
  have V := Lib.hid (fun w => ref_NameFault xs w hs)
  have h3' : xt = ⟨#[]⟩ := h3
  subst h1 h2 h3'
  clear h3 hs
  by_cases hf : nameFault xs = 0
  · rw [hf] at V
    rw [if_pos hf]
    clear hf
    go_enter Tryz.func43, Tryz.ntmps43
    go_wp2_with fail
    refine (V.out _).mono ?_
    rintro e w1 ⟨rfl, rfl⟩
    go_wp2_with fail
    go_ret
    exact ⟨by go_num, HB.out _⟩
  · have f1 : (nameFault xs == 0) = false := beq_eq_false_iff_ne.2 hf
    have f2 : (nameFault xs != 0) = true := by rw [bne_iff_ne]; exact hf
    rw [if_neg hf]
    clear hf
    generalize nameFault xs = nf at *
    go_enter Tryz.func43, Tryz.ntmps43
    go_wp2_with fail
    refine (V.out _).mono ?_
    rintro e w1 ⟨rfl, rfl⟩
    go_wp2_with fail
    go_ret
    exact ⟨rfl, HB.out _⟩
set_option maxHeartbeats 1000000 in
/-- One of those without parts. -/
theorem ke_base (h1 : baseOp xo) (h2 : xn = 0) (h3 : xs = emp) (h4 : xt = emp) :
    Calls Tryz.prog 43 #[.slice (some a) n c, .int .i64 q] w fun e w' => e = .returned (.int .i64 ((q + 1 : Nat) : Int)) ∧ Below w.heap.size w w' := by
  unfold maxLen at hm
  have hl : (a.add (q * 4)).block < w.heap.size := block_lt_of_cell d0
  have HB := Lib.hid (fun o => below_box w o)
  have h3' : xs = ⟨#[]⟩ := h3
  have h4' : xt = ⟨#[]⟩ := h4
  subst h2 h3' h4'
  clear h3 h4
  rcases h1 with rfl | rfl | rfl | rfl | rfl
  all_goals
    go_enter Tryz.func43, Tryz.ntmps43
    go_wp2_with fail
    go_ret
    exact ⟨by go_num, HB.out _⟩
set_option maxHeartbeats 1000000 in
/-- None of those that there are. -/
theorem ke_else (h0 : ¬ baseOp xo) (h1 : xo ≠ 44) (h2 : xo ≠ 45) (h3 : xo ≠ 46) :
    Calls Tryz.prog 43 #[.slice (some a) n c, .int .i64 q] w fun e w' => e = .returned (.int .i64 (-1)) ∧ Below w.heap.size w w' := by
  by_cases hb : xt ≠ emp ∨ (xo ≠ 44 ∧ xs ≠ emp) ∨ (xo ≠ 46 ∧ xn ≠ 0) ∨ xn < 0
  · exact ke_bad a n c q xo xn xs xt w hm hq d0 d1 d2 d3 hb
  · have ht : xt = ⟨#[]⟩ := Decidable.byContradiction fun e => hb (.inl e)
    have hs : xs = ⟨#[]⟩ := Decidable.byContradiction fun e => hb (.inr (.inl ⟨h1, e⟩))
    have hn : xn = 0 := Decidable.byContradiction fun e => hb (.inr (.inr (.inl ⟨h3, e⟩)))
    clear hb
    subst ht hs hn
    unfold maxLen at hm
    have hl : (a.add (q * 4)).block < w.heap.size := block_lt_of_cell d0
    have HB := Lib.hid (fun o => below_box w o)
    have f1 : (xo == 44) = false := beq_eq_false_iff_ne.2 h1
    have f2 : (xo != 44) = true := by rw [bne_iff_ne]; exact h1
    have f3 : (xo == 45) = false := beq_eq_false_iff_ne.2 h2
    have f4 : (xo == 46) = false := beq_eq_false_iff_ne.2 h3
    have f5 : (xo != 46) = true := by rw [bne_iff_ne]; exact h3
    have f6 : (xo == 48) = false := beq_eq_false_iff_ne.2 (fun e => h0 (.inr (.inr (.inr (.inl e)))))
    have f7 : (xo == 49) = false := beq_eq_false_iff_ne.2 (fun e => h0 (.inr (.inr (.inr (.inr e)))))
    by_cases h41 : 41 ≤ xo
    · have g1 : decide (41 ≤ xo) = true := decide_eq_true h41
      have g2 : decide (xo ≤ 43) = false := decide_eq_false (fun e => h0 (by unfold baseOp; omega))
      clear h0 h1 h2 h3 h41
      go_enter Tryz.func43, Tryz.ntmps43
      go_wp2_with fail
      go_ret
      exact ⟨rfl, HB.out _⟩
    · have g1 : decide (41 ≤ xo) = false := decide_eq_false h41
      clear h0 h1 h2 h3 h41
      go_enter Tryz.func43, Tryz.ntmps43
      go_wp2_with fail
      go_ret
      exact ⟨rfl, HB.out _⟩
end
set_option maxHeartbeats 1000000 in
/-- Of sets. -/
theorem ke_set (P : List Nd) (m : Nat) (a : Addr) (n c q : Nat) (w : World) (ih : KeC P (some a) n c m) (hns : Ns w (some a) n c P) (hq : q < n) (hf : n - q ≤ m + 1) (x : Nd) (hx : P[q]? = some x) (h1 : x.op = 45) (h2 : x.n = 0) (h3 : x.s = emp) (h4 : x.t = emp) :
    Calls Tryz.prog 43 #[.slice (some a) n c, .int .i64 q] w fun e w' => e = .returned (.int .i64 (kEnd P q)) ∧ Below w.heap.size w w' := by
  have HE := Lib.hid (show kEnd P q = kEnd P (q + 1) by rw [kEnd_set hx h1, if_pos ⟨h2, h3, h4⟩])
  have hm := hns.max
  unfold maxLen at hm
  have IH := Lib.hid (fun w' hb => ih (q + 1) w' (hns.keep (w' := w') hb) (by omega))
  obtain ⟨a', ea, d0, d1, d2, d3⟩ := hns.at_ q x hx
  injection ea with ea
  subst ea
  have hl : (a.add (q * 4)).block < w.heap.size := block_lt_of_cell d0
  have HB := Lib.hid (below_box w (.cells #[.int .i64 45, .int .i64 0, .string ⟨#[]⟩, .string ⟨#[]⟩] 44))
  rw [h1] at d0
  rw [h2] at d1
  rw [show x.s = ⟨#[]⟩ from h3] at d2
  rw [show x.t = ⟨#[]⟩ from h4] at d3
  clear hns hx h1 h2 h3 h4 ih
  generalize kEnd P (q + 1) = r at *
  go_enter Tryz.func43, Tryz.ntmps43
  go_wp2_with fail
  refine (IH.out _ HB.out).mono ?_
  rintro e w1 ⟨rfl, b1⟩
  have B1 := Lib.hid (HB.out.trans (b1.mono (by simp)))
  clear b1
  go_wp2_with fail
  go_ret
  exact ⟨by rw [HE.out]; rfl, B1.out⟩
end Go.Proofs.YtmekockjgldndaaGreatDoor
namespace Go.Proofs.YtmekockjgldndaaGreatDoor
open Go.RowKit Go.Wk Go.Sort
set_option maxRecDepth 100000

set_option maxHeartbeats 2000000 in
/-- Of records. -/
theorem ke_rec (P : List Nd) (m : Nat) (a : Addr) (n c q : Nat) (w : World) (ih : KeC P (some a) n c m) (hns : Ns w (some a) n c P) (hq : q < n) (hf : n - q ≤ m + 1) (x : Nd) (hx : P[q]? = some x) (h1 : x.op = 46) (h2 : 0 ≤ x.n) (h3 : x.s = emp) (h4 : x.t = emp) :
    Calls Tryz.prog 43 #[.slice (some a) n c, .int .i64 q] w fun e w' => e = .returned (.int .i64 (kEnd P q)) ∧ Below w.heap.size w w' := by
  have HE := Lib.hid (show kEnd P q = fEnd P x.n.toNat emp (q + 1) by rw [kEnd_rec hx h1, if_pos ⟨h2, h3, h4⟩])
  have hm := hns.max
  unfold maxLen at hm
  have HNS := Lib.hid hns
  have HLN := Lib.hid hns.len
  have hxn : x.n ≤ 9223372036854775807 := (hns.ok x (List.mem_of_getElem? hx)).hi
  have IH := Lib.hid (fun p w' (hp : q < p) hb => ih p w' (hns.keep (w' := w') hb) (by omega))
  obtain ⟨a', ea, d0, d1, d2, d3⟩ := hns.at_ q x hx
  injection ea with ea
  subst ea
  have hl : (a.add (q * 4)).block < w.heap.size := block_lt_of_cell d0
  have HB := Lib.hid (below_box w (.cells #[.int .i64 46, .int .i64 x.n, .string ⟨#[]⟩, .string ⟨#[]⟩] 44))
  have HX := Lib.hid (bx4_new' w (.int .i64 46) (.int .i64 x.n) (.string ⟨#[]⟩) (.string ⟨#[]⟩) 44)
  have e1 : decide (x.n < 0) = false := decide_eq_false (by omega)
  rw [h1] at d0
  rw [show x.s = ⟨#[]⟩ from h3] at d2
  rw [show x.t = ⟨#[]⟩ from h4] at d3
  generalize kEnd P q = r at *
  clear hns h1 h3 h4 ih
  have g0 : decide (n ≤ q) = false := decide_eq_false (by omega)
  go_enter Tryz.func43, Tryz.ntmps43
  go_wp2_with fail
  go_loopw [1, 6, 7] (fun u l i wr => ∃ (k p : Nat) (last : ByteArray), u = .int .i64 p ∧ l = .string last ∧ i = .int .i64 k ∧ k ≤ x.n.toNat ∧ q < p ∧ p ≤ n ∧ Hid (last.size ≤ maxLen) ∧ Hid (fEnd P x.n.toNat emp (q + 1) = fEnd P (x.n.toNat - k) last p) ∧ Hid (Below w.heap.size w wr) ∧ Hid (wr.cell? ⟨w.heap.size, 1, none⟩ = some (.int .i64 x.n))) (fun _ _ i _ => x.n.toNat - (intOf i).toNat)
  case atStart => exact ⟨0, q + 1, ⟨#[]⟩, by go_num, rfl, rfl, Nat.zero_le _, Nat.lt_succ_self _, hq, Lib.hid (Nat.zero_le _), Lib.hid rfl, HB, HX⟩
  case round =>
    obtain ⟨k, p, last, rfl, rfl, rfl, hk, hqp, hpn, hLS, hFE, hW, hX⟩ := hrel
    have x1 := hX.out
    have hw1 : w.heap.size < wr.heap.size := block_lt_of_cell x1
    by_cases hlt : k < x.n.toNat
    · have g1 : decide ((k : Int) < x.n) = true := decide_eq_true (by omega)
      have HFE := Lib.hid (show fEnd P x.n.toNat emp (q + 1) = fEnd P (x.n.toNat - k - 1 + 1) last p by rw [hFE.out]; congr 1; omega)
      by_cases hpn2 : p < n
      · have hpl : p < P.length := by rw [← HLN.out]; exact hpn2
        obtain ⟨a', ea, e0, e1, e2, e3⟩ := (HNS.out.keep hW.out).at_ p _ (List.getElem?_eq_getElem hpl)
        injection ea with ea
        subst ea
        have HYS := Lib.hid (HNS.out.ok _ (List.getElem_mem hpl)).s
        have HY0 := List.getElem?_eq_getElem hpl
        obtain ⟨y, hy⟩ : ∃ y, y = P[p] := ⟨_, rfl⟩
        rw [← hy] at e0 e1 e2 e3 HYS HY0
        have HY := Lib.hid HY0
        clear hy HY0
        have hla : (a.add (p * 4)).block < wr.heap.size := block_lt_of_cell e0
        have HBAD := Lib.hid (show ¬ kfOk last y → r = -1 from fun h => by rw [HE.out, HFE.out, fEnd_succ HY.out, if_neg h])
        have HGOOD := Lib.hid (show kfOk last y → r = if 0 ≤ kEnd P (p + 1) then fEnd P (x.n.toNat - k - 1) y.s (kEnd P (p + 1)).toNat else -1 from fun h => by rw [HE.out, HFE.out, fEnd_succ HY.out, if_pos h])
        have V1 := Lib.hid (fun w => ref_NameFault y.s w HYS.out)
        have V2 := Lib.hid (fun w => ref_Texts last y.s w hLS.out HYS.out)
        obtain ⟨yo, yn, ys, yt⟩ := y
        simp only at e0 e1 e2 e3 V1 V2
        by_cases h47 : yo = 47
        · subst h47
          by_cases hn0 : yn < 0
          · have HBV := Lib.hid (HBAD.out fun h => by rcases h.2.1 with h | h <;> (simp only at h; omega))
            have f1 : decide (yn < 0) = true := decide_eq_true hn0
            clear hn0
            go_wp2_with fail
            go_ret
            exact ⟨by rw [HBV.out]; rfl, hW.out⟩
          · have f1 : decide (yn < 0) = false := decide_eq_false hn0
            by_cases hn1 : 1 < yn
            · have HBV := Lib.hid (HBAD.out fun h => by rcases h.2.1 with h | h <;> (simp only at h; omega))
              have f2 : decide (1 < yn) = true := decide_eq_true hn1
              clear hn0 hn1
              go_wp2_with fail
              go_ret
              exact ⟨by rw [HBV.out]; rfl, hW.out⟩
            · have f2 : decide (1 < yn) = false := decide_eq_false hn1
              have HN01 := Lib.hid (show yn = 0 ∨ yn = 1 by omega)
              rcases emp_or' yt with rfl | ⟨ht, t1, t2⟩
              · by_cases hf0 : nameFault ys = 0
                · have HF0 := Lib.hid hf0
                  rw [hf0] at V1
                  by_cases hc : 0 ≤ cmpB last ys
                  · have HBV := Lib.hid (HBAD.out fun h => by have := h.2.2.2.2; simp only at this; omega)
                    have f3 : decide (0 ≤ cmpB last ys) = true := decide_eq_true hc
                    clear hn0 hn1 hf0 hc
                    generalize cmpB last ys = cc at *
                    go_wp2_with fail
                    refine (V1.out _).mono ?_
                    rintro e w1 ⟨rfl, rfl⟩
                    go_wp2_with fail
                    refine (V2.out _).mono ?_
                    rintro e w2 ⟨rfl, b2⟩
                    have B2 := Lib.hid (hW.out.trans (b2.mono hW.out.size))
                    have hw2 : w.heap.size < w2.heap.size := Nat.lt_of_lt_of_le hw1 b2.size
                    have X2 := Lib.hid (cell_keep b2 x1)
                    have E2 := Lib.hid (cell_keep b2 e2)
                    clear b2 e0 e1 e2 e3 x1
                    go_wp2_with fail
                    go_ret
                    exact ⟨by rw [HBV.out]; rfl, B2.out⟩
                  · have HGV := Lib.hid (HGOOD.out ⟨rfl, HN01.out, rfl, HF0.out, by simp only; omega⟩)
                    have f3 : decide (0 ≤ cmpB last ys) = false := decide_eq_false hc
                    clear hn0 hn1 hf0 hc HBAD HGOOD
                    generalize cmpB last ys = cc at *
                    go_wp2_with fail
                    refine (V1.out _).mono ?_
                    rintro e w1 ⟨rfl, rfl⟩
                    go_wp2_with fail
                    refine (V2.out _).mono ?_
                    rintro e w2 ⟨rfl, b2⟩
                    have B2 := Lib.hid (hW.out.trans (b2.mono hW.out.size))
                    have hw2 : w.heap.size < w2.heap.size := Nat.lt_of_lt_of_le hw1 b2.size
                    have X2 := Lib.hid (cell_keep b2 x1)
                    have E2 := Lib.hid (cell_keep b2 e2)
                    have hla2 : (a.add (p * 4)).block < w2.heap.size := Nat.lt_of_lt_of_le hla b2.size
                    clear b2 e0 e1 e2 e3 x1
                    have e2' := E2.out
                    go_wp2_with fail
                    refine (IH.out (p + 1) w2 (by omega) B2.out).mono ?_
                    rintro e w3 ⟨rfl, b3⟩
                    have B3 := Lib.hid (B2.out.trans (b3.mono B2.out.size))
                    have X3 := Lib.hid (cell_keep b3 X2.out)
                    clear b3 e2'
                    by_cases hk0 : 0 ≤ kEnd P (p + 1)
                    · obtain ⟨e', he, hep, hel⟩ := kEnd_lt hk0
                      have HF2 := Lib.hid (show fEnd P x.n.toNat emp (q + 1) = fEnd P (x.n.toNat - (k + 1)) ys e' by
                        have h1 := HGV.out
                        rw [if_pos hk0, he, HE.out] at h1
                        simp only [Int.toNat_natCast] at h1
                        rw [h1, show x.n.toNat - (k + 1) = x.n.toNat - k - 1 by omega])
                      have hen : e' ≤ n := by rw [HLN.out]; exact hel
                      rw [he]
                      clear hk0 he hel
                      go_wp2_with fail
                      go_roundw
                      case rel => exact ⟨k + 1, e', ys, rfl, rfl, by go_num, hlt, by omega, hen, HYS, HF2, B3, X3⟩
                      case measure => simp [intOf]; omega
                    · have HBV := Lib.hid (show r = -1 by rw [HGV.out, if_neg hk0])
                      rw [kEnd_neg hk0]
                      clear hk0
                      go_wp2_with fail
                      go_ret
                      exact ⟨by rw [HBV.out]; rfl, B3.out⟩
                · have HBV := Lib.hid (HBAD.out fun h => hf0 h.2.2.2.1)
                  have f3 : (nameFault ys == 0) = false := beq_eq_false_iff_ne.2 hf0
                  have f4 : (nameFault ys != 0) = true := by rw [bne_iff_ne]; exact hf0
                  clear hn0 hn1 hf0 HBAD HGOOD
                  generalize nameFault ys = nf at *
                  go_wp2_with fail
                  refine (V1.out _).mono ?_
                  rintro e w1 ⟨rfl, rfl⟩
                  go_wp2_with fail
                  go_ret
                  exact ⟨by rw [HBV.out]; rfl, hW.out⟩
              · have HBV := Lib.hid (HBAD.out fun h => ht h.2.2.1)
                clear hn0 hn1 ht
                go_wp2_with fail
                go_ret
                exact ⟨by rw [HBV.out]; rfl, hW.out⟩
        · have HBV := Lib.hid (HBAD.out fun h => h47 h.1)
          have f1 : (yo == 47) = false := beq_eq_false_iff_ne.2 h47
          have f2 : (yo != 47) = true := by rw [bne_iff_ne]; exact h47
          clear h47
          go_wp2_with fail
          go_ret
          exact ⟨by rw [HBV.out]; rfl, hW.out⟩
      · have HBV := Lib.hid (show r = -1 by
          rw [HE.out, HFE.out]
          exact fEnd_out (by rw [← HLN.out]; omega))
        have f1 : decide ((n : Int) ≤ (p : Int)) = true := decide_eq_true (by omega)
        go_wp2_with fail
        go_ret
        exact ⟨by rw [HBV.out]; rfl, hW.out⟩
    · have g1 : decide ((k : Int) < x.n) = false := decide_eq_false (by omega)
      have HFE := Lib.hid (show r = (p : Int) by
        rw [HE.out, hFE.out, show x.n.toNat - k = 0 by omega]
        exact fEnd_zero (by rw [← HLN.out]; exact hpn))
      go_wp2_with fail
      go_ret
      exact ⟨by rw [HFE.out]; rfl, hW.out⟩
end Go.Proofs.YtmekockjgldndaaGreatDoor
namespace Go.Proofs.YtmekockjgldndaaGreatDoor
open Go.RowKit Go.Wk Go.Sort

/-- A contract that ends in Below, in every world of a region that draws. -/
theorem rq {P : Program} {f : FuncId} {args : Array Value} {w : World} {v : Value} (h : ∀ w', Below w.heap.size w w' → Calls P f args w' fun e w'' => e = .returned v ∧ Below w'.heap.size w' w'') :
    ∀ d os, Calls P f args (grow (redrawn w d) os) fun e w'' => e = .returned v ∧ ∃ p : Regrown, w'' = grow (redrawn w p.d) p.os :=
  fun d os => Calls.regrown_of (h _ (below_regrown w d os))
/-- One that leaves all as it was. -/
theorem rqs {P : Program} {f : FuncId} {args : Array Value} {w : World} {v : Value} (h : ∀ w', Calls P f args w' fun e w'' => e = .returned v ∧ w' = w'') :
    ∀ d os, Calls P f args (grow (redrawn w d) os) fun e w'' => e = .returned v ∧ ∃ p : Regrown, w'' = grow (redrawn w p.d) p.os :=
  fun d os => (h _).mono fun _ _ ⟨he, hw⟩ => ⟨he, ⟨⟨d, os⟩, hw.symm⟩⟩

/-- A node's cells. -/
structure Nd4 (w : World) (a : Addr) (x : Nd) : Prop where
  c0 : w.cell? a = some (.int .i64 x.op)
  c1 : w.cell? ⟨a.block, a.off + 1, none⟩ = some (.int .i64 x.n)
  c2 : w.cell? ⟨a.block, a.off + 2, none⟩ = some (.string x.s)
  c3 : w.cell? ⟨a.block, a.off + 3, none⟩ = some (.string x.t)
theorem Nd4.keep {w w' : World} {a : Addr} {x : Nd} (h : Nd4 w a x) (hb : Below w.heap.size w w') : Nd4 w' a x :=
  ⟨cell_keep hb h.c0, cell_keep hb h.c1, cell_keep hb h.c2, cell_keep hb h.c3⟩
theorem NdsAt.nd {w : World} {A : Option Addr} {P : List Nd} (h : NdsAt w A P) {k : Nat} (hk : k < P.length) : ∃ a, A = some a ∧ Nd4 w (a.add (k * 4)) P[k] :=
  let ⟨a, e, h1, h2, h3, h4⟩ := h k P[k] (List.getElem?_eq_getElem hk); ⟨a, e, h1, h2, h3, h4⟩
theorem NdsOk.seg {P : List Nd} (h : NdsOk P) (i j : Nat) : NdsOk (seg P i j) := fun x hx => h x (List.mem_of_mem_drop (List.mem_of_mem_take hx))
end Go.Proofs.YtmekockjgldndaaGreatDoor
namespace Go.Proofs.YtmekockjgldndaaGreatDoor
open Go.RowKit Go.Wk Go.Sort
set_option maxRecDepth 100000

/-- A slice of nodes, as it lies in another slice. -/
structure Sl where
  A : Option Addr
  n : Nat
  c : Nat
  P : List Nd
def Sl.v (r : Sl) : Value := .slice r.A r.n r.c
/-- A slice that holds slices of nodes. -/
def SlsAt (w : World) (A : Option Addr) (V : List Sl) : Prop :=
  ∀ (k : Nat) (r : Sl), V[k]? = some r → ∃ a, A = some a ∧ w.cell? (a.add k) = some (.slice r.A r.n r.c) ∧ Ns w r.A r.n r.c r.P
theorem SlsAt.keep {w w' : World} {A : Option Addr} {V : List Sl} (h : SlsAt w A V) (hb : Below w.heap.size w w') : SlsAt w' A V :=
  fun k r hk => let ⟨a, h1, h2, h3⟩ := h k r hk; ⟨a, h1, cell_keep hb h2, h3.keep hb⟩
theorem SlsAt.at {w : World} {A : Option Addr} {V : List Sl} (h : SlsAt w A V) {k : Nat} (hk : k < V.length) : ∃ a, A = some a ∧ w.cell? (a.add k) = some (.slice V[k].A V[k].n V[k].c) ∧ Ns w V[k].A V[k].n V[k].c V[k].P :=
  h k V[k] (List.getElem?_eq_getElem hk)

theorem Ns.but {w w' : World} {A : Option Addr} {n c : Nat} {P : List Nd} {R : Nat} (h : Ns w A n c P) (hg : w.grownBy w' (some R)) (hR : 0 < P.length → ∀ a, A = some a → a.block ≠ R) : Ns w' A n c P := by
  refine ⟨h.len, h.cap, h.max, ?_, h.ok⟩
  rcases Nat.eq_zero_or_pos P.length with h0 | h0
  · intro k x hx
    have : P = [] := List.eq_nil_of_length_eq_zero h0
    subst this; simp at hx
  · exact h.at_.but hg (hR h0)
/-- A slice of nodes lies apart from a block. -/
def Apart (r : Sl) (g : Option Nat) : Prop := 0 < r.P.length → ∀ a, r.A = some a → g ≠ some a.block
theorem Ns.row {w w' : World} {r : Sl} {g : Option Nat} (h : Ns w r.A r.n r.c r.P) (hg : w.grownBy w' g) (ha : Apart r g) : Ns w' r.A r.n r.c r.P := by
  rcases g with _ | g
  · exact h.keep (grown_none hg)
  · exact h.but hg (fun h0 a e q => ha h0 a e (by rw [q]))

/-- The slices that the call has collected. -/
structure OwnSls (w : World) (B : Nat) (v : Value) (V : List Sl) : Prop where
  own : w.ownsRow B 22 1 v V.length (V.map Sl.v)
  each : ∀ r ∈ V, Ns w r.A r.n r.c r.P
  apart : ∀ r ∈ V, Apart r v.ownBlock
theorem OwnSls.nil (w : World) (B : Nat) : OwnSls w B (.slice none 0 0) [] := ⟨World.ownsRow_nil w B _ 1, (by intro r hr; cases hr), (by intro r hr; cases hr)⟩
theorem OwnSls.keep {w w' : World} {B : Nat} {v : Value} {V : List Sl} (h : OwnSls w B v V) (hb : Below w.heap.size w w') : OwnSls w' B v V :=
  ⟨h.own.kept (grown_of_below hb none) (by cases hv : v.ownBlock <;> simp), fun r hr => (h.each r hr).keep hb, h.apart⟩
/-- Another row is written. -/
theorem OwnSls.row {w w' : World} {B : Nat} {v : Value} {V : List Sl} {g : Option Nat} (h : OwnSls w B v V) (hg : w.grownBy w' g) (hne : v.ownBlock = none ∨ v.ownBlock ≠ g) (ha : ∀ r ∈ V, Apart r g) : OwnSls w' B v V :=
  ⟨h.own.kept hg hne, fun r hr => (h.each r hr).row hg (ha r hr), h.apart⟩
/-- One more. -/
theorem OwnSls.snoc {w w' : World} {B : Nat} {v v' : Value} {V : List Sl} {r : Sl} {o : Obj} (h : OwnSls w B v V) (hr : Ns w r.A r.n r.c r.P) (ha : Apart r v.ownBlock)
    (hown : w'.ownsRow B 22 1 v' (V.length + 1) (V.map Sl.v ++ [r.v])) (hg : (w.alloc o).grownBy w' v.ownBlock) (hat : v'.ownBlock = v.ownBlock ∨ v'.ownBlock = some (w.alloc o).heap.size) : OwnSls w' B v' (V ++ [r]) := by
  have hba : Below w.heap.size w (w.alloc o) := below_box w o
  have hlt : ∀ x ∈ V ++ [r], Ns w x.A x.n x.c x.P ∧ Apart x v.ownBlock := by
    intro x hx
    rcases List.mem_append.1 hx with h1 | h1
    · exact ⟨h.each x h1, h.apart x h1⟩
    · simp only [List.mem_cons, List.not_mem_nil, or_false] at h1
      subst h1; exact ⟨hr, ha⟩
  refine ⟨?_, fun x hx => ((hlt x hx).1.keep hba).row hg (hlt x hx).2, fun x hx h0 a e => ?_⟩
  · simpa using hown
  · rcases hat with e' | e'
    · rw [e']; exact (hlt x hx).2 h0 a e
    · rw [e']
      have := (hlt x hx).1.at_.lt h0 a e
      intro q
      injection q with q
      simp at q
      omega
/-- Collected slices are a slice that holds them. -/
theorem OwnSls.at {w : World} {B : Nat} {v : Value} {V : List Sl} (h : OwnSls w B v V) : ∃ A c, v = .slice A V.length c ∧ V.length ≤ c ∧ SlsAt w A V := by
  rcases h.own.2 with ⟨rfl, h0⟩ | ⟨g, cap, cur, rfl, _, _, hc, _⟩
  · have : V = [] := List.eq_nil_of_length_eq_zero h0
    subst this
    exact ⟨none, 0, rfl, Nat.le_refl _, fun k r hk => by simp at hk⟩
  · refine ⟨some ⟨g, 0, none⟩, cap, rfl, hc, fun k r hk => ⟨_, rfl, ?_, h.each r (List.mem_of_getElem? hk)⟩⟩
    exact h.own.cells (g := g) rfl k _ (by rw [List.getElem?_map, hk]; rfl)
theorem slInfo : (Tryz.prog.info? 22).map (fun i => (i.zero, i.size, i.bytes)) = some (some (.slice none 0 0), 1, 24) := by kernel_rfl

/-- The cells of nodes, out of where they lie. -/
theorem NdsAt.cells {w : World} {a : Addr} {P : List Nd} (h : NdsAt w (some a) P) : ∀ j u, (ndCells P)[j]? = some u → w.cell? (a.add j) = some u := by
  intro j u hu
  have hl := ndCells_length P
  have hj : j < (ndCells P).length := (List.getElem?_eq_some_iff.1 hu).1
  have hk : j / 4 < P.length := by omega
  obtain ⟨h1, h2, h3, h4⟩ := ndCells_at P (j / 4) P[j / 4] (List.getElem?_eq_getElem hk)
  obtain ⟨b, e, q1, q2, q3, q4⟩ := h (j / 4) P[j / 4] (List.getElem?_eq_getElem hk)
  injection e with e
  subst e
  have hr : j % 4 = 0 ∨ j % 4 = 1 ∨ j % 4 = 2 ∨ j % 4 = 3 := by omega
  have nx : ∀ (x d : Nat), 0 < d → (⟨(a.add x).block, (a.add x).off + d, none⟩ : Addr) = a.add (x + d) := by
    intro x d hd
    unfold Addr.add
    by_cases hx : x = 0
    · subst hx; simp; omega
    · simp [hx, Nat.add_assoc]
  rcases hr with hr | hr | hr | hr
  · have e : j = j / 4 * 4 := by omega
    rw [← e] at h1 q1
    rw [hu] at h1; rw [h1]; exact q1
  · have e : j = j / 4 * 4 + 1 := by omega
    rw [nx _ _ (by omega), ← e] at q2
    rw [← e] at h2
    rw [hu] at h2; rw [h2]; exact q2
  · have e : j = j / 4 * 4 + 2 := by omega
    rw [nx _ _ (by omega), ← e] at q3
    rw [← e] at h3
    rw [hu] at h3; rw [h3]; exact q3
  · have e : j = j / 4 * 4 + 3 := by omega
    rw [nx _ _ (by omega), ← e] at q4
    rw [← e] at h4
    rw [hu] at h4; rw [h4]; exact q4
theorem ndCells_one (P : List Nd) : ∀ u ∈ ndCells P, u.oneCell' = true := by
  induction P with
  | nil => intro u hu; cases hu
  | cons x P ih =>
    intro u hu
    simp only [ndCells, List.mem_cons] at hu
    rcases hu with rfl | rfl | rfl | rfl | hu
    · rfl
    · rfl
    · rfl
    · rfl
    · exact ih u hu
theorem ndInfo : (Tryz.prog.info? 44).map (fun i => (i.zero, i.size, i.bytes)) = some (some (.agg #[.int .i64 0, .int .i64 0, .string ⟨#[]⟩, .string ⟨#[]⟩]), 4, 48) := by kernel_rfl
theorem nds_of_own {w : World} {B : Nat} {v : Value} {P : List Nd} (h : w.ownsRow B 44 4 v P.length (ndCells P)) : ∃ A c, v = .slice A P.length c ∧ P.length ≤ c ∧ NdsAt w A P ∧ (∀ a, A = some a → B ≤ a.block) := by
  rcases h.2 with ⟨rfl, h0⟩ | ⟨g, cap, cur, rfl, hB, _, hc, _⟩
  · have : P = [] := List.eq_nil_of_length_eq_zero h0
    subst this
    exact ⟨none, 0, rfl, Nat.le_refl _, fun k x hx => by simp at hx, fun a e => by cases e⟩
  · exact ⟨some ⟨g, 0, none⟩, cap, rfl, hc, nds_of_cells (h.cells (g := g) rfl), fun a e => by injection e with e; subst e; exact hB⟩

/-- A slice of nodes of the call's own: in new blocks. -/
def NewNs (w : World) (P : List Nd) (e : Ending) (w' : World) : Prop := ∃ (A : Option Addr) (c : Nat), e = .returned (.slice A P.length c) ∧ Ns w' A P.length c P ∧ (∀ a, A = some a → w.heap.size ≤ a.block) ∧ Below w.heap.size w w'
set_option maxHeartbeats 1000000 in
theorem clone_nodes (a : Addr) (n c : Nat) (P : List Nd) (w : World) (h : Ns w (some a) n c P) (hl : P.length ≤ 100000) :
    Calls Tryz.prog 220 #[.slice (some a) n c] w (NewNs w P) := by
  obtain ⟨i0, hi, hz0, hz1, hz2⟩ := info_parts ndInfo
  have hn := h.len
  have HC := Lib.hid (fun w' hb => (h.at_.keep (w' := w') hb).cells)
  have HO := Lib.hid h.ok
  have HL := Lib.hid hl
  clear h hl
  subst hn
  have hnil := fun w : World => Lib.run_eql_slice_nil (P := Tryz.prog) w 22 44 (some a) P.length c 0 0 Tryz.underlying22
  simp only [Option.isNone_some] at hnil
  go_enter Tryz.func220, Tryz.ntmps220
  have hB : ∀ W : World, (W.alloc (.cells #[] 44)).ownsRow W.heap.size 44 4 (.slice (some ⟨W.heap.size, 0, none⟩) 0 0) 0 [] := fun W =>
    ⟨rfl, .inr ⟨_, 0, #[], rfl, Nat.le_refl _, heap_alloc_new W _, Nat.le_refl _, by unfold maxLen; omega, rfl, rfl⟩⟩
  go_wp2_with (at_builtin; refine wpList_append_own _ rfl _ _ 22 rfl w.heap.size 44 i0 _ 4 48 Tryz.underlying22 hi hz0 hz1 hz2 rfl (by decide) _ 0 [] rfl (hB w) a P.length c (ndCells P) rfl (ndCells_length P) (HC.out _ (below_box _ _)) (ndCells_one P) ?c1 ?c2 ?c3 ?_)
  case c1 => have := HL.out; unfold maxLen; omega
  case c2 => have := HL.out; omega
  case c3 => simp
  intro v1 w1 hown hgrow _
  have HW := Lib.hid hown
  have HG := Lib.hid hgrow
  clear hown hgrow hnil
  go_wp2_with fail
  go_ret
  obtain ⟨A, c', rfl, h1, h2, h3⟩ := nds_of_own HW.out
  refine ⟨A, c', rfl, ⟨rfl, h1, by have := HL.out; unfold maxLen; omega, h2, HO.out⟩, h3, ?_⟩
  exact (below_box w _).grown HG.out (by simp) (fun k hk => by simp [Value.ownBlock] at hk; omega)
end Go.Proofs.YtmekockjgldndaaGreatDoor
namespace Go.Proofs.YtmekockjgldndaaGreatDoor
open Go.RowKit Go.Wk Go.Sort
set_option maxRecDepth 100000

/-- What split tells. -/
def SplitPost (w : World) (L : List (List Nd)) (N : List ByteArray) (e : Ending) (w' : World) : Prop :=
  ∃ (v v' : Value) (V : List Sl), e = .returned (.tuple #[v, v']) ∧ OwnSls w' w.heap.size v V ∧ V.map Sl.P = L ∧ w'.ownsRow w.heap.size 9 1 v' N.length (N.map Value.string) ∧ (∀ r ∈ V, ∀ a, r.A = some a → w.heap.size < a.block) ∧ Below w.heap.size w w'
theorem own_mono {w : World} {B B' n : Nat} {e : TypeId} {size : Nat} {v : Value} {xs : List Value} (h : w.ownsRow B e size v n xs) (hB : B' ≤ B) : w.ownsRow B' e size v n xs := by
  refine ⟨h.1, ?_⟩
  rcases h.2 with h2 | ⟨g, cap, cur, hv, hg, r⟩
  · exact .inl h2
  · exact .inr ⟨g, cap, cur, hv, Nat.le_trans hB hg, r⟩
theorem OwnSls.mono {w : World} {B B' : Nat} {v : Value} {V : List Sl} (h : OwnSls w B v V) (hB : B' ≤ B) : OwnSls w B' v V := ⟨own_mono h.own hB, h.each, h.apart⟩
theorem RdAt.row {w w' : World} {R p : Nat} {v : Value} {g : Option Nat} (h : RdAt w R v p) (hg : w.grownBy w' g) (hne : some R ≠ g) : RdAt w' R v p :=
  ⟨hg.cell h.c0 hne, hg.cell h.c1 hne, (World.frozen?_of_block (w := w) (hg.block R h.lt hne)).trans h.f1⟩
/-- The slices lie behind a block. -/
def Later (R : Nat) (V : List Sl) : Prop := ∀ r ∈ V, ∀ a, r.A = some a → R < a.block
theorem Later.apart {R : Nat} {V : List Sl} (h : Later R V) : ∀ r ∈ V, Apart r (some R) := fun r hr _ a e q => by
  have := h r hr a e
  injection q with q
  omega
theorem Later.snoc {R : Nat} {V : List Sl} {r : Sl} (h : Later R V) (hr : ∀ a, r.A = some a → R < a.block) : Later R (V ++ [r]) := by
  intro x hx
  rcases List.mem_append.1 hx with h1 | h1
  · exact h x h1
  · simp only [List.mem_cons, List.not_mem_nil, or_false] at h1
    subst h1; exact hr
theorem own_ne {w : World} {B n : Nat} {e : TypeId} {size : Nat} {v : Value} {xs : List Value} (h : w.ownsRow B e size v n xs) {R : Nat} (hR : R < B) : v.ownBlock = none ∨ v.ownBlock ≠ some R := by
  rcases hv : v.ownBlock with _ | g
  · exact .inl rfl
  · have := own_base h g hv
    exact .inr (fun q => by injection q with q; omega)
theorem own_ne' {w : World} {B n : Nat} {e : TypeId} {size : Nat} {v : Value} {xs : List Value} (h : w.ownsRow B e size v n xs) {R : Nat} (hR : R < B) : some R ≠ v.ownBlock := by
  rcases own_ne h hR with h | h
  · rw [h]; simp
  · exact fun q => h q.symm
theorem ns_seg {w : World} {a : Addr} {n c : Nat} {P : List Nd} (h : Ns w (some a) n c P) {i j : Nat} (h1 : i ≤ j) (h2 : j ≤ n) : Ns w (some (a.add (i * 4))) (j - i) (c - i) (seg P i j) := by
  have := h.len
  have := h.cap
  have := h.max
  exact ⟨(seg_length (by omega)).symm, by omega, by omega, h.at_.seg i j, h.ok.seg i j⟩
theorem setLoop_inv {v : List Nd} {f : Nat → Option Nat} {N k : Nat} {q n : Nat} (hk : k < N) (h : ∃ lo, setLoop v f (N - k) lo q = some n) :
    ∃ e, f q = some e ∧ (∃ lo, setLoop v f (N - (k + 1)) lo e = some n) ∧ splitS v f (N - k) q = seg v q e :: splitS v f (N - (k + 1)) e := by
  obtain ⟨lo, h⟩ := h
  obtain ⟨j, hj⟩ : ∃ j, N - k = j + 1 := ⟨N - k - 1, by omega⟩
  rw [hj] at h
  rw [hj, show N - (k + 1) = j by omega]
  simp only [setLoop] at h
  rcases hf : f q with _ | e
  · rw [hf] at h; cases h
  · rw [hf] at h
    simp only at h
    split at h
    · exact ⟨e, rfl, ⟨_, h⟩, by simp only [splitS, hf]⟩
    · cases h

set_option maxHeartbeats 8000000 in
theorem split_set (A : Option Addr) (n c : Nat) (P : List Nd) (w : World) (h : Ns w A n c P) (hv : valFault P = 0) (h5 : headOp P = 5) :
    Calls Tryz.prog 171 #[.slice A n c] w (SplitPost w (setParts P) []) := by
  obtain ⟨i0, hi, hz0, hz1, hz2⟩ := info_parts slInfo
  obtain ⟨h200, hV⟩ := isV_zero.1 hv
  have hpos := hV.pos
  obtain ⟨a, rfl, D⟩ := h.at_.nd hpos
  have hn := h.len
  obtain ⟨hs0, _, hop, hx0, hN⟩ := set_loop hV h5
  have hE : setParts P = splitS P (partEnd P (P.length + 1)) P[0].n.toNat 1 := by unfold setParts; rw [hN]
  rw [hN] at hs0
  obtain ⟨-, -, -, hhi⟩ := h.ok.at hpos
  have K := Lib.hid (fun q w' (hb : Below w.heap.size w w') rd hq => val_part (some a) P n c w.heap.size hn h.cap h.max h.ok (fun h0 a' e => by have := h.at_.lt h0 a' e; omega) (P.length + 1) q w' rd (h.at_.keep hb) (by omega : n - q < P.length + 1))
  have HN := Lib.hid h
  have HL := Lib.hid hn
  have H0 := Lib.hid hs0
  have HE := Lib.hid hE
  rw [show a.add (0 * 4) = a from rfl] at D
  obtain ⟨d0, d1, d2, d3⟩ := D
  have r0 : RdAt (w.alloc (.cells #[.slice (some a) n c, .int .i64 1] 149)) w.heap.size (.slice (some a) n c) 1 := ⟨by simp, by simp, by simp⟩
  rw [hop] at d0
  have d1' := fun o : Obj => cell_keep (below_box w o) d1
  generalize P[0] = x at *
  have hn200 : n ≤ 200 := by omega
  have hn1 : 0 < n := by omega
  clear h hv h5 hV hn hs0 hE hN h200 hop
  go_enter Tryz.func171, Tryz.ntmps171
  go_wp2_with fail
  clear d1'
  go_loopw [2, 3, 12] (fun v v' i wr => ∃ (k q : Nat) (V : List Sl), i = .int .i64 k ∧ v' = .slice none 0 0 ∧ (k : Int) ≤ x.n ∧ q ≤ n ∧ k + 1 ≤ q ∧ V.length = k ∧ Hid (setParts P = V.map Sl.P ++ splitS P (partEnd P (P.length + 1)) (x.n.toNat - k) q) ∧
      Hid (∃ lo, setLoop P (partEnd P (P.length + 1)) (x.n.toNat - k) lo q = some P.length) ∧ Hid (OwnSls wr (w.heap.size + 1) v V) ∧ Hid (Later w.heap.size V) ∧ Hid (RdAt wr w.heap.size (.slice (some a) n c) q) ∧ Hid (Below w.heap.size w wr)) (fun _ _ i _ => (x.n - intOf i).toNat)
  case atStart => exact ⟨0, 1, [], rfl, rfl, hx0, hn1, by omega, rfl, HE.out, ⟨none, H0.out⟩, OwnSls.nil _ _, (by intro r hr; cases hr), r0, below_box _ _⟩
  case round =>
    obtain ⟨k, q, V, rfl, rfl, hk, hq, hkq, hVl, hE, hS, hO, hLt, hrd, hB⟩ := hrel
    have e0 := cell_keep hB.out d0
    by_cases hlt : (k : Int) < x.n
    · obtain ⟨e, hf, hS', hsp⟩ := setLoop_inv (by omega) hS.out
      have hle := partEnd_le _ _ _ hf
      rw [← HL.out] at hle
      have C := Lib.hid (K.out q wr hB.out hrd.out (by rw [← HL.out]; omega))
      rw [hf] at C
      have HE2 := Lib.hid (hE.out.trans (by rw [hsp] : _ = V.map Sl.P ++ (seg P q e :: splitS P (partEnd P (P.length + 1)) (x.n.toNat - (k + 1)) e)))
      have HS2 := Lib.hid hS'
      clear hE hS hS' hsp hf
      go_wp2_with fail
      refine C.out.mono ?_
      rintro e' w2 hpost
      obtain ⟨rfl, r2, g2⟩ := hpost
      have B2 := Lib.hid (hB.out.trans (below_of_grown g2 (Nat.le_refl _) hB.out.size))
      have O2 := hO.out.row g2 (own_ne hO.out.own (by omega)) hLt.out.apart
      have CL := Lib.hid (clone_nodes (a.add (q * 4)) (e - q) (c - q) (seg P q e) w2 (ns_seg (HN.out.keep B2.out) (by omega) hle.2) (by rw [seg_length (by rw [← HL.out]; omega)]; omega))
      have R2 := Lib.hid r2
      have OO2 := Lib.hid O2
      have hsz2 := B2.out.size
      have hsz3 : w.heap.size < w2.heap.size := R2.out.lt
      clear O2 r2 g2 hO hB hrd
      go_wp2_with fail
      refine CL.out.mono ?_
      rintro e' w3 hpost
      obtain ⟨A3, c3, rfl, n3, l3, b3⟩ := hpost
      have B3 := bh B2 b3
      have hO3 := OO2.out.keep b3
      have hR3 := R2.out.keep b3
      have O3 := Lib.hid hO3
      have R3 := Lib.hid hR3
      have N3 := Lib.hid (show Ns w3 (⟨A3, (seg P q e).length, c3, seg P q e⟩ : Sl).A _ _ _ from n3)
      have L3 := Lib.hid (hLt.out.snoc (r := ⟨A3, (seg P q e).length, c3, seg P q e⟩) (fun a' h' => by have := l3 a' h'; omega))
      have A3p : Hid (Apart ⟨A3, (seg P q e).length, c3, seg P q e⟩ u2.ownBlock) := by
        intro h0 a' e' q'
        have h1 := own_lt OO2.out.own a'.block q'
        have h2 := l3 a' e'
        omega
      have hsz4 := B3.out.size
      have hsz5 := b3.size
      clear b3 n3 l3 hO3 hR3 OO2 R2 B2 hLt
      go_wp2_with (at_builtin; refine wpList_append_own_at _ rfl _ _ 89 rfl (w.heap.size + 1) 22 i0 _ 1 24 Tryz.underlying89 hi hz0 hz1 hz2 rfl (by decide) _ V.length (V.map Sl.v) rfl (O3.out.own.alloc _) ⟨_, 0, none⟩ 1 1 [.slice A3 (seg P q e).length c3] rfl rfl (cell_one_new _ _ _) (by intro u hu; simp only [List.mem_cons, List.not_mem_nil, or_false] at hu; subst hu; rfl) ?c1 ?c2 ?c3 ?_)
      case c1 => unfold maxLen; omega
      case c2 => omega
      case c3 => simp; omega
      intro v1 w4 hown hgrow _ hat
      have B4 := Lib.hid ((B3.out.alloc B3.out.size _).grown hgrow (by simp; omega) (fun g hg => by have := own_base O3.out.own g hg; omega))
      have R4 := Lib.hid ((R3.out.keep (below_box w3 _)).row hgrow (own_ne' O3.out.own (by omega)))
      have O4 := Lib.hid (O3.out.snoc (r := ⟨A3, (seg P q e).length, c3, seg P q e⟩) N3.out A3p.out (by rw [hVl]; exact hown) hgrow (by simpa using hat))
      have HE4 := Lib.hid (HE2.out.trans (show _ = (V ++ [(⟨A3, (seg P q e).length, c3, seg P q e⟩ : Sl)]).map Sl.P ++ splitS P (partEnd P (P.length + 1)) (x.n.toNat - (k + 1)) e by simp))
      have hl4 : (V ++ [(⟨A3, (seg P q e).length, c3, seg P q e⟩ : Sl)]).length = k + 1 := by simp [hVl]
      clear hown hgrow hat O3 R3 N3 A3p HE2 B3
      go_wp2_with fail
      go_roundw
      case rel => exact ⟨k + 1, e, _, by go_num, rfl, by omega, by omega, by omega, hl4, HE4, HS2, O4, L3, R4, B4⟩
      case measure => simp [intOf]; omega
    · have HG := Lib.hid (hE.out.trans (show _ = V.map Sl.P by rw [show x.n.toNat - k = 0 by omega]; simp [splitS]))
      clear hE hS hrd
      go_wp2_with fail
      go_ret2
      exact ⟨_, _, V, rfl, hO.out.mono (by omega), HG.out.symm, World.ownsRow_nil _ _ _ 1, hLt.out, hB.out⟩
end Go.Proofs.YtmekockjgldndaaGreatDoor
