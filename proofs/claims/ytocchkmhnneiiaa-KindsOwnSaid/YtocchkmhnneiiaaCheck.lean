/-
  val.Check: nodes that are a value.
-/
import Derived.Test.YtocchkmhnneiiaaPartRec
import Derived.Defers
import Derived.Recover
namespace Go.Proofs.Ytocchkmhnneiiaa
open Go.RowKit Go.Wk Go.Sort
set_option maxRecDepth 100000

set_option maxRecDepth 100000 in
theorem part_field (a : Addr) (P : List Nd) (n c p R : Nat) (w : World) (hr : RdAt w R (.slice (some a) n c) p) (hn : n = P.length) (hm : n ≤ maxLen) (hp : p < n) (hP : NdsAt w (some a) P) (hO : NdsOk P) (hs : shapedN (P[p]'(by omega)) = true)
    (h7 : (P[p]'(by omega)).op = 7) :
    Calls Try.prog 30 #[.pointer (some ⟨R, 0, none⟩)] w (PartPost R (some a) n c p w none) := by
  unfold maxLen at hm
  have HR := Lib.hid hr
  have HS := Lib.hid (fun w1 (hb : Below w.heap.size w w1) o => rd_step hr hb o)
  obtain ⟨c0, c1, f1⟩ := hr
  have hp' : p < P.length := by omega
  obtain ⟨b, hb0, q1, q2, q3, q4⟩ := hP p P[p] (List.getElem?_eq_getElem hp')
  injection hb0 with hb0
  subst hb0
  have S := Lib.hid (fun w => val_shaped P[p] w (hO.at hp').s (hO.at hp').t)
  rw [hs] at S
  unfold ndV at S
  rw [h7] at q1 S
  generalize P[p] = x at *
  clear hO hP hn h7
  go_enter Try.func30, Try.ntmps30
  go_wp2_with fail
  refine (S.out _).mono ?_
  rintro e w1 ⟨rfl, hb⟩
  replace c0 := cell_keep hb c0
  replace c1 := cell_keep hb c1
  replace q1 := cell_keep hb q1
  replace q2 := cell_keep hb q2
  replace q3 := cell_keep hb q3
  replace q4 := cell_keep hb q4
  have f1' := (hb.frozen (p := ⟨R, 1, none⟩) HR.out.lt).trans f1
  clear f1
  have hR := Nat.lt_of_lt_of_le HR.out.lt hb.size
  have HB := Lib.hid hb
  clear hb
  go_wp2_with fail
  exact ⟨rfl, rfl, (HS.out _ HB.out _).2⟩

theorem val_part (A : Option Addr) (P : List Nd) (n c R : Nat) (hn : n = P.length) (hc : n ≤ c) (hm : n ≤ maxLen) (hO : NdsOk P) (hR : 0 < P.length → ∀ a, A = some a → a.block ≠ R) (m : Nat) : PartC P A n c R m := by
  induction m with
  | zero => intro q w _ _ h; omega
  | succ m ih =>
    intro p w hr hP hf
    by_cases hp : p < n
    · have hp' : p < P.length := by omega
      obtain ⟨a, rfl, -⟩ := hP p P[p] (List.getElem?_eq_getElem hp')
      have e : partEnd P (m + 1) p = if shapedN P[p] then (if P[p].op = 5 then setLoop P (partEnd P m) P[p].n.toNat none (p + 1) else if P[p].op = 6 then recLoop P (partEnd P m) P[p].n.toNat .empty (p + 1) else if P[p].op = 7 then none else some (p + 1)) else none := by
        simp only [partEnd, List.getElem?_eq_getElem hp']
      rw [e]
      by_cases hs : shapedN P[p] = true
      · rw [if_pos hs]
        by_cases h5 : P[p].op = 5
        · rw [if_pos h5]; exact part_set a P n c p R m w hr hn hc hm hp hP hO hs h5 (hR (by omega) a rfl) ih hf
        rw [if_neg h5]
        by_cases h6 : P[p].op = 6
        · rw [if_pos h6]; exact part_rec a P n c p R m w hr hn hc hm hp hP hO hs h6 (hR (by omega) a rfl) ih hf
        rw [if_neg h6]
        by_cases h7 : P[p].op = 7
        · rw [if_pos h7]; exact part_field a P n c p R w hr hn hm hp hP hO hs h7
        rw [if_neg h7]
        exact part_leaf a P n c p R w hr hn hc hm hp hP hO hs (beq_eq_false_iff_ne.2 h5) (beq_eq_false_iff_ne.2 h6) (beq_eq_false_iff_ne.2 h7)
      · rw [if_neg hs]
        exact part_bad a P n c p R w hr hn hp hP hO (by simpa using hs)
    · have e : partEnd P (m + 1) p = none := by
        simp only [partEnd, List.getElem?_eq_none (by omega : P.length ≤ p)]
      rw [e]
      exact part_out A n c p R w hr (by omega)

theorem check_idle (p : Addr) (w : World) :
    CallsD Try.prog 29 #[.pointer (some p)] .returning w fun e u' w' => e = .returned (.tuple #[]) ∧ u' = .returning ∧ w' = w := by
  refine callsD_of_wpS Try.func29 rfl fun c₀ cs hu => ?_
  apply wpS_seq
  apply wpS_region
  simp [wpOpsS, go_sem, recoverD, hu, Try.ntmps29, Exit.thenS]
  refine wpS_of_wp ?_
  go_wp2_with fail
  cases c₀
  simp_all [bodyPostS, results, Try.results29]
theorem check_caught (E : Nat) (v : Value) (older : List PanicEntry) (w : World) (hc : w.cell? ⟨E, 0, none⟩ = some v) (hz : w.frozen? ⟨E, 0, none⟩ = false) :
    CallsD Try.prog 29 #[.pointer (some ⟨E, 0, none⟩)] (.panicking ({ v := .iface 64 (.agg #[]), recovered := false } :: older)) w fun e u' w' =>
      e = .returned (.tuple #[]) ∧ u' = .panicking ({ v := .iface 64 (.agg #[]), recovered := true } :: older) ∧ w' = (w.setCell ⟨E, 0, none⟩ (.iface 44 (.int .i64 1))).alloc (.cells #[] 64) := by
  have hl : E < w.heap.size := block_lt_of_cell hc
  have hta : ∀ w, (Instr.typeAssert (.iface 64 (.agg #[])) 20 64 true).run Try.prog w = .ok (.tuple #[.agg #[], .bool true]) w := fun _ => by kernel_rfl
  refine callsD_of_wpS Try.func29 rfl fun c₀ cs hu => ?_
  apply wpS_seq
  apply wpS_region
  simp [wpOpsS, go_sem, recoverD, hu, Try.ntmps29]
  refine wpS_of_wp ?_
  go_wp2_with fail
  cases c₀
  simp [bodyPostS, results, Try.results29]

theorem check_full (A : Option Addr) (n c : Nat) (P : List Nd) (w : World) (hn : n = P.length) (hm : n ≤ maxLen) (h : 200 < n) :
    Calls Try.prog 21 #[.slice A n c] w fun e w' => e = .returned (errV (valFault P)) ∧ Below w.heap.size w w' := by
  have H := Lib.hid (show valFault P = 4 by unfold valFault; rw [if_pos (by omega)])
  unfold maxLen at hm
  clear hn
  go_enter_defers Try.func21, Try.ntmps21
  go_wp2_with fail
  simp [bodyPostD, Leaves, results, Try.results21, go_sem]
  rw [H.out]
  exact ⟨rfl, below_box _ _⟩
theorem NdsAt.lt {w : World} {A : Option Addr} {P : List Nd} (h : NdsAt w A P) (h0 : 0 < P.length) (a : Addr) (e : A = some a) : a.block < w.heap.size := by
  obtain ⟨b, hb, q, -⟩ := h 0 P[0] (List.getElem?_eq_getElem h0)
  rw [e] at hb
  injection hb with hb
  subst hb
  have := block_lt_of_cell q
  rw [add_block] at this
  exact this
/-- Behind part: the two new blocks lie there, and what was there is as it was. -/
theorem check_worlds {w w1 : World} (o1 o2 : Obj) (h : ((w.alloc o1).alloc o2).grownBy w1 (some (w.heap.size + 1))) :
    Below w.heap.size w w1 ∧ w1.cell? ⟨w.heap.size, 0, none⟩ = (w.alloc o1).cell? ⟨w.heap.size, 0, none⟩ ∧ w1.frozen? ⟨w.heap.size, 0, none⟩ = (w.alloc o1).frozen? ⟨w.heap.size, 0, none⟩ ∧ w.heap.size + 2 ≤ w1.heap.size := by
  have hb : Below (w.heap.size + 1) ((w.alloc o1).alloc o2) w1 := below_of_grown h (Nat.le_refl _) (by simp)
  have hb2 : Below (w.heap.size + 1) (w.alloc o1) w1 := ((Below.refl _ _).alloc (by simp) o2).trans hb
  refine ⟨(below_box w o1).trans (hb2.mono (by omega)), hb2.cell (by simp), hb2.frozen (by simp), ?_⟩
  have := h.size
  simp at this
  omega
theorem check_none (A : Option Addr) (n c : Nat) (P : List Nd) (w : World) (hn : n = P.length) (hc : n ≤ c) (hm : n ≤ maxLen) (hP : NdsAt w A P) (hO : NdsOk P) (h : ¬ 200 < n) (he : partEnd P (n + 1) 0 = none) :
    Calls Try.prog 21 #[.slice A n c] w fun e w' => e = .returned (errV (valFault P)) ∧ Below w.heap.size w w' := by
  have H := Lib.hid (show valFault P = 1 by unfold valFault; rw [if_neg (by omega), ← hn, he]; rfl)
  have C := Lib.hid (fun W h1 h2 => val_part A P n c (w.heap.size + 1) hn hc hm hO (fun h0 a e => by have := hP.lt h0 a e; omega) (n + 1) 0 W h1 h2 (by omega))
  rw [he] at C
  unfold maxLen at hm
  have HP := Lib.hid hP
  have hmf : ∀ (fn : Fn) (first cap : Array Value) (w : World), (Instr.makeFunc fn first cap).run Try.prog w = .ok (.func fn first cap) w := fun _ _ _ _ => rfl
  clear hn hP hO
  go_enter_defers Try.func21, Try.ntmps21
  go_wp2_with fail
  refine (C.out _ ⟨by simp, by simp, by simp⟩ (HP.out.keep ((by (repeat' (first | exact Below.refl _ _ | refine Below.alloc ?_ ?_ _ | refine Below.setCell ?_ ?_ _ | refine Below.drew ?_ | refine Below.drewN ?_ _)) <;> (try simp) <;> omega)))).mono ?_
  rintro e w1 hpost
  obtain ⟨rfl, g1⟩ := hpost
  obtain ⟨b1, c1, f1, z1⟩ := check_worlds _ _ g1
  have c1' : w1.cell? ⟨w.heap.size, 0, none⟩ = some .nilIface := c1.trans (by simp)
  have f1' : w1.frozen? ⟨w.heap.size, 0, none⟩ = false := f1.trans (by simp)
  clear c1 f1 g1
  go_wp2_with fail
  refine leaves_cons (f := 29) (args := #[.pointer (some ⟨w.heap.size, 0, none⟩)]) (by simp) (by simp [go_sem]) ?_
  refine (check_caught w.heap.size _ [] w1 c1' f1').mono ?_
  rintro e u' w2 ⟨rfl, rfl, rfl⟩
  have hl : w.heap.size < w1.heap.size := by omega
  simp [Leaves, settle, results, Try.results21, go_sem, c1', hl]
  rw [H.out]
  exact ⟨rfl, (b1.setCell (p := ⟨w.heap.size, 0, none⟩) (Nat.le_refl _) _).alloc (by simp [World.setCell]; omega) _⟩
theorem check_some (A : Option Addr) (n c e : Nat) (P : List Nd) (w : World) (hn : n = P.length) (hc : n ≤ c) (hm : n ≤ maxLen) (hP : NdsAt w A P) (hO : NdsOk P) (h : ¬ 200 < n) (he : partEnd P (n + 1) 0 = some e) :
    Calls Try.prog 21 #[.slice A n c] w fun e w' => e = .returned (errV (valFault P)) ∧ Below w.heap.size w w' := by
  have C := Lib.hid (fun W h1 h2 => val_part A P n c (w.heap.size + 1) hn hc hm hO (fun h0 a e => by have := hP.lt h0 a e; omega) (n + 1) 0 W h1 h2 (by omega))
  rw [he] at C
  have hle := partEnd_le _ _ _ he
  rw [← hn] at hle
  have H := Lib.hid (show valFault P = if e < n then 1 else 0 by
    unfold valFault; rw [if_neg (by omega), ← hn, he]
    by_cases q : e < n
    · rw [if_pos q, if_neg (by intro z; injection z with z; omega)]
    · rw [if_neg q, if_pos (by congr 1; omega)])
  unfold maxLen at hm
  have HP := Lib.hid hP
  have hmf : ∀ (fn : Fn) (first cap : Array Value) (w : World), (Instr.makeFunc fn first cap).run Try.prog w = .ok (.func fn first cap) w := fun _ _ _ _ => rfl
  clear hn hP hO he
  by_cases hen : e < n
  · rw [if_pos hen] at H
    go_enter_defers Try.func21, Try.ntmps21
    go_wp2_with fail
    refine (C.out _ ⟨by simp, by simp, by simp⟩ (HP.out.keep ((by (repeat' (first | exact Below.refl _ _ | refine Below.alloc ?_ ?_ _ | refine Below.setCell ?_ ?_ _ | refine Below.drew ?_ | refine Below.drewN ?_ _)) <;> (try simp) <;> omega)))).mono ?_
    rintro e w1 hpost
    obtain ⟨rfl, r1, g1⟩ := hpost
    obtain ⟨b1, c1, f1, z1⟩ := check_worlds _ _ g1
    have c1' : w1.cell? ⟨w.heap.size, 0, none⟩ = some .nilIface := c1.trans (by simp)
    have f1' : w1.frozen? ⟨w.heap.size, 0, none⟩ = false := f1.trans (by simp)
    have r2 := r1.c1
    clear c1 f1 g1 r1
    go_wp2_with fail
    refine leaves_cons (f := 29) (args := #[.pointer (some ⟨w.heap.size, 0, none⟩)]) (by simp) (by simp [go_sem]) ?_
    refine (check_idle ⟨w.heap.size, 0, none⟩ _).mono ?_
    rintro e u' w2 ⟨rfl, rfl, rfl⟩
    simp [Leaves, settle, results, Try.results21, go_sem, c1']
    rw [H.out]
    exact ⟨rfl, b1.setCell (p := ⟨w.heap.size, 0, none⟩) (Nat.le_refl _) _⟩
  · rw [if_neg hen] at H
    obtain rfl : e = n := by omega
    go_enter_defers Try.func21, Try.ntmps21
    go_wp2_with fail
    refine (C.out _ ⟨by simp, by simp, by simp⟩ (HP.out.keep ((by (repeat' (first | exact Below.refl _ _ | refine Below.alloc ?_ ?_ _ | refine Below.setCell ?_ ?_ _ | refine Below.drew ?_ | refine Below.drewN ?_ _)) <;> (try simp) <;> omega)))).mono ?_
    rintro e w1 hpost
    obtain ⟨rfl, r1, g1⟩ := hpost
    obtain ⟨b1, c1, f1, z1⟩ := check_worlds _ _ g1
    have c1' : w1.cell? ⟨w.heap.size, 0, none⟩ = some .nilIface := c1.trans (by simp)
    have f1' : w1.frozen? ⟨w.heap.size, 0, none⟩ = false := f1.trans (by simp)
    have r2 := r1.c1
    clear c1 f1 g1 r1
    go_wp2_with fail
    refine leaves_cons (f := 29) (args := #[.pointer (some ⟨w.heap.size, 0, none⟩)]) (by simp) (by simp [go_sem]) ?_
    refine (check_idle ⟨w.heap.size, 0, none⟩ _).mono ?_
    rintro e u' w2 ⟨rfl, rfl, rfl⟩
    simp [Leaves, settle, results, Try.results21, go_sem, c1']
    rw [H.out]
    exact ⟨rfl, b1.setCell (p := ⟨w.heap.size, 0, none⟩) (Nat.le_refl _) _⟩
/-- Nodes that are a value, or what is wrong. -/
theorem val_Check (A : Option Addr) (n c : Nat) (P : List Nd) (w : World) (hn : n = P.length) (hc : n ≤ c) (hm : n ≤ maxLen) (hP : NdsAt w A P) (hO : NdsOk P) :
    Calls Try.prog 21 #[.slice A n c] w fun e w' => e = .returned (errV (valFault P)) ∧ Below w.heap.size w w' := by
  by_cases h : 200 < n
  · exact check_full A n c P w hn hm h
  · rcases he : partEnd P (n + 1) 0 with _ | e
    · exact check_none A n c P w hn hc hm hP hO h he
    · exact check_some A n c e P w hn hc hm hP hO h he
end Go.Proofs.Ytocchkmhnneiiaa
