/-
  The order of nodes: val.compare, slices.CompareFunc, val.order.
-/
import Derived.Test.YtocchkmhnneiiaaOrd
import Derived.Test.YtocchkmhnneiiaaNodeLaw
namespace Go.Proofs.Ytocchkmhnneiiaa
open Go.RowKit Go.Wk
set_option maxRecDepth 100000

/-- The value of a node. -/
def ndV (x : Nd) : Value := .agg #[.int .i64 x.op, .int .i64 x.n, .string x.s, .string x.t]
/-- A slice that holds nodes. -/
def NdsAt (w : World) (A : Option Addr) (P : List Nd) : Prop :=
  ∀ (k : Nat) (x : Nd), P[k]? = some x → ∃ a, A = some a ∧ w.cell? (a.add (k * 4)) = some (.int .i64 x.op) ∧
    w.cell? ⟨(a.add (k * 4)).block, (a.add (k * 4)).off + 1, none⟩ = some (.int .i64 x.n) ∧
    w.cell? ⟨(a.add (k * 4)).block, (a.add (k * 4)).off + 2, none⟩ = some (.string x.s) ∧
    w.cell? ⟨(a.add (k * 4)).block, (a.add (k * 4)).off + 3, none⟩ = some (.string x.t)
theorem NdsAt.keep {w w' : World} {A : Option Addr} {P : List Nd} (h : NdsAt w A P) (hb : Below w.heap.size w w') : NdsAt w' A P :=
  fun k x hx => let ⟨a, h1, h2, h3, h4, h5⟩ := h k x hx; ⟨a, h1, cell_keep hb h2, cell_keep hb h3, cell_keep hb h4, cell_keep hb h5⟩

theorem cmp_Compare_int (x y : Int) (w : World) : Calls Try.prog 66 #[.int .i64 x, .int .i64 y] w fun e w' => e = .returned (.int .i64 (cmpI x y)) ∧ w' = w :=
  (Try.cmp_Compare_int x y w).mono fun _ _ h => h

set_option maxHeartbeats 400000 in
theorem cmp_Or4 (x y z u : Int) (ad : Addr) (w : World) (h0 : w.cell? ad = some (.int .i64 x)) (h1 : w.cell? ⟨ad.block, ad.off + 1, none⟩ = some (.int .i64 y))
    (h2 : w.cell? ⟨ad.block, ad.off + 2, none⟩ = some (.int .i64 z)) (h3 : w.cell? ⟨ad.block, ad.off + 3, none⟩ = some (.int .i64 u)) :
    Calls Try.prog 65 #[.slice (some ad) 4 4] w fun e w' => e = .returned (.int .i64 (or4 x y z u)) ∧ w = w' := by
  go_enter Try.func65, Try.ntmps65
  go_wp2
  go_loop [5, 8] (fun s i => ∃ k : Nat, k ≤ 4 ∧ i = .int .i64 k ∧ (1 ≤ k → x = 0) ∧ (2 ≤ k → y = 0) ∧ (3 ≤ k → z = 0) ∧ (4 ≤ k → u = 0)) (fun _ i => 4 - (intOf i).toNat)
  case atStart => exact ⟨0, by omega, rfl, by omega, by omega, by omega, by omega⟩
  case round =>
    obtain ⟨k, hk, rfl, hx, hy, hz, hu⟩ := hrel
    have hk3 : k = 0 ∨ k = 1 ∨ k = 2 ∨ k = 3 ∨ k = 4 := by omega
    rcases hk3 with rfl | rfl | rfl | rfl | rfl
    · clear hx hy hz hu
      by_cases hx0 : x = 0
      · subst hx0
        go_wp2
        go_round
        case rel => exact ⟨1, by omega, by go_num, by simp, by omega, by omega, by omega⟩
        case measure => simp [intOf]
      · go_wp2
        go_ret
        exact ⟨ret_i64 (by simp [or4, or2, hx0]), rfl⟩
    · have hx0 := hx (by omega)
      clear hx hy hz hu
      subst hx0
      by_cases hy0 : y = 0
      · subst hy0
        go_wp2
        go_round
        case rel => exact ⟨2, by omega, by go_num, by simp, by simp, by omega, by omega⟩
        case measure => simp [intOf]
      · go_wp2
        go_ret
        exact ⟨ret_i64 (by simp [or4, or2, hy0]), rfl⟩
    · have hx0 := hx (by omega)
      have hy0 := hy (by omega)
      clear hx hy hz hu
      subst hx0 hy0
      by_cases hz0 : z = 0
      · subst hz0
        go_wp2
        go_round
        case rel => exact ⟨3, by omega, by go_num, by simp, by simp, by simp, by omega⟩
        case measure => simp [intOf]
      · go_wp2
        go_ret
        exact ⟨ret_i64 (by simp [or4, or2, hz0]), rfl⟩
    · have hx0 := hx (by omega)
      have hy0 := hy (by omega)
      have hz0 := hz (by omega)
      clear hx hy hz hu
      subst hx0 hy0 hz0
      by_cases hu0 : u = 0
      · subst hu0
        go_wp2
        go_round
        case rel => exact ⟨4, by omega, by go_num, by simp, by simp, by simp, by simp⟩
        case measure => simp [intOf]
      · go_wp2
        go_ret
        exact ⟨ret_i64 (by simp [or4, or2]), rfl⟩
    · have hx0 := hx (by omega)
      have hy0 := hy (by omega)
      have hz0 := hz (by omega)
      have hu0 := hu (by omega)
      clear hx hy hz hu
      subst hx0 hy0 hz0 hu0
      go_wp2
      go_ret
      exact ⟨ret_i64 (by simp [or4, or2]), rfl⟩

set_option maxHeartbeats 800000 in
theorem val_compare (x y : Nd) (w : World) :
    Calls Try.prog 58 #[ndV x, ndV y] w fun e w' => e = .returned (.int .i64 (cmpNd x y)) ∧ Below w.heap.size w w' := by
  unfold ndV
  go_enter Try.func58, Try.ntmps58
  go_wp2
  refine still_tail 20 (by kernel_rfl) (by kernel_rfl) ?_
  simp only [List.take_succ_cons, List.take_zero, List.drop_succ_cons, List.drop_zero]
  iterate 4 still_step
  still_call (cmp_Compare_int _ _ _)
  iterate 4 still_step
  still_call (cmp_Compare_int _ _ _)
  iterate 4 still_step
  still_call (strings_Compare _ _ _)
  iterate 4 still_step
  still_call (strings_Compare _ _ _)
  refine wpStill_nil ?_
  go_wp2_with (go_at_call 65; refine (cmp_Or4 (cmpI x.op y.op) (cmpI x.n y.n) (cmpB x.s y.s) (cmpB x.t y.t) _ _ (by go_simp) (by go_simp) (by go_simp) (by go_simp)).mono ?_; rintro e w' ⟨rfl, rfl⟩)
  go_ret
  exact ⟨rfl, ((((Below.refl _ _).alloc (Nat.le_refl _) _).alloc (by simp) _).alloc (by simp; omega) _).drew⟩

theorem cmpNds_at {P Q : List Nd} {k : Nat} (h1 : k < P.length) (h2 : k < Q.length) : cmpNds (P.drop k) (Q.drop k) = or2 (cmpNd P[k] Q[k]) (cmpNds (P.drop (k + 1)) (Q.drop (k + 1))) := by
  rw [List.drop_eq_getElem_cons h1, List.drop_eq_getElem_cons h2]; rfl
theorem cmpNds_end1 {P Q : List Nd} {k : Nat} (h1 : P.length ≤ k) (h2 : k < Q.length) : cmpNds (P.drop k) (Q.drop k) = -1 := by
  rw [List.drop_of_length_le h1, List.drop_eq_getElem_cons h2]; rfl
theorem cmpNds_end2 {P Q : List Nd} {k : Nat} (h1 : k < P.length) (h2 : Q.length ≤ k) : cmpNds (P.drop k) (Q.drop k) = 1 := by
  rw [List.drop_of_length_le h2, List.drop_eq_getElem_cons h1]; rfl
theorem cmpNds_end0 {P Q : List Nd} {k : Nat} (h1 : P.length ≤ k) (h2 : Q.length ≤ k) : cmpNds (P.drop k) (Q.drop k) = 0 := by
  rw [List.drop_of_length_le h1, List.drop_of_length_le h2]; rfl

set_option maxHeartbeats 1000000 in
theorem val_CompareFunc (A B : Option Addr) (n m c d : Nat) (P Q : List Nd) (w : World) (hn : n = P.length) (hm : m = Q.length) (hln : n ≤ maxLen) (_hlm : m ≤ maxLen) (hP : NdsAt w A P) (hQ : NdsAt w B Q) :
    Calls Try.prog 57 #[.slice A n c, .slice B m d, .func (.func 58) #[] #[]] w fun e w' => e = .returned (.int .i64 (cmpNds P Q)) ∧ Below w.heap.size w w' := by
  unfold maxLen at hln _hlm
  have HP := Lib.hid hP
  have HQ := Lib.hid hQ
  have HN := Lib.hid hn
  have HM := Lib.hid hm
  clear hP hQ hn hm
  go_enter Try.func57, Try.ntmps57
  go_wp2
  go_loopw [7, 8, 9, 10, 13] (fun _ _ _ _ i wr => ∃ k : Nat, k ≤ n ∧ k ≤ m ∧ i = .int .i64 k ∧ Hid (cmpNds P Q = cmpNds (P.drop k) (Q.drop k)) ∧ Below w.heap.size w wr) (fun _ _ _ _ i _ => n - (intOf i).toNat)
  case atStart => exact ⟨0, Nat.zero_le _, Nat.zero_le _, rfl, rfl, Below.refl _ _⟩
  case round =>
    obtain ⟨k, hkn, hkm, rfl, hc, hbel⟩ := hrel
    obtain ⟨wo, rfl⟩ : ∃ wo : World, wo = wr := ⟨_, rfl⟩
    by_cases h1 : k < n
    · have h1' : k < P.length := by rw [← HN.out]; exact h1
      obtain ⟨a, rfl, a1, a2, a3, a4⟩ := (HP.out.keep hbel) k P[k] (List.getElem?_eq_getElem h1')
      by_cases h2 : k < m
      · have h2' : k < Q.length := by rw [← HM.out]; exact h2
        obtain ⟨b, rfl, b1, b2, b3, b4⟩ := (HQ.out.keep hbel) k Q[k] (List.getElem?_eq_getElem h2')
        have HA := Lib.hid (hc.out.trans (cmpNds_at h1' h2'))
        have g : ∀ (o : Obj) (x : Addr) (v : Value), wo.cell? x = some v → (wo.alloc o).cell? x = some v := fun o x v h => cell_keep ((Below.refl _ _).alloc (Nat.le_refl _) o) h
        replace b1 := fun o => g o _ _ b1
        replace b2 := fun o => g o _ _ b2
        replace b3 := fun o => g o _ _ b3
        replace b4 := fun o => g o _ _ b4
        clear hc g
        go_wp2_with fail
        refine (val_compare P[k] Q[k] _).mono ?_
        rintro e w1 ⟨rfl, hb1⟩
        have hbw := Lib.hid ((hbel.alloc (by have := hbel.size; omega) _).alloc (by have := hbel.size; simp; omega) _ |>.trans (hb1.mono (by have := hbel.size; simp; omega)))
        clear hb1 b1 b2 b3 b4 a1 a2 a3 a4
        by_cases h0 : cmpNd P[k] Q[k] = 0
        · have HC := Lib.hid (HA.out.trans (by rw [h0]; rfl : _ = cmpNds (P.drop (k + 1)) (Q.drop (k + 1))))
          rw [h0]
          clear h0 HA
          go_wp2
          go_roundw
          case rel => exact ⟨k + 1, by omega, by omega, by go_num, HC, hbw.out⟩
          case measure => simp [intOf]; omega
        · have HC := Lib.hid (HA.out.trans (or2_ne h0 _))
          have h0' : (cmpNd P[k] Q[k] == 0) = false := beq_eq_false_iff_ne.2 h0
          clear HA
          go_wp2
          go_ret
          exact ⟨ret_i64 HC.out.symm, hbw.out⟩
      · have HA := Lib.hid (hc.out.trans (cmpNds_end2 h1' (by rw [← HM.out]; omega)))
        clear hc
        go_wp2
        go_ret
        exact ⟨ret_i64 HA.out.symm, hbel.alloc (by have := hbel.size; omega) _⟩
    · obtain rfl : k = n := by omega
      by_cases h2 : k < m
      · have HA := Lib.hid (hc.out.trans (cmpNds_end1 (by rw [← HN.out]; omega) (by rw [← HM.out]; exact h2)))
        clear hc
        go_wp2
        go_ret
        exact ⟨ret_i64 HA.out.symm, hbel⟩
      · have HA := Lib.hid (hc.out.trans (cmpNds_end0 (by rw [← HN.out]; omega) (by rw [← HM.out]; omega)))
        clear hc
        go_wp2
        go_ret
        exact ⟨ret_i64 HA.out.symm, hbel⟩

theorem val_order (A B : Option Addr) (n m c d : Nat) (P Q : List Nd) (w : World) (hn : n = P.length) (hm : m = Q.length) (hln : n ≤ maxLen) (hlm : m ≤ maxLen) (hP : NdsAt w A P) (hQ : NdsAt w B Q) :
    Calls Try.prog 41 #[.slice A n c, .slice B m d] w fun e w' => e = .returned (.int .i64 (cmpNds P Q)) ∧ Below w.heap.size w w' := by
  have H := val_CompareFunc A B n m c d P Q w hn hm hln hlm hP hQ
  clear hn hm hP hQ
  go_enter Try.func41, Try.ntmps41
  go_wp2_with fail
  refine H.mono ?_
  rintro e w1 ⟨rfl, hb1⟩
  go_wp2
  go_ret
  exact ⟨rfl, hb1⟩
end Go.Proofs.Ytocchkmhnneiiaa
