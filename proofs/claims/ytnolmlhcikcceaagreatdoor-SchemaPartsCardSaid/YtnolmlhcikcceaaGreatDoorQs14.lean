/-
  The contracts of the comparisons of texts and uids, of the program and of the reference.
  The order of nodes: val.compare, slices.CompareFunc, val.order.
  The contracts of the checks of names and texts, of the program and of the reference.
  val.shaped: has a node just the fields that a value's may have?
  val's reader: part tells where a value ends, or panics.
  val's reader: part at a record; part outright.
-/
import Derived.Test.YtnolmlhcikcceaaGreatDoorQs13
namespace Go.Proofs.YtnolmlhcikcceaaGreatDoor
open Go.RowKit Go.Wk
set_option maxRecDepth 100000

set_option maxHeartbeats 400000 in
theorem cmp_Or2 (x y : Int) (ad : Addr) (w : World) (h0 : w.cell? ad = some (.int .i64 x)) (h1 : w.cell? ⟨ad.block, ad.off + 1, none⟩ = some (.int .i64 y)) :
    Calls Tryz.prog 179 #[.slice (some ad) 2 2] w fun e w' => e = .returned (.int .i64 (or2 x y)) ∧ w = w' := by
  go_enter Tryz.func179, Tryz.ntmps179
  go_wp2
  go_loop [5, 8] (fun s i => ∃ k : Nat, k ≤ 2 ∧ i = .int .i64 k ∧ (1 ≤ k → x = 0) ∧ (2 ≤ k → y = 0)) (fun _ i => 2 - (intOf i).toNat)
  case atStart => exact ⟨0, by omega, rfl, by omega, by omega⟩
  case round =>
    obtain ⟨k, hk, rfl, hx, hy⟩ := hrel
    have hk3 : k = 0 ∨ k = 1 ∨ k = 2 := by omega
    rcases hk3 with rfl | rfl | rfl
    · by_cases hx0 : x = 0
      · subst hx0
        go_wp2
        go_round
        case rel => exact ⟨1, by omega, by go_num, by simp, by omega⟩
        case measure => simp [intOf]
      · go_wp2
        go_ret
        exact ⟨ret_i64 (by simp [or2, hx0]), rfl⟩
    · by_cases hy0 : y = 0
      · have hx0 := hx (by omega)
        clear hx hy
        subst hy0
        go_wp2
        go_round
        case rel => exact ⟨2, by omega, by go_num, by simp [hx0], by simp⟩
        case measure => simp [intOf]
      · have hx0 := hx (by omega)
        clear hx hy
        subst hx0
        go_wp2
        go_ret
        exact ⟨ret_i64 (by simp [or2]), rfl⟩
    · have hx0 := hx (by omega)
      have hy0 := hy (by omega)
      clear hx hy
      subst hx0
      subst hy0
      go_wp2
      go_ret
      exact ⟨ret_i64 (by simp [or2]), rfl⟩

theorem strings_Compare (a b : ByteArray) (w : World) :
    Calls Tryz.prog 123 #[.string a, .string b] w fun e w' => e = .returned (.int .i64 (cmpB a b)) ∧ w' = w := Tryz.strings_Compare a b w

theorem ref_Numbers (a b : Int) (w : World) :
    Calls Tryz.prog 163 #[.int .i64 a, .int .i64 b] w fun e w' => e = .returned (.int .i64 (cmpI a b)) ∧ w = w' := by
  by_cases h1 : a < b
  · go_enter Tryz.func163, Tryz.ntmps163
    go_wp2
    go_ret
    exact ⟨ret_i64 (by unfold cmpI; split <;> (try split) <;> omega), rfl⟩
  · by_cases h2 : b < a
    · go_enter Tryz.func163, Tryz.ntmps163
      go_wp2
      go_ret
      exact ⟨ret_i64 (by unfold cmpI; split <;> (try split) <;> omega), rfl⟩
    · go_enter Tryz.func163, Tryz.ntmps163
      go_wp2
      go_ret
      exact ⟨ret_i64 (by unfold cmpI; split <;> (try split) <;> omega), rfl⟩

theorem cmpB_at (a b : ByteArray) : cmpB a b = Lib.compareBytes (a.data.toList.drop 0) (b.data.toList.drop 0) := rfl
theorem cmpB_less {a b : ByteArray} {k : Nat} (h1 : k < a.size) (h2 : k < b.size) (hc : cmpB a b = Lib.compareBytes (a.data.toList.drop k) (b.data.toList.drop k)) (h : (a[k].toNat : Int) < b[k].toNat) : cmpB a b = -1 :=
  hc.trans (compareBytes_less (by simpa using h1) (by simpa using h2) (UInt8.lt_iff_toNat_lt.2 (show a[k].toNat < b[k].toNat by omega)))
theorem cmpB_more {a b : ByteArray} {k : Nat} (h1 : k < a.size) (h2 : k < b.size) (hc : cmpB a b = Lib.compareBytes (a.data.toList.drop k) (b.data.toList.drop k)) (h : (b[k].toNat : Int) < a[k].toNat) : cmpB a b = 1 :=
  hc.trans (compareBytes_more (by simpa using h1) (by simpa using h2) (UInt8.lt_iff_toNat_lt.2 (show b[k].toNat < a[k].toNat by omega)))
theorem cmpB_step {a b : ByteArray} {k : Nat} (h1 : k < a.size) (h2 : k < b.size) (hc : cmpB a b = Lib.compareBytes (a.data.toList.drop k) (b.data.toList.drop k)) (h : (a[k].toNat : Int) = b[k].toNat) :
    cmpB a b = Lib.compareBytes (a.data.toList.drop (k + 1)) (b.data.toList.drop (k + 1)) :=
  hc.trans (compareBytes_step (by simpa using h1) (by simpa using h2) (UInt8.toNat_inj.1 (show a[k].toNat = b[k].toNat by omega)))
theorem cmpB_end {a b : ByteArray} {k : Nat} (h : a.size ≤ k ∨ b.size ≤ k) (ha : k ≤ a.size) (hb : k ≤ b.size) (hc : cmpB a b = Lib.compareBytes (a.data.toList.drop k) (b.data.toList.drop k)) : cmpB a b = cmpI a.size b.size :=
  hc.trans ((compareBytes_end (by simpa using h) (by simpa using ha) (by simpa using hb)).trans (by simp))

set_option maxHeartbeats 400000 in
theorem ref_Texts (a b : ByteArray) (w : World) (ha : a.size ≤ maxLen) (_hb : b.size ≤ maxLen) :
    Calls Tryz.prog 135 #[.string a, .string b] w fun e w' => e = .returned (.int .i64 (cmpB a b)) ∧ Below w.heap.size w w' := by
  unfold maxLen at ha _hb
  go_enter Tryz.func135, Tryz.ntmps135
  go_wp2
  go_loopw [4, 5] (fun r i wr => ∃ k : Nat, k ≤ a.size ∧ k ≤ b.size ∧ i = .int .i64 k ∧ r = .int .i64 0 ∧ Hid (cmpB a b = Lib.compareBytes (a.data.toList.drop k) (b.data.toList.drop k)) ∧ Below w.heap.size w wr) (fun _ i _ => a.size - (intOf i).toNat)
  case atStart => exact ⟨0, Nat.zero_le _, Nat.zero_le _, rfl, rfl, cmpB_at a b, Below.refl _ _⟩
  case round =>
    obtain ⟨k, hka, hkb, rfl, rfl, hc, hbel⟩ := hrel
    by_cases h1 : k < a.size
    · by_cases h2 : k < b.size
      · by_cases e1 : (a[k].toNat : Int) < b[k].toNat
        · have H := Lib.hid (cmpB_less h1 h2 hc.out e1); clear hc
          go_wp2
          go_quiet (fail)
          go_wp2
          go_ret
          exact ⟨ret_i64 H.out.symm, by first | exact hbel.drewN _ | exact (hbel.drewN _).drewN _⟩
        · by_cases e2 : (b[k].toNat : Int) < a[k].toNat
          · have H := Lib.hid (cmpB_more h1 h2 hc.out e2); clear hc
            go_wp2
            go_quiet (fail)
            go_wp2
            go_quiet (fail)
            go_wp2
            go_ret
            exact ⟨ret_i64 H.out.symm, by first | exact hbel.drewN _ | exact (hbel.drewN _).drewN _⟩
          · have H := Lib.hid (cmpB_step h1 h2 hc.out (by omega)); clear hc
            go_wp2
            go_quiet (fail)
            go_wp2
            go_quiet (fail)
            go_wp2
            go_roundw
            case rel => exact ⟨k + 1, by omega, by omega, by go_num, rfl, H, by first | exact hbel.drewN _ | exact (hbel.drewN _).drewN _⟩
            case measure => simp [intOf]; omega
      · have H := Lib.hid (cmpB_end (.inr (by omega)) hka hkb hc.out); clear hc
        go_wp2_with (go_at_call 163; refine (ref_Numbers _ _ _).mono ?_; rintro e w' ⟨rfl, rfl⟩)
        go_ret
        exact ⟨ret_i64 H.out.symm, hbel⟩
    · have H := Lib.hid (cmpB_end (.inl (by omega)) hka hkb hc.out); clear hc
      go_wp2_with (go_at_call 163; refine (ref_Numbers _ _ _).mono ?_; rintro e w' ⟨rfl, rfl⟩)
      go_ret
      exact ⟨ret_i64 H.out.symm, hbel⟩

end Go.Proofs.YtnolmlhcikcceaaGreatDoor
namespace Go.Proofs.YtnolmlhcikcceaaGreatDoor
open Go.RowKit Go.Wk
set_option maxRecDepth 100000

/-- The value of a node. -/
def ndV (x : Nd) : Value := .agg #[.int .i64 x.op, .int .i64 x.n, .string x.s, .string x.t]
/-- A slice that holds nodes. -/
def NdsAt (w : World) (A : Option Addr) (P : List Nd) : Prop :=
  ∀ (k : Nat) (x : Nd), P[k]? = some x → ∃ a, A = some a ∧ w.cell? (a.add (k * 4)) = some (.int .i64 x.op) ∧
    w.cell? ⟨(a.add (k * 4)).block, (a.add (k * 4)).off + 1, none⟩ = some (.int .i64 x.n) ∧
    w.cell? ⟨(a.add (k * 4)).block, (a.add (k * 4)).off + 2, none⟩ = some (.string x.s) ∧
    w.cell? ⟨(a.add (k * 4)).block, (a.add (k * 4)).off + 3, none⟩ = some (.string x.t)
theorem NdsAt.keep {w w' : World} {A : Option Addr} {P : List Nd} (h : NdsAt w A P) (hb : Below w.heap.size w w') : NdsAt w' A P :=
  fun k x hx => let ⟨a, h1, h2, h3, h4, h5⟩ := h k x hx; ⟨a, h1, cell_keep hb h2, cell_keep hb h3, cell_keep hb h4, cell_keep hb h5⟩

theorem cmp_Compare_int (x y : Int) (w : World) : Calls Tryz.prog 180 #[.int .i64 x, .int .i64 y] w fun e w' => e = .returned (.int .i64 (cmpI x y)) ∧ w' = w :=
  (Tryz.cmp_Compare_int x y w).mono fun _ _ h => h

set_option maxHeartbeats 400000 in
theorem cmp_Or4 (x y z u : Int) (ad : Addr) (w : World) (h0 : w.cell? ad = some (.int .i64 x)) (h1 : w.cell? ⟨ad.block, ad.off + 1, none⟩ = some (.int .i64 y))
    (h2 : w.cell? ⟨ad.block, ad.off + 2, none⟩ = some (.int .i64 z)) (h3 : w.cell? ⟨ad.block, ad.off + 3, none⟩ = some (.int .i64 u)) :
    Calls Tryz.prog 179 #[.slice (some ad) 4 4] w fun e w' => e = .returned (.int .i64 (or4 x y z u)) ∧ w = w' := by
  go_enter Tryz.func179, Tryz.ntmps179
  go_wp2
  go_loop [5, 8] (fun s i => ∃ k : Nat, k ≤ 4 ∧ i = .int .i64 k ∧ (1 ≤ k → x = 0) ∧ (2 ≤ k → y = 0) ∧ (3 ≤ k → z = 0) ∧ (4 ≤ k → u = 0)) (fun _ i => 4 - (intOf i).toNat)
  case atStart => exact ⟨0, by omega, rfl, by omega, by omega, by omega, by omega⟩
  case round =>
    obtain ⟨k, hk, rfl, hx, hy, hz, hu⟩ := hrel
    have hk3 : k = 0 ∨ k = 1 ∨ k = 2 ∨ k = 3 ∨ k = 4 := by omega
    rcases hk3 with rfl | rfl | rfl | rfl | rfl
    · clear hx hy hz hu
      by_cases hx0 : x = 0
      · subst hx0
        go_wp2
        go_round
        case rel => exact ⟨1, by omega, by go_num, by simp, by omega, by omega, by omega⟩
        case measure => simp [intOf]
      · go_wp2
        go_ret
        exact ⟨ret_i64 (by simp [or4, or2, hx0]), rfl⟩
    · have hx0 := hx (by omega)
      clear hx hy hz hu
      subst hx0
      by_cases hy0 : y = 0
      · subst hy0
        go_wp2
        go_round
        case rel => exact ⟨2, by omega, by go_num, by simp, by simp, by omega, by omega⟩
        case measure => simp [intOf]
      · go_wp2
        go_ret
        exact ⟨ret_i64 (by simp [or4, or2, hy0]), rfl⟩
    · have hx0 := hx (by omega)
      have hy0 := hy (by omega)
      clear hx hy hz hu
      subst hx0 hy0
      by_cases hz0 : z = 0
      · subst hz0
        go_wp2
        go_round
        case rel => exact ⟨3, by omega, by go_num, by simp, by simp, by simp, by omega⟩
        case measure => simp [intOf]
      · go_wp2
        go_ret
        exact ⟨ret_i64 (by simp [or4, or2, hz0]), rfl⟩
    · have hx0 := hx (by omega)
      have hy0 := hy (by omega)
      have hz0 := hz (by omega)
      clear hx hy hz hu
      subst hx0 hy0 hz0
      by_cases hu0 : u = 0
      · subst hu0
        go_wp2
        go_round
        case rel => exact ⟨4, by omega, by go_num, by simp, by simp, by simp, by simp⟩
        case measure => simp [intOf]
      · go_wp2
        go_ret
        exact ⟨ret_i64 (by simp [or4, or2]), rfl⟩
    · have hx0 := hx (by omega)
      have hy0 := hy (by omega)
      have hz0 := hz (by omega)
      have hu0 := hu (by omega)
      clear hx hy hz hu
      subst hx0 hy0 hz0 hu0
      go_wp2
      go_ret
      exact ⟨ret_i64 (by simp [or4, or2]), rfl⟩

set_option maxHeartbeats 800000 in
theorem val_compare (x y : Nd) (w : World) :
    Calls Tryz.prog 167 #[ndV x, ndV y] w fun e w' => e = .returned (.int .i64 (cmpNd x y)) ∧ Below w.heap.size w w' := by
  unfold ndV
  go_enter Tryz.func167, Tryz.ntmps167
  go_wp2
  refine still_tail 20 (by kernel_rfl) (by kernel_rfl) ?_
  simp only [List.take_succ_cons, List.take_zero, List.drop_succ_cons, List.drop_zero]
  iterate 4 still_step
  still_call (cmp_Compare_int _ _ _)
  iterate 4 still_step
  still_call (cmp_Compare_int _ _ _)
  iterate 4 still_step
  still_call (strings_Compare _ _ _)
  iterate 4 still_step
  still_call (strings_Compare _ _ _)
  refine wpStill_nil ?_
  go_wp2_with (go_at_call 179; refine (cmp_Or4 (cmpI x.op y.op) (cmpI x.n y.n) (cmpB x.s y.s) (cmpB x.t y.t) _ _ (by go_simp) (by go_simp) (by go_simp) (by go_simp)).mono ?_; rintro e w' ⟨rfl, rfl⟩)
  go_ret
  exact ⟨rfl, ((((Below.refl _ _).alloc (Nat.le_refl _) _).alloc (by simp) _).alloc (by simp; omega) _).drew⟩

theorem cmpNds_at {P Q : List Nd} {k : Nat} (h1 : k < P.length) (h2 : k < Q.length) : cmpNds (P.drop k) (Q.drop k) = or2 (cmpNd P[k] Q[k]) (cmpNds (P.drop (k + 1)) (Q.drop (k + 1))) := by
  rw [List.drop_eq_getElem_cons h1, List.drop_eq_getElem_cons h2]; rfl
theorem cmpNds_end1 {P Q : List Nd} {k : Nat} (h1 : P.length ≤ k) (h2 : k < Q.length) : cmpNds (P.drop k) (Q.drop k) = -1 := by
  rw [List.drop_of_length_le h1, List.drop_eq_getElem_cons h2]; rfl
theorem cmpNds_end2 {P Q : List Nd} {k : Nat} (h1 : k < P.length) (h2 : Q.length ≤ k) : cmpNds (P.drop k) (Q.drop k) = 1 := by
  rw [List.drop_of_length_le h2, List.drop_eq_getElem_cons h1]; rfl
theorem cmpNds_end0 {P Q : List Nd} {k : Nat} (h1 : P.length ≤ k) (h2 : Q.length ≤ k) : cmpNds (P.drop k) (Q.drop k) = 0 := by
  rw [List.drop_of_length_le h1, List.drop_of_length_le h2]; rfl

set_option maxHeartbeats 1000000 in
theorem val_CompareFunc (A B : Option Addr) (n m c d : Nat) (P Q : List Nd) (w : World) (hn : n = P.length) (hm : m = Q.length) (hln : n ≤ maxLen) (_hlm : m ≤ maxLen) (hP : NdsAt w A P) (hQ : NdsAt w B Q) :
    Calls Tryz.prog 166 #[.slice A n c, .slice B m d, .func (.func 167) #[] #[]] w fun e w' => e = .returned (.int .i64 (cmpNds P Q)) ∧ Below w.heap.size w w' := by
  unfold maxLen at hln _hlm
  have HP := Lib.hid hP
  have HQ := Lib.hid hQ
  have HN := Lib.hid hn
  have HM := Lib.hid hm
  clear hP hQ hn hm
  go_enter Tryz.func166, Tryz.ntmps166
  go_wp2
  go_loopw [7, 8, 9, 10, 13] (fun _ _ _ _ i wr => ∃ k : Nat, k ≤ n ∧ k ≤ m ∧ i = .int .i64 k ∧ Hid (cmpNds P Q = cmpNds (P.drop k) (Q.drop k)) ∧ Below w.heap.size w wr) (fun _ _ _ _ i _ => n - (intOf i).toNat)
  case atStart => exact ⟨0, Nat.zero_le _, Nat.zero_le _, rfl, rfl, Below.refl _ _⟩
  case round =>
    obtain ⟨k, hkn, hkm, rfl, hc, hbel⟩ := hrel
    obtain ⟨wo, rfl⟩ : ∃ wo : World, wo = wr := ⟨_, rfl⟩
    by_cases h1 : k < n
    · have h1' : k < P.length := by rw [← HN.out]; exact h1
      obtain ⟨a, rfl, a1, a2, a3, a4⟩ := (HP.out.keep hbel) k P[k] (List.getElem?_eq_getElem h1')
      by_cases h2 : k < m
      · have h2' : k < Q.length := by rw [← HM.out]; exact h2
        obtain ⟨b, rfl, b1, b2, b3, b4⟩ := (HQ.out.keep hbel) k Q[k] (List.getElem?_eq_getElem h2')
        have HA := Lib.hid (hc.out.trans (cmpNds_at h1' h2'))
        have g : ∀ (o : Obj) (x : Addr) (v : Value), wo.cell? x = some v → (wo.alloc o).cell? x = some v := fun o x v h => cell_keep ((Below.refl _ _).alloc (Nat.le_refl _) o) h
        replace b1 := fun o => g o _ _ b1
        replace b2 := fun o => g o _ _ b2
        replace b3 := fun o => g o _ _ b3
        replace b4 := fun o => g o _ _ b4
        clear hc g
        go_wp2_with fail
        refine (val_compare P[k] Q[k] _).mono ?_
        rintro e w1 ⟨rfl, hb1⟩
        have hbw := Lib.hid ((hbel.alloc (by have := hbel.size; omega) _).alloc (by have := hbel.size; simp; omega) _ |>.trans (hb1.mono (by have := hbel.size; simp; omega)))
        clear hb1 b1 b2 b3 b4 a1 a2 a3 a4
        by_cases h0 : cmpNd P[k] Q[k] = 0
        · have HC := Lib.hid (HA.out.trans (by rw [h0]; rfl : _ = cmpNds (P.drop (k + 1)) (Q.drop (k + 1))))
          rw [h0]
          clear h0 HA
          go_wp2
          go_roundw
          case rel => exact ⟨k + 1, by omega, by omega, by go_num, HC, hbw.out⟩
          case measure => simp [intOf]; omega
        · have HC := Lib.hid (HA.out.trans (or2_ne h0 _))
          have h0' : (cmpNd P[k] Q[k] == 0) = false := beq_eq_false_iff_ne.2 h0
          clear HA
          go_wp2
          go_ret
          exact ⟨ret_i64 HC.out.symm, hbw.out⟩
      · have HA := Lib.hid (hc.out.trans (cmpNds_end2 h1' (by rw [← HM.out]; omega)))
        clear hc
        go_wp2
        go_ret
        exact ⟨ret_i64 HA.out.symm, hbel.alloc (by have := hbel.size; omega) _⟩
    · obtain rfl : k = n := by omega
      by_cases h2 : k < m
      · have HA := Lib.hid (hc.out.trans (cmpNds_end1 (by rw [← HN.out]; omega) (by rw [← HM.out]; exact h2)))
        clear hc
        go_wp2
        go_ret
        exact ⟨ret_i64 HA.out.symm, hbel⟩
      · have HA := Lib.hid (hc.out.trans (cmpNds_end0 (by rw [← HN.out]; omega) (by rw [← HM.out]; omega)))
        clear hc
        go_wp2
        go_ret
        exact ⟨ret_i64 HA.out.symm, hbel⟩

theorem val_order (A B : Option Addr) (n m c d : Nat) (P Q : List Nd) (w : World) (hn : n = P.length) (hm : m = Q.length) (hln : n ≤ maxLen) (hlm : m ≤ maxLen) (hP : NdsAt w A P) (hQ : NdsAt w B Q) :
    Calls Tryz.prog 147 #[.slice A n c, .slice B m d] w fun e w' => e = .returned (.int .i64 (cmpNds P Q)) ∧ Below w.heap.size w w' := by
  have H := val_CompareFunc A B n m c d P Q w hn hm hln hlm hP hQ
  clear hn hm hP hQ
  go_enter Tryz.func147, Tryz.ntmps147
  go_wp2_with fail
  refine H.mono ?_
  rintro e w1 ⟨rfl, hb1⟩
  go_wp2
  go_ret
  exact ⟨rfl, hb1⟩
end Go.Proofs.YtnolmlhcikcceaaGreatDoor
namespace Go.Proofs.YtnolmlhcikcceaaGreatDoor
open Go.RowKit Go.Wk

theorem name_letter (n : Int) (w : World) (h0 : 0 ≤ n) (h1 : n ≤ 255) : Calls Tryz.prog 66 #[.int .u8 n] w fun e w' => e = .returned (.bool (isLet n)) ∧ w = w' := by
  go_enter Tryz.func66, Tryz.ntmps66
  go_wp2
  all_goals (go_ret; exact ⟨ret_bool (by unfold isLet; rw [Bool.eq_iff_iff]; simp; omega), rfl⟩)
theorem name_digit (n : Int) (w : World) (h0 : 0 ≤ n) (h1 : n ≤ 255) : Calls Tryz.prog 67 #[.int .u8 n] w fun e w' => e = .returned (.bool (isDig n)) ∧ w = w' := by
  go_enter Tryz.func67, Tryz.ntmps67
  go_wp2
  all_goals (go_ret; exact ⟨ret_bool (by unfold isDig; rw [Bool.eq_iff_iff]; simp; omega), rfl⟩)
/-- '[]byte(s)': a new row with the text's bytes. -/
theorem run_bytes (s : ByteArray) (w : World) : ∃ (c : Nat) (w1 : World), (convert 9 128 (.string s)).run Tryz.prog w = .ok (.slice (some ⟨w.heap.size, 0, none⟩) s.size c) w1 ∧ Below w.heap.size w w1 ∧
    ∀ (k : Nat) (h : k < s.size), w1.cell? ⟨w.heap.size, k, none⟩ = some (.int .u8 (s[k].toNat : Int)) := by
  have h := run_bytes_of_string (P := Tryz.prog) w 9 128 5 s Tryz.underlying9 Tryz.underlying128 Tryz.underlying5
  refine ⟨_, _, h, ((Below.refl _ _).drew).alloc (by simp) _, fun k hk => ?_⟩
  have e : w.heap.size = w.drew.heap.size := rfl
  rw [e, World.cell?_alloc_mark, bytesRow_at s _ k hk]
  rfl

set_option maxHeartbeats 400000 in
theorem name_Plain_full (s : ByteArray) (w : World) (h : 60 < s.size) (hs : s.size ≤ maxLen) : Calls Tryz.prog 69 #[.string s] w fun e w' => e = .returned (errV (textFault s)) ∧ Below w.heap.size w w' := by
  have H := Lib.hid (show textFault s = 4 by unfold textFault; rw [if_pos h])
  unfold maxLen at hs
  go_enter Tryz.func69, Tryz.ntmps69
  go_wp2
  go_ret
  exact ⟨by rw [H.out]; rfl, Below.refl _ _⟩

set_option maxRecDepth 100000 in
set_option maxHeartbeats 400000 in
theorem name_Plain_short (s : ByteArray) (w : World) (hs : s.size ≤ 60) : Calls Tryz.prog 69 #[.string s] w fun e w' => e = .returned (errV (textFault s)) ∧ Below w.heap.size w w' := by
  have H := Lib.hid (show textFault s = if s.data.toList.all isPrtB then 0 else 1 by unfold textFault; rw [if_neg (by omega)])
  obtain ⟨c, w1, hrun, hb, hcell⟩ := run_bytes s w
  have HC := Lib.hid hcell
  clear hcell
  go_enter Tryz.func69, Tryz.ntmps69
  go_wp2
  clear hrun
  go_loop [2, 4, 12] (fun r _ i => ∃ k : Nat, k ≤ s.size ∧ i = .int .i64 k ∧ r = .nilIface ∧ Hid ((s.data.toList.take k).all isPrtB = true)) (fun _ _ i => s.size - (intOf i).toNat)
  case atStart => exact ⟨0, Nat.zero_le _, rfl, rfl, by simp [Hid]⟩
  case round =>
    obtain ⟨k, hk, rfl, rfl, hall⟩ := hrel
    by_cases hlt : k < s.size
    · have hc := HC.out k hlt
      by_cases hp : 32 ≤ (s[k].toNat : Int) ∧ (s[k].toNat : Int) ≤ 126
      · have H2 := Lib.hid (show (s.data.toList.take (k + 1)).all isPrtB = true by
          rw [all_succ s isPrtB hlt, hall.out, Bool.true_and]; unfold isPrtB isPrt; simp; omega)
        obtain ⟨hp1, hp2⟩ := hp
        go_wp2
        go_round
        case rel => exact ⟨k + 1, by omega, by go_num, rfl, H2⟩
        case measure => simp [intOf]; omega
      · have H2 := Lib.hid (show s.data.toList.all isPrtB = false from all_stop hlt (by unfold isPrtB isPrt; rw [Bool.eq_false_iff]; simp; omega))
        by_cases hq : (s[k].toNat : Int) < 32
        · clear hp
          go_wp2
          go_ret
          exact ⟨by rw [H.out, H2.out]; rfl, hb⟩
        · have hq2 : 126 < (s[k].toNat : Int) := by omega
          clear hp
          go_wp2
          go_ret
          exact ⟨by rw [H.out, H2.out]; rfl, hb⟩
    · have H2 := Lib.hid (show s.data.toList.all isPrtB = true from (all_end (k := k) (by omega)).symm.trans hall.out)
      clear hall
      go_wp2
      go_ret
      exact ⟨by rw [H.out, H2.out]; rfl, hb⟩
theorem name_Plain (s : ByteArray) (w : World) (hs : s.size ≤ maxLen) : Calls Tryz.prog 69 #[.string s] w fun e w' => e = .returned (errV (textFault s)) ∧ Below w.heap.size w w' := by
  by_cases h : 60 < s.size
  · exact name_Plain_full s w h hs
  · exact name_Plain_short s w (by omega)

set_option maxHeartbeats 400000 in
theorem name_Check_empty (s : ByteArray) (w : World) (h : s.size = 0) : Calls Tryz.prog 28 #[.string s] w fun e w' => e = .returned (errV (nameFault s)) ∧ Below w.heap.size w w' := by
  have H := Lib.hid (show nameFault s = 1 by unfold nameFault; rw [nameOk_empty h]; rfl)
  have h1 : s = ⟨#[]⟩ := bytes_ext (List.eq_nil_of_length_eq_zero (by rw [Array.length_toList]; exact h))
  clear h
  subst h1
  go_enter Tryz.func28, Tryz.ntmps28
  go_wp2
  go_ret
  exact ⟨by rw [H.out]; rfl, Below.refl _ _⟩

theorem not_empty {s : ByteArray} (h : 0 < s.size) : s.toList = [] ↔ False := by
  rw [ByteArray.toList_eq]
  constructor
  · intro h'
    have : s.data.toList.length = 0 := by rw [h']; rfl
    rw [Array.length_toList] at this
    exact absurd (show s.size = 0 from this) (by omega)
  · exact False.elim

set_option maxHeartbeats 400000 in
theorem name_Check_first (s : ByteArray) (w : World) (h : 0 < s.size) (hl : isLet (s[0].toNat : Int) = false) : Calls Tryz.prog 28 #[.string s] w fun e w' => e = .returned (errV (nameFault s)) ∧ Below w.heap.size w w' := by
  have H := Lib.hid (show nameFault s = 1 by unfold nameFault; rw [nameOk_first h hl]; rfl)
  have he : s.toList.isEmpty = false := by rw [List.isEmpty_eq_false_iff]; exact fun q => (not_empty h).1 q
  have he2 : ¬ s.toList = [] := fun q => (not_empty h).1 q
  have C1 := Lib.hid (fun w => name_letter (s[0].toNat : Int) w (by omega) (by have := s[0].toNat_lt; omega))
  rw [hl] at C1
  clear hl
  go_enter Tryz.func28, Tryz.ntmps28
  go_wp2_with (go_at_call 66; refine (C1.out _).mono ?_; rintro e w' ⟨rfl, rfl⟩)
  go_ret
  exact ⟨by rw [H.out]; rfl, Below.refl _ _⟩

set_option maxRecDepth 100000 in
set_option maxHeartbeats 1000000 in
theorem name_Check_rest (s : ByteArray) (w : World) (h : 0 < s.size) (hs : s.size ≤ maxLen) (hl : isLet (s[0].toNat : Int) = true) : Calls Tryz.prog 28 #[.string s] w fun e w' => e = .returned (errV (nameFault s)) ∧ Below w.heap.size w w' := by
  have H := Lib.hid (show nameFault s = if s.data.toList.all isWrd then (if 20 < s.size then 4 else 0) else 1 by unfold nameFault; rw [nameOk_all h hl])
  have he : s.toList.isEmpty = false := by rw [List.isEmpty_eq_false_iff]; exact fun q => (not_empty h).1 q
  have he2 : ¬ s.toList = [] := fun q => (not_empty h).1 q
  have C1 := Lib.hid (fun w => name_letter (s[0].toNat : Int) w (by omega) (by have := s[0].toNat_lt; omega))
  rw [hl] at C1
  clear hl
  unfold maxLen at hs
  obtain ⟨c, w1, hrun, hb, hcell⟩ := run_bytes s w
  have HC := Lib.hid hcell
  clear hcell
  go_enter Tryz.func28, Tryz.ntmps28
  go_wp2_with (go_at_call 66; refine (C1.out _).mono ?_; rintro e w' ⟨rfl, rfl⟩)
  clear hrun C1
  go_loop [2, 4, 17] (fun r _ i => ∃ k : Nat, k ≤ s.size ∧ i = .int .i64 k ∧ r = .nilIface ∧ Hid ((s.data.toList.take k).all isWrd = true)) (fun _ _ i => s.size - (intOf i).toNat)
  case atStart => exact ⟨0, Nat.zero_le _, rfl, rfl, by simp [Hid]⟩
  case round =>
    obtain ⟨k, hk, rfl, rfl, hall⟩ := hrel
    by_cases hlt : k < s.size
    · have hc := HC.out k hlt
      have C1 := Lib.hid (fun w => name_letter (s[k].toNat : Int) w (by omega) (by have := s[k].toNat_lt; omega))
      have C2 := Lib.hid (fun w => name_digit (s[k].toNat : Int) w (by omega) (by have := s[k].toNat_lt; omega))
      have hst : isWrd s[k] = (isLet (s[k].toNat : Int) || isDig (s[k].toNat : Int)) := rfl
      have G1 := Lib.hid (fun q : isWrd s[k] = true => (show (s.data.toList.take (k + 1)).all isWrd = true by rw [all_succ s isWrd hlt, hall.out, Bool.true_and, q]))
      have G2 := Lib.hid (fun q : isWrd s[k] = false => (all_stop hlt q : s.data.toList.all isWrd = false))
      rw [hst] at G1 G2
      clear hst hall
      rcases hx : isLet (s[k].toNat : Int) with _ | _ <;> rcases hy : isDig (s[k].toNat : Int) with _ | _ <;> rw [hx] at C1 G1 G2 <;> rw [hy] at C2 G1 G2 <;> clear hx hy
      all_goals go_wp2_with (first | (go_at_call 66; refine (C1.out _).mono ?_; rintro e w' ⟨rfl, rfl⟩) | (go_at_call 67; refine (C2.out _).mono ?_; rintro e w' ⟨rfl, rfl⟩))
      · go_ret
        exact ⟨by rw [H.out, G2.out rfl]; rfl, hb⟩
      all_goals
        go_round
        case rel => exact ⟨k + 1, by omega, by go_num, rfl, G1.out rfl⟩
        case measure => simp [intOf]; omega
    · have H2 := Lib.hid (show s.data.toList.all isWrd = true from (all_end (k := k) (by omega)).symm.trans hall.out)
      clear hall
      by_cases h20 : 20 < s.size
      · have H3 := Lib.hid (show nameFault s = 4 by rw [H.out, H2.out, if_pos rfl, if_pos h20])
        clear H H2
        go_wp2
        go_ret
        exact ⟨by rw [H3.out]; rfl, hb⟩
      · have H3 := Lib.hid (show nameFault s = 0 by rw [H.out, H2.out, if_pos rfl, if_neg h20])
        clear H H2
        go_wp2
        go_ret
        exact ⟨by rw [H3.out]; rfl, hb⟩
theorem name_Check (s : ByteArray) (w : World) (hs : s.size ≤ maxLen) : Calls Tryz.prog 28 #[.string s] w fun e w' => e = .returned (errV (nameFault s)) ∧ Below w.heap.size w w' := by
  by_cases h : s.size = 0
  · exact name_Check_empty s w h
  · rcases hl : isLet ((s[0]'(by omega)).toNat : Int) with _ | _
    · exact name_Check_first s w (by omega) hl
    · exact name_Check_rest s w (by omega) hs hl

end Go.Proofs.YtnolmlhcikcceaaGreatDoor
namespace Go.Proofs.YtnolmlhcikcceaaGreatDoor
open Go.RowKit Go.Wk
set_option maxRecDepth 100000

theorem empty_or (s : ByteArray) : s = ⟨#[]⟩ ∨ (s.toList.isEmpty = false ∧ (¬ s.toList = []) ∧ noB s = false) := by
  by_cases h : 0 < s.size
  · exact .inr ⟨by rw [List.isEmpty_eq_false_iff]; exact fun q => (not_empty h).1 q, fun q => (not_empty h).1 q, by unfold noB; rw [decide_eq_false_iff_not]; omega⟩
  · exact .inl (bytes_ext (List.eq_nil_of_length_eq_zero (by rw [Array.length_toList]; exact (by omega : s.size = 0))))
theorem noB_empty : noB ⟨#[]⟩ = true := rfl
theorem below_box2 {w w1 : World} {o : Obj} (h : Below (w.alloc o).heap.size (w.alloc o) w1) : Below w.heap.size w w1 := (below_box w o).trans (h.mono (by simp))

theorem shaped_bool (n : Int) (s t : ByteArray) (w : World) :
    Calls Tryz.prog 146 #[.agg #[.int .i64 1, .int .i64 n, .string s, .string t]] w fun e w' => e = .returned (.bool ((decide (n = 0) || decide (n = 1)) && noB s && noB t)) ∧ Below w.heap.size w w' := by
  by_cases h0 : n = 0
  · subst h0
    rcases empty_or s with rfl | ⟨s1, s2, s3⟩ <;> rcases empty_or t with rfl | ⟨t1, t2, t3⟩
    all_goals
      go_enter Tryz.func146, Tryz.ntmps146
      go_wp2
      go_ret
      exact ⟨ret_bool (by simp [*, noB_empty]), below_box _ _⟩
  · by_cases h1 : n = 1
    · subst h1
      clear h0
      rcases empty_or s with rfl | ⟨s1, s2, s3⟩ <;> rcases empty_or t with rfl | ⟨t1, t2, t3⟩
      all_goals
        go_enter Tryz.func146, Tryz.ntmps146
        go_wp2
        go_ret
        exact ⟨ret_bool (by simp [*, noB_empty]), below_box _ _⟩
    · have e0 : (n == 0) = false := beq_eq_false_iff_ne.2 h0
      have e1 : (n == 1) = false := beq_eq_false_iff_ne.2 h1
      go_enter Tryz.func146, Tryz.ntmps146
      go_wp2
      go_ret
      exact ⟨ret_bool (by simp [h0, h1]), below_box _ _⟩
theorem shaped_num (n : Int) (s t : ByteArray) (w : World) :
    Calls Tryz.prog 146 #[.agg #[.int .i64 2, .int .i64 n, .string s, .string t]] w fun e w' => e = .returned (.bool (noB s && noB t)) ∧ Below w.heap.size w w' := by
  rcases empty_or s with rfl | ⟨s1, s2, s3⟩ <;> rcases empty_or t with rfl | ⟨t1, t2, t3⟩
  all_goals
    go_enter Tryz.func146, Tryz.ntmps146
    go_wp2
    go_ret
    exact ⟨ret_bool (by simp [*, noB_empty]), below_box _ _⟩

theorem keep_alloc {w w1 : World} {o : Obj} (hb : Below (w.alloc o).heap.size (w.alloc o) w1) (k : Nat) (v : Value) (h : (w.alloc o).cell? ⟨w.heap.size, k, none⟩ = some v) : w1.cell? ⟨w.heap.size, k, none⟩ = some v :=
  (hb.cell (by simp)).trans h

theorem shaped_text (n : Int) (s t : ByteArray) (w : World) (hs : s.size ≤ maxLen) :
    Calls Tryz.prog 146 #[.agg #[.int .i64 3, .int .i64 n, .string s, .string t]] w fun e w' => e = .returned (.bool (decide (n = 0) && noB t && decide (textFault s = 0))) ∧ Below w.heap.size w w' := by
  have P := Lib.hid (fun w => name_Plain s w hs)
  by_cases h0 : n = 0
  · subst h0
    rcases empty_or t with rfl | ⟨t1, t2, t3⟩
    · by_cases h1 : textFault s = 0
      · rw [h1, errV_zero] at P
        go_enter Tryz.func146, Tryz.ntmps146
        go_wp2_with fail
        refine (P.out _).mono ?_
        rintro e w1 ⟨rfl, hb⟩
        go_wp2
        go_ret
        exact ⟨ret_bool (by simp [h1, noB_empty]), below_box2 hb⟩
      · rw [errV_ne h1] at P
        go_enter Tryz.func146, Tryz.ntmps146
        go_wp2_with fail
        refine (P.out _).mono ?_
        rintro e w1 ⟨rfl, hb⟩
        go_wp2
        go_ret
        exact ⟨ret_bool (by simp [h1]), below_box2 hb⟩
    · go_enter Tryz.func146, Tryz.ntmps146
      go_wp2
      go_ret
      exact ⟨ret_bool (by simp [t3]), below_box _ _⟩
  · have e0 : (n == 0) = false := beq_eq_false_iff_ne.2 h0
    go_enter Tryz.func146, Tryz.ntmps146
    go_wp2
    go_ret
    exact ⟨ret_bool (by simp [h0]), below_box _ _⟩
theorem shaped_field (n : Int) (s t : ByteArray) (w : World) (hs : s.size ≤ maxLen) :
    Calls Tryz.prog 146 #[.agg #[.int .i64 7, .int .i64 n, .string s, .string t]] w fun e w' => e = .returned (.bool (decide (n = 0) && noB t && decide (nameFault s = 0))) ∧ Below w.heap.size w w' := by
  have P := Lib.hid (fun w => name_Check s w hs)
  by_cases h0 : n = 0
  · subst h0
    rcases empty_or t with rfl | ⟨t1, t2, t3⟩
    · by_cases h1 : nameFault s = 0
      · rw [h1, errV_zero] at P
        go_enter Tryz.func146, Tryz.ntmps146
        go_wp2_with fail
        refine (P.out _).mono ?_
        rintro e w1 ⟨rfl, hb⟩
        go_wp2
        go_ret
        exact ⟨ret_bool (by simp [h1, noB_empty]), below_box2 hb⟩
      · rw [errV_ne h1] at P
        go_enter Tryz.func146, Tryz.ntmps146
        go_wp2_with fail
        refine (P.out _).mono ?_
        rintro e w1 ⟨rfl, hb⟩
        go_wp2
        go_ret
        exact ⟨ret_bool (by simp [h1]), below_box2 hb⟩
    · go_enter Tryz.func146, Tryz.ntmps146
      go_wp2
      go_ret
      exact ⟨ret_bool (by simp [t3]), below_box _ _⟩
  · have e0 : (n == 0) = false := beq_eq_false_iff_ne.2 h0
    go_enter Tryz.func146, Tryz.ntmps146
    go_wp2
    go_ret
    exact ⟨ret_bool (by simp [h0]), below_box _ _⟩
theorem shaped_ent (n : Int) (s t : ByteArray) (w : World) (hs : s.size ≤ maxLen) (ht : t.size ≤ maxLen) :
    Calls Tryz.prog 146 #[.agg #[.int .i64 4, .int .i64 n, .string s, .string t]] w fun e w' => e = .returned (.bool (decide (n = 0) && decide (nameFault s = 0) && decide (textFault t = 0))) ∧ Below w.heap.size w w' := by
  have P := Lib.hid (fun w => name_Check s w hs)
  have T := Lib.hid (fun w => name_Plain t w ht)
  by_cases h0 : n = 0
  · subst h0
    by_cases h1 : nameFault s = 0
    · rw [h1, errV_zero] at P
      by_cases h2 : textFault t = 0
      · rw [h2, errV_zero] at T
        go_enter Tryz.func146, Tryz.ntmps146
        go_wp2_with fail
        refine (P.out _).mono ?_
        rintro e w1 ⟨rfl, hb⟩
        have c3 := keep_alloc hb 3 (.string t) (by simp)
        have HB := Lib.hid (below_box2 hb)
        clear hb
        go_wp2_with fail
        refine (T.out _).mono ?_
        rintro e w2 ⟨rfl, hb2⟩
        go_wp2
        go_ret
        exact ⟨ret_bool (by simp [h1, h2]), HB.out.trans (hb2.mono HB.out.size)⟩
      · rw [errV_ne h2] at T
        go_enter Tryz.func146, Tryz.ntmps146
        go_wp2_with fail
        refine (P.out _).mono ?_
        rintro e w1 ⟨rfl, hb⟩
        have c3 := keep_alloc hb 3 (.string t) (by simp)
        have HB := Lib.hid (below_box2 hb)
        clear hb
        go_wp2_with fail
        refine (T.out _).mono ?_
        rintro e w2 ⟨rfl, hb2⟩
        go_wp2
        go_ret
        exact ⟨ret_bool (by simp [h1, h2]), HB.out.trans (hb2.mono HB.out.size)⟩
    · rw [errV_ne h1] at P
      go_enter Tryz.func146, Tryz.ntmps146
      go_wp2_with fail
      refine (P.out _).mono ?_
      rintro e w1 ⟨rfl, hb⟩
      go_wp2
      go_ret
      exact ⟨ret_bool (by simp [h1]), below_box2 hb⟩
  · have e0 : (n == 0) = false := beq_eq_false_iff_ne.2 h0
    go_enter Tryz.func146, Tryz.ntmps146
    go_wp2
    go_ret
    exact ⟨ret_bool (by simp [h0]), below_box _ _⟩
theorem shaped_many (o n : Int) (s t : ByteArray) (w : World) (ho : o = 5 ∨ o = 6) :
    Calls Tryz.prog 146 #[.agg #[.int .i64 o, .int .i64 n, .string s, .string t]] w fun e w' => e = .returned (.bool (decide (0 ≤ n) && noB s && noB t)) ∧ Below w.heap.size w w' := by
  by_cases h0 : 0 ≤ n
  · rcases ho with rfl | rfl <;> rcases empty_or s with rfl | ⟨s1, s2, s3⟩ <;> rcases empty_or t with rfl | ⟨t1, t2, t3⟩
    all_goals
      go_enter Tryz.func146, Tryz.ntmps146
      go_wp2
      go_ret
      exact ⟨ret_bool (by simp [*, noB_empty]), below_box _ _⟩
  · rcases ho with rfl | rfl
    all_goals
      go_enter Tryz.func146, Tryz.ntmps146
      go_wp2
      go_ret
      exact ⟨ret_bool (by rw [decide_eq_false (by omega)]; rfl), below_box _ _⟩
theorem shaped_other (o n : Int) (s t : ByteArray) (w : World) (h1 : (o == 1) = false) (h2 : (o == 2) = false) (h3 : (o == 3) = false) (h4 : (o == 4) = false) (h5 : (o == 5) = false) (h6 : (o == 6) = false) (h7 : (o == 7) = false) :
    Calls Tryz.prog 146 #[.agg #[.int .i64 o, .int .i64 n, .string s, .string t]] w fun e w' => e = .returned (.bool false) ∧ Below w.heap.size w w' := by
  go_enter Tryz.func146, Tryz.ntmps146
  go_wp2
  go_ret
  exact ⟨rfl, below_box _ _⟩
theorem val_shaped (x : Nd) (w : World) (hs : x.s.size ≤ maxLen) (ht : x.t.size ≤ maxLen) :
    Calls Tryz.prog 146 #[ndV x] w fun e w' => e = .returned (.bool (shapedN x)) ∧ Below w.heap.size w w' := by
  obtain ⟨o, n, s, t⟩ := x
  unfold ndV shapedN
  simp only at hs ht ⊢
  by_cases h1 : o = 1
  · subst h1; rw [if_pos rfl]; exact shaped_bool n s t w
  rw [if_neg h1]
  by_cases h2 : o = 2
  · subst h2; rw [if_pos rfl]; exact shaped_num n s t w
  rw [if_neg h2]
  by_cases h3 : o = 3
  · subst h3; rw [if_pos rfl]; exact shaped_text n s t w hs
  rw [if_neg h3]
  by_cases h4 : o = 4
  · subst h4; rw [if_pos rfl]; exact shaped_ent n s t w hs ht
  rw [if_neg h4]
  by_cases h5 : o = 5 ∨ o = 6
  · rw [if_pos h5]; exact shaped_many o n s t w h5
  rw [if_neg h5]
  by_cases h7 : o = 7
  · subst h7; rw [if_pos rfl]; exact shaped_field n s t w hs
  rw [if_neg h7]
  exact shaped_other o n s t w (beq_eq_false_iff_ne.2 h1) (beq_eq_false_iff_ne.2 h2) (beq_eq_false_iff_ne.2 h3) (beq_eq_false_iff_ne.2 h4) (beq_eq_false_iff_ne.2 fun q => h5 (.inl q)) (beq_eq_false_iff_ne.2 fun q => h5 (.inr q)) (beq_eq_false_iff_ne.2 h7)
end Go.Proofs.YtnolmlhcikcceaaGreatDoor
namespace Go.Proofs.YtnolmlhcikcceaaGreatDoor
open Go.RowKit Go.Wk Go.Sort
set_option maxRecDepth 100000

theorem add_add (a : Addr) (x y : Nat) : (a.add x).add y = a.add (x + y) := by
  unfold Addr.add
  by_cases hx : x = 0 <;> by_cases hy : y = 0 <;> simp [hx, hy, Nat.add_assoc]
theorem add_block (a : Addr) (x : Nat) : (a.add x).block = a.block := by unfold Addr.add; split <;> rfl
theorem grown_refl (w : World) (r : Option Nat) : w.grownBy w r := ⟨rfl, rfl, rfl, Nat.le_refl _, fun _ _ _ => rfl⟩
theorem grown_trans {a b c : World} {r : Option Nat} (h : a.grownBy b r) (k : b.grownBy c r) : a.grownBy c r :=
  ⟨k.os.trans h.os, k.tape.trans h.tape, k.output.trans h.output, Nat.le_trans h.size k.size, fun i hi hn => (k.block i (Nat.lt_of_lt_of_le hi h.size) hn).trans (h.block i hi hn)⟩
/-- The nodes are read as before: their block is none of the one that turned. -/
theorem NdsAt.but {w w' : World} {A : Option Addr} {P : List Nd} {R : Nat} (h : NdsAt w A P) (hg : w.grownBy w' (some R)) (hR : ∀ a, A = some a → a.block ≠ R) : NdsAt w' A P := by
  intro k x hx
  obtain ⟨a, h1, h2, h3, h4, h5⟩ := h k x hx
  have hn : some a.block ≠ some R := fun e => hR a h1 (by injection e)
  have hb := add_block a (k * 4)
  exact ⟨a, h1, hg.cell h2 (by rw [hb]; exact hn), hg.cell h3 (by rw [hb]; exact hn), hg.cell h4 (by rw [hb]; exact hn), hg.cell h5 (by rw [hb]; exact hn)⟩
/-- A part of nodes. -/
theorem NdsAt.seg {w : World} {a : Addr} {P : List Nd} (h : NdsAt w (some a) P) (i j : Nat) : NdsAt w (some (a.add (i * 4))) (seg P i j) := by
  intro k x hx
  have hx' : P[i + k]? = some x := by
    unfold Wk.seg at hx
    rw [List.getElem?_take] at hx
    split at hx
    · rw [List.getElem?_drop] at hx; exact hx
    · cases hx
  obtain ⟨b, h1, h2, h3, h4, h5⟩ := h (i + k) x hx'
  injection h1 with h1
  subst h1
  have e : (a.add (i * 4)).add (k * 4) = a.add ((i + k) * 4) := by rw [add_add, Nat.add_mul]
  exact ⟨_, rfl, by rw [e]; exact h2, by rw [e]; exact h3, by rw [e]; exact h4, by rw [e]; exact h5⟩

/-- The numbers and texts of nodes are such as Go has. -/
structure NdOk (x : Nd) : Prop where
  s : x.s.size ≤ maxLen
  t : x.t.size ≤ maxLen
  lo : -9223372036854775808 ≤ x.n
  hi : x.n ≤ 9223372036854775807
def NdsOk (P : List Nd) : Prop := ∀ x ∈ P, NdOk x
theorem NdsOk.at {P : List Nd} (h : NdsOk P) {k : Nat} (hk : k < P.length) : NdOk P[k] := h _ (List.getElem_mem hk)

/-- val's reader: its nodes and its place. -/
structure RdAt (w : World) (R : Nat) (v : Value) (p : Nat) : Prop where
  c0 : w.cell? ⟨R, 0, none⟩ = some v
  c1 : w.cell? ⟨R, 1, none⟩ = some (.int .i64 p)
  f1 : w.frozen? ⟨R, 1, none⟩ = false
theorem RdAt.keep {w w' : World} {R p : Nat} {v : Value} (h : RdAt w R v p) (hb : Below w.heap.size w w') : RdAt w' R v p :=
  ⟨cell_keep hb h.c0, cell_keep hb h.c1, (hb.frozen (p := ⟨R, 1, none⟩) (block_lt_of_cell h.c1)).trans h.f1⟩
theorem RdAt.lt {w : World} {R p : Nat} {v : Value} (h : RdAt w R v p) : R < w.heap.size := block_lt_of_cell h.c0
theorem RdAt.put {w : World} {R p : Nat} {v : Value} (h : RdAt w R v p) (q : Nat) : RdAt (w.setCell ⟨R, 1, none⟩ (.int .i64 q)) R v q := by
  refine ⟨?_, ?_, ?_⟩
  · exact (World.cell?_setCell_other _ _ _ _ (by simp)).trans h.c0
  · exact World.cell?_setCell_same _ _ _ h.c1
  · rw [World.frozen?_setCell]; exact h.f1

abbrev wrongP : List PanicEntry := [{ v := .iface 178 (.agg #[]), recovered := false }]
/-- What part tells. -/
def PartPost (R : Nat) (A : Option Addr) (n c p : Nat) (w : World) : Option Nat → Ending → World → Prop
  | some e, x, w' => x = .returned (.slice (A.map fun a => a.add (p * 4)) (e - p) (c - p)) ∧ RdAt w' R (.slice A n c) e ∧ w.grownBy w' (some R)
  | none, x, w' => x = .panicked wrongP ∧ w.grownBy w' (some R)

set_option maxRecDepth 100000 in
theorem part_out (A : Option Addr) (n c p R : Nat) (w : World) (hr : RdAt w R (.slice A n c) p) (hp : n ≤ p) :
    Calls Tryz.prog 112 #[.pointer (some ⟨R, 0, none⟩)] w (PartPost R A n c p w none) := by
  obtain ⟨c0, c1, f1⟩ := hr
  go_enter Tryz.func112, Tryz.ntmps112
  go_wp2_with fail
  exact ⟨rfl, rfl, grown_refl _ _⟩

set_option maxRecDepth 100000 in
theorem part_bad (a : Addr) (P : List Nd) (n c p R : Nat) (w : World) (hr : RdAt w R (.slice (some a) n c) p) (hn : n = P.length) (hp : p < n) (hP : NdsAt w (some a) P) (hO : NdsOk P) (hs : shapedN (P[p]'(by omega)) = false) :
    Calls Tryz.prog 112 #[.pointer (some ⟨R, 0, none⟩)] w (PartPost R (some a) n c p w none) := by
  obtain ⟨c0, c1, f1⟩ := hr
  have hp' : p < P.length := by omega
  obtain ⟨b, hb0, q1, q2, q3, q4⟩ := hP p P[p] (List.getElem?_eq_getElem hp')
  injection hb0 with hb0
  subst hb0
  have S := Lib.hid (fun w => val_shaped P[p] w (hO.at hp').s (hO.at hp').t)
  rw [hs] at S
  unfold ndV at S
  generalize P[p] = x at *
  clear hO hP hn
  go_enter Tryz.func112, Tryz.ntmps112
  go_wp2_with fail
  refine (S.out _).mono ?_
  rintro e w1 ⟨rfl, hb⟩
  go_wp2_with fail
  exact ⟨rfl, rfl, grown_of_below hb _⟩

theorem RdAt.drewN {w : World} {R p : Nat} {v : Value} (h : RdAt w R v p) (k : Nat) : RdAt (w.drewN k) R v p := ⟨h.c0, h.c1, h.f1⟩
theorem grown_drewN {w w1 : World} {r : Option Nat} (h : w.grownBy w1 r) (k : Nat) : w.grownBy (w1.drewN k) r := ⟨h.os, h.tape, h.output, h.size, h.block⟩
theorem grown_alloc {w w1 : World} {r : Option Nat} (h : w.grownBy w1 r) (o : Obj) : w.grownBy (w1.alloc o) r := grown_trans h (grown_of_below ((Below.refl _ _).alloc (Nat.le_refl _) o) _)
/-- Behind the box of a node and the place's step. -/
theorem rd_step {w w1 : World} {A : Option Addr} {R n c p : Nat} (hr : RdAt w R (.slice A n c) p) (hb : Below w.heap.size w w1) (o : Obj) :
    RdAt ((w1.setCell ⟨R, 1, none⟩ (.int .i64 ((p : Int) + 1))).alloc o) R (.slice A n c) (p + 1) ∧ w.grownBy ((w1.setCell ⟨R, 1, none⟩ (.int .i64 ((p : Int) + 1))).alloc o) (some R) := by
  have h1 := ((hr.keep hb).put (p + 1)).keep ((Below.refl _ _).alloc (Nat.le_refl _) o)
  exact ⟨h1, grown_alloc (grown_trans (grown_of_below hb _) (grown_setCell _ ⟨R, 1, none⟩ _)) o⟩

set_option maxRecDepth 100000 in
set_option maxHeartbeats 1000000 in
theorem part_leaf (a : Addr) (P : List Nd) (n c p R : Nat) (w : World) (hr : RdAt w R (.slice (some a) n c) p) (hn : n = P.length) (hc : n ≤ c) (hm : n ≤ maxLen) (hp : p < n) (hP : NdsAt w (some a) P) (hO : NdsOk P) (hs : shapedN (P[p]'(by omega)) = true)
    (h5 : ((P[p]'(by omega)).op == 5) = false) (h6 : ((P[p]'(by omega)).op == 6) = false) (h7 : ((P[p]'(by omega)).op == 7) = false) :
    Calls Tryz.prog 112 #[.pointer (some ⟨R, 0, none⟩)] w (PartPost R (some a) n c p w (some (p + 1))) := by
  unfold maxLen at hm
  have HR := Lib.hid hr
  have HS := Lib.hid (fun w1 (hb : Below w.heap.size w w1) o => rd_step hr hb o)
  obtain ⟨c0, c1, f1⟩ := hr
  have hp' : p < P.length := by omega
  obtain ⟨b, hb0, q1, q2, q3, q4⟩ := hP p P[p] (List.getElem?_eq_getElem hp')
  injection hb0 with hb0
  subst hb0
  have S := Lib.hid (fun w => val_shaped P[p] w (hO.at hp').s (hO.at hp').t)
  rw [hs] at S
  unfold ndV at S
  generalize P[p] = x at *
  clear hO hP hn
  go_enter Tryz.func112, Tryz.ntmps112
  go_wp2_with fail
  refine (S.out _).mono ?_
  rintro e w1 ⟨rfl, hb⟩
  replace c0 := cell_keep hb c0
  replace c1 := cell_keep hb c1
  replace q1 := cell_keep hb q1
  replace q2 := cell_keep hb q2
  replace q3 := cell_keep hb q3
  replace q4 := cell_keep hb q4
  have f1' := (hb.frozen (p := ⟨R, 1, none⟩) HR.out.lt).trans f1
  clear f1
  have hR := Nat.lt_of_lt_of_le HR.out.lt hb.size
  have HB := Lib.hid hb
  clear hb
  go_wp2_with fail
  go_quiet (fail)
  go_wp2_with fail
  go_ret
  obtain ⟨s1, s2⟩ := HS.out _ HB.out (.cells #[.int .i64 x.op, .int .i64 x.n, .string x.s, .string x.t] 35)
  exact ⟨by rw [show p + 1 - p = 1 by omega]; rfl, s1.drewN _, grown_drewN s2 _⟩

/-- The contract of part, with so much fuel. -/
def PartC (P : List Nd) (A : Option Addr) (n c R : Nat) (m : Nat) : Prop :=
  ∀ (q : Nat) (w : World), RdAt w R (.slice A n c) q → NdsAt w A P → n - q < m → Calls Tryz.prog 112 #[.pointer (some ⟨R, 0, none⟩)] w (PartPost R A n c q w (partEnd P m q))
/-- The part before. -/
def lastV (a : Addr) (c q : Nat) : Option Nat → Value
  | none => .slice none 0 0
  | some l => .slice (some (a.add (l * 4))) (q - l) (c - l)
theorem setLoop_stop {v : List Nd} {f : Nat → Option Nat} {N k : Nat} {last : Option Nat} {q : Nat} (hk : k < N) (h : f q = none) : setLoop v f (N - k) last q = none := by
  obtain ⟨j, hj⟩ : ∃ j, N - k = j + 1 := ⟨N - k - 1, by omega⟩
  rw [hj]; simp only [setLoop, h]
theorem setLoop_fall {v : List Nd} {f : Nat → Option Nat} {N k : Nat} {last : Option Nat} {q e : Nat} (hk : k < N) (h : f q = some e) (hr : rises v last q e = false) : setLoop v f (N - k) last q = none := by
  obtain ⟨j, hj⟩ : ∃ j, N - k = j + 1 := ⟨N - k - 1, by omega⟩
  rw [hj]; simp only [setLoop, h, hr, Bool.false_eq_true, if_false]
theorem setLoop_next {v : List Nd} {f : Nat → Option Nat} {N k : Nat} {last : Option Nat} {q e : Nat} (hk : k < N) (h : f q = some e) (hr : rises v last q e = true) : setLoop v f (N - k) last q = setLoop v f (N - (k + 1)) (some q) e := by
  obtain ⟨j, hj⟩ : ∃ j, N - k = j + 1 := ⟨N - k - 1, by omega⟩
  rw [hj, show N - (k + 1) = j by omega]; simp only [setLoop, h, hr, if_true]

set_option maxRecDepth 100000 in
set_option maxHeartbeats 4000000 in
theorem part_set (a : Addr) (P : List Nd) (n c p R m : Nat) (w : World) (hr : RdAt w R (.slice (some a) n c) p) (hn : n = P.length) (hc : n ≤ c) (hm : n ≤ maxLen) (hp : p < n) (hP : NdsAt w (some a) P) (hO : NdsOk P) (hs : shapedN (P[p]'(by omega)) = true)
    (h5 : (P[p]'(by omega)).op = 5) (hR : a.block ≠ R) (ih : PartC P (some a) n c R m) (hfu : n - p < m + 1) :
    Calls Tryz.prog 112 #[.pointer (some ⟨R, 0, none⟩)] w (PartPost R (some a) n c p w (setLoop P (partEnd P m) (P[p]'(by omega)).n.toNat none (p + 1))) := by
  have HM := Lib.hid hm
  unfold maxLen at hm
  have HR := Lib.hid hr
  have HS := Lib.hid (fun w1 (hb : Below w.heap.size w w1) o => rd_step hr hb o)
  have HP := Lib.hid hP
  have HN := Lib.hid hn
  have IH := Lib.hid ih
  obtain ⟨c0, c1, f1⟩ := hr
  have hp' : p < P.length := by omega
  obtain ⟨b, hb0, q1, q2, q3, q4⟩ := hP p P[p] (List.getElem?_eq_getElem hp')
  injection hb0 with hb0
  subst hb0
  have S := Lib.hid (fun w => val_shaped P[p] w (hO.at hp').s (hO.at hp').t)
  rw [hs] at S
  unfold ndV at S
  obtain ⟨-, -, hlo, hhi⟩ := hO.at hp'
  rw [h5] at q1 S
  generalize P[p] = x at *
  have hx0 : 0 ≤ x.n := by
    unfold shapedN at hs; rw [h5] at hs; simp at hs; exact hs.1.1
  clear hP hn h5 hs hlo ih
  have hnp : decide (n ≤ p) = false := decide_eq_false (by omega)
  go_enter Tryz.func112, Tryz.ntmps112
  go_wp2_with fail
  refine (S.out _).mono ?_
  rintro e w1 ⟨rfl, hb⟩
  replace c0 := cell_keep hb c0
  replace c1 := cell_keep hb c1
  replace q1 := cell_keep hb q1
  replace q2 := cell_keep hb q2
  replace q3 := cell_keep hb q3
  replace q4 := cell_keep hb q4
  have f1' := (hb.frozen (p := ⟨R, 1, none⟩) HR.out.lt).trans f1
  clear f1
  have hRl := Nat.lt_of_lt_of_le HR.out.lt hb.size
  have HB := Lib.hid hb
  clear hb
  go_wp2_with fail
  obtain ⟨s1, s2⟩ := HS.out _ HB.out (.cells #[.int .i64 5, .int .i64 x.n, .string x.s, .string x.t] 35)
  have S1 := Lib.hid s1
  have S2 := Lib.hid s2
  clear s1 s2 c0 c1 f1' q1 q2 q3 q4 hRl S HS HR
  go_loopw [5, 6, 7, 53] (fun last _ _ i wr => ∃ (k q : Nat) (lo : Option Nat), i = .int .i64 k ∧ (k : Int) ≤ x.n ∧ last = lastV a c q lo ∧ Hid (lo = none ↔ k = 0) ∧ Hid (∀ l, lo = some l → l < q) ∧ q ≤ n ∧ p < q ∧
      Hid (setLoop P (partEnd P m) x.n.toNat none (p + 1) = setLoop P (partEnd P m) (x.n.toNat - k) lo q) ∧ Hid (RdAt wr R (.slice (some a) n c) q) ∧ Hid (w.grownBy wr (some R))) (fun _ _ _ i _ => (x.n - intOf i).toNat)
  case atStart => exact ⟨0, p + 1, none, rfl, hx0, rfl, ⟨fun _ => rfl, fun _ => rfl⟩, (by intro l hl; cases hl), by omega, by omega, rfl, S1.out, S2.out⟩
  case round =>
    obtain ⟨k, q, lo, rfl, hk, rfl, hlo, hlq, hq, hpq, hE, hrd, hgr⟩ := hrel
    by_cases hlt : (k : Int) < x.n
    · have N := Lib.hid (HP.out.but hgr.out (fun a' e => by cases e; exact hR))
      have C := Lib.hid (IH.out q wr hrd.out N.out (by omega))
      rcases hf : partEnd P m q with _ | e
      · have HF := Lib.hid (hE.out.trans (setLoop_stop (by omega) hf))
        rw [hf] at C
        clear hf hE
        go_wp2_with fail
        refine C.out.mono ?_
        rintro e w2 hpost
        obtain ⟨rfl, g2⟩ := hpost
        go_wp2_with fail
        rw [HF.out]
        exact ⟨rfl, rfl, grown_trans hgr.out g2⟩
      · have HF := Lib.hid hf
        have hpe := partEnd_le _ _ _ hf
        rw [← HN.out] at hpe
        rw [hf] at C
        clear hf
        by_cases hk0 : k = 0
        · have hlo0 := hlo.out.2 hk0
          subst hlo0
          have hz : decide (0 < k) = false := decide_eq_false (by omega)
          have HG := Lib.hid (hE.out.trans (setLoop_next (by omega) HF.out rfl))
          clear hE hlo hlq hk0
          unfold lastV
          go_wp2_with fail
          refine C.out.mono ?_
          rintro e' w2 hpost
          obtain ⟨rfl, r2, g2⟩ := hpost
          have R2 := Lib.hid r2
          have G2 := Lib.hid g2
          clear r2 g2
          go_wp2_with fail
          go_roundw
          case rel => exact ⟨k + 1, e, some q, by go_num, by omega, rfl, ⟨(by intro h; cases h), (by intro h; omega)⟩, (by intro l hl; cases hl; exact hpe.1), by omega, by omega, HG.out, R2.out, grown_trans hgr.out G2.out⟩
          case measure => simp [intOf]; omega
        · have hk1 : decide (0 < k) = true := decide_eq_true (by omega)
          obtain ⟨l, rfl⟩ : ∃ l, lo = some l := Option.ne_none_iff_exists'.1 (fun h => hk0 (hlo.out.1 h))
          have hlq' := hlq.out l rfl
          clear hlo hlq hk0
          have V := Lib.hid (fun w2 (g2 : wr.grownBy w2 (some R)) => val_order (some (a.add (l * 4))) (some (a.add (q * 4))) (q - l) (e - q) (c - l) (c - q) (seg P l q) (seg P q e) w2 (seg_length (by rw [← HN.out]; omega)).symm (seg_length (by rw [← HN.out]; omega)).symm (Nat.le_trans (by omega) HM.out) (Nat.le_trans (by omega) HM.out)
            ((N.out.but g2 (fun a' e => by cases e; exact hR)).seg l q) ((N.out.but g2 (fun a' e => by cases e; exact hR)).seg q e))
          unfold lastV
          by_cases hcmp : cmpNds (seg P l q) (seg P q e) < 0
          · have HG := Lib.hid (hE.out.trans (setLoop_next (by omega) HF.out (decide_eq_true hcmp)))
            clear hE
            go_wp2_with fail
            refine C.out.mono ?_
            rintro e' w2 hpost
            obtain ⟨rfl, r2, g2⟩ := hpost
            have R2 := Lib.hid r2
            have G2 := Lib.hid g2
            clear r2 g2
            go_wp2_with fail
            refine (V.out _ G2.out).mono ?_
            rintro e' w3 ⟨rfl, hb3⟩
            have R3 := Lib.hid (R2.out.keep hb3)
            have G3 := Lib.hid (grown_trans G2.out (grown_of_below hb3 _))
            clear hb3
            go_wp2_with fail
            go_roundw
            case rel => exact ⟨k + 1, e, some q, by go_num, by omega, rfl, ⟨(by intro h; cases h), (by intro h; omega)⟩, (by intro l hl; cases hl; exact hpe.1), by omega, by omega, HG.out, R3.out, grown_trans hgr.out G3.out⟩
            case measure => simp [intOf]; omega
          · have HG := Lib.hid (hE.out.trans (setLoop_fall (by omega) HF.out (decide_eq_false hcmp)))
            clear hE
            go_wp2_with fail
            refine C.out.mono ?_
            rintro e' w2 hpost
            obtain ⟨rfl, r2, g2⟩ := hpost
            have G2 := Lib.hid g2
            clear r2 g2
            go_wp2_with fail
            refine (V.out _ G2.out).mono ?_
            rintro e' w3 ⟨rfl, hb3⟩
            go_wp2_with fail
            rw [HG.out]
            exact ⟨rfl, rfl, grown_trans hgr.out (grown_trans G2.out (grown_of_below hb3 _))⟩
    · have HG := Lib.hid (hE.out.trans (by rw [show x.n.toNat - k = 0 by omega]; rfl : _ = some q))
      obtain ⟨d0, d1, d2⟩ := hrd.out
      have RD := Lib.hid hrd.out
      clear hE hlo hlq hrd
      go_wp2_with fail
      go_quiet (fail)
      go_wp2_with fail
      go_ret
      rw [HG.out]
      exact ⟨rfl, RD.out.drewN _, grown_drewN hgr.out _⟩
end Go.Proofs.YtnolmlhcikcceaaGreatDoor
namespace Go.Wk
theorem less_cmp (a b : List UInt8) : Op.bytesLess a b = decide (Lib.compareBytes a b < 0) := by
  induction a generalizing b with
  | nil => cases b <;> simp [Op.bytesLess, Lib.compareBytes]
  | cons x a ih =>
    cases b with
    | nil => simp [Op.bytesLess, Lib.compareBytes]
    | cons y b =>
      simp only [Op.bytesLess, Lib.compareBytes, ih]
      by_cases h1 : x < y
      · simp [h1]
      · by_cases h2 : y < x
        · have : (x == y) = false := by
            rw [beq_eq_false_iff_ne]; intro e; subst e; exact h1 h2
          simp [h1, h2, this]
        · have : x = y := by
            have a1 : ¬ x.toNat < y.toNat := h1
            have a2 : ¬ y.toNat < x.toNat := h2
            exact UInt8.toNat_inj.1 (by omega)
          subst this
          simp [h1]
/-- Texts one not ahead of the other, as the machine asks it. -/
theorem leq_ways (a b : ByteArray) : (cmpB b a < 0 ∧ Op.bytesLess a.toList b.toList = false ∧ (a.toList == b.toList) = false) ∨ (¬ cmpB b a < 0 ∧ Op.bytesLess a.toList b.toList = true) ∨ (¬ cmpB b a < 0 ∧ Op.bytesLess a.toList b.toList = false ∧ (a.toList == b.toList) = true) := by
  rw [less_cmp]
  have e : Lib.compareBytes a.toList b.toList = cmpB a b := by unfold cmpB; rw [ByteArray.toList_eq, ByteArray.toList_eq]
  rw [e]
  have h1 := cmpB_cmp.anti a b
  have h2 := cmpB_cmp.zero a b
  by_cases h : cmpB a b < 0
  · exact .inr (.inl ⟨by omega, by simpa using h⟩)
  · by_cases h0 : cmpB a b = 0
    · exact .inr (.inr ⟨by omega, by simpa using h, by rw [h2.1 h0]; simp⟩)
    · refine .inl ⟨by omega, by simpa using h, ?_⟩
      rw [beq_eq_false_iff_ne]
      intro q
      rw [ByteArray.toList_eq, ByteArray.toList_eq] at q
      exact h0 (h2.2 (bytes_ext q))
theorem recLoop_bad {v : List Nd} {f : Nat → Option Nat} {N k : Nat} {last : ByteArray} {q : Nat} (hk : k < N) (h : fieldOk v last q = none) : recLoop v f (N - k) last q = none := by
  obtain ⟨j, hj⟩ : ∃ j, N - k = j + 1 := ⟨N - k - 1, by omega⟩
  rw [hj]; simp only [recLoop, h]
theorem recLoop_stop {v : List Nd} {f : Nat → Option Nat} {N k : Nat} {last s : ByteArray} {q : Nat} (hk : k < N) (h : fieldOk v last q = some s) (hf : f (q + 1) = none) : recLoop v f (N - k) last q = none := by
  obtain ⟨j, hj⟩ : ∃ j, N - k = j + 1 := ⟨N - k - 1, by omega⟩
  rw [hj]; simp only [recLoop, h, hf]
theorem recLoop_next {v : List Nd} {f : Nat → Option Nat} {N k : Nat} {last s : ByteArray} {q e : Nat} (hk : k < N) (h : fieldOk v last q = some s) (hf : f (q + 1) = some e) : recLoop v f (N - k) last q = recLoop v f (N - (k + 1)) s e := by
  obtain ⟨j, hj⟩ : ∃ j, N - k = j + 1 := ⟨N - k - 1, by omega⟩
  rw [hj, show N - (k + 1) = j by omega]; simp only [recLoop, h, hf]
theorem fieldOk_out {v : List Nd} {last : ByteArray} {p : Nat} (h : v.length ≤ p) : fieldOk v last p = none := by
  unfold fieldOk; rw [List.getElem?_eq_none h]
theorem fieldOk_no {v : List Nd} {last : ByteArray} {p : Nat} (h : p < v.length) (hq : (decide (v[p].op = 7) && shapedN v[p] && decide (cmpB last v[p].s < 0)) = false) : fieldOk v last p = none := by
  unfold fieldOk; rw [List.getElem?_eq_getElem h]; simp only [hq, Bool.false_eq_true, if_false]
theorem fieldOk_yes {v : List Nd} {last : ByteArray} {p : Nat} (h : p < v.length) (hq : (decide (v[p].op = 7) && shapedN v[p] && decide (cmpB last v[p].s < 0)) = true) : fieldOk v last p = some v[p].s := by
  unfold fieldOk; rw [List.getElem?_eq_getElem h]; simp only [hq, if_true]
end Go.Wk
namespace Go.Proofs.YtnolmlhcikcceaaGreatDoor
open Go.RowKit Go.Wk Go.Sort
set_option maxRecDepth 100000

set_option maxRecDepth 100000 in
set_option maxHeartbeats 8000000 in
theorem part_rec (a : Addr) (P : List Nd) (n c p R m : Nat) (w : World) (hr : RdAt w R (.slice (some a) n c) p) (hn : n = P.length) (hc : n ≤ c) (hm : n ≤ maxLen) (hp : p < n) (hP : NdsAt w (some a) P) (hO : NdsOk P) (hs : shapedN (P[p]'(by omega)) = true)
    (h5 : (P[p]'(by omega)).op = 6) (hR : a.block ≠ R) (ih : PartC P (some a) n c R m) (hfu : n - p < m + 1) :
    Calls Tryz.prog 112 #[.pointer (some ⟨R, 0, none⟩)] w (PartPost R (some a) n c p w (recLoop P (partEnd P m) (P[p]'(by omega)).n.toNat .empty (p + 1))) := by
  unfold maxLen at hm
  have HR := Lib.hid hr
  have HS := Lib.hid (fun w1 (hb : Below w.heap.size w w1) o => rd_step hr hb o)
  have HP := Lib.hid hP
  have HN := Lib.hid hn
  have HO := Lib.hid hO
  have IH := Lib.hid ih
  obtain ⟨c0, c1, f1⟩ := hr
  have hp' : p < P.length := by omega
  obtain ⟨b, hb0, q1, q2, q3, q4⟩ := hP p P[p] (List.getElem?_eq_getElem hp')
  injection hb0 with hb0
  subst hb0
  have S := Lib.hid (fun w => val_shaped P[p] w (hO.at hp').s (hO.at hp').t)
  rw [hs] at S
  unfold ndV at S
  obtain ⟨-, -, hlo, hhi⟩ := hO.at hp'
  rw [h5] at q1 S
  generalize P[p] = x at *
  have hx0 : 0 ≤ x.n := by
    unfold shapedN at hs; rw [h5] at hs; simp at hs; exact hs.1.1
  clear hP hn h5 hs hlo ih hO
  have hnp : decide (n ≤ p) = false := decide_eq_false (by omega)
  go_enter Tryz.func112, Tryz.ntmps112
  go_wp2_with fail
  refine (S.out _).mono ?_
  rintro e w1 ⟨rfl, hb⟩
  replace c0 := cell_keep hb c0
  replace c1 := cell_keep hb c1
  replace q1 := cell_keep hb q1
  replace q2 := cell_keep hb q2
  replace q3 := cell_keep hb q3
  replace q4 := cell_keep hb q4
  have f1' := (hb.frozen (p := ⟨R, 1, none⟩) HR.out.lt).trans f1
  clear f1
  have hRl := Nat.lt_of_lt_of_le HR.out.lt hb.size
  have HB := Lib.hid hb
  clear hb
  go_wp2_with fail
  obtain ⟨s1, s2⟩ := HS.out _ HB.out (.cells #[.int .i64 6, .int .i64 x.n, .string x.s, .string x.t] 35)
  have S1 := Lib.hid s1
  have S2 := Lib.hid s2
  clear s1 s2 c0 c1 f1' q1 q2 q3 q4 hRl S HS HR
  go_loopw [8, 74] (fun last i wr => ∃ (k q : Nat) (ls : ByteArray), i = .int .i64 k ∧ (k : Int) ≤ x.n ∧ last = .string ls ∧ q ≤ n ∧ p < q ∧
      Hid (recLoop P (partEnd P m) x.n.toNat .empty (p + 1) = recLoop P (partEnd P m) (x.n.toNat - k) ls q) ∧ Hid (RdAt wr R (.slice (some a) n c) q) ∧ Hid (w.grownBy wr (some R))) (fun _ i _ => (x.n - intOf i).toNat)
  case atStart => exact ⟨0, p + 1, .empty, rfl, hx0, rfl, by omega, by omega, rfl, S1.out, S2.out⟩
  case round =>
    obtain ⟨k, q, ls, rfl, hk, rfl, hq, hpq, hE, hrd, hgr⟩ := hrel
    by_cases hlt : (k : Int) < x.n
    · have N := Lib.hid (HP.out.but hgr.out (fun a' e => by cases e; exact hR))
      have kc0 := cell_regrown hrd.out.c0
      have kc1 := cell_regrown hrd.out.c1
      by_cases hqn : q < n
      · have hq' : q < P.length := by rw [← HN.out]; exact hqn
        obtain ⟨b, hb0, q1, q2, q3, q4⟩ := N.out q P[q] (List.getElem?_eq_getElem hq')
        injection hb0 with hb0
        subst hb0
        have hnq : decide (n ≤ q) = false := decide_eq_false (by omega)
        by_cases h7 : P[q].op = 7
        · rw [h7] at q1
          have hy := HO.out.at hq'
          have S0 : Hid (∀ w, Calls Tryz.prog 146 #[.agg #[.int .i64 7, .int .i64 P[q].n, .string P[q].s, .string P[q].t]] w fun e w' => e = .returned (.bool (shapedN P[q])) ∧ Below w.heap.size w w') :=
            Lib.hid (fun w => by have := val_shaped P[q] w hy.s hy.t; unfold ndV at this; rw [h7] at this; exact this)
          have HY := Lib.hid (show ∀ b, (decide (P[q].op = 7) && shapedN P[q] && decide (cmpB ls P[q].s < 0)) = b → (b = true → fieldOk P ls q = some P[q].s) ∧ (b = false → fieldOk P ls q = none) from
            fun b hb => ⟨fun e => fieldOk_yes hq' (hb.trans e), fun e => fieldOk_no hq' (hb.trans e)⟩)
          rw [h7] at HY
          generalize P[q] = y at *
          clear h7 hy
          have kq1 := cell_regrown q1
          have kq2 := cell_regrown q2
          have kq3 := cell_regrown q3
          have kq4 := cell_regrown q4
          by_cases hsy : shapedN y = true
          · rw [hsy] at S0 HY
            clear hsy
            rcases leq_ways y.s ls with ⟨l0, l1, l2⟩ | hl
            · have HF := Lib.hid ((HY.out true (by simp [l0])).1 rfl)
              have cS : ∀ d os, Calls Tryz.prog 146 #[.agg #[.int .i64 7, .int .i64 y.n, .string y.s, .string y.t]] (grow (redrawn wr d) os) fun e w'' => e = .returned (.bool true) ∧ ∃ p : Regrown, w'' = grow (redrawn wr p.d) p.os := fun d os => Calls.regrown_of (S0.out _)
              clear l0 HY S0
              have Q1 := Lib.hid q1
              have Q2 := Lib.hid q2
              have Q3 := Lib.hid q3
              have Q4 := Lib.hid q4
              clear q1 q2 q3 q4
              go_wp2_with fail
              refine wp_region_quiet_below (by kernel_rfl) (by kernel_rfl) ?_
              repeat (first | go_big_quiet_step (exact cS _ _) | quiet_step (exact cS _ _))
              refine wpQuiet_nil ?_
              intro w2 hw'
              have b2 : Below wr.heap.size wr w2 := by obtain ⟨⟨d, os⟩, rfl⟩ := hw'; exact below_regrown _ _ _
              clear hw' kq1 kq2 kq3 kq4 kc0 kc1 cS
              have rd2 := hrd.out.keep b2
              have q3 := cell_keep b2 Q3.out
              have nd2 := N.out.keep b2
              have RS := Lib.hid (fun k => (rd2.put (q + 1)).drewN k)
              have gs : wr.grownBy (w2.setCell ⟨R, 1, none⟩ (.int .i64 (q + 1 : Nat))) (some R) := grown_trans (grown_of_below b2 _) (grown_setCell _ ⟨R, 1, none⟩ _)
              have GS := Lib.hid (fun k => grown_drewN gs k)
              have NS := Lib.hid (fun k => N.out.but (GS.out k) (fun a' e => by cases e; exact hR))
              have hl2 := rd2.lt
              obtain ⟨d0, d1, d2⟩ := rd2
              have C := Lib.hid (fun k => IH.out (q + 1) _ (RS.out k) (NS.out k) (by omega))
              clear b2 nd2 gs Q1 Q2 Q3 Q4 l1 l2 N hrd NS
              rcases hf : partEnd P m (q + 1) with _ | e
              · have HG := Lib.hid (hE.out.trans (recLoop_stop (by omega) HF.out hf))
                rw [hf] at C
                clear hE HF hf
                go_wp2_with fail
                go_quiet (fail)
                go_wp2_with fail
                refine (C.out _).mono ?_
                rintro e w3 hpost
                obtain ⟨rfl, g3⟩ := hpost
                go_wp2_with fail
                rw [HG.out]
                exact ⟨rfl, rfl, grown_trans hgr.out (grown_trans (GS.out _) g3)⟩
              · have HG := Lib.hid (hE.out.trans (recLoop_next (by omega) HF.out hf))
                have hpe := partEnd_le _ _ _ hf
                rw [← HN.out] at hpe
                rw [hf] at C
                clear hE HF hf
                go_wp2_with fail
                go_quiet (fail)
                go_wp2_with fail
                refine (C.out _).mono ?_
                rintro e' w3 hpost
                obtain ⟨rfl, r3, g3⟩ := hpost
                have R3 := Lib.hid r3
                have G3 := Lib.hid (grown_trans hgr.out (grown_trans (GS.out _) g3))
                clear r3 g3
                go_wp2_with fail
                go_roundw
                case rel => exact ⟨k + 1, e, _, by go_num, by omega, rfl, by omega, by omega, HG.out, R3.out, G3.out⟩
                case measure => simp [intOf]; omega
            · have HF := Lib.hid ((HY.out false (by rcases hl with ⟨l0, _⟩ | ⟨l0, _⟩ <;> simp [l0])).2 rfl)
              have HG := Lib.hid (hE.out.trans (recLoop_bad (by omega) HF.out))
              have cS : ∀ d os, Calls Tryz.prog 146 #[.agg #[.int .i64 7, .int .i64 y.n, .string y.s, .string y.t]] (grow (redrawn wr d) os) fun e w'' => e = .returned (.bool true) ∧ ∃ p : Regrown, w'' = grow (redrawn wr p.d) p.os := fun d os => Calls.regrown_of (S0.out _)
              clear hE HY S0
              rcases hl with ⟨-, l1⟩ | ⟨-, l1, l2⟩
              all_goals
                go_wp2_with fail
                refine wp_region_quiet_below (by kernel_rfl) (by kernel_rfl) ?_
                repeat (first | go_big_quiet_step (exact cS _ _) | quiet_step (exact cS _ _))
                refine wpQuiet_nil ?_
                intro w2 hw'
                have B2 := Lib.hid (show Below wr.heap.size wr w2 by obtain ⟨⟨d, os⟩, rfl⟩ := hw'; exact below_regrown _ _ _)
                clear hw'
                go_wp2_with fail
                rw [HG.out]
                exact ⟨rfl, rfl, grown_trans hgr.out (grown_of_below B2.out _)⟩
          · rw [Bool.not_eq_true] at hsy
            rw [hsy] at S0 HY
            clear hsy
            have HF := Lib.hid ((HY.out false (by simp)).2 rfl)
            have HG := Lib.hid (hE.out.trans (recLoop_bad (by omega) HF.out))
            have cS : ∀ d os, Calls Tryz.prog 146 #[.agg #[.int .i64 7, .int .i64 y.n, .string y.s, .string y.t]] (grow (redrawn wr d) os) fun e w'' => e = .returned (.bool false) ∧ ∃ p : Regrown, w'' = grow (redrawn wr p.d) p.os := fun d os => Calls.regrown_of (S0.out _)
            clear hE HY S0
            go_wp2_with fail
            refine wp_region_quiet_below (by kernel_rfl) (by kernel_rfl) ?_
            repeat (first | go_big_quiet_step (exact cS _ _) | quiet_step (exact cS _ _))
            refine wpQuiet_nil ?_
            intro w2 hw'
            have B2 := Lib.hid (show Below wr.heap.size wr w2 by obtain ⟨⟨d, os⟩, rfl⟩ := hw'; exact below_regrown _ _ _)
            clear hw'
            go_wp2_with fail
            rw [HG.out]
            exact ⟨rfl, rfl, grown_trans hgr.out (grown_of_below B2.out _)⟩
        · have hs7 : (P[q].op != 7) = true := by rw [bne_iff_ne]; exact h7
          have HG := Lib.hid (hE.out.trans (recLoop_bad (by omega) (fieldOk_no hq' (by simp [h7]))))
          clear hE h7
          have kq1 := cell_regrown q1
          go_wp2_with fail
          refine wp_region_quiet_below (by kernel_rfl) (by kernel_rfl) ?_
          repeat (first | go_big_quiet_step (fail) | quiet_step (fail))
          refine wpQuiet_nil ?_
          intro w2 hw'
          have B2 := Lib.hid (show Below wr.heap.size wr w2 by obtain ⟨⟨d, os⟩, rfl⟩ := hw'; exact below_regrown _ _ _)
          clear hw'
          go_wp2_with fail
          rw [HG.out]
          exact ⟨rfl, rfl, grown_trans hgr.out (grown_of_below B2.out _)⟩
      · have hnq : decide (n ≤ q) = true := decide_eq_true (by omega)
        have HG := Lib.hid (hE.out.trans (recLoop_bad (by omega) (fieldOk_out (by rw [← HN.out]; omega))))
        clear hE
        go_wp2_with fail
        refine wp_region_quiet_below (by kernel_rfl) (by kernel_rfl) ?_
        repeat (first | go_big_quiet_step (fail) | quiet_step (fail))
        refine wpQuiet_nil ?_
        intro w2 hw'
        have B2 := Lib.hid (show Below wr.heap.size wr w2 by obtain ⟨⟨d, os⟩, rfl⟩ := hw'; exact below_regrown _ _ _)
        clear hw'
        go_wp2_with fail
        rw [HG.out]
        exact ⟨rfl, rfl, grown_trans hgr.out (grown_of_below B2.out _)⟩
    · have HG := Lib.hid (hE.out.trans (by rw [show x.n.toNat - k = 0 by omega]; rfl : _ = some q))
      obtain ⟨d0, d1, d2⟩ := hrd.out
      have RD := Lib.hid hrd.out
      clear hE hrd
      go_wp2_with fail
      go_quiet (fail)
      go_wp2_with fail
      go_ret
      rw [HG.out]
      exact ⟨rfl, RD.out.drewN _, grown_drewN hgr.out _⟩
end Go.Proofs.YtnolmlhcikcceaaGreatDoor
