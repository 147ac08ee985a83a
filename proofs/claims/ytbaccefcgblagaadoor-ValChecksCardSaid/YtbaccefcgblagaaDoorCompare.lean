/-
  val.first, val.Compare.
-/
import Derived.Test.YtbaccefcgblagaaDoorCheck
namespace Go.Wk
def cmpE (P Q : List Nd) : Int := or2 (valFault P) (valFault Q)
def cmpV (P Q : List Nd) : Int := if cmpE P Q = 0 then cmpNds P Q else 0
end Go.Wk
namespace Go.Proofs.YtbaccefcgblagaaDoor
open Go.RowKit Go.Wk Go.Sort
set_option maxRecDepth 100000

set_option maxHeartbeats 400000 in
theorem val_first2 (x y : Int) (ad : Addr) (w : World) (h0 : w.cell? ad = some (errV x)) (h1 : w.cell? ⟨ad.block, ad.off + 1, none⟩ = some (errV y)) :
    Calls Tryd.prog 48 #[.slice (some ad) 2 2] w fun e w' => e = .returned (errV (or2 x y)) ∧ w = w' := by
  have hx0 : (x = 0 ∧ errV x = .nilIface) ∨ (x ≠ 0 ∧ errV x = .iface 26 (.int .i64 x)) := by
    by_cases h : x = 0
    · exact .inl ⟨h, by rw [h]; rfl⟩
    · exact .inr ⟨h, errV_ne h⟩
  have hy0 : (y = 0 ∧ errV y = .nilIface) ∨ (y ≠ 0 ∧ errV y = .iface 26 (.int .i64 y)) := by
    by_cases h : y = 0
    · exact .inl ⟨h, by rw [h]; rfl⟩
    · exact .inr ⟨h, errV_ne h⟩
  rcases hx0 with ⟨rfl, ex⟩ | ⟨hx, ex⟩
  · rcases hy0 with ⟨rfl, ey⟩ | ⟨hy, ey⟩
    · rw [ex] at h0
      rw [ey] at h1
      clear ex ey
      go_enter Tryd.func48, Tryd.ntmps48
      go_wp2
      go_loop [4, 7] (fun _ i => ∃ k : Nat, k ≤ 2 ∧ i = .int .i64 k) (fun _ i => 2 - (intOf i).toNat)
      case atStart => exact ⟨0, by omega, rfl⟩
      case round =>
        obtain ⟨k, hk, rfl⟩ := hrel
        have hk3 : k = 0 ∨ k = 1 ∨ k = 2 := by omega
        rcases hk3 with rfl | rfl | rfl
        · go_wp2
          go_round
          case rel => exact ⟨1, by omega, by go_num⟩
          case measure => simp [intOf]
        · go_wp2
          go_round
          case rel => exact ⟨2, by omega, by go_num⟩
          case measure => simp [intOf]
        · go_wp2
          go_ret
          exact ⟨rfl, rfl⟩
    · rw [ex] at h0
      rw [ey] at h1
      have H := Lib.hid ey
      clear ex ey
      go_enter Tryd.func48, Tryd.ntmps48
      go_wp2
      go_loop [4, 7] (fun _ i => ∃ k : Nat, k ≤ 1 ∧ i = .int .i64 k) (fun _ i => 2 - (intOf i).toNat)
      case atStart => exact ⟨0, by omega, rfl⟩
      case round =>
        obtain ⟨k, hk, rfl⟩ := hrel
        have hk3 : k = 0 ∨ k = 1 := by omega
        rcases hk3 with rfl | rfl
        · go_wp2
          go_round
          case rel => exact ⟨1, by omega, by go_num⟩
          case measure => simp [intOf]
        · go_wp2
          go_ret
          exact ⟨by rw [or2_zero, H.out]; rfl, rfl⟩
  · rw [ex] at h0
    have H := Lib.hid ex
    have H2 := Lib.hid hx
    clear ex hy0 h1 hx
    go_enter Tryd.func48, Tryd.ntmps48
    go_wp2
    go_loop [4, 7] (fun _ i => ∃ k : Nat, k ≤ 0 ∧ i = .int .i64 k) (fun _ i => 2 - (intOf i).toNat)
    case atStart => exact ⟨0, by omega, rfl⟩
    case round =>
      obtain ⟨k, hk, rfl⟩ := hrel
      have hk3 : k = 0 := by omega
      subst hk3
      go_wp2
      go_ret
      exact ⟨by rw [or2_ne H2.out, H.out]; rfl, rfl⟩

theorem errV_ways (x : Int) : (x = 0 ∧ errV x = .nilIface) ∨ (x ≠ 0 ∧ errV x = .iface 26 (.int .i64 x)) := by
  by_cases h : x = 0
  · exact .inl ⟨h, by rw [h]; rfl⟩
  · exact .inr ⟨h, errV_ne h⟩
set_option maxHeartbeats 4000000 in
theorem val_Compare (A B : Option Addr) (n m c d : Nat) (P Q : List Nd) (w : World) (hn : n = P.length) (hm : m = Q.length) (hc : n ≤ c) (hd : m ≤ d) (hln : n ≤ maxLen) (hlm : m ≤ maxLen) (hP : NdsAt w A P) (hQ : NdsAt w B Q) (oP : NdsOk P) (oQ : NdsOk Q) :
    Calls Tryd.prog 26 #[.slice A n c, .slice B m d] w fun e w' => e = .returned (.tuple #[.int .i64 (cmpV P Q), errV (cmpE P Q)]) ∧ Below w.heap.size w w' := by
  have C1 := Lib.hid (val_Check A n c P w hn hc hln hP oP)
  have C2 := Lib.hid (fun w1 (hb : Below w.heap.size w w1) => val_Check B m d Q w1 hm hd hlm (hQ.keep hb) oQ)
  have O := Lib.hid (fun w1 (hb : Below w.heap.size w w1) => val_order A B n m c d P Q w1 hn hm hln hlm (hP.keep hb) (hQ.keep hb))
  have F := Lib.hid (fun w ad h0 h1 => val_first2 (valFault P) (valFault Q) ad w h0 h1)
  have hE : or2 (valFault P) (valFault Q) = cmpE P Q := rfl
  rw [hE] at F
  have hV : Hid (cmpE P Q = 0 → cmpV P Q = cmpNds P Q) := Lib.hid fun h => by unfold cmpV; rw [if_pos h]
  have hV2 : Hid (cmpE P Q ≠ 0 → cmpV P Q = 0) := Lib.hid fun h => by unfold cmpV; rw [if_neg h]
  have W1 := errV_ways (valFault P)
  have W2 := errV_ways (valFault Q)
  clear hn hm hP hQ hE hln hlm
  generalize cmpE P Q = ce at *
  generalize cmpV P Q = cv at *
  generalize valFault P = x1 at *
  generalize valFault Q = x2 at *
  rcases W1 with ⟨-, e1⟩ | ⟨-, e1⟩ <;> rcases W2 with ⟨-, e2⟩ | ⟨-, e2⟩ <;> rcases errV_ways ce with ⟨h0, he⟩ | ⟨h0, he⟩
  all_goals
    rw [e1] at C1
    rw [e2] at C2
    have E1 := Lib.hid e1
    have E2 := Lib.hid e2
    have HE := Lib.hid he
    have HV := Lib.hid (show cv = if ce = 0 then cmpNds P Q else 0 by
      by_cases h : ce = 0
      · rw [if_pos h, hV.out h]
      · rw [if_neg h, hV2.out h])
    rw [he] at F
    clear e1 e2 he hV hV2
    have H0 := Lib.hid h0
    clear h0
    go_enter Tryd.func26, Tryd.ntmps26
    go_wp2_with fail
    refine C1.out.mono ?_
    rintro e w1 ⟨rfl, b1⟩
    go_wp2_with fail
    refine (C2.out _ b1).mono ?_
    rintro e w2 ⟨rfl, b2⟩
    have B2 := Lib.hid (b1.trans (b2.mono b1.size))
    clear b1 b2
    go_wp2_with fail
    refine (F.out _ _ (by rw [E1.out]; go_simp) (by rw [E2.out]; go_simp)).mono ?_
    rintro e w3 ⟨rfl, rfl⟩
    first
    | (go_wp2_with fail
       refine (O.out _ (B2.out.alloc B2.out.size _)).mono ?_
       rintro e w4 ⟨rfl, b4⟩
       go_wp2_with fail
       go_ret2
       exact ⟨by rw [HV.out, HE.out, if_pos H0.out]; rfl, (B2.out.alloc B2.out.size _).trans (b4.mono (by have := B2.out.size; simp; omega))⟩)
    | (go_wp2_with fail
       go_ret2
       exact ⟨by rw [HV.out, if_neg H0.out, HE.out]; rfl, B2.out.alloc B2.out.size _⟩)

theorem cmpNd_eq {x y : Nd} (h : x = y) : cmpNd x y = 0 := (cmpNd_cmp.zero x y).2 h
theorem nd_neq {x y : Nd} (h : x ≠ y) (w : World) : (binOp .neq 81 (.agg #[.int .i64 x.op, .int .i64 x.n, .string x.s, .string x.t]) (.agg #[.int .i64 y.op, .int .i64 y.n, .string y.s, .string y.t])).run Tryd.prog w = .ok (.bool true) w := by
  simp [go_sem]
  exact fun h1 h2 h3 h4 => h (Nd.ext4 h1 h2 (toList_inj h3) (toList_inj h4))
theorem cmpNds_zero_at {P Q : List Nd} {k : Nat} (h1 : k < P.length) (h2 : k < Q.length) (h : P[k] ≠ Q[k]) (hc : cmpNds P Q = cmpNds (P.drop k) (Q.drop k)) : cmpNds P Q ≠ 0 := by
  rw [hc, cmpNds_at h1 h2, or2_ne (fun e => h ((cmpNd_cmp.zero _ _).1 e))]
  exact fun e => h ((cmpNd_cmp.zero _ _).1 e)
def ndCells : List Nd → List Value
  | [] => []
  | x :: r => .int .i64 x.op :: .int .i64 x.n :: .string x.s :: .string x.t :: ndCells r
theorem ndCells_append (P Q : List Nd) : ndCells (P ++ Q) = ndCells P ++ ndCells Q := by
  induction P with
  | nil => rfl
  | cons x P ih => simp [ndCells, ih]
theorem ndCells_length (P : List Nd) : (ndCells P).length = P.length * 4 := by
  induction P with
  | nil => rfl
  | cons x P ih => simp only [ndCells, List.length_cons, ih]; omega
theorem ndCells_at (P : List Nd) (k : Nat) (x : Nd) (h : P[k]? = some x) : (ndCells P)[k * 4]? = some (.int .i64 x.op) ∧ (ndCells P)[k * 4 + 1]? = some (.int .i64 x.n) ∧ (ndCells P)[k * 4 + 2]? = some (.string x.s) ∧ (ndCells P)[k * 4 + 3]? = some (.string x.t) := by
  induction P generalizing k with
  | nil => simp at h
  | cons y P ih =>
    cases k with
    | zero => simp only [List.getElem?_cons_zero, Option.some.injEq] at h; subst h; exact ⟨rfl, rfl, rfl, rfl⟩
    | succ k =>
      have := ih k (by simpa using h)
      rw [show (k + 1) * 4 = k * 4 + 1 + 1 + 1 + 1 by omega]
      simp only [ndCells, List.getElem?_cons_succ]
      exact this
theorem addr_add (g o k : Nat) : (⟨g, o, none⟩ : Addr).add k = ⟨g, o + k, none⟩ := by
  unfold Addr.add; split
  · rename_i h0; subst h0; rfl
  · simp
/-- Cells that are those of nodes. -/
theorem nds_of_cells {w : World} {b o : Nat} {P : List Nd} (h : ∀ (j : Nat) u, (ndCells P)[j]? = some u → w.cell? ((⟨b, o, none⟩ : Addr).add j) = some u) : NdsAt w (some ⟨b, o, none⟩) P := by
  intro k x hx
  obtain ⟨h1, h2, h3, h4⟩ := ndCells_at P k x hx
  have g1 := h _ _ h1
  have g2 := h _ _ h2
  have g3 := h _ _ h3
  have g4 := h _ _ h4
  simp only [addr_add] at g1 g2 g3 g4
  exact ⟨_, rfl, by simp only [addr_add]; exact g1, by simp only [addr_add]; exact g2, by simp only [addr_add]; exact g3, by simp only [addr_add]; exact g4⟩
theorem nds_new (w : World) (P : List Nd) (t : TypeId) : NdsAt (w.alloc (.cells (ndCells P).toArray t)) (some ⟨w.heap.size, 0, none⟩) P := nds_of_cells (cells_new w _ t)
end Go.Proofs.YtbaccefcgblagaaDoor
