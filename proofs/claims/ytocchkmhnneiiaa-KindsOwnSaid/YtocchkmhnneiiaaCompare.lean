/-
  val.first, val.Compare.
-/
import Derived.Test.YtocchkmhnneiiaaCheck
namespace Go.Wk
def cmpE (P Q : List Nd) : Int := or2 (valFault P) (valFault Q)
def cmpV (P Q : List Nd) : Int := if cmpE P Q = 0 then cmpNds P Q else 0
end Go.Wk
namespace Go.Proofs.Ytocchkmhnneiiaa
open Go.RowKit Go.Wk Go.Sort
set_option maxRecDepth 100000

theorem errV_ways (x : Int) : (x = 0 ∧ errV x = .nilIface) ∨ (x ≠ 0 ∧ errV x = .iface 44 (.int .i64 x)) := by
  by_cases h : x = 0
  · exact .inl ⟨h, by rw [h]; rfl⟩
  · exact .inr ⟨h, errV_ne h⟩
theorem cmpNd_eq {x y : Nd} (h : x = y) : cmpNd x y = 0 := (cmpNd_cmp.zero x y).2 h
theorem nd_neq {x y : Nd} (h : x ≠ y) (w : World) : (binOp .neq 34 (.agg #[.int .i64 x.op, .int .i64 x.n, .string x.s, .string x.t]) (.agg #[.int .i64 y.op, .int .i64 y.n, .string y.s, .string y.t])).run Try.prog w = .ok (.bool true) w := by
  simp [go_sem]
  exact fun h1 h2 h3 h4 => h (Nd.ext4 h1 h2 (toList_inj h3) (toList_inj h4))
theorem cmpNds_zero_at {P Q : List Nd} {k : Nat} (h1 : k < P.length) (h2 : k < Q.length) (h : P[k] ≠ Q[k]) (hc : cmpNds P Q = cmpNds (P.drop k) (Q.drop k)) : cmpNds P Q ≠ 0 := by
  rw [hc, cmpNds_at h1 h2, or2_ne (fun e => h ((cmpNd_cmp.zero _ _).1 e))]
  exact fun e => h ((cmpNd_cmp.zero _ _).1 e)
set_option maxHeartbeats 1000000 in
theorem same_Nodes (A B : Option Addr) (n m c d : Nat) (P Q : List Nd) (w : World) (hn : n = P.length) (hm : m = Q.length) (hln : n ≤ maxLen) (hlm : m ≤ maxLen) (hP : NdsAt w A P) (hQ : NdsAt w B Q) :
    Calls Try.prog 11 #[.slice A n c, .slice B m d] w fun e w' => e = .returned (.bool (decide (cmpNds P Q = 0))) ∧ Below w.heap.size w w' := by
  unfold maxLen at hln hlm
  have HN := Lib.hid hn
  have HM := Lib.hid hm
  have HP := Lib.hid hP
  have HQ := Lib.hid hQ
  clear hn hm hP hQ
  by_cases hl : n = m
  · subst hl
    go_enter Try.func11, Try.ntmps11
    go_wp2_with fail
    go_loopw [5] (fun i wr => ∃ k : Nat, k ≤ n ∧ i = .int .i64 k ∧ Hid (cmpNds P Q = cmpNds (P.drop k) (Q.drop k)) ∧ Hid (Below w.heap.size w wr)) (fun i _ => n - (intOf i).toNat)
    case atStart => exact ⟨0, Nat.zero_le _, rfl, rfl, Below.refl _ _⟩
    case round =>
      obtain ⟨k, hk, rfl, hE, hB⟩ := hrel
      by_cases hlt : k < n
      · have h1 : k < P.length := by rw [← HN.out]; exact hlt
        have h2 : k < Q.length := by rw [← HM.out]; exact hlt
        obtain ⟨a, rfl, a1, a2, a3, a4⟩ := (HP.out.keep hB.out) k P[k] (List.getElem?_eq_getElem h1)
        obtain ⟨b, rfl, b1, b2, b3, b4⟩ := (HQ.out.keep hB.out) k Q[k] (List.getElem?_eq_getElem h2)
        by_cases he : P[k] = Q[k]
        · have HE := Lib.hid (hE.out.trans ((cmpNds_at h1 h2).trans (by rw [cmpNd_eq he, or2_zero])))
          rw [he] at a1 a2 a3 a4
          generalize Q[k] = y at *
          clear he hE
          go_wp2_with fail
          go_quiet (fail)
          go_wp2_with fail
          go_roundw
          case rel => exact ⟨k + 1, by omega, by go_num, HE, hB.out.drewN _⟩
          case measure => simp [intOf]; omega
        · have HE := Lib.hid (cmpNds_zero_at h1 h2 he hE.out)
          have hne := fun w => nd_neq he w
          generalize P[k] = x at *
          generalize Q[k] = y at *
          clear he hE
          go_wp2_with fail
          go_quiet (fail)
          go_wp2_with fail
          go_ret
          exact ⟨ret_bool (decide_eq_false HE.out).symm, hB.out.drewN _⟩
      · have HE := Lib.hid (hE.out.trans (cmpNds_end0 (by rw [← HN.out]; omega) (by rw [← HM.out]; omega)))
        clear hE
        go_wp2_with fail
        go_ret
        exact ⟨ret_bool (decide_eq_true HE.out).symm, hB.out⟩
  · have HE := Lib.hid (show cmpNds P Q ≠ 0 from fun h => hl (by rw [HN.out, HM.out, (cmpNds_cmp.zero _ _).1 h]))
    have h3 : (n != m) = true := by rw [bne_iff_ne]; exact hl
    clear hl
    go_enter Try.func11, Try.ntmps11
    go_wp2_with fail
    go_ret
    exact ⟨ret_bool (decide_eq_false HE.out).symm, Below.refl _ _⟩

def ndCells : List Nd → List Value
  | [] => []
  | x :: r => .int .i64 x.op :: .int .i64 x.n :: .string x.s :: .string x.t :: ndCells r
theorem ndCells_append (P Q : List Nd) : ndCells (P ++ Q) = ndCells P ++ ndCells Q := by
  induction P with
  | nil => rfl
  | cons x P ih => simp [ndCells, ih]
theorem ndCells_length (P : List Nd) : (ndCells P).length = P.length * 4 := by
  induction P with
  | nil => rfl
  | cons x P ih => simp only [ndCells, List.length_cons, ih]; omega
theorem ndCells_at (P : List Nd) (k : Nat) (x : Nd) (h : P[k]? = some x) : (ndCells P)[k * 4]? = some (.int .i64 x.op) ∧ (ndCells P)[k * 4 + 1]? = some (.int .i64 x.n) ∧ (ndCells P)[k * 4 + 2]? = some (.string x.s) ∧ (ndCells P)[k * 4 + 3]? = some (.string x.t) := by
  induction P generalizing k with
  | nil => simp at h
  | cons y P ih =>
    cases k with
    | zero => simp only [List.getElem?_cons_zero, Option.some.injEq] at h; subst h; exact ⟨rfl, rfl, rfl, rfl⟩
    | succ k =>
      have := ih k (by simpa using h)
      rw [show (k + 1) * 4 = k * 4 + 1 + 1 + 1 + 1 by omega]
      simp only [ndCells, List.getElem?_cons_succ]
      exact this
theorem addr_add (g o k : Nat) : (⟨g, o, none⟩ : Addr).add k = ⟨g, o + k, none⟩ := by
  unfold Addr.add; split
  · rename_i h0; subst h0; rfl
  · simp
/-- Cells that are those of nodes. -/
theorem nds_of_cells {w : World} {b o : Nat} {P : List Nd} (h : ∀ (j : Nat) u, (ndCells P)[j]? = some u → w.cell? ((⟨b, o, none⟩ : Addr).add j) = some u) : NdsAt w (some ⟨b, o, none⟩) P := by
  intro k x hx
  obtain ⟨h1, h2, h3, h4⟩ := ndCells_at P k x hx
  have g1 := h _ _ h1
  have g2 := h _ _ h2
  have g3 := h _ _ h3
  have g4 := h _ _ h4
  simp only [addr_add] at g1 g2 g3 g4
  exact ⟨_, rfl, by simp only [addr_add]; exact g1, by simp only [addr_add]; exact g2, by simp only [addr_add]; exact g3, by simp only [addr_add]; exact g4⟩
theorem nds_new (w : World) (P : List Nd) (t : TypeId) : NdsAt (w.alloc (.cells (ndCells P).toArray t)) (some ⟨w.heap.size, 0, none⟩) P := nds_of_cells (cells_new w _ t)
end Go.Proofs.Ytocchkmhnneiiaa
