/-
  val's reader: part at a record; part outright.
-/
import Derived.Test.YtocchkmhnneiiaaPart
namespace Go.Wk
theorem less_cmp (a b : List UInt8) : Op.bytesLess a b = decide (Lib.compareBytes a b < 0) := by
  induction a generalizing b with
  | nil => cases b <;> simp [Op.bytesLess, Lib.compareBytes]
  | cons x a ih =>
    cases b with
    | nil => simp [Op.bytesLess, Lib.compareBytes]
    | cons y b =>
      simp only [Op.bytesLess, Lib.compareBytes, ih]
      by_cases h1 : x < y
      · simp [h1]
      · by_cases h2 : y < x
        · have : (x == y) = false := by
            rw [beq_eq_false_iff_ne]; intro e; subst e; exact h1 h2
          simp [h1, h2, this]
        · have : x = y := by
            have a1 : ¬ x.toNat < y.toNat := h1
            have a2 : ¬ y.toNat < x.toNat := h2
            exact UInt8.toNat_inj.1 (by omega)
          subst this
          simp [h1]
/-- Texts one not ahead of the other, as the machine asks it. -/
theorem leq_ways (a b : ByteArray) : (cmpB b a < 0 ∧ Op.bytesLess a.toList b.toList = false ∧ (a.toList == b.toList) = false) ∨ (¬ cmpB b a < 0 ∧ Op.bytesLess a.toList b.toList = true) ∨ (¬ cmpB b a < 0 ∧ Op.bytesLess a.toList b.toList = false ∧ (a.toList == b.toList) = true) := by
  rw [less_cmp]
  have e : Lib.compareBytes a.toList b.toList = cmpB a b := by unfold cmpB; rw [ByteArray.toList_eq, ByteArray.toList_eq]
  rw [e]
  have h1 := cmpB_cmp.anti a b
  have h2 := cmpB_cmp.zero a b
  by_cases h : cmpB a b < 0
  · exact .inr (.inl ⟨by omega, by simpa using h⟩)
  · by_cases h0 : cmpB a b = 0
    · exact .inr (.inr ⟨by omega, by simpa using h, by rw [h2.1 h0]; simp⟩)
    · refine .inl ⟨by omega, by simpa using h, ?_⟩
      rw [beq_eq_false_iff_ne]
      intro q
      rw [ByteArray.toList_eq, ByteArray.toList_eq] at q
      exact h0 (h2.2 (bytes_ext q))
theorem recLoop_bad {v : List Nd} {f : Nat → Option Nat} {N k : Nat} {last : ByteArray} {q : Nat} (hk : k < N) (h : fieldOk v last q = none) : recLoop v f (N - k) last q = none := by
  obtain ⟨j, hj⟩ : ∃ j, N - k = j + 1 := ⟨N - k - 1, by omega⟩
  rw [hj]; simp only [recLoop, h]
theorem recLoop_stop {v : List Nd} {f : Nat → Option Nat} {N k : Nat} {last s : ByteArray} {q : Nat} (hk : k < N) (h : fieldOk v last q = some s) (hf : f (q + 1) = none) : recLoop v f (N - k) last q = none := by
  obtain ⟨j, hj⟩ : ∃ j, N - k = j + 1 := ⟨N - k - 1, by omega⟩
  rw [hj]; simp only [recLoop, h, hf]
theorem recLoop_next {v : List Nd} {f : Nat → Option Nat} {N k : Nat} {last s : ByteArray} {q e : Nat} (hk : k < N) (h : fieldOk v last q = some s) (hf : f (q + 1) = some e) : recLoop v f (N - k) last q = recLoop v f (N - (k + 1)) s e := by
  obtain ⟨j, hj⟩ : ∃ j, N - k = j + 1 := ⟨N - k - 1, by omega⟩
  rw [hj, show N - (k + 1) = j by omega]; simp only [recLoop, h, hf]
theorem fieldOk_out {v : List Nd} {last : ByteArray} {p : Nat} (h : v.length ≤ p) : fieldOk v last p = none := by
  unfold fieldOk; rw [List.getElem?_eq_none h]
theorem fieldOk_no {v : List Nd} {last : ByteArray} {p : Nat} (h : p < v.length) (hq : (decide (v[p].op = 7) && shapedN v[p] && decide (cmpB last v[p].s < 0)) = false) : fieldOk v last p = none := by
  unfold fieldOk; rw [List.getElem?_eq_getElem h]; simp only [hq, Bool.false_eq_true, if_false]
theorem fieldOk_yes {v : List Nd} {last : ByteArray} {p : Nat} (h : p < v.length) (hq : (decide (v[p].op = 7) && shapedN v[p] && decide (cmpB last v[p].s < 0)) = true) : fieldOk v last p = some v[p].s := by
  unfold fieldOk; rw [List.getElem?_eq_getElem h]; simp only [hq, if_true]
end Go.Wk
namespace Go.Proofs.Ytocchkmhnneiiaa
open Go.RowKit Go.Wk Go.Sort
set_option maxRecDepth 100000

set_option maxRecDepth 100000 in
set_option maxHeartbeats 8000000 in
theorem part_rec (a : Addr) (P : List Nd) (n c p R m : Nat) (w : World) (hr : RdAt w R (.slice (some a) n c) p) (hn : n = P.length) (hc : n ≤ c) (hm : n ≤ maxLen) (hp : p < n) (hP : NdsAt w (some a) P) (hO : NdsOk P) (hs : shapedN (P[p]'(by omega)) = true)
    (h5 : (P[p]'(by omega)).op = 6) (hR : a.block ≠ R) (ih : PartC P (some a) n c R m) (hfu : n - p < m + 1) :
    Calls Try.prog 30 #[.pointer (some ⟨R, 0, none⟩)] w (PartPost R (some a) n c p w (recLoop P (partEnd P m) (P[p]'(by omega)).n.toNat .empty (p + 1))) := by
  unfold maxLen at hm
  have HR := Lib.hid hr
  have HS := Lib.hid (fun w1 (hb : Below w.heap.size w w1) o => rd_step hr hb o)
  have HP := Lib.hid hP
  have HN := Lib.hid hn
  have HO := Lib.hid hO
  have IH := Lib.hid ih
  obtain ⟨c0, c1, f1⟩ := hr
  have hp' : p < P.length := by omega
  obtain ⟨b, hb0, q1, q2, q3, q4⟩ := hP p P[p] (List.getElem?_eq_getElem hp')
  injection hb0 with hb0
  subst hb0
  have S := Lib.hid (fun w => val_shaped P[p] w (hO.at hp').s (hO.at hp').t)
  rw [hs] at S
  unfold ndV at S
  obtain ⟨-, -, hlo, hhi⟩ := hO.at hp'
  rw [h5] at q1 S
  generalize P[p] = x at *
  have hx0 : 0 ≤ x.n := by
    unfold shapedN at hs; rw [h5] at hs; simp at hs; exact hs.1.1
  clear hP hn h5 hs hlo ih hO
  have hnp : decide (n ≤ p) = false := decide_eq_false (by omega)
  go_enter Try.func30, Try.ntmps30
  go_wp2_with fail
  refine (S.out _).mono ?_
  rintro e w1 ⟨rfl, hb⟩
  replace c0 := cell_keep hb c0
  replace c1 := cell_keep hb c1
  replace q1 := cell_keep hb q1
  replace q2 := cell_keep hb q2
  replace q3 := cell_keep hb q3
  replace q4 := cell_keep hb q4
  have f1' := (hb.frozen (p := ⟨R, 1, none⟩) HR.out.lt).trans f1
  clear f1
  have hRl := Nat.lt_of_lt_of_le HR.out.lt hb.size
  have HB := Lib.hid hb
  clear hb
  go_wp2_with fail
  obtain ⟨s1, s2⟩ := HS.out _ HB.out (.cells #[.int .i64 6, .int .i64 x.n, .string x.s, .string x.t] 34)
  have S1 := Lib.hid s1
  have S2 := Lib.hid s2
  clear s1 s2 c0 c1 f1' q1 q2 q3 q4 hRl S HS HR
  go_loopw [8, 74] (fun last i wr => ∃ (k q : Nat) (ls : ByteArray), i = .int .i64 k ∧ (k : Int) ≤ x.n ∧ last = .string ls ∧ q ≤ n ∧ p < q ∧
      Hid (recLoop P (partEnd P m) x.n.toNat .empty (p + 1) = recLoop P (partEnd P m) (x.n.toNat - k) ls q) ∧ Hid (RdAt wr R (.slice (some a) n c) q) ∧ Hid (w.grownBy wr (some R))) (fun _ i _ => (x.n - intOf i).toNat)
  case atStart => exact ⟨0, p + 1, .empty, rfl, hx0, rfl, by omega, by omega, rfl, S1.out, S2.out⟩
  case round =>
    obtain ⟨k, q, ls, rfl, hk, rfl, hq, hpq, hE, hrd, hgr⟩ := hrel
    by_cases hlt : (k : Int) < x.n
    · have N := Lib.hid (HP.out.but hgr.out (fun a' e => by cases e; exact hR))
      have kc0 := cell_regrown hrd.out.c0
      have kc1 := cell_regrown hrd.out.c1
      by_cases hqn : q < n
      · have hq' : q < P.length := by rw [← HN.out]; exact hqn
        obtain ⟨b, hb0, q1, q2, q3, q4⟩ := N.out q P[q] (List.getElem?_eq_getElem hq')
        injection hb0 with hb0
        subst hb0
        have hnq : decide (n ≤ q) = false := decide_eq_false (by omega)
        by_cases h7 : P[q].op = 7
        · rw [h7] at q1
          have hy := HO.out.at hq'
          have S0 : Hid (∀ w, Calls Try.prog 40 #[.agg #[.int .i64 7, .int .i64 P[q].n, .string P[q].s, .string P[q].t]] w fun e w' => e = .returned (.bool (shapedN P[q])) ∧ Below w.heap.size w w') :=
            Lib.hid (fun w => by have := val_shaped P[q] w hy.s hy.t; unfold ndV at this; rw [h7] at this; exact this)
          have HY := Lib.hid (show ∀ b, (decide (P[q].op = 7) && shapedN P[q] && decide (cmpB ls P[q].s < 0)) = b → (b = true → fieldOk P ls q = some P[q].s) ∧ (b = false → fieldOk P ls q = none) from
            fun b hb => ⟨fun e => fieldOk_yes hq' (hb.trans e), fun e => fieldOk_no hq' (hb.trans e)⟩)
          rw [h7] at HY
          generalize P[q] = y at *
          clear h7 hy
          have kq1 := cell_regrown q1
          have kq2 := cell_regrown q2
          have kq3 := cell_regrown q3
          have kq4 := cell_regrown q4
          by_cases hsy : shapedN y = true
          · rw [hsy] at S0 HY
            clear hsy
            rcases leq_ways y.s ls with ⟨l0, l1, l2⟩ | hl
            · have HF := Lib.hid ((HY.out true (by simp [l0])).1 rfl)
              have cS : ∀ d os, Calls Try.prog 40 #[.agg #[.int .i64 7, .int .i64 y.n, .string y.s, .string y.t]] (grow (redrawn wr d) os) fun e w'' => e = .returned (.bool true) ∧ ∃ p : Regrown, w'' = grow (redrawn wr p.d) p.os := fun d os => Calls.regrown_of (S0.out _)
              clear l0 HY S0
              have Q1 := Lib.hid q1
              have Q2 := Lib.hid q2
              have Q3 := Lib.hid q3
              have Q4 := Lib.hid q4
              clear q1 q2 q3 q4
              go_wp2_with fail
              refine wp_region_quiet_below (by kernel_rfl) (by kernel_rfl) ?_
              repeat (first | go_big_quiet_step (exact cS _ _) | quiet_step (exact cS _ _))
              refine wpQuiet_nil ?_
              intro w2 hw'
              have b2 : Below wr.heap.size wr w2 := by obtain ⟨⟨d, os⟩, rfl⟩ := hw'; exact below_regrown _ _ _
              clear hw' kq1 kq2 kq3 kq4 kc0 kc1 cS
              have rd2 := hrd.out.keep b2
              have q3 := cell_keep b2 Q3.out
              have nd2 := N.out.keep b2
              have RS := Lib.hid (fun k => (rd2.put (q + 1)).drewN k)
              have gs : wr.grownBy (w2.setCell ⟨R, 1, none⟩ (.int .i64 (q + 1 : Nat))) (some R) := grown_trans (grown_of_below b2 _) (grown_setCell _ ⟨R, 1, none⟩ _)
              have GS := Lib.hid (fun k => grown_drewN gs k)
              have NS := Lib.hid (fun k => N.out.but (GS.out k) (fun a' e => by cases e; exact hR))
              have hl2 := rd2.lt
              obtain ⟨d0, d1, d2⟩ := rd2
              have C := Lib.hid (fun k => IH.out (q + 1) _ (RS.out k) (NS.out k) (by omega))
              clear b2 nd2 gs Q1 Q2 Q3 Q4 l1 l2 N hrd NS
              rcases hf : partEnd P m (q + 1) with _ | e
              · have HG := Lib.hid (hE.out.trans (recLoop_stop (by omega) HF.out hf))
                rw [hf] at C
                clear hE HF hf
                go_wp2_with fail
                go_quiet (fail)
                go_wp2_with fail
                refine (C.out _).mono ?_
                rintro e w3 hpost
                obtain ⟨rfl, g3⟩ := hpost
                go_wp2_with fail
                rw [HG.out]
                exact ⟨rfl, rfl, grown_trans hgr.out (grown_trans (GS.out _) g3)⟩
              · have HG := Lib.hid (hE.out.trans (recLoop_next (by omega) HF.out hf))
                have hpe := partEnd_le _ _ _ hf
                rw [← HN.out] at hpe
                rw [hf] at C
                clear hE HF hf
                go_wp2_with fail
                go_quiet (fail)
                go_wp2_with fail
                refine (C.out _).mono ?_
                rintro e' w3 hpost
                obtain ⟨rfl, r3, g3⟩ := hpost
                have R3 := Lib.hid r3
                have G3 := Lib.hid (grown_trans hgr.out (grown_trans (GS.out _) g3))
                clear r3 g3
                go_wp2_with fail
                go_roundw
                case rel => exact ⟨k + 1, e, _, by go_num, by omega, rfl, by omega, by omega, HG.out, R3.out, G3.out⟩
                case measure => simp [intOf]; omega
            · have HF := Lib.hid ((HY.out false (by rcases hl with ⟨l0, _⟩ | ⟨l0, _⟩ <;> simp [l0])).2 rfl)
              have HG := Lib.hid (hE.out.trans (recLoop_bad (by omega) HF.out))
              have cS : ∀ d os, Calls Try.prog 40 #[.agg #[.int .i64 7, .int .i64 y.n, .string y.s, .string y.t]] (grow (redrawn wr d) os) fun e w'' => e = .returned (.bool true) ∧ ∃ p : Regrown, w'' = grow (redrawn wr p.d) p.os := fun d os => Calls.regrown_of (S0.out _)
              clear hE HY S0
              rcases hl with ⟨-, l1⟩ | ⟨-, l1, l2⟩
              all_goals
                go_wp2_with fail
                refine wp_region_quiet_below (by kernel_rfl) (by kernel_rfl) ?_
                repeat (first | go_big_quiet_step (exact cS _ _) | quiet_step (exact cS _ _))
                refine wpQuiet_nil ?_
                intro w2 hw'
                have B2 := Lib.hid (show Below wr.heap.size wr w2 by obtain ⟨⟨d, os⟩, rfl⟩ := hw'; exact below_regrown _ _ _)
                clear hw'
                go_wp2_with fail
                rw [HG.out]
                exact ⟨rfl, rfl, grown_trans hgr.out (grown_of_below B2.out _)⟩
          · rw [Bool.not_eq_true] at hsy
            rw [hsy] at S0 HY
            clear hsy
            have HF := Lib.hid ((HY.out false (by simp)).2 rfl)
            have HG := Lib.hid (hE.out.trans (recLoop_bad (by omega) HF.out))
            have cS : ∀ d os, Calls Try.prog 40 #[.agg #[.int .i64 7, .int .i64 y.n, .string y.s, .string y.t]] (grow (redrawn wr d) os) fun e w'' => e = .returned (.bool false) ∧ ∃ p : Regrown, w'' = grow (redrawn wr p.d) p.os := fun d os => Calls.regrown_of (S0.out _)
            clear hE HY S0
            go_wp2_with fail
            refine wp_region_quiet_below (by kernel_rfl) (by kernel_rfl) ?_
            repeat (first | go_big_quiet_step (exact cS _ _) | quiet_step (exact cS _ _))
            refine wpQuiet_nil ?_
            intro w2 hw'
            have B2 := Lib.hid (show Below wr.heap.size wr w2 by obtain ⟨⟨d, os⟩, rfl⟩ := hw'; exact below_regrown _ _ _)
            clear hw'
            go_wp2_with fail
            rw [HG.out]
            exact ⟨rfl, rfl, grown_trans hgr.out (grown_of_below B2.out _)⟩
        · have hs7 : (P[q].op != 7) = true := by rw [bne_iff_ne]; exact h7
          have HG := Lib.hid (hE.out.trans (recLoop_bad (by omega) (fieldOk_no hq' (by simp [h7]))))
          clear hE h7
          have kq1 := cell_regrown q1
          go_wp2_with fail
          refine wp_region_quiet_below (by kernel_rfl) (by kernel_rfl) ?_
          repeat (first | go_big_quiet_step (fail) | quiet_step (fail))
          refine wpQuiet_nil ?_
          intro w2 hw'
          have B2 := Lib.hid (show Below wr.heap.size wr w2 by obtain ⟨⟨d, os⟩, rfl⟩ := hw'; exact below_regrown _ _ _)
          clear hw'
          go_wp2_with fail
          rw [HG.out]
          exact ⟨rfl, rfl, grown_trans hgr.out (grown_of_below B2.out _)⟩
      · have hnq : decide (n ≤ q) = true := decide_eq_true (by omega)
        have HG := Lib.hid (hE.out.trans (recLoop_bad (by omega) (fieldOk_out (by rw [← HN.out]; omega))))
        clear hE
        go_wp2_with fail
        refine wp_region_quiet_below (by kernel_rfl) (by kernel_rfl) ?_
        repeat (first | go_big_quiet_step (fail) | quiet_step (fail))
        refine wpQuiet_nil ?_
        intro w2 hw'
        have B2 := Lib.hid (show Below wr.heap.size wr w2 by obtain ⟨⟨d, os⟩, rfl⟩ := hw'; exact below_regrown _ _ _)
        clear hw'
        go_wp2_with fail
        rw [HG.out]
        exact ⟨rfl, rfl, grown_trans hgr.out (grown_of_below B2.out _)⟩
    · have HG := Lib.hid (hE.out.trans (by rw [show x.n.toNat - k = 0 by omega]; rfl : _ = some q))
      obtain ⟨d0, d1, d2⟩ := hrd.out
      have RD := Lib.hid hrd.out
      clear hE hrd
      go_wp2_with fail
      go_quiet (fail)
      go_wp2_with fail
      go_ret
      rw [HG.out]
      exact ⟨rfl, RD.out.drewN _, grown_drewN hgr.out _⟩
end Go.Proofs.Ytocchkmhnneiiaa
