/-
  val's reader: part tells where a value ends, or panics.
-/
import Derived.Test.YtocchkmhnneiiaaShaped
namespace Go.Proofs.Ytocchkmhnneiiaa
open Go.RowKit Go.Wk Go.Sort
set_option maxRecDepth 100000

theorem add_add (a : Addr) (x y : Nat) : (a.add x).add y = a.add (x + y) := by
  unfold Addr.add
  by_cases hx : x = 0 <;> by_cases hy : y = 0 <;> simp [hx, hy, Nat.add_assoc]
theorem add_block (a : Addr) (x : Nat) : (a.add x).block = a.block := by unfold Addr.add; split <;> rfl
theorem grown_refl (w : World) (r : Option Nat) : w.grownBy w r := ⟨rfl, rfl, rfl, Nat.le_refl _, fun _ _ _ => rfl⟩
theorem grown_trans {a b c : World} {r : Option Nat} (h : a.grownBy b r) (k : b.grownBy c r) : a.grownBy c r :=
  ⟨k.os.trans h.os, k.tape.trans h.tape, k.output.trans h.output, Nat.le_trans h.size k.size, fun i hi hn => (k.block i (Nat.lt_of_lt_of_le hi h.size) hn).trans (h.block i hi hn)⟩
/-- The nodes are read as before: their block is none of the one that turned. -/
theorem NdsAt.but {w w' : World} {A : Option Addr} {P : List Nd} {R : Nat} (h : NdsAt w A P) (hg : w.grownBy w' (some R)) (hR : ∀ a, A = some a → a.block ≠ R) : NdsAt w' A P := by
  intro k x hx
  obtain ⟨a, h1, h2, h3, h4, h5⟩ := h k x hx
  have hn : some a.block ≠ some R := fun e => hR a h1 (by injection e)
  have hb := add_block a (k * 4)
  exact ⟨a, h1, hg.cell h2 (by rw [hb]; exact hn), hg.cell h3 (by rw [hb]; exact hn), hg.cell h4 (by rw [hb]; exact hn), hg.cell h5 (by rw [hb]; exact hn)⟩
/-- A part of nodes. -/
theorem NdsAt.seg {w : World} {a : Addr} {P : List Nd} (h : NdsAt w (some a) P) (i j : Nat) : NdsAt w (some (a.add (i * 4))) (seg P i j) := by
  intro k x hx
  have hx' : P[i + k]? = some x := by
    unfold Wk.seg at hx
    rw [List.getElem?_take] at hx
    split at hx
    · rw [List.getElem?_drop] at hx; exact hx
    · cases hx
  obtain ⟨b, h1, h2, h3, h4, h5⟩ := h (i + k) x hx'
  injection h1 with h1
  subst h1
  have e : (a.add (i * 4)).add (k * 4) = a.add ((i + k) * 4) := by rw [add_add, Nat.add_mul]
  exact ⟨_, rfl, by rw [e]; exact h2, by rw [e]; exact h3, by rw [e]; exact h4, by rw [e]; exact h5⟩

/-- The numbers and texts of nodes are such as Go has. -/
structure NdOk (x : Nd) : Prop where
  s : x.s.size ≤ maxLen
  t : x.t.size ≤ maxLen
  lo : -9223372036854775808 ≤ x.n
  hi : x.n ≤ 9223372036854775807
def NdsOk (P : List Nd) : Prop := ∀ x ∈ P, NdOk x
theorem NdsOk.at {P : List Nd} (h : NdsOk P) {k : Nat} (hk : k < P.length) : NdOk P[k] := h _ (List.getElem_mem hk)

/-- val's reader: its nodes and its place. -/
structure RdAt (w : World) (R : Nat) (v : Value) (p : Nat) : Prop where
  c0 : w.cell? ⟨R, 0, none⟩ = some v
  c1 : w.cell? ⟨R, 1, none⟩ = some (.int .i64 p)
  f1 : w.frozen? ⟨R, 1, none⟩ = false
theorem RdAt.keep {w w' : World} {R p : Nat} {v : Value} (h : RdAt w R v p) (hb : Below w.heap.size w w') : RdAt w' R v p :=
  ⟨cell_keep hb h.c0, cell_keep hb h.c1, (hb.frozen (p := ⟨R, 1, none⟩) (block_lt_of_cell h.c1)).trans h.f1⟩
theorem RdAt.lt {w : World} {R p : Nat} {v : Value} (h : RdAt w R v p) : R < w.heap.size := block_lt_of_cell h.c0
theorem RdAt.put {w : World} {R p : Nat} {v : Value} (h : RdAt w R v p) (q : Nat) : RdAt (w.setCell ⟨R, 1, none⟩ (.int .i64 q)) R v q := by
  refine ⟨?_, ?_, ?_⟩
  · exact (World.cell?_setCell_other _ _ _ _ (by simp)).trans h.c0
  · exact World.cell?_setCell_same _ _ _ h.c1
  · rw [World.frozen?_setCell]; exact h.f1

abbrev wrongP : List PanicEntry := [{ v := .iface 64 (.agg #[]), recovered := false }]
/-- What part tells. -/
def PartPost (R : Nat) (A : Option Addr) (n c p : Nat) (w : World) : Option Nat → Ending → World → Prop
  | some e, x, w' => x = .returned (.slice (A.map fun a => a.add (p * 4)) (e - p) (c - p)) ∧ RdAt w' R (.slice A n c) e ∧ w.grownBy w' (some R)
  | none, x, w' => x = .panicked wrongP ∧ w.grownBy w' (some R)

set_option maxRecDepth 100000 in
theorem part_out (A : Option Addr) (n c p R : Nat) (w : World) (hr : RdAt w R (.slice A n c) p) (hp : n ≤ p) :
    Calls Try.prog 30 #[.pointer (some ⟨R, 0, none⟩)] w (PartPost R A n c p w none) := by
  obtain ⟨c0, c1, f1⟩ := hr
  go_enter Try.func30, Try.ntmps30
  go_wp2_with fail
  exact ⟨rfl, rfl, grown_refl _ _⟩

set_option maxRecDepth 100000 in
theorem part_bad (a : Addr) (P : List Nd) (n c p R : Nat) (w : World) (hr : RdAt w R (.slice (some a) n c) p) (hn : n = P.length) (hp : p < n) (hP : NdsAt w (some a) P) (hO : NdsOk P) (hs : shapedN (P[p]'(by omega)) = false) :
    Calls Try.prog 30 #[.pointer (some ⟨R, 0, none⟩)] w (PartPost R (some a) n c p w none) := by
  obtain ⟨c0, c1, f1⟩ := hr
  have hp' : p < P.length := by omega
  obtain ⟨b, hb0, q1, q2, q3, q4⟩ := hP p P[p] (List.getElem?_eq_getElem hp')
  injection hb0 with hb0
  subst hb0
  have S := Lib.hid (fun w => val_shaped P[p] w (hO.at hp').s (hO.at hp').t)
  rw [hs] at S
  unfold ndV at S
  generalize P[p] = x at *
  clear hO hP hn
  go_enter Try.func30, Try.ntmps30
  go_wp2_with fail
  refine (S.out _).mono ?_
  rintro e w1 ⟨rfl, hb⟩
  go_wp2_with fail
  exact ⟨rfl, rfl, grown_of_below hb _⟩

theorem RdAt.drewN {w : World} {R p : Nat} {v : Value} (h : RdAt w R v p) (k : Nat) : RdAt (w.drewN k) R v p := ⟨h.c0, h.c1, h.f1⟩
theorem grown_drewN {w w1 : World} {r : Option Nat} (h : w.grownBy w1 r) (k : Nat) : w.grownBy (w1.drewN k) r := ⟨h.os, h.tape, h.output, h.size, h.block⟩
theorem grown_alloc {w w1 : World} {r : Option Nat} (h : w.grownBy w1 r) (o : Obj) : w.grownBy (w1.alloc o) r := grown_trans h (grown_of_below ((Below.refl _ _).alloc (Nat.le_refl _) o) _)
/-- Behind the box of a node and the place's step. -/
theorem rd_step {w w1 : World} {A : Option Addr} {R n c p : Nat} (hr : RdAt w R (.slice A n c) p) (hb : Below w.heap.size w w1) (o : Obj) :
    RdAt ((w1.setCell ⟨R, 1, none⟩ (.int .i64 ((p : Int) + 1))).alloc o) R (.slice A n c) (p + 1) ∧ w.grownBy ((w1.setCell ⟨R, 1, none⟩ (.int .i64 ((p : Int) + 1))).alloc o) (some R) := by
  have h1 := ((hr.keep hb).put (p + 1)).keep ((Below.refl _ _).alloc (Nat.le_refl _) o)
  exact ⟨h1, grown_alloc (grown_trans (grown_of_below hb _) (grown_setCell _ ⟨R, 1, none⟩ _)) o⟩

set_option maxRecDepth 100000 in
set_option maxHeartbeats 1000000 in
theorem part_leaf (a : Addr) (P : List Nd) (n c p R : Nat) (w : World) (hr : RdAt w R (.slice (some a) n c) p) (hn : n = P.length) (hc : n ≤ c) (hm : n ≤ maxLen) (hp : p < n) (hP : NdsAt w (some a) P) (hO : NdsOk P) (hs : shapedN (P[p]'(by omega)) = true)
    (h5 : ((P[p]'(by omega)).op == 5) = false) (h6 : ((P[p]'(by omega)).op == 6) = false) (h7 : ((P[p]'(by omega)).op == 7) = false) :
    Calls Try.prog 30 #[.pointer (some ⟨R, 0, none⟩)] w (PartPost R (some a) n c p w (some (p + 1))) := by
  unfold maxLen at hm
  have HR := Lib.hid hr
  have HS := Lib.hid (fun w1 (hb : Below w.heap.size w w1) o => rd_step hr hb o)
  obtain ⟨c0, c1, f1⟩ := hr
  have hp' : p < P.length := by omega
  obtain ⟨b, hb0, q1, q2, q3, q4⟩ := hP p P[p] (List.getElem?_eq_getElem hp')
  injection hb0 with hb0
  subst hb0
  have S := Lib.hid (fun w => val_shaped P[p] w (hO.at hp').s (hO.at hp').t)
  rw [hs] at S
  unfold ndV at S
  generalize P[p] = x at *
  clear hO hP hn
  go_enter Try.func30, Try.ntmps30
  go_wp2_with fail
  refine (S.out _).mono ?_
  rintro e w1 ⟨rfl, hb⟩
  replace c0 := cell_keep hb c0
  replace c1 := cell_keep hb c1
  replace q1 := cell_keep hb q1
  replace q2 := cell_keep hb q2
  replace q3 := cell_keep hb q3
  replace q4 := cell_keep hb q4
  have f1' := (hb.frozen (p := ⟨R, 1, none⟩) HR.out.lt).trans f1
  clear f1
  have hR := Nat.lt_of_lt_of_le HR.out.lt hb.size
  have HB := Lib.hid hb
  clear hb
  go_wp2_with fail
  go_quiet (fail)
  go_wp2_with fail
  go_ret
  obtain ⟨s1, s2⟩ := HS.out _ HB.out (.cells #[.int .i64 x.op, .int .i64 x.n, .string x.s, .string x.t] 34)
  exact ⟨by rw [show p + 1 - p = 1 by omega]; rfl, s1.drewN _, grown_drewN s2 _⟩

/-- The contract of part, with so much fuel. -/
def PartC (P : List Nd) (A : Option Addr) (n c R : Nat) (m : Nat) : Prop :=
  ∀ (q : Nat) (w : World), RdAt w R (.slice A n c) q → NdsAt w A P → n - q < m → Calls Try.prog 30 #[.pointer (some ⟨R, 0, none⟩)] w (PartPost R A n c q w (partEnd P m q))
/-- The part before. -/
def lastV (a : Addr) (c q : Nat) : Option Nat → Value
  | none => .slice none 0 0
  | some l => .slice (some (a.add (l * 4))) (q - l) (c - l)
theorem setLoop_stop {v : List Nd} {f : Nat → Option Nat} {N k : Nat} {last : Option Nat} {q : Nat} (hk : k < N) (h : f q = none) : setLoop v f (N - k) last q = none := by
  obtain ⟨j, hj⟩ : ∃ j, N - k = j + 1 := ⟨N - k - 1, by omega⟩
  rw [hj]; simp only [setLoop, h]
theorem setLoop_fall {v : List Nd} {f : Nat → Option Nat} {N k : Nat} {last : Option Nat} {q e : Nat} (hk : k < N) (h : f q = some e) (hr : rises v last q e = false) : setLoop v f (N - k) last q = none := by
  obtain ⟨j, hj⟩ : ∃ j, N - k = j + 1 := ⟨N - k - 1, by omega⟩
  rw [hj]; simp only [setLoop, h, hr, Bool.false_eq_true, if_false]
theorem setLoop_next {v : List Nd} {f : Nat → Option Nat} {N k : Nat} {last : Option Nat} {q e : Nat} (hk : k < N) (h : f q = some e) (hr : rises v last q e = true) : setLoop v f (N - k) last q = setLoop v f (N - (k + 1)) (some q) e := by
  obtain ⟨j, hj⟩ : ∃ j, N - k = j + 1 := ⟨N - k - 1, by omega⟩
  rw [hj, show N - (k + 1) = j by omega]; simp only [setLoop, h, hr, if_true]

set_option maxRecDepth 100000 in
set_option maxHeartbeats 4000000 in
theorem part_set (a : Addr) (P : List Nd) (n c p R m : Nat) (w : World) (hr : RdAt w R (.slice (some a) n c) p) (hn : n = P.length) (hc : n ≤ c) (hm : n ≤ maxLen) (hp : p < n) (hP : NdsAt w (some a) P) (hO : NdsOk P) (hs : shapedN (P[p]'(by omega)) = true)
    (h5 : (P[p]'(by omega)).op = 5) (hR : a.block ≠ R) (ih : PartC P (some a) n c R m) (hfu : n - p < m + 1) :
    Calls Try.prog 30 #[.pointer (some ⟨R, 0, none⟩)] w (PartPost R (some a) n c p w (setLoop P (partEnd P m) (P[p]'(by omega)).n.toNat none (p + 1))) := by
  have HM := Lib.hid hm
  unfold maxLen at hm
  have HR := Lib.hid hr
  have HS := Lib.hid (fun w1 (hb : Below w.heap.size w w1) o => rd_step hr hb o)
  have HP := Lib.hid hP
  have HN := Lib.hid hn
  have IH := Lib.hid ih
  obtain ⟨c0, c1, f1⟩ := hr
  have hp' : p < P.length := by omega
  obtain ⟨b, hb0, q1, q2, q3, q4⟩ := hP p P[p] (List.getElem?_eq_getElem hp')
  injection hb0 with hb0
  subst hb0
  have S := Lib.hid (fun w => val_shaped P[p] w (hO.at hp').s (hO.at hp').t)
  rw [hs] at S
  unfold ndV at S
  obtain ⟨-, -, hlo, hhi⟩ := hO.at hp'
  rw [h5] at q1 S
  generalize P[p] = x at *
  have hx0 : 0 ≤ x.n := by
    unfold shapedN at hs; rw [h5] at hs; simp at hs; exact hs.1.1
  clear hP hn h5 hs hlo ih
  have hnp : decide (n ≤ p) = false := decide_eq_false (by omega)
  go_enter Try.func30, Try.ntmps30
  go_wp2_with fail
  refine (S.out _).mono ?_
  rintro e w1 ⟨rfl, hb⟩
  replace c0 := cell_keep hb c0
  replace c1 := cell_keep hb c1
  replace q1 := cell_keep hb q1
  replace q2 := cell_keep hb q2
  replace q3 := cell_keep hb q3
  replace q4 := cell_keep hb q4
  have f1' := (hb.frozen (p := ⟨R, 1, none⟩) HR.out.lt).trans f1
  clear f1
  have hRl := Nat.lt_of_lt_of_le HR.out.lt hb.size
  have HB := Lib.hid hb
  clear hb
  go_wp2_with fail
  obtain ⟨s1, s2⟩ := HS.out _ HB.out (.cells #[.int .i64 5, .int .i64 x.n, .string x.s, .string x.t] 34)
  have S1 := Lib.hid s1
  have S2 := Lib.hid s2
  clear s1 s2 c0 c1 f1' q1 q2 q3 q4 hRl S HS HR
  go_loopw [5, 6, 7, 53] (fun last _ _ i wr => ∃ (k q : Nat) (lo : Option Nat), i = .int .i64 k ∧ (k : Int) ≤ x.n ∧ last = lastV a c q lo ∧ Hid (lo = none ↔ k = 0) ∧ Hid (∀ l, lo = some l → l < q) ∧ q ≤ n ∧ p < q ∧
      Hid (setLoop P (partEnd P m) x.n.toNat none (p + 1) = setLoop P (partEnd P m) (x.n.toNat - k) lo q) ∧ Hid (RdAt wr R (.slice (some a) n c) q) ∧ Hid (w.grownBy wr (some R))) (fun _ _ _ i _ => (x.n - intOf i).toNat)
  case atStart => exact ⟨0, p + 1, none, rfl, hx0, rfl, ⟨fun _ => rfl, fun _ => rfl⟩, (by intro l hl; cases hl), by omega, by omega, rfl, S1.out, S2.out⟩
  case round =>
    obtain ⟨k, q, lo, rfl, hk, rfl, hlo, hlq, hq, hpq, hE, hrd, hgr⟩ := hrel
    by_cases hlt : (k : Int) < x.n
    · have N := Lib.hid (HP.out.but hgr.out (fun a' e => by cases e; exact hR))
      have C := Lib.hid (IH.out q wr hrd.out N.out (by omega))
      rcases hf : partEnd P m q with _ | e
      · have HF := Lib.hid (hE.out.trans (setLoop_stop (by omega) hf))
        rw [hf] at C
        clear hf hE
        go_wp2_with fail
        refine C.out.mono ?_
        rintro e w2 hpost
        obtain ⟨rfl, g2⟩ := hpost
        go_wp2_with fail
        rw [HF.out]
        exact ⟨rfl, rfl, grown_trans hgr.out g2⟩
      · have HF := Lib.hid hf
        have hpe := partEnd_le _ _ _ hf
        rw [← HN.out] at hpe
        rw [hf] at C
        clear hf
        by_cases hk0 : k = 0
        · have hlo0 := hlo.out.2 hk0
          subst hlo0
          have hz : decide (0 < k) = false := decide_eq_false (by omega)
          have HG := Lib.hid (hE.out.trans (setLoop_next (by omega) HF.out rfl))
          clear hE hlo hlq hk0
          unfold lastV
          go_wp2_with fail
          refine C.out.mono ?_
          rintro e' w2 hpost
          obtain ⟨rfl, r2, g2⟩ := hpost
          have R2 := Lib.hid r2
          have G2 := Lib.hid g2
          clear r2 g2
          go_wp2_with fail
          go_roundw
          case rel => exact ⟨k + 1, e, some q, by go_num, by omega, rfl, ⟨(by intro h; cases h), (by intro h; omega)⟩, (by intro l hl; cases hl; exact hpe.1), by omega, by omega, HG.out, R2.out, grown_trans hgr.out G2.out⟩
          case measure => simp [intOf]; omega
        · have hk1 : decide (0 < k) = true := decide_eq_true (by omega)
          obtain ⟨l, rfl⟩ : ∃ l, lo = some l := Option.ne_none_iff_exists'.1 (fun h => hk0 (hlo.out.1 h))
          have hlq' := hlq.out l rfl
          clear hlo hlq hk0
          have V := Lib.hid (fun w2 (g2 : wr.grownBy w2 (some R)) => val_order (some (a.add (l * 4))) (some (a.add (q * 4))) (q - l) (e - q) (c - l) (c - q) (seg P l q) (seg P q e) w2 (seg_length (by rw [← HN.out]; omega)).symm (seg_length (by rw [← HN.out]; omega)).symm (Nat.le_trans (by omega) HM.out) (Nat.le_trans (by omega) HM.out)
            ((N.out.but g2 (fun a' e => by cases e; exact hR)).seg l q) ((N.out.but g2 (fun a' e => by cases e; exact hR)).seg q e))
          unfold lastV
          by_cases hcmp : cmpNds (seg P l q) (seg P q e) < 0
          · have HG := Lib.hid (hE.out.trans (setLoop_next (by omega) HF.out (decide_eq_true hcmp)))
            clear hE
            go_wp2_with fail
            refine C.out.mono ?_
            rintro e' w2 hpost
            obtain ⟨rfl, r2, g2⟩ := hpost
            have R2 := Lib.hid r2
            have G2 := Lib.hid g2
            clear r2 g2
            go_wp2_with fail
            refine (V.out _ G2.out).mono ?_
            rintro e' w3 ⟨rfl, hb3⟩
            have R3 := Lib.hid (R2.out.keep hb3)
            have G3 := Lib.hid (grown_trans G2.out (grown_of_below hb3 _))
            clear hb3
            go_wp2_with fail
            go_roundw
            case rel => exact ⟨k + 1, e, some q, by go_num, by omega, rfl, ⟨(by intro h; cases h), (by intro h; omega)⟩, (by intro l hl; cases hl; exact hpe.1), by omega, by omega, HG.out, R3.out, grown_trans hgr.out G3.out⟩
            case measure => simp [intOf]; omega
          · have HG := Lib.hid (hE.out.trans (setLoop_fall (by omega) HF.out (decide_eq_false hcmp)))
            clear hE
            go_wp2_with fail
            refine C.out.mono ?_
            rintro e' w2 hpost
            obtain ⟨rfl, r2, g2⟩ := hpost
            have G2 := Lib.hid g2
            clear r2 g2
            go_wp2_with fail
            refine (V.out _ G2.out).mono ?_
            rintro e' w3 ⟨rfl, hb3⟩
            go_wp2_with fail
            rw [HG.out]
            exact ⟨rfl, rfl, grown_trans hgr.out (grown_trans G2.out (grown_of_below hb3 _))⟩
    · have HG := Lib.hid (hE.out.trans (by rw [show x.n.toNat - k = 0 by omega]; rfl : _ = some q))
      obtain ⟨d0, d1, d2⟩ := hrd.out
      have RD := Lib.hid hrd.out
      clear hE hlo hlq hrd
      go_wp2_with fail
      go_quiet (fail)
      go_wp2_with fail
      go_ret
      rw [HG.out]
      exact ⟨rfl, RD.out.drewN _, grown_drewN hgr.out _⟩
end Go.Proofs.Ytocchkmhnneiiaa
