/-
  val's reader: part tells where a value ends, or panics.
  val's reader: part at a record; part outright.
  val.Check: nodes that are a value.
  val.first, val.Compare.
  Aids of later walks: a node's four cells; contracts that end in Below, met in a region that draws.
  What a readable argument is made of: plain facts on its cells, type by type.
  What slices that come in are made of: nodes.
-/
import Derived.Defers
import Derived.Recover
import Derived.Deep.Slices
import Derived.Test.YtcdpoamiejompaaGreatDoorQe16
namespace Go.Proofs.YtcdpoamiejompaaGreatDoor
open Go.RowKit Go.Wk Go.Sort
set_option maxRecDepth 100000

theorem add_add (a : Addr) (x y : Nat) : (a.add x).add y = a.add (x + y) := by
  unfold Addr.add
  by_cases hx : x = 0 <;> by_cases hy : y = 0 <;> simp [hx, hy, Nat.add_assoc]
theorem add_block (a : Addr) (x : Nat) : (a.add x).block = a.block := by unfold Addr.add; split <;> rfl
theorem grown_refl (w : World) (r : Option Nat) : w.grownBy w r := ⟨rfl, rfl, rfl, Nat.le_refl _, fun _ _ _ => rfl⟩
theorem grown_trans {a b c : World} {r : Option Nat} (h : a.grownBy b r) (k : b.grownBy c r) : a.grownBy c r :=
  ⟨k.os.trans h.os, k.tape.trans h.tape, k.output.trans h.output, Nat.le_trans h.size k.size, fun i hi hn => (k.block i (Nat.lt_of_lt_of_le hi h.size) hn).trans (h.block i hi hn)⟩
/-- The nodes are read as before: their block is none of the one that turned. -/
theorem NdsAt.but {w w' : World} {A : Option Addr} {P : List Nd} {R : Nat} (h : NdsAt w A P) (hg : w.grownBy w' (some R)) (hR : ∀ a, A = some a → a.block ≠ R) : NdsAt w' A P := by
  intro k x hx
  obtain ⟨a, h1, h2, h3, h4, h5⟩ := h k x hx
  have hn : some a.block ≠ some R := fun e => hR a h1 (by injection e)
  have hb := add_block a (k * 4)
  exact ⟨a, h1, hg.cell h2 (by rw [hb]; exact hn), hg.cell h3 (by rw [hb]; exact hn), hg.cell h4 (by rw [hb]; exact hn), hg.cell h5 (by rw [hb]; exact hn)⟩
/-- A part of nodes. -/
theorem NdsAt.seg {w : World} {a : Addr} {P : List Nd} (h : NdsAt w (some a) P) (i j : Nat) : NdsAt w (some (a.add (i * 4))) (seg P i j) := by
  intro k x hx
  have hx' : P[i + k]? = some x := by
    unfold Wk.seg at hx
    rw [List.getElem?_take] at hx
    split at hx
    · rw [List.getElem?_drop] at hx; exact hx
    · cases hx
  obtain ⟨b, h1, h2, h3, h4, h5⟩ := h (i + k) x hx'
  injection h1 with h1
  subst h1
  have e : (a.add (i * 4)).add (k * 4) = a.add ((i + k) * 4) := by rw [add_add, Nat.add_mul]
  exact ⟨_, rfl, by rw [e]; exact h2, by rw [e]; exact h3, by rw [e]; exact h4, by rw [e]; exact h5⟩

/-- The numbers and texts of nodes are such as Go has. -/
structure NdOk (x : Nd) : Prop where
  s : x.s.size ≤ maxLen
  t : x.t.size ≤ maxLen
  lo : -9223372036854775808 ≤ x.n
  hi : x.n ≤ 9223372036854775807
def NdsOk (P : List Nd) : Prop := ∀ x ∈ P, NdOk x
theorem NdsOk.at {P : List Nd} (h : NdsOk P) {k : Nat} (hk : k < P.length) : NdOk P[k] := h _ (List.getElem_mem hk)

/-- val's reader: its nodes and its place. -/
structure RdAt (w : World) (R : Nat) (v : Value) (p : Nat) : Prop where
  c0 : w.cell? ⟨R, 0, none⟩ = some v
  c1 : w.cell? ⟨R, 1, none⟩ = some (.int .i64 p)
  f1 : w.frozen? ⟨R, 1, none⟩ = false
theorem RdAt.keep {w w' : World} {R p : Nat} {v : Value} (h : RdAt w R v p) (hb : Below w.heap.size w w') : RdAt w' R v p :=
  ⟨cell_keep hb h.c0, cell_keep hb h.c1, (hb.frozen (p := ⟨R, 1, none⟩) (block_lt_of_cell h.c1)).trans h.f1⟩
theorem RdAt.lt {w : World} {R p : Nat} {v : Value} (h : RdAt w R v p) : R < w.heap.size := block_lt_of_cell h.c0
theorem RdAt.put {w : World} {R p : Nat} {v : Value} (h : RdAt w R v p) (q : Nat) : RdAt (w.setCell ⟨R, 1, none⟩ (.int .i64 q)) R v q := by
  refine ⟨?_, ?_, ?_⟩
  · exact (World.cell?_setCell_other _ _ _ _ (by simp)).trans h.c0
  · exact World.cell?_setCell_same _ _ _ h.c1
  · rw [World.frozen?_setCell]; exact h.f1

abbrev wrongP : List PanicEntry := [{ v := .iface 70 (.agg #[]), recovered := false }]
/-- What part tells. -/
def PartPost (R : Nat) (A : Option Addr) (n c p : Nat) (w : World) : Option Nat → Ending → World → Prop
  | some e, x, w' => x = .returned (.slice (A.map fun a => a.add (p * 4)) (e - p) (c - p)) ∧ RdAt w' R (.slice A n c) e ∧ w.grownBy w' (some R)
  | none, x, w' => x = .panicked wrongP ∧ w.grownBy w' (some R)

set_option maxRecDepth 100000 in
theorem part_out (A : Option Addr) (n c p R : Nat) (w : World) (hr : RdAt w R (.slice A n c) p) (hp : n ≤ p) :
    Calls Tryz.prog 34 #[.pointer (some ⟨R, 0, none⟩)] w (PartPost R A n c p w none) := by
  obtain ⟨c0, c1, f1⟩ := hr
  go_enter Tryz.func34, Tryz.ntmps34
  go_wp2_with fail
  exact ⟨rfl, rfl, grown_refl _ _⟩

set_option maxRecDepth 100000 in
theorem part_bad (a : Addr) (P : List Nd) (n c p R : Nat) (w : World) (hr : RdAt w R (.slice (some a) n c) p) (hn : n = P.length) (hp : p < n) (hP : NdsAt w (some a) P) (hO : NdsOk P) (hs : shapedN (P[p]'(by omega)) = false) :
    Calls Tryz.prog 34 #[.pointer (some ⟨R, 0, none⟩)] w (PartPost R (some a) n c p w none) := by
  obtain ⟨c0, c1, f1⟩ := hr
  have hp' : p < P.length := by omega
  obtain ⟨b, hb0, q1, q2, q3, q4⟩ := hP p P[p] (List.getElem?_eq_getElem hp')
  injection hb0 with hb0
  subst hb0
  have S := Lib.hid (fun w => val_shaped P[p] w (hO.at hp').s (hO.at hp').t)
  rw [hs] at S
  unfold ndV at S
  generalize P[p] = x at *
  clear hO hP hn
  go_enter Tryz.func34, Tryz.ntmps34
  go_wp2_with fail
  refine (S.out _).mono ?_
  rintro e w1 ⟨rfl, hb⟩
  go_wp2_with fail
  exact ⟨rfl, rfl, grown_of_below hb _⟩

theorem RdAt.drewN {w : World} {R p : Nat} {v : Value} (h : RdAt w R v p) (k : Nat) : RdAt (w.drewN k) R v p := ⟨h.c0, h.c1, h.f1⟩
theorem grown_drewN {w w1 : World} {r : Option Nat} (h : w.grownBy w1 r) (k : Nat) : w.grownBy (w1.drewN k) r := ⟨h.os, h.tape, h.output, h.size, h.block⟩
theorem grown_alloc {w w1 : World} {r : Option Nat} (h : w.grownBy w1 r) (o : Obj) : w.grownBy (w1.alloc o) r := grown_trans h (grown_of_below ((Below.refl _ _).alloc (Nat.le_refl _) o) _)
/-- Behind the box of a node and the place's step. -/
theorem rd_step {w w1 : World} {A : Option Addr} {R n c p : Nat} (hr : RdAt w R (.slice A n c) p) (hb : Below w.heap.size w w1) (o : Obj) :
    RdAt ((w1.setCell ⟨R, 1, none⟩ (.int .i64 ((p : Int) + 1))).alloc o) R (.slice A n c) (p + 1) ∧ w.grownBy ((w1.setCell ⟨R, 1, none⟩ (.int .i64 ((p : Int) + 1))).alloc o) (some R) := by
  have h1 := ((hr.keep hb).put (p + 1)).keep ((Below.refl _ _).alloc (Nat.le_refl _) o)
  exact ⟨h1, grown_alloc (grown_trans (grown_of_below hb _) (grown_setCell _ ⟨R, 1, none⟩ _)) o⟩

set_option maxRecDepth 100000 in
set_option maxHeartbeats 1000000 in
theorem part_leaf (a : Addr) (P : List Nd) (n c p R : Nat) (w : World) (hr : RdAt w R (.slice (some a) n c) p) (hn : n = P.length) (hc : n ≤ c) (hm : n ≤ maxLen) (hp : p < n) (hP : NdsAt w (some a) P) (hO : NdsOk P) (hs : shapedN (P[p]'(by omega)) = true)
    (h5 : ((P[p]'(by omega)).op == 5) = false) (h6 : ((P[p]'(by omega)).op == 6) = false) (h7 : ((P[p]'(by omega)).op == 7) = false) :
    Calls Tryz.prog 34 #[.pointer (some ⟨R, 0, none⟩)] w (PartPost R (some a) n c p w (some (p + 1))) := by
  unfold maxLen at hm
  have HR := Lib.hid hr
  have HS := Lib.hid (fun w1 (hb : Below w.heap.size w w1) o => rd_step hr hb o)
  obtain ⟨c0, c1, f1⟩ := hr
  have hp' : p < P.length := by omega
  obtain ⟨b, hb0, q1, q2, q3, q4⟩ := hP p P[p] (List.getElem?_eq_getElem hp')
  injection hb0 with hb0
  subst hb0
  have S := Lib.hid (fun w => val_shaped P[p] w (hO.at hp').s (hO.at hp').t)
  rw [hs] at S
  unfold ndV at S
  generalize P[p] = x at *
  clear hO hP hn
  go_enter Tryz.func34, Tryz.ntmps34
  go_wp2_with fail
  refine (S.out _).mono ?_
  rintro e w1 ⟨rfl, hb⟩
  replace c0 := cell_keep hb c0
  replace c1 := cell_keep hb c1
  replace q1 := cell_keep hb q1
  replace q2 := cell_keep hb q2
  replace q3 := cell_keep hb q3
  replace q4 := cell_keep hb q4
  have f1' := (hb.frozen (p := ⟨R, 1, none⟩) HR.out.lt).trans f1
  clear f1
  have hR := Nat.lt_of_lt_of_le HR.out.lt hb.size
  have HB := Lib.hid hb
  clear hb
  go_wp2_with fail
  go_quiet (fail)
  go_wp2_with fail
  go_ret
  obtain ⟨s1, s2⟩ := HS.out _ HB.out (.cells #[.int .i64 x.op, .int .i64 x.n, .string x.s, .string x.t] 42)
  exact ⟨by rw [show p + 1 - p = 1 by omega]; rfl, s1.drewN _, grown_drewN s2 _⟩

/-- The contract of part, with so much fuel. -/
def PartC (P : List Nd) (A : Option Addr) (n c R : Nat) (m : Nat) : Prop :=
  ∀ (q : Nat) (w : World), RdAt w R (.slice A n c) q → NdsAt w A P → n - q < m → Calls Tryz.prog 34 #[.pointer (some ⟨R, 0, none⟩)] w (PartPost R A n c q w (partEnd P m q))
/-- The part before. -/
def lastV (a : Addr) (c q : Nat) : Option Nat → Value
  | none => .slice none 0 0
  | some l => .slice (some (a.add (l * 4))) (q - l) (c - l)
theorem setLoop_stop {v : List Nd} {f : Nat → Option Nat} {N k : Nat} {last : Option Nat} {q : Nat} (hk : k < N) (h : f q = none) : setLoop v f (N - k) last q = none := by
  obtain ⟨j, hj⟩ : ∃ j, N - k = j + 1 := ⟨N - k - 1, by omega⟩
  rw [hj]; simp only [setLoop, h]
theorem setLoop_fall {v : List Nd} {f : Nat → Option Nat} {N k : Nat} {last : Option Nat} {q e : Nat} (hk : k < N) (h : f q = some e) (hr : rises v last q e = false) : setLoop v f (N - k) last q = none := by
  obtain ⟨j, hj⟩ : ∃ j, N - k = j + 1 := ⟨N - k - 1, by omega⟩
  rw [hj]; simp only [setLoop, h, hr, Bool.false_eq_true, if_false]
theorem setLoop_next {v : List Nd} {f : Nat → Option Nat} {N k : Nat} {last : Option Nat} {q e : Nat} (hk : k < N) (h : f q = some e) (hr : rises v last q e = true) : setLoop v f (N - k) last q = setLoop v f (N - (k + 1)) (some q) e := by
  obtain ⟨j, hj⟩ : ∃ j, N - k = j + 1 := ⟨N - k - 1, by omega⟩
  rw [hj, show N - (k + 1) = j by omega]; simp only [setLoop, h, hr, if_true]

set_option maxRecDepth 100000 in
set_option maxHeartbeats 4000000 in
theorem part_set (a : Addr) (P : List Nd) (n c p R m : Nat) (w : World) (hr : RdAt w R (.slice (some a) n c) p) (hn : n = P.length) (hc : n ≤ c) (hm : n ≤ maxLen) (hp : p < n) (hP : NdsAt w (some a) P) (hO : NdsOk P) (hs : shapedN (P[p]'(by omega)) = true)
    (h5 : (P[p]'(by omega)).op = 5) (hR : a.block ≠ R) (ih : PartC P (some a) n c R m) (hfu : n - p < m + 1) :
    Calls Tryz.prog 34 #[.pointer (some ⟨R, 0, none⟩)] w (PartPost R (some a) n c p w (setLoop P (partEnd P m) (P[p]'(by omega)).n.toNat none (p + 1))) := by
  have HM := Lib.hid hm
  unfold maxLen at hm
  have HR := Lib.hid hr
  have HS := Lib.hid (fun w1 (hb : Below w.heap.size w w1) o => rd_step hr hb o)
  have HP := Lib.hid hP
  have HN := Lib.hid hn
  have IH := Lib.hid ih
  obtain ⟨c0, c1, f1⟩ := hr
  have hp' : p < P.length := by omega
  obtain ⟨b, hb0, q1, q2, q3, q4⟩ := hP p P[p] (List.getElem?_eq_getElem hp')
  injection hb0 with hb0
  subst hb0
  have S := Lib.hid (fun w => val_shaped P[p] w (hO.at hp').s (hO.at hp').t)
  rw [hs] at S
  unfold ndV at S
  obtain ⟨-, -, hlo, hhi⟩ := hO.at hp'
  rw [h5] at q1 S
  generalize P[p] = x at *
  have hx0 : 0 ≤ x.n := by
    unfold shapedN at hs; rw [h5] at hs; simp at hs; exact hs.1.1
  clear hP hn h5 hs hlo ih
  have hnp : decide (n ≤ p) = false := decide_eq_false (by omega)
  go_enter Tryz.func34, Tryz.ntmps34
  go_wp2_with fail
  refine (S.out _).mono ?_
  rintro e w1 ⟨rfl, hb⟩
  replace c0 := cell_keep hb c0
  replace c1 := cell_keep hb c1
  replace q1 := cell_keep hb q1
  replace q2 := cell_keep hb q2
  replace q3 := cell_keep hb q3
  replace q4 := cell_keep hb q4
  have f1' := (hb.frozen (p := ⟨R, 1, none⟩) HR.out.lt).trans f1
  clear f1
  have hRl := Nat.lt_of_lt_of_le HR.out.lt hb.size
  have HB := Lib.hid hb
  clear hb
  go_wp2_with fail
  obtain ⟨s1, s2⟩ := HS.out _ HB.out (.cells #[.int .i64 5, .int .i64 x.n, .string x.s, .string x.t] 42)
  have S1 := Lib.hid s1
  have S2 := Lib.hid s2
  clear s1 s2 c0 c1 f1' q1 q2 q3 q4 hRl S HS HR
  go_loopw [5, 6, 7, 53] (fun last _ _ i wr => ∃ (k q : Nat) (lo : Option Nat), i = .int .i64 k ∧ (k : Int) ≤ x.n ∧ last = lastV a c q lo ∧ Hid (lo = none ↔ k = 0) ∧ Hid (∀ l, lo = some l → l < q) ∧ q ≤ n ∧ p < q ∧
      Hid (setLoop P (partEnd P m) x.n.toNat none (p + 1) = setLoop P (partEnd P m) (x.n.toNat - k) lo q) ∧ Hid (RdAt wr R (.slice (some a) n c) q) ∧ Hid (w.grownBy wr (some R))) (fun _ _ _ i _ => (x.n - intOf i).toNat)
  case atStart => exact ⟨0, p + 1, none, rfl, hx0, rfl, ⟨fun _ => rfl, fun _ => rfl⟩, (by intro l hl; cases hl), by omega, by omega, rfl, S1.out, S2.out⟩
  case round =>
    obtain ⟨k, q, lo, rfl, hk, rfl, hlo, hlq, hq, hpq, hE, hrd, hgr⟩ := hrel
    by_cases hlt : (k : Int) < x.n
    · have N := Lib.hid (HP.out.but hgr.out (fun a' e => by cases e; exact hR))
      have C := Lib.hid (IH.out q wr hrd.out N.out (by omega))
      rcases hf : partEnd P m q with _ | e
      · have HF := Lib.hid (hE.out.trans (setLoop_stop (by omega) hf))
        rw [hf] at C
        clear hf hE
        go_wp2_with fail
        refine C.out.mono ?_
        rintro e w2 hpost
        obtain ⟨rfl, g2⟩ := hpost
        go_wp2_with fail
        rw [HF.out]
        exact ⟨rfl, rfl, grown_trans hgr.out g2⟩
      · have HF := Lib.hid hf
        have hpe := partEnd_le _ _ _ hf
        rw [← HN.out] at hpe
        rw [hf] at C
        clear hf
        by_cases hk0 : k = 0
        · have hlo0 := hlo.out.2 hk0
          subst hlo0
          have hz : decide (0 < k) = false := decide_eq_false (by omega)
          have HG := Lib.hid (hE.out.trans (setLoop_next (by omega) HF.out rfl))
          clear hE hlo hlq hk0
          unfold lastV
          go_wp2_with fail
          refine C.out.mono ?_
          rintro e' w2 hpost
          obtain ⟨rfl, r2, g2⟩ := hpost
          have R2 := Lib.hid r2
          have G2 := Lib.hid g2
          clear r2 g2
          go_wp2_with fail
          go_roundw
          case rel => exact ⟨k + 1, e, some q, by go_num, by omega, rfl, ⟨(by intro h; cases h), (by intro h; omega)⟩, (by intro l hl; cases hl; exact hpe.1), by omega, by omega, HG.out, R2.out, grown_trans hgr.out G2.out⟩
          case measure => simp [intOf]; omega
        · have hk1 : decide (0 < k) = true := decide_eq_true (by omega)
          obtain ⟨l, rfl⟩ : ∃ l, lo = some l := Option.ne_none_iff_exists'.1 (fun h => hk0 (hlo.out.1 h))
          have hlq' := hlq.out l rfl
          clear hlo hlq hk0
          have V := Lib.hid (fun w2 (g2 : wr.grownBy w2 (some R)) => val_order (some (a.add (l * 4))) (some (a.add (q * 4))) (q - l) (e - q) (c - l) (c - q) (seg P l q) (seg P q e) w2 (seg_length (by rw [← HN.out]; omega)).symm (seg_length (by rw [← HN.out]; omega)).symm (Nat.le_trans (by omega) HM.out) (Nat.le_trans (by omega) HM.out)
            ((N.out.but g2 (fun a' e => by cases e; exact hR)).seg l q) ((N.out.but g2 (fun a' e => by cases e; exact hR)).seg q e))
          unfold lastV
          by_cases hcmp : cmpNds (seg P l q) (seg P q e) < 0
          · have HG := Lib.hid (hE.out.trans (setLoop_next (by omega) HF.out (decide_eq_true hcmp)))
            clear hE
            go_wp2_with fail
            refine C.out.mono ?_
            rintro e' w2 hpost
            obtain ⟨rfl, r2, g2⟩ := hpost
            have R2 := Lib.hid r2
            have G2 := Lib.hid g2
            clear r2 g2
            go_wp2_with fail
            refine (V.out _ G2.out).mono ?_
            rintro e' w3 ⟨rfl, hb3⟩
            have R3 := Lib.hid (R2.out.keep hb3)
            have G3 := Lib.hid (grown_trans G2.out (grown_of_below hb3 _))
            clear hb3
            go_wp2_with fail
            go_roundw
            case rel => exact ⟨k + 1, e, some q, by go_num, by omega, rfl, ⟨(by intro h; cases h), (by intro h; omega)⟩, (by intro l hl; cases hl; exact hpe.1), by omega, by omega, HG.out, R3.out, grown_trans hgr.out G3.out⟩
            case measure => simp [intOf]; omega
          · have HG := Lib.hid (hE.out.trans (setLoop_fall (by omega) HF.out (decide_eq_false hcmp)))
            clear hE
            go_wp2_with fail
            refine C.out.mono ?_
            rintro e' w2 hpost
            obtain ⟨rfl, r2, g2⟩ := hpost
            have G2 := Lib.hid g2
            clear r2 g2
            go_wp2_with fail
            refine (V.out _ G2.out).mono ?_
            rintro e' w3 ⟨rfl, hb3⟩
            go_wp2_with fail
            rw [HG.out]
            exact ⟨rfl, rfl, grown_trans hgr.out (grown_trans G2.out (grown_of_below hb3 _))⟩
    · have HG := Lib.hid (hE.out.trans (by rw [show x.n.toNat - k = 0 by omega]; rfl : _ = some q))
      obtain ⟨d0, d1, d2⟩ := hrd.out
      have RD := Lib.hid hrd.out
      clear hE hlo hlq hrd
      go_wp2_with fail
      go_quiet (fail)
      go_wp2_with fail
      go_ret
      rw [HG.out]
      exact ⟨rfl, RD.out.drewN _, grown_drewN hgr.out _⟩
end Go.Proofs.YtcdpoamiejompaaGreatDoor
namespace Go.Wk
theorem less_cmp (a b : List UInt8) : Op.bytesLess a b = decide (Lib.compareBytes a b < 0) := by
  induction a generalizing b with
  | nil => cases b <;> simp [Op.bytesLess, Lib.compareBytes]
  | cons x a ih =>
    cases b with
    | nil => simp [Op.bytesLess, Lib.compareBytes]
    | cons y b =>
      simp only [Op.bytesLess, Lib.compareBytes, ih]
      by_cases h1 : x < y
      · simp [h1]
      · by_cases h2 : y < x
        · have : (x == y) = false := by
            rw [beq_eq_false_iff_ne]; intro e; subst e; exact h1 h2
          simp [h1, h2, this]
        · have : x = y := by
            have a1 : ¬ x.toNat < y.toNat := h1
            have a2 : ¬ y.toNat < x.toNat := h2
            exact UInt8.toNat_inj.1 (by omega)
          subst this
          simp [h1]
/-- Texts one not ahead of the other, as the machine asks it. -/
theorem leq_ways (a b : ByteArray) : (cmpB b a < 0 ∧ Op.bytesLess a.toList b.toList = false ∧ (a.toList == b.toList) = false) ∨ (¬ cmpB b a < 0 ∧ Op.bytesLess a.toList b.toList = true) ∨ (¬ cmpB b a < 0 ∧ Op.bytesLess a.toList b.toList = false ∧ (a.toList == b.toList) = true) := by
  rw [less_cmp]
  have e : Lib.compareBytes a.toList b.toList = cmpB a b := by unfold cmpB; rw [ByteArray.toList_eq, ByteArray.toList_eq]
  rw [e]
  have h1 := cmpB_cmp.anti a b
  have h2 := cmpB_cmp.zero a b
  by_cases h : cmpB a b < 0
  · exact .inr (.inl ⟨by omega, by simpa using h⟩)
  · by_cases h0 : cmpB a b = 0
    · exact .inr (.inr ⟨by omega, by simpa using h, by rw [h2.1 h0]; simp⟩)
    · refine .inl ⟨by omega, by simpa using h, ?_⟩
      rw [beq_eq_false_iff_ne]
      intro q
      rw [ByteArray.toList_eq, ByteArray.toList_eq] at q
      exact h0 (h2.2 (bytes_ext q))
theorem recLoop_bad {v : List Nd} {f : Nat → Option Nat} {N k : Nat} {last : ByteArray} {q : Nat} (hk : k < N) (h : fieldOk v last q = none) : recLoop v f (N - k) last q = none := by
  obtain ⟨j, hj⟩ : ∃ j, N - k = j + 1 := ⟨N - k - 1, by omega⟩
  rw [hj]; simp only [recLoop, h]
theorem recLoop_stop {v : List Nd} {f : Nat → Option Nat} {N k : Nat} {last s : ByteArray} {q : Nat} (hk : k < N) (h : fieldOk v last q = some s) (hf : f (q + 1) = none) : recLoop v f (N - k) last q = none := by
  obtain ⟨j, hj⟩ : ∃ j, N - k = j + 1 := ⟨N - k - 1, by omega⟩
  rw [hj]; simp only [recLoop, h, hf]
theorem recLoop_next {v : List Nd} {f : Nat → Option Nat} {N k : Nat} {last s : ByteArray} {q e : Nat} (hk : k < N) (h : fieldOk v last q = some s) (hf : f (q + 1) = some e) : recLoop v f (N - k) last q = recLoop v f (N - (k + 1)) s e := by
  obtain ⟨j, hj⟩ : ∃ j, N - k = j + 1 := ⟨N - k - 1, by omega⟩
  rw [hj, show N - (k + 1) = j by omega]; simp only [recLoop, h, hf]
theorem fieldOk_out {v : List Nd} {last : ByteArray} {p : Nat} (h : v.length ≤ p) : fieldOk v last p = none := by
  unfold fieldOk; rw [List.getElem?_eq_none h]
theorem fieldOk_no {v : List Nd} {last : ByteArray} {p : Nat} (h : p < v.length) (hq : (decide (v[p].op = 7) && shapedN v[p] && decide (cmpB last v[p].s < 0)) = false) : fieldOk v last p = none := by
  unfold fieldOk; rw [List.getElem?_eq_getElem h]; simp only [hq, Bool.false_eq_true, if_false]
theorem fieldOk_yes {v : List Nd} {last : ByteArray} {p : Nat} (h : p < v.length) (hq : (decide (v[p].op = 7) && shapedN v[p] && decide (cmpB last v[p].s < 0)) = true) : fieldOk v last p = some v[p].s := by
  unfold fieldOk; rw [List.getElem?_eq_getElem h]; simp only [hq, if_true]
end Go.Wk
namespace Go.Proofs.YtcdpoamiejompaaGreatDoor
open Go.RowKit Go.Wk Go.Sort
set_option maxRecDepth 100000

set_option maxRecDepth 100000 in
set_option maxHeartbeats 8000000 in
theorem part_rec (a : Addr) (P : List Nd) (n c p R m : Nat) (w : World) (hr : RdAt w R (.slice (some a) n c) p) (hn : n = P.length) (hc : n ≤ c) (hm : n ≤ maxLen) (hp : p < n) (hP : NdsAt w (some a) P) (hO : NdsOk P) (hs : shapedN (P[p]'(by omega)) = true)
    (h5 : (P[p]'(by omega)).op = 6) (hR : a.block ≠ R) (ih : PartC P (some a) n c R m) (hfu : n - p < m + 1) :
    Calls Tryz.prog 34 #[.pointer (some ⟨R, 0, none⟩)] w (PartPost R (some a) n c p w (recLoop P (partEnd P m) (P[p]'(by omega)).n.toNat .empty (p + 1))) := by
  unfold maxLen at hm
  have HR := Lib.hid hr
  have HS := Lib.hid (fun w1 (hb : Below w.heap.size w w1) o => rd_step hr hb o)
  have HP := Lib.hid hP
  have HN := Lib.hid hn
  have HO := Lib.hid hO
  have IH := Lib.hid ih
  obtain ⟨c0, c1, f1⟩ := hr
  have hp' : p < P.length := by omega
  obtain ⟨b, hb0, q1, q2, q3, q4⟩ := hP p P[p] (List.getElem?_eq_getElem hp')
  injection hb0 with hb0
  subst hb0
  have S := Lib.hid (fun w => val_shaped P[p] w (hO.at hp').s (hO.at hp').t)
  rw [hs] at S
  unfold ndV at S
  obtain ⟨-, -, hlo, hhi⟩ := hO.at hp'
  rw [h5] at q1 S
  generalize P[p] = x at *
  have hx0 : 0 ≤ x.n := by
    unfold shapedN at hs; rw [h5] at hs; simp at hs; exact hs.1.1
  clear hP hn h5 hs hlo ih hO
  have hnp : decide (n ≤ p) = false := decide_eq_false (by omega)
  go_enter Tryz.func34, Tryz.ntmps34
  go_wp2_with fail
  refine (S.out _).mono ?_
  rintro e w1 ⟨rfl, hb⟩
  replace c0 := cell_keep hb c0
  replace c1 := cell_keep hb c1
  replace q1 := cell_keep hb q1
  replace q2 := cell_keep hb q2
  replace q3 := cell_keep hb q3
  replace q4 := cell_keep hb q4
  have f1' := (hb.frozen (p := ⟨R, 1, none⟩) HR.out.lt).trans f1
  clear f1
  have hRl := Nat.lt_of_lt_of_le HR.out.lt hb.size
  have HB := Lib.hid hb
  clear hb
  go_wp2_with fail
  obtain ⟨s1, s2⟩ := HS.out _ HB.out (.cells #[.int .i64 6, .int .i64 x.n, .string x.s, .string x.t] 42)
  have S1 := Lib.hid s1
  have S2 := Lib.hid s2
  clear s1 s2 c0 c1 f1' q1 q2 q3 q4 hRl S HS HR
  go_loopw [8, 74] (fun last i wr => ∃ (k q : Nat) (ls : ByteArray), i = .int .i64 k ∧ (k : Int) ≤ x.n ∧ last = .string ls ∧ q ≤ n ∧ p < q ∧
      Hid (recLoop P (partEnd P m) x.n.toNat .empty (p + 1) = recLoop P (partEnd P m) (x.n.toNat - k) ls q) ∧ Hid (RdAt wr R (.slice (some a) n c) q) ∧ Hid (w.grownBy wr (some R))) (fun _ i _ => (x.n - intOf i).toNat)
  case atStart => exact ⟨0, p + 1, .empty, rfl, hx0, rfl, by omega, by omega, rfl, S1.out, S2.out⟩
  case round =>
    obtain ⟨k, q, ls, rfl, hk, rfl, hq, hpq, hE, hrd, hgr⟩ := hrel
    by_cases hlt : (k : Int) < x.n
    · have N := Lib.hid (HP.out.but hgr.out (fun a' e => by cases e; exact hR))
      have kc0 := cell_regrown hrd.out.c0
      have kc1 := cell_regrown hrd.out.c1
      by_cases hqn : q < n
      · have hq' : q < P.length := by rw [← HN.out]; exact hqn
        obtain ⟨b, hb0, q1, q2, q3, q4⟩ := N.out q P[q] (List.getElem?_eq_getElem hq')
        injection hb0 with hb0
        subst hb0
        have hnq : decide (n ≤ q) = false := decide_eq_false (by omega)
        by_cases h7 : P[q].op = 7
        · rw [h7] at q1
          have hy := HO.out.at hq'
          have S0 : Hid (∀ w, Calls Tryz.prog 57 #[.agg #[.int .i64 7, .int .i64 P[q].n, .string P[q].s, .string P[q].t]] w fun e w' => e = .returned (.bool (shapedN P[q])) ∧ Below w.heap.size w w') :=
            Lib.hid (fun w => by have := val_shaped P[q] w hy.s hy.t; unfold ndV at this; rw [h7] at this; exact this)
          have HY := Lib.hid (show ∀ b, (decide (P[q].op = 7) && shapedN P[q] && decide (cmpB ls P[q].s < 0)) = b → (b = true → fieldOk P ls q = some P[q].s) ∧ (b = false → fieldOk P ls q = none) from
            fun b hb => ⟨fun e => fieldOk_yes hq' (hb.trans e), fun e => fieldOk_no hq' (hb.trans e)⟩)
          rw [h7] at HY
          generalize P[q] = y at *
          clear h7 hy
          have kq1 := cell_regrown q1
          have kq2 := cell_regrown q2
          have kq3 := cell_regrown q3
          have kq4 := cell_regrown q4
          by_cases hsy : shapedN y = true
          · rw [hsy] at S0 HY
            clear hsy
            rcases leq_ways y.s ls with ⟨l0, l1, l2⟩ | hl
            · have HF := Lib.hid ((HY.out true (by simp [l0])).1 rfl)
              have cS : ∀ d os, Calls Tryz.prog 57 #[.agg #[.int .i64 7, .int .i64 y.n, .string y.s, .string y.t]] (grow (redrawn wr d) os) fun e w'' => e = .returned (.bool true) ∧ ∃ p : Regrown, w'' = grow (redrawn wr p.d) p.os := fun d os => Calls.regrown_of (S0.out _)
              clear l0 HY S0
              have Q1 := Lib.hid q1
              have Q2 := Lib.hid q2
              have Q3 := Lib.hid q3
              have Q4 := Lib.hid q4
              clear q1 q2 q3 q4
              go_wp2_with fail
              refine wp_region_quiet_below (by kernel_rfl) (by kernel_rfl) ?_
              repeat (first | go_big_quiet_step (exact cS _ _) | quiet_step (exact cS _ _))
              refine wpQuiet_nil ?_
              intro w2 hw'
              have b2 : Below wr.heap.size wr w2 := by obtain ⟨⟨d, os⟩, rfl⟩ := hw'; exact below_regrown _ _ _
              clear hw' kq1 kq2 kq3 kq4 kc0 kc1 cS
              have rd2 := hrd.out.keep b2
              have q3 := cell_keep b2 Q3.out
              have nd2 := N.out.keep b2
              have RS := Lib.hid (fun k => (rd2.put (q + 1)).drewN k)
              have gs : wr.grownBy (w2.setCell ⟨R, 1, none⟩ (.int .i64 (q + 1 : Nat))) (some R) := grown_trans (grown_of_below b2 _) (grown_setCell _ ⟨R, 1, none⟩ _)
              have GS := Lib.hid (fun k => grown_drewN gs k)
              have NS := Lib.hid (fun k => N.out.but (GS.out k) (fun a' e => by cases e; exact hR))
              have hl2 := rd2.lt
              obtain ⟨d0, d1, d2⟩ := rd2
              have C := Lib.hid (fun k => IH.out (q + 1) _ (RS.out k) (NS.out k) (by omega))
              clear b2 nd2 gs Q1 Q2 Q3 Q4 l1 l2 N hrd NS
              rcases hf : partEnd P m (q + 1) with _ | e
              · have HG := Lib.hid (hE.out.trans (recLoop_stop (by omega) HF.out hf))
                rw [hf] at C
                clear hE HF hf
                go_wp2_with fail
                go_quiet (fail)
                go_wp2_with fail
                refine (C.out _).mono ?_
                rintro e w3 hpost
                obtain ⟨rfl, g3⟩ := hpost
                go_wp2_with fail
                rw [HG.out]
                exact ⟨rfl, rfl, grown_trans hgr.out (grown_trans (GS.out _) g3)⟩
              · have HG := Lib.hid (hE.out.trans (recLoop_next (by omega) HF.out hf))
                have hpe := partEnd_le _ _ _ hf
                rw [← HN.out] at hpe
                rw [hf] at C
                clear hE HF hf
                go_wp2_with fail
                go_quiet (fail)
                go_wp2_with fail
                refine (C.out _).mono ?_
                rintro e' w3 hpost
                obtain ⟨rfl, r3, g3⟩ := hpost
                have R3 := Lib.hid r3
                have G3 := Lib.hid (grown_trans hgr.out (grown_trans (GS.out _) g3))
                clear r3 g3
                go_wp2_with fail
                go_roundw
                case rel => exact ⟨k + 1, e, _, by go_num, by omega, rfl, by omega, by omega, HG.out, R3.out, G3.out⟩
                case measure => simp [intOf]; omega
            · have HF := Lib.hid ((HY.out false (by rcases hl with ⟨l0, _⟩ | ⟨l0, _⟩ <;> simp [l0])).2 rfl)
              have HG := Lib.hid (hE.out.trans (recLoop_bad (by omega) HF.out))
              have cS : ∀ d os, Calls Tryz.prog 57 #[.agg #[.int .i64 7, .int .i64 y.n, .string y.s, .string y.t]] (grow (redrawn wr d) os) fun e w'' => e = .returned (.bool true) ∧ ∃ p : Regrown, w'' = grow (redrawn wr p.d) p.os := fun d os => Calls.regrown_of (S0.out _)
              clear hE HY S0
              rcases hl with ⟨-, l1⟩ | ⟨-, l1, l2⟩
              all_goals
                go_wp2_with fail
                refine wp_region_quiet_below (by kernel_rfl) (by kernel_rfl) ?_
                repeat (first | go_big_quiet_step (exact cS _ _) | quiet_step (exact cS _ _))
                refine wpQuiet_nil ?_
                intro w2 hw'
                have B2 := Lib.hid (show Below wr.heap.size wr w2 by obtain ⟨⟨d, os⟩, rfl⟩ := hw'; exact below_regrown _ _ _)
                clear hw'
                go_wp2_with fail
                rw [HG.out]
                exact ⟨rfl, rfl, grown_trans hgr.out (grown_of_below B2.out _)⟩
          · rw [Bool.not_eq_true] at hsy
            rw [hsy] at S0 HY
            clear hsy
            have HF := Lib.hid ((HY.out false (by simp)).2 rfl)
            have HG := Lib.hid (hE.out.trans (recLoop_bad (by omega) HF.out))
            have cS : ∀ d os, Calls Tryz.prog 57 #[.agg #[.int .i64 7, .int .i64 y.n, .string y.s, .string y.t]] (grow (redrawn wr d) os) fun e w'' => e = .returned (.bool false) ∧ ∃ p : Regrown, w'' = grow (redrawn wr p.d) p.os := fun d os => Calls.regrown_of (S0.out _)
            clear hE HY S0
            go_wp2_with fail
            refine wp_region_quiet_below (by kernel_rfl) (by kernel_rfl) ?_
            repeat (first | go_big_quiet_step (exact cS _ _) | quiet_step (exact cS _ _))
            refine wpQuiet_nil ?_
            intro w2 hw'
            have B2 := Lib.hid (show Below wr.heap.size wr w2 by obtain ⟨⟨d, os⟩, rfl⟩ := hw'; exact below_regrown _ _ _)
            clear hw'
            go_wp2_with fail
            rw [HG.out]
            exact ⟨rfl, rfl, grown_trans hgr.out (grown_of_below B2.out _)⟩
        · have hs7 : (P[q].op != 7) = true := by rw [bne_iff_ne]; exact h7
          have HG := Lib.hid (hE.out.trans (recLoop_bad (by omega) (fieldOk_no hq' (by simp [h7]))))
          clear hE h7
          have kq1 := cell_regrown q1
          go_wp2_with fail
          refine wp_region_quiet_below (by kernel_rfl) (by kernel_rfl) ?_
          repeat (first | go_big_quiet_step (fail) | quiet_step (fail))
          refine wpQuiet_nil ?_
          intro w2 hw'
          have B2 := Lib.hid (show Below wr.heap.size wr w2 by obtain ⟨⟨d, os⟩, rfl⟩ := hw'; exact below_regrown _ _ _)
          clear hw'
          go_wp2_with fail
          rw [HG.out]
          exact ⟨rfl, rfl, grown_trans hgr.out (grown_of_below B2.out _)⟩
      · have hnq : decide (n ≤ q) = true := decide_eq_true (by omega)
        have HG := Lib.hid (hE.out.trans (recLoop_bad (by omega) (fieldOk_out (by rw [← HN.out]; omega))))
        clear hE
        go_wp2_with fail
        refine wp_region_quiet_below (by kernel_rfl) (by kernel_rfl) ?_
        repeat (first | go_big_quiet_step (fail) | quiet_step (fail))
        refine wpQuiet_nil ?_
        intro w2 hw'
        have B2 := Lib.hid (show Below wr.heap.size wr w2 by obtain ⟨⟨d, os⟩, rfl⟩ := hw'; exact below_regrown _ _ _)
        clear hw'
        go_wp2_with fail
        rw [HG.out]
        exact ⟨rfl, rfl, grown_trans hgr.out (grown_of_below B2.out _)⟩
    · have HG := Lib.hid (hE.out.trans (by rw [show x.n.toNat - k = 0 by omega]; rfl : _ = some q))
      obtain ⟨d0, d1, d2⟩ := hrd.out
      have RD := Lib.hid hrd.out
      clear hE hrd
      go_wp2_with fail
      go_quiet (fail)
      go_wp2_with fail
      go_ret
      rw [HG.out]
      exact ⟨rfl, RD.out.drewN _, grown_drewN hgr.out _⟩
end Go.Proofs.YtcdpoamiejompaaGreatDoor
namespace Go.Proofs.YtcdpoamiejompaaGreatDoor
open Go.RowKit Go.Wk Go.Sort
set_option maxRecDepth 100000

set_option maxRecDepth 100000 in
theorem part_field (a : Addr) (P : List Nd) (n c p R : Nat) (w : World) (hr : RdAt w R (.slice (some a) n c) p) (hn : n = P.length) (hm : n ≤ maxLen) (hp : p < n) (hP : NdsAt w (some a) P) (hO : NdsOk P) (hs : shapedN (P[p]'(by omega)) = true)
    (h7 : (P[p]'(by omega)).op = 7) :
    Calls Tryz.prog 34 #[.pointer (some ⟨R, 0, none⟩)] w (PartPost R (some a) n c p w none) := by
  unfold maxLen at hm
  have HR := Lib.hid hr
  have HS := Lib.hid (fun w1 (hb : Below w.heap.size w w1) o => rd_step hr hb o)
  obtain ⟨c0, c1, f1⟩ := hr
  have hp' : p < P.length := by omega
  obtain ⟨b, hb0, q1, q2, q3, q4⟩ := hP p P[p] (List.getElem?_eq_getElem hp')
  injection hb0 with hb0
  subst hb0
  have S := Lib.hid (fun w => val_shaped P[p] w (hO.at hp').s (hO.at hp').t)
  rw [hs] at S
  unfold ndV at S
  rw [h7] at q1 S
  generalize P[p] = x at *
  clear hO hP hn h7
  go_enter Tryz.func34, Tryz.ntmps34
  go_wp2_with fail
  refine (S.out _).mono ?_
  rintro e w1 ⟨rfl, hb⟩
  replace c0 := cell_keep hb c0
  replace c1 := cell_keep hb c1
  replace q1 := cell_keep hb q1
  replace q2 := cell_keep hb q2
  replace q3 := cell_keep hb q3
  replace q4 := cell_keep hb q4
  have f1' := (hb.frozen (p := ⟨R, 1, none⟩) HR.out.lt).trans f1
  clear f1
  have hR := Nat.lt_of_lt_of_le HR.out.lt hb.size
  have HB := Lib.hid hb
  clear hb
  go_wp2_with fail
  exact ⟨rfl, rfl, (HS.out _ HB.out _).2⟩

theorem val_part (A : Option Addr) (P : List Nd) (n c R : Nat) (hn : n = P.length) (hc : n ≤ c) (hm : n ≤ maxLen) (hO : NdsOk P) (hR : 0 < P.length → ∀ a, A = some a → a.block ≠ R) (m : Nat) : PartC P A n c R m := by
  induction m with
  | zero => intro q w _ _ h; omega
  | succ m ih =>
    intro p w hr hP hf
    by_cases hp : p < n
    · have hp' : p < P.length := by omega
      obtain ⟨a, rfl, -⟩ := hP p P[p] (List.getElem?_eq_getElem hp')
      have e : partEnd P (m + 1) p = if shapedN P[p] then (if P[p].op = 5 then setLoop P (partEnd P m) P[p].n.toNat none (p + 1) else if P[p].op = 6 then recLoop P (partEnd P m) P[p].n.toNat .empty (p + 1) else if P[p].op = 7 then none else some (p + 1)) else none := by
        simp only [partEnd, List.getElem?_eq_getElem hp']
      rw [e]
      by_cases hs : shapedN P[p] = true
      · rw [if_pos hs]
        by_cases h5 : P[p].op = 5
        · rw [if_pos h5]; exact part_set a P n c p R m w hr hn hc hm hp hP hO hs h5 (hR (by omega) a rfl) ih hf
        rw [if_neg h5]
        by_cases h6 : P[p].op = 6
        · rw [if_pos h6]; exact part_rec a P n c p R m w hr hn hc hm hp hP hO hs h6 (hR (by omega) a rfl) ih hf
        rw [if_neg h6]
        by_cases h7 : P[p].op = 7
        · rw [if_pos h7]; exact part_field a P n c p R w hr hn hm hp hP hO hs h7
        rw [if_neg h7]
        exact part_leaf a P n c p R w hr hn hc hm hp hP hO hs (beq_eq_false_iff_ne.2 h5) (beq_eq_false_iff_ne.2 h6) (beq_eq_false_iff_ne.2 h7)
      · rw [if_neg hs]
        exact part_bad a P n c p R w hr hn hp hP hO (by simpa using hs)
    · have e : partEnd P (m + 1) p = none := by
        simp only [partEnd, List.getElem?_eq_none (by omega : P.length ≤ p)]
      rw [e]
      exact part_out A n c p R w hr (by omega)

theorem check_idle (p : Addr) (w : World) :
    CallsD Tryz.prog 33 #[.pointer (some p)] .returning w fun e u' w' => e = .returned (.tuple #[]) ∧ u' = .returning ∧ w' = w := by
  refine callsD_of_wpS Tryz.func33 rfl fun c₀ cs hu => ?_
  apply wpS_seq
  apply wpS_region
  simp [wpOpsS, go_sem, recoverD, hu, Tryz.ntmps33, Exit.thenS]
  refine wpS_of_wp ?_
  go_wp2_with fail
  cases c₀
  simp_all [bodyPostS, results, Tryz.results33]
theorem check_caught (E : Nat) (v : Value) (older : List PanicEntry) (w : World) (hc : w.cell? ⟨E, 0, none⟩ = some v) (hz : w.frozen? ⟨E, 0, none⟩ = false) :
    CallsD Tryz.prog 33 #[.pointer (some ⟨E, 0, none⟩)] (.panicking ({ v := .iface 70 (.agg #[]), recovered := false } :: older)) w fun e u' w' =>
      e = .returned (.tuple #[]) ∧ u' = .panicking ({ v := .iface 70 (.agg #[]), recovered := true } :: older) ∧ w' = (w.setCell ⟨E, 0, none⟩ (.iface 39 (.int .i64 1))).alloc (.cells #[] 70) := by
  have hl : E < w.heap.size := block_lt_of_cell hc
  have hta : ∀ w, (Instr.typeAssert (.iface 70 (.agg #[])) 20 70 true).run Tryz.prog w = .ok (.tuple #[.agg #[], .bool true]) w := fun _ => by kernel_rfl
  refine callsD_of_wpS Tryz.func33 rfl fun c₀ cs hu => ?_
  apply wpS_seq
  apply wpS_region
  simp [wpOpsS, go_sem, recoverD, hu, Tryz.ntmps33]
  refine wpS_of_wp ?_
  go_wp2_with fail
  cases c₀
  simp [bodyPostS, results, Tryz.results33]

theorem check_full (A : Option Addr) (n c : Nat) (P : List Nd) (w : World) (hn : n = P.length) (hm : n ≤ maxLen) (h : 200 < n) :
    Calls Tryz.prog 13 #[.slice A n c] w fun e w' => e = .returned (errV (valFault P)) ∧ Below w.heap.size w w' := by
  have H := Lib.hid (show valFault P = 4 by unfold valFault; rw [if_pos (by omega)])
  unfold maxLen at hm
  clear hn
  go_enter_defers Tryz.func13, Tryz.ntmps13
  go_wp2_with fail
  simp [bodyPostD, Leaves, results, Tryz.results13, go_sem]
  rw [H.out]
  exact ⟨rfl, below_box _ _⟩
theorem NdsAt.lt {w : World} {A : Option Addr} {P : List Nd} (h : NdsAt w A P) (h0 : 0 < P.length) (a : Addr) (e : A = some a) : a.block < w.heap.size := by
  obtain ⟨b, hb, q, -⟩ := h 0 P[0] (List.getElem?_eq_getElem h0)
  rw [e] at hb
  injection hb with hb
  subst hb
  have := block_lt_of_cell q
  rw [add_block] at this
  exact this
/-- Behind part: the two new blocks lie there, and what was there is as it was. -/
theorem check_worlds {w w1 : World} (o1 o2 : Obj) (h : ((w.alloc o1).alloc o2).grownBy w1 (some (w.heap.size + 1))) :
    Below w.heap.size w w1 ∧ w1.cell? ⟨w.heap.size, 0, none⟩ = (w.alloc o1).cell? ⟨w.heap.size, 0, none⟩ ∧ w1.frozen? ⟨w.heap.size, 0, none⟩ = (w.alloc o1).frozen? ⟨w.heap.size, 0, none⟩ ∧ w.heap.size + 2 ≤ w1.heap.size := by
  have hb : Below (w.heap.size + 1) ((w.alloc o1).alloc o2) w1 := below_of_grown h (Nat.le_refl _) (by simp)
  have hb2 : Below (w.heap.size + 1) (w.alloc o1) w1 := ((Below.refl _ _).alloc (by simp) o2).trans hb
  refine ⟨(below_box w o1).trans (hb2.mono (by omega)), hb2.cell (by simp), hb2.frozen (by simp), ?_⟩
  have := h.size
  simp at this
  omega
theorem check_none (A : Option Addr) (n c : Nat) (P : List Nd) (w : World) (hn : n = P.length) (hc : n ≤ c) (hm : n ≤ maxLen) (hP : NdsAt w A P) (hO : NdsOk P) (h : ¬ 200 < n) (he : partEnd P (n + 1) 0 = none) :
    Calls Tryz.prog 13 #[.slice A n c] w fun e w' => e = .returned (errV (valFault P)) ∧ Below w.heap.size w w' := by
  have H := Lib.hid (show valFault P = 1 by unfold valFault; rw [if_neg (by omega), ← hn, he]; rfl)
  have C := Lib.hid (fun W h1 h2 => val_part A P n c (w.heap.size + 1) hn hc hm hO (fun h0 a e => by have := hP.lt h0 a e; omega) (n + 1) 0 W h1 h2 (by omega))
  rw [he] at C
  unfold maxLen at hm
  have HP := Lib.hid hP
  have hmf : ∀ (fn : Fn) (first cap : Array Value) (w : World), (Instr.makeFunc fn first cap).run Tryz.prog w = .ok (.func fn first cap) w := fun _ _ _ _ => rfl
  clear hn hP hO
  go_enter_defers Tryz.func13, Tryz.ntmps13
  go_wp2_with fail
  refine (C.out _ ⟨by simp, by simp, by simp⟩ (HP.out.keep ((by (repeat' (first | exact Below.refl _ _ | refine Below.alloc ?_ ?_ _ | refine Below.setCell ?_ ?_ _ | refine Below.drew ?_ | refine Below.drewN ?_ _)) <;> (try simp) <;> omega)))).mono ?_
  rintro e w1 hpost
  obtain ⟨rfl, g1⟩ := hpost
  obtain ⟨b1, c1, f1, z1⟩ := check_worlds _ _ g1
  have c1' : w1.cell? ⟨w.heap.size, 0, none⟩ = some .nilIface := c1.trans (by simp)
  have f1' : w1.frozen? ⟨w.heap.size, 0, none⟩ = false := f1.trans (by simp)
  clear c1 f1 g1
  go_wp2_with fail
  refine leaves_cons (f := 33) (args := #[.pointer (some ⟨w.heap.size, 0, none⟩)]) (by simp) (by simp [go_sem]) ?_
  refine (check_caught w.heap.size _ [] w1 c1' f1').mono ?_
  rintro e u' w2 ⟨rfl, rfl, rfl⟩
  have hl : w.heap.size < w1.heap.size := by omega
  simp [Leaves, settle, results, Tryz.results13, go_sem, c1', hl]
  rw [H.out]
  exact ⟨rfl, (b1.setCell (p := ⟨w.heap.size, 0, none⟩) (Nat.le_refl _) _).alloc (by simp [World.setCell]; omega) _⟩
theorem check_some (A : Option Addr) (n c e : Nat) (P : List Nd) (w : World) (hn : n = P.length) (hc : n ≤ c) (hm : n ≤ maxLen) (hP : NdsAt w A P) (hO : NdsOk P) (h : ¬ 200 < n) (he : partEnd P (n + 1) 0 = some e) :
    Calls Tryz.prog 13 #[.slice A n c] w fun e w' => e = .returned (errV (valFault P)) ∧ Below w.heap.size w w' := by
  have C := Lib.hid (fun W h1 h2 => val_part A P n c (w.heap.size + 1) hn hc hm hO (fun h0 a e => by have := hP.lt h0 a e; omega) (n + 1) 0 W h1 h2 (by omega))
  rw [he] at C
  have hle := partEnd_le _ _ _ he
  rw [← hn] at hle
  have H := Lib.hid (show valFault P = if e < n then 1 else 0 by
    unfold valFault; rw [if_neg (by omega), ← hn, he]
    by_cases q : e < n
    · rw [if_pos q, if_neg (by intro z; injection z with z; omega)]
    · rw [if_neg q, if_pos (by congr 1; omega)])
  unfold maxLen at hm
  have HP := Lib.hid hP
  have hmf : ∀ (fn : Fn) (first cap : Array Value) (w : World), (Instr.makeFunc fn first cap).run Tryz.prog w = .ok (.func fn first cap) w := fun _ _ _ _ => rfl
  clear hn hP hO he
  by_cases hen : e < n
  · rw [if_pos hen] at H
    go_enter_defers Tryz.func13, Tryz.ntmps13
    go_wp2_with fail
    refine (C.out _ ⟨by simp, by simp, by simp⟩ (HP.out.keep ((by (repeat' (first | exact Below.refl _ _ | refine Below.alloc ?_ ?_ _ | refine Below.setCell ?_ ?_ _ | refine Below.drew ?_ | refine Below.drewN ?_ _)) <;> (try simp) <;> omega)))).mono ?_
    rintro e w1 hpost
    obtain ⟨rfl, r1, g1⟩ := hpost
    obtain ⟨b1, c1, f1, z1⟩ := check_worlds _ _ g1
    have c1' : w1.cell? ⟨w.heap.size, 0, none⟩ = some .nilIface := c1.trans (by simp)
    have f1' : w1.frozen? ⟨w.heap.size, 0, none⟩ = false := f1.trans (by simp)
    have r2 := r1.c1
    clear c1 f1 g1 r1
    go_wp2_with fail
    refine leaves_cons (f := 33) (args := #[.pointer (some ⟨w.heap.size, 0, none⟩)]) (by simp) (by simp [go_sem]) ?_
    refine (check_idle ⟨w.heap.size, 0, none⟩ _).mono ?_
    rintro e u' w2 ⟨rfl, rfl, rfl⟩
    simp [Leaves, settle, results, Tryz.results13, go_sem, c1']
    rw [H.out]
    exact ⟨rfl, b1.setCell (p := ⟨w.heap.size, 0, none⟩) (Nat.le_refl _) _⟩
  · rw [if_neg hen] at H
    obtain rfl : e = n := by omega
    go_enter_defers Tryz.func13, Tryz.ntmps13
    go_wp2_with fail
    refine (C.out _ ⟨by simp, by simp, by simp⟩ (HP.out.keep ((by (repeat' (first | exact Below.refl _ _ | refine Below.alloc ?_ ?_ _ | refine Below.setCell ?_ ?_ _ | refine Below.drew ?_ | refine Below.drewN ?_ _)) <;> (try simp) <;> omega)))).mono ?_
    rintro e w1 hpost
    obtain ⟨rfl, r1, g1⟩ := hpost
    obtain ⟨b1, c1, f1, z1⟩ := check_worlds _ _ g1
    have c1' : w1.cell? ⟨w.heap.size, 0, none⟩ = some .nilIface := c1.trans (by simp)
    have f1' : w1.frozen? ⟨w.heap.size, 0, none⟩ = false := f1.trans (by simp)
    have r2 := r1.c1
    clear c1 f1 g1 r1
    go_wp2_with fail
    refine leaves_cons (f := 33) (args := #[.pointer (some ⟨w.heap.size, 0, none⟩)]) (by simp) (by simp [go_sem]) ?_
    refine (check_idle ⟨w.heap.size, 0, none⟩ _).mono ?_
    rintro e u' w2 ⟨rfl, rfl, rfl⟩
    simp [Leaves, settle, results, Tryz.results13, go_sem, c1']
    rw [H.out]
    exact ⟨rfl, b1.setCell (p := ⟨w.heap.size, 0, none⟩) (Nat.le_refl _) _⟩
/-- Nodes that are a value, or what is wrong. -/
theorem val_Check (A : Option Addr) (n c : Nat) (P : List Nd) (w : World) (hn : n = P.length) (hc : n ≤ c) (hm : n ≤ maxLen) (hP : NdsAt w A P) (hO : NdsOk P) :
    Calls Tryz.prog 13 #[.slice A n c] w fun e w' => e = .returned (errV (valFault P)) ∧ Below w.heap.size w w' := by
  by_cases h : 200 < n
  · exact check_full A n c P w hn hm h
  · rcases he : partEnd P (n + 1) 0 with _ | e
    · exact check_none A n c P w hn hc hm hP hO h he
    · exact check_some A n c e P w hn hc hm hP hO h he
end Go.Proofs.YtcdpoamiejompaaGreatDoor
namespace Go.Wk
end Go.Wk
namespace Go.Proofs.YtcdpoamiejompaaGreatDoor
open Go.RowKit Go.Wk Go.Sort
set_option maxRecDepth 100000

theorem cmpNd_eq {x y : Nd} (h : x = y) : cmpNd x y = 0 := (cmpNd_cmp.zero x y).2 h
theorem nd_neq {x y : Nd} (h : x ≠ y) (w : World) : (binOp .neq 42 (.agg #[.int .i64 x.op, .int .i64 x.n, .string x.s, .string x.t]) (.agg #[.int .i64 y.op, .int .i64 y.n, .string y.s, .string y.t])).run Tryz.prog w = .ok (.bool true) w := by
  simp [go_sem]
  exact fun h1 h2 h3 h4 => h (Nd.ext4 h1 h2 (toList_inj h3) (toList_inj h4))
theorem cmpNds_zero_at {P Q : List Nd} {k : Nat} (h1 : k < P.length) (h2 : k < Q.length) (h : P[k] ≠ Q[k]) (hc : cmpNds P Q = cmpNds (P.drop k) (Q.drop k)) : cmpNds P Q ≠ 0 := by
  rw [hc, cmpNds_at h1 h2, or2_ne (fun e => h ((cmpNd_cmp.zero _ _).1 e))]
  exact fun e => h ((cmpNd_cmp.zero _ _).1 e)
set_option maxHeartbeats 1000000 in
theorem same_Nodes (A B : Option Addr) (n m c d : Nat) (P Q : List Nd) (w : World) (hn : n = P.length) (hm : m = Q.length) (hln : n ≤ maxLen) (hlm : m ≤ maxLen) (hP : NdsAt w A P) (hQ : NdsAt w B Q) :
    Calls Tryz.prog 16 #[.slice A n c, .slice B m d] w fun e w' => e = .returned (.bool (decide (cmpNds P Q = 0))) ∧ Below w.heap.size w w' := by
  unfold maxLen at hln hlm
  have HN := Lib.hid hn
  have HM := Lib.hid hm
  have HP := Lib.hid hP
  have HQ := Lib.hid hQ
  clear hn hm hP hQ
  by_cases hl : n = m
  · subst hl
    go_enter Tryz.func16, Tryz.ntmps16
    go_wp2_with fail
    go_loopw [5] (fun i wr => ∃ k : Nat, k ≤ n ∧ i = .int .i64 k ∧ Hid (cmpNds P Q = cmpNds (P.drop k) (Q.drop k)) ∧ Hid (Below w.heap.size w wr)) (fun i _ => n - (intOf i).toNat)
    case atStart => exact ⟨0, Nat.zero_le _, rfl, rfl, Below.refl _ _⟩
    case round =>
      obtain ⟨k, hk, rfl, hE, hB⟩ := hrel
      by_cases hlt : k < n
      · have h1 : k < P.length := by rw [← HN.out]; exact hlt
        have h2 : k < Q.length := by rw [← HM.out]; exact hlt
        obtain ⟨a, rfl, a1, a2, a3, a4⟩ := (HP.out.keep hB.out) k P[k] (List.getElem?_eq_getElem h1)
        obtain ⟨b, rfl, b1, b2, b3, b4⟩ := (HQ.out.keep hB.out) k Q[k] (List.getElem?_eq_getElem h2)
        by_cases he : P[k] = Q[k]
        · have HE := Lib.hid (hE.out.trans ((cmpNds_at h1 h2).trans (by rw [cmpNd_eq he, or2_zero])))
          rw [he] at a1 a2 a3 a4
          generalize Q[k] = y at *
          clear he hE
          go_wp2_with fail
          go_quiet (fail)
          go_wp2_with fail
          go_roundw
          case rel => exact ⟨k + 1, by omega, by go_num, HE, hB.out.drewN _⟩
          case measure => simp [intOf]; omega
        · have HE := Lib.hid (cmpNds_zero_at h1 h2 he hE.out)
          have hne := fun w => nd_neq he w
          generalize P[k] = x at *
          generalize Q[k] = y at *
          clear he hE
          go_wp2_with fail
          go_quiet (fail)
          go_wp2_with fail
          go_ret
          exact ⟨ret_bool (decide_eq_false HE.out).symm, hB.out.drewN _⟩
      · have HE := Lib.hid (hE.out.trans (cmpNds_end0 (by rw [← HN.out]; omega) (by rw [← HM.out]; omega)))
        clear hE
        go_wp2_with fail
        go_ret
        exact ⟨ret_bool (decide_eq_true HE.out).symm, hB.out⟩
  · have HE := Lib.hid (show cmpNds P Q ≠ 0 from fun h => hl (by rw [HN.out, HM.out, (cmpNds_cmp.zero _ _).1 h]))
    have h3 : (n != m) = true := by rw [bne_iff_ne]; exact hl
    clear hl
    go_enter Tryz.func16, Tryz.ntmps16
    go_wp2_with fail
    go_ret
    exact ⟨ret_bool (decide_eq_false HE.out).symm, Below.refl _ _⟩

def ndCells : List Nd → List Value
  | [] => []
  | x :: r => .int .i64 x.op :: .int .i64 x.n :: .string x.s :: .string x.t :: ndCells r
theorem ndCells_append (P Q : List Nd) : ndCells (P ++ Q) = ndCells P ++ ndCells Q := by
  induction P with
  | nil => rfl
  | cons x P ih => simp [ndCells, ih]
theorem ndCells_length (P : List Nd) : (ndCells P).length = P.length * 4 := by
  induction P with
  | nil => rfl
  | cons x P ih => simp only [ndCells, List.length_cons, ih]; omega
theorem ndCells_at (P : List Nd) (k : Nat) (x : Nd) (h : P[k]? = some x) : (ndCells P)[k * 4]? = some (.int .i64 x.op) ∧ (ndCells P)[k * 4 + 1]? = some (.int .i64 x.n) ∧ (ndCells P)[k * 4 + 2]? = some (.string x.s) ∧ (ndCells P)[k * 4 + 3]? = some (.string x.t) := by
  induction P generalizing k with
  | nil => simp at h
  | cons y P ih =>
    cases k with
    | zero => simp only [List.getElem?_cons_zero, Option.some.injEq] at h; subst h; exact ⟨rfl, rfl, rfl, rfl⟩
    | succ k =>
      have := ih k (by simpa using h)
      rw [show (k + 1) * 4 = k * 4 + 1 + 1 + 1 + 1 by omega]
      simp only [ndCells, List.getElem?_cons_succ]
      exact this
theorem addr_add (g o k : Nat) : (⟨g, o, none⟩ : Addr).add k = ⟨g, o + k, none⟩ := by
  unfold Addr.add; split
  · rename_i h0; subst h0; rfl
  · simp
/-- Cells that are those of nodes. -/
theorem nds_of_cells {w : World} {b o : Nat} {P : List Nd} (h : ∀ (j : Nat) u, (ndCells P)[j]? = some u → w.cell? ((⟨b, o, none⟩ : Addr).add j) = some u) : NdsAt w (some ⟨b, o, none⟩) P := by
  intro k x hx
  obtain ⟨h1, h2, h3, h4⟩ := ndCells_at P k x hx
  have g1 := h _ _ h1
  have g2 := h _ _ h2
  have g3 := h _ _ h3
  have g4 := h _ _ h4
  simp only [addr_add] at g1 g2 g3 g4
  exact ⟨_, rfl, by simp only [addr_add]; exact g1, by simp only [addr_add]; exact g2, by simp only [addr_add]; exact g3, by simp only [addr_add]; exact g4⟩
theorem nds_new (w : World) (P : List Nd) (t : TypeId) : NdsAt (w.alloc (.cells (ndCells P).toArray t)) (some ⟨w.heap.size, 0, none⟩) P := nds_of_cells (cells_new w _ t)
end Go.Proofs.YtcdpoamiejompaaGreatDoor
namespace Go.Proofs.YtcdpoamiejompaaGreatDoor
open Go.RowKit Go.Wk Go.Sort

/-- A contract that ends in Below, in every world of a region that draws. -/
theorem rq {P : Program} {f : FuncId} {args : Array Value} {w : World} {v : Value} (h : ∀ w', Below w.heap.size w w' → Calls P f args w' fun e w'' => e = .returned v ∧ Below w'.heap.size w' w'') :
    ∀ d os, Calls P f args (grow (redrawn w d) os) fun e w'' => e = .returned v ∧ ∃ p : Regrown, w'' = grow (redrawn w p.d) p.os :=
  fun d os => Calls.regrown_of (h _ (below_regrown w d os))
/-- One that leaves all as it was. -/
theorem rqs {P : Program} {f : FuncId} {args : Array Value} {w : World} {v : Value} (h : ∀ w', Calls P f args w' fun e w'' => e = .returned v ∧ w' = w'') :
    ∀ d os, Calls P f args (grow (redrawn w d) os) fun e w'' => e = .returned v ∧ ∃ p : Regrown, w'' = grow (redrawn w p.d) p.os :=
  fun d os => (h _).mono fun _ _ ⟨he, hw⟩ => ⟨he, ⟨⟨d, os⟩, hw.symm⟩⟩

/-- A node's cells. -/
structure Nd4 (w : World) (a : Addr) (x : Nd) : Prop where
  c0 : w.cell? a = some (.int .i64 x.op)
  c1 : w.cell? ⟨a.block, a.off + 1, none⟩ = some (.int .i64 x.n)
  c2 : w.cell? ⟨a.block, a.off + 2, none⟩ = some (.string x.s)
  c3 : w.cell? ⟨a.block, a.off + 3, none⟩ = some (.string x.t)
theorem Nd4.keep {w w' : World} {a : Addr} {x : Nd} (h : Nd4 w a x) (hb : Below w.heap.size w w') : Nd4 w' a x :=
  ⟨cell_keep hb h.c0, cell_keep hb h.c1, cell_keep hb h.c2, cell_keep hb h.c3⟩
theorem NdsAt.nd {w : World} {A : Option Addr} {P : List Nd} (h : NdsAt w A P) {k : Nat} (hk : k < P.length) : ∃ a, A = some a ∧ Nd4 w (a.add (k * 4)) P[k] :=
  let ⟨a, e, h1, h2, h3, h4⟩ := h k P[k] (List.getElem?_eq_getElem hk); ⟨a, e, h1, h2, h3, h4⟩
theorem NdsOk.seg {P : List Nd} (h : NdsOk P) (i j : Nat) : NdsOk (seg P i j) := fun x hx => h x (List.mem_of_mem_drop (List.mem_of_mem_take hx))
end Go.Proofs.YtcdpoamiejompaaGreatDoor
namespace Go.Wk
open Go.ChangeShapes Go.WideShapes Go.RowKit

/-- These cells read as data of this type. -/
def Rd (P : Program) (w : World) (t : TypeId) (cs : List Value) : Prop :=
  ∃ (H : Type) (enc : TypeId × Value → H) (base : Nat) (sp : Nat → Bool) (held : Bool) (fuel : Nat) (x : DataW H × List MemPlace), DataW.trod enc P w base sp held fuel t cs = some x

section
variable {P : Program} {w : World} {t : TypeId} {cs : List Value}
theorem rd_of_trod {H : Type} {enc : TypeId × Value → H} {b : Nat} {sp : Nat → Bool} {hd : Bool} {v : Value} {d : DataW H} {ps : List MemPlace} (h : DataW.Trod enc P w b sp hd t v d ps) : Rd P w t v.cells.toList :=
  let ⟨f, hf⟩ := h; ⟨H, enc, b, sp, hd, f, _, hf⟩
theorem rd_string (ht : P.underlying t = some .string) (h : Rd P w t cs) : ∃ s : ByteArray, cs = [.string s] ∧ s.size ≤ maxLen := by
  obtain ⟨H, enc, b, sp, hd, f, x, hx⟩ := h
  obtain ⟨s, h1, _, h2⟩ := DataW.trod_string ht hx
  exact ⟨s, h1, h2⟩
theorem rd_int {k : IntKind} (ht : P.underlying t = some (.int k)) (h : Rd P w t cs) : ∃ n : Int, cs = [.int k n] ∧ (Lit.int k n).wf = true := by
  obtain ⟨H, enc, b, sp, hd, f, x, hx⟩ := h
  obtain ⟨s, h1, _, h2⟩ := DataW.trod_int ht hx
  exact ⟨s, h1, h2⟩
theorem rd_i64 (ht : P.underlying t = some (.int .i64)) (h : Rd P w t cs) : ∃ n : Int, cs = [.int .i64 n] ∧ -9223372036854775808 ≤ n ∧ n ≤ 9223372036854775807 := by
  obtain ⟨n, h1, h2⟩ := rd_int ht h
  refine ⟨n, h1, ?_⟩
  simpa [Lit.wf, IntKind.min, IntKind.max, IntKind.bits, IntKind.signed] using h2
theorem rd_struct {fs : Array Field} (ht : P.underlying t = some (.struct fs)) (h : Rd P w t cs) :
    cs.length = P.cellsOf t ∧ ∀ (i : Nat) (f : Field), fs[i]? = some f → Rd P w f.type ((cs.drop f.offset).take (P.cellsOf f.type)) := by
  obtain ⟨H, enc, b, sp, hd, f, x, hx⟩ := h
  obtain ⟨xs, n, _, _, h1, h2, h3⟩ := DataW.trod_struct ht hx
  refine ⟨h1, fun i f hf => ?_⟩
  have hi : i < xs.length := by rw [h2]; exact (Array.getElem?_eq_some_iff.1 hf).1
  exact ⟨H, enc, b, sp, hd, n, xs[i], (h3 i f hf).trans (List.getElem?_eq_getElem hi)⟩
theorem rd_field {fs : Array Field} (ht : P.underlying t = some (.struct fs)) (h : Rd P w t cs) (i T o n : Nat) (hf : (fs[i]?).map (fun f => (f.type, f.offset)) = some (T, o)) (hn : P.cellsOf T = n) :
    Rd P w T ((cs.drop o).take n) := by
  rcases hi : fs[i]? with _ | f
  · rw [hi] at hf; cases hf
  · rw [hi] at hf
    simp only [Option.map_some, Option.some.injEq, Prod.mk.injEq] at hf
    obtain ⟨rfl, rfl⟩ := hf
    subst hn
    exact (rd_struct ht h).2 i f hi
end
end Go.Wk
namespace Go.Proofs.YtcdpoamiejompaaGreatDoor
open Go.Wk Go.ChangeShapes Go.WideShapes Go.RowKit

set_option maxRecDepth 100000
theorem cells_uid : Tryz.prog.cellsOf 24 = 2 := by kernel_rfl
theorem cells_string : Tryz.prog.cellsOf 9 = 1 := by kernel_rfl
theorem rd_uid {w : World} {cs : List Value} (h : Rd Tryz.prog w 24 cs) : ∃ a b : ByteArray, cs = [.string a, .string b] ∧ a.size ≤ maxLen ∧ b.size ≤ maxLen := by
  have hl := (rd_struct Tryz.underlying24 h).1
  rw [cells_uid] at hl
  match cs, hl with
  | [c0, c1], _ =>
    have h0 : Rd Tryz.prog w 9 [c0] := rd_field Tryz.underlying24 h 0 9 0 1 rfl cells_string
    have h1 : Rd Tryz.prog w 9 [c1] := rd_field Tryz.underlying24 h 1 9 1 1 rfl cells_string
    obtain ⟨a, e0, s0⟩ := rd_string Tryz.underlying9 h0
    obtain ⟨b, e1, s1⟩ := rd_string Tryz.underlying9 h1
    simp only [List.cons.injEq, and_true] at e0 e1
    exact ⟨a, b, by rw [e0, e1], s0, s1⟩

theorem open_uid {H : Type} {enc : TypeId × Value → H} {w : World} {b b0 : Nat} {sp : Nat → Bool} {hd : Bool} {v : Value} {d : DataW H} {ps : List MemPlace} {r : Reach}
    (hv : Value.okWide Tryz.prog w r b0 24 v) (h : DataW.Trod enc Tryz.prog w b sp hd 24 v d ps) :
    ∃ s t : ByteArray, v = .agg #[.string s, .string t] ∧ s.size ≤ maxLen ∧ t.size ≤ maxLen := by
  obtain ⟨cs, rfl, _⟩ := okWide_struct Tryz.underlying24 hv
  obtain ⟨s, t, e, h1, h2⟩ := rd_uid (rd_of_trod h)
  refine ⟨s, t, ?_, h1, h2⟩
  obtain ⟨l⟩ := cs
  simp only [Value.cells] at e
  rw [e]
end Go.Proofs.YtcdpoamiejompaaGreatDoor
namespace Go.Wk
open Go.ChangeShapes Go.WideShapes Go.RowKit Go.Deep
section
variable {P : Program} {w : World} {t : TypeId} {cs : List Value}
theorem list_of {α : Type} (n : Nat) (R : Nat → α → Prop) (h : ∀ i, i < n → ∃ x, R i x) : ∃ l : List α, l.length = n ∧ ∀ k x, l[k]? = some x → R k x := by
  induction n with
  | zero => exact ⟨[], rfl, fun k x hx => by simp at hx⟩
  | succ n ih =>
    obtain ⟨l, hl, hr⟩ := ih (fun i hi => h i (by omega))
    obtain ⟨y, hy⟩ := h n (by omega)
    refine ⟨l ++ [y], by simp [hl], fun k x hx => ?_⟩
    by_cases hk : k < n
    · rw [List.getElem?_append_left (by omega)] at hx; exact hr k x hx
    · rw [List.getElem?_append_right (by omega)] at hx
      by_cases hk2 : k = n
      · subst hk2
        rw [hl, Nat.sub_self] at hx
        simp only [List.getElem?_cons_zero, Option.some.injEq] at hx
        subst hx; exact hy
      · have : k - l.length ≠ 0 := by omega
        obtain ⟨j, hj⟩ : ∃ j, k - l.length = j + 1 := ⟨k - l.length - 1, by omega⟩
        rw [hj] at hx; simp at hx
theorem rd_slice {e : TypeId} (ht : P.underlying t = some (.slice e)) (h : Rd P w t cs) :
    ∃ (A : Option Addr) (n c : Nat), cs = [.slice A n c] ∧ n ≤ c ∧ c ≤ maxLen ∧ ∀ i, i < n → ∃ a, A = some a ∧ ∃ cs' : List Value, cs'.length = P.cellsOf e ∧ (∀ j, j < P.cellsOf e → w.cell? (a.add (i * P.cellsOf e + j)) = cs'[j]?) ∧ Rd P w e cs' := by
  obtain ⟨H, enc, b, sp, hd, f, x, hx⟩ := h
  rcases open_slice ht hx with ⟨h0, _⟩ | ⟨a, len, cap, m, n, D, Pl, hcs, hb, hl, hm, hmm, hx, hi⟩
  · exact ⟨none, 0, 0, h0, Nat.le_refl _, by unfold maxLen; omega, fun i hi => by omega⟩
  · refine ⟨some a, len, cap, hcs, hl, hm, fun i hil => ⟨a, rfl, ?_⟩⟩
    obtain ⟨cs', hc, ht'⟩ := hi i (by rw [hmm]; split <;> omega)
    obtain ⟨_, hcl, hat⟩ := World.cells?_some hc
    refine ⟨cs', hcl, fun j hj => ?_, ⟨H, enc, b, sp, hd, n, _, ht'⟩⟩
    have := hat j hj
    rw [← Go.Deep.add_add]
    exact this
end
end Go.Wk
namespace Go.Proofs.YtcdpoamiejompaaGreatDoor
open Go.Wk Go.ChangeShapes Go.WideShapes Go.RowKit
set_option maxRecDepth 100000

/-- A slice of nodes that came in. -/
structure Ns (w : World) (A : Option Addr) (n c : Nat) (P : List Nd) : Prop where
  len : n = P.length
  cap : n ≤ c
  max : n ≤ maxLen
  at_ : NdsAt w A P
  ok : NdsOk P
theorem Ns.keep {w w' : World} {A : Option Addr} {n c : Nat} {P : List Nd} (h : Ns w A n c P) (hb : Below w.heap.size w w') : Ns w' A n c P := ⟨h.len, h.cap, h.max, h.at_.keep hb, h.ok⟩
theorem Ns.same {w : World} {A B : Option Addr} {n c m d : Nat} {P Q : List Nd} (h : Ns w A n c P) (k : Ns w B m d Q) :
    Calls Tryz.prog 16 #[.slice A n c, .slice B m d] w fun e w' => e = .returned (.bool (decide (cmpNds P Q = 0))) ∧ Below w.heap.size w w' :=
  same_Nodes A B n m c d P Q w h.len k.len h.max k.max h.at_ k.at_

theorem cells_node : Tryz.prog.cellsOf 42 = 4 := by kernel_rfl
theorem cells_int : Tryz.prog.cellsOf 3 = 1 := by kernel_rfl
theorem rd_node {w : World} {cs : List Value} (h : Rd Tryz.prog w 42 cs) : ∃ x : Nd, cs = [.int .i64 x.op, .int .i64 x.n, .string x.s, .string x.t] ∧ NdOk x := by
  have hl := (rd_struct Tryz.underlying42 h).1
  rw [cells_node] at hl
  match cs, hl with
  | [c0, c1, c2, c3], _ =>
    have h0 : Rd Tryz.prog w 3 [c0] := rd_field Tryz.underlying42 h 0 3 0 1 rfl cells_int
    have h1 : Rd Tryz.prog w 3 [c1] := rd_field Tryz.underlying42 h 1 3 1 1 rfl cells_int
    have h2 : Rd Tryz.prog w 9 [c2] := rd_field Tryz.underlying42 h 2 9 2 1 rfl cells_string
    have h3 : Rd Tryz.prog w 9 [c3] := rd_field Tryz.underlying42 h 3 9 3 1 rfl cells_string
    obtain ⟨o, e0, o1, o2⟩ := rd_i64 Tryz.underlying3 h0
    obtain ⟨n, e1, n1, n2⟩ := rd_i64 Tryz.underlying3 h1
    obtain ⟨a, e2, s2⟩ := rd_string Tryz.underlying9 h2
    obtain ⟨b, e3, s3⟩ := rd_string Tryz.underlying9 h3
    simp only [List.cons.injEq, and_true] at e0 e1 e2 e3
    exact ⟨⟨o, n, a, b⟩, by rw [e0, e1, e2, e3], s2, s3, n1, n2⟩
theorem rd_nodes {w : World} {cs : List Value} (h : Rd Tryz.prog w 25 cs) :
    ∃ (A : Option Addr) (n c : Nat) (P : List Nd), cs = [.slice A n c] ∧ n = P.length ∧ n ≤ c ∧ n ≤ maxLen ∧ NdsAt w A P ∧ NdsOk P := by
  obtain ⟨A, n, c, rfl, h1, h2, h3⟩ := rd_slice Tryz.underlying25 h
  rw [cells_node] at h3
  obtain ⟨P, hl, hr⟩ := list_of n (fun k x => (∃ a, A = some a ∧ w.cell? (a.add (k * 4)) = some (.int .i64 x.op) ∧ w.cell? (a.add (k * 4 + 1)) = some (.int .i64 x.n) ∧ w.cell? (a.add (k * 4 + 2)) = some (.string x.s) ∧ w.cell? (a.add (k * 4 + 3)) = some (.string x.t)) ∧ NdOk x) (fun i hi => by
    obtain ⟨a, rfl, cs', hl, hc, hr⟩ := h3 i hi
    obtain ⟨x, rfl, hx⟩ := rd_node hr
    exact ⟨x, ⟨a, rfl, hc 0 (by omega), hc 1 (by omega), hc 2 (by omega), hc 3 (by omega)⟩, hx⟩)
  refine ⟨A, n, c, P, rfl, hl.symm, h1, by omega, fun k x hx => ?_, fun x hx => ?_⟩
  · obtain ⟨⟨a, e, q1, q2, q3, q4⟩, -⟩ := hr k x hx
    refine ⟨a, e, q1, ?_, ?_, ?_⟩
    all_goals
      rw [← add_add] at q2 q3 q4
      unfold Addr.add at q2 q3 q4 ⊢
      first | (simpa using q2) | (simpa using q3) | (simpa using q4)
  · obtain ⟨k, hk, rfl⟩ := List.getElem_of_mem hx
    exact (hr k _ (List.getElem?_eq_getElem hk)).2
theorem open_nodes {H : Type} {enc : TypeId × Value → H} {w : World} {b b0 : Nat} {sp : Nat → Bool} {hd : Bool} {v : Value} {d : DataW H} {ps : List MemPlace} {r : Reach}
    (hv : Value.okWide Tryz.prog w r b0 25 v) (h : DataW.Trod enc Tryz.prog w b sp hd 25 v d ps) :
    ∃ (A : Option Addr) (n c : Nat) (P : List Nd), v = .slice A n c ∧ Ns w A n c P := by
  obtain ⟨A', n', c', rfl⟩ := okWide_slice Tryz.underlying25 hv
  obtain ⟨A, n, c, P, e, h1, h2, h3, h4, h5⟩ := rd_nodes (rd_of_trod h)
  have e' : (Value.slice A' n' c') = .slice A n c := by simpa [Value.cells] using e
  exact ⟨A, n, c, P, e', h1, h2, h3, h4, h5⟩
end Go.Proofs.YtcdpoamiejompaaGreatDoor
