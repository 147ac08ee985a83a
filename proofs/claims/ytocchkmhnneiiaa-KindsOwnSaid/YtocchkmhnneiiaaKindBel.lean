/-
  kinds.below: is a type below another one.
-/
import Derived.Test.YtocchkmhnneiiaaKindFind
import Derived.Test.YtocchkmhnneiiaaKindValid
namespace Go.Proofs.Ytocchkmhnneiiaa
open Go.RowKit Go.Wk Go.Sort
set_option maxRecDepth 100000

theorem len_list (f : Fl) : f.len = f.list.length := by
  induction f using Fl.rec (motive_1 := fun _ => True) with
  | nil => rfl
  | cons s m k r _ ih => simp [Fl.len, Fl.list, ih]
  | _ => trivial
theorem len_sz (f : Fl) : f.len ≤ f.sz := by
  induction f using Fl.rec (motive_1 := fun _ => True) with
  | nil => exact Nat.le_refl _
  | cons s m k r _ ih => simp only [Fl.len, Fl.sz]; omega
  | _ => trivial
/-- The contract of below, for types of so much. -/
def BelC (N : Nat) : Prop := ∀ (a b : Kd) (va vb : List Value) (w : World) (B : Nat → Prop), a.sz ≤ N → a.sz ≤ 90000 → b.sz ≤ 90000 → KAt w B a va → KAt w B b vb → a.valid → b.valid → (∀ b, B b → b < w.heap.size) →
  Calls Try.prog 18 #[.agg va.toArray, .agg vb.toArray] w fun e w' => e = .returned (.bool (belowK a b)) ∧ Below w.heap.size w w'
/-- The op and the name of a type. -/
def opN : Kd → Int
  | .base x => x
  | .ent _ => 44
  | .set _ => 45
  | .fs _ => 46
def nmN : Kd → ByteArray
  | .ent s => s
  | _ => emp
theorem kat_head {w : World} {B : Nat → Prop} {k : Kd} {v : List Value} (h : KAt w B k v) : ∃ (n : Int) (p : Option Addr) (A : Option Addr) (m c : Nat), v = [.int .i64 (opN k), .int .i64 n, .string (nmN k), .string emp, .pointer p, .slice A m c] := by
  cases k with
  | base x => obtain ⟨_, rfl⟩ := h; exact ⟨_, _, _, _, _, rfl⟩
  | ent s => obtain ⟨_, rfl⟩ := h; exact ⟨_, _, _, _, _, rfl⟩
  | set q => obtain ⟨_, _, _, rfl, _⟩ := h; exact ⟨_, _, _, _, _, rfl⟩
  | fs f => obtain ⟨_, _, _, rfl, _⟩ := h; exact ⟨_, _, _, _, _, rfl⟩
set_option maxHeartbeats 2000000 in
/-- One of the ends. -/
theorem below_end (o1 o2 n1 n2 : Int) (s1 s2 t1 t2 : ByteArray) (p1 p2 A1 A2 : Option Addr) (m1 c1 m2 c2 : Nat) (w : World) (h : o1 = 49 ∨ o2 = 48) :
    Calls Try.prog 18 #[.agg #[.int .i64 o1, .int .i64 n1, .string s1, .string t1, .pointer p1, .slice A1 m1 c1], .agg #[.int .i64 o2, .int .i64 n2, .string s2, .string t2, .pointer p2, .slice A2 m2 c2]] w fun e w' => e = .returned (.bool true) ∧ Below w.heap.size w w' := by
  have HB := Lib.hid ((below_box w (.cells #[.int .i64 o1, .int .i64 n1, .string s1, .string t1, .pointer p1, .slice A1 m1 c1] 39)).trans ((below_box _ (.cells #[.int .i64 o2, .int .i64 n2, .string s2, .string t2, .pointer p2, .slice A2 m2 c2] 39)).mono (by simp)))
  by_cases h1 : o1 = 49
  · subst h1
    clear h
    go_enter Try.func18, Try.ntmps18
    go_wp2_with fail
    go_ret
    exact ⟨rfl, HB.out⟩
  · have h2 := h.resolve_left h1
    have h3 : (o1 == 49) = false := beq_eq_false_iff_ne.2 h1
    subst h2
    clear h h1
    go_enter Try.func18, Try.ntmps18
    go_wp2_with fail
    go_ret
    exact ⟨rfl, HB.out⟩
set_option maxHeartbeats 2000000 in
/-- Different ones. -/
theorem below_differ (o1 o2 n1 n2 : Int) (s1 s2 t1 t2 : ByteArray) (p1 p2 A1 A2 : Option Addr) (m1 c1 m2 c2 : Nat) (w : World) (h1 : o1 ≠ 49) (h2 : o2 ≠ 48) (h : o1 ≠ o2 ∨ s1 ≠ s2) :
    Calls Try.prog 18 #[.agg #[.int .i64 o1, .int .i64 n1, .string s1, .string t1, .pointer p1, .slice A1 m1 c1], .agg #[.int .i64 o2, .int .i64 n2, .string s2, .string t2, .pointer p2, .slice A2 m2 c2]] w fun e w' => e = .returned (.bool false) ∧ Below w.heap.size w w' := by
  have HB := Lib.hid ((below_box w (.cells #[.int .i64 o1, .int .i64 n1, .string s1, .string t1, .pointer p1, .slice A1 m1 c1] 39)).trans ((below_box _ (.cells #[.int .i64 o2, .int .i64 n2, .string s2, .string t2, .pointer p2, .slice A2 m2 c2] 39)).mono (by simp)))
  have e1 : (o1 == 49) = false := beq_eq_false_iff_ne.2 h1
  have e2 : (o2 == 48) = false := beq_eq_false_iff_ne.2 h2
  by_cases ho : o1 = o2
  · have hs := h.resolve_left (fun q => q ho)
    have e3 : (s1.toList == s2.toList) = false := beq_eq_false_iff_ne.2 (fun q => hs (toList_inj q))
    subst ho
    clear h hs h1 h2
    go_enter Try.func18, Try.ntmps18
    go_wp2_with fail
    go_ret
    exact ⟨rfl, HB.out⟩
  · have e3 : (o1 == o2) = false := beq_eq_false_iff_ne.2 ho
    have e4 : (o1 != o2) = true := by rw [bne_iff_ne]; exact ho
    clear h h1 h2 ho
    go_enter Try.func18, Try.ntmps18
    go_wp2_with fail
    go_ret
    exact ⟨rfl, HB.out⟩
set_option maxHeartbeats 2000000 in
/-- The same without parts. -/
theorem below_same (o n1 n2 : Int) (s1 t1 t2 : ByteArray) (p1 p2 : Option Addr) (w : World) (h1 : o ≠ 49) (h2 : o ≠ 48) (h3 : o ≠ 45) :
    Calls Try.prog 18 #[.agg #[.int .i64 o, .int .i64 n1, .string s1, .string t1, .pointer p1, .slice none 0 0], .agg #[.int .i64 o, .int .i64 n2, .string s1, .string t2, .pointer p2, .slice none 0 0]] w fun e w' => e = .returned (.bool true) ∧ Below w.heap.size w w' := by
  have HB := Lib.hid ((below_box w (.cells #[.int .i64 o, .int .i64 n1, .string s1, .string t1, .pointer p1, .slice none 0 0] 39)).trans ((below_box _ (.cells #[.int .i64 o, .int .i64 n2, .string s1, .string t2, .pointer p2, .slice none 0 0] 39)).mono (by simp)))
  have e1 : (o == 49) = false := beq_eq_false_iff_ne.2 h1
  have e2 : (o == 48) = false := beq_eq_false_iff_ne.2 h2
  have e3 : (o == 45) = false := beq_eq_false_iff_ne.2 h3
  clear h1 h2 h3
  go_enter Try.func18, Try.ntmps18
  go_wp2_with fail
  go_loopw [58] (fun i wr => i = .int .i64 0 ∧ Hid (wr = ((w.alloc (.cells #[.int .i64 o, .int .i64 n1, .string s1, .string t1, .pointer p1, .slice none 0 0] 39)).alloc (.cells #[.int .i64 o, .int .i64 n2, .string s1, .string t2, .pointer p2, .slice none 0 0] 39)))) (fun _ _ => 0)
  case atStart => exact ⟨rfl, Lib.hid rfl⟩
  case round =>
    obtain ⟨rfl, hw⟩ := hrel
    have X2 := bx6_new (w.alloc (.cells #[.int .i64 o, .int .i64 n1, .string s1, .string t1, .pointer p1, .slice none 0 0] 39)) (.int .i64 o) (.int .i64 n2) (.string s1) (.string t2) (.pointer p2) (.slice none 0 0) 39
    have hsz : (w.alloc (.cells #[.int .i64 o, .int .i64 n1, .string s1, .string t1, .pointer p1, .slice none 0 0] 39)).heap.size = w.heap.size + 1 := by simp
    rw [hsz, ← hw.out] at X2
    have HB1 := HB.out
    rw [← hw.out] at HB1
    have HB2 := Lib.hid HB1
    obtain ⟨c0, c1, c2, c3, c4, c5, -, -, -, -, -, -⟩ := X2
    clear hsz hw HB HB1
    go_wp2_with fail
    obtain ⟨w5, rfl⟩ : ∃ w5 : World, w5 = wr := ⟨_, rfl⟩
    go_loopw [92] (fun i wr => i = .int .i64 0 ∧ wr = w5) (fun _ _ => 0)
    case atStart => exact ⟨rfl, rfl⟩
    case round =>
      obtain ⟨rfl, rfl⟩ := hrel
      go_wp2_with fail
      go_ret
      exact ⟨rfl, HB2.out⟩
set_option maxHeartbeats 2000000 in
/-- Of sets. -/
theorem below_sets (N : Nat) (ih : BelC N) (p q : Kd) (va vb : List Value) (w : World) (B : Nat → Prop) (h : p.sz ≤ N) (hp : p.sz ≤ 90000) (hq : q.sz ≤ 90000) (ha : KAt w B (.set p) va) (hb : KAt w B (.set q) vb) (op : p.valid) (oq : q.valid) (hB : ∀ b, B b → b < w.heap.size) :
    Calls Try.prog 18 #[.agg va.toArray, .agg vb.toArray] w fun e w' => e = .returned (.bool (belowK p q)) ∧ Below w.heap.size w w' := by
  obtain ⟨n1, b1, u1, rfl, hb1, r1, k1⟩ := ha
  obtain ⟨n2, b2, u2, rfl, hb2, r2, k2⟩ := hb
  have IH := Lib.hid (fun w' (hw : Below w.heap.size w w') => ih p q u1 u2 w' B h hp hq (k1.cong (fun b x => hw.block b (hB b x))) (k2.cong (fun b x => hw.block b (hB b x))) op oq (fun b x => Nat.lt_of_lt_of_le (hB b x) hw.size))
  obtain ⟨o3, n3, s3, t3, p3, A3, m3, c3, rfl⟩ := kat_six k1
  obtain ⟨o4, n4, s4, t4, p4, A4, m4, c4, rfl⟩ := kat_six k2
  have L1 := hB b1 hb1
  have L2 := hB b2 hb2
  have R1 := Lib.hid (fun w' (hw : Below w.heap.size w w') => r1.cong (w' := w') (hw.block b1 L1))
  have R2 := Lib.hid (fun w' (hw : Below w.heap.size w w') => r2.cong (w' := w') (hw.block b2 L2))
  clear k1 k2 r1 r2 ih hB hb1 hb2 L1 L2
  have HB := Lib.hid ((below_box w (.cells #[.int .i64 45, .int .i64 n1, .string emp, .string emp, .pointer (some ⟨b1, 0, none⟩), .slice none 0 0] 39)).trans ((below_box _ (.cells #[.int .i64 45, .int .i64 n2, .string emp, .string emp, .pointer (some ⟨b2, 0, none⟩), .slice none 0 0] 39)).mono (by simp)))
  have hsz : (w.alloc (.cells #[.int .i64 45, .int .i64 n1, .string emp, .string emp, .pointer (some ⟨b1, 0, none⟩), .slice none 0 0] 39)).heap.size = w.heap.size + 1 := by simp
  have X1 := (bx6_new w (.int .i64 45) (.int .i64 n1) (.string emp) (.string emp) (.pointer (some ⟨b1, 0, none⟩)) (.slice none 0 0) 39).keep (below_box _ (.cells #[.int .i64 45, .int .i64 n2, .string emp, .string emp, .pointer (some ⟨b2, 0, none⟩), .slice none 0 0] 39))
  have X2 := bx6_new (w.alloc (.cells #[.int .i64 45, .int .i64 n1, .string emp, .string emp, .pointer (some ⟨b1, 0, none⟩), .slice none 0 0] 39)) (.int .i64 45) (.int .i64 n2) (.string emp) (.string emp) (.pointer (some ⟨b2, 0, none⟩)) (.slice none 0 0) 39
  rw [hsz] at X2
  generalize belowK p q = bb at *
  go_enter Try.func18, Try.ntmps18
  go_wp2_with fail
  obtain ⟨w2, hw2⟩ : ∃ w2, (w.alloc (.cells #[.int .i64 45, .int .i64 n1, .string emp, .string emp, .pointer (some ⟨b1, 0, none⟩), .slice none 0 0] 39)).alloc (.cells #[.int .i64 45, .int .i64 n2, .string emp, .string emp, .pointer (some ⟨b2, 0, none⟩), .slice none 0 0] 39) = w2 := ⟨_, rfl⟩
  rw [hw2] at X1 X2 HB ⊢
  clear hw2 hsz
  have Q1 := R1.out _ HB.out
  have Q2 := R2.out _ HB.out
  have d0 := Q1 0 _ rfl
  have d1 := Q1 1 _ rfl
  have d2 := Q1 2 _ rfl
  have d3 := Q1 3 _ rfl
  have d4 := Q1 4 _ rfl
  have d5 := Q1 5 _ rfl
  have g0 := Q2 0 _ rfl
  have g1 := Q2 1 _ rfl
  have g2 := Q2 2 _ rfl
  have g3 := Q2 3 _ rfl
  have g4 := Q2 4 _ rfl
  have g5 := Q2 5 _ rfl
  have ad : ∀ (b j : Nat), (⟨b, 0, none⟩ : Addr).add j = ⟨b, j, none⟩ := fun b j => by
    unfold Addr.add
    split
    · rename_i h0; subst h0; rfl
    · simp
  rw [ad] at d0 d1 d2 d3 d4 d5 g0 g1 g2 g3 g4 g5
  clear ad Q1 Q2
  replace d0 := cell_regrown d0
  replace d1 := cell_regrown d1
  replace d2 := cell_regrown d2
  replace d3 := cell_regrown d3
  replace d4 := cell_regrown d4
  replace d5 := cell_regrown d5
  replace g0 := cell_regrown g0
  replace g1 := cell_regrown g1
  replace g2 := cell_regrown g2
  replace g3 := cell_regrown g3
  replace g4 := cell_regrown g4
  replace g5 := cell_regrown g5
  have v1 := cell_regrown X1.c4
  have v2 := cell_regrown X2.c4
  have hq : ∀ w', Below w2.heap.size w2 w' → Below w.heap.size w w' := fun w' hb => HB.out.trans (hb.mono HB.out.size)
  have K := rq (w := w2) (v := .bool bb) (fun w' hb => IH.out w' (hq w' hb))
  clear hq R1 R2 IH X1 X2
  refine wp_region_quiet_below (by kernel_rfl) (by kernel_rfl) ?_
  repeat (first | go_big_quiet_step (exact K _ _) | quiet_step (exact K _ _))
  refine wpQuiet_nil ?_
  intro w3 hw'
  have b3 := Lib.hid (show Below w2.heap.size w2 w3 by obtain ⟨⟨d, os⟩, rfl⟩ := hw'; exact below_regrown _ _ _)
  clear hw'
  have B3 := bh HB b3.out
  clear d0 d1 d2 d3 d4 d5 g0 g1 g2 g3 g4 g5 v1 v2 K
  go_wp2_with fail
  go_ret
  exact ⟨rfl, B3.out⟩
end Go.Proofs.Ytocchkmhnneiiaa
