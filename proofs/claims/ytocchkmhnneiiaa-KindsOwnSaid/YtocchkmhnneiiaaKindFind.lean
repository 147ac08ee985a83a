/-
  kinds.find: the field of a name, by halves.
-/
import Derived.Test.YtocchkmhnneiiaaKindAt
import Derived.Test.YtocchkmhnneiiaaKindBx
import Derived.Test.YtocchkmhnneiiaaKindList
import Derived.Test.YtocchkmhnneiiaaAid
namespace Go.Proofs.Ytocchkmhnneiiaa
open Go.RowKit Go.Wk Go.Sort
set_option maxRecDepth 100000

theorem kat_six {w : World} {B : Nat → Prop} {k : Kd} {v : List Value} (h : KAt w B k v) : ∃ (o n : Int) (s t : ByteArray) (p : Option Addr) (A : Option Addr) (m c : Nat), v = [.int .i64 o, .int .i64 n, .string s, .string t, .pointer p, .slice A m c] := by
  cases k with
  | base x => obtain ⟨_, rfl⟩ := h; exact ⟨_, _, _, _, _, _, _, _, rfl⟩
  | ent s => obtain ⟨_, rfl⟩ := h; exact ⟨_, _, _, _, _, _, _, _, rfl⟩
  | set q => obtain ⟨_, _, _, rfl, _⟩ := h; exact ⟨_, _, _, _, _, _, _, _, rfl⟩
  | fs f => obtain ⟨_, _, _, rfl, _⟩ := h; exact ⟨_, _, _, _, _, _, _, _, rfl⟩
/-- A field where it lies. -/
structure FdAt (w : World) (B : Nat → Prop) (a : Addr) (y : Kfd) : Prop where
  b : B a.block
  r : ∃ u, Row0 w a (.string y.1 :: .bool y.2.1 :: u) ∧ KAt w B y.2.2 u
theorem FAt.at {w : World} {B : Nat → Prop} {A : Option Addr} {f : Fl} : ∀ {i0 : Nat}, FAt w B A i0 f → ∀ (i : Nat) (y : Kfd), f.list[i]? = some y → ∃ a, A = some a ∧ FdAt w B (a.add ((i0 + i) * 8)) y := by
  induction f using Fl.rec (motive_1 := fun _ => True) with
  | nil => intro i0 _ i y h; simp [Fl.list] at h
  | cons s m k r _ ih =>
    intro i0 h i y hy
    obtain ⟨⟨a, u, e, h1, h2, h3⟩, h4⟩ := h
    cases i with
    | zero =>
      simp only [Fl.list, List.getElem?_cons_zero, Option.some.injEq] at hy
      subst hy
      exact ⟨a, e, by rw [add_block]; exact h1, u, h2, h3⟩
    | succ i =>
      obtain ⟨b, e2, h5⟩ := ih h4 i y (by simpa [Fl.list] using hy)
      exact ⟨b, e2, by rw [show i0 + (i + 1) = i0 + 1 + i by omega]; exact h5⟩
  | _ => trivial
theorem nxa (a : Addr) (x d : Nat) (hd : 0 < d) : (⟨(a.add x).block, (a.add x).off + d, none⟩ : Addr) = (a.add x).add d := by
  unfold Addr.add
  by_cases hx : x = 0
  · subst hx; simp; omega
  · simp [hx]; omega
/-- The eight cells of a field. -/
theorem FdAt.cells {w : World} {B : Nat → Prop} {a : Addr} {x : Nat} {y : Kfd} (h : FdAt w B (a.add x) y) : ∃ (o n : Int) (s0 t0 : ByteArray) (p A : Option Addr) (m c : Nat), KAt w B y.2.2 [.int .i64 o, .int .i64 n, .string s0, .string t0, .pointer p, .slice A m c] ∧
    w.cell? (a.add x) = some (.string y.1) ∧ w.cell? ⟨(a.add x).block, (a.add x).off + 1, none⟩ = some (.bool y.2.1) ∧ w.cell? ⟨(a.add x).block, (a.add x).off + 2, none⟩ = some (.int .i64 o) ∧ w.cell? ⟨(a.add x).block, (a.add x).off + 3, none⟩ = some (.int .i64 n) ∧
    w.cell? ⟨(a.add x).block, (a.add x).off + 4, none⟩ = some (.string s0) ∧ w.cell? ⟨(a.add x).block, (a.add x).off + 5, none⟩ = some (.string t0) ∧ w.cell? ⟨(a.add x).block, (a.add x).off + 6, none⟩ = some (.pointer p) ∧ w.cell? ⟨(a.add x).block, (a.add x).off + 7, none⟩ = some (.slice A m c) := by
  obtain ⟨-, u, hr, hk⟩ := h
  obtain ⟨o, n, s0, t0, p, A, m, c, rfl⟩ := kat_six hk
  refine ⟨o, n, s0, t0, p, A, m, c, hk, ?_, ?_, ?_, ?_, ?_, ?_, ?_, ?_⟩
  · have := hr 0 _ rfl
    rwa [show (a.add x).add 0 = a.add x from rfl] at this
  all_goals rw [nxa _ _ _ (by omega)]; exact hr _ _ rfl
set_option maxHeartbeats 1000000 in
theorem find_cmp (nm : ByteArray) (b : Bool) (o n : Int) (s0 t0 : ByteArray) (p A : Option Addr) (m c : Nat) (s : ByteArray) (w : World) :
    Calls Try.prog 33 #[.agg #[.string nm, .bool b, .int .i64 o, .int .i64 n, .string s0, .string t0, .pointer p, .slice A m c], .string s] w fun e w' => e = .returned (.int .i64 (cmpB nm s)) ∧ Below w.heap.size w w' := by
  have B0 := Lib.hid (below_box w (.cells #[.string nm, .bool b, .int .i64 o, .int .i64 n, .string s0, .string t0, .pointer p, .slice A m c] 51))
  go_enter Try.func33, Try.ntmps33
  go_wp2_with fail
  refine (strings_Compare nm s _).mono ?_
  rintro e w1 ⟨rfl, rfl⟩
  go_wp2_with fail
  go_ret
  exact ⟨rfl, B0.out⟩
/-- Where the search ends. -/
def SrcPost (w : World) (L : List Kfd) (s : ByteArray) (e : Ending) (w' : World) : Prop :=
  ∃ (i : Nat) (h : Bool), e = .returned (.tuple #[.int .i64 i, .bool h]) ∧ (h = true → ∃ hi : i < L.length, L[i].1 = s) ∧ (h = false → ∀ y ∈ L, y.1 ≠ s) ∧ Below w.heap.size w w'
set_option maxHeartbeats 4000000 in
theorem find_search (A : Option Addr) (n c : Nat) (f : Fl) (B : Nat → Prop) (s : ByteArray) (w : World) (hf : FAt w B A 0 f) (hn : n = f.list.length) (hl : n ≤ 100000) (_ : n ≤ c) (ha : f.asc) (hb : ∀ b, B b → b < w.heap.size) :
    Calls Try.prog 32 #[.slice A n c, .string s, .func (.func 33) #[] #[]] w (SrcPost w f.list s) := by
  have eg : ∀ args w, (callFunc 33 args).run Try.prog w = .ok (.enter 33 args) w := enters_of Try.func33 (by kernel_rfl) rfl
  have HF := Lib.hid (fun w' (h : Below w.heap.size w w') => (hf.cong (w' := w') (fun b hB => h.block b (hb b hB))).at)
  have HP := Lib.hid (list_asc ha)
  have HN := Lib.hid hn
  have HS := Lib.hid (show Half f.list s 0 n from hn ▸ Half.start f.list s)
  clear hf hn ha hb
  generalize f.list = L at *
  go_enter Try.func32, Try.ntmps32
  go_wp2_with fail
  go_loopw [9, 10] (fun i j wr => ∃ lo hi : Nat, hi ≤ n ∧ i = .int .i64 lo ∧ j = .int .i64 hi ∧ lo ≤ hi ∧ Hid (Half L s lo hi) ∧ Hid (Below w.heap.size w wr)) (fun i j _ => (intOf j).toNat - (intOf i).toNat)
  case atStart => exact ⟨0, n, Nat.le_refl _, rfl, rfl, Nat.zero_le _, HS, Below.refl _ _⟩
  case round =>
    clear HS
    obtain ⟨lo, hi, hhi, rfl, rfl, hle, hH, hB⟩ := hrel
    by_cases hlt : lo < hi
    · obtain ⟨m, hmid, hm1, hm2⟩ : ∃ m : Nat, ((lo : Int) + (hi : Int)) / 2 = (m : Int) ∧ lo ≤ m ∧ m < hi := ⟨(lo + hi) / 2, by omega, by omega, by omega⟩
      have hmn : m < n := by omega
      have hml : m < L.length := by rw [← HN.out]; exact hmn
      obtain ⟨a, rfl, hfd⟩ := HF.out wr hB.out m _ (List.getElem?_eq_getElem hml)
      rw [Nat.zero_add] at hfd
      have HUP := Lib.hid (fun hc => hH.out.up HP.out hm1 hm2 hml hc)
      have HDN := Lib.hid (fun hc => hH.out.down HP.out hm1 hm2 hml hc)
      generalize L[m] = y at *
      obtain ⟨o, nn, s0, t0, p, A', m', c', -, q0, q1, q2, q3, q4, q5, q6, q7⟩ := hfd.cells
      have KC := Lib.hid (find_cmp y.1 y.2.1 o nn s0 t0 p A' m' c' s wr)
      clear hfd
      by_cases hc : cmpB y.1 s < 0
      · have H2 := Lib.hid (HUP.out hc)
        generalize cmpB y.1 s = cu at *
        clear HUP HDN hH
        go_wp2_with (go_at_fn 33; refine KC.out.mono ?_; rintro e w1 ⟨rfl, b1⟩)
        have B1 := bh hB b1
        clear q0 q1 q2 q3 q4 q5 q6 q7 hB b1 KC
        go_wp2_with fail
        go_roundw
        case rel => exact ⟨m + 1, hi, hhi, by go_num, rfl, by omega, H2, B1⟩
        case measure => simp [intOf]; omega
      · have H2 := Lib.hid (HDN.out hc)
        generalize cmpB y.1 s = cu at *
        clear HUP HDN hH
        go_wp2_with (go_at_fn 33; refine KC.out.mono ?_; rintro e w1 ⟨rfl, b1⟩)
        have B1 := bh hB b1
        clear q0 q1 q2 q3 q4 q5 q6 q7 hB b1 KC
        go_wp2_with fail
        go_roundw
        case rel => exact ⟨lo, m, by omega, rfl, rfl, by omega, H2, B1⟩
        case measure => simp [intOf]; omega
    · obtain rfl : lo = hi := by omega
      have HFD := Lib.hid (hH.out.found HP.out)
      by_cases hln : lo < n
      · have hml : lo < L.length := by rw [← HN.out]; exact hln
        obtain ⟨a, rfl, hfd⟩ := HF.out wr hB.out lo _ (List.getElem?_eq_getElem hml)
        rw [Nat.zero_add] at hfd
        obtain ⟨y, hy⟩ : ∃ y, y = L[lo] := ⟨_, rfl⟩
        have HY := Lib.hid hy
        rw [← hy] at hfd
        clear hy
        obtain ⟨o, nn, s0, t0, p, A', m', c', -, q0, q1, q2, q3, q4, q5, q6, q7⟩ := hfd.cells
        have KC := Lib.hid (find_cmp y.1 y.2.1 o nn s0 t0 p A' m' c' s wr)
        clear hfd
        go_wp2_with fail
        refine KC.out.mono ?_
        rintro e w1 ⟨rfl, b1⟩
        have B1 := bh hB b1
        clear q0 q1 q2 q3 q4 q5 q6 q7 b1 KC
        by_cases hc : cmpB y.1 s = 0
        · have H2 := Lib.hid (show ∃ hi : lo < L.length, L[lo].1 = s from ⟨hml, by rw [← HY.out]; exact (cmpB_cmp.zero _ _).1 hc⟩)
          rw [hc]
          clear hc
          go_wp2_with fail
          go_ret2
          exact ⟨lo, true, rfl, fun _ => H2.out, fun h => (nomatch h), B1.out⟩
        · have H2 := Lib.hid (HFD.out.2 (fun hl e => hc (by rw [HY.out, e]; exact cmpB_cmp.self s)))
          have h0 : (cmpB y.1 s == 0) = false := by simpa using hc
          generalize cmpB y.1 s = cu at *
          clear hc
          go_wp2_with fail
          go_ret2
          exact ⟨lo, false, rfl, fun h => (nomatch h), fun _ => H2.out, B1.out⟩
      · have HNO := Lib.hid (HFD.out.2 (fun hl => absurd (by rw [HN.out]; exact hl) hln))
        go_wp2_with fail
        go_ret2
        exact ⟨lo, false, rfl, fun h => (nomatch h), fun _ => HNO.out, hB.out⟩
/-- What find tells. -/
def FndPost (w : World) (B : Nat → Prop) (f : Fl) (s : ByteArray) (e : Ending) (w' : World) : Prop :=
  Below w.heap.size w w' ∧ match f.find s with
  | none => e = .returned (.tuple #[.agg #[.string ⟨#[]⟩, .bool false, .int .i64 0, .int .i64 0, .string ⟨#[]⟩, .string ⟨#[]⟩, .pointer none, .slice none 0 0], .bool false])
  | some (m, k) => ∃ u : List Value, e = .returned (.tuple #[.agg (.string s :: .bool m :: u).toArray, .bool true]) ∧ KAt w' B k u
set_option maxHeartbeats 4000000 in
theorem kind_find (A : Option Addr) (n c : Nat) (f : Fl) (B : Nat → Prop) (o nn : Int) (s0 t0 : ByteArray) (p : Option Addr) (s : ByteArray) (w : World) (hf : FAt w B A 0 f) (hn : n = f.list.length) (hl : n ≤ 100000) (hc : n ≤ c) (ha : f.asc) (hb : ∀ b, B b → b < w.heap.size) :
    Calls Try.prog 23 #[.agg #[.int .i64 o, .int .i64 nn, .string s0, .string t0, .pointer p, .slice A n c], .string s] w (FndPost w B f s) := by
  have hmf : ∀ (fn : Fn) (first cap : Array Value) (w : World), (Instr.makeFunc fn first cap).run Try.prog w = .ok (.func fn first cap) w := fun _ _ _ _ => rfl
  have HS := Lib.hid (fun w' (h : Below w.heap.size w w') => find_search A n c f B s w' (hf.cong (fun b hB => h.block b (hb b hB))) hn hl hc ha (fun b hB => Nat.lt_of_lt_of_le (hb b hB) h.size))
  have HF := Lib.hid (fun w' (h : Below w.heap.size w w') => (hf.cong (w' := w') (fun b hB => h.block b (hb b hB))).at)
  have HN := Lib.hid hn
  have HA := Lib.hid ha
  have HBB := Lib.hid hb
  clear hf hn ha hb
  go_enter Try.func23, Try.ntmps23
  have X1 := Lib.hid (bx6_new w (.int .i64 o) (.int .i64 nn) (.string s0) (.string t0) (.pointer p) (.slice A n c) 39)
  have B1 := Lib.hid (below_box w (.cells #[.int .i64 o, .int .i64 nn, .string s0, .string t0, .pointer p, .slice A n c] 39))
  go_wp2_with fail
  have hsz : (w.alloc (.cells #[.int .i64 o, .int .i64 nn, .string s0, .string t0, .pointer p, .slice A n c] 39)).heap.size = w.heap.size + 1 := by simp
  obtain ⟨w1, hw1⟩ : ∃ w1, w.alloc (.cells #[.int .i64 o, .int .i64 nn, .string s0, .string t0, .pointer p, .slice A n c] 39) = w1 := ⟨_, rfl⟩
  rw [hw1] at X1 B1 hsz ⊢
  rw [← hsz]
  clear hw1 hsz
  have X2 := Lib.hid (X1.out.keep (below_box w1 (.cells #[.string ⟨#[]⟩, .bool false, .int .i64 0, .int .i64 0, .string ⟨#[]⟩, .string ⟨#[]⟩, .pointer none, .slice none 0 0] 51)))
  have Y2 := Lib.hid (bx8_new w1 (.string ⟨#[]⟩) (.bool false) (.int .i64 0) (.int .i64 0) (.string ⟨#[]⟩) (.string ⟨#[]⟩) (.pointer none) (.slice none 0 0) 51)
  have B2 := bh B1 (below_box w1 (.cells #[.string ⟨#[]⟩, .bool false, .int .i64 0, .int .i64 0, .string ⟨#[]⟩, .string ⟨#[]⟩, .pointer none, .slice none 0 0] 51))
  obtain ⟨w2, hw2⟩ : ∃ w2, w1.alloc (.cells #[.string ⟨#[]⟩, .bool false, .int .i64 0, .int .i64 0, .string ⟨#[]⟩, .string ⟨#[]⟩, .pointer none, .slice none 0 0] 51) = w2 := ⟨_, rfl⟩
  rw [hw2] at X2 Y2 B2 ⊢
  clear hw2 X1
  have HW := Lib.hid B1.out.size
  clear B1
  refine (HS.out w2 B2.out).mono ?_
  rintro e w3 ⟨i, hh, rfl, h1, h2, b3⟩
  have X3 := Lib.hid (X2.out.keep b3)
  have Y3 := Lib.hid (Y2.out.keep b3)
  have B3 := bh B2 b3
  clear X2 Y2 B2 b3 HS
  obtain ⟨c0, c1, c2, c3, c4, c5, -, -, -, -, -, -⟩ := X3.out
  obtain ⟨d0, d1, d2, d3, d4, d5, d6, d7, z0, z1, z2, z3, z4, z5, z6, z7⟩ := Y3.out
  cases hh with
  | false =>
    have HNF := Lib.hid (find_none.2 (h2 rfl))
    clear h1 h2
    have Y4 := Y3.out.set (.string ⟨#[]⟩) (.bool false) (.int .i64 0) (.int .i64 0) (.string ⟨#[]⟩) (.string ⟨#[]⟩) (.pointer none) (.slice none 0 0)
    obtain ⟨g0, g1, g2, g3, g4, g5, g6, g7, -, -, -, -, -, -, -, -⟩ := Y4
    go_wp2_with fail
    refine bodyPost_ret (v := .tuple #[.agg #[.string ⟨#[]⟩, .bool false, .int .i64 0, .int .i64 0, .string ⟨#[]⟩, .string ⟨#[]⟩, .pointer none, .slice none 0 0], .bool false]) (by simp [results, Try.results23, go_sem, g0, g1, g2, g3, g4, g5, g6, g7]) rfl ⟨?_, by rw [HNF.out]⟩
    exact below_set8 B3.out HW.out _ _ _ _ _ _ _ _
  | true =>
    obtain ⟨hi, hs⟩ := h1 rfl
    clear h1 h2
    have hin : i < n := by rw [HN.out]; exact hi
    obtain ⟨a, rfl, hfd⟩ := HF.out w3 B3.out i _ (List.getElem?_eq_getElem hi)
    rw [Nat.zero_add] at hfd
    have HFF := Lib.hid (show f.find s = some (f.list[i].2.1, f.list[i].2.2) from (find_list HA.out).2 (by rw [← hs]; exact List.getElem_mem hi))
    obtain ⟨y, hy⟩ : ∃ y, y = f.list[i] := ⟨_, rfl⟩
    rw [← hy] at hfd HFF hs
    clear hy
    obtain ⟨o', n', s', t', p', A', m', c', hk, q0, q1, q2, q3, q4, q5, q6, q7⟩ := hfd.cells
    have HK := Lib.hid hk
    rw [hs] at q0
    clear hk hfd hs
    have Y4 := Y3.out.set (.string s) (.bool y.2.1) (.int .i64 o') (.int .i64 n') (.string s') (.string t') (.pointer p') (.slice A' m' c')
    obtain ⟨g0, g1, g2, g3, g4, g5, g6, g7, -, -, -, -, -, -, -, -⟩ := Y4
    go_wp2_with fail
    refine bodyPost_ret (v := .tuple #[.agg #[.string s, .bool y.2.1, .int .i64 o', .int .i64 n', .string s', .string t', .pointer p', .slice A' m' c'], .bool true]) (by simp [results, Try.results23, go_sem, g0, g1, g2, g3, g4, g5, g6, g7]) rfl ?_
    have BF : ∀ w', Below w.heap.size w w' → FndPost w B f s (.returned (.tuple #[.agg #[.string s, .bool y.2.1, .int .i64 o', .int .i64 n', .string s', .string t', .pointer p', .slice A' m' c'], .bool true])) w' := fun w' hb => by
      refine ⟨hb, ?_⟩
      rw [HFF.out]
      exact ⟨_, rfl, HK.out.cong fun b hB => (hb.block b (HBB.out b hB)).trans (B3.out.block b (HBB.out b hB)).symm⟩
    refine BF _ ?_
    exact below_set8 B3.out HW.out _ _ _ _ _ _ _ _
end Go.Proofs.Ytocchkmhnneiiaa
