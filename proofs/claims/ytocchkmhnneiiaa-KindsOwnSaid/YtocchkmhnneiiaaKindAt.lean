/-
  Types as they lie.
-/
import Derived.Test.YtocchkmhnneiiaaRdNodes
import Derived.Test.YtocchkmhnneiiaaSls
import Derived.Test.YtocchkmhnneiiaaKindLaw
import Derived.Test.YtocchkmhnneiiaaKindFlat
namespace Go.Proofs.Ytocchkmhnneiiaa
open Go.RowKit Go.Wk Go.Sort
set_option maxRecDepth 100000

/-- These cells stand from an address on. -/
def Row0 (w : World) (a : Addr) (u : List Value) : Prop := ∀ (j : Nat) (x : Value), u[j]? = some x → w.cell? (a.add j) = some x
mutual
/-- The cells of a type; what they lead to lies in blocks of B. -/
def KAt (w : World) (B : Nat → Prop) : Kd → List Value → Prop
  | .base x, v => ∃ n : Int, v = [.int .i64 x, .int .i64 n, .string emp, .string emp, .pointer none, .slice none 0 0]
  | .ent s, v => ∃ n : Int, v = [.int .i64 44, .int .i64 n, .string s, .string emp, .pointer none, .slice none 0 0]
  | .set q, v => ∃ (n : Int) (b : Nat) (u : List Value), v = [.int .i64 45, .int .i64 n, .string emp, .string emp, .pointer (some ⟨b, 0, none⟩), .slice none 0 0] ∧ B b ∧ Row0 w ⟨b, 0, none⟩ u ∧ KAt w B q u
  | .fs f, v => ∃ (n : Int) (A : Option Addr) (c : Nat), v = [.int .i64 46, .int .i64 n, .string emp, .string emp, .pointer none, .slice A f.len c] ∧ f.len ≤ c ∧ c ≤ maxLen ∧ FAt w B A 0 f
/-- The fields of a record's type, from the i-th place of a row on. -/
def FAt (w : World) (B : Nat → Prop) : Option Addr → Nat → Fl → Prop
  | _, _, .nil => True
  | A, i, .cons s m k r => (∃ (a : Addr) (u : List Value), A = some a ∧ B a.block ∧ Row0 w (a.add (i * 8)) (.string s :: .bool m :: u) ∧ KAt w B k u) ∧ FAt w B A (i + 1) r
end
theorem Row0.cong {w w' : World} {a : Addr} {u : List Value} (h : Row0 w a u) (hb : w'.heap[a.block]? = w.heap[a.block]?) : Row0 w' a u := fun j x hx => by
  have := h j x hx
  rw [← this]
  exact World.cell?_of_block (by rw [add_block]; exact hb)
theorem kat_cong {w w' : World} {B : Nat → Prop} (hB : ∀ b, B b → w'.heap[b]? = w.heap[b]?) : ∀ (n : Nat), (∀ k v, k.sz ≤ n → KAt w B k v → KAt w' B k v) ∧ (∀ f A i, f.sz ≤ n → FAt w B A i f → FAt w' B A i f)
  | 0 => by
    refine ⟨fun k v h => by cases k <;> simp [Kd.sz] at h, fun f A i h hf => ?_⟩
    cases f with
    | nil => trivial
    | cons s m k r => simp [Fl.sz] at h
  | n + 1 => by
    obtain ⟨ihK, ihF⟩ := kat_cong hB n
    refine ⟨fun k v h hk => ?_, fun f A i h hf => ?_⟩
    · cases k with
      | base x => exact hk
      | ent s => exact hk
      | set q =>
        simp only [Kd.sz] at h
        obtain ⟨m, b, u, e, h1, h2, h3⟩ := hk
        exact ⟨m, b, u, e, h1, h2.cong (hB b h1), ihK q u (by omega) h3⟩
      | fs f =>
        simp only [Kd.sz] at h
        obtain ⟨m, A, c, e, h1, h2, h3⟩ := hk
        exact ⟨m, A, c, e, h1, h2, ihF f A 0 (by omega) h3⟩
    · cases f with
      | nil => trivial
      | cons s m k r =>
        simp only [Fl.sz] at h
        obtain ⟨⟨a, u, e, h1, h2, h3⟩, h4⟩ := hf
        exact ⟨⟨a, u, e, h1, h2.cong (by rw [add_block]; exact hB _ h1), ihK k u (by omega) h3⟩, ihF r A (i + 1) (by omega) h4⟩
theorem kat_mono {w : World} {B B' : Nat → Prop} (hB : ∀ b, B b → b < w.heap.size → B' b) : ∀ (n : Nat), (∀ k v, k.sz ≤ n → KAt w B k v → KAt w B' k v) ∧ (∀ f A i, f.sz ≤ n → FAt w B A i f → FAt w B' A i f)
  | 0 => by
    refine ⟨fun k v h => by cases k <;> simp [Kd.sz] at h, fun f A i h hf => ?_⟩
    cases f with
    | nil => trivial
    | cons s m k r => simp [Fl.sz] at h
  | n + 1 => by
    obtain ⟨ihK, ihF⟩ := kat_mono hB n
    refine ⟨fun k v h hk => ?_, fun f A i h hf => ?_⟩
    · cases k with
      | base x => exact hk
      | ent s => exact hk
      | set q =>
        simp only [Kd.sz] at h
        obtain ⟨m, b, u, e, h1, h2, h3⟩ := hk
        have hlt : b < w.heap.size := by
          have hu : ∃ x, u[0]? = some x := by
            cases q with
            | base x => obtain ⟨_, rfl⟩ := h3; exact ⟨_, rfl⟩
            | ent s => obtain ⟨_, rfl⟩ := h3; exact ⟨_, rfl⟩
            | set q => obtain ⟨_, _, _, rfl, _⟩ := h3; exact ⟨_, rfl⟩
            | fs f => obtain ⟨_, _, _, rfl, _⟩ := h3; exact ⟨_, rfl⟩
          obtain ⟨x, hx⟩ := hu
          exact block_lt_of_cell (h2 0 x hx)
        exact ⟨m, b, u, e, hB b h1 hlt, h2, ihK q u (by omega) h3⟩
      | fs f =>
        simp only [Kd.sz] at h
        obtain ⟨m, A, c, e, h1, h2, h3⟩ := hk
        exact ⟨m, A, c, e, h1, h2, ihF f A 0 (by omega) h3⟩
    · cases f with
      | nil => trivial
      | cons s m k r =>
        simp only [Fl.sz] at h
        obtain ⟨⟨a, u, e, h1, h2, h3⟩, h4⟩ := hf
        have hlt : a.block < w.heap.size := by
          have := block_lt_of_cell (h2 0 _ rfl)
          rwa [add_block, add_block] at this
        exact ⟨⟨a, u, e, hB _ h1 hlt, h2, ihK k u (by omega) h3⟩, ihF r A (i + 1) (by omega) h4⟩
theorem KAt.cong {w w' : World} {B : Nat → Prop} {k : Kd} {v : List Value} (h : KAt w B k v) (hB : ∀ b, B b → w'.heap[b]? = w.heap[b]?) : KAt w' B k v := (kat_cong hB _).1 k v (Nat.le_refl _) h
theorem KAt.mono {w : World} {B B' : Nat → Prop} {k : Kd} {v : List Value} (h : KAt w B k v) (hB : ∀ b, B b → b < w.heap.size → B' b) : KAt w B' k v := (kat_mono hB _).1 k v (Nat.le_refl _) h
theorem FAt.cong {w w' : World} {B : Nat → Prop} {A : Option Addr} {i : Nat} {f : Fl} (h : FAt w B A i f) (hB : ∀ b, B b → w'.heap[b]? = w.heap[b]?) : FAt w' B A i f := (kat_cong hB _).2 f A i (Nat.le_refl _) h
theorem FAt.mono {w : World} {B B' : Nat → Prop} {A : Option Addr} {i : Nat} {f : Fl} (h : FAt w B A i f) (hB : ∀ b, B b → b < w.heap.size → B' b) : FAt w B' A i f := (kat_mono hB _).2 f A i (Nat.le_refl _) h

/-- kinds' reader: the nodes that are left. -/
structure RdK (w : World) (R : Nat) (Q : List Nd) : Prop where
  c0 : ∃ (A : Option Addr) (n c : Nat), w.cell? ⟨R, 0, none⟩ = some (.slice A n c) ∧ Ns w A n c Q ∧ (0 < Q.length → ∀ a, A = some a → a.block < R)
  f0 : w.frozen? ⟨R, 0, none⟩ = false
theorem RdK.keep {w w' : World} {R : Nat} {Q : List Nd} (h : RdK w R Q) (hb : Below w.heap.size w w') : RdK w' R Q := by
  obtain ⟨⟨A, n, c, h1, h2, h3⟩, h4⟩ := h
  exact ⟨⟨A, n, c, cell_keep hb h1, h2.keep hb, h3⟩, (hb.frozen (p := ⟨R, 0, none⟩) (block_lt_of_cell h1)).trans h4⟩
abbrev kwrong : List PanicEntry := [{ v := .iface 58 (.agg #[]), recovered := false }]
/-- What node tells. -/
def NodePost (w : World) (R : Nat) : List Nd → Ending → World → Prop
  | [], e, w' => e = .panicked kwrong ∧ w.grownBy w' (some R)
  | x :: r, e, w' => e = .returned (ndV x) ∧ RdK w' R r ∧ w.grownBy w' (some R)
theorem ns_tail {w : World} {a : Addr} {n c : Nat} {x : Nd} {r : List Nd} (h : Ns w (some a) n c (x :: r)) : Ns w (some (a.add 4)) (n - 1) (c - 1) r := by
  have hl := h.len
  have hc := h.cap
  have hm := h.max
  rw [List.length_cons] at hl
  refine ⟨by omega, by omega, by omega, fun k y hy => ?_, fun y hy => h.ok y (by simp [hy])⟩
  obtain ⟨b, e, q0, q1, q2, q3⟩ := h.at_ (k + 1) y (by simpa using hy)
  injection e with e
  subst e
  refine ⟨_, rfl, ?_⟩
  rw [add_add, show 4 + k * 4 = (k + 1) * 4 by omega]
  exact ⟨q0, q1, q2, q3⟩
theorem kind_node (R : Nat) (Q : List Nd) (w : World) (h : RdK w R Q) :
    Calls Try.prog 37 #[.pointer (some ⟨R, 0, none⟩)] w (NodePost w R Q) := by
  obtain ⟨⟨A, n, c, e0, hns0, hap⟩, g0⟩ := h
  have hlt : R < w.heap.size := block_lt_of_cell e0
  have hb := below_box w (.cells #[.int .i64 0, .int .i64 0, .string ⟨#[]⟩, .string ⟨#[]⟩] 34)
  have c0 := cell_keep hb e0
  have f0 := (hb.frozen (p := ⟨R, 0, none⟩) hlt).trans g0
  have hns := hns0.keep hb
  have hne : R ≠ w.heap.size := by omega
  have hne2 : w.heap.size ≠ R := by omega
  clear hb
  cases Q with
  | nil =>
    have hn : n = 0 := hns.len
    subst hn
    clear hns hns0 hap
    go_enter Try.func37, Try.ntmps37
    go_wp2_with fail
    exact ⟨rfl, rfl, grown_of_below (below_box w _) _⟩
  | cons x r =>
    have HN := Lib.hid hns.len
    have hc := hns.cap
    have hm := hns.max
    unfold maxLen at hm
    have hn1 : 1 ≤ n := by rw [hns.len, List.length_cons]; omega
    obtain ⟨a, rfl, q0, q1, q2, q3⟩ := hns.at_ 0 x rfl
    rw [show a.add (0 * 4) = a from rfl] at q0 q1 q2 q3
    have HNS0 := Lib.hid hns0
    have HAL := Lib.hid (hap (by simp) a rfl)
    have HAP := Lib.hid (Nat.ne_of_lt HAL.out)
    clear hns hns0 hap
    go_enter Try.func37, Try.ntmps37
    go_wp2_with fail
    all_goals
      rename_i h1
      have hg : ∀ v o1 o2, w.grownBy (((w.setCell ⟨R, 0, none⟩ v).alloc o1).alloc o2) (some R) := fun v o1 o2 => grown_alloc (grown_alloc (grown_setCell w ⟨R, 0, none⟩ v) o1) o2
      have hc0 : ∀ v o1 o2, (((w.setCell ⟨R, 0, none⟩ v).alloc o1).alloc o2).cell? ⟨R, 0, none⟩ = some v := fun v o1 o2 => cell_keep (below_box _ _) (cell_keep (below_box _ _) (World.cell?_setCell_same _ _ _ e0))
      have hf0 : ∀ v o1 o2, (((w.setCell ⟨R, 0, none⟩ v).alloc o1).alloc o2).frozen? ⟨R, 0, none⟩ = false := fun v o1 o2 => by
        rw [((below_box _ _).frozen (p := ⟨R, 0, none⟩) (by simp [World.setCell]; omega)), ((below_box _ _).frozen (p := ⟨R, 0, none⟩) (by simp [World.setCell]; omega)), World.frozen?_setCell]
        exact g0
    · have hr0 : r = [] := List.eq_nil_of_length_eq_zero (by have := HN.out; rw [List.length_cons] at this; omega)
      subst hr0
      refine bodyPost_ret (v := ndV x) (by simp [results, Try.results37, go_sem, ndV]) rfl ⟨rfl, ⟨⟨_, _, _, hc0 _ _ _, ⟨by have := HN.out; simp at this; simp; omega, by omega, by unfold maxLen; omega, (fun k x hx => by simp at hx), (fun x hx => nomatch hx)⟩, fun h => absurd h (by simp)⟩, hf0 _ _ _⟩, hg _ _ _⟩
    · refine bodyPost_ret (v := ndV x) (by simp [results, Try.results37, go_sem, ndV]) rfl ⟨rfl, ⟨⟨_, _, _, hc0 _ _ _, by simpa [Addr.add] using (ns_tail HNS0.out).but (hg _ _ _) (fun _ b e => by injection e with e; subst e; exact HAP.out), fun _ b e => by injection e with e; subst e; exact HAL.out⟩, hf0 _ _ _⟩, hg _ _ _⟩
end Go.Proofs.Ytocchkmhnneiiaa
