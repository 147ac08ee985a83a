/-
  Slices of slices of nodes: how they lie; those that a call collects; slices.Clone of nodes.
-/
import Derived.Test.YtocchkmhnneiiaaAid
import Derived.Test.YtocchkmhnneiiaaRdNodes
import Derived.Maps.AppendAt
namespace Go.Proofs.Ytocchkmhnneiiaa
open Go.RowKit Go.Wk Go.Sort
set_option maxRecDepth 100000

/-- A slice of nodes, as it lies in another slice. -/
structure Sl where
  A : Option Addr
  n : Nat
  c : Nat
  P : List Nd
def Sl.v (r : Sl) : Value := .slice r.A r.n r.c
/-- A slice that holds slices of nodes. -/
def SlsAt (w : World) (A : Option Addr) (V : List Sl) : Prop :=
  ∀ (k : Nat) (r : Sl), V[k]? = some r → ∃ a, A = some a ∧ w.cell? (a.add k) = some (.slice r.A r.n r.c) ∧ Ns w r.A r.n r.c r.P
theorem SlsAt.keep {w w' : World} {A : Option Addr} {V : List Sl} (h : SlsAt w A V) (hb : Below w.heap.size w w') : SlsAt w' A V :=
  fun k r hk => let ⟨a, h1, h2, h3⟩ := h k r hk; ⟨a, h1, cell_keep hb h2, h3.keep hb⟩
theorem SlsAt.at {w : World} {A : Option Addr} {V : List Sl} (h : SlsAt w A V) {k : Nat} (hk : k < V.length) : ∃ a, A = some a ∧ w.cell? (a.add k) = some (.slice V[k].A V[k].n V[k].c) ∧ Ns w V[k].A V[k].n V[k].c V[k].P :=
  h k V[k] (List.getElem?_eq_getElem hk)

theorem Ns.but {w w' : World} {A : Option Addr} {n c : Nat} {P : List Nd} {R : Nat} (h : Ns w A n c P) (hg : w.grownBy w' (some R)) (hR : 0 < P.length → ∀ a, A = some a → a.block ≠ R) : Ns w' A n c P := by
  refine ⟨h.len, h.cap, h.max, ?_, h.ok⟩
  rcases Nat.eq_zero_or_pos P.length with h0 | h0
  · intro k x hx
    have : P = [] := List.eq_nil_of_length_eq_zero h0
    subst this; simp at hx
  · exact h.at_.but hg (hR h0)
/-- A slice of nodes lies apart from a block. -/
def Apart (r : Sl) (g : Option Nat) : Prop := 0 < r.P.length → ∀ a, r.A = some a → g ≠ some a.block
theorem Ns.row {w w' : World} {r : Sl} {g : Option Nat} (h : Ns w r.A r.n r.c r.P) (hg : w.grownBy w' g) (ha : Apart r g) : Ns w' r.A r.n r.c r.P := by
  rcases g with _ | g
  · exact h.keep (grown_none hg)
  · exact h.but hg (fun h0 a e q => ha h0 a e (by rw [q]))

/-- The slices that the call has collected. -/
structure OwnSls (w : World) (B : Nat) (v : Value) (V : List Sl) : Prop where
  own : w.ownsRow B 22 1 v V.length (V.map Sl.v)
  each : ∀ r ∈ V, Ns w r.A r.n r.c r.P
  apart : ∀ r ∈ V, Apart r v.ownBlock
theorem OwnSls.nil (w : World) (B : Nat) : OwnSls w B (.slice none 0 0) [] := ⟨World.ownsRow_nil w B _ 1, (by intro r hr; cases hr), (by intro r hr; cases hr)⟩
theorem OwnSls.keep {w w' : World} {B : Nat} {v : Value} {V : List Sl} (h : OwnSls w B v V) (hb : Below w.heap.size w w') : OwnSls w' B v V :=
  ⟨h.own.kept (grown_of_below hb none) (by cases hv : v.ownBlock <;> simp), fun r hr => (h.each r hr).keep hb, h.apart⟩
/-- Another row is written. -/
theorem OwnSls.row {w w' : World} {B : Nat} {v : Value} {V : List Sl} {g : Option Nat} (h : OwnSls w B v V) (hg : w.grownBy w' g) (hne : v.ownBlock = none ∨ v.ownBlock ≠ g) (ha : ∀ r ∈ V, Apart r g) : OwnSls w' B v V :=
  ⟨h.own.kept hg hne, fun r hr => (h.each r hr).row hg (ha r hr), h.apart⟩
/-- One more. -/
theorem OwnSls.snoc {w w' : World} {B : Nat} {v v' : Value} {V : List Sl} {r : Sl} {o : Obj} (h : OwnSls w B v V) (hr : Ns w r.A r.n r.c r.P) (ha : Apart r v.ownBlock)
    (hown : w'.ownsRow B 22 1 v' (V.length + 1) (V.map Sl.v ++ [r.v])) (hg : (w.alloc o).grownBy w' v.ownBlock) (hat : v'.ownBlock = v.ownBlock ∨ v'.ownBlock = some (w.alloc o).heap.size) : OwnSls w' B v' (V ++ [r]) := by
  have hba : Below w.heap.size w (w.alloc o) := below_box w o
  have hlt : ∀ x ∈ V ++ [r], Ns w x.A x.n x.c x.P ∧ Apart x v.ownBlock := by
    intro x hx
    rcases List.mem_append.1 hx with h1 | h1
    · exact ⟨h.each x h1, h.apart x h1⟩
    · simp only [List.mem_cons, List.not_mem_nil, or_false] at h1
      subst h1; exact ⟨hr, ha⟩
  refine ⟨?_, fun x hx => ((hlt x hx).1.keep hba).row hg (hlt x hx).2, fun x hx h0 a e => ?_⟩
  · simpa using hown
  · rcases hat with e' | e'
    · rw [e']; exact (hlt x hx).2 h0 a e
    · rw [e']
      have := (hlt x hx).1.at_.lt h0 a e
      intro q
      injection q with q
      simp at q
      omega
/-- Collected slices are a slice that holds them. -/
theorem OwnSls.at {w : World} {B : Nat} {v : Value} {V : List Sl} (h : OwnSls w B v V) : ∃ A c, v = .slice A V.length c ∧ V.length ≤ c ∧ SlsAt w A V := by
  rcases h.own.2 with ⟨rfl, h0⟩ | ⟨g, cap, cur, rfl, _, _, hc, _⟩
  · have : V = [] := List.eq_nil_of_length_eq_zero h0
    subst this
    exact ⟨none, 0, rfl, Nat.le_refl _, fun k r hk => by simp at hk⟩
  · refine ⟨some ⟨g, 0, none⟩, cap, rfl, hc, fun k r hk => ⟨_, rfl, ?_, h.each r (List.mem_of_getElem? hk)⟩⟩
    exact h.own.cells (g := g) rfl k _ (by rw [List.getElem?_map, hk]; rfl)
theorem slInfo : (Try.prog.info? 22).map (fun i => (i.zero, i.size, i.bytes)) = some (some (.slice none 0 0), 1, 24) := by kernel_rfl

/-- The cells of nodes, out of where they lie. -/
theorem NdsAt.cells {w : World} {a : Addr} {P : List Nd} (h : NdsAt w (some a) P) : ∀ j u, (ndCells P)[j]? = some u → w.cell? (a.add j) = some u := by
  intro j u hu
  have hl := ndCells_length P
  have hj : j < (ndCells P).length := (List.getElem?_eq_some_iff.1 hu).1
  have hk : j / 4 < P.length := by omega
  obtain ⟨h1, h2, h3, h4⟩ := ndCells_at P (j / 4) P[j / 4] (List.getElem?_eq_getElem hk)
  obtain ⟨b, e, q1, q2, q3, q4⟩ := h (j / 4) P[j / 4] (List.getElem?_eq_getElem hk)
  injection e with e
  subst e
  have hr : j % 4 = 0 ∨ j % 4 = 1 ∨ j % 4 = 2 ∨ j % 4 = 3 := by omega
  have nx : ∀ (x d : Nat), 0 < d → (⟨(a.add x).block, (a.add x).off + d, none⟩ : Addr) = a.add (x + d) := by
    intro x d hd
    unfold Addr.add
    by_cases hx : x = 0
    · subst hx; simp; omega
    · simp [hx, Nat.add_assoc]
  rcases hr with hr | hr | hr | hr
  · have e : j = j / 4 * 4 := by omega
    rw [← e] at h1 q1
    rw [hu] at h1; rw [h1]; exact q1
  · have e : j = j / 4 * 4 + 1 := by omega
    rw [nx _ _ (by omega), ← e] at q2
    rw [← e] at h2
    rw [hu] at h2; rw [h2]; exact q2
  · have e : j = j / 4 * 4 + 2 := by omega
    rw [nx _ _ (by omega), ← e] at q3
    rw [← e] at h3
    rw [hu] at h3; rw [h3]; exact q3
  · have e : j = j / 4 * 4 + 3 := by omega
    rw [nx _ _ (by omega), ← e] at q4
    rw [← e] at h4
    rw [hu] at h4; rw [h4]; exact q4
theorem ndCells_one (P : List Nd) : ∀ u ∈ ndCells P, u.oneCell' = true := by
  induction P with
  | nil => intro u hu; cases hu
  | cons x P ih =>
    intro u hu
    simp only [ndCells, List.mem_cons] at hu
    rcases hu with rfl | rfl | rfl | rfl | hu
    · rfl
    · rfl
    · rfl
    · rfl
    · exact ih u hu
theorem ndInfo : (Try.prog.info? 34).map (fun i => (i.zero, i.size, i.bytes)) = some (some (.agg #[.int .i64 0, .int .i64 0, .string ⟨#[]⟩, .string ⟨#[]⟩]), 4, 48) := by kernel_rfl
theorem nds_of_own {w : World} {B : Nat} {v : Value} {P : List Nd} (h : w.ownsRow B 34 4 v P.length (ndCells P)) : ∃ A c, v = .slice A P.length c ∧ P.length ≤ c ∧ NdsAt w A P ∧ (∀ a, A = some a → B ≤ a.block) := by
  rcases h.2 with ⟨rfl, h0⟩ | ⟨g, cap, cur, rfl, hB, _, hc, _⟩
  · have : P = [] := List.eq_nil_of_length_eq_zero h0
    subst this
    exact ⟨none, 0, rfl, Nat.le_refl _, fun k x hx => by simp at hx, fun a e => by cases e⟩
  · exact ⟨some ⟨g, 0, none⟩, cap, rfl, hc, nds_of_cells (h.cells (g := g) rfl), fun a e => by injection e with e; subst e; exact hB⟩

/-- A slice of nodes of the call's own: in new blocks. -/
def NewNs (w : World) (P : List Nd) (e : Ending) (w' : World) : Prop := ∃ (A : Option Addr) (c : Nat), e = .returned (.slice A P.length c) ∧ Ns w' A P.length c P ∧ (∀ a, A = some a → w.heap.size ≤ a.block) ∧ Below w.heap.size w w'
set_option maxHeartbeats 1000000 in
theorem clone_nodes (a : Addr) (n c : Nat) (P : List Nd) (w : World) (h : Ns w (some a) n c P) (hl : P.length ≤ 100000) :
    Calls Try.prog 59 #[.slice (some a) n c] w (NewNs w P) := by
  obtain ⟨i0, hi, hz0, hz1, hz2⟩ := info_parts ndInfo
  have hn := h.len
  have HC := Lib.hid (fun w' hb => (h.at_.keep (w' := w') hb).cells)
  have HO := Lib.hid h.ok
  have HL := Lib.hid hl
  clear h hl
  subst hn
  have hnil := fun w : World => Lib.run_eql_slice_nil (P := Try.prog) w 22 34 (some a) P.length c 0 0 Try.underlying22
  simp only [Option.isNone_some] at hnil
  go_enter Try.func59, Try.ntmps59
  have hB : ∀ W : World, (W.alloc (.cells #[] 34)).ownsRow W.heap.size 34 4 (.slice (some ⟨W.heap.size, 0, none⟩) 0 0) 0 [] := fun W =>
    ⟨rfl, .inr ⟨_, 0, #[], rfl, Nat.le_refl _, heap_alloc_new W _, Nat.le_refl _, by unfold maxLen; omega, rfl, rfl⟩⟩
  go_wp2_with (at_builtin; refine wpList_append_own _ rfl _ _ 22 rfl w.heap.size 34 i0 _ 4 48 Try.underlying22 hi hz0 hz1 hz2 rfl (by decide) _ 0 [] rfl (hB w) a P.length c (ndCells P) rfl (ndCells_length P) (HC.out _ (below_box _ _)) (ndCells_one P) ?c1 ?c2 ?c3 ?_)
  case c1 => have := HL.out; unfold maxLen; omega
  case c2 => have := HL.out; omega
  case c3 => simp
  intro v1 w1 hown hgrow _
  have HW := Lib.hid hown
  have HG := Lib.hid hgrow
  clear hown hgrow hnil
  go_wp2_with fail
  go_ret
  obtain ⟨A, c', rfl, h1, h2, h3⟩ := nds_of_own HW.out
  refine ⟨A, c', rfl, ⟨rfl, h1, by have := HL.out; unfold maxLen; omega, h2, HO.out⟩, h3, ?_⟩
  exact (below_box w _).grown HG.out (by simp) (fun k hk => by simp [Value.ownBlock] at hk; omega)
end Go.Proofs.Ytocchkmhnneiiaa
