/-
  Slices of slices of nodes: how they lie; those that a call collects; slices.Clone of nodes.
  val.split: the parts of a set or a record, in new slices.
  val.split at a record: the values and their names, each in a row of its own.
  val.Parts and val.Get.
  Slices of uids, and of entities, as they lie.
  ent.one: what is wrong with an entity.
-/
import Derived.Maps.AppendAt
import Derived.Lib.SlicesS
import Derived.Test.YtcdpoamiejompaaGreatDoorQe17
namespace Go.Proofs.YtcdpoamiejompaaGreatDoor
open Go.RowKit Go.Wk Go.Sort
set_option maxRecDepth 100000

/-- A slice of nodes, as it lies in another slice. -/
structure Sl where
  A : Option Addr
  n : Nat
  c : Nat
  P : List Nd
def Sl.v (r : Sl) : Value := .slice r.A r.n r.c
/-- A slice that holds slices of nodes. -/
def SlsAt (w : World) (A : Option Addr) (V : List Sl) : Prop :=
  ∀ (k : Nat) (r : Sl), V[k]? = some r → ∃ a, A = some a ∧ w.cell? (a.add k) = some (.slice r.A r.n r.c) ∧ Ns w r.A r.n r.c r.P
theorem SlsAt.keep {w w' : World} {A : Option Addr} {V : List Sl} (h : SlsAt w A V) (hb : Below w.heap.size w w') : SlsAt w' A V :=
  fun k r hk => let ⟨a, h1, h2, h3⟩ := h k r hk; ⟨a, h1, cell_keep hb h2, h3.keep hb⟩
theorem SlsAt.at {w : World} {A : Option Addr} {V : List Sl} (h : SlsAt w A V) {k : Nat} (hk : k < V.length) : ∃ a, A = some a ∧ w.cell? (a.add k) = some (.slice V[k].A V[k].n V[k].c) ∧ Ns w V[k].A V[k].n V[k].c V[k].P :=
  h k V[k] (List.getElem?_eq_getElem hk)

theorem Ns.but {w w' : World} {A : Option Addr} {n c : Nat} {P : List Nd} {R : Nat} (h : Ns w A n c P) (hg : w.grownBy w' (some R)) (hR : 0 < P.length → ∀ a, A = some a → a.block ≠ R) : Ns w' A n c P := by
  refine ⟨h.len, h.cap, h.max, ?_, h.ok⟩
  rcases Nat.eq_zero_or_pos P.length with h0 | h0
  · intro k x hx
    have : P = [] := List.eq_nil_of_length_eq_zero h0
    subst this; simp at hx
  · exact h.at_.but hg (hR h0)
/-- A slice of nodes lies apart from a block. -/
def Apart (r : Sl) (g : Option Nat) : Prop := 0 < r.P.length → ∀ a, r.A = some a → g ≠ some a.block
theorem Ns.row {w w' : World} {r : Sl} {g : Option Nat} (h : Ns w r.A r.n r.c r.P) (hg : w.grownBy w' g) (ha : Apart r g) : Ns w' r.A r.n r.c r.P := by
  rcases g with _ | g
  · exact h.keep (grown_none hg)
  · exact h.but hg (fun h0 a e q => ha h0 a e (by rw [q]))

/-- The slices that the call has collected. -/
structure OwnSls (w : World) (B : Nat) (v : Value) (V : List Sl) : Prop where
  own : w.ownsRow B 25 1 v V.length (V.map Sl.v)
  each : ∀ r ∈ V, Ns w r.A r.n r.c r.P
  apart : ∀ r ∈ V, Apart r v.ownBlock
theorem OwnSls.nil (w : World) (B : Nat) : OwnSls w B (.slice none 0 0) [] := ⟨World.ownsRow_nil w B _ 1, (by intro r hr; cases hr), (by intro r hr; cases hr)⟩
theorem OwnSls.keep {w w' : World} {B : Nat} {v : Value} {V : List Sl} (h : OwnSls w B v V) (hb : Below w.heap.size w w') : OwnSls w' B v V :=
  ⟨h.own.kept (grown_of_below hb none) (by cases hv : v.ownBlock <;> simp), fun r hr => (h.each r hr).keep hb, h.apart⟩
/-- Another row is written. -/
theorem OwnSls.row {w w' : World} {B : Nat} {v : Value} {V : List Sl} {g : Option Nat} (h : OwnSls w B v V) (hg : w.grownBy w' g) (hne : v.ownBlock = none ∨ v.ownBlock ≠ g) (ha : ∀ r ∈ V, Apart r g) : OwnSls w' B v V :=
  ⟨h.own.kept hg hne, fun r hr => (h.each r hr).row hg (ha r hr), h.apart⟩
/-- One more. -/
theorem OwnSls.snoc {w w' : World} {B : Nat} {v v' : Value} {V : List Sl} {r : Sl} {o : Obj} (h : OwnSls w B v V) (hr : Ns w r.A r.n r.c r.P) (ha : Apart r v.ownBlock)
    (hown : w'.ownsRow B 25 1 v' (V.length + 1) (V.map Sl.v ++ [r.v])) (hg : (w.alloc o).grownBy w' v.ownBlock) (hat : v'.ownBlock = v.ownBlock ∨ v'.ownBlock = some (w.alloc o).heap.size) : OwnSls w' B v' (V ++ [r]) := by
  have hba : Below w.heap.size w (w.alloc o) := below_box w o
  have hlt : ∀ x ∈ V ++ [r], Ns w x.A x.n x.c x.P ∧ Apart x v.ownBlock := by
    intro x hx
    rcases List.mem_append.1 hx with h1 | h1
    · exact ⟨h.each x h1, h.apart x h1⟩
    · simp only [List.mem_cons, List.not_mem_nil, or_false] at h1
      subst h1; exact ⟨hr, ha⟩
  refine ⟨?_, fun x hx => ((hlt x hx).1.keep hba).row hg (hlt x hx).2, fun x hx h0 a e => ?_⟩
  · simpa using hown
  · rcases hat with e' | e'
    · rw [e']; exact (hlt x hx).2 h0 a e
    · rw [e']
      have := (hlt x hx).1.at_.lt h0 a e
      intro q
      injection q with q
      simp at q
      omega
/-- Collected slices are a slice that holds them. -/
theorem OwnSls.at {w : World} {B : Nat} {v : Value} {V : List Sl} (h : OwnSls w B v V) : ∃ A c, v = .slice A V.length c ∧ V.length ≤ c ∧ SlsAt w A V := by
  rcases h.own.2 with ⟨rfl, h0⟩ | ⟨g, cap, cur, rfl, _, _, hc, _⟩
  · have : V = [] := List.eq_nil_of_length_eq_zero h0
    subst this
    exact ⟨none, 0, rfl, Nat.le_refl _, fun k r hk => by simp at hk⟩
  · refine ⟨some ⟨g, 0, none⟩, cap, rfl, hc, fun k r hk => ⟨_, rfl, ?_, h.each r (List.mem_of_getElem? hk)⟩⟩
    exact h.own.cells (g := g) rfl k _ (by rw [List.getElem?_map, hk]; rfl)
theorem slInfo : (Tryz.prog.info? 25).map (fun i => (i.zero, i.size, i.bytes)) = some (some (.slice none 0 0), 1, 24) := by kernel_rfl

/-- The cells of nodes, out of where they lie. -/
theorem NdsAt.cells {w : World} {a : Addr} {P : List Nd} (h : NdsAt w (some a) P) : ∀ j u, (ndCells P)[j]? = some u → w.cell? (a.add j) = some u := by
  intro j u hu
  have hl := ndCells_length P
  have hj : j < (ndCells P).length := (List.getElem?_eq_some_iff.1 hu).1
  have hk : j / 4 < P.length := by omega
  obtain ⟨h1, h2, h3, h4⟩ := ndCells_at P (j / 4) P[j / 4] (List.getElem?_eq_getElem hk)
  obtain ⟨b, e, q1, q2, q3, q4⟩ := h (j / 4) P[j / 4] (List.getElem?_eq_getElem hk)
  injection e with e
  subst e
  have hr : j % 4 = 0 ∨ j % 4 = 1 ∨ j % 4 = 2 ∨ j % 4 = 3 := by omega
  have nx : ∀ (x d : Nat), 0 < d → (⟨(a.add x).block, (a.add x).off + d, none⟩ : Addr) = a.add (x + d) := by
    intro x d hd
    unfold Addr.add
    by_cases hx : x = 0
    · subst hx; simp; omega
    · simp [hx, Nat.add_assoc]
  rcases hr with hr | hr | hr | hr
  · have e : j = j / 4 * 4 := by omega
    rw [← e] at h1 q1
    rw [hu] at h1; rw [h1]; exact q1
  · have e : j = j / 4 * 4 + 1 := by omega
    rw [nx _ _ (by omega), ← e] at q2
    rw [← e] at h2
    rw [hu] at h2; rw [h2]; exact q2
  · have e : j = j / 4 * 4 + 2 := by omega
    rw [nx _ _ (by omega), ← e] at q3
    rw [← e] at h3
    rw [hu] at h3; rw [h3]; exact q3
  · have e : j = j / 4 * 4 + 3 := by omega
    rw [nx _ _ (by omega), ← e] at q4
    rw [← e] at h4
    rw [hu] at h4; rw [h4]; exact q4
theorem ndCells_one (P : List Nd) : ∀ u ∈ ndCells P, u.oneCell' = true := by
  induction P with
  | nil => intro u hu; cases hu
  | cons x P ih =>
    intro u hu
    simp only [ndCells, List.mem_cons] at hu
    rcases hu with rfl | rfl | rfl | rfl | hu
    · rfl
    · rfl
    · rfl
    · rfl
    · exact ih u hu
theorem ndInfo : (Tryz.prog.info? 42).map (fun i => (i.zero, i.size, i.bytes)) = some (some (.agg #[.int .i64 0, .int .i64 0, .string ⟨#[]⟩, .string ⟨#[]⟩]), 4, 48) := by kernel_rfl
theorem nds_of_own {w : World} {B : Nat} {v : Value} {P : List Nd} (h : w.ownsRow B 42 4 v P.length (ndCells P)) : ∃ A c, v = .slice A P.length c ∧ P.length ≤ c ∧ NdsAt w A P ∧ (∀ a, A = some a → B ≤ a.block) := by
  rcases h.2 with ⟨rfl, h0⟩ | ⟨g, cap, cur, rfl, hB, _, hc, _⟩
  · have : P = [] := List.eq_nil_of_length_eq_zero h0
    subst this
    exact ⟨none, 0, rfl, Nat.le_refl _, fun k x hx => by simp at hx, fun a e => by cases e⟩
  · exact ⟨some ⟨g, 0, none⟩, cap, rfl, hc, nds_of_cells (h.cells (g := g) rfl), fun a e => by injection e with e; subst e; exact hB⟩

/-- A slice of nodes of the call's own: in new blocks. -/
def NewNs (w : World) (P : List Nd) (e : Ending) (w' : World) : Prop := ∃ (A : Option Addr) (c : Nat), e = .returned (.slice A P.length c) ∧ Ns w' A P.length c P ∧ (∀ a, A = some a → w.heap.size ≤ a.block) ∧ Below w.heap.size w w'
set_option maxHeartbeats 1000000 in
theorem clone_nodes (a : Addr) (n c : Nat) (P : List Nd) (w : World) (h : Ns w (some a) n c P) (hl : P.length ≤ 100000) :
    Calls Tryz.prog 169 #[.slice (some a) n c] w (NewNs w P) := by
  obtain ⟨i0, hi, hz0, hz1, hz2⟩ := info_parts ndInfo
  have hn := h.len
  have HC := Lib.hid (fun w' hb => (h.at_.keep (w' := w') hb).cells)
  have HO := Lib.hid h.ok
  have HL := Lib.hid hl
  clear h hl
  subst hn
  have hnil := fun w : World => Lib.run_eql_slice_nil (P := Tryz.prog) w 25 42 (some a) P.length c 0 0 Tryz.underlying25
  simp only [Option.isNone_some] at hnil
  go_enter Tryz.func169, Tryz.ntmps169
  have hB : ∀ W : World, (W.alloc (.cells #[] 42)).ownsRow W.heap.size 42 4 (.slice (some ⟨W.heap.size, 0, none⟩) 0 0) 0 [] := fun W =>
    ⟨rfl, .inr ⟨_, 0, #[], rfl, Nat.le_refl _, heap_alloc_new W _, Nat.le_refl _, by unfold maxLen; omega, rfl, rfl⟩⟩
  go_wp2_with (at_builtin; refine wpList_append_own _ rfl _ _ 25 rfl w.heap.size 42 i0 _ 4 48 Tryz.underlying25 hi hz0 hz1 hz2 rfl (by decide) _ 0 [] rfl (hB w) a P.length c (ndCells P) rfl (ndCells_length P) (HC.out _ (below_box _ _)) (ndCells_one P) ?c1 ?c2 ?c3 ?_)
  case c1 => have := HL.out; unfold maxLen; omega
  case c2 => have := HL.out; omega
  case c3 => simp
  intro v1 w1 hown hgrow _
  have HW := Lib.hid hown
  have HG := Lib.hid hgrow
  clear hown hgrow hnil
  go_wp2_with fail
  go_ret
  obtain ⟨A, c', rfl, h1, h2, h3⟩ := nds_of_own HW.out
  refine ⟨A, c', rfl, ⟨rfl, h1, by have := HL.out; unfold maxLen; omega, h2, HO.out⟩, h3, ?_⟩
  exact (below_box w _).grown HG.out (by simp) (fun k hk => by simp [Value.ownBlock] at hk; omega)
end Go.Proofs.YtcdpoamiejompaaGreatDoor
namespace Go.Proofs.YtcdpoamiejompaaGreatDoor
open Go.RowKit Go.Wk Go.Sort
set_option maxRecDepth 100000

/-- What split tells. -/
def SplitPost (w : World) (L : List (List Nd)) (N : List ByteArray) (e : Ending) (w' : World) : Prop :=
  ∃ (v v' : Value) (V : List Sl), e = .returned (.tuple #[v, v']) ∧ OwnSls w' w.heap.size v V ∧ V.map Sl.P = L ∧ w'.ownsRow w.heap.size 9 1 v' N.length (N.map Value.string) ∧ (∀ r ∈ V, ∀ a, r.A = some a → w.heap.size < a.block) ∧ Below w.heap.size w w'
theorem own_mono {w : World} {B B' n : Nat} {e : TypeId} {size : Nat} {v : Value} {xs : List Value} (h : w.ownsRow B e size v n xs) (hB : B' ≤ B) : w.ownsRow B' e size v n xs := by
  refine ⟨h.1, ?_⟩
  rcases h.2 with h2 | ⟨g, cap, cur, hv, hg, r⟩
  · exact .inl h2
  · exact .inr ⟨g, cap, cur, hv, Nat.le_trans hB hg, r⟩
theorem OwnSls.mono {w : World} {B B' : Nat} {v : Value} {V : List Sl} (h : OwnSls w B v V) (hB : B' ≤ B) : OwnSls w B' v V := ⟨own_mono h.own hB, h.each, h.apart⟩
theorem RdAt.row {w w' : World} {R p : Nat} {v : Value} {g : Option Nat} (h : RdAt w R v p) (hg : w.grownBy w' g) (hne : some R ≠ g) : RdAt w' R v p :=
  ⟨hg.cell h.c0 hne, hg.cell h.c1 hne, (World.frozen?_of_block (w := w) (hg.block R h.lt hne)).trans h.f1⟩
/-- The slices lie behind a block. -/
def Later (R : Nat) (V : List Sl) : Prop := ∀ r ∈ V, ∀ a, r.A = some a → R < a.block
theorem Later.apart {R : Nat} {V : List Sl} (h : Later R V) : ∀ r ∈ V, Apart r (some R) := fun r hr _ a e q => by
  have := h r hr a e
  injection q with q
  omega
theorem Later.snoc {R : Nat} {V : List Sl} {r : Sl} (h : Later R V) (hr : ∀ a, r.A = some a → R < a.block) : Later R (V ++ [r]) := by
  intro x hx
  rcases List.mem_append.1 hx with h1 | h1
  · exact h x h1
  · simp only [List.mem_cons, List.not_mem_nil, or_false] at h1
    subst h1; exact hr
theorem own_ne {w : World} {B n : Nat} {e : TypeId} {size : Nat} {v : Value} {xs : List Value} (h : w.ownsRow B e size v n xs) {R : Nat} (hR : R < B) : v.ownBlock = none ∨ v.ownBlock ≠ some R := by
  rcases hv : v.ownBlock with _ | g
  · exact .inl rfl
  · have := own_base h g hv
    exact .inr (fun q => by injection q with q; omega)
theorem own_ne' {w : World} {B n : Nat} {e : TypeId} {size : Nat} {v : Value} {xs : List Value} (h : w.ownsRow B e size v n xs) {R : Nat} (hR : R < B) : some R ≠ v.ownBlock := by
  rcases own_ne h hR with h | h
  · rw [h]; simp
  · exact fun q => h q.symm
theorem ns_seg {w : World} {a : Addr} {n c : Nat} {P : List Nd} (h : Ns w (some a) n c P) {i j : Nat} (h1 : i ≤ j) (h2 : j ≤ n) : Ns w (some (a.add (i * 4))) (j - i) (c - i) (seg P i j) := by
  have := h.len
  have := h.cap
  have := h.max
  exact ⟨(seg_length (by omega)).symm, by omega, by omega, h.at_.seg i j, h.ok.seg i j⟩
theorem setLoop_inv {v : List Nd} {f : Nat → Option Nat} {N k : Nat} {q n : Nat} (hk : k < N) (h : ∃ lo, setLoop v f (N - k) lo q = some n) :
    ∃ e, f q = some e ∧ (∃ lo, setLoop v f (N - (k + 1)) lo e = some n) ∧ splitS v f (N - k) q = seg v q e :: splitS v f (N - (k + 1)) e := by
  obtain ⟨lo, h⟩ := h
  obtain ⟨j, hj⟩ : ∃ j, N - k = j + 1 := ⟨N - k - 1, by omega⟩
  rw [hj] at h
  rw [hj, show N - (k + 1) = j by omega]
  simp only [setLoop] at h
  rcases hf : f q with _ | e
  · rw [hf] at h; cases h
  · rw [hf] at h
    simp only at h
    split at h
    · exact ⟨e, rfl, ⟨_, h⟩, by simp only [splitS, hf]⟩
    · cases h

set_option maxHeartbeats 8000000 in
theorem split_set (A : Option Addr) (n c : Nat) (P : List Nd) (w : World) (h : Ns w A n c P) (hv : valFault P = 0) (h5 : headOp P = 5) :
    Calls Tryz.prog 133 #[.slice A n c] w (SplitPost w (setParts P) []) := by
  obtain ⟨i0, hi, hz0, hz1, hz2⟩ := info_parts slInfo
  obtain ⟨h200, hV⟩ := isV_zero.1 hv
  have hpos := hV.pos
  obtain ⟨a, rfl, D⟩ := h.at_.nd hpos
  have hn := h.len
  obtain ⟨hs0, _, hop, hx0, hN⟩ := set_loop hV h5
  have hE : setParts P = splitS P (partEnd P (P.length + 1)) P[0].n.toNat 1 := by unfold setParts; rw [hN]
  rw [hN] at hs0
  obtain ⟨-, -, -, hhi⟩ := h.ok.at hpos
  have K := Lib.hid (fun q w' (hb : Below w.heap.size w w') rd hq => val_part (some a) P n c w.heap.size hn h.cap h.max h.ok (fun h0 a' e => by have := h.at_.lt h0 a' e; omega) (P.length + 1) q w' rd (h.at_.keep hb) (by omega : n - q < P.length + 1))
  have HN := Lib.hid h
  have HL := Lib.hid hn
  have H0 := Lib.hid hs0
  have HE := Lib.hid hE
  rw [show a.add (0 * 4) = a from rfl] at D
  obtain ⟨d0, d1, d2, d3⟩ := D
  have r0 : RdAt (w.alloc (.cells #[.slice (some a) n c, .int .i64 1] 73)) w.heap.size (.slice (some a) n c) 1 := ⟨by simp, by simp, by simp⟩
  rw [hop] at d0
  have d1' := fun o : Obj => cell_keep (below_box w o) d1
  generalize P[0] = x at *
  have hn200 : n ≤ 200 := by omega
  have hn1 : 0 < n := by omega
  clear h hv h5 hV hn hs0 hE hN h200 hop
  go_enter Tryz.func133, Tryz.ntmps133
  go_wp2_with fail
  clear d1'
  go_loopw [2, 3, 12] (fun v v' i wr => ∃ (k q : Nat) (V : List Sl), i = .int .i64 k ∧ v' = .slice none 0 0 ∧ (k : Int) ≤ x.n ∧ q ≤ n ∧ k + 1 ≤ q ∧ V.length = k ∧ Hid (setParts P = V.map Sl.P ++ splitS P (partEnd P (P.length + 1)) (x.n.toNat - k) q) ∧
      Hid (∃ lo, setLoop P (partEnd P (P.length + 1)) (x.n.toNat - k) lo q = some P.length) ∧ Hid (OwnSls wr (w.heap.size + 1) v V) ∧ Hid (Later w.heap.size V) ∧ Hid (RdAt wr w.heap.size (.slice (some a) n c) q) ∧ Hid (Below w.heap.size w wr)) (fun _ _ i _ => (x.n - intOf i).toNat)
  case atStart => exact ⟨0, 1, [], rfl, rfl, hx0, hn1, by omega, rfl, HE.out, ⟨none, H0.out⟩, OwnSls.nil _ _, (by intro r hr; cases hr), r0, below_box _ _⟩
  case round =>
    obtain ⟨k, q, V, rfl, rfl, hk, hq, hkq, hVl, hE, hS, hO, hLt, hrd, hB⟩ := hrel
    have e0 := cell_keep hB.out d0
    by_cases hlt : (k : Int) < x.n
    · obtain ⟨e, hf, hS', hsp⟩ := setLoop_inv (by omega) hS.out
      have hle := partEnd_le _ _ _ hf
      rw [← HL.out] at hle
      have C := Lib.hid (K.out q wr hB.out hrd.out (by rw [← HL.out]; omega))
      rw [hf] at C
      have HE2 := Lib.hid (hE.out.trans (by rw [hsp] : _ = V.map Sl.P ++ (seg P q e :: splitS P (partEnd P (P.length + 1)) (x.n.toNat - (k + 1)) e)))
      have HS2 := Lib.hid hS'
      clear hE hS hS' hsp hf
      go_wp2_with fail
      refine C.out.mono ?_
      rintro e' w2 hpost
      obtain ⟨rfl, r2, g2⟩ := hpost
      have B2 := Lib.hid (hB.out.trans (below_of_grown g2 (Nat.le_refl _) hB.out.size))
      have O2 := hO.out.row g2 (own_ne hO.out.own (by omega)) hLt.out.apart
      have CL := Lib.hid (clone_nodes (a.add (q * 4)) (e - q) (c - q) (seg P q e) w2 (ns_seg (HN.out.keep B2.out) (by omega) hle.2) (by rw [seg_length (by rw [← HL.out]; omega)]; omega))
      have R2 := Lib.hid r2
      have OO2 := Lib.hid O2
      have hsz2 := B2.out.size
      have hsz3 : w.heap.size < w2.heap.size := R2.out.lt
      clear O2 r2 g2 hO hB hrd
      go_wp2_with fail
      refine CL.out.mono ?_
      rintro e' w3 hpost
      obtain ⟨A3, c3, rfl, n3, l3, b3⟩ := hpost
      have B3 := bh B2 b3
      have hO3 := OO2.out.keep b3
      have hR3 := R2.out.keep b3
      have O3 := Lib.hid hO3
      have R3 := Lib.hid hR3
      have N3 := Lib.hid (show Ns w3 (⟨A3, (seg P q e).length, c3, seg P q e⟩ : Sl).A _ _ _ from n3)
      have L3 := Lib.hid (hLt.out.snoc (r := ⟨A3, (seg P q e).length, c3, seg P q e⟩) (fun a' h' => by have := l3 a' h'; omega))
      have A3p : Hid (Apart ⟨A3, (seg P q e).length, c3, seg P q e⟩ u2.ownBlock) := by
        intro h0 a' e' q'
        have h1 := own_lt OO2.out.own a'.block q'
        have h2 := l3 a' e'
        omega
      have hsz4 := B3.out.size
      have hsz5 := b3.size
      clear b3 n3 l3 hO3 hR3 OO2 R2 B2 hLt
      go_wp2_with (at_builtin; refine wpList_append_own_at _ rfl _ _ 59 rfl (w.heap.size + 1) 25 i0 _ 1 24 Tryz.underlying59 hi hz0 hz1 hz2 rfl (by decide) _ V.length (V.map Sl.v) rfl (O3.out.own.alloc _) ⟨_, 0, none⟩ 1 1 [.slice A3 (seg P q e).length c3] rfl rfl (cell_one_new _ _ _) (by intro u hu; simp only [List.mem_cons, List.not_mem_nil, or_false] at hu; subst hu; rfl) ?c1 ?c2 ?c3 ?_)
      case c1 => unfold maxLen; omega
      case c2 => omega
      case c3 => simp; omega
      intro v1 w4 hown hgrow _ hat
      have B4 := Lib.hid ((B3.out.alloc B3.out.size _).grown hgrow (by simp; omega) (fun g hg => by have := own_base O3.out.own g hg; omega))
      have R4 := Lib.hid ((R3.out.keep (below_box w3 _)).row hgrow (own_ne' O3.out.own (by omega)))
      have O4 := Lib.hid (O3.out.snoc (r := ⟨A3, (seg P q e).length, c3, seg P q e⟩) N3.out A3p.out (by rw [hVl]; exact hown) hgrow (by simpa using hat))
      have HE4 := Lib.hid (HE2.out.trans (show _ = (V ++ [(⟨A3, (seg P q e).length, c3, seg P q e⟩ : Sl)]).map Sl.P ++ splitS P (partEnd P (P.length + 1)) (x.n.toNat - (k + 1)) e by simp))
      have hl4 : (V ++ [(⟨A3, (seg P q e).length, c3, seg P q e⟩ : Sl)]).length = k + 1 := by simp [hVl]
      clear hown hgrow hat O3 R3 N3 A3p HE2 B3
      go_wp2_with fail
      go_roundw
      case rel => exact ⟨k + 1, e, _, by go_num, rfl, by omega, by omega, by omega, hl4, HE4, HS2, O4, L3, R4, B4⟩
      case measure => simp [intOf]; omega
    · have HG := Lib.hid (hE.out.trans (show _ = V.map Sl.P by rw [show x.n.toNat - k = 0 by omega]; simp [splitS]))
      clear hE hS hrd
      go_wp2_with fail
      go_ret2
      exact ⟨_, _, V, rfl, hO.out.mono (by omega), HG.out.symm, World.ownsRow_nil _ _ _ 1, hLt.out, hB.out⟩
end Go.Proofs.YtcdpoamiejompaaGreatDoor
namespace Go.Wk
theorem recLoop_inv {v : List Nd} {f : Nat → Option Nat} {N k : Nat} {q n : Nat} (hk : k < N) (h : ∃ lo, recLoop v f (N - k) lo q = some n) :
    ∃ (hq : q < v.length) (e : Nat), f (q + 1) = some e ∧ (∃ lo, recLoop v f (N - (k + 1)) lo e = some n) ∧ splitR v f (N - k) q = (v[q].s, seg v (q + 1) e) :: splitR v f (N - (k + 1)) e := by
  obtain ⟨lo, h⟩ := h
  obtain ⟨j, hj⟩ : ∃ j, N - k = j + 1 := ⟨N - k - 1, by omega⟩
  rw [hj] at h
  rw [hj, show N - (k + 1) = j by omega]
  simp only [recLoop] at h
  by_cases hq : q < v.length
  · refine ⟨hq, ?_⟩
    split at h
    · cases h
    · rename_i s hs
      rcases hf : f (q + 1) with _ | e
      · rw [hf] at h; cases h
      · rw [hf] at h
        exact ⟨e, rfl, ⟨_, h⟩, by simp only [splitR, hf]; unfold nmAt; rw [List.getElem?_eq_getElem hq]⟩
  · rw [fieldOk_out (by omega)] at h; cases h
end Go.Wk
namespace Go.Proofs.YtcdpoamiejompaaGreatDoor
open Go.RowKit Go.Wk Go.Sort
set_option maxRecDepth 100000

/-- Two rows of the call's own: slices of nodes, and texts. -/
structure TwoRows (w : World) (B : Nat) (v v' : Value) (V : List Sl) (N : List ByteArray) : Prop where
  a : OwnSls w B v V
  b : w.ownsRow B 9 1 v' N.length (N.map Value.string)
  ab : v.ownBlock = none ∨ v.ownBlock ≠ v'.ownBlock
  ap : ∀ r ∈ V, Apart r v'.ownBlock
theorem TwoRows.keep {w w' : World} {B : Nat} {v v' : Value} {V : List Sl} {N : List ByteArray} (h : TwoRows w B v v' V N) (hb : Below w.heap.size w w') : TwoRows w' B v v' V N :=
  ⟨h.a.keep hb, own_kept_below h.b hb, h.ab, h.ap⟩
theorem TwoRows.other {w w' : World} {B R : Nat} {v v' : Value} {V : List Sl} {N : List ByteArray} (h : TwoRows w B v v' V N) (hg : w.grownBy w' (some R)) (hR : R < B) (hL : Later R V) : TwoRows w' B v v' V N :=
  ⟨h.a.row hg (own_ne h.a.own hR) hL.apart, h.b.kept hg (own_ne h.b hR), h.ab, h.ap⟩
theorem strInfo : (Tryz.prog.info? 9).map (fun i => (i.zero, i.size, i.bytes)) = some (some (.string ⟨#[]⟩), 1, 16) := by kernel_rfl
/-- A name more. -/
theorem TwoRows.name {w w' : World} {B : Nat} {v v' v1 : Value} {V : List Sl} {N : List ByteArray} {s : ByteArray} {o : Obj} (h : TwoRows w B v v' V N)
    (hown : w'.ownsRow B 9 1 v1 (N.length + 1) (N.map Value.string ++ [.string s])) (hg : (w.alloc o).grownBy w' v'.ownBlock) (hat : v1.ownBlock = v'.ownBlock ∨ v1.ownBlock = some (w.alloc o).heap.size) : TwoRows w' B v v1 V (N ++ [s]) := by
  have hba : Below w.heap.size w (w.alloc o) := below_box w o
  refine ⟨(h.a.keep hba).row hg h.ab h.ap, by simpa using hown, ?_, fun r hr h0 a e => ?_⟩
  · rcases hv : v.ownBlock with _ | g
    · exact .inl rfl
    · have hlt := own_lt h.a.own g hv
      refine .inr ?_
      rcases hat with q | q
      · rw [q, ← hv]
        rcases h.ab with z | z
        · rw [hv] at z; cases z
        · exact z
      · rw [q]; intro z; injection z with z; simp at z; omega
  · rcases hat with q | q
    · rw [q]; exact h.ap r hr h0 a e
    · rw [q]
      have := (h.a.each r hr).at_.lt h0 a e
      intro z; injection z with z; simp at z; omega
/-- A slice more. -/
theorem TwoRows.part {w w' : World} {B : Nat} {v v' v1 : Value} {V : List Sl} {N : List ByteArray} {r : Sl} {o : Obj} (h : TwoRows w B v v' V N) (hr : Ns w r.A r.n r.c r.P) (ha : Apart r v.ownBlock) (ha' : Apart r v'.ownBlock)
    (hown : w'.ownsRow B 25 1 v1 (V.length + 1) (V.map Sl.v ++ [r.v])) (hg : (w.alloc o).grownBy w' v.ownBlock) (hat : v1.ownBlock = v.ownBlock ∨ v1.ownBlock = some (w.alloc o).heap.size) : TwoRows w' B v1 v' (V ++ [r]) N := by
  have hba : Below w.heap.size w (w.alloc o) := below_box w o
  refine ⟨h.a.snoc hr ha hown hg hat, (own_kept_below h.b hba).kept hg ?_, ?_, ?_⟩
  · rcases h.ab with z | z
    · rw [z]; cases v'.ownBlock <;> simp
    · exact .inr (fun q => z q.symm)
  · rcases hv : v1.ownBlock with _ | g
    · exact .inl rfl
    · refine .inr ?_
      rcases hat with q | q
      · rcases h.ab with z | z
        · rw [hv, z] at q; cases q
        · rw [← hv, q]; exact z
      · intro z
        have := own_lt h.b g z.symm
        rw [hv] at q
        injection q with q
        simp at q
        omega
  · intro x hx
    rcases List.mem_append.1 hx with h1 | h1
    · exact h.ap x h1
    · simp only [List.mem_cons, List.not_mem_nil, or_false] at h1
      subst h1; exact ha'

set_option maxHeartbeats 8000000 in
theorem split_rec (A : Option Addr) (n c : Nat) (P : List Nd) (w : World) (h : Ns w A n c P) (hv : valFault P = 0) (h6 : headOp P = 6) :
    Calls Tryz.prog 133 #[.slice A n c] w (SplitPost w ((recParts P).map (·.2)) ((recParts P).map (·.1))) := by
  obtain ⟨i0, hi, hz0, hz1, hz2⟩ := info_parts slInfo
  obtain ⟨j0, hj, jz0, jz1, jz2⟩ := info_parts strInfo
  obtain ⟨h200, hV⟩ := isV_zero.1 hv
  have hpos := hV.pos
  obtain ⟨a, rfl, D⟩ := h.at_.nd hpos
  have hn := h.len
  obtain ⟨hs0, _, hop, hx0, hN⟩ := rec_loop hV h6
  have hE : recParts P = splitR P (partEnd P (P.length + 1)) P[0].n.toNat 1 := by unfold recParts; rw [hN]
  rw [hN] at hs0
  obtain ⟨-, -, -, hhi⟩ := h.ok.at hpos
  have K := Lib.hid (fun q w' (hb : Below w.heap.size w w') rd hq => val_part (some a) P n c w.heap.size hn h.cap h.max h.ok (fun h0 a' e => by have := h.at_.lt h0 a' e; omega) (P.length + 1) q w' rd (h.at_.keep hb) (by omega : n - q < P.length + 1))
  have HN := Lib.hid h
  have HL := Lib.hid hn
  have H0 := Lib.hid hs0
  have HE := Lib.hid hE
  rw [show a.add (0 * 4) = a from rfl] at D
  obtain ⟨d0, d1, d2, d3⟩ := D
  have r0 : RdAt (w.alloc (.cells #[.slice (some a) n c, .int .i64 1] 73)) w.heap.size (.slice (some a) n c) 1 := ⟨by simp, by simp, by simp⟩
  rw [hop] at d0
  have d1' := fun o : Obj => cell_keep (below_box w o) d1
  generalize P[0] = x at *
  have hn200 : n ≤ 200 := by omega
  have hn1 : 0 < n := by omega
  clear h hv h6 hV hn hs0 hE hN h200 hop
  go_enter Tryz.func133, Tryz.ntmps133
  go_wp2_with fail
  clear d1'
  go_loopw [2, 3, 12] (fun v v' i wr => ∃ (k q : Nat) (V : List Sl) (X : List (ByteArray × List Nd)), i = .int .i64 k ∧ (k : Int) ≤ x.n ∧ q ≤ n ∧ k + 1 ≤ q ∧ V.length = k ∧ X.length = k ∧ Hid (V.map Sl.P = X.map (·.2)) ∧ Hid (recParts P = X ++ splitR P (partEnd P (P.length + 1)) (x.n.toNat - k) q) ∧
      Hid (∃ lo, recLoop P (partEnd P (P.length + 1)) (x.n.toNat - k) lo q = some P.length) ∧ Hid (TwoRows wr (w.heap.size + 1) v v' V (X.map (·.1))) ∧ Hid (Later w.heap.size V) ∧ Hid (RdAt wr w.heap.size (.slice (some a) n c) q) ∧ Hid (Below w.heap.size w wr)) (fun _ _ i _ => (x.n - intOf i).toNat)
  case atStart => exact ⟨0, 1, [], [], rfl, hx0, hn1, by omega, rfl, rfl, rfl, HE.out, ⟨_, H0.out⟩, ⟨OwnSls.nil _ _, World.ownsRow_nil _ _ _ 1, .inl rfl, (by intro r hr; cases hr)⟩, (by intro r hr; cases hr), r0, below_box _ _⟩
  case round =>
    obtain ⟨k, q, V, X, rfl, hk, hq, hkq, hVl, hXl, hVX, hE, hS, hT, hLt, hrd, hB⟩ := hrel
    have e0 := cell_keep hB.out d0
    by_cases hlt : (k : Int) < x.n
    · obtain ⟨hq', e, hf, hS', hsp⟩ := recLoop_inv (by omega) hS.out
      have hle := partEnd_le _ _ _ hf
      rw [← HL.out] at hle
      have hqn : q < n := by omega
      obtain ⟨a', ha', ⟨-, -, q2, -⟩⟩ := (HN.out.at_.keep hB.out).nd hq'
      injection ha' with ha'
      subst ha'
      have HE2 := Lib.hid (hE.out.trans (by rw [hsp] : _ = X ++ ((P[q].s, seg P (q + 1) e) :: splitR P (partEnd P (P.length + 1)) (x.n.toNat - (k + 1)) e)))
      have HS2 := Lib.hid hS'
      have HF := Lib.hid hf
      have hsg : (seg P (q + 1) e).length = e - (q + 1) := seg_length (by rw [← HL.out]; omega)
      have HSG := Lib.hid hsg
      generalize P[q].s = nm at *
      obtain ⟨c0, c1, f1⟩ := hrd.out
      have hsz1 := hB.out.size
      have hRl := hrd.out.lt
      clear hE hS hS' hsp hf hsg
      go_wp2_with (at_builtin; refine wpList_append_own_at _ rfl _ _ 58 rfl (w.heap.size + 1) 9 j0 _ 1 16 Tryz.underlying58 hj jz0 jz1 jz2 rfl (by decide) _ (X.map (·.1)).length ((X.map (·.1)).map Value.string) rfl (hT.out.b.alloc _) ⟨_, 0, none⟩ 1 1 [.string nm] rfl rfl (cell_one_new _ _ _) (by intro u hu; simp only [List.mem_cons, List.not_mem_nil, or_false] at hu; subst hu; rfl) ?c1 ?c2 ?c3 ?_)
      case c1 => simp; unfold maxLen; omega
      case c2 => simp; omega
      case c3 => simp; omega
      intro v1 w1 hown hgrow _ hat
      have T1 := Lib.hid (hT.out.name (s := nm) (by simpa [hXl] using hown) hgrow (by simpa using hat))
      have B1 := Lib.hid ((hB.out.alloc hB.out.size _).grown hgrow (by simp; omega) (fun g hg => by have := own_base hT.out.b g hg; omega))
      have R1 := Lib.hid ((hrd.out.keep (below_box wr _)).row hgrow (own_ne' hT.out.b (by omega)))
      have R2 := Lib.hid (R1.out.put (q + 1))
      have T2 := Lib.hid (T1.out.other (R := w.heap.size) (grown_setCell w1 ⟨w.heap.size, 1, none⟩ (.int .i64 (q + 1 : Nat))) (by omega) hLt.out)
      have B2 := Lib.hid (B1.out.setCell (p := ⟨w.heap.size, 1, none⟩) (Nat.le_refl _) (.int .i64 (q + 1 : Nat)))
      have hRl1 := R1.out.lt
      obtain ⟨c0', c1', f1'⟩ := R1.out
      have C := Lib.hid (K.out (q + 1) _ B2.out R2.out (by rw [← HL.out]; omega))
      rw [HF.out] at C
      clear hown hgrow hat hT hB hrd c0 c1 f1 q2 T1 B1 R1
      go_wp2_with fail
      refine C.out.mono ?_
      rintro e' w3 hpost
      obtain ⟨rfl, r3, g3⟩ := hpost
      have B3 := Lib.hid (B2.out.trans (below_of_grown g3 (Nat.le_refl _) B2.out.size))
      have T3 := Lib.hid (T2.out.other g3 (by omega) hLt.out)
      have CL := Lib.hid (clone_nodes (a.add ((q + 1) * 4)) (e - (q + 1)) (c - (q + 1)) (seg P (q + 1) e) w3 (ns_seg (HN.out.keep B3.out) (by omega) hle.2) (by rw [HSG.out]; omega))
      have R3 := Lib.hid r3
      have hsz2 := B3.out.size
      have hsz3 : w.heap.size < w3.heap.size := R3.out.lt
      clear r3 g3 T2 B2 R2 c0' c1' f1'
      go_wp2_with fail
      refine CL.out.mono ?_
      rintro e' w4 hpost
      obtain ⟨A3, c3, rfl, n3, l3, b4⟩ := hpost
      have B4 := bh B3 b4
      have T4 := Lib.hid (T3.out.keep b4)
      have R4 := Lib.hid (R3.out.keep b4)
      have N4 := Lib.hid (show Ns w4 (⟨A3, (seg P (q + 1) e).length, c3, seg P (q + 1) e⟩ : Sl).A _ _ _ from n3)
      have L4 := Lib.hid (hLt.out.snoc (r := ⟨A3, (seg P (q + 1) e).length, c3, seg P (q + 1) e⟩) (fun a' h' => by have := l3 a' h'; omega))
      have A4 : Hid (Apart ⟨A3, (seg P (q + 1) e).length, c3, seg P (q + 1) e⟩ u2.ownBlock) := by
        intro h0 a' e' q'
        have h1 := own_lt T3.out.a.own a'.block q'
        have h2 := l3 a' e'
        omega
      have A5 : Hid (Apart ⟨A3, (seg P (q + 1) e).length, c3, seg P (q + 1) e⟩ v1.ownBlock) := by
        intro h0 a' e' q'
        have h1 := own_lt T3.out.b a'.block q'
        have h2 := l3 a' e'
        omega
      have hsz4 := B4.out.size
      have hsz5 := b4.size
      clear b4 n3 l3 T3 R3 B3 hLt
      go_wp2_with (at_builtin; refine wpList_append_own_at _ rfl _ _ 59 rfl (w.heap.size + 1) 25 i0 _ 1 24 Tryz.underlying59 hi hz0 hz1 hz2 rfl (by decide) _ V.length (V.map Sl.v) rfl (T4.out.a.own.alloc _) ⟨_, 0, none⟩ 1 1 [.slice A3 (seg P (q + 1) e).length c3] rfl rfl (cell_one_new _ _ _) (by intro u hu; simp only [List.mem_cons, List.not_mem_nil, or_false] at hu; subst hu; rfl) ?d1 ?d2 ?d3 ?_)
      case d1 => unfold maxLen; omega
      case d2 => omega
      case d3 => simp; omega
      intro v2 w5 hown hgrow _ hat
      have B5 := Lib.hid ((B4.out.alloc B4.out.size _).grown hgrow (by simp; omega) (fun g hg => by have := own_base T4.out.a.own g hg; omega))
      have R5 := Lib.hid ((R4.out.keep (below_box w4 _)).row hgrow (own_ne' T4.out.a.own (by omega)))
      have T5 := Lib.hid (T4.out.part (r := ⟨A3, (seg P (q + 1) e).length, c3, seg P (q + 1) e⟩) N4.out A4.out A5.out (by rw [hVl]; exact hown) hgrow (by simpa using hat))
      have HE5 := Lib.hid (HE2.out.trans (show _ = (X ++ [(nm, seg P (q + 1) e)]) ++ splitR P (partEnd P (P.length + 1)) (x.n.toNat - (k + 1)) e by simp))
      have hl5 : (V ++ [(⟨A3, (seg P (q + 1) e).length, c3, seg P (q + 1) e⟩ : Sl)]).length = k + 1 := by simp [hVl]
      have hl6 : (X ++ [(nm, seg P (q + 1) e)]).length = k + 1 := by simp [hXl]
      have HV5 := Lib.hid (show (V ++ [(⟨A3, (seg P (q + 1) e).length, c3, seg P (q + 1) e⟩ : Sl)]).map Sl.P = (X ++ [(nm, seg P (q + 1) e)]).map (·.2) by
        rw [List.map_append, List.map_append, hVX.out]; rfl)
      have T6 := Lib.hid (show TwoRows w5 (w.heap.size + 1) v2 v1 (V ++ [(⟨A3, (seg P (q + 1) e).length, c3, seg P (q + 1) e⟩ : Sl)]) ((X ++ [(nm, seg P (q + 1) e)]).map (·.1)) by
        rw [List.map_append]; exact T5.out)
      clear hown hgrow hat R4 N4 A4 A5 HE2 B4 T5
      go_wp2_with fail
      go_roundw
      case rel => exact ⟨k + 1, e, _, _, by go_num, by omega, by omega, by omega, hl5, hl6, HV5, HE5, HS2, T6, L4, R5, B5⟩
      case measure => simp [intOf]; omega
    · have HG := Lib.hid (hE.out.trans (show _ = X by rw [show x.n.toNat - k = 0 by omega]; simp [splitR]))
      clear hE hS hrd
      go_wp2_with fail
      go_ret2
      exact ⟨_, _, V, rfl, hT.out.a.mono (by omega), by rw [HG.out]; exact hVX.out, by rw [HG.out]; exact own_mono hT.out.b (by omega), hLt.out, hB.out⟩
end Go.Proofs.YtcdpoamiejompaaGreatDoor
namespace Go.Wk
/-- The error of Parts. -/
def prtE (P : List Nd) : Int := if valFault P = 0 then (if headOp P = 5 ∨ headOp P = 6 then 0 else 2) else valFault P
def prtL (P : List Nd) : List (List Nd) := if prtE P = 0 then (if headOp P = 5 then setParts P else (recParts P).map (·.2)) else []
/-- What a record has by a name. -/
def getR (P : List Nd) (s : ByteArray) : Option (List Nd) := ((recParts P).find? fun x => decide (cmpB x.1 s = 0)).map (·.2)
def getE (P : List Nd) (s : ByteArray) : Int := if valFault P = 0 then (if headOp P = 6 then (if (getR P s).isSome then 0 else 3) else 2) else valFault P
def getV (P : List Nd) (s : ByteArray) : List Nd := if getE P s = 0 then (getR P s).getD [] else []
theorem headOp_at {P : List Nd} (h : 0 < P.length) : headOp P = P[0].op := by
  rcases P with _ | ⟨x, r⟩
  · simp at h
  · rfl
theorem find_at {α : Type} {l : List α} {p : α → Bool} {k : Nat} (h : k < l.length) (hp : p l[k] = true) (hn : ∀ j, (hj : j < k) → p (l[j]'(by omega)) = false) : l.find? p = some l[k] := by
  rw [List.find?_eq_some_iff_getElem]
  exact ⟨hp, k, h, rfl, fun j hj => by rw [hn j hj]; rfl⟩
theorem idx_ways (N : List ByteArray) (s : ByteArray) : (∃ (k : Nat) (h : k < N.length), Lib.idxOfS N s = k ∧ N[k] = s ∧ ∀ j, (hj : j < k) → (N[j]'(by omega)) ≠ s) ∨ (Lib.idxOfS N s = -1 ∧ ∀ j, (hj : j < N.length) → N[j] ≠ s) := by
  unfold Lib.idxOfS
  have key : ∀ (N : List ByteArray) (i : Nat), (∃ (k : Nat) (h : k < N.length), Lib.idxFromS N s i = ((i + k : Nat) : Int) ∧ N[k] = s ∧ ∀ j, (hj : j < k) → (N[j]'(by omega)) ≠ s) ∨ (Lib.idxFromS N s i = -1 ∧ ∀ j, (hj : j < N.length) → N[j] ≠ s) := by
    intro N
    induction N with
    | nil => intro i; exact .inr ⟨rfl, fun j hj => by simp at hj⟩
    | cons x N ih =>
      intro i
      by_cases hx : x = s
      · exact .inl ⟨0, by simp, by simp [Lib.idxFromS, hx], hx, fun j hj => by omega⟩
      · rcases ih (i + 1) with ⟨k, hk, h1, h2, h3⟩ | ⟨h1, h2⟩
        · refine .inl ⟨k + 1, by simp; omega, ?_, h2, fun j hj => ?_⟩
          · simp only [Lib.idxFromS, hx]
            rw [if_neg (by simp), h1]; congr 1; omega
          · rcases j with _ | j
            · exact hx
            · exact h3 j (by omega)
        · refine .inr ⟨?_, fun j hj => ?_⟩
          · simp only [Lib.idxFromS, hx]
            rw [if_neg (by simp)]; exact h1
          · rcases j with _ | j
            · exact hx
            · exact h2 j (by simpa using hj)
  have := key N 0
  simpa using this
end Go.Wk
namespace Go.Proofs.YtcdpoamiejompaaGreatDoor
open Go.RowKit Go.Wk Go.Sort
set_option maxRecDepth 100000

theorem val_Check_ns {A : Option Addr} {n c : Nat} {P : List Nd} {w : World} (h : Ns w A n c P) : Calls Tryz.prog 13 #[.slice A n c] w fun e w' => e = .returned (errV (valFault P)) ∧ Below w.heap.size w w' :=
  val_Check A n c P w h.len h.cap h.max h.at_ h.ok

/-- What Parts tells. -/
def PartsPost (w : World) (P : List Nd) (e : Ending) (w' : World) : Prop :=
  ∃ (v : Value) (V : List Sl), e = .returned (.tuple #[v, errV (prtE P)]) ∧ OwnSls w' w.heap.size v V ∧ V.map Sl.P = prtL P ∧ (∀ r ∈ V, ∀ a, r.A = some a → w.heap.size ≤ a.block) ∧ Below w.heap.size w w'

set_option maxHeartbeats 2000000 in
theorem val_Parts (A : Option Addr) (n c : Nat) (P : List Nd) (w : World) (h : Ns w A n c P) :
    Calls Tryz.prog 136 #[.slice A n c] w (PartsPost w P) := by
  have K := Lib.hid (val_Check_ns h)
  have H := Lib.hid h
  by_cases h0 : valFault P = 0
  · have hV := (isV_zero.1 h0).2
    have hpos := hV.pos
    obtain ⟨a, rfl, D⟩ := h.at_.nd hpos
    rw [show a.add (0 * 4) = a from rfl] at D
    have hn1 : 0 < n := by rw [h.len]; exact hpos
    have d0 := D.c0
    rw [← headOp_at hpos] at d0
    rw [h0, errV_zero] at K
    by_cases h5 : headOp P = 5
    · have S := Lib.hid (fun w' hb => split_set (some a) n c P w' (h.keep hb) h0 h5)
      have hE : prtE P = 0 := by unfold prtE; rw [if_pos h0, if_pos (.inl h5)]
      have HL := Lib.hid (show prtL P = setParts P by unfold prtL; rw [if_pos hE, if_pos h5])
      have HE := Lib.hid hE
      rw [h5] at d0
      clear h h0 hV D h5 hE
      go_enter Tryz.func136, Tryz.ntmps136
      go_wp2_with fail
      refine (K.out).mono ?_
      rintro e w1 ⟨rfl, b1⟩
      replace d0 := cell_keep b1 d0
      have B1 := Lib.hid b1
      clear b1
      go_wp2_with fail
      refine (S.out _ B1.out).mono ?_
      rintro e w2 ⟨v, v', V, rfl, hO, hVL, -, hF, b2⟩
      have HF := Lib.hid (fun r hr a h => Nat.le_trans B1.out.size (Nat.le_of_lt (hF r hr a h)))
      have HO := Lib.hid (hO.mono B1.out.size)
      have HV := Lib.hid (hVL.trans HL.out.symm)
      have B2 := bh B1 b2
      clear hO hVL hF b2
      go_wp2_with fail
      go_ret2
      exact ⟨v, V, by rw [HE.out]; rfl, HO.out, HV.out, HF.out, B2.out⟩
    · by_cases h6 : headOp P = 6
      · have S := Lib.hid (fun w' hb => split_rec (some a) n c P w' (h.keep hb) h0 h6)
        have hE : prtE P = 0 := by unfold prtE; rw [if_pos h0, if_pos (.inr h6)]
        have HL := Lib.hid (show prtL P = (recParts P).map (·.2) by unfold prtL; rw [if_pos hE, if_neg h5])
        have HE := Lib.hid hE
        rw [h6] at d0
        clear h h0 hV D h5 h6 hE
        go_enter Tryz.func136, Tryz.ntmps136
        go_wp2_with fail
        refine (K.out).mono ?_
        rintro e w1 ⟨rfl, b1⟩
        replace d0 := cell_keep b1 d0
        have B1 := Lib.hid b1
        clear b1
        go_wp2_with fail
        refine (S.out _ B1.out).mono ?_
        rintro e w2 ⟨v, v', V, rfl, hO, hVL, -, hF, b2⟩
        have HF := Lib.hid (fun r hr a h => Nat.le_trans B1.out.size (Nat.le_of_lt (hF r hr a h)))
        have HO := Lib.hid (hO.mono B1.out.size)
        have HV := Lib.hid (hVL.trans HL.out.symm)
        have B2 := bh B1 b2
        clear hO hVL hF b2
        go_wp2_with fail
        go_ret2
        exact ⟨v, V, by rw [HE.out]; rfl, HO.out, HV.out, HF.out, B2.out⟩
      · have hE : prtE P = 2 := by unfold prtE; rw [if_pos h0, if_neg (by omega)]
        have HL := Lib.hid (show prtL P = [] by unfold prtL; rw [if_neg (by omega)])
        have HE := Lib.hid hE
        have g5 : (headOp P != 5) = true := by rw [bne_iff_ne]; exact h5
        have g6 : (headOp P != 6) = true := by rw [bne_iff_ne]; exact h6
        clear h h0 hV D h5 h6 hE
        go_enter Tryz.func136, Tryz.ntmps136
        go_wp2_with fail
        refine (K.out).mono ?_
        rintro e w1 ⟨rfl, b1⟩
        replace d0 := cell_keep b1 d0
        have B1 := Lib.hid b1
        clear b1
        go_wp2_with fail
        go_ret2
        exact ⟨_, [], by rw [HE.out]; rfl, OwnSls.nil _ _, HL.out.symm, (by intro r hr; cases hr), B1.out⟩
  · have hE : prtE P = valFault P := by unfold prtE; rw [if_neg h0]
    have HL := Lib.hid (show prtL P = [] by unfold prtL; rw [if_neg (by rw [hE]; exact h0)])
    have HE := Lib.hid hE
    rw [errV_ne h0] at K
    have HX := Lib.hid (errV_ne h0)
    clear h h0 hE
    go_enter Tryz.func136, Tryz.ntmps136
    go_wp2_with fail
    refine (K.out).mono ?_
    rintro e w1 ⟨rfl, b1⟩
    go_wp2_with fail
    go_ret2
    exact ⟨_, [], by rw [HE.out, HX.out]; rfl, OwnSls.nil _ _, HL.out.symm, (by intro r hr; cases hr), b1⟩

theorem strs_index {w : World} {B : Nat} {v : Value} {N : List ByteArray} (s : ByteArray) (h : w.ownsRow B 9 1 v N.length (N.map Value.string)) (hN : N.length ≤ 100000) :
    Calls Tryz.prog 134 #[v, .string s] w fun e w' => e = .returned (.int .i64 (Lib.idxOfS N s)) ∧ w' = w := by
  rcases h.2 with ⟨rfl, h0⟩ | ⟨g, cap, cur, rfl, -, -, hc, -⟩
  · have : N = [] := List.eq_nil_of_length_eq_zero h0
    subst this
    exact Tryz.slices_Index_string_empty none 0 s w
  · have := Tryz.slices_Index_string g 0 N.length cap N s w (Nat.le_refl _) (by omega) (fun j hj => by
      have e := h.cells (g := g) rfl j (.string N[j]) (by rw [List.getElem?_map, List.getElem?_eq_getElem hj]; rfl)
      rw [addr_add] at e
      rw [e]
      simp [hj])
    rw [List.take_length] at this
    exact this

def GetPost (w : World) (P : List Nd) (s : ByteArray) (e : Ending) (w' : World) : Prop :=
  ∃ (A : Option Addr) (n c : Nat), e = .returned (.tuple #[.slice A n c, errV (getE P s)]) ∧ Ns w' A n c (getV P s) ∧ (∀ a, A = some a → w.heap.size ≤ a.block) ∧ Below w.heap.size w w'
theorem recParts_len {P : List Nd} (h : valFault P = 0) (h6 : headOp P = 6) : (recParts P).length ≤ 200 := by
  obtain ⟨h1, h2⟩ := isV_zero.1 h
  obtain ⟨e, -, h3, -⟩ := isV_rec h2 h6
  have : (recParts P).length ≤ (flatR (recParts P)).length := by
    generalize recParts P = l
    induction l with
    | nil => simp
    | cons x l ih => simp only [flatR, List.length_cons, List.length_append]; omega
  have hl := congrArg List.length e
  simp only [List.length_cons] at hl
  omega

set_option maxHeartbeats 2000000 in
theorem val_Get (A : Option Addr) (n c : Nat) (P : List Nd) (s : ByteArray) (w : World) (h : Ns w A n c P) :
    Calls Tryz.prog 91 #[.slice A n c, .string s] w (GetPost w P s) := by
  have K := Lib.hid (val_Check_ns h)
  by_cases h0 : valFault P = 0
  · have hV := (isV_zero.1 h0).2
    have hpos := hV.pos
    obtain ⟨a, rfl, D⟩ := h.at_.nd hpos
    rw [show a.add (0 * 4) = a from rfl] at D
    have hn1 : 0 < n := by rw [h.len]; exact hpos
    have d0 := D.c0
    rw [← headOp_at hpos] at d0
    rw [h0, errV_zero] at K
    by_cases h6 : headOp P = 6
    · have S := Lib.hid (fun w' hb => split_rec (some a) n c P w' (h.keep hb) h0 h6)
      have HG := Lib.hid (show getE P s = if (getR P s).isSome then 0 else 3 by unfold getE; rw [if_pos h0, if_pos h6])
      have HLn := Lib.hid (recParts_len h0 h6)
      rw [h6] at d0
      clear h h0 hV D h6
      go_enter Tryz.func91, Tryz.ntmps91
      go_wp2_with fail
      refine (K.out).mono ?_
      rintro e w1 ⟨rfl, b1⟩
      replace d0 := cell_keep b1 d0
      have B1 := Lib.hid b1
      clear b1
      go_wp2_with fail
      refine (S.out _ B1.out).mono ?_
      rintro e w2 ⟨v, v', V, rfl, hO, hVL, hN, hfr, b2⟩
      have HFr := Lib.hid (show ∀ r ∈ V, ∀ a, r.A = some a → w.heap.size ≤ a.block from fun r hr a e => Nat.le_trans B1.out.size (Nat.le_of_lt (hfr r hr a e)))
      clear hfr
      have B2 := bh B1 b2
      have I := Lib.hid (strs_index s hN (by simp; have := HLn.out; omega))
      have HV := Lib.hid hVL
      have hVl := congrArg List.length hVL
      simp only [List.length_map] at hVl
      obtain ⟨A2, c2, rfl, hc2, hS2⟩ := hO.at
      have HS := Lib.hid hS2
      clear hO hVL hN b2 hS2
      rcases idx_ways ((recParts P).map (·.1)) s with ⟨k, hk, hi, hkk, hlt⟩ | ⟨hi, hno⟩
      · have hk' : k < (recParts P).length := by simpa using hk
        have hkV : k < V.length := by omega
        have hR : getR P s = some (recParts P)[k].2 := by
          unfold getR
          rw [find_at hk' (decide_eq_true ((cmpB_cmp.zero _ _).2 (by simpa using hkk))) (fun j hj => decide_eq_false (fun q => hlt j hj (by simpa using (cmpB_cmp.zero _ _).1 q)))]
          rfl
        obtain ⟨a2, rfl, q2, n2⟩ := HS.out.at hkV
        have hP : V[k].P = (recParts P)[k].2 := by
          have := congrArg (fun l => l[k]?) HV.out
          simp only [List.getElem?_map, List.getElem?_eq_getElem hkV, List.getElem?_eq_getElem hk', Option.map_some, Option.some.injEq] at this
          exact this
        have HE2 := Lib.hid (show getE P s = 0 by rw [HG.out, hR]; rfl)
        have HV2 := Lib.hid (show getV P s = V[k].P by unfold getV; rw [if_pos HE2.out, hR, hP]; rfl)
        have HN2 := Lib.hid n2
        have HFR := Lib.hid (HFr.out V[k] (List.getElem_mem hkV))
        rw [hi] at I
        generalize V[k] = r at *
        clear hk hi hkk hlt hR hP n2 hVl hk'
        go_wp2_with fail
        refine I.out.mono ?_
        rintro e w3 ⟨rfl, rfl⟩
        go_wp2_with fail
        go_ret2
        exact ⟨r.A, r.n, r.c, by rw [HE2.out]; rfl, by rw [HV2.out]; exact HN2.out, HFR.out, B2.out⟩
      · have hR : getR P s = none := by
          unfold getR
          rw [List.find?_eq_none.2 (fun x hx => by
            obtain ⟨j, hj, rfl⟩ := List.getElem_of_mem hx
            have := hno j (by simpa using hj)
            simp only [decide_eq_true_eq]
            intro q
            exact this (by simpa using (cmpB_cmp.zero _ _).1 q))]
          rfl
        have HE2 := Lib.hid (show getE P s = 3 by rw [HG.out, hR]; rfl)
        have HV2 := Lib.hid (show getV P s = [] by unfold getV; rw [HE2.out]; rfl)
        rw [hi] at I
        clear hi hno hR hVl
        go_wp2_with fail
        refine I.out.mono ?_
        rintro e w3 ⟨rfl, rfl⟩
        go_wp2_with fail
        go_ret2
        exact ⟨none, 0, 0, by rw [HE2.out]; rfl, by rw [HV2.out]; exact ⟨rfl, Nat.le_refl _, by unfold maxLen; omega, fun k x hx => by simp at hx, fun x hx => by cases hx⟩, (fun _ e => nomatch e), B2.out⟩
    · have hE : getE P s = 2 := by unfold getE; rw [if_pos h0, if_neg h6]
      have HV2 := Lib.hid (show getV P s = [] by unfold getV; rw [hE]; rfl)
      have HE := Lib.hid hE
      have g6 : (headOp P != 6) = true := by rw [bne_iff_ne]; exact h6
      clear h h0 hV D h6 hE
      go_enter Tryz.func91, Tryz.ntmps91
      go_wp2_with fail
      refine (K.out).mono ?_
      rintro e w1 ⟨rfl, b1⟩
      replace d0 := cell_keep b1 d0
      have B1 := Lib.hid b1
      clear b1
      go_wp2_with fail
      go_ret2
      exact ⟨none, 0, 0, by rw [HE.out]; rfl, by rw [HV2.out]; exact ⟨rfl, Nat.le_refl _, by unfold maxLen; omega, fun k x hx => by simp at hx, fun x hx => by cases hx⟩, (fun _ e => nomatch e), B1.out⟩
  · have hE : getE P s = valFault P := by unfold getE; rw [if_neg h0]
    have HV2 := Lib.hid (show getV P s = [] by unfold getV; rw [if_neg (by rw [hE]; exact h0)])
    have HE := Lib.hid hE
    rw [errV_ne h0] at K
    have HX := Lib.hid (errV_ne h0)
    clear h h0 hE
    go_enter Tryz.func91, Tryz.ntmps91
    go_wp2_with fail
    refine (K.out).mono ?_
    rintro e w1 ⟨rfl, b1⟩
    go_wp2_with fail
    go_ret2
    exact ⟨none, 0, 0, by rw [HE.out, HX.out]; rfl, by rw [HV2.out]; exact ⟨rfl, Nat.le_refl _, by unfold maxLen; omega, fun k x hx => by simp at hx, fun x hx => by cases hx⟩, (fun _ e => nomatch e), b1⟩
end Go.Proofs.YtcdpoamiejompaaGreatDoor
namespace Go.Proofs.YtcdpoamiejompaaGreatDoor
open Go.RowKit Go.Wk
set_option maxRecDepth 100000

/-- A slice that holds uids. -/
def UdsAt (w : World) (A : Option Addr) (P : List Ud) : Prop :=
  ∀ (k : Nat) (x : Ud), P[k]? = some x → ∃ a, A = some a ∧ w.cell? (a.add (k * 2)) = some (.string x.1) ∧ w.cell? ⟨(a.add (k * 2)).block, (a.add (k * 2)).off + 1, none⟩ = some (.string x.2)
theorem UdsAt.keep {w w' : World} {A : Option Addr} {P : List Ud} (h : UdsAt w A P) (hb : Below w.heap.size w w') : UdsAt w' A P :=
  fun k x hx => let ⟨a, h1, h2, h3⟩ := h k x hx; ⟨a, h1, cell_keep hb h2, cell_keep hb h3⟩
theorem UdsAt.but {w w' : World} {A : Option Addr} {P : List Ud} {g : Option Nat} (h : UdsAt w A P) (hg : w.grownBy w' g) (hR : ∀ a, A = some a → g ≠ some a.block) : UdsAt w' A P := by
  intro k x hx
  obtain ⟨a, h1, h2, h3⟩ := h k x hx
  have hn : some a.block ≠ g := fun e => hR a h1 e.symm
  have hb := add_block a (k * 2)
  exact ⟨a, h1, hg.cell h2 (by rw [hb]; exact hn), hg.cell h3 (by rw [hb]; exact hn)⟩
/-- A slice of uids, with its length and its capacity. -/
structure Us (w : World) (A : Option Addr) (n c : Nat) (P : List Ud) : Prop where
  len : n = P.length
  cap : n ≤ c
  max : n ≤ maxLen
  at_ : UdsAt w A P
  ok : ∀ x ∈ P, x.1.size ≤ maxLen ∧ x.2.size ≤ maxLen
theorem Us.keep {w w' : World} {A : Option Addr} {n c : Nat} {P : List Ud} (h : Us w A n c P) (hb : Below w.heap.size w w') : Us w' A n c P := ⟨h.len, h.cap, h.max, h.at_.keep hb, h.ok⟩
theorem Us.but {w w' : World} {A : Option Addr} {n c : Nat} {P : List Ud} {g : Option Nat} (h : Us w A n c P) (hg : w.grownBy w' g) (hR : ∀ a, A = some a → g ≠ some a.block) : Us w' A n c P := ⟨h.len, h.cap, h.max, h.at_.but hg hR, h.ok⟩
theorem Us.take {w : World} {A : Option Addr} {n c k : Nat} {P : List Ud} (h : Us w A n c P) (hk : k ≤ n) : Us w A k c (P.take k) :=
  { len := by rw [List.length_take, ← h.len]; omega
    cap := Nat.le_trans hk h.cap
    max := Nat.le_trans hk h.max
    at_ := fun j x hx => by
      rw [List.getElem?_take] at hx
      split at hx
      · exact h.at_ j x hx
      · cases hx
    ok := fun x hx => h.ok x (List.mem_of_mem_take hx) }
/-- An entity, and where its parts lie. -/
structure En where
  u : Ud
  UA : Option Addr
  un : Nat
  uc : Nat
  ups : List Ud
  NA : Option Addr
  nn : Nat
  nc : Nat
  P : List Nd
def En.v (e : En) : Value := .agg #[.string e.u.1, .string e.u.2, .slice e.UA e.un e.uc, .slice e.NA e.nn e.nc]
/-- An entity's parts are there. -/
structure EnOk (w : World) (e : En) : Prop where
  t : e.u.1.size ≤ maxLen
  i : e.u.2.size ≤ maxLen
  us : Us w e.UA e.un e.uc e.ups
  ns : Ns w e.NA e.nn e.nc e.P
theorem EnOk.keep {w w' : World} {e : En} (h : EnOk w e) (hb : Below w.heap.size w w') : EnOk w' e := ⟨h.t, h.i, h.us.keep hb, h.ns.keep hb⟩
/-- What is wrong with an entity. -/
def entF (e : En) : Int := if 6 < e.ups.length then 4 else if upsFault [] e.ups = 0 then (if valFault e.P = 0 then (if headOp e.P = 6 then 0 else 2) else valFault e.P) else upsFault [] e.ups

theorem hadU_take {P : List Ud} {k : Nat} (h : k < P.length) (x : Ud) : hadU (P.take (k + 1)) x = (hadU (P.take k) x || decide (P[k] = x)) := by
  unfold hadU
  rw [List.take_succ_eq_append_getElem h, List.any_append]
  simp
theorem uid_ne {x y : Ud} (h : x ≠ y) : (x.1.toList == y.1.toList) = false ∨ ((x.1.toList == y.1.toList) = true ∧ (x.2.toList == y.2.toList) = false) := by
  by_cases h1 : x.1 = y.1
  · refine .inr ⟨by rw [h1]; simp, beq_eq_false_iff_ne.2 fun e => h ?_⟩
    have h2 := toList_inj e
    cases x; cases y
    simp only at h1 h2
    rw [h1, h2]
  · exact .inl (beq_eq_false_iff_ne.2 fun e => h1 (toList_inj e))
set_option maxHeartbeats 1000000 in
theorem uids_Index (A : Option Addr) (n c : Nat) (P : List Ud) (x : Ud) (w : World) (h : Us w A n c P) :
    Calls Tryz.prog 106 #[.slice A n c, .agg #[.string x.1, .string x.2]] w fun e w' => (∃ k : Int, e = .returned (.int .i64 k) ∧ (0 ≤ k ↔ hadU P x = true)) ∧ Below w.heap.size w w' := by
  have V0 := Lib.hid (vr2_new w (.string x.1) (.string x.2) 24)
  have B0 := Lib.hid (below_box w (.cells #[.string x.1, .string x.2] 24))
  have HL := Lib.hid h.len
  have HM := h.max
  unfold maxLen at HM
  have HA := Lib.hid (h.at_)
  clear h
  go_enter Tryz.func106, Tryz.ntmps106
  go_wp2_with fail
  obtain ⟨w0, hw0⟩ : ∃ w0, w.alloc (.cells #[.string x.1, .string x.2] 24) = w0 := ⟨_, rfl⟩
  rw [hw0] at V0 B0 ⊢
  clear hw0
  go_loopw [5, 8] (fun _ i wr => ∃ k : Nat, k ≤ n ∧ i = .int .i64 k ∧ Hid (hadU (P.take k) x = false) ∧ Hid (Below w.heap.size w wr) ∧ Hid (Vr2 wr w.heap.size (.string x.1) (.string x.2))) (fun _ i _ => n - (intOf i).toNat)
  case atStart => exact ⟨0, Nat.zero_le _, rfl, rfl, B0, V0⟩
  case round =>
    clear B0 V0
    obtain ⟨k, hk, rfl, hN, hB, hV⟩ := hrel
    by_cases hlt : k < n
    · have hlt' : k < P.length := by rw [← HL.out]; exact hlt
      have HT := Lib.hid (hadU_take hlt' x)
      obtain ⟨a, rfl, q0, q1⟩ := (HA.out.keep hB.out) k _ (List.getElem?_eq_getElem hlt')
      have v0 := cell_regrown hV.out.c0
      have v1 := cell_regrown hV.out.c1
      by_cases he : P[k] = x
      · have HY := Lib.hid (show hadU P x = true from hadU_iff.2 (he ▸ List.getElem_mem hlt'))
        rw [he] at q0 q1
        have k0 := cell_regrown q0
        have k1 := cell_regrown q1
        clear he q0 q1 HT
        go_wp2_with fail
        refine wp_region_quiet_below (by kernel_rfl) (by kernel_rfl) ?_
        repeat (first | go_big_quiet_step (fail) | quiet_step (fail))
        refine wpQuiet_nil ?_
        intro w1 hw'
        have B1 := Lib.hid (show Below wr.heap.size wr w1 by obtain ⟨⟨d, os⟩, rfl⟩ := hw'; exact below_regrown _ _ _)
        clear hw'
        have BX := bhid hB B1 (Nat.le_refl _)
        clear k0 k1 v0 v1 hB B1
        go_wp2_with fail
        go_ret
        exact ⟨⟨k, rfl, by rw [HY.out]; simp⟩, BX.out⟩
      · rw [decide_eq_false he, Bool.or_false, hN.out] at HT
        have k0 := cell_regrown q0
        have k1 := cell_regrown q1
        have hne : (x.1.toList == P[k].1.toList) = false ∨ ((x.1.toList == P[k].1.toList) = true ∧ (x.2.toList == P[k].2.toList) = false) := uid_ne (fun e => he e.symm)
        clear he q0 q1
        generalize P[k] = y at *
        rcases hne with h1 | ⟨h1, h2⟩
        · go_wp2_with fail
          refine wp_region_quiet_below (by kernel_rfl) (by kernel_rfl) ?_
          repeat (first | go_big_quiet_step (fail) | quiet_step (fail))
          refine wpQuiet_nil ?_
          intro w1 hw'
          have B1 := Lib.hid (show Below wr.heap.size wr w1 by obtain ⟨⟨d, os⟩, rfl⟩ := hw'; exact below_regrown _ _ _)
          clear hw'
          have BX := bhid hB B1 (Nat.le_refl _)
          have VX := Lib.hid (hV.out.keep B1.out)
          clear k0 k1 v0 v1 hB B1 hV
          go_wp2_with fail
          go_roundw
          case rel => exact ⟨k + 1, by omega, by go_num, HT, BX, VX⟩
          case measure => simp [intOf]; omega
        · go_wp2_with fail
          refine wp_region_quiet_below (by kernel_rfl) (by kernel_rfl) ?_
          repeat (first | go_big_quiet_step (fail) | quiet_step (fail))
          refine wpQuiet_nil ?_
          intro w1 hw'
          have B1 := Lib.hid (show Below wr.heap.size wr w1 by obtain ⟨⟨d, os⟩, rfl⟩ := hw'; exact below_regrown _ _ _)
          clear hw'
          have BX := bhid hB B1 (Nat.le_refl _)
          have VX := Lib.hid (hV.out.keep B1.out)
          clear k0 k1 v0 v1 hB B1 hV
          go_wp2_with fail
          go_roundw
          case rel => exact ⟨k + 1, by omega, by go_num, HT, BX, VX⟩
          case measure => simp [intOf]; omega
    · have HN := Lib.hid (show hadU P x = false by rw [← hN.out, List.take_of_length_le (by rw [← HL.out]; omega)])
      go_wp2_with fail
      go_ret
      exact ⟨⟨-1, rfl, by rw [HN.out]; simp⟩, hB.out⟩
theorem uids_Contains (A : Option Addr) (n c : Nat) (P : List Ud) (x : Ud) (w : World) (h : Us w A n c P) :
    Calls Tryz.prog 62 #[.slice A n c, .agg #[.string x.1, .string x.2]] w fun e w' => e = .returned (.bool (hadU P x)) ∧ Below w.heap.size w w' := by
  have B0 := Lib.hid (below_box w (.cells #[.string x.1, .string x.2] 24))
  have K := Lib.hid (fun w' hb => uids_Index A n c P x w' (h.keep hb))
  clear h
  go_enter Tryz.func62, Tryz.ntmps62
  go_wp2_with fail
  refine (K.out _ B0.out).mono ?_
  rintro e w1 ⟨⟨k, rfl, hk⟩, b1⟩
  have B1 := bh B0 b1
  have HK := Lib.hid (show decide (0 ≤ k) = hadU P x by
    rcases hu : hadU P x with _ | _
    · exact decide_eq_false (fun h => by have := hk.1 h; rw [hu] at this; cases this)
    · exact decide_eq_true (hk.2 hu))
  clear hk b1 B0
  go_wp2_with fail
  go_ret
  exact ⟨by rw [← HK.out]; rfl, B1.out⟩
end Go.Proofs.YtcdpoamiejompaaGreatDoor
namespace Go.Proofs.YtcdpoamiejompaaGreatDoor
open Go.RowKit Go.Wk
set_option maxRecDepth 100000

/-- The cells of an entity in a variable. -/
structure Vr4 (w : World) (b : Nat) (x : En) : Prop where
  c0 : w.cell? ⟨b, 0, none⟩ = some (.string x.u.1)
  c1 : w.cell? ⟨b, 1, none⟩ = some (.string x.u.2)
  c2 : w.cell? ⟨b, 2, none⟩ = some (.slice x.UA x.un x.uc)
  c3 : w.cell? ⟨b, 3, none⟩ = some (.slice x.NA x.nn x.nc)
theorem Vr4.keep {w w' : World} {b : Nat} {x : En} (h : Vr4 w b x) (hb : Below w.heap.size w w') : Vr4 w' b x := ⟨cell_keep hb h.c0, cell_keep hb h.c1, cell_keep hb h.c2, cell_keep hb h.c3⟩
theorem vr4_new (w : World) (x : En) (t : TypeId) : Vr4 (w.alloc (.cells #[.string x.u.1, .string x.u.2, .slice x.UA x.un x.uc, .slice x.NA x.nn x.nc] t)) w.heap.size x :=
  ⟨cell_row (heap_alloc_last w _) rfl, cell_row (heap_alloc_last w _) rfl, cell_row (heap_alloc_last w _) rfl, cell_row (heap_alloc_last w _) rfl⟩
theorem ups_step {L : List Ud} {k : Nat} (h : k < L.length) : upsFault (L.take k) (L.drop k) = if uidFault L[k] = 0 then (if hadU (L.take k) L[k] = true then 6 else upsFault (L.take (k + 1)) (L.drop (k + 1))) else uidFault L[k] := by
  rw [List.drop_eq_getElem_cons h, List.take_succ_eq_append_getElem h]
  rfl
set_option maxHeartbeats 4000000 in
theorem ent_one (x : En) (w : World) (h : EnOk w x) :
    Calls Tryz.prog 38 #[x.v] w fun e w' => e = .returned (errV (entF x)) ∧ Below w.heap.size w w' := by
  have V0 := Lib.hid (vr4_new w x 76)
  obtain ⟨u, UA, un, uc, ups, NA, nn, nc, P⟩ := x
  obtain ⟨-, -, hus, hns⟩ := h
  have KW := Lib.hid (fun (u : Ud) (hu : u.1.size ≤ maxLen ∧ u.2.size ≤ maxLen) w => name_Write u.1 u.2 w hu.1 hu.2)
  have KC := Lib.hid (fun (k : Nat) (hk : k ≤ un) (u : Ud) w' hb => uids_Contains UA k uc (ups.take k) u w' ((hus.keep (w' := w') hb).take hk))
  have KV := Lib.hid (fun w' hb => val_Check_ns (hns.keep (w' := w') hb))
  have HU := Lib.hid hus
  have HN := Lib.hid hns
  have B0 := Lib.hid (below_box w (.cells #[.string u.1, .string u.2, .slice UA un uc, .slice NA nn nc] 76))
  have hlen := hus.len
  have hcap := hus.cap
  dsimp only at hlen hcap V0 KC KV HU HN
  clear hus hns
  unfold En.v
  dsimp only
  by_cases h6 : 6 < un
  · have HE := Lib.hid (show entF ⟨u, UA, un, uc, ups, NA, nn, nc, P⟩ = 4 by unfold entF; rw [if_pos (by dsimp only; omega)])
    rw [HE.out]
    clear hlen
    go_enter Tryz.func38, Tryz.ntmps38
    go_wp2_with fail
    go_ret
    exact ⟨rfl, B0.out⟩
  · have HE := Lib.hid (show entF ⟨u, UA, un, uc, ups, NA, nn, nc, P⟩ = if upsFault [] ups = 0 then (if valFault P = 0 then (if headOp P = 6 then 0 else 2) else valFault P) else upsFault [] ups by unfold entF; rw [if_neg (by dsimp only; omega)])
    generalize entF ⟨u, UA, un, uc, ups, NA, nn, nc, P⟩ = EF at *
    have HL := Lib.hid hlen
    have hd : decide ((6 : Int) < (un : Int)) = false := decide_eq_false (by omega)
    clear hlen
    go_enter Tryz.func38, Tryz.ntmps38
    go_wp2_with fail
    obtain ⟨w0, hw0⟩ : ∃ w0, w.alloc (.cells #[.string u.1, .string u.2, .slice UA un uc, .slice NA nn nc] 76) = w0 := ⟨_, rfl⟩
    rw [hw0] at V0 B0 ⊢
    clear hw0
    go_loopw [3, 4, 5, 6, 16] (fun _ _ _ _ i wr => ∃ k : Nat, k ≤ un ∧ i = .int .i64 k ∧ Hid (upsFault [] ups = upsFault (ups.take k) (ups.drop k)) ∧ Hid (Below w.heap.size w wr) ∧ Hid (Vr4 wr w.heap.size ⟨u, UA, un, uc, ups, NA, nn, nc, P⟩)) (fun _ _ _ _ i _ => un - (intOf i).toNat)
    case atStart => exact ⟨0, Nat.zero_le _, rfl, rfl, B0, V0⟩
    case round =>
      clear B0 V0
      obtain ⟨k, hk, rfl, hF, hB, hV⟩ := hrel
      obtain ⟨c0, c1, c2, c3⟩ := hV.out
      dsimp only at c0 c1 c2 c3
      by_cases hlt : k < un
      · have hlt' : k < ups.length := by rw [← HL.out]; exact hlt
        have HS := Lib.hid (ups_step hlt')
        obtain ⟨a, rfl, q0, q1⟩ := (HU.out.at_.keep hB.out) k _ (List.getElem?_eq_getElem hlt')
        have hok := HU.out.ok _ (List.getElem_mem hlt')
        have K1 := Lib.hid (KW.out ups[k] hok)
        have K2 := Lib.hid (KC.out k hk ups[k])
        generalize ups[k] = p at *
        go_wp2_with fail
        have B1 := bh hB (below_box wr (.cells #[.string p.1, .string p.2] 24))
        have V1 := Lib.hid (hV.out.keep (below_box wr (.cells #[.string p.1, .string p.2] 24)))
        have P1 := Lib.hid (vr2_new wr (.string p.1) (.string p.2) 24)
        obtain ⟨w1, hw1⟩ : ∃ w1, wr.alloc (.cells #[.string p.1, .string p.2] 24) = w1 := ⟨_, rfl⟩
        rw [hw1] at V1 B1 P1 ⊢
        clear hw1 hB hV c0 c1 c2 c3 q0 q1
        refine (K1.out w1).mono ?_
        rintro e w2 ⟨rfl, b2⟩
        have B2 := bh B1 b2
        have V2 := Lib.hid (V1.out.keep b2)
        have P2 := Lib.hid (P1.out.keep b2)
        clear K1 b2 B1 V1 P1
        by_cases hu : uidFault (p.1, p.2) = 0
        · have hu' : uidFault p = 0 := hu
          rw [hu, errV_zero]
          rw [if_pos hu'] at HS
          clear hu hu'
          have k2 := cell_regrown V2.out.c2
          have v0 := cell_regrown P2.out.c0
          have v1 := cell_regrown P2.out.c1
          have KK := rq (w := w2) (fun w' hb => K2.out w' (B2.out.trans (hb.mono B2.out.size)))
          dsimp only at k2
          go_wp2_with fail
          refine wp_region_quiet_below (by kernel_rfl) (by kernel_rfl) ?_
          repeat (first | go_big_quiet_step (exact KK _ _) | quiet_step (exact KK _ _))
          refine wpQuiet_nil ?_
          intro w3 hw'
          have b3 := Lib.hid (show Below w2.heap.size w2 w3 by obtain ⟨⟨d, os⟩, rfl⟩ := hw'; exact below_regrown _ _ _)
          clear hw'
          have B3 := bh B2 b3.out
          have V3 := Lib.hid (V2.out.keep b3.out)
          clear k2 v0 v1 KK b3 B2 V2 P2 K2
          rcases hh : hadU (ups.take k) p with _ | _
          · rw [hh, if_neg (by decide)] at HS
            have HF := Lib.hid (hF.out.trans HS.out)
            clear hh HS hF
            go_wp2_with fail
            go_roundw
            case rel => exact ⟨k + 1, by omega, by go_num, HF, B3, V3⟩
            case measure => simp [intOf]; omega
          · rw [hh, if_pos rfl] at HS
            have HF := Lib.hid (hF.out.trans HS.out)
            have HE2 := Lib.hid (show EF = 6 by rw [HE.out, HF.out]; rfl)
            clear hh HS hF
            go_wp2_with fail
            go_ret
            exact ⟨by rw [HE2.out]; rfl, B3.out⟩
        · have hu' : uidFault p ≠ 0 := hu
          rw [if_neg hu'] at HS
          have HE2 := Lib.hid (show EF = uidFault (p.1, p.2) by rw [HE.out, hF.out, HS.out, if_neg hu'])
          rw [errV_ne hu]
          have hun := Lib.hid hu
          clear hu hu' HS hF
          generalize uidFault (p.1, p.2) = f at *
          go_wp2_with fail
          go_ret
          exact ⟨by rw [HE2.out, errV_ne hun.out]; rfl, B2.out⟩
      · have HF := Lib.hid (show upsFault [] ups = 0 by rw [hF.out, List.drop_of_length_le (by rw [← HL.out]; omega)]; rfl)
        have HE2 := Lib.hid (show EF = if valFault P = 0 then (if headOp P = 6 then 0 else 2) else valFault P by rw [HE.out, if_pos HF.out])
        have K3 := Lib.hid (fun w' hb => KV.out w' hb)
        clear hF
        go_wp2_with fail
        refine (K3.out wr hB.out).mono ?_
        rintro e w2 ⟨rfl, b2⟩
        have B2 := bh hB b2
        have V2 := Lib.hid (hV.out.keep b2)
        clear hB hV c0 c1 c2 c3 b2
        by_cases hv : valFault P = 0
        · have hpos := (isV_zero.1 hv).2.pos
          obtain ⟨a, rfl, D⟩ := (HN.out.at_.keep B2.out).nd hpos
          rw [show a.add (0 * 4) = a from rfl] at D
          have hop : headOp P = P[0].op := headOp_at hpos
          have hn0 : 0 < nn := by rw [HN.out.len]; exact hpos
          rw [hv, errV_zero]
          rw [if_pos hv, hop] at HE2
          obtain ⟨d0, -, -, -⟩ := D
          obtain ⟨op, ho⟩ : ∃ op, op = P[0].op := ⟨_, rfl⟩
          rw [← ho] at d0 HE2
          have e3 := V2.out.c3
          dsimp only at e3
          clear hv hop ho
          by_cases h6o : op = 6
          · rw [if_pos h6o] at HE2
            subst h6o
            go_wp2_with fail
            go_ret
            exact ⟨by rw [HE2.out]; rfl, B2.out⟩
          · rw [if_neg h6o] at HE2
            have h6i : (op != 6) = true := by simp; exact h6o
            clear h6o
            go_wp2_with fail
            go_ret
            exact ⟨by rw [HE2.out]; rfl, B2.out⟩
        · rw [if_neg hv] at HE2
          rw [errV_ne hv]
          have hvn := Lib.hid hv
          clear hv
          generalize valFault P = f at *
          go_wp2_with fail
          go_ret
          exact ⟨by rw [HE2.out, errV_ne hvn.out]; rfl, B2.out⟩
end Go.Proofs.YtcdpoamiejompaaGreatDoor
