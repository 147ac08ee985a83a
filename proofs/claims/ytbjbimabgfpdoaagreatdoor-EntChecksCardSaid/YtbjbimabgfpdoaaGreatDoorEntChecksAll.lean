/-
  Plain: those above one, found step by step, each once. No program in sight.
  Uids in a row of the call's own: their cells.
  The reference's Ups and Over: those above one, step by step.
  The reference's StoreFault: what is wrong with a store.
  EntChecks: what is wrong with a store. The walk of the law.
-/
import Derived.Test.YtbjbimabgfpdoaaGreatDoorEntLaw
import Derived.Test.YtbjbimabgfpdoaaGreatDoorUidMap
import Derived.Test.YtbjbimabgfpdoaaGreatDoorAbove
import Derived.Test.YtbjbimabgfpdoaaGreatDoorEntChk
import Derived.Test.YtbjbimabgfpdoaaGreatDoorRefVal
import Derived.Test.YtbjbimabgfpdoaaGreatDoorTold
namespace Go.Wk

theorem nodup_le : ∀ (L M : List Ud), L.Nodup → (∀ x ∈ L, x ∈ M) → L.length ≤ M.length
  | [], _, _, _ => Nat.zero_le _
  | x :: L, M, hn, hs => by
    obtain ⟨h1, h2⟩ := List.nodup_cons.1 hn
    have h3 : x ∈ M := hs x (by simp)
    have h4 := nodup_le L (M.filter fun y => decide (y ≠ x)) h2 (fun y hy => List.mem_filter.2 ⟨hs y (by simp [hy]), decide_eq_true fun e => h1 (e ▸ hy)⟩)
    have h5 : (M.filter fun y => decide (y ≠ x)).length < M.length := Nat.lt_of_le_of_ne (List.length_filter_le _ _) fun hl => by
      have := List.length_filter_eq_length_iff.1 hl x h3
      simp at this
    rw [List.length_cons]; omega
/-- One more, if it is not there. -/
def addU (L : List Ud) (p : Ud) : List Ud := if hadU L p = true then L else L ++ [p]
/-- More of those above u: L' is L and more. -/
structure Grw (G : List (Ud × List Ud)) (u : Ud) (L L' : List Ud) : Prop where
  nd : L'.Nodup
  sound : ∀ y ∈ L', Abv G u y
  pre : ∃ R, L' = L ++ R
theorem Grw.nil (G : List (Ud × List Ud)) (u : Ud) : Grw G u [] [] := ⟨List.nodup_nil, (fun _ hy => nomatch hy), [], rfl⟩
theorem Grw.self {G : List (Ud × List Ud)} {u : Ud} {L L' : List Ud} (h : Grw G u L L') : Grw G u L' L' := ⟨h.nd, h.sound, [], by simp⟩
theorem Grw.trans {G : List (Ud × List Ud)} {u : Ud} {L L' L'' : List Ud} (h : Grw G u L L') (k : Grw G u L' L'') : Grw G u L L'' :=
  ⟨k.nd, k.sound, by obtain ⟨R, e⟩ := h.pre; obtain ⟨R', e'⟩ := k.pre; exact ⟨R ++ R', by rw [e', e, List.append_assoc]⟩⟩
theorem Grw.sub {G : List (Ud × List Ud)} {u : Ud} {L L' : List Ud} (h : Grw G u L L') : ∀ y ∈ L, y ∈ L' := fun y hy => by
  obtain ⟨R, e⟩ := h.pre
  rw [e]; exact List.mem_append_left _ hy
theorem Grw.get {G : List (Ud × List Ud)} {u : Ud} {L L' : List Ud} (h : Grw G u L L') {i : Nat} (hi : i < (u :: L).length) : (u :: L')[i]? = some (u :: L)[i] := by
  obtain ⟨R, e⟩ := h.pre
  rw [e, ← List.cons_append, List.getElem?_append_left hi, List.getElem?_eq_getElem hi]
theorem Grw.len {G : List (Ud × List Ud)} {u : Ud} {L L' : List Ud} (h : Grw G u L L') : L'.length ≤ (G.flatMap (·.2)).length := nodup_le _ _ h.nd fun x hx => by
  have h1 := h.sound x hx
  clear hx h
  induction h1 with
  | one s => obtain ⟨e, he, _, h2⟩ := s; exact List.mem_flatMap.2 ⟨e, he, h2⟩
  | more _ _ ih => exact ih
theorem addU_mem (L : List Ud) (p : Ud) : p ∈ addU L p := by
  unfold addU
  split
  · rename_i h; exact hadU_iff.1 h
  · simp
theorem Grw.add {G : List (Ud × List Ud)} {u : Ud} {L L' : List Ud} (h : Grw G u L L') {z p : Ud} (hz : z = u ∨ z ∈ L') (hs : Stp G z p) : Grw G u L (addU L' p) := by
  unfold addU
  split
  · exact h
  · rename_i hh
    have hp : p ∉ L' := fun e => hh (hadU_iff.2 e)
    obtain ⟨R, e⟩ := h.pre
    refine ⟨?_, fun y hy => ?_, R ++ [p], by rw [e, List.append_assoc]⟩
    · rw [List.nodup_append]
      refine ⟨h.nd, by simp, fun a ha b hb e => ?_⟩
      simp only [List.mem_cons, List.not_mem_nil, or_false] at hb
      subst hb; subst e; exact hp ha
    · rcases List.mem_append.1 hy with hy | hy
      · exact h.sound y hy
      · simp only [List.mem_cons, List.not_mem_nil, or_false] at hy
        subst hy
        rcases hz with rfl | hz
        · exact .one hs
        · exact (h.sound z hz).snoc hs
/-- Behind s rounds. -/
structure Bfs (G : List (Ud × List Ud)) (u : Ud) (s f : Nat) (L : List Ud) : Prop where
  fnd : Grw G u [] L
  near : ∀ y, Ste G s u y → y ∈ L
  shut : ∀ z ∈ (u :: L).take f, ∀ y, Stp G z y → y ∈ L
theorem Bfs.start (G : List (Ud × List Ud)) (u : Ud) : Bfs G u 0 0 [] := ⟨Grw.nil G u, (fun _ hy => nomatch hy), fun z hz => by simp at hz⟩
theorem Bfs.next {G : List (Ud × List Ud)} {u : Ud} {s f : Nat} {L L' : List Ud} (h : Bfs G u s f L) (k : Grw G u L L') (hs : ∀ z ∈ u :: L, ∀ y, Stp G z y → y ∈ L') : Bfs G u (s + 1) (L.length + 1) L' := by
  refine ⟨h.fnd.trans k, fun y hy => ?_, fun z hz y hy => ?_⟩
  · rcases hy.last with h1 | ⟨p, h1, h2⟩
    · exact hs u (by simp) y h1
    · exact hs p (by simp [h.near p h1]) y h2
  · obtain ⟨R, e⟩ := k.pre
    rw [e, ← List.cons_append, List.take_append_of_le_length (by simp), List.take_of_length_le (by simp)] at hz
    exact hs z hz y hy
theorem Bfs.all {G : List (Ud × List Ud)} {u : Ud} {s f : Nat} {L : List Ud} (h : Bfs G u s f L) (hs : s = G.length) (y : Ud) : y ∈ L ↔ Abv G u y :=
  ⟨fun hy => h.fnd.sound y hy, fun hy => h.near y (hs ▸ abv_ste (Nat.le_refl _) hy)⟩
/-- In the midst of a round: those of the first i looked up. -/
structure Mid1 (G : List (Ud × List Ud)) (u : Ud) (L : List Ud) (i : Nat) (L' : List Ud) : Prop where
  grw : Grw G u L L'
  shut : ∀ z ∈ (u :: L).take i, ∀ y, Stp G z y → y ∈ L'
theorem Mid1.start {G : List (Ud × List Ud)} {u : Ud} {s f : Nat} {L : List Ud} (h : Bfs G u s f L) : Mid1 G u L f L := ⟨h.fnd.self, h.shut⟩
theorem Mid1.next {G : List (Ud × List Ud)} {u : Ud} {L L' L'' : List Ud} {i : Nat} (h : Mid1 G u L i L') (k : Grw G u L' L'') (hi : i < (u :: L).length) (hs : ∀ y, Stp G (u :: L)[i] y → y ∈ L'') : Mid1 G u L (i + 1) L'' := by
  refine ⟨h.grw.trans k, fun z hz y hy => ?_⟩
  rw [List.take_succ_eq_append_getElem hi] at hz
  rcases List.mem_append.1 hz with hz | hz
  · exact k.sub y (h.shut z hz y hy)
  · simp only [List.mem_cons, List.not_mem_nil, or_false] at hz
    subst hz; exact hs y hy
theorem Mid1.done {G : List (Ud × List Ud)} {u : Ud} {s f i : Nat} {L L' : List Ud} (h : Bfs G u s f L) (k : Mid1 G u L i L') (hi : (u :: L).length ≤ i) : Bfs G u (s + 1) (L.length + 1) L' :=
  h.next k.grw fun z hz y hy => k.shut z (by rw [List.take_of_length_le hi]; exact hz) y hy
/-- In the midst of looking one up: the first k of the store. -/
structure Mid2 (G : List (Ud × List Ud)) (u z : Ud) (L : List Ud) (k : Nat) (L' : List Ud) : Prop where
  grw : Grw G u L L'
  here : ∀ e ∈ G.take k, e.1 = z → ∀ y ∈ e.2, y ∈ L'
theorem Mid2.start {G : List (Ud × List Ud)} {u z : Ud} {L0 L : List Ud} (h : Grw G u L0 L) : Mid2 G u z L 0 L := ⟨h.self, fun e he => by simp at he⟩
theorem Mid2.next {G : List (Ud × List Ud)} {u z : Ud} {L L' L'' : List Ud} {k : Nat} (h : Mid2 G u z L k L') (g : Grw G u L' L'') (hk : k < G.length) (hs : G[k].1 = z → ∀ y ∈ G[k].2, y ∈ L'') : Mid2 G u z L (k + 1) L'' := by
  refine ⟨h.grw.trans g, fun e he h1 y hy => ?_⟩
  rw [List.take_succ_eq_append_getElem hk] at he
  rcases List.mem_append.1 he with he | he
  · exact g.sub y (h.here e he h1 y hy)
  · simp only [List.mem_cons, List.not_mem_nil, or_false] at he
    subst he; exact hs h1 y hy
theorem Mid2.done {G : List (Ud × List Ud)} {u z : Ud} {L L' : List Ud} {k : Nat} (h : Mid2 G u z L k L') (hk : G.length ≤ k) : ∀ y, Stp G z y → y ∈ L' := fun y ⟨e, he, h1, h2⟩ => h.here e (by rw [List.take_of_length_le hk]; exact he) h1 y h2
/-- In the midst of one entity's Up. -/
structure Mid3 (G : List (Ud × List Ud)) (u : Ud) (ups L : List Ud) (p : Nat) (L' : List Ud) : Prop where
  grw : Grw G u L L'
  here : ∀ y ∈ ups.take p, y ∈ L'
theorem Mid3.start {G : List (Ud × List Ud)} {u : Ud} {ups L0 L : List Ud} (h : Grw G u L0 L) : Mid3 G u ups L 0 L := ⟨h.self, fun e he => by simp at he⟩
theorem Mid3.next {G : List (Ud × List Ud)} {u z : Ud} {ups L L' : List Ud} {p : Nat} (h : Mid3 G u ups L p L') (hp : p < ups.length) (hz : z = u ∨ z ∈ L) (hs : Stp G z ups[p]) : Mid3 G u ups L (p + 1) (addU L' ups[p]) := by
  have g := h.grw.self.add (hz.imp id (h.grw.sub z)) hs
  refine ⟨h.grw.trans g, fun y hy => ?_⟩
  rw [List.take_succ_eq_append_getElem hp] at hy
  rcases List.mem_append.1 hy with hy | hy
  · exact g.sub y (h.here y hy)
  · simp only [List.mem_cons, List.not_mem_nil, or_false] at hy
    subst hy; exact addU_mem _ _
theorem Mid3.done {G : List (Ud × List Ud)} {u : Ud} {ups L L' : List Ud} {p : Nat} (h : Mid3 G u ups L p L') (hp : ups.length ≤ p) : ∀ y ∈ ups, y ∈ L' := fun y hy => h.here y (by rw [List.take_of_length_le hp]; exact hy)

/- An entity more that is in nobody's Up. -/
theorem leaf_stp {G : List (Ud × List Ud)} {e : Ud × List Ud} {p q : Ud} (h : Stp (G ++ [e]) p q) (hp : p ≠ e.1) : Stp G p q := by
  obtain ⟨f, hf, h1, h2⟩ := h
  rcases List.mem_append.1 hf with hf | hf
  · exact ⟨f, hf, h1, h2⟩
  · simp only [List.mem_cons, List.not_mem_nil, or_false] at hf
    subst hf; exact absurd h1.symm hp
theorem leaf_abv {G : List (Ud × List Ud)} {e : Ud × List Ud} (hno : ∀ g ∈ G, e.1 ∉ g.2) {u y : Ud} (h : Abv (G ++ [e]) u y) (hu : u ≠ e.1) : Abv G u y := by
  induction h with
  | one s => exact .one (leaf_stp s hu)
  | more s _ ih =>
    have s' := leaf_stp s hu
    refine .more s' (ih fun h => ?_)
    obtain ⟨g, hg, _, h2⟩ := s'
    exact hno g hg (h ▸ h2)
theorem more_abv {G : List (Ud × List Ud)} (e : Ud × List Ud) {u y : Ud} (h : Abv G u y) : Abv (G ++ [e]) u y := by
  induction h with
  | one s => obtain ⟨g, hg, h1, h2⟩ := s; exact .one ⟨g, by simp [hg], h1, h2⟩
  | more s _ ih => obtain ⟨g, hg, h1, h2⟩ := s; exact .more ⟨g, by simp [hg], h1, h2⟩ ih
/-- Ascending lists that hold the same are one. -/
theorem asc_one {R : Ud → Ud → Prop} (hr : ∀ x, ¬ R x x) (ht : ∀ x y z, R x y → R y z → R x z) : ∀ (L M : List Ud), L.Pairwise R → M.Pairwise R → (∀ x, x ∈ L ↔ x ∈ M) → L = M
  | [], M, _, _, h => by
    rcases M with _ | ⟨y, M⟩
    · rfl
    · exact absurd ((h y).2 (by simp)) (by simp)
  | x :: L, [], _, _, h => absurd ((h x).1 (by simp)) (by simp)
  | x :: L, y :: M, h1, h2, h => by
    obtain ⟨a1, a2⟩ := List.pairwise_cons.1 h1
    obtain ⟨b1, b2⟩ := List.pairwise_cons.1 h2
    have e : x = y := by
      rcases List.mem_cons.1 ((h x).1 (by simp)) with e | hx
      · exact e
      · rcases List.mem_cons.1 ((h y).2 (by simp)) with e | hy
        · exact e.symm
        · exact absurd (ht _ _ _ (a1 y hy) (b1 x hx)) (hr x)
    subst e
    congr 1
    refine asc_one hr ht L M a2 b2 fun z => ⟨fun hz => ?_, fun hz => ?_⟩
    · rcases List.mem_cons.1 ((h z).1 (by simp [hz])) with e | hm
      · exact absurd (a1 z hz) (e ▸ hr z)
      · exact hm
    · rcases List.mem_cons.1 ((h z).2 (by simp [hz])) with e | hm
      · exact absurd (b1 z hz) (e ▸ hr z)
      · exact hm
end Go.Wk
namespace Go.Proofs.YtbjbimabgfpdoaaGreatDoor
open Go.RowKit Go.Wk
set_option maxRecDepth 100000

def udCells : List Ud → List Value
  | [] => []
  | u :: U => .string u.1 :: .string u.2 :: udCells U
@[simp] theorem udCells_length (U : List Ud) : (udCells U).length = U.length * 2 := by
  induction U with
  | nil => rfl
  | cons u U ih => simp only [udCells, List.length_cons, ih]; omega
theorem udCells_append (U V : List Ud) : udCells (U ++ V) = udCells U ++ udCells V := by
  induction U with
  | nil => rfl
  | cons u U ih => simp only [List.cons_append, udCells, ih]
theorem udCells_one (U : List Ud) : ∀ v ∈ udCells U, v.oneCell' = true := by
  induction U with
  | nil => intro v hv; cases hv
  | cons u U ih =>
    intro v hv
    simp only [udCells, List.mem_cons] at hv
    rcases hv with rfl | rfl | hv
    · rfl
    · rfl
    · exact ih v hv
theorem uds_cells {w : World} {a : Addr} {P : List Ud} (h : ∀ j u, (udCells P)[j]? = some u → w.cell? (a.add j) = some u) : UdsAt w (some a) P := by
  have key : ∀ (P : List Ud) (k : Nat) (x : Ud), P[k]? = some x → (udCells P)[k * 2]? = some (.string x.1) ∧ (udCells P)[k * 2 + 1]? = some (.string x.2) := by
    intro P
    induction P with
    | nil => intro k x hx; simp at hx
    | cons y P ih =>
      intro k x hx
      cases k with
      | zero => simp at hx; subst hx; exact ⟨rfl, rfl⟩
      | succ k =>
        have := ih k x (by simpa using hx)
        rw [show (k + 1) * 2 = k * 2 + 1 + 1 by omega]
        simpa [udCells] using this
  intro k x hx
  obtain ⟨h1, h2⟩ := key P k x hx
  refine ⟨a, rfl, h _ _ h1, ?_⟩
  have := h _ _ h2
  rw [← add_add] at this
  unfold Addr.add at this ⊢
  simpa using this
theorem us_of_own {w : World} {B : Nat} {v : Value} {P : List Ud} (h : w.ownsRow B 30 2 v P.length (udCells P)) (hP : ∀ x ∈ P, UOk x) (hl : P.length ≤ 1000000) : ∃ A c, v = .slice A P.length c ∧ Us w A P.length c P := by
  rcases h.2 with ⟨rfl, h0⟩ | ⟨g, cap, cur, rfl, hB, _, hc, _⟩
  · have : P = [] := List.eq_nil_of_length_eq_zero h0
    subst this
    exact ⟨none, 0, rfl, rfl, Nat.le_refl _, Nat.zero_le _, fun k x hx => by simp at hx, fun x hx => nomatch hx⟩
  · exact ⟨some ⟨g, 0, none⟩, cap, rfl, rfl, hc, by unfold maxLen; omega, uds_cells (h.cells (g := g) rfl), hP⟩
theorem udInfo : (Tryz.prog.info? 30).map (fun i => (i.zero, i.size, i.bytes)) = some (some (.agg #[.string ⟨#[]⟩, .string ⟨#[]⟩]), 2, 32) := by kernel_rfl
end Go.Proofs.YtbjbimabgfpdoaaGreatDoor
namespace Go.Proofs.YtbjbimabgfpdoaaGreatDoor
open Go.RowKit Go.Wk
set_option maxRecDepth 100000

/-- A row of the call's own: a uid, and those found. -/
structure RowU (w : World) (B : Nat) (v : Value) (m : Nat) (u : Ud) (L : List Ud) : Prop where
  len : m = L.length + 1
  own : w.ownsRow B 30 2 v m (udCells (u :: L))
theorem RowU.keep {w w' : World} {B m : Nat} {v : Value} {u : Ud} {L : List Ud} (h : RowU w B v m u L) (hb : Below w.heap.size w w') : RowU w' B v m u L := ⟨h.len, own_kept_below h.own hb⟩
theorem RowU.us {w : World} {B m : Nat} {v : Value} {u : Ud} {L : List Ud} (h : RowU w B v m u L) (hu : UOk u) (hL : ∀ x ∈ L, UOk x) (hl : L.length ≤ 1000) : ∃ A c, v = .slice A m c ∧ Us w A m c (u :: L) := by
  have e : m = (u :: L).length := by rw [h.len]; rfl
  have h2 := h.own
  rw [e] at h2 ⊢
  exact us_of_own h2 (fun x hx => by
    rcases List.mem_cons.1 hx with rfl | hx
    · exact hu
    · exact hL x hx) (by simp; omega)
theorem hadU_snoc1 (K : List Ud) (y x : Ud) : hadU (K ++ [y]) x = (hadU K x || decide (y = x)) := by
  unfold hadU
  rw [List.any_append]
  simp
theorem abv_ok {w : World} {A : Option Addr} {n c : Nat} {E : List En} (h : Es w A n c E) {u y : Ud} (hy : Abv (graphE E) u y) : UOk y := by
  have : ∀ p q, Stp (graphE E) p q → UOk q := fun p q ⟨e, he, _, h2⟩ => by
    obtain ⟨x, hx, rfl⟩ := List.mem_map.1 he
    exact (h.enok x hx).us.ok q h2
  induction hy with
  | one s => exact this _ _ s
  | more _ _ ih => exact ih
set_option maxHeartbeats 1000000 in
/-- with: one more, if it is not there behind the first. -/
theorem ref_with (B : Nat) (v : Value) (m : Nat) (z : Ud) (L : List Ud) (p : Ud) (w : World) (h : RowU w B v m z L) (hB : B ≤ w.heap.size) (hl : L.length ≤ 1000) (hz : UOk z) (hL : ∀ x ∈ L, UOk x) :
    Calls Tryz.prog 48 #[v, udV p] w fun e w' => ∃ v' m', e = .returned v' ∧ RowU w' B v' m' z (addU L p) ∧ w.grownBy w' v.ownBlock := by
  obtain ⟨i0, hi, hz0, hz1, hz2⟩ := info_parts udInfo
  obtain ⟨A, c, rfl, hus⟩ := h.us hz hL hl
  have HM := Lib.hid h.len
  have hm1 : m ≤ 1001 := by have := h.len; omega
  have hm2 : 1 ≤ m := by have := h.len; omega
  have HO := Lib.hid h
  have HU := Lib.hid hus
  have B0 := Lib.hid (below_box w (.cells #[.string p.1, .string p.2] 30))
  have P0 := Lib.hid (vr2_new w (.string p.1) (.string p.2) 30)
  clear h hus hz hL
  unfold udV
  go_enter Tryz.func48, Tryz.ntmps48
  go_wp2_with fail
  obtain ⟨w0, hw0⟩ : ∃ w0, w.alloc (.cells #[.string p.1, .string p.2] 30) = w0 := ⟨_, rfl⟩
  rw [hw0] at P0 B0 ⊢
  clear hw0
  go_loopw [5] (fun i wr => ∃ k : Nat, k ≤ L.length ∧ i = .int .i64 (k + 1 : Nat) ∧ Hid (hadU (L.take k) p = false) ∧ Hid (Below w.heap.size w wr) ∧ Hid (Vr2 wr w.heap.size (.string p.1) (.string p.2))) (fun i _ => m - (intOf i).toNat)
  case atStart => exact ⟨0, Nat.zero_le _, rfl, rfl, B0, P0⟩
  case round =>
    clear B0 P0
    obtain ⟨k, hk, rfl, hN, hB', hV⟩ := hrel
    by_cases hlt : k < L.length
    · have hkm : k + 1 < m := by have := HM.out; omega
      have HT := Lib.hid (hadU_take hlt p)
      obtain ⟨a, rfl, q0, q1⟩ := (HU.out.keep hB'.out).at_ (k + 1) L[k] (by simp [hlt])
      have v0 := cell_regrown hV.out.c0
      have v1 := cell_regrown hV.out.c1
      by_cases he : L[k] = p
      · have HY := Lib.hid (show addU L p = L from if_pos (hadU_iff.2 (he ▸ List.getElem_mem hlt)))
        rw [he] at q0 q1
        have k0 := cell_regrown q0
        have k1 := cell_regrown q1
        clear he q0 q1 HT
        go_wp2_with fail
        refine wp_region_quiet_below (by kernel_rfl) (by kernel_rfl) ?_
        repeat (first | go_big_quiet_step (fail) | quiet_step (fail))
        refine wpQuiet_nil ?_
        intro w1 hw'
        have B1 := Lib.hid (show Below wr.heap.size wr w1 by obtain ⟨⟨d, os⟩, rfl⟩ := hw'; exact below_regrown _ _ _)
        clear hw'
        have BX := bhid hB' B1 (Nat.le_refl _)
        clear k0 k1 v0 v1 hB' B1
        go_wp2_with fail
        go_ret
        exact ⟨_, m, rfl, by rw [HY.out]; exact HO.out.keep BX.out, grown_of_below BX.out _⟩
      · rw [decide_eq_false he, Bool.or_false, hN.out] at HT
        have k0 := cell_regrown q0
        have k1 := cell_regrown q1
        have hne := uid_ne he
        clear he q0 q1
        generalize L[k] = y at *
        rcases hne with h1 | ⟨h1, h2⟩
        · go_wp2_with fail
          refine wp_region_quiet_below (by kernel_rfl) (by kernel_rfl) ?_
          repeat (first | go_big_quiet_step (fail) | quiet_step (fail))
          refine wpQuiet_nil ?_
          intro w1 hw'
          have B1 := Lib.hid (show Below wr.heap.size wr w1 by obtain ⟨⟨d, os⟩, rfl⟩ := hw'; exact below_regrown _ _ _)
          clear hw'
          have BX := bhid hB' B1 (Nat.le_refl _)
          have VX := Lib.hid (hV.out.keep B1.out)
          clear k0 k1 v0 v1 hB' B1 hV
          go_wp2_with fail
          go_roundw
          case rel => exact ⟨k + 1, by omega, by go_num, HT, BX, VX⟩
          case measure => simp [intOf]; omega
        · go_wp2_with fail
          refine wp_region_quiet_below (by kernel_rfl) (by kernel_rfl) ?_
          repeat (first | go_big_quiet_step (fail) | quiet_step (fail))
          refine wpQuiet_nil ?_
          intro w1 hw'
          have B1 := Lib.hid (show Below wr.heap.size wr w1 by obtain ⟨⟨d, os⟩, rfl⟩ := hw'; exact below_regrown _ _ _)
          clear hw'
          have BX := bhid hB' B1 (Nat.le_refl _)
          have VX := Lib.hid (hV.out.keep B1.out)
          clear k0 k1 v0 v1 hB' B1 hV
          go_wp2_with fail
          go_roundw
          case rel => exact ⟨k + 1, by omega, by go_num, HT, BX, VX⟩
          case measure => simp [intOf]; omega
    · have hkm : ¬ k + 1 < m := by have := HM.out; omega
      have HN := Lib.hid (show addU L p = L ++ [p] by
        have e : hadU L p = false := by rw [← hN.out, List.take_of_length_le (by omega)]
        unfold addU; rw [e]; rfl)
      obtain ⟨c0, c1, -, -⟩ := hV.out
      have HC := Lib.hid (cells_new wr (udCells [p]) 30)
      have O1 := Lib.hid ((own_kept_below HO.out.own hB'.out).alloc (.cells (udCells [p]).toArray 30))
      have HB2 := hB'.out.size
      go_wp2_with (at_builtin; go_loud (refine wpList_append_own _ rfl _ _ 31 rfl B 30 i0 _ 2 32 Tryz.underlying31 hi hz0 hz1 hz2 rfl (by decide) _ m (udCells (z :: L)) rfl O1.out ⟨_, 0, none⟩ 1 1 (udCells [p]) rfl rfl HC.out (udCells_one _) ?c1 ?c2 ?c3 ?_))
      case c1 => unfold maxLen; omega
      case c2 => omega
      case c3 => simp; omega
      intro v1 w1 hown hgrow _
      have OW := Lib.hid hown
      have GW := Lib.hid (((grown_of_below hB'.out _).trans (World.grownBy_alloc wr _ _)).trans hgrow)
      clear hown hgrow O1 HC c0 c1
      go_wp2_with fail
      go_ret
      exact ⟨_, m + 1, rfl, ⟨by rw [HN.out, List.length_append, HM.out]; simp, by rw [HN.out, ← List.cons_append, udCells_append]; exact OW.out⟩, GW.out⟩
/-- What Ups tells. -/
def RUps (w : World) (E : List En) (u : Ud) (e : Ending) (w' : World) : Prop :=
  ∃ (A : Option Addr) (n c : Nat) (L : List Ud), e = .returned (.slice A n c) ∧ Us w' A n c L ∧ (∀ y, y ∈ L ↔ Abv (graphE E) u y) ∧ L.Nodup ∧ L.length ≤ 900 ∧ Below w.heap.size w w'
theorem rowu_one (w : World) (u : Ud) : RowU (w.alloc (.cells #[.string u.1, .string u.2] 30)) w.heap.size (.slice (some ⟨w.heap.size, 0, none⟩) 1 1) 1 u [] :=
  ⟨rfl, rfl, .inr ⟨_, 1, _, rfl, Nat.le_refl _, heap_alloc_new w _, Nat.le_refl _, by unfold maxLen; omega, rfl, rfl⟩⟩
theorem RowU.base {w : World} {B m : Nat} {v : Value} {u : Ud} {L : List Ud} (h : RowU w B v m u L) : ∀ g, v.ownBlock = some g → B ≤ g := own_base h.own
theorem graph_at {E : List En} {k : Nat} (h : k < E.length) (h' : k < (graphE E).length) : (graphE E)[k] = (E[k].u, E[k].ups) := by
  simp [graphE]
theorem graph_ups (E : List En) : (graphE E).flatMap (·.2) = allUps E := by
  unfold graphE allUps; rw [List.flatMap_map]
/-- What is behind the first. -/
theorem us_tail {w : World} {A : Option Addr} {m c : Nat} {u : Ud} {L : List Ud} (h : Us w A m c (u :: L)) : ∃ a, A = some a ∧ Us w (some (a.add 2)) (m - 1) (c - 1) L := by
  obtain ⟨a, e, -⟩ := h.at_ 0 u rfl
  have hl := h.len
  have hc := h.cap
  have hm := h.max
  rw [List.length_cons] at hl
  refine ⟨a, e, by omega, by omega, by omega, fun k x hx => ?_, fun x hx => h.ok x (by simp [hx])⟩
  obtain ⟨b, e2, q1, q2⟩ := h.at_ (k + 1) x (by simpa using hx)
  rw [e] at e2
  injection e2 with e2
  subst e2
  refine ⟨_, rfl, ?_⟩
  rw [add_add, show 2 + k * 2 = (k + 1) * 2 by omega]
  exact ⟨q1, q2⟩
set_option maxHeartbeats 8000000 in
theorem ref_Ups (A : Option Addr) (n c : Nat) (E : List En) (u : Ud) (w : World) (h : Es w A n c E) (hu : UOk u) (ha : (allUps E).length ≤ 900) :
    Calls Tryz.prog 18 #[.slice A n c, udV u, .int .i64 n] w (RUps w E u) := by
  have HG := Lib.hid (show n = (graphE E).length by rw [h.len, graphE, List.length_map])
  have HLE := Lib.hid (show ∀ (L L' : List Ud), Grw (graphE E) u L L' → L'.length ≤ 900 from fun L L' g => by
    have := g.len
    rw [graph_ups] at this
    omega)
  have HOK := Lib.hid (fun (L L' : List Ud) (g : Grw (graphE E) u L L') (y : Ud) (hy : y ∈ L') => abv_ok h (g.sound y hy))
  have HH := Lib.hid h
  have HL := Lib.hid h.len
  have HU := Lib.hid hu
  have hmax := h.max
  unfold maxLen at hmax
  clear h ha hu
  unfold udV
  go_enter Tryz.func18, Tryz.ntmps18
  go_wp2_with fail
  have B0 := Lib.hid (below_box w (.cells #[.string u.1, .string u.2] 30))
  have hsz : (w.alloc (.cells #[.string u.1, .string u.2] 30)).heap.size = w.heap.size + 1 := by simp
  obtain ⟨w0, hw0⟩ : ∃ w0, w.alloc (.cells #[.string u.1, .string u.2] 30) = w0 := ⟨_, rfl⟩
  rw [hw0] at B0 hsz ⊢
  rw [← hsz]
  clear hw0 hsz
  have R1 := Lib.hid (rowu_one w0 u)
  have B1 := bh B0 (below_box w0 (.cells #[.string u.1, .string u.2] 30))
  have HB0 := Lib.hid (show w.heap.size ≤ w0.heap.size from B0.out.size)
  have HB1 := Lib.hid (show w0.heap.size ≤ (w0.alloc (.cells #[.string u.1, .string u.2] 30)).heap.size by simp)
  obtain ⟨w1, hw1⟩ : ∃ w1, w0.alloc (.cells #[.string u.1, .string u.2] 30) = w1 := ⟨_, rfl⟩
  rw [hw1] at R1 B1 HB1 ⊢
  clear hw1 B0
  generalize w0.heap.size = b0 at *
  go_loopw [7, 8, 9, 11, 12, 13] (fun out f s _ _ _ wr => ∃ (t fr m : Nat) (L : List Ud), t ≤ n ∧ f = .int .i64 fr ∧ s = .int .i64 t ∧ fr ≤ m ∧ Hid (Bfs (graphE E) u t fr L) ∧ Hid (RowU wr b0 out m u L) ∧ Hid (Below w.heap.size w wr) ∧ Hid (b0 ≤ wr.heap.size)) (fun _ _ s _ _ _ _ => n - (intOf s).toNat)
  case atStart => exact ⟨0, 0, 1, [], Nat.zero_le _, rfl, rfl, Nat.zero_le _, Lib.hid (Bfs.start _ _), R1, B1, HB1⟩
  case round =>
    clear R1 B1 HB1
    obtain ⟨t, fr, m, L, ht, rfl, rfl, hfr, hF, hR, hB, hb0⟩ := hrel
    obtain ⟨A1, c1, hv1, hus1⟩ := hR.out.us HU.out (HOK.out _ _ hF.out.fnd) (Nat.le_trans (HLE.out _ _ hF.out.fnd) (by omega))
    have HU1 := Lib.hid hus1
    subst hv1
    clear hus1
    have HML := Lib.hid hR.out.len
    have hmb : m ≤ 901 := by have := hR.out.len; have := HLE.out _ _ hF.out.fnd; omega
    by_cases hlt : t < n
    · go_wp2_with fail
      go_loopw [7, 11, 12, 13] (fun out i _ _ wk => ∃ (i' m' : Nat) (L' : List Ud), i' ≤ m ∧ i = .int .i64 i' ∧ Hid (Mid1 (graphE E) u L i' L') ∧ Hid (RowU wk b0 out m' u L') ∧ Hid (Below w.heap.size w wk) ∧ Hid (b0 ≤ wk.heap.size)) (fun _ i _ _ _ => m - (intOf i).toNat)
      case atStart => exact ⟨fr, m, L, hfr, rfl, Lib.hid (Mid1.start hF.out), hR, hB, hb0⟩
      case round =>
        clear hR hB hb0 HU1
        obtain ⟨i', m', L', hi, rfl, hM1, hR, hB, hb0⟩ := hrel
        by_cases hli : i' < m
        · have hil : i' < (u :: L).length := by rw [List.length_cons]; have := HML.out; omega
          go_wp2_with fail
          go_loopw [7, 12, 13] (fun out k _ wk => ∃ (k' m2 : Nat) (L2 : List Ud), k' ≤ n ∧ k = .int .i64 k' ∧ Hid (Mid2 (graphE E) u (u :: L)[i'] L' k' L2) ∧ Hid (RowU wk b0 out m2 u L2) ∧ Hid (Below w.heap.size w wk) ∧ Hid (b0 ≤ wk.heap.size)) (fun _ k _ _ => n - (intOf k).toNat)
          case atStart => exact ⟨0, m', L', Nat.zero_le _, rfl, Lib.hid (Mid2.start hM1.out.grw), hR, hB, hb0⟩
          case round =>
            clear hR hB hb0
            obtain ⟨k', m2, L2, hk, rfl, hM2, hR, hB, hb0⟩ := hrel
            by_cases hlk : k' < n
            · have hkl : k' < E.length := by rw [← HL.out]; exact hlk
              have HGA := Lib.hid (graph_at hkl (by rw [← HG.out]; exact hlk))
              obtain ⟨A2, c2, hv2, hus2⟩ := hR.out.us HU.out (HOK.out _ _ hM2.out.grw) (Nat.le_trans (HLE.out _ _ hM2.out.grw) (by omega))
              subst hv2
              have HG2 := Lib.hid (hM1.out.grw.trans hM2.out.grw)
              obtain ⟨a2, ea2, z0, z1⟩ := hus2.at_ i' _ (HG2.out.get hil)
              have hm2 : m ≤ m2 := by
                have h1 := hR.out.len
                have h2 := HML.out
                obtain ⟨R, e⟩ := HG2.out.pre
                rw [e, List.length_append] at h1
                omega
              subst ea2
              have hc2 := hus2.cap
              have hl2 := HLE.out _ _ hM2.out.grw
              have HR2 := Lib.hid hR.out.len
              have HZ := Lib.hid (show (u :: L)[i'] = u ∨ (u :: L)[i'] ∈ L2 from by
                rcases List.mem_cons.1 (List.getElem_mem hil) with e | e
                · exact .inl e
                · exact .inr (HG2.out.sub _ e))
              clear hus2
              obtain ⟨z, hz⟩ : ∃ z, z = (u :: L)[i'] := ⟨_, rfl⟩
              rw [← hz] at z0 z1 HZ hM2
              have HZE := Lib.hid hz
              clear hz
              obtain ⟨a, rfl, q0, q1, q2, -, hxo⟩ := (HH.out.keep hB.out).at_ k' _ (List.getElem?_eq_getElem hkl)
              obtain ⟨x, hx⟩ : ∃ x, x = E[k'] := ⟨_, rfl⟩
              rw [← hx] at q0 q1 q2 hxo HGA
              have HXE := Lib.hid (show E[k']? = some x by rw [List.getElem?_eq_getElem hkl, hx])
              clear hx
              have v0 := cell_regrown z0
              have v1 := cell_regrown z1
              by_cases he : x.u = z
              · have HE := Lib.hid he
                rw [he] at q0 q1
                have k0 := cell_regrown q0
                have k1 := cell_regrown q1
                clear q0 q1 z0 z1 he
                go_wp2_with fail
                refine wp_region_quiet_below (by kernel_rfl) (by kernel_rfl) ?_
                repeat (first | go_big_quiet_step (fail) | quiet_step (fail))
                refine wpQuiet_nil ?_
                intro w5 hw'
                have b5 := Lib.hid (show Below wr.heap.size wr w5 by obtain ⟨⟨d, os⟩, rfl⟩ := hw'; exact below_regrown _ _ _)
                clear hw'
                have B5 := bh hB b5.out
                have R5 := Lib.hid (hR.out.keep b5.out)
                have HB5 := Lib.hid (Nat.le_trans hb0.out b5.out.size)
                have q2' := cell_keep b5.out q2
                have HU5 := Lib.hid (hxo.us.keep b5.out)
                have HUL := Lib.hid hxo.us.len
                have hum := hxo.us.max
                unfold maxLen at hum
                clear k0 k1 v0 v1 hB hR hb0 b5 q2 hxo HU5 q2'
                go_wp2_with fail
                go_loopw [7, 13] (fun out p wk => ∃ (p' m3 : Nat) (L3 : List Ud), p' ≤ x.un ∧ p = .int .i64 p' ∧ Hid (Mid3 (graphE E) u x.ups L2 p' L3) ∧ Hid (RowU wk b0 out m3 u L3) ∧ Hid (Below w.heap.size w wk) ∧ Hid (b0 ≤ wk.heap.size)) (fun _ p _ => x.un - (intOf p).toNat)
                case atStart => exact ⟨0, m2, L2, Nat.zero_le _, rfl, Lib.hid (Mid3.start hM2.out.grw), R5, B5, HB5⟩
                case round =>
                  clear R5 B5 HB5
                  obtain ⟨p', m3, L3, hp, rfl, hM3, hR, hB, hb0⟩ := hrel
                  obtain ⟨a', ea, -, -, q2, -, hxo⟩ := (HH.out.keep hB.out).at_ k' x HXE.out
                  injection ea with ea
                  subst ea
                  by_cases hlp : p' < x.un
                  · have hlp' : p' < x.ups.length := by rw [← HUL.out]; exact hlp
                    obtain ⟨b, eb, q3, q4⟩ := hxo.us.at_ p' _ (List.getElem?_eq_getElem hlp')
                    rw [eb] at q2
                    have HM4 := Lib.hid (hM3.out.next hlp' HZ.out (show Stp (graphE E) z x.ups[p'] from ⟨(x.u, x.ups), by rw [← HGA.out]; exact List.getElem_mem _, HE.out, List.getElem_mem hlp'⟩))
                    have HK := Lib.hid (ref_with b0 u7 m3 u L3 x.ups[p'] wr hR.out hb0.out (Nat.le_trans (HLE.out _ _ hM3.out.grw) (by omega)) HU.out (HOK.out _ _ hM3.out.grw))
                    generalize x.ups[p'] = p at *
                    unfold udV at HK
                    clear hxo eb
                    go_wp2_with fail
                    refine HK.out.mono ?_
                    rintro e w6 ⟨v6, m6, rfl, hrow, hgr⟩
                    have R6 := Lib.hid hrow
                    have B6 := Lib.hid (hB.out.grown hgr hB.out.size (fun g hg => Nat.le_trans HB0.out (hR.out.base g hg)))
                    have HB6 := Lib.hid (Nat.le_trans hb0.out hgr.size)
                    clear hrow hgr HK hR hB hb0 q2 q3 q4
                    go_wp2_with fail
                    go_roundw
                    case rel => exact ⟨p' + 1, m6, addU L3 p, by omega, by go_num, HM4, R6, B6, HB6⟩
                    case measure => simp [intOf]; omega
                  · have HM4 := Lib.hid (hM2.out.next hM3.out.grw (by rw [← HG.out]; exact hlk) (fun _ => by rw [HGA.out]; exact hM3.out.done (by rw [← HUL.out]; omega)))
                    rw [HZE.out] at HM4
                    clear hxo
                    go_wp2_with fail
                    go_roundw
                    case rel => exact ⟨k' + 1, m3, L3, by omega, by go_num, HM4, hR, hB, hb0⟩
                    case measure => simp [intOf]; omega
              · have HN := Lib.hid he
                have k0 := cell_regrown q0
                have k1 := cell_regrown q1
                have hne := uid_ne he
                clear q0 q1 q2 z0 z1 he hxo
                have HM3 := Lib.hid (hM2.out.next hM2.out.grw.self (by rw [← HG.out]; exact hlk) (fun e => absurd (by rw [← e, HGA.out]) HN.out))
                rcases hne with h1 | ⟨h1, h2⟩
                · rw [HZE.out] at HM3
                  go_wp2_with fail
                  refine wp_region_quiet_below (by kernel_rfl) (by kernel_rfl) ?_
                  repeat (first | go_big_quiet_step (fail) | quiet_step (fail))
                  refine wpQuiet_nil ?_
                  intro w5 hw'
                  have b5 := Lib.hid (show Below wr.heap.size wr w5 by obtain ⟨⟨d, os⟩, rfl⟩ := hw'; exact below_regrown _ _ _)
                  clear hw'
                  have B5 := bh hB b5.out
                  have R5 := Lib.hid (hR.out.keep b5.out)
                  have HB5 := Lib.hid (Nat.le_trans hb0.out b5.out.size)
                  clear k0 k1 v0 v1 hB hR hb0 b5
                  go_wp2_with fail
                  go_roundw
                  case rel => exact ⟨k' + 1, m2, L2, by omega, by go_num, HM3, R5, B5, HB5⟩
                  case measure => simp [intOf]; omega
                · rw [HZE.out] at HM3
                  go_wp2_with fail
                  refine wp_region_quiet_below (by kernel_rfl) (by kernel_rfl) ?_
                  repeat (first | go_big_quiet_step (fail) | quiet_step (fail))
                  refine wpQuiet_nil ?_
                  intro w5 hw'
                  have b5 := Lib.hid (show Below wr.heap.size wr w5 by obtain ⟨⟨d, os⟩, rfl⟩ := hw'; exact below_regrown _ _ _)
                  clear hw'
                  have B5 := bh hB b5.out
                  have R5 := Lib.hid (hR.out.keep b5.out)
                  have HB5 := Lib.hid (Nat.le_trans hb0.out b5.out.size)
                  clear k0 k1 v0 v1 hB hR hb0 b5
                  go_wp2_with fail
                  go_roundw
                  case rel => exact ⟨k' + 1, m2, L2, by omega, by go_num, HM3, R5, B5, HB5⟩
                  case measure => simp [intOf]; omega
            · have HM4 := Lib.hid (hM1.out.next hM2.out.grw hil (hM2.out.done (by rw [← HG.out]; omega)))
              go_wp2_with fail
              go_roundw
              case rel => exact ⟨i' + 1, m2, L2, by omega, by go_num, HM4, hR, hB, hb0⟩
              case measure => simp [intOf]; omega
        · have HM5 := Lib.hid (show Bfs (graphE E) u (t + 1) m L' by
            have := Mid1.done hF.out hM1.out (by rw [List.length_cons, ← HML.out]; omega)
            rwa [← HML.out] at this)
          have hmm : m ≤ m' := by
            have h1 := hR.out.len
            have h2 := HML.out
            obtain ⟨R, e⟩ := hM1.out.grw.pre
            rw [e, List.length_append] at h1
            omega
          go_wp2_with fail
          go_roundw
          case rel => exact ⟨t + 1, m, m', L', by omega, rfl, by go_num, hmm, HM5, hR, hB, hb0⟩
          case measure => simp [intOf]; omega
    · have HALL := Lib.hid (hF.out.all (by rw [← HG.out]; omega))
      obtain ⟨a1, ea1, hus2⟩ := us_tail HU1.out
      have HU2 := Lib.hid hus2
      have HND := Lib.hid hF.out.fnd.nd
      have HLL := Lib.hid (HLE.out _ _ hF.out.fnd)
      have hm1 : 1 ≤ m := by have := HML.out; omega
      have hcm := HU1.out.cap
      subst ea1
      clear hus2
      go_wp2_with fail
      · rename_i h1
        have hL0 : L = [] := List.eq_nil_of_length_eq_zero (by have := HML.out; omega)
        go_ret
        exact ⟨_, _, _, L, rfl, ⟨by have := HML.out; omega, by omega, by unfold maxLen; omega, fun k x hx => by rw [hL0] at hx; simp at hx, fun x hx => by rw [hL0] at hx; cases hx⟩, HALL.out, HND.out, HLL.out, hB.out⟩
      · go_ret
        exact ⟨_, m - 1, c1 - 1, L, rfl, by simpa [Addr.add] using HU2.out, HALL.out, HND.out, HLL.out, hB.out⟩
set_option maxHeartbeats 1000000 in
/-- Is one above another one, within so many steps. -/
theorem ref_Over (A : Option Addr) (n c : Nat) (E : List En) (u t : Ud) (w : World) (h : Es w A n c E) (hu : UOk u) (ha : (allUps E).length ≤ 900) :
    Calls Tryz.prog 19 #[.slice A n c, udV u, udV t, .int .i64 n] w fun e w' => (∃ b : Bool, e = .returned (.bool b) ∧ (b = true ↔ Abv (graphE E) u t)) ∧ Below w.heap.size w w' := by
  have HK := Lib.hid (fun w' hb => ref_Ups A n c E u w' (h.keep (w' := w') hb) hu ha)
  clear h hu ha
  unfold udV at HK ⊢
  go_enter Tryz.func19, Tryz.ntmps19
  go_wp2_with fail
  have B0 := Lib.hid (below_box w (.cells #[.string u.1, .string u.2] 30))
  have hsz : (w.alloc (.cells #[.string u.1, .string u.2] 30)).heap.size = w.heap.size + 1 := by simp
  obtain ⟨w0, hw0⟩ : ∃ w0, w.alloc (.cells #[.string u.1, .string u.2] 30) = w0 := ⟨_, rfl⟩
  rw [hw0] at B0 hsz ⊢
  rw [← hsz]
  clear hw0 hsz
  have P1 := Lib.hid (vr2_new w0 (.string t.1) (.string t.2) 30)
  have B1 := bh B0 (below_box w0 (.cells #[.string t.1, .string t.2] 30))
  obtain ⟨w1, hw1⟩ : ∃ w1, w0.alloc (.cells #[.string t.1, .string t.2] 30) = w1 := ⟨_, rfl⟩
  rw [hw1] at P1 B1 ⊢
  clear hw1 B0
  refine (HK.out w1 B1.out).mono ?_
  rintro e w2 ⟨A2, n2, c2, L, rfl, hus, hall, hnd, hll, b2⟩
  have P2 := Lib.hid (P1.out.keep b2)
  have B2 := bh B1 b2
  have HU := Lib.hid hus
  have HL := Lib.hid hus.len
  have HALL := Lib.hid hall
  have hmx : n2 ≤ 900 := by rw [hus.len]; exact hll
  clear hus hall hnd b2 HK P1 B1 hll
  go_wp2_with fail
  go_loopw [10] (fun i wr => ∃ k : Nat, k ≤ n2 ∧ i = .int .i64 k ∧ Hid (t ∉ L.take k) ∧ Hid (Below w2.heap.size w2 wr)) (fun i _ => n2 - (intOf i).toNat)
  case atStart => exact ⟨0, Nat.zero_le _, rfl, Lib.hid (by simp), Below.refl _ _⟩
  case round =>
    obtain ⟨k, hk, rfl, hN, hB⟩ := hrel
    by_cases hlt : k < n2
    · have hlt' : k < L.length := by rw [← HL.out]; exact hlt
      have HTK := Lib.hid (List.take_succ_eq_append_getElem hlt')
      have HM := Lib.hid (List.getElem_mem hlt')
      obtain ⟨a, rfl, q0, q1⟩ := (HU.out.keep hB.out).at_ k _ (List.getElem?_eq_getElem hlt')
      obtain ⟨d0, d1, -, -⟩ := P2.out.keep hB.out
      have BW := bh B2 hB.out
      generalize L[k] = y at *
      have k0 := cell_regrown q0
      have k1 := cell_regrown q1
      have v0 := cell_regrown d0
      have v1 := cell_regrown d1
      by_cases he : y = t
      · have HY := Lib.hid (show Abv (graphE E) u t from (HALL.out t).1 (he ▸ HM.out))
        rw [he] at k0 k1
        clear he q0 q1 d0 d1 HM HTK
        go_wp2_with fail
        refine wp_region_quiet_below (by kernel_rfl) (by kernel_rfl) ?_
        repeat (first | go_big_quiet_step (fail) | quiet_step (fail))
        refine wpQuiet_nil ?_
        intro w5 hw'
        have b5 := Lib.hid (show Below wr.heap.size wr w5 by obtain ⟨⟨d, os⟩, rfl⟩ := hw'; exact below_regrown _ _ _)
        clear hw'
        have B5 := bh BW b5.out
        clear k0 k1 v0 v1
        go_wp2_with fail
        go_ret
        exact ⟨⟨true, rfl, fun _ => HY.out, fun _ => rfl⟩, B5.out⟩
      · have HN2 := Lib.hid (show t ∉ L.take (k + 1) from fun hm => by
          rw [HTK.out] at hm
          rcases List.mem_append.1 hm with hm | hm
          · exact hN.out hm
          · simp only [List.mem_cons, List.not_mem_nil, or_false] at hm; exact he hm.symm)
        have hne := uid_ne he
        clear he q0 q1 d0 d1 HM HTK
        rcases hne with h1 | ⟨h1, h2⟩
        · go_wp2_with fail
          refine wp_region_quiet_below (by kernel_rfl) (by kernel_rfl) ?_
          repeat (first | go_big_quiet_step (fail) | quiet_step (fail))
          refine wpQuiet_nil ?_
          intro w5 hw'
          have b5 := Lib.hid (show Below wr.heap.size wr w5 by obtain ⟨⟨d, os⟩, rfl⟩ := hw'; exact below_regrown _ _ _)
          clear hw'
          have B5 := bhid hB b5 (Nat.le_refl _)
          clear k0 k1 v0 v1
          go_wp2_with fail
          go_roundw
          case rel => exact ⟨k + 1, by omega, by go_num, HN2, B5⟩
          case measure => simp [intOf]; omega
        · go_wp2_with fail
          refine wp_region_quiet_below (by kernel_rfl) (by kernel_rfl) ?_
          repeat (first | go_big_quiet_step (fail) | quiet_step (fail))
          refine wpQuiet_nil ?_
          intro w5 hw'
          have b5 := Lib.hid (show Below wr.heap.size wr w5 by obtain ⟨⟨d, os⟩, rfl⟩ := hw'; exact below_regrown _ _ _)
          clear hw'
          have B5 := bhid hB b5 (Nat.le_refl _)
          clear k0 k1 v0 v1
          go_wp2_with fail
          go_roundw
          case rel => exact ⟨k + 1, by omega, by go_num, HN2, B5⟩
          case measure => simp [intOf]; omega
    · have HY := Lib.hid (show ¬ Abv (graphE E) u t from fun h => hN.out (by rw [List.take_of_length_le (by rw [← HL.out]; omega)]; exact (HALL.out t).2 h))
      have BW := bh B2 hB.out
      go_wp2_with fail
      go_ret
      exact ⟨⟨false, rfl, fun h => (nomatch h), fun h => absurd h HY.out⟩, BW.out⟩
end Go.Proofs.YtbjbimabgfpdoaaGreatDoor
namespace Go.Proofs.YtbjbimabgfpdoaaGreatDoor
open Go.RowKit Go.Wk
set_option maxRecDepth 100000

theorem ref_uidF (u : Ud) (hu : u.1.size ≤ maxLen ∧ u.2.size ≤ maxLen) (w : World) :
    Calls Tryz.prog 31 #[.agg #[.string u.1, .string u.2]] w fun e w' => e = .returned (.int .i64 (uidFault (u.1, u.2))) ∧ Below w.heap.size w w' := ref_UidFault u.1 u.2 w hu.1 hu.2
set_option maxHeartbeats 4000000 in
theorem ref_entityFault (x : En) (w : World) (h : EnOk w x) :
    Calls Tryz.prog 32 #[x.v] w fun e w' => e = .returned (.int .i64 (entF x)) ∧ Below w.heap.size w w' := by
  have V0 := Lib.hid (vr4_new w x 36)
  obtain ⟨u, UA, un, uc, ups, NA, nn, nc, P⟩ := x
  obtain ⟨-, -, hus, hns⟩ := h
  have KU := Lib.hid ref_uidF
  have KV := Lib.hid (fun w' hb => ref_ValueFault _ _ _ _ w' (hns.keep (w' := w') hb))
  have HU := Lib.hid hus
  have HN := Lib.hid hns
  have B0 := Lib.hid (below_box w (.cells #[.string u.1, .string u.2, .slice UA un uc, .slice NA nn nc] 36))
  have hlen := hus.len
  have hcap := hus.cap
  dsimp only at hlen hcap V0 KV HU HN
  clear hus hns
  unfold En.v
  dsimp only
  by_cases h6 : 6 < un
  · have HE := Lib.hid (show entF ⟨u, UA, un, uc, ups, NA, nn, nc, P⟩ = 4 by unfold entF; rw [if_pos (by dsimp only; omega)])
    rw [HE.out]
    clear hlen
    go_enter Tryz.func32, Tryz.ntmps32
    go_wp2_with fail
    go_ret
    exact ⟨rfl, B0.out⟩
  · have HE := Lib.hid (show entF ⟨u, UA, un, uc, ups, NA, nn, nc, P⟩ = if upsFault [] ups = 0 then (if valFault P = 0 then (if headOp P = 6 then 0 else 2) else valFault P) else upsFault [] ups by unfold entF; rw [if_neg (by dsimp only; omega)])
    generalize entF ⟨u, UA, un, uc, ups, NA, nn, nc, P⟩ = EF at *
    have HL := Lib.hid hlen
    have hd : decide ((6 : Int) < (un : Int)) = false := decide_eq_false (by omega)
    clear hlen
    go_enter Tryz.func32, Tryz.ntmps32
    go_wp2_with fail
    obtain ⟨w0, hw0⟩ : ∃ w0, w.alloc (.cells #[.string u.1, .string u.2, .slice UA un uc, .slice NA nn nc] 36) = w0 := ⟨_, rfl⟩
    rw [hw0] at V0 B0 ⊢
    clear hw0
    go_loopw [3, 5] (fun i _ wr => ∃ k : Nat, k ≤ un ∧ i = .int .i64 k ∧ Hid (upsFault [] ups = upsFault (ups.take k) (ups.drop k)) ∧ Hid (Below w.heap.size w wr) ∧ Hid (Vr4 wr w.heap.size ⟨u, UA, un, uc, ups, NA, nn, nc, P⟩)) (fun i _ _ => un - (intOf i).toNat)
    case atStart => exact ⟨0, Nat.zero_le _, rfl, rfl, B0, V0⟩
    case round =>
      clear B0 V0
      obtain ⟨k, hk, rfl, hF, hB, hV⟩ := hrel
      obtain ⟨c0, c1, c2, c3⟩ := hV.out
      dsimp only at c0 c1 c2 c3
      by_cases hlt : k < un
      · have hlt' : k < ups.length := by rw [← HL.out]; exact hlt
        have HS := Lib.hid (ups_step hlt')
        obtain ⟨a, rfl, q0, q1⟩ := (HU.out.at_.keep hB.out) k _ (List.getElem?_eq_getElem hlt')
        have hok := HU.out.ok _ (List.getElem_mem hlt')
        have K1 := Lib.hid (KU.out ups[k] hok wr)
        have HXK := Lib.hid (List.getElem?_eq_getElem hlt')
        generalize ups[k] = p at *
        go_wp2_with fail
        refine K1.out.mono ?_
        rintro e w2 ⟨rfl, b2⟩
        have B2 := bh hB b2
        have V2 := Lib.hid (hV.out.keep b2)
        clear K1 b2 hB hV c0 c1 c2 c3 q0 q1
        obtain ⟨c0, c1, c2, c3⟩ := V2.out
        dsimp only at c0 c1 c2 c3
        by_cases hu : uidFault (p.1, p.2) = 0
        · have hu' : uidFault p = 0 := hu
          rw [hu]
          rw [if_pos hu'] at HS
          clear hu hu'
          go_wp2_with fail
          go_loopw [5] (fun j wj => ∃ q : Nat, q ≤ k ∧ j = .int .i64 q ∧ Hid (hadU (ups.take q) p = false) ∧ Hid (Below w2.heap.size w2 wj)) (fun j _ => k - (intOf j).toNat)
          case atStart => exact ⟨0, Nat.zero_le _, rfl, Lib.hid rfl, Below.refl _ _⟩
          case round =>
            clear c0 c1 c2 c3
            obtain ⟨q, hq, rfl, hH, hJ⟩ := hrel
            have BJ := bh B2 hJ.out
            have VJ := Lib.hid (V2.out.keep hJ.out)
            obtain ⟨c0, c1, c2, c3⟩ := VJ.out
            dsimp only at c0 c1 c2 c3
            by_cases hlq : q < k
            · have hlq' : q < ups.length := by omega
              have HT := Lib.hid (hadU_take hlq' p)
              obtain ⟨a', ea, q0, q1⟩ := (HU.out.at_.keep BJ.out) q _ (List.getElem?_eq_getElem hlq')
              injection ea with ea
              subst ea
              obtain ⟨a', ea, r0, r1⟩ := (HU.out.at_.keep BJ.out) k _ HXK.out
              injection ea with ea
              subst ea
              have HM := Lib.hid (show ups[q] = p → hadU (ups.take k) p = true from fun e => hadU_iff.2 (by
                rw [← e]
                exact List.mem_take_iff_getElem.2 ⟨q, by omega, rfl⟩))
              generalize ups[q] = y at *
              have v0 := cell_regrown r0
              have v1 := cell_regrown r1
              have k2 := cell_regrown c2
              by_cases he : y = p
              · have HE2 := Lib.hid (show EF = 6 by
                  have := HS.out
                  rw [HM.out he, if_pos rfl] at this
                  rw [HE.out, hF.out, this]; rfl)
                rw [he] at q0 q1
                have k0 := cell_regrown q0
                have k1 := cell_regrown q1
                clear he q0 q1 r0 r1 HT HM HS hF
                go_wp2_with fail
                refine wp_region_quiet_below (by kernel_rfl) (by kernel_rfl) ?_
                repeat (first | go_big_quiet_step (fail) | quiet_step (fail))
                refine wpQuiet_nil ?_
                intro w5 hw'
                have b5 := Lib.hid (show Below wr.heap.size wr w5 by obtain ⟨⟨d, os⟩, rfl⟩ := hw'; exact below_regrown _ _ _)
                clear hw'
                have B5 := bh BJ b5.out
                clear k0 k1 k2 v0 v1
                go_wp2_with fail
                go_ret
                exact ⟨ret_i64 HE2.out.symm, B5.out⟩
              · rw [decide_eq_false he, Bool.or_false, hH.out] at HT
                have hne := uid_ne he
                have k0 := cell_regrown q0
                have k1 := cell_regrown q1
                clear he q0 q1 r0 r1 HM
                rcases hne with h1 | ⟨h1, h2⟩
                · go_wp2_with fail
                  refine wp_region_quiet_below (by kernel_rfl) (by kernel_rfl) ?_
                  repeat (first | go_big_quiet_step (fail) | quiet_step (fail))
                  refine wpQuiet_nil ?_
                  intro w5 hw'
                  have b5 := Lib.hid (show Below wr.heap.size wr w5 by obtain ⟨⟨d, os⟩, rfl⟩ := hw'; exact below_regrown _ _ _)
                  clear hw'
                  have B5 := bhid hJ b5 (Nat.le_refl _)
                  clear k0 k1 k2 v0 v1
                  go_wp2_with fail
                  go_roundw
                  case rel => exact ⟨q + 1, by omega, by go_num, HT, B5⟩
                  case measure => simp [intOf]; omega
                · go_wp2_with fail
                  refine wp_region_quiet_below (by kernel_rfl) (by kernel_rfl) ?_
                  repeat (first | go_big_quiet_step (fail) | quiet_step (fail))
                  refine wpQuiet_nil ?_
                  intro w5 hw'
                  have b5 := Lib.hid (show Below wr.heap.size wr w5 by obtain ⟨⟨d, os⟩, rfl⟩ := hw'; exact below_regrown _ _ _)
                  clear hw'
                  have B5 := bhid hJ b5 (Nat.le_refl _)
                  clear k0 k1 k2 v0 v1
                  go_wp2_with fail
                  go_roundw
                  case rel => exact ⟨q + 1, by omega, by go_num, HT, B5⟩
                  case measure => simp [intOf]; omega
            · have HF := Lib.hid (show upsFault [] ups = upsFault (ups.take (k + 1)) (ups.drop (k + 1)) by
                have h1 := HS.out
                have h2 := hH.out
                rw [show q = k by omega] at h2
                rw [h2, if_neg (by decide)] at h1
                exact hF.out.trans h1)
              clear HS hF
              go_wp2_with fail
              go_roundw
              case rel => exact ⟨k + 1, by omega, by go_num, HF, BJ, VJ⟩
              case measure => simp [intOf]; omega
        · have hu' : uidFault p ≠ 0 := hu
          rw [if_neg hu'] at HS
          have HE2 := Lib.hid (show EF = uidFault (p.1, p.2) by rw [HE.out, hF.out, HS.out, if_neg hu'])
          have hun : (uidFault (p.1, p.2) != 0) = true := by rw [bne_iff_ne]; exact hu
          clear hu hu' HS hF
          generalize uidFault (p.1, p.2) = f at *
          go_wp2_with fail
          go_ret
          exact ⟨ret_i64 HE2.out.symm, B2.out⟩
      · have HF := Lib.hid (show upsFault [] ups = 0 by rw [hF.out, List.drop_of_length_le (by rw [← HL.out]; omega)]; rfl)
        have HE2 := Lib.hid (show EF = if valFault P = 0 then (if headOp P = 6 then 0 else 2) else valFault P by rw [HE.out, if_pos HF.out])
        clear hF
        go_wp2_with fail
        refine (KV.out wr hB.out).mono ?_
        rintro e w2 ⟨rfl, b2⟩
        have B2 := bh hB b2
        have V2 := Lib.hid (hV.out.keep b2)
        clear hB hV c0 c1 c2 c3 b2
        by_cases hv : valFault P = 0
        · have hpos := (isV_zero.1 hv).2.pos
          obtain ⟨a, rfl, D⟩ := (HN.out.at_.keep B2.out).nd hpos
          rw [show a.add (0 * 4) = a from rfl] at D
          have hop : headOp P = P[0].op := headOp_at hpos
          have hn0 : 0 < nn := by rw [HN.out.len]; exact hpos
          rw [hv]
          rw [if_pos hv, hop] at HE2
          obtain ⟨d0, -, -, -⟩ := D
          obtain ⟨op, ho⟩ : ∃ op, op = P[0].op := ⟨_, rfl⟩
          rw [← ho] at d0 HE2
          have e3 := V2.out.c3
          dsimp only at e3
          clear hv hop ho
          by_cases h6o : op = 6
          · rw [if_pos h6o] at HE2
            subst h6o
            go_wp2_with fail
            go_ret
            exact ⟨ret_i64 HE2.out.symm, B2.out⟩
          · rw [if_neg h6o] at HE2
            have h6i : (op != 6) = true := by simp; exact h6o
            clear h6o
            go_wp2_with fail
            go_ret
            exact ⟨ret_i64 HE2.out.symm, B2.out⟩
        · rw [if_neg hv] at HE2
          have hv0 : (valFault P == 0) = false := by simp; exact hv
          clear hv
          generalize valFault P = f at *
          go_wp2_with fail
          go_ret
          exact ⟨ret_i64 HE2.out.symm, B2.out⟩
theorem ents_ups {L : List En} {M : List En} (h : entsFault M L = 0) : (allUps L).length ≤ 6 * L.length := allUps_len L fun x hx => ((ents_ok L M h).1 x hx).2
open Classical in
/-- Is one above another one. -/
noncomputable def abvB (E : List En) (u t : Ud) : Bool := decide (Abv (graphE E) u t)
theorem abvB_iff {E : List En} {u t : Ud} : abvB E u t = true ↔ Abv (graphE E) u t := by unfold abvB; exact @decide_eq_true_iff _ (_)
theorem ref_OverB (A : Option Addr) (n c : Nat) (E : List En) (u t : Ud) (w : World) (h : Es w A n c E) (hu : UOk u) (ha : (allUps E).length ≤ 900) :
    Calls Tryz.prog 19 #[.slice A n c, udV u, udV t, .int .i64 n] w fun e w' => e = .returned (.bool (abvB E u t)) ∧ Below w.heap.size w w' :=
  (ref_Over A n c E u t w h hu ha).mono fun e w' ⟨⟨b, he, hb⟩, h2⟩ => ⟨by rw [he, show b = abvB E u t from Bool.eq_iff_iff.2 (hb.trans abvB_iff.symm)], h2⟩
set_option maxHeartbeats 4000000 in
theorem ref_StoreFault (A : Option Addr) (n c : Nat) (E : List En) (w : World) (h : Es w A n c E) :
    Calls Tryz.prog 8 #[.slice A n c] w fun e w' => e = .returned (.int .i64 (storeF E)) ∧ Below w.heap.size w w' := by
  have hlen := h.len
  by_cases h16 : 16 < n
  · have HE := Lib.hid (show storeF E = 4 by unfold storeF; rw [if_pos (by omega)])
    rw [HE.out]
    clear hlen h
    go_enter Tryz.func8, Tryz.ntmps8
    go_wp2_with fail
    go_ret
    exact ⟨rfl, Below.refl _ _⟩
  · have HE := Lib.hid (show storeF E = _ by unfold storeF; rw [if_neg (by omega)])
    generalize storeF E = SF at *
    have HH := Lib.hid h
    have HUO := Lib.hid h.uok
    have HL := Lib.hid hlen
    have hd : decide ((16 : Int) < (n : Int)) = false := decide_eq_false (by omega)
    clear hlen h
    go_enter Tryz.func8, Tryz.ntmps8
    go_wp2_with fail
    go_loopw [3, 4, 5] (fun i _ _ wr => ∃ k : Nat, k ≤ n ∧ i = .int .i64 k ∧ Hid (entsFault [] E = entsFault (E.take k) (E.drop k)) ∧ Hid (Below w.heap.size w wr)) (fun i _ _ _ => n - (intOf i).toNat)
    case atStart => exact ⟨0, Nat.zero_le _, rfl, rfl, Lib.hid (Below.refl _ _)⟩
    case round =>
      obtain ⟨k, hk, rfl, hF, hB⟩ := hrel
      by_cases hlt : k < n
      · have hlt' : k < E.length := by rw [← HL.out]; exact hlt
        have HS := Lib.hid (ents_step hlt')
        have HXE := Lib.hid (List.getElem?_eq_getElem hlt')
        obtain ⟨a, rfl, q0, q1, q2, q3, hxo⟩ := (HH.out.at_.keep hB.out) k _ (List.getElem?_eq_getElem hlt')
        have hok := HUO.out _ (List.getElem_mem hlt')
        generalize E[k] = x at *
        have KU := Lib.hid (ref_uidF x.u hok wr)
        have KE := Lib.hid (fun w' hb => ref_entityFault x w' (hxo.keep (w' := w') hb))
        unfold En.v at KE
        have HXO := Lib.hid hxo
        clear hxo hok
        go_wp2_with fail
        refine KU.out.mono ?_
        rintro e w2 ⟨rfl, b2⟩
        have B2 := bh hB b2
        have KE2 := Lib.hid (fun w' (hb : Below w2.heap.size w2 w') => KE.out w' (b2.trans (hb.mono b2.size)))
        clear KU KE b2 hB q0 q1 q2 q3
        by_cases hu : uidFault x.u = 0
        · have hu' : uidFault (x.u.1, x.u.2) = 0 := hu
          rw [if_pos hu] at HS
          rw [hu']
          clear hu hu'
          go_wp2_with fail
          go_loopw [4, 5] (fun e j wj => ∃ q : Nat, q ≤ k ∧ j = .int .i64 q ∧ Hid ((e = .int .i64 0 ∧ hadE (E.take q) x.u = false) ∨ (e = .int .i64 6 ∧ hadE (E.take k) x.u = true)) ∧ Hid (Below w2.heap.size w2 wj)) (fun _ j _ => k - (intOf j).toNat)
          case atStart => exact ⟨0, Nat.zero_le _, rfl, Lib.hid (.inl ⟨rfl, rfl⟩), Below.refl _ _⟩
          case round =>
            obtain ⟨q, hq, rfl, hH, hJ⟩ := hrel
            have BJ := bh B2 hJ.out
            rcases hH.out with ⟨rfl, hN⟩ | ⟨rfl, hY⟩
            · by_cases hlq : q < k
              · have hlq' : q < E.length := by omega
                have HT := Lib.hid (hadE_take hlq' x.u)
                obtain ⟨a', ea, z0, z1, -, -, -⟩ := (HH.out.at_.keep BJ.out) q _ (List.getElem?_eq_getElem hlq')
                injection ea with ea
                subst ea
                obtain ⟨a', ea, r0, r1, -, -, -⟩ := (HH.out.at_.keep BJ.out) k x HXE.out
                injection ea with ea
                subst ea
                have HM := Lib.hid (show E[q].u = x.u → hadE (E.take k) x.u = true from fun e => hadE_iff.2 ⟨E[q], List.mem_take_iff_getElem.2 ⟨q, by omega, rfl⟩, e⟩)
                generalize E[q] = y at *
                have v0 := cell_regrown r0
                have v1 := cell_regrown r1
                by_cases he : y.u = x.u
                · have HM2 := Lib.hid (HM.out he)
                  rw [he] at z0 z1
                  have k0 := cell_regrown z0
                  have k1 := cell_regrown z1
                  clear he z0 z1 r0 r1 HT HM
                  go_wp2_with fail
                  refine wp_region_quiet_below (by kernel_rfl) (by kernel_rfl) ?_
                  repeat (first | go_big_quiet_step (fail) | quiet_step (fail))
                  refine wpQuiet_nil ?_
                  intro w5 hw'
                  have b5 := Lib.hid (show Below wr.heap.size wr w5 by obtain ⟨⟨d, os⟩, rfl⟩ := hw'; exact below_regrown _ _ _)
                  clear hw'
                  have B5 := bhid hJ b5 (Nat.le_refl _)
                  clear k0 k1 v0 v1
                  go_wp2_with fail
                  go_roundw
                  case rel => exact ⟨q + 1, by omega, by go_num, Lib.hid (.inr ⟨rfl, HM2.out⟩), B5⟩
                  case measure => simp [intOf]; omega
                · rw [decide_eq_false he, Bool.or_false, hN] at HT
                  have hne := uid_ne he
                  have k0 := cell_regrown z0
                  have k1 := cell_regrown z1
                  clear he z0 z1 r0 r1 HM
                  rcases hne with h1 | ⟨h1, h2⟩
                  · go_wp2_with fail
                    refine wp_region_quiet_below (by kernel_rfl) (by kernel_rfl) ?_
                    repeat (first | go_big_quiet_step (fail) | quiet_step (fail))
                    refine wpQuiet_nil ?_
                    intro w5 hw'
                    have b5 := Lib.hid (show Below wr.heap.size wr w5 by obtain ⟨⟨d, os⟩, rfl⟩ := hw'; exact below_regrown _ _ _)
                    clear hw'
                    have B5 := bhid hJ b5 (Nat.le_refl _)
                    clear k0 k1 v0 v1
                    go_wp2_with fail
                    go_roundw
                    case rel => exact ⟨q + 1, by omega, by go_num, Lib.hid (.inl ⟨rfl, HT.out⟩), B5⟩
                    case measure => simp [intOf]; omega
                  · go_wp2_with fail
                    refine wp_region_quiet_below (by kernel_rfl) (by kernel_rfl) ?_
                    repeat (first | go_big_quiet_step (fail) | quiet_step (fail))
                    refine wpQuiet_nil ?_
                    intro w5 hw'
                    have b5 := Lib.hid (show Below wr.heap.size wr w5 by obtain ⟨⟨d, os⟩, rfl⟩ := hw'; exact below_regrown _ _ _)
                    clear hw'
                    have B5 := bhid hJ b5 (Nat.le_refl _)
                    clear k0 k1 v0 v1
                    go_wp2_with fail
                    go_roundw
                    case rel => exact ⟨q + 1, by omega, by go_num, Lib.hid (.inl ⟨rfl, HT.out⟩), B5⟩
                    case measure => simp [intOf]; omega
              · rw [show q = k by omega] at hN
                rw [hN, if_neg (by decide)] at HS
                obtain ⟨a', ea, r0, r1, r2, r3, -⟩ := (HH.out.at_.keep BJ.out) k x HXE.out
                injection ea with ea
                subst ea
                have KE3 := Lib.hid (KE2.out wr hJ.out)
                clear hN hH
                go_wp2_with fail
                refine KE3.out.mono ?_
                rintro e w6 ⟨rfl, b6⟩
                have B6 := bh BJ b6
                clear b6 KE3 r0 r1 r2 r3
                by_cases hE : entF x = 0
                · rw [if_pos hE] at HS
                  rw [hE]
                  have HF := Lib.hid (hF.out.trans HS.out)
                  clear HS hE hF
                  go_wp2_with fail
                  go_roundw
                  case rel => exact ⟨k + 1, by omega, by go_num, HF, B6⟩
                  case measure => simp [intOf]; omega
                · rw [if_neg hE] at HS
                  have HE2 := Lib.hid (show SF = entF x by rw [HE.out, hF.out, HS.out, if_neg hE])
                  have h0 : (entF x != 0) = true := by rw [bne_iff_ne]; exact hE
                  clear hE HS hF
                  generalize entF x = f at *
                  go_wp2_with fail
                  go_ret
                  exact ⟨ret_i64 HE2.out.symm, B6.out⟩
            · rw [hY, if_pos rfl] at HS
              have HE2 := Lib.hid (show SF = 6 by rw [HE.out, hF.out, HS.out]; rfl)
              clear hY HS hF hH
              by_cases hlq : q < k
              · go_wp2_with fail
                go_ret
                exact ⟨ret_i64 HE2.out.symm, BJ.out⟩
              · go_wp2_with fail
                go_ret
                exact ⟨ret_i64 HE2.out.symm, BJ.out⟩
        · have hu' : uidFault (x.u.1, x.u.2) ≠ 0 := hu
          rw [if_neg hu] at HS
          have HE2 := Lib.hid (show SF = uidFault (x.u.1, x.u.2) by rw [HE.out, hF.out, HS.out, if_neg hu])
          have h0 : (uidFault (x.u.1, x.u.2) != 0) = true := by rw [bne_iff_ne]; exact hu'
          have h1 : (uidFault (x.u.1, x.u.2) == 0) = false := by simpa using hu'
          clear hu hu' HS hF
          generalize uidFault (x.u.1, x.u.2) = f at *
          go_wp2_with fail
          go_loopw [4, 5] (fun e j wj => e = .int .i64 f ∧ j = .int .i64 0 ∧ wj = w2) (fun _ j _ => k - (intOf j).toNat)
          case atStart => exact ⟨rfl, rfl, rfl⟩
          case round =>
            obtain ⟨rfl, rfl, rfl⟩ := hrel
            rcases Nat.eq_zero_or_pos k with hk0 | hk0
            · subst hk0
              go_wp2_with fail
              go_ret
              exact ⟨ret_i64 HE2.out.symm, B2.out⟩
            · go_wp2_with fail
              go_ret
              exact ⟨ret_i64 HE2.out.symm, B2.out⟩
      · have HF := Lib.hid (show entsFault [] E = 0 by rw [hF.out, List.drop_of_length_le (by rw [← HL.out]; omega)]; rfl)
        have HA := Lib.hid (show (allUps E).length ≤ 900 from by have := ents_ups HF.out; have := HL.out; omega)
        have HE7 := Lib.hid (show (∃ x ∈ E, Abv (graphE E) x.u x.u) → SF = 7 from fun h => by
          have e := HE.out
          rw [if_pos HF.out, if_pos h] at e; exact e)
        have HE0 := Lib.hid (show ¬ (∃ x ∈ E, Abv (graphE E) x.u x.u) → SF = 0 from fun h => by
          have e := HE.out
          rw [if_pos HF.out, if_neg h] at e; exact e)
        obtain ⟨w2, rfl⟩ : ∃ w2 : World, w2 = wr := ⟨_, rfl⟩
        have B2 := hB
        clear hF hB HE
        go_wp2_with fail
        go_loopw [6] (fun i wr => ∃ k : Nat, k ≤ n ∧ i = .int .i64 k ∧ Hid (∀ y ∈ E.take k, ¬ Abv (graphE E) y.u y.u) ∧ Hid (Below w2.heap.size w2 wr)) (fun i _ => n - (intOf i).toNat)
        case atStart => exact ⟨0, Nat.zero_le _, rfl, Lib.hid (fun y hy => by simp at hy), Below.refl _ _⟩
        case round =>
          obtain ⟨k, hk, rfl, hN, hB⟩ := hrel
          have BW := bh B2 hB.out
          by_cases hlt : k < n
          · have hlt' : k < E.length := by rw [← HL.out]; exact hlt
            obtain ⟨a, rfl, q0, q1, -, -, -⟩ := (HH.out.at_.keep BW.out) k _ (List.getElem?_eq_getElem hlt')
            have hok := HUO.out _ (List.getElem_mem hlt')
            have HM := Lib.hid (List.getElem_mem hlt')
            have HTK := Lib.hid (List.take_succ_eq_append_getElem hlt')
            generalize E[k] = x at *
            have hq : ∀ w', Below wr.heap.size wr w' → Below w.heap.size w w' := fun w' hb => BW.out.trans (hb.mono BW.out.size)
            have KO := rq (w := wr) (v := .bool (abvB E x.u x.u)) (fun w' hb => ref_OverB (some a) n c E x.u x.u w' (HH.out.keep (hq w' hb)) hok HA.out)
            unfold udV at KO
            have k0 := cell_regrown q0
            have k1 := cell_regrown q1
            clear hq q0 q1
            go_wp2_with fail
            refine wp_region_quiet_below (by kernel_rfl) (by kernel_rfl) ?_
            repeat (first | go_big_quiet_step (exact KO _ _) | quiet_step (exact KO _ _))
            refine wpQuiet_nil ?_
            intro w6 hw'
            have b6 := Lib.hid (show Below wr.heap.size wr w6 by obtain ⟨⟨d, os⟩, rfl⟩ := hw'; exact below_regrown _ _ _)
            clear hw'
            have B6 := bhid hB b6 (Nat.le_refl _)
            have BW6 := bh BW b6.out
            clear k0 k1 KO
            rcases ho : abvB E x.u x.u with _ | _
            · have HN2 := Lib.hid (show ∀ y ∈ E.take (k + 1), ¬ Abv (graphE E) y.u y.u from fun y hy => by
                rw [HTK.out] at hy
                rcases List.mem_append.1 hy with hy | hy
                · exact hN.out y hy
                · simp only [List.mem_cons, List.not_mem_nil, or_false] at hy
                  subst hy
                  intro h
                  rw [abvB_iff.2 h] at ho; cases ho)
              clear ho
              go_wp2_with fail
              go_roundw
              case rel => exact ⟨k + 1, by omega, by go_num, HN2, B6⟩
              case measure => simp [intOf]; omega
            · have HE2 := Lib.hid (HE7.out ⟨x, HM.out, abvB_iff.1 ho⟩)
              clear ho
              go_wp2_with fail
              go_ret
              exact ⟨ret_i64 HE2.out.symm, BW6.out⟩
          · have HE2 := Lib.hid (HE0.out (fun ⟨y, hy, h⟩ => hN.out y (by rw [List.take_of_length_le (by rw [← HL.out]; omega)]; exact hy) h))
            go_wp2_with fail
            go_ret
            exact ⟨ret_i64 HE2.out.symm, BW.out⟩
end Go.Proofs.YtbjbimabgfpdoaaGreatDoor
namespace Go.Proofs.YtbjbimabgfpdoaaGreatDoor
open Go.RowKit Go.Wk
set_option maxRecDepth 100000

abbrev bA : ByteArray := ⟨#[65]⟩
abbrev ba : ByteArray := ⟨#[97]⟩
/-- The entity of the fact, whose parts lie from block n on. -/
def cycE (n : Nat) : En := ⟨(bA, ba), some ⟨n, 0, none⟩, 1, 1, [(bA, ba)], some ⟨n + 1, 0, none⟩, 1, 1, [⟨6, 0, ⟨#[]⟩, ⟨#[]⟩⟩]⟩
def cycW (w : World) : World := ((w.alloc (.cells #[.string bA, .string ba] 30)).alloc (.cells #[.int .i64 6, .int .i64 0, .string ⟨#[]⟩, .string ⟨#[]⟩] 33)).alloc
  (.cells #[.string bA, .string ba, .slice (some ⟨w.heap.size, 0, none⟩) 1 1, .slice (some ⟨w.heap.size + 1, 0, none⟩) 1 1] 36)
theorem below_cycW (w : World) : Below w.heap.size w (cycW w) := by
  unfold cycW
  exact (((Below.refl _ _).alloc (Nat.le_refl _) _).alloc (by simp) _).alloc (by simp; omega) _
theorem one_at1 {α : Type} {x y : α} {k : Nat} (h : [x][k]? = some y) : k = 0 ∧ y = x := by
  cases k with
  | zero => simp at h; exact ⟨rfl, h.symm⟩
  | succ k => simp at h
theorem cyc_Es (w : World) : Es (cycW w) (some ⟨w.heap.size + 1 + 1, 0, none⟩) 1 1 [cycE w.heap.size] := by
  unfold cycW
  obtain ⟨w1, hw1⟩ : ∃ w1, w.alloc (.cells #[.string bA, .string ba] 30) = w1 := ⟨_, rfl⟩
  have e1 : w1.heap.size = w.heap.size + 1 := by rw [← hw1]; simp
  have P1 := vr2_new w (.string bA) (.string ba) 30
  rw [hw1] at P1 ⊢
  clear hw1
  generalize w.heap.size = n at *
  obtain ⟨w2, hw2⟩ : ∃ w2, w1.alloc (.cells #[.int .i64 6, .int .i64 0, .string ⟨#[]⟩, .string ⟨#[]⟩] 33) = w2 := ⟨_, rfl⟩
  have e2 : w2.heap.size = n + 1 + 1 := by rw [← hw2, ← e1]; simp
  have P2 := P1.keep (below_box w1 (.cells #[.int .i64 6, .int .i64 0, .string ⟨#[]⟩, .string ⟨#[]⟩] 33))
  have q0 : w2.cell? ⟨w1.heap.size, 0, none⟩ = some (.int .i64 6) := by rw [← hw2]; exact cell_row (heap_alloc_last w1 _) rfl
  have q1 : w2.cell? ⟨w1.heap.size, 1, none⟩ = some (.int .i64 0) := by rw [← hw2]; exact cell_row (heap_alloc_last w1 _) rfl
  have q2 : w2.cell? ⟨w1.heap.size, 2, none⟩ = some (.string ⟨#[]⟩) := by rw [← hw2]; exact cell_row (heap_alloc_last w1 _) rfl
  have q3 : w2.cell? ⟨w1.heap.size, 3, none⟩ = some (.string ⟨#[]⟩) := by rw [← hw2]; exact cell_row (heap_alloc_last w1 _) rfl
  rw [hw2] at P2 ⊢
  rw [e1] at q0 q1 q2 q3
  clear hw2 P1
  have hb := below_box w2 (.cells #[.string bA, .string ba, .slice (some ⟨n, 0, none⟩) 1 1, .slice (some ⟨n + 1, 0, none⟩) 1 1] 36)
  have V := vr4_new w2 (cycE n) 36
  have V' : Vr4 (w2.alloc (.cells #[.string bA, .string ba, .slice (some ⟨n, 0, none⟩) 1 1, .slice (some ⟨n + 1, 0, none⟩) 1 1] 36)) w2.heap.size (cycE n) := V
  generalize w2.alloc (.cells #[.string bA, .string ba, .slice (some ⟨n, 0, none⟩) 1 1, .slice (some ⟨n + 1, 0, none⟩) 1 1] 36) = w3 at *
  rw [e2] at V'
  have P3 := P2.keep hb
  refine ⟨rfl, Nat.le_refl _, by decide, fun k x hx => ?_⟩
  obtain ⟨rfl, rfl⟩ := one_at1 hx
  refine ⟨_, rfl, V'.c0, V'.c1, V'.c2, V'.c3, (by show bA.size ≤ maxLen; decide), (by show ba.size ≤ maxLen; decide), ⟨rfl, Nat.le_refl _, (by show 1 ≤ maxLen; decide), fun k x hx => ?_, fun x hx => ?_⟩, ⟨rfl, Nat.le_refl _, (by show 1 ≤ maxLen; decide), fun k x hx => ?_, fun x hx => ?_⟩⟩
  · obtain ⟨rfl, rfl⟩ := one_at1 hx
    exact ⟨_, rfl, P3.c0, P3.c1⟩
  · have : x = (bA, ba) := by simpa [cycE] using hx
    subst this; decide
  · obtain ⟨rfl, rfl⟩ := one_at1 hx
    exact ⟨_, rfl, cell_keep hb q0, cell_keep hb q1, cell_keep hb q2, cell_keep hb q3⟩
  · have : x = ⟨6, 0, ⟨#[]⟩, ⟨#[]⟩⟩ := by simpa [cycE] using hx
    subst this; exact ⟨by decide, by decide, by decide, by decide⟩
theorem cyc_store (n : Nat) : storeF [cycE n] = 7 := by
  have h1 : uidFault (bA, ba) = 0 := by decide +kernel
  have h2 : upsFault [] [(bA, ba)] = 0 := by decide +kernel
  have h3 : valFault [⟨6, 0, ⟨#[]⟩, ⟨#[]⟩⟩] = 0 := by decide +kernel
  have h4 : entF (cycE n) = 0 := by
    unfold entF
    have : (cycE n).ups = [(bA, ba)] := rfl
    rw [this, h2]
    have : (cycE n).P = [⟨6, 0, ⟨#[]⟩, ⟨#[]⟩⟩] := rfl
    rw [this, h3]
    rfl
  have h5 : entsFault [] [cycE n] = 0 := by
    unfold entsFault
    have : (cycE n).u = (bA, ba) := rfl
    rw [this, h1, h4]
    rfl
  unfold storeF
  rw [if_neg (by simp), if_pos h5, if_pos]
  exact ⟨cycE n, by simp, .one ⟨((bA, ba), [(bA, ba)]), by simp [graphE, cycE], rfl, by simp [cycE]⟩⟩
set_option maxHeartbeats 4000000 in
theorem EntChecks_walk (A : Option Addr) (n c : Nat) (E : List En) (w : World) (h : Es w A n c E) (hg : Door w) :
    Calls Tryz.prog 3 #[.slice A n c] w fun e w' => e = .returned (.bool true) ∧ Below w.heap.size w w' := by
  have K1 := Lib.hid (ent_Check A n c E w h)
  have K2 := Lib.hid (fun w' hb => ref_StoreFault A n c E w' (h.keep (w' := w') hb))
  have HG := Lib.hid hg
  clear h hg
  generalize storeF E = f at *
  go_enter Tryz.func3, Tryz.ntmps3
  go_wp2_with fail
  refine K1.out.mono ?_
  rintro e w1 ⟨rfl, b1⟩
  go_wp2_with fail
  refine (K2.out w1 b1).mono ?_
  rintro e w2 ⟨rfl, b2⟩
  have B2 := Lib.hid (b1.trans (b2.mono b1.size))
  clear b1 b2 K1 K2
  go_wp2_with fail
  refine (same_Error f f w2 (HG.out.keep B2.out)).mono ?_
  rintro e w3 ⟨rfl, b3⟩
  have B3 := bh B2 b3
  rw [show (f == f) = true from beq_self_eq_true f]
  clear b3 B2
  go_wp2_with fail
  have hs : (w3.alloc (.cells #[.string ⟨#[65]⟩, .string ⟨#[97]⟩] 30)).heap.size = w3.heap.size + 1 := by simp
  have B4 := bh B3 (below_box w3 (.cells #[.string ⟨#[65]⟩, .string ⟨#[97]⟩] 30))
  obtain ⟨w4, hw4⟩ : ∃ w4, w3.alloc (.cells #[.string ⟨#[65]⟩, .string ⟨#[97]⟩] 30) = w4 := ⟨_, rfl⟩
  rw [hw4] at B4 hs ⊢
  rw [← hs]
  clear hw4 hs
  have B5 := bh B4 (below_cycW w4)
  have K := Lib.hid (ent_Check _ 1 1 [cycE w4.heap.size] (cycW w4) (cyc_Es w4))
  rw [cyc_store] at K
  refine K.out.mono ?_
  rintro e w6 ⟨rfl, b6⟩
  have B6 := bh B5 b6
  clear K b6 B5 B4
  go_wp2_with fail
  refine (same_Error 7 7 w6 (HG.out.keep B6.out)).mono ?_
  rintro e w7 ⟨rfl, b7⟩
  have B7 := bh B6 b7
  go_wp2_with fail
  go_ret
  exact ⟨rfl, B7.out⟩
end Go.Proofs.YtbjbimabgfpdoaaGreatDoor
