/-
  Plain: those above one, found step by step, each once. No program in sight.
  Plain: each put where as many are ahead of it: ascending. No program in sight.
  Uids in a row of the call's own: their cells.
  The order of nodes once more: what was there is as it was, and draws are only added.
  slices.SortFunc over uids by name.Compare.
  The verifier's Uids: are two lists of uids the same.
  ent.Check's function, slices.IndexFunc and slices.ContainsFunc with it: is an entity of this uid there.
  ent.Check: what is wrong with a store.
  ent.In: is one another one, or above it.
  ent.Above: those that are above one, ascending.
  The reference's Ups and Over: those above one, step by step.
  The reference's StoreFault: what is wrong with a store.
  The reference's Sorted: uids by their ranks.
  ent.Attrs: the record of one.
  EntAbove: who is above, is it one of them, its record. The walk of the law.
-/
import Derived.Shelf.SlSortCmp.NoneTotal
import Derived.Maps.RangeWalk
import Derived.Laws.MakeOwn
import Derived.Test.YtbjbimabgfpdoaaGreatDoorEntLaw
import Derived.Test.YtbjbimabgfpdoaaGreatDoorUidMap
import Derived.Test.YtbjbimabgfpdoaaGreatDoorNode
import Derived.Test.YtbjbimabgfpdoaaGreatDoorStored
import Derived.Test.YtbjbimabgfpdoaaGreatDoorShSortK
import Derived.Test.YtbjbimabgfpdoaaGreatDoorUds
import Derived.Test.YtbjbimabgfpdoaaGreatDoorAbove
import Derived.Test.YtbjbimabgfpdoaaGreatDoorRefVal
import Derived.Test.YtbjbimabgfpdoaaGreatDoorSls
import Derived.Test.YtbjbimabgfpdoaaGreatDoorTold
namespace Go.Wk

theorem nodup_le : ∀ (L M : List Ud), L.Nodup → (∀ x ∈ L, x ∈ M) → L.length ≤ M.length
  | [], _, _, _ => Nat.zero_le _
  | x :: L, M, hn, hs => by
    obtain ⟨h1, h2⟩ := List.nodup_cons.1 hn
    have h3 : x ∈ M := hs x (by simp)
    have h4 := nodup_le L (M.filter fun y => decide (y ≠ x)) h2 (fun y hy => List.mem_filter.2 ⟨hs y (by simp [hy]), decide_eq_true fun e => h1 (e ▸ hy)⟩)
    have h5 : (M.filter fun y => decide (y ≠ x)).length < M.length := Nat.lt_of_le_of_ne (List.length_filter_le _ _) fun hl => by
      have := List.length_filter_eq_length_iff.1 hl x h3
      simp at this
    rw [List.length_cons]; omega
/-- One more, if it is not there. -/
def addU (L : List Ud) (p : Ud) : List Ud := if hadU L p = true then L else L ++ [p]
/-- More of those above u: L' is L and more. -/
structure Grw (G : List (Ud × List Ud)) (u : Ud) (L L' : List Ud) : Prop where
  nd : L'.Nodup
  sound : ∀ y ∈ L', Abv G u y
  pre : ∃ R, L' = L ++ R
theorem Grw.nil (G : List (Ud × List Ud)) (u : Ud) : Grw G u [] [] := ⟨List.nodup_nil, (fun _ hy => nomatch hy), [], rfl⟩
theorem Grw.self {G : List (Ud × List Ud)} {u : Ud} {L L' : List Ud} (h : Grw G u L L') : Grw G u L' L' := ⟨h.nd, h.sound, [], by simp⟩
theorem Grw.trans {G : List (Ud × List Ud)} {u : Ud} {L L' L'' : List Ud} (h : Grw G u L L') (k : Grw G u L' L'') : Grw G u L L'' :=
  ⟨k.nd, k.sound, by obtain ⟨R, e⟩ := h.pre; obtain ⟨R', e'⟩ := k.pre; exact ⟨R ++ R', by rw [e', e, List.append_assoc]⟩⟩
theorem Grw.sub {G : List (Ud × List Ud)} {u : Ud} {L L' : List Ud} (h : Grw G u L L') : ∀ y ∈ L, y ∈ L' := fun y hy => by
  obtain ⟨R, e⟩ := h.pre
  rw [e]; exact List.mem_append_left _ hy
theorem Grw.get {G : List (Ud × List Ud)} {u : Ud} {L L' : List Ud} (h : Grw G u L L') {i : Nat} (hi : i < (u :: L).length) : (u :: L')[i]? = some (u :: L)[i] := by
  obtain ⟨R, e⟩ := h.pre
  rw [e, ← List.cons_append, List.getElem?_append_left hi, List.getElem?_eq_getElem hi]
theorem Grw.len {G : List (Ud × List Ud)} {u : Ud} {L L' : List Ud} (h : Grw G u L L') : L'.length ≤ (G.flatMap (·.2)).length := nodup_le _ _ h.nd fun x hx => by
  have h1 := h.sound x hx
  clear hx h
  induction h1 with
  | one s => obtain ⟨e, he, _, h2⟩ := s; exact List.mem_flatMap.2 ⟨e, he, h2⟩
  | more _ _ ih => exact ih
theorem addU_mem (L : List Ud) (p : Ud) : p ∈ addU L p := by
  unfold addU
  split
  · rename_i h; exact hadU_iff.1 h
  · simp
theorem Grw.add {G : List (Ud × List Ud)} {u : Ud} {L L' : List Ud} (h : Grw G u L L') {z p : Ud} (hz : z = u ∨ z ∈ L') (hs : Stp G z p) : Grw G u L (addU L' p) := by
  unfold addU
  split
  · exact h
  · rename_i hh
    have hp : p ∉ L' := fun e => hh (hadU_iff.2 e)
    obtain ⟨R, e⟩ := h.pre
    refine ⟨?_, fun y hy => ?_, R ++ [p], by rw [e, List.append_assoc]⟩
    · rw [List.nodup_append]
      refine ⟨h.nd, by simp, fun a ha b hb e => ?_⟩
      simp only [List.mem_cons, List.not_mem_nil, or_false] at hb
      subst hb; subst e; exact hp ha
    · rcases List.mem_append.1 hy with hy | hy
      · exact h.sound y hy
      · simp only [List.mem_cons, List.not_mem_nil, or_false] at hy
        subst hy
        rcases hz with rfl | hz
        · exact .one hs
        · exact (h.sound z hz).snoc hs
/-- Behind s rounds. -/
structure Bfs (G : List (Ud × List Ud)) (u : Ud) (s f : Nat) (L : List Ud) : Prop where
  fnd : Grw G u [] L
  near : ∀ y, Ste G s u y → y ∈ L
  shut : ∀ z ∈ (u :: L).take f, ∀ y, Stp G z y → y ∈ L
theorem Bfs.start (G : List (Ud × List Ud)) (u : Ud) : Bfs G u 0 0 [] := ⟨Grw.nil G u, (fun _ hy => nomatch hy), fun z hz => by simp at hz⟩
theorem Bfs.next {G : List (Ud × List Ud)} {u : Ud} {s f : Nat} {L L' : List Ud} (h : Bfs G u s f L) (k : Grw G u L L') (hs : ∀ z ∈ u :: L, ∀ y, Stp G z y → y ∈ L') : Bfs G u (s + 1) (L.length + 1) L' := by
  refine ⟨h.fnd.trans k, fun y hy => ?_, fun z hz y hy => ?_⟩
  · rcases hy.last with h1 | ⟨p, h1, h2⟩
    · exact hs u (by simp) y h1
    · exact hs p (by simp [h.near p h1]) y h2
  · obtain ⟨R, e⟩ := k.pre
    rw [e, ← List.cons_append, List.take_append_of_le_length (by simp), List.take_of_length_le (by simp)] at hz
    exact hs z hz y hy
theorem Bfs.all {G : List (Ud × List Ud)} {u : Ud} {s f : Nat} {L : List Ud} (h : Bfs G u s f L) (hs : s = G.length) (y : Ud) : y ∈ L ↔ Abv G u y :=
  ⟨fun hy => h.fnd.sound y hy, fun hy => h.near y (hs ▸ abv_ste (Nat.le_refl _) hy)⟩
/-- In the midst of a round: those of the first i looked up. -/
structure Mid1 (G : List (Ud × List Ud)) (u : Ud) (L : List Ud) (i : Nat) (L' : List Ud) : Prop where
  grw : Grw G u L L'
  shut : ∀ z ∈ (u :: L).take i, ∀ y, Stp G z y → y ∈ L'
theorem Mid1.start {G : List (Ud × List Ud)} {u : Ud} {s f : Nat} {L : List Ud} (h : Bfs G u s f L) : Mid1 G u L f L := ⟨h.fnd.self, h.shut⟩
theorem Mid1.next {G : List (Ud × List Ud)} {u : Ud} {L L' L'' : List Ud} {i : Nat} (h : Mid1 G u L i L') (k : Grw G u L' L'') (hi : i < (u :: L).length) (hs : ∀ y, Stp G (u :: L)[i] y → y ∈ L'') : Mid1 G u L (i + 1) L'' := by
  refine ⟨h.grw.trans k, fun z hz y hy => ?_⟩
  rw [List.take_succ_eq_append_getElem hi] at hz
  rcases List.mem_append.1 hz with hz | hz
  · exact k.sub y (h.shut z hz y hy)
  · simp only [List.mem_cons, List.not_mem_nil, or_false] at hz
    subst hz; exact hs y hy
theorem Mid1.done {G : List (Ud × List Ud)} {u : Ud} {s f i : Nat} {L L' : List Ud} (h : Bfs G u s f L) (k : Mid1 G u L i L') (hi : (u :: L).length ≤ i) : Bfs G u (s + 1) (L.length + 1) L' :=
  h.next k.grw fun z hz y hy => k.shut z (by rw [List.take_of_length_le hi]; exact hz) y hy
/-- In the midst of looking one up: the first k of the store. -/
structure Mid2 (G : List (Ud × List Ud)) (u z : Ud) (L : List Ud) (k : Nat) (L' : List Ud) : Prop where
  grw : Grw G u L L'
  here : ∀ e ∈ G.take k, e.1 = z → ∀ y ∈ e.2, y ∈ L'
theorem Mid2.start {G : List (Ud × List Ud)} {u z : Ud} {L0 L : List Ud} (h : Grw G u L0 L) : Mid2 G u z L 0 L := ⟨h.self, fun e he => by simp at he⟩
theorem Mid2.next {G : List (Ud × List Ud)} {u z : Ud} {L L' L'' : List Ud} {k : Nat} (h : Mid2 G u z L k L') (g : Grw G u L' L'') (hk : k < G.length) (hs : G[k].1 = z → ∀ y ∈ G[k].2, y ∈ L'') : Mid2 G u z L (k + 1) L'' := by
  refine ⟨h.grw.trans g, fun e he h1 y hy => ?_⟩
  rw [List.take_succ_eq_append_getElem hk] at he
  rcases List.mem_append.1 he with he | he
  · exact g.sub y (h.here e he h1 y hy)
  · simp only [List.mem_cons, List.not_mem_nil, or_false] at he
    subst he; exact hs h1 y hy
theorem Mid2.done {G : List (Ud × List Ud)} {u z : Ud} {L L' : List Ud} {k : Nat} (h : Mid2 G u z L k L') (hk : G.length ≤ k) : ∀ y, Stp G z y → y ∈ L' := fun y ⟨e, he, h1, h2⟩ => h.here e (by rw [List.take_of_length_le hk]; exact he) h1 y h2
/-- In the midst of one entity's Up. -/
structure Mid3 (G : List (Ud × List Ud)) (u : Ud) (ups L : List Ud) (p : Nat) (L' : List Ud) : Prop where
  grw : Grw G u L L'
  here : ∀ y ∈ ups.take p, y ∈ L'
theorem Mid3.start {G : List (Ud × List Ud)} {u : Ud} {ups L0 L : List Ud} (h : Grw G u L0 L) : Mid3 G u ups L 0 L := ⟨h.self, fun e he => by simp at he⟩
theorem Mid3.next {G : List (Ud × List Ud)} {u z : Ud} {ups L L' : List Ud} {p : Nat} (h : Mid3 G u ups L p L') (hp : p < ups.length) (hz : z = u ∨ z ∈ L) (hs : Stp G z ups[p]) : Mid3 G u ups L (p + 1) (addU L' ups[p]) := by
  have g := h.grw.self.add (hz.imp id (h.grw.sub z)) hs
  refine ⟨h.grw.trans g, fun y hy => ?_⟩
  rw [List.take_succ_eq_append_getElem hp] at hy
  rcases List.mem_append.1 hy with hy | hy
  · exact g.sub y (h.here y hy)
  · simp only [List.mem_cons, List.not_mem_nil, or_false] at hy
    subst hy; exact addU_mem _ _
theorem Mid3.done {G : List (Ud × List Ud)} {u : Ud} {ups L L' : List Ud} {p : Nat} (h : Mid3 G u ups L p L') (hp : ups.length ≤ p) : ∀ y ∈ ups, y ∈ L' := fun y hy => h.here y (by rw [List.take_of_length_le hp]; exact hy)

/- An entity more that is in nobody's Up. -/
theorem leaf_stp {G : List (Ud × List Ud)} {e : Ud × List Ud} {p q : Ud} (h : Stp (G ++ [e]) p q) (hp : p ≠ e.1) : Stp G p q := by
  obtain ⟨f, hf, h1, h2⟩ := h
  rcases List.mem_append.1 hf with hf | hf
  · exact ⟨f, hf, h1, h2⟩
  · simp only [List.mem_cons, List.not_mem_nil, or_false] at hf
    subst hf; exact absurd h1.symm hp
theorem leaf_abv {G : List (Ud × List Ud)} {e : Ud × List Ud} (hno : ∀ g ∈ G, e.1 ∉ g.2) {u y : Ud} (h : Abv (G ++ [e]) u y) (hu : u ≠ e.1) : Abv G u y := by
  induction h with
  | one s => exact .one (leaf_stp s hu)
  | more s _ ih =>
    have s' := leaf_stp s hu
    refine .more s' (ih fun h => ?_)
    obtain ⟨g, hg, _, h2⟩ := s'
    exact hno g hg (h ▸ h2)
theorem more_abv {G : List (Ud × List Ud)} (e : Ud × List Ud) {u y : Ud} (h : Abv G u y) : Abv (G ++ [e]) u y := by
  induction h with
  | one s => obtain ⟨g, hg, h1, h2⟩ := s; exact .one ⟨g, by simp [hg], h1, h2⟩
  | more s _ ih => obtain ⟨g, hg, h1, h2⟩ := s; exact .more ⟨g, by simp [hg], h1, h2⟩ ih
/-- Ascending lists that hold the same are one. -/
theorem asc_one {R : Ud → Ud → Prop} (hr : ∀ x, ¬ R x x) (ht : ∀ x y z, R x y → R y z → R x z) : ∀ (L M : List Ud), L.Pairwise R → M.Pairwise R → (∀ x, x ∈ L ↔ x ∈ M) → L = M
  | [], M, _, _, h => by
    rcases M with _ | ⟨y, M⟩
    · rfl
    · exact absurd ((h y).2 (by simp)) (by simp)
  | x :: L, [], _, _, h => absurd ((h x).1 (by simp)) (by simp)
  | x :: L, y :: M, h1, h2, h => by
    obtain ⟨a1, a2⟩ := List.pairwise_cons.1 h1
    obtain ⟨b1, b2⟩ := List.pairwise_cons.1 h2
    have e : x = y := by
      rcases List.mem_cons.1 ((h x).1 (by simp)) with e | hx
      · exact e
      · rcases List.mem_cons.1 ((h y).2 (by simp)) with e | hy
        · exact e.symm
        · exact absurd (ht _ _ _ (a1 y hy) (b1 x hx)) (hr x)
    subst e
    congr 1
    refine asc_one hr ht L M a2 b2 fun z => ⟨fun hz => ?_, fun hz => ?_⟩
    · rcases List.mem_cons.1 ((h z).1 (by simp [hz])) with e | hm
      · exact absurd (a1 z hz) (e ▸ hr z)
      · exact hm
    · rcases List.mem_cons.1 ((h z).2 (by simp [hz])) with e | hm
      · exact absurd (b1 z hz) (e ▸ hr z)
      · exact hm
end Go.Wk
namespace Go.Wk

/-- How many are ahead of one. -/
def rankU (lt : Ud → Ud → Bool) (L : List Ud) (x : Ud) : Nat := (L.filter fun y => lt y x).length
theorem rankU_le (lt : Ud → Ud → Bool) (L : List Ud) (x : Ud) : rankU lt L x ≤ L.length := List.length_filter_le _ _
theorem rankU_step (lt : Ud → Ud → Bool) {L : List Ud} {k : Nat} (h : k < L.length) (x : Ud) : rankU lt (L.take (k + 1)) x = rankU lt (L.take k) x + if lt L[k] x = true then 1 else 0 := by
  unfold rankU
  rw [List.take_succ_eq_append_getElem h, List.filter_append, List.length_append]
  congr 1
  by_cases hc : lt L[k] x = true
  · simp [hc]
  · simp [hc]
theorem rankU_perm (lt : Ud → Ud → Bool) {L M : List Ud} (h : L.Perm M) (x : Ud) : rankU lt L x = rankU lt M x := (h.filter _).length_eq
theorem rankU_asc {lt : Ud → Ud → Bool} (hi : ∀ x, lt x x = false) (ha : ∀ x y, lt x y = true → lt y x = false) : ∀ (S : List Ud) (j : Nat) (h : j < S.length), (S.Pairwise fun x y => lt x y = true) → rankU lt S S[j] = j
  | [], j, h, _ => absurd h (by simp)
  | x :: S, 0, _, hp => by
    obtain ⟨h1, -⟩ := List.pairwise_cons.1 hp
    unfold rankU
    rw [List.length_eq_zero_iff, List.filter_eq_nil_iff]
    intro y hy
    simp only [List.getElem_cons_zero]
    rcases List.mem_cons.1 hy with rfl | hy
    · rw [hi]; simp
    · rw [ha _ _ (h1 y hy)]; simp
  | x :: S, j + 1, h, hp => by
    obtain ⟨h1, h2⟩ := List.pairwise_cons.1 hp
    have ih := rankU_asc hi ha S j (by simpa using h) h2
    have hj : j < S.length := by simpa using h
    have h3 := h1 S[j] (List.getElem_mem hj)
    unfold rankU at ih ⊢
    simp only [List.getElem_cons_succ, List.filter_cons, h3, if_true, List.length_cons, ih]
/-- Where each stands that was put at its rank. -/
def Put (lt : Ud → Ud → Bool) (L S O : List Ud) (k : Nat) : Prop := O.length = L.length ∧ ∀ i, (h : i < L.length) → i < k → O[rankU lt L L[i]]? = S[rankU lt L L[i]]?
theorem rank_at {lt : Ud → Ud → Bool} (hi : ∀ x, lt x x = false) (ha : ∀ x y, lt x y = true → lt y x = false) {L S : List Ud} (hp : L.Perm S) (hs : S.Pairwise fun x y => lt x y = true) {x : Ud} (hx : x ∈ L) :
    rankU lt L x < L.length ∧ S[rankU lt L x]? = some x := by
  obtain ⟨j, hj, rfl⟩ := List.getElem_of_mem (hp.mem_iff.1 hx)
  rw [rankU_perm lt hp, rankU_asc hi ha S j hj hs]
  exact ⟨by rw [hp.length_eq]; exact hj, List.getElem?_eq_getElem hj⟩
theorem Put.step {lt : Ud → Ud → Bool} (hi : ∀ x, lt x x = false) (ha : ∀ x y, lt x y = true → lt y x = false) {L S O : List Ud} (hp : L.Perm S) (hs : S.Pairwise fun x y => lt x y = true) {k : Nat} (h : Put lt L S O k) (hk : k < L.length) :
    Put lt L S (O.set (rankU lt L L[k]) L[k]) (k + 1) := by
  obtain ⟨r1, r2⟩ := rank_at hi ha hp hs (List.getElem_mem hk)
  refine ⟨by rw [List.length_set]; exact h.1, fun i hil hik => ?_⟩
  by_cases e : rankU lt L L[k] = rankU lt L L[i]
  · rw [← e, r2, List.getElem?_set_self (by rw [h.1]; exact r1)]
  · rw [List.getElem?_set_ne e]
    rcases Nat.lt_or_ge i k with h1 | h1
    · exact h.2 i hil h1
    · have : i = k := by omega
      subst this; exact absurd rfl e
theorem Put.done {lt : Ud → Ud → Bool} (hi : ∀ x, lt x x = false) (ha : ∀ x y, lt x y = true → lt y x = false) {L S O : List Ud} (hp : L.Perm S) (hs : S.Pairwise fun x y => lt x y = true) {k : Nat} (h : Put lt L S O k) (hk : L.length ≤ k) : O = S := by
  apply List.ext_getElem?
  intro j
  rcases Nat.lt_or_ge j S.length with hj | hj
  · obtain ⟨i, hil, e⟩ := List.getElem_of_mem (hp.mem_iff.2 (List.getElem_mem hj))
    have h1 := h.2 i hil (by omega)
    rw [e, rankU_perm lt hp, rankU_asc hi ha S j hj hs] at h1
    exact h1
  · rw [List.getElem?_eq_none hj, List.getElem?_eq_none (by rw [h.1, hp.length_eq]; exact hj)]
end Go.Wk
namespace Go.Proofs.YtbjbimabgfpdoaaGreatDoor
open Go.RowKit Go.Wk
set_option maxRecDepth 100000

def udCells : List Ud → List Value
  | [] => []
  | u :: U => .string u.1 :: .string u.2 :: udCells U
@[simp] theorem udCells_length (U : List Ud) : (udCells U).length = U.length * 2 := by
  induction U with
  | nil => rfl
  | cons u U ih => simp only [udCells, List.length_cons, ih]; omega
theorem udCells_append (U V : List Ud) : udCells (U ++ V) = udCells U ++ udCells V := by
  induction U with
  | nil => rfl
  | cons u U ih => simp only [List.cons_append, udCells, ih]
theorem udCells_one (U : List Ud) : ∀ v ∈ udCells U, v.oneCell' = true := by
  induction U with
  | nil => intro v hv; cases hv
  | cons u U ih =>
    intro v hv
    simp only [udCells, List.mem_cons] at hv
    rcases hv with rfl | rfl | hv
    · rfl
    · rfl
    · exact ih v hv
theorem uds_cells {w : World} {a : Addr} {P : List Ud} (h : ∀ j u, (udCells P)[j]? = some u → w.cell? (a.add j) = some u) : UdsAt w (some a) P := by
  have key : ∀ (P : List Ud) (k : Nat) (x : Ud), P[k]? = some x → (udCells P)[k * 2]? = some (.string x.1) ∧ (udCells P)[k * 2 + 1]? = some (.string x.2) := by
    intro P
    induction P with
    | nil => intro k x hx; simp at hx
    | cons y P ih =>
      intro k x hx
      cases k with
      | zero => simp at hx; subst hx; exact ⟨rfl, rfl⟩
      | succ k =>
        have := ih k x (by simpa using hx)
        rw [show (k + 1) * 2 = k * 2 + 1 + 1 by omega]
        simpa [udCells] using this
  intro k x hx
  obtain ⟨h1, h2⟩ := key P k x hx
  refine ⟨a, rfl, h _ _ h1, ?_⟩
  have := h _ _ h2
  rw [← add_add] at this
  unfold Addr.add at this ⊢
  simpa using this
theorem us_of_own {w : World} {B : Nat} {v : Value} {P : List Ud} (h : w.ownsRow B 30 2 v P.length (udCells P)) (hP : ∀ x ∈ P, UOk x) (hl : P.length ≤ 1000000) : ∃ A c, v = .slice A P.length c ∧ Us w A P.length c P := by
  rcases h.2 with ⟨rfl, h0⟩ | ⟨g, cap, cur, rfl, hB, _, hc, _⟩
  · have : P = [] := List.eq_nil_of_length_eq_zero h0
    subst this
    exact ⟨none, 0, rfl, rfl, Nat.le_refl _, Nat.zero_le _, fun k x hx => by simp at hx, fun x hx => nomatch hx⟩
  · exact ⟨some ⟨g, 0, none⟩, cap, rfl, rfl, hc, by unfold maxLen; omega, uds_cells (h.cells (g := g) rfl), hP⟩
theorem udInfo : (Tryz.prog.info? 30).map (fun i => (i.zero, i.size, i.bytes)) = some (some (.agg #[.string ⟨#[]⟩, .string ⟨#[]⟩]), 2, 32) := by kernel_rfl
end Go.Proofs.YtbjbimabgfpdoaaGreatDoor
namespace Go.Proofs.YtbjbimabgfpdoaaGreatDoor
open Go.RowKit Go.Wk Go.Sort
set_option maxRecDepth 100000

/-- What was there is as it was, and draws are only added. -/
structure BelowD (w w' : World) : Prop where
  b : Below w.heap.size w w'
  d : w.drawn ≤ w'.drawn
theorem BelowD.grow {w w' : World} (h : BelowD w w') : ∃ q os, w' = grow (w.drewN q) os := by
  obtain ⟨p, hp⟩ := regrown_of_below h.b
  have e : p.d = w'.drawn := by rw [hp]; rfl
  refine ⟨w'.drawn - w.drawn, p.os, ?_⟩
  have e2 : redrawn w p.d = w.drewN (w'.drawn - w.drawn) := by
    unfold redrawn World.drewN
    rw [e, show w.drawn + (w'.drawn - w.drawn) = w'.drawn by have := h.d; omega]
  rw [← e2]; exact hp

set_option maxHeartbeats 800000 in
theorem val_compareD (x y : Nd) (w : World) :
    Calls Tryz.prog 113 #[ndV x, ndV y] w fun e w' => e = .returned (.int .i64 (cmpNd x y)) ∧ BelowD w w' := by
  unfold ndV
  go_enter Tryz.func113, Tryz.ntmps113
  go_wp2
  refine still_tail 20 (by kernel_rfl) (by kernel_rfl) ?_
  simp only [List.take_succ_cons, List.take_zero, List.drop_succ_cons, List.drop_zero]
  iterate 4 still_step
  still_call (cmp_Compare_int _ _ _)
  iterate 4 still_step
  still_call (cmp_Compare_int _ _ _)
  iterate 4 still_step
  still_call (strings_Compare _ _ _)
  iterate 4 still_step
  still_call (strings_Compare _ _ _)
  refine wpStill_nil ?_
  go_wp2_with (go_at_call 72; refine (cmp_Or4 (cmpI x.op y.op) (cmpI x.n y.n) (cmpB x.s y.s) (cmpB x.t y.t) _ _ (by go_simp) (by go_simp) (by go_simp) (by go_simp)).mono ?_; rintro e w' ⟨rfl, rfl⟩)
  go_ret
  exact ⟨rfl, ((((Below.refl _ _).alloc (Nat.le_refl _) _).alloc (by simp) _).alloc (by simp; omega) _).drew, Nat.le_succ _⟩

set_option maxHeartbeats 1000000 in
theorem val_CompareFuncD (A B : Option Addr) (n m c d : Nat) (P Q : List Nd) (w : World) (hn : n = P.length) (hm : m = Q.length) (hln : n ≤ maxLen) (_hlm : m ≤ maxLen) (hP : NdsAt w A P) (hQ : NdsAt w B Q) :
    Calls Tryz.prog 112 #[.slice A n c, .slice B m d, .func (.func 113) #[] #[]] w fun e w' => e = .returned (.int .i64 (cmpNds P Q)) ∧ BelowD w w' := by
  unfold maxLen at hln _hlm
  have HP := Lib.hid hP
  have HQ := Lib.hid hQ
  have HN := Lib.hid hn
  have HM := Lib.hid hm
  clear hP hQ hn hm
  go_enter Tryz.func112, Tryz.ntmps112
  go_wp2
  go_loopw [7, 8, 9, 10, 13] (fun _ _ _ _ i wr => ∃ k : Nat, k ≤ n ∧ k ≤ m ∧ i = .int .i64 k ∧ Hid (cmpNds P Q = cmpNds (P.drop k) (Q.drop k)) ∧ Hid (w.drawn ≤ wr.drawn) ∧ Below w.heap.size w wr) (fun _ _ _ _ i _ => n - (intOf i).toNat)
  case atStart => exact ⟨0, Nat.zero_le _, Nat.zero_le _, rfl, rfl, Nat.le_refl _, Below.refl _ _⟩
  case round =>
    obtain ⟨k, hkn, hkm, rfl, hc, hdr, hbel⟩ := hrel
    obtain ⟨wo, rfl⟩ : ∃ wo : World, wo = wr := ⟨_, rfl⟩
    by_cases h1 : k < n
    · have h1' : k < P.length := by rw [← HN.out]; exact h1
      obtain ⟨a, rfl, a1, a2, a3, a4⟩ := (HP.out.keep hbel) k P[k] (List.getElem?_eq_getElem h1')
      by_cases h2 : k < m
      · have h2' : k < Q.length := by rw [← HM.out]; exact h2
        obtain ⟨b, rfl, b1, b2, b3, b4⟩ := (HQ.out.keep hbel) k Q[k] (List.getElem?_eq_getElem h2')
        have HA := Lib.hid (hc.out.trans (cmpNds_at h1' h2'))
        have g : ∀ (o : Obj) (x : Addr) (v : Value), wo.cell? x = some v → (wo.alloc o).cell? x = some v := fun o x v h => cell_keep ((Below.refl _ _).alloc (Nat.le_refl _) o) h
        replace b1 := fun o => g o _ _ b1
        replace b2 := fun o => g o _ _ b2
        replace b3 := fun o => g o _ _ b3
        replace b4 := fun o => g o _ _ b4
        clear hc g
        go_wp2_with fail
        refine (val_compareD P[k] Q[k] _).mono ?_
        rintro e w1 ⟨rfl, hb1, hd1⟩
        have hdw := Lib.hid (Nat.le_trans hdr.out hd1)
        clear hd1
        have hbw := Lib.hid ((hbel.alloc (by have := hbel.size; omega) _).alloc (by have := hbel.size; simp; omega) _ |>.trans (hb1.mono (by have := hbel.size; simp; omega)))
        clear hb1 b1 b2 b3 b4 a1 a2 a3 a4
        by_cases h0 : cmpNd P[k] Q[k] = 0
        · have HC := Lib.hid (HA.out.trans (by rw [h0]; rfl : _ = cmpNds (P.drop (k + 1)) (Q.drop (k + 1))))
          rw [h0]
          clear h0 HA
          go_wp2
          go_roundw
          case rel => exact ⟨k + 1, by omega, by omega, by go_num, HC, hdw, hbw.out⟩
          case measure => simp [intOf]; omega
        · have HC := Lib.hid (HA.out.trans (or2_ne h0 _))
          have h0' : (cmpNd P[k] Q[k] == 0) = false := beq_eq_false_iff_ne.2 h0
          clear HA
          go_wp2
          go_ret
          exact ⟨ret_i64 HC.out.symm, hbw.out, hdw.out⟩
      · have HA := Lib.hid (hc.out.trans (cmpNds_end2 h1' (by rw [← HM.out]; omega)))
        clear hc
        go_wp2
        go_ret
        exact ⟨ret_i64 HA.out.symm, hbel.alloc (by have := hbel.size; omega) _, hdr.out⟩
    · obtain rfl : k = n := by omega
      by_cases h2 : k < m
      · have HA := Lib.hid (hc.out.trans (cmpNds_end1 (by rw [← HN.out]; omega) (by rw [← HM.out]; exact h2)))
        clear hc
        go_wp2
        go_ret
        exact ⟨ret_i64 HA.out.symm, hbel, hdr.out⟩
      · have HA := Lib.hid (hc.out.trans (cmpNds_end0 (by rw [← HN.out]; omega) (by rw [← HM.out]; omega)))
        clear hc
        go_wp2
        go_ret
        exact ⟨ret_i64 HA.out.symm, hbel, hdr.out⟩

theorem val_orderD (A B : Option Addr) (n m c d : Nat) (P Q : List Nd) (w : World) (hn : n = P.length) (hm : m = Q.length) (hln : n ≤ maxLen) (hlm : m ≤ maxLen) (hP : NdsAt w A P) (hQ : NdsAt w B Q) :
    Calls Tryz.prog 90 #[.slice A n c, .slice B m d] w fun e w' => e = .returned (.int .i64 (cmpNds P Q)) ∧ BelowD w w' := by
  have H := val_CompareFuncD A B n m c d P Q w hn hm hln hlm hP hQ
  clear hn hm hP hQ
  go_enter Tryz.func90, Tryz.ntmps90
  go_wp2_with fail
  refine H.mono ?_
  rintro e w1 ⟨rfl, hb1⟩
  go_wp2
  go_ret
  exact ⟨rfl, hb1⟩
end Go.Proofs.YtbjbimabgfpdoaaGreatDoor
namespace Go.Proofs.YtbjbimabgfpdoaaGreatDoor
open Go.RowKit Go.Wk Go.Sort Go.Shelf
set_option maxRecDepth 100000

theorem usrt_heap {w : World} {g n : Nat} {os : Array Obj} {cur : Array Value} {e : TypeId} {fr : Nat × Nat} (d : Array Value) (hb : w.heap[g]? = some (.cells cur e fr)) :
    (grow (putRow id (Sort.ahead w n) g 0 d) os).heap[g]? = some (.cells (putCells id 0 d cur) e fr) := by
  have hg : g < w.heap.size := (Array.getElem?_eq_some_iff.1 hb).1
  rw [heap_grow_old _ _ (by simpa using hg)]
  simp [putRow, mapBlock, Sort.ahead, Array.getElem?_modify, hb, onCells]
theorem usrt_grown {w : World} {g n : Nat} {os : Array Obj} (d : Array Value) : w.grownBy (grow (putRow id (Sort.ahead w n) g 0 d) os) (some g) := by
  refine ⟨rfl, rfl, rfl, by simp, fun k hk hne => ?_⟩
  rw [heap_grow_old _ _ (by simpa using hk)]
  have : g ≠ k := fun e => hne (by rw [e])
  simp [putRow, mapBlock, Sort.ahead, Array.getElem?_modify, this]
theorem usrt_take (cur : Array Value) (ts : List Value) (h : ts.length ≤ cur.size) : (putCells id 0 ts.toArray cur).toList.take ts.length = ts := by
  apply List.ext_getElem?
  intro j
  by_cases hj : j < ts.length
  · rw [List.getElem?_take_of_lt hj, Array.getElem?_toList]
    simp [putCells, hj, show j < cur.size by omega]
  · rw [List.getElem?_take_eq_none (by omega), List.getElem?_eq_none (by omega)]
theorem usrt_holds {w : World} {g : Nat} {cur : Array Value} {e : TypeId} {ts : List Value} (hb : w.heap[g]? = some (.cells cur e (0, 0))) (ht : cur.toList.take ts.length = ts) : Holds id w g 0 ts.toArray := by
  intro j hj
  have hj' : j < ts.length := by simpa using hj
  refine ⟨?_, by simp [World.frozen?, hb]⟩
  have h1 : (cur.toList.take ts.length)[j]? = ts[j]? := by rw [ht]
  rw [List.getElem?_take_of_lt hj'] at h1
  simp only [World.cell?, hb, Nat.zero_add]
  simp only [Option.isSome_none, Bool.false_eq_true, if_false]
  rw [← Array.getElem?_toList, h1]
  simp [hj']

def encU (u : Ud) : List Value := [.string u.1, .string u.2]
theorem udCells_get : ∀ (U : List Ud) (t : Nat), t < U.length * 2 → (udCells U)[t]! = (encU U[t / 2]!)[t % 2]!
  | [], t, h => by simp at h
  | u :: U, 0, _ => rfl
  | u :: U, 1, _ => rfl
  | u :: U, t + 2, h => by
    have ih := udCells_get U t (by simp at h; omega)
    have e1 : (t + 2) / 2 = t / 2 + 1 := by omega
    have e2 : (t + 2) % 2 = t % 2 := by omega
    rw [e1, e2]
    simp only [udCells, List.getElem!_cons_succ]
    exact ih
theorem flat_uds (U : List Ud) : flatK encU 2 U.toArray = (udCells U).toArray := ext_get! (by simp) fun t ht => by
  have h : t < U.length * 2 := by simpa using ht
  rw [get_flatK _ _ _ _ (by simpa using h)]
  have := udCells_get U t h
  simp only [List.getElem!_toArray]
  exact this.symm
/-- The order of uids. -/
def cfU (x y : Ud) : Int := cmpUid x.1 x.2 y.1 y.2
theorem cfU_cmp : Cmp cfU := cmpUid_cmp
theorem cfU_swo : SWO (ltOf cfU) where
  irrefl x := by unfold ltOf; rw [cfU_cmp.self]; rfl
  trans x y z h1 h2 := by
    unfold ltOf at *
    simp only [decide_eq_true_eq] at *
    exact cfU_cmp.lt_le h1 (by omega)
  ntrans x y z h1 h2 := by
    unfold ltOf at *
    simp only [decide_eq_false_iff_not] at *
    have a1 := cfU_cmp.anti x y
    have a2 := cfU_cmp.anti y z
    have a3 := cfU_cmp.anti x z
    have := cfU_cmp.trans z y x (by omega) (by omega)
    omega
theorem cfU_parts (x y : Ud) (h1 : ltOf cfU x y = false) (h2 : ltOf cfU y x = false) : x = y := by
  unfold ltOf at *
  simp only [decide_eq_false_iff_not] at *
  have a1 := cfU_cmp.anti x y
  exact (cfU_cmp.zero x y).1 (by omega)
/-- Uids, ascending. -/
def sortU (U : List Ud) : List Ud := U.mergeSort fun x y => !ltOf cfU y x
theorem sortU_perm (U : List Ud) : (sortU U).Perm U := List.mergeSort_perm _ _
set_option maxHeartbeats 400000 in
theorem name_CompareD (a b c d : ByteArray) (w : World) :
    Calls Tryz.prog 50 #[.agg #[.string a, .string b], .agg #[.string c, .string d]] w fun e w' => e = .returned (.int .i64 (cmpUid a b c d)) ∧ BelowD w w' := by
  go_enter Tryz.func50, Tryz.ntmps50
  go_wp2
  refine still_tail 10 (by kernel_rfl) (by kernel_rfl) ?_
  simp only [List.take_succ_cons, List.take_zero, List.drop_succ_cons, List.drop_zero]
  iterate 4 still_step
  still_call (strings_Compare _ _ _)
  iterate 4 still_step
  still_call (strings_Compare _ _ _)
  refine wpStill_nil ?_
  go_wp2_with (go_at_call 72; refine (cmp_Or2 (cmpB a c) (cmpB b d) _ _ (by go_simp) (by go_simp)).mono ?_; rintro e w' ⟨rfl, rfl⟩)
  go_ret
  exact ⟨rfl, ((((Below.refl _ _).alloc (Nat.le_refl _) _).alloc (by simp) _).alloc (by simp; omega) _).drew, Nat.le_succ _⟩
theorem u_cmp (w : World) (g size : Nat) : CmpLays Tryz.prog 50 #[] encU 2 cfU g 0 size w := by
  intro m os dk _ x y
  exact (name_CompareD x.1 x.2 y.1 y.2 _).mono fun e w' ⟨h1, h2⟩ => ⟨h1, h2.grow⟩
theorem uids_SortFunc (w : World) (B g cap : Nat) (U : List Ud) (h : w.ownsRow B 30 2 (.slice (some ⟨g, 0, none⟩) U.length cap) U.length (udCells U)) (hs : U.length ≤ 1000000) :
    Calls Tryz.prog 49 #[.slice (some ⟨g, 0, none⟩) U.length cap, .func (.func 50) #[] #[]] w fun e w' =>
      e = .returned (.tuple #[]) ∧ w'.ownsRow B 30 2 (.slice (some ⟨g, 0, none⟩) U.length cap) U.length (udCells (sortU U)) ∧ w.grownBy w' (some g) := by
  rcases h.2 with ⟨e0, -⟩ | ⟨g', cap', cur, e0, hBg, hh, h1, h2, h3, h4⟩
  · cases e0
  injection e0 with e1 _ e2
  injection e1 with e1
  injection e1 with e1
  subst e1 e2
  have hH : HoldsK encU 2 w g 0 U.toArray := by
    unfold HoldsK
    rw [flat_uds]
    exact usrt_holds hh (by rw [udCells_length]; exact h4)
  have eg : ∀ args w, (callFunc 50 args).run Tryz.prog w = .ok (.enter 50 args) w := enters_of Tryz.func50 (by kernel_rfl) rfl
  have hcon := AnyQ.slices_SortFunc_total Tryz.sortK 2 Tryz.isAgg30 Tryz.sizeOf30 encU (fun _ => rfl) (fun x v hv => by simp [encU] at hv; rcases hv with rfl | rfl <;> rfl) cfU cfU_swo 50 #[] g 0 cap U.toArray w eg (u_cmp w g _) hH (Array.getElem?_eq_some_iff.1 hh).1 (by simp; omega) cfU_parts
  change Calls Tryz.prog 49 _ _ _ at hcon
  have hsz : U.toArray.size = U.length := by simp
  rw [hsz] at hcon
  refine hcon.mono ?_
  rintro e w' ⟨he, n, os, rfl⟩
  have hd : (sortU U).length = U.length := (sortU_perm U).length_eq
  unfold sortWorldK putRowK
  rw [show (U.toArray.toList.mergeSort fun x y => !ltOf cfU y x) = sortU U from rfl, flat_uds]
  refine ⟨he, ⟨by simp [hd], .inr ⟨g, cap, _, rfl, hBg, usrt_heap _ hh, h1, h2, by simp [putCells, h3], ?_⟩⟩, usrt_grown _⟩
  have := usrt_take cur (udCells (sortU U)) (by rw [udCells_length, hd, h3]; exact Nat.mul_le_mul_right _ h1)
  rw [udCells_length, hd] at this
  exact this
end Go.Proofs.YtbjbimabgfpdoaaGreatDoor
namespace Go.Proofs.YtbjbimabgfpdoaaGreatDoor
open Go.RowKit Go.Wk
set_option maxRecDepth 100000

theorem same_drop {P Q : List Ud} {k : Nat} (h1 : k < P.length) (h2 : k < Q.length) : P.drop k = Q.drop k ↔ P[k] = Q[k] ∧ P.drop (k + 1) = Q.drop (k + 1) := by
  rw [List.drop_eq_getElem_cons h1, List.drop_eq_getElem_cons h2, List.cons.injEq]
set_option maxHeartbeats 1000000 in
theorem same_Uids (A B : Option Addr) (n m c d : Nat) (P Q : List Ud) (w : World) (hP : Us w A n c P) (hQ : Us w B m d Q) :
    Calls Tryz.prog 21 #[.slice A n c, .slice B m d] w fun e w' => e = .returned (.bool (decide (P = Q))) ∧ Below w.heap.size w w' := by
  have hln := hP.max
  have hlm := hQ.max
  unfold maxLen at hln hlm
  have HN := Lib.hid hP.len
  have HM := Lib.hid hQ.len
  have HP := Lib.hid hP.at_
  have HQ := Lib.hid hQ.at_
  clear hP hQ
  by_cases hl : n = m
  · subst hl
    go_enter Tryz.func21, Tryz.ntmps21
    go_wp2_with fail
    go_loopw [5] (fun i wr => ∃ k : Nat, k ≤ n ∧ i = .int .i64 k ∧ Hid (P = Q ↔ P.drop k = Q.drop k) ∧ Hid (Below w.heap.size w wr)) (fun i _ => n - (intOf i).toNat)
    case atStart => exact ⟨0, Nat.zero_le _, rfl, by exact Lib.hid (by simp), Below.refl _ _⟩
    case round =>
      obtain ⟨k, hk, rfl, hE, hB⟩ := hrel
      by_cases hlt : k < n
      · have h1 : k < P.length := by rw [← HN.out]; exact hlt
        have h2 : k < Q.length := by rw [← HM.out]; exact hlt
        obtain ⟨a, rfl, a1, a2⟩ := (HP.out.keep hB.out) k P[k] (List.getElem?_eq_getElem h1)
        obtain ⟨b, rfl, b1, b2⟩ := (HQ.out.keep hB.out) k Q[k] (List.getElem?_eq_getElem h2)
        by_cases he : P[k] = Q[k]
        · have HE := Lib.hid (hE.out.trans ((same_drop h1 h2).trans ⟨fun h => h.2, fun h => ⟨he, h⟩⟩))
          rw [he] at a1 a2
          generalize Q[k] = y at *
          clear he hE
          go_wp2_with fail
          go_quiet (fail)
          go_wp2_with fail
          go_roundw
          case rel => exact ⟨k + 1, by omega, by go_num, HE, hB.out.drewN _⟩
          case measure => simp [intOf]; omega
        · have HE := Lib.hid (show ¬ P = Q from fun h => he ((same_drop h1 h2).1 (hE.out.1 h)).1)
          have hne := uid_ne he
          generalize P[k] = x at *
          generalize Q[k] = y at *
          clear he hE
          rcases hne with e1 | ⟨e1, e2⟩
          · go_wp2_with fail
            go_quiet (fail)
            go_wp2_with fail
            go_ret
            exact ⟨ret_bool (decide_eq_false HE.out).symm, hB.out.drewN _⟩
          · go_wp2_with fail
            go_quiet (fail)
            go_wp2_with fail
            go_ret
            exact ⟨ret_bool (decide_eq_false HE.out).symm, hB.out.drewN _⟩
      · have HE := Lib.hid (show P = Q from hE.out.2 (by rw [List.drop_of_length_le (by rw [← HN.out]; omega), List.drop_of_length_le (by rw [← HM.out]; omega)]))
        clear hE
        go_wp2_with fail
        go_ret
        exact ⟨ret_bool (decide_eq_true HE.out).symm, hB.out⟩
  · have HE := Lib.hid (show P ≠ Q from fun h => hl (by rw [HN.out, HM.out, h]))
    have h3 : (n != m) = true := by rw [bne_iff_ne]; exact hl
    clear hl
    go_enter Tryz.func21, Tryz.ntmps21
    go_wp2_with fail
    go_ret
    exact ⟨ret_bool (decide_eq_false HE.out).symm, Below.refl _ _⟩
end Go.Proofs.YtbjbimabgfpdoaaGreatDoor
namespace Go.Proofs.YtbjbimabgfpdoaaGreatDoor
open Go.RowKit Go.Wk
set_option maxRecDepth 100000

set_option maxHeartbeats 1000000 in
theorem ent_check1 (x e : En) (b : Nat) (w : World) (hv : Vr4 w b e) :
    Calls Tryz.prog 27 #[x.v, .pointer (some ⟨b, 0, none⟩)] w fun r w' => r = .returned (.bool (decide (x.u = e.u))) ∧ Below w.heap.size w w' := by
  have B0 := Lib.hid (below_box w (.cells #[.string x.u.1, .string x.u.2, .slice x.UA x.un x.uc, .slice x.NA x.nn x.nc] 36))
  obtain ⟨e0, e1, -, -⟩ := hv.keep B0.out
  clear hv
  have HD := Lib.hid (show decide (x.u = e.u) = (x.u.1.toList == e.u.1.toList && x.u.2.toList == e.u.2.toList) by
    by_cases he : x.u = e.u
    · rw [he]; simp
    · rcases uid_ne he with h1 | ⟨h1, h2⟩
      · rw [decide_eq_false he, h1]; rfl
      · rw [decide_eq_false he, h1, h2]; rfl)
  obtain ⟨d, hd⟩ : ∃ d, d = decide (x.u = e.u) := ⟨_, rfl⟩
  rw [← hd] at HD ⊢
  clear hd
  unfold En.v
  obtain ⟨⟨p1, p2⟩, UA, un, uc, ups, NA, nn, nc, P⟩ := x
  generalize e.u = q at *
  dsimp only at *
  rcases h1 : (p1.toList == q.1.toList) with _ | _
  · rw [h1] at HD
    go_enter Tryz.func27, Tryz.ntmps27
    go_wp2_with fail
    go_ret
    exact ⟨by rw [HD.out]; rfl, B0.out⟩
  · rcases h2 : (p2.toList == q.2.toList) with _ | _
    · rw [h1, h2] at HD
      go_enter Tryz.func27, Tryz.ntmps27
      go_wp2_with fail
      go_ret
      exact ⟨by rw [HD.out]; rfl, B0.out⟩
    · rw [h1, h2] at HD
      go_enter Tryz.func27, Tryz.ntmps27
      go_wp2_with fail
      go_ret
      exact ⟨by rw [HD.out]; rfl, B0.out⟩
def hadE (E : List En) (u : Ud) : Bool := E.any fun x => decide (x.u = u)
theorem hadE_iff {E : List En} {u : Ud} : hadE E u = true ↔ ∃ x ∈ E, x.u = u := by simp [hadE]
theorem hadE_take {E : List En} {k : Nat} (h : k < E.length) (u : Ud) : hadE (E.take (k + 1)) u = (hadE (E.take k) u || decide (E[k].u = u)) := by
  unfold hadE
  rw [List.take_succ_eq_append_getElem h, List.any_append]
  simp
theorem Es.take {w : World} {A : Option Addr} {n c k : Nat} {E : List En} (h : Es w A n c E) (hk : k ≤ n) : Es w A k c (E.take k) :=
  ⟨by rw [List.length_take, ← h.len]; omega, Nat.le_trans hk h.cap, Nat.le_trans hk h.max, fun j x hx => by
    rw [List.getElem?_take] at hx
    split at hx
    · exact h.at_ j x hx
    · cases hx⟩
set_option maxHeartbeats 1000000 in
theorem ents_IndexFunc (A : Option Addr) (n c : Nat) (E : List En) (e : En) (b : Nat) (w : World) (h : Es w A n c E) (hv : Vr4 w b e) :
    Calls Tryz.prog 55 #[.slice A n c, .func (.func 27) #[] #[.pointer (some ⟨b, 0, none⟩)]] w
      fun r w' => (∃ k : Int, r = .returned (.int .i64 k) ∧ (0 ≤ k ↔ hadE E e.u = true)) ∧ Below w.heap.size w w' := by
  have eg : ∀ args w, (callFunc 27 args).run Tryz.prog w = .ok (.enter 27 args) w := enters_of Tryz.func27 (by kernel_rfl) rfl
  have K := Lib.hid (fun x w' hb => ent_check1 x e b w' (hv.keep (w' := w') hb))
  have HL := Lib.hid h.len
  have HM := h.max
  unfold maxLen at HM
  have HA := Lib.hid (h.at_)
  clear h hv
  generalize e.u = u at *
  go_enter Tryz.func55, Tryz.ntmps55
  go_wp2_with fail
  go_loopw [5, 8] (fun _ i wr => ∃ k : Nat, k ≤ n ∧ i = .int .i64 k ∧ Hid (hadE (E.take k) u = false) ∧ Hid (Below w.heap.size w wr)) (fun _ i _ => n - (intOf i).toNat)
  case atStart => exact ⟨0, Nat.zero_le _, rfl, rfl, Lib.hid (Below.refl _ _)⟩
  case round =>
    obtain ⟨k, hk, rfl, hN, hB⟩ := hrel
    by_cases hlt : k < n
    · have hlt' : k < E.length := by rw [← HL.out]; exact hlt
      have HT := Lib.hid (hadE_take hlt' u)
      obtain ⟨a, rfl, q0, q1, q2, q3, -⟩ := (HA.out.keep hB.out) k _ (List.getElem?_eq_getElem hlt')
      have KX := Lib.hid (K.out E[k] wr hB.out)
      have HY := Lib.hid (show decide (E[k].u = u) = true → hadE E u = true from fun he => hadE_iff.2 ⟨_, List.getElem_mem hlt', of_decide_eq_true he⟩)
      generalize E[k] = x at *
      unfold En.v at KX
      rcases hd : decide (x.u = u) with _ | _
      · rw [hd, Bool.or_false, hN.out] at HT
        rw [hd] at KX
        clear hd
        go_wp2_with (go_at_fn 27; refine KX.out.mono ?_; rintro e w1 ⟨rfl, b1⟩)
        have B1 := bh hB b1
        clear q0 q1 q2 q3 hB b1 KX
        go_wp2_with fail
        go_roundw
        case rel => exact ⟨k + 1, by omega, by go_num, HT, B1⟩
        case measure => simp [intOf]; omega
      · rw [hd] at KX
        have HZ := Lib.hid (HY.out hd)
        clear hd HT
        go_wp2_with (go_at_fn 27; refine KX.out.mono ?_; rintro e w1 ⟨rfl, b1⟩)
        have B1 := bh hB b1
        clear q0 q1 q2 q3 hB b1 KX
        go_wp2_with fail
        go_ret
        exact ⟨⟨k, rfl, by rw [HZ.out]; simp⟩, B1.out⟩
    · have HN := Lib.hid (show hadE E u = false by rw [← hN.out, List.take_of_length_le (by rw [← HL.out]; omega)])
      go_wp2_with fail
      go_ret
      exact ⟨⟨-1, rfl, by rw [HN.out]; simp⟩, hB.out⟩
theorem ents_ContainsFunc (A : Option Addr) (n c : Nat) (E : List En) (e : En) (b : Nat) (w : World) (h : Es w A n c E) (hv : Vr4 w b e) :
    Calls Tryz.prog 26 #[.slice A n c, .func (.func 27) #[] #[.pointer (some ⟨b, 0, none⟩)]] w
      fun r w' => r = .returned (.bool (hadE E e.u)) ∧ Below w.heap.size w w' := by
  have K := Lib.hid (ents_IndexFunc A n c E e b w h hv)
  clear h hv
  go_enter Tryz.func26, Tryz.ntmps26
  go_wp2_with fail
  refine K.out.mono ?_
  rintro r w1 ⟨⟨k, rfl, hk⟩, b1⟩
  have B1 := Lib.hid b1
  have HK := Lib.hid (show decide (0 ≤ k) = hadE E e.u by
    rcases hu : hadE E e.u with _ | _
    · exact decide_eq_false (fun h => by have := hk.1 h; rw [hu] at this; cases this)
    · exact decide_eq_true (hk.2 hu))
  clear hk b1
  go_wp2_with fail
  go_ret
  exact ⟨by rw [← HK.out]; rfl, B1.out⟩
end Go.Proofs.YtbjbimabgfpdoaaGreatDoor
namespace Go.Proofs.YtbjbimabgfpdoaaGreatDoor
open Go.RowKit Go.Wk Go.Maps
set_option maxRecDepth 100000

/-- What is wrong with entities, one by one. -/
def entsFault : List En → List En → Int
  | _, [] => 0
  | M, x :: r => if uidFault x.u = 0 then (if hadE M x.u = true then 6 else if entF x = 0 then entsFault (M ++ [x]) r else entF x) else uidFault x.u
open Classical in
/-- What is wrong with a store. -/
noncomputable def storeF (E : List En) : Int := if 16 < E.length then 4 else if entsFault [] E = 0 then (if ∃ x ∈ E, Abv (graphE E) x.u x.u then 7 else 0) else entsFault [] E
theorem ents_step {L : List En} {k : Nat} (h : k < L.length) : entsFault (L.take k) (L.drop k) = if uidFault L[k].u = 0 then (if hadE (L.take k) L[k].u = true then 6 else if entF L[k] = 0 then entsFault (L.take (k + 1)) (L.drop (k + 1)) else entF L[k]) else uidFault L[k].u := by
  rw [List.drop_eq_getElem_cons h, List.take_succ_eq_append_getElem h]
  rfl
theorem entF_ups {x : En} (h : entF x = 0) : x.ups.length ≤ 6 := by
  unfold entF at h
  split at h
  · cases h
  · omega
theorem ents_ok : ∀ (r M : List En), entsFault M r = 0 → (∀ x ∈ r, uidFault x.u = 0 ∧ entF x = 0) ∧ (∀ x ∈ r, ∀ y ∈ M, y.u ≠ x.u) ∧ (r.map En.u).Nodup
  | [], _, _ => ⟨fun x hx => (nomatch hx), fun x hx => (nomatch hx), List.nodup_nil⟩
  | x :: r, M, h => by
    unfold entsFault at h
    by_cases h1 : uidFault x.u = 0
    · rw [if_pos h1] at h
      by_cases h2 : hadE M x.u = true
      · rw [if_pos h2] at h; cases h
      · rw [if_neg h2] at h
        by_cases h3 : entF x = 0
        · rw [if_pos h3] at h
          obtain ⟨a, b, c⟩ := ents_ok r _ h
          refine ⟨fun y hy => ?_, fun y hy z hz => ?_, ?_⟩
          · rcases List.mem_cons.1 hy with rfl | hy
            · exact ⟨h1, h3⟩
            · exact a y hy
          · rcases List.mem_cons.1 hy with rfl | hy
            · exact fun e => h2 (hadE_iff.2 ⟨z, hz, e⟩)
            · exact b y hy z (List.mem_append_left _ hz)
          · rw [List.map_cons, List.nodup_cons]
            refine ⟨fun hm => ?_, c⟩
            obtain ⟨y, hy, e⟩ := List.mem_map.1 hm
            exact b y hy x (by simp) e.symm
        · rw [if_neg h3] at h; exact absurd h h3
    · rw [if_neg h1] at h; exact absurd h h1
theorem allUps_len : ∀ (E : List En), (∀ x ∈ E, entF x = 0) → (allUps E).length ≤ 6 * E.length
  | [], _ => Nat.le_refl _
  | x :: r, h => by
    have h1 := allUps_len r (fun y hy => h y (by simp [hy]))
    have h2 := entF_ups (h x (by simp))
    unfold allUps at h1 ⊢
    rw [List.flatMap_cons, List.length_append, List.length_cons]
    omega
theorem has_mapU (L : List (Ud × Value)) (kl : Lit) : has (mapU L) kl = true ↔ ∃ x ∈ L, kl = keyU x.1 := by
  refine snoc_ind (C := fun L => has (mapU L) kl = true ↔ ∃ x ∈ L, kl = keyU x.1) ?_ (fun L p ih => ?_) L
  · exact ⟨fun h => absurd h (by simp [mapU, has]), fun ⟨x, hx, _⟩ => by cases hx⟩
  · rw [mapU_snoc]
    by_cases h : kl = keyU p.1
    · subst h
      rw [has_put_same (isMap_mapU L) (keyU_lit _)]
      exact ⟨fun _ => ⟨p, by simp, rfl⟩, fun _ => rfl⟩
    · rw [has_put_other h, ih]
      constructor
      · rintro ⟨x, hx, e⟩; exact ⟨x, by simp [hx], e⟩
      · rintro ⟨x, hx, e⟩
        rcases List.mem_append.1 hx with hx | hx
        · exact ⟨x, hx, e⟩
        · simp only [List.mem_cons, List.not_mem_nil, or_false] at hx; subst hx; exact absurd e h
/-- In the midst of the range over the store. -/
structure RgAt (w wr : World) (E : List En) (B n r : Nat) (left : Lit → Bool) (cnt : Nat) : Prop where
  rg : wr.ranges Tryz.prog 30 heldR B r n (mapU (putsE E)) left cnt
  has : ∀ kl, left kl = true → ∃ x ∈ E, kl = keyU x.u
  seen : ∀ x ∈ E, left (keyU x.u) = false → ¬ Abv (graphE E) x.u x.u
  below : Below w.heap.size w wr
theorem RgAt.start {w wr : World} {E : List En} {B n r cnt : Nat} (h : wr.ranges Tryz.prog 30 heldR B r n (mapU (putsE E)) (Maps.has (mapU (putsE E))) cnt) (hb : Below w.heap.size w wr) : RgAt w wr E B n r (Maps.has (mapU (putsE E))) cnt :=
  { rg := h
    has := fun kl hk => by
      obtain ⟨y, hy, e⟩ := (has_mapU _ _).1 hk
      obtain ⟨x, hx, rfl⟩ := List.mem_map.1 hy
      exact ⟨x, hx, e⟩
    seen := fun x hx hf => by
      have : Maps.has (mapU (putsE E)) (keyU x.u) = true := (has_mapU _ _).2 ⟨(x.u, x.v), List.mem_map.2 ⟨x, hx, rfl⟩, rfl⟩
      rw [this] at hf; cases hf
    below := hb }
theorem RgAt.step {w wr w' : World} {E : List En} {B n r cnt cnt' : Nat} {left : Lit → Bool} (h : RgAt w wr E B n r left cnt) (hok : ∀ x ∈ E, UOk x.u) {y : En} (hy : y ∈ E) (hno : ¬ Abv (graphE E) y.u y.u)
    (hr : w'.ranges Tryz.prog 30 heldR B r n (mapU (putsE E)) (fun z => left z && !z.sameKey (keyU y.u)) cnt') (hb : Below w.heap.size w w') : RgAt w w' E B n r (fun z => left z && !z.sameKey (keyU y.u)) cnt' :=
  ⟨hr, fun kl hk => h.has kl (by
    have : (left kl && !kl.sameKey (keyU y.u)) = true := hk
    rw [Bool.and_eq_true] at this
    exact this.1), fun x hx hf => by
    by_cases h1 : left (keyU x.u) = true
    · have hf' : (left (keyU x.u) && !(keyU x.u).sameKey (keyU y.u)) = false := hf
      rw [h1, Bool.true_and] at hf'
      have h2 : (keyU x.u).sameKey (keyU y.u) = true := by simpa using hf'
      have e := keyU_inj (hok x hx) (hok y hy) (WideAt.sameKey_eq h2)
      rw [e]; exact hno
    · exact h.seen x hx (by simpa using h1), hb⟩

theorem cell_block_lt {w : World} {a : Addr} {v : Value} (h : w.cell? a = some v) : a.block < w.heap.size := by
  rcases Nat.lt_or_ge a.block w.heap.size with h1 | h1
  · exact h1
  · have : w.heap[a.block]? = none := Array.getElem?_eq_none h1
    simp [World.cell?, this] at h
theorem Es.enok {w : World} {A : Option Addr} {n c : Nat} {E : List En} (h : Es w A n c E) : ∀ x ∈ E, EnOk w x := fun x hx => by
  obtain ⟨k, hk, rfl⟩ := List.getElem_of_mem hx
  obtain ⟨_, _, _, _, _, _, h6⟩ := h.at_ k _ (List.getElem?_eq_getElem hk)
  exact h6
/-- The store of entities that came in. -/
theorem Es.store {w w' : World} {A : Option Addr} {n c bs bm : Nat} {E : List En} (h : Es w A n c E) (hb : Below w.heap.size w w') (hm : w'.ownsMap Tryz.prog 30 heldR bs E.length (mapU (putsE E))) (hne : bs ≠ bm) (hs : w.heap.size ≤ bm) : StoreAt w' bs bm E :=
  ⟨hm, hne, fun x hx => ((h.keep hb).enok x hx).us, fun x hx hp a ha e => by
    obtain ⟨a', e', h1, _⟩ := (h.enok x hx).us.at_ 0 _ (List.getElem?_eq_getElem hp)
    rw [ha] at e'
    injection e' with e'
    injection e with e
    have := cell_block_lt h1
    rw [add_block, ← e', ← e] at this
    omega⟩

set_option maxHeartbeats 4000000 in
theorem ent_Check (A : Option Addr) (n c : Nat) (E : List En) (w : World) (h : Es w A n c E) :
    Calls Tryz.prog 7 #[.slice A n c] w fun e w' => e = .returned (errV (storeF E)) ∧ Below w.heap.size w w' := by
  have hlen := h.len
  by_cases h16 : 16 < n
  · have HE := Lib.hid (show storeF E = 4 by unfold storeF; rw [if_pos (by omega)])
    rw [HE.out]
    clear hlen h
    go_enter Tryz.func7, Tryz.ntmps7
    go_wp2_with fail
    go_ret
    exact ⟨rfl, Below.refl _ _⟩
  · have HE := Lib.hid (show storeF E = _ by unfold storeF; rw [if_neg (by omega)])
    generalize storeF E = SF at *
    have KW := Lib.hid (fun (u : Ud) (hu : UOk u) w => name_Write u.1 u.2 w hu.1 hu.2)
    have HH := Lib.hid h
    have HUO := Lib.hid h.uok
    have hcap := h.cap
    have HL := Lib.hid hlen
    have hd : decide ((16 : Int) < (n : Int)) = false := decide_eq_false (by omega)
    clear hlen h
    go_enter Tryz.func7, Tryz.ntmps7
    go_wp2_with fail
    go_loopw [3, 4, 5, 6, 7, 17] (fun _ _ _ _ _ i wr => ∃ k : Nat, k ≤ n ∧ i = .int .i64 k ∧ Hid (entsFault [] E = entsFault (E.take k) (E.drop k)) ∧ Hid (Below w.heap.size w wr)) (fun _ _ _ _ _ i _ => n - (intOf i).toNat)
    case atStart => exact ⟨0, Nat.zero_le _, rfl, rfl, Lib.hid (Below.refl _ _)⟩
    case round =>
      obtain ⟨k, hk, rfl, hF, hB⟩ := hrel
      by_cases hlt : k < n
      · have hlt' : k < E.length := by rw [← HL.out]; exact hlt
        have HS := Lib.hid (ents_step hlt')
        obtain ⟨a, rfl, q0, q1, q2, q3, -⟩ := (HH.out.at_.keep hB.out) k _ (List.getElem?_eq_getElem hlt')
        obtain ⟨_, -, -, -, -, -, hxo⟩ := (HH.out.at_) k _ (List.getElem?_eq_getElem hlt')
        have HXO := Lib.hid hxo
        have HUK := Lib.hid (HUO.out _ (List.getElem_mem hlt'))
        clear hxo
        generalize E[k] = x at *
        have K1 := Lib.hid (KW.out x.u HUK.out)
        go_wp2_with fail
        have B1 := bh hB (below_box wr (.cells #[.string x.u.1, .string x.u.2, .slice x.UA x.un x.uc, .slice x.NA x.nn x.nc] 36))
        have V1 := Lib.hid (vr4_new wr x 36)
        obtain ⟨w1, hw1⟩ : ∃ w1, wr.alloc (.cells #[.string x.u.1, .string x.u.2, .slice x.UA x.un x.uc, .slice x.NA x.nn x.nc] 36) = w1 := ⟨_, rfl⟩
        rw [hw1] at V1 B1 ⊢
        clear hw1 hB q0 q1 q2 q3
        refine (K1.out w1).mono ?_
        rintro e w2 ⟨rfl, b2⟩
        have B2 := bh B1 b2
        have V2 := Lib.hid (V1.out.keep b2)
        clear K1 b2 B1 V1
        by_cases hu : uidFault (x.u.1, x.u.2) = 0
        · have hu' : uidFault x.u = 0 := hu
          rw [hu, errV_zero]
          rw [if_pos hu'] at HS
          clear hu hu'
          have K2 := Lib.hid (ents_ContainsFunc (some a) k c (E.take k) x wr.heap.size w2 ((HH.out.keep B2.out).take hk) V2.out)
          go_wp2_with fail
          refine K2.out.mono ?_
          rintro e w3 ⟨rfl, b3⟩
          have B3 := bh B2 b3
          have V3 := Lib.hid (V2.out.keep b3)
          clear K2 b3 B2 V2
          rcases hh : hadE (E.take k) x.u with _ | _
          · rw [hh, if_neg (by decide)] at HS
            have K3 := Lib.hid (ent_one x w3 (HXO.out.keep B3.out))
            obtain ⟨c0, c1, c2, c3⟩ := V3.out
            unfold En.v at K3
            clear hh
            go_wp2_with fail
            refine K3.out.mono ?_
            rintro e w4 ⟨rfl, b4⟩
            have B4 := bh B3 b4
            clear K3 b4 B3 V3 c0 c1 c2 c3
            by_cases h1 : entF x = 0
            · rw [if_pos h1] at HS
              have HF := Lib.hid (hF.out.trans HS.out)
              rw [h1, errV_zero]
              clear h1 HS hF
              go_wp2_with fail
              go_roundw
              case rel => exact ⟨k + 1, by omega, by go_num, HF, B4⟩
              case measure => simp [intOf]; omega
            · rw [if_neg h1] at HS
              have HF := Lib.hid (hF.out.trans HS.out)
              have HE2 := Lib.hid (show SF = entF x by rw [HE.out, HF.out, if_neg h1])
              rw [errV_ne h1]
              have hun := Lib.hid h1
              clear h1 HS hF
              generalize entF x = f at *
              go_wp2_with fail
              go_ret
              exact ⟨by rw [HE2.out, errV_ne hun.out]; rfl, B4.out⟩
          · rw [hh, if_pos rfl] at HS
            have HF := Lib.hid (hF.out.trans HS.out)
            have HE2 := Lib.hid (show SF = 6 by rw [HE.out, HF.out]; rfl)
            clear hh HS hF
            go_wp2_with fail
            go_ret
            exact ⟨by rw [HE2.out]; rfl, B3.out⟩
        · have hu' : uidFault x.u ≠ 0 := hu
          rw [if_neg hu'] at HS
          have HE2 := Lib.hid (show SF = uidFault (x.u.1, x.u.2) by rw [HE.out, hF.out, HS.out, if_neg hu'])
          rw [errV_ne hu]
          have hun := Lib.hid hu
          clear hu hu' HS hF
          generalize uidFault (x.u.1, x.u.2) = f at *
          go_wp2_with fail
          go_ret
          exact ⟨by rw [HE2.out, errV_ne hun.out]; rfl, B2.out⟩
      · have HF := Lib.hid (show entsFault [] E = 0 by rw [hF.out, List.drop_of_length_le (by rw [← HL.out]; omega)]; rfl)
        have HE7 := Lib.hid (show (∃ x, x ∈ E ∧ Abv (graphE E) x.u x.u) → SF = 7 from fun hx => by rw [HE.out, if_pos HF.out, if_pos hx])
        have HE0 := Lib.hid (show ¬ (∃ x, x ∈ E ∧ Abv (graphE E) x.u x.u) → SF = 0 from fun hx => by rw [HE.out, if_pos HF.out, if_neg hx])
        clear HE
        obtain ⟨ho1, -, ho2⟩ := ents_ok E [] HF.out
        have HO1 := Lib.hid ho1
        have HO2 := Lib.hid ho2
        have K1 := Lib.hid (ent_stored A n c E wr (HH.out.keep hB.out) (by omega))
        clear hF ho1 ho2 KW
        go_wp2_with fail
        refine K1.out.mono ?_
        rintro e w1 ⟨b, rfl, hwb, hO, b1⟩
        have HO := Lib.hid hO
        have B1 := bh hB b1
        have WB := Lib.hid (show w.heap.size ≤ b from Nat.le_trans hB.out.size hwb)
        clear K1 hB hwb hO b1
        go_wp2_with (at_range; refine wpList_range_own _ rfl _ 62 rfl 30 36 uidKeyed Tryz.underlying62 heldR b n (mapU (putsE E)) rfl HO.out ?_; intro w2 hrg hg hs)
        go_frame
        have R2 := Lib.hid (RgAt.start (w := w) hrg (B1.out.grown hg B1.out.size (fun g hg => by cases hg)))
        have WR := Lib.hid (show w.heap.size ≤ w1.heap.size from B1.out.size)
        generalize w1.heap.size = r at *
        clear hrg hg hs HO B1
        generalize Maps.has (mapU (putsE E)) = left0 at *
        generalize Maps.size (mapU (putsE E)) = cnt0 at *
        go_loopw [9, 10] (fun _ _ wr => ∃ left cnt, Hid (RgAt w wr E b n r left cnt)) (fun _ _ wr => wr.rangeLeft b r)
        case atStart => exact ⟨_, _, R2⟩
        case round =>
          clear R2
          obtain ⟨left, cnt, hR⟩ := hrel
          go_wp2_with (at_next; refine wpList_next_ranges _ rfl _ rfl 30 uidKeyed heldR (fun v : Value => v) (fun v : Value => v) (fun key kl _ => ⟨key, rfl⟩) (fun v y _ => ⟨v, rfl⟩) b r n (mapU (putsE E)) left cnt rfl hR.out.rg ?_ ?_)
          · intro hc0 hl0
            have HE2 := Lib.hid (HE0.out (fun ⟨x, hx, h⟩ => hR.out.seen x hx (hl0 _) h))
            clear hc0 hl0
            go_wp2_with fail
            go_ret
            exact ⟨by rw [HE2.out]; rfl, hR.out.below⟩
          · intro x v kl y yp w2 cnt' hkey hlk hv hat hrg hlt' hgr hsz hen
            obtain ⟨e, he, rfl⟩ := hR.out.has kl hlk
            have hxe : x = udV e.u := uidKeyed.inj hkey (keyOf_ud e.u (HUO.out e he))
            subst hxe
            clear hkey hlk hv hat
            unfold udV at hen
            have R2 := Lib.hid hrg
            have B2 := Lib.hid (hR.out.below.grown hgr hR.out.below.size (fun g hg => by cases hg; exact WR.out))
            have HLT := Lib.hid hlt'
            have HE := Lib.hid he
            clear hrg hlt' hgr hsz he
            have hmm := @run_makeMap Tryz.prog
            have P3 := Lib.hid (vr2_new w2 (.string e.u.1) (.string e.u.2) 30)
            have B3 := bh B2 (below_box w2 (.cells #[.string e.u.1, .string e.u.2] 30))
            have R3 := Lib.hid (R2.out.alloc (.cells #[.string e.u.1, .string e.u.2] 30))
            go_wp2_with fail
            obtain ⟨w3, hw3⟩ : ∃ w3, w2.alloc (.cells #[.string e.u.1, .string e.u.2] 30) = w3 := ⟨_, rfl⟩
            have hs3 : w3.heap.size = w2.heap.size + 1 := by rw [← hw3]; simp
            rw [hw3] at P3 B3 R3 ⊢
            rw [← hs3]
            have HB2 := Lib.hid (show w2.heap.size ≠ w3.heap.size by omega)
            clear hw3 hs3 hen R2 B2
            have P4 := Lib.hid (P3.out.keep (below_box w3 (.map #[] 0)))
            have B4 := bh B3 (below_box w3 (.map #[] 0))
            have R4 := Lib.hid (R3.out.alloc (.map #[] 0))
            have M4 := Lib.hid (show MetAt (w3.alloc (.map #[] 0)) w3.heap.size [] from World.ownsMap_made _ _ _ _)
            have HB := Lib.hid R3.out.owns.lt
            have HR := Lib.hid R3.out.lt
            have HBM := Lib.hid B3.out.size
            have S4 := Lib.hid (HH.out.store B4.out (by rw [← HL.out]; exact R4.out.owns) (Nat.ne_of_lt HB.out) B3.out.size)
            generalize w3.alloc (.map #[] 0) = w4 at *
            generalize w3.heap.size = bm at *
            generalize w2.heap.size = bu at *
            have hun := Nat.le_trans (unmet_le (allUps E) []) (allUps_len E (fun x hx => (HO1.out x hx).2))
            have KA := Lib.hid (ent_above E b bm HO2.out HUO.out 100 w4 e.u [] (HUO.out e HE.out) (fun x hx => (nomatch hx)) (by have := HL.out; omega) (by have := HL.out; simp only [List.length_nil]; omega) S4.out M4.out)
            unfold udV at KA
            clear hun P3 B3 R3 M4 S4
            refine KA.out.mono ?_
            rintro e2 w5 ⟨rfl, M', hA, hok', -, hm', hg'⟩
            have M5 := Lib.hid hm'
            have R5 := Lib.hid (R4.out.kept hg' (by intro h; injection h with h; have := HB.out; omega) (by intro h; injection h with h; have := HR.out; omega))
            have c0 := hg'.cell P4.out.c0 (by intro h; injection h with h; exact HB2.out h)
            have c1 := hg'.cell P4.out.c1 (by intro h; injection h with h; exact HB2.out h)
            have B5 := Lib.hid (B4.out.grown hg' B4.out.size (fun g hg => by cases hg; exact HBM.out))
            have HK := Lib.hid (keyOf_ud e.u (HUO.out e HE.out))
            unfold udV at HK
            have HAM := Lib.hid (at_mapU (metM M') e.u (HUO.out e HE.out) (.int .i64 0) (metM_ok hok'))
            rw [lastU_met] at HAM
            have HAA := Lib.hid (adds_all hA e.u)
            clear hA hok' hm' hg' KA R4 P4 B4
            by_cases hp : e.u ∈ M'
            · rw [if_pos (hadU_iff.2 hp)] at HAM
              have HE2 := Lib.hid (HE7.out ⟨e, HE.out, HAA.out.1 hp⟩)
              clear hp
              go_wp2_with (at_lookup; refine wpList_lookup_at _ rfl _ _ 64 rfl 30 3 uidKeyed Tryz.underlying64 (zero_int _) bm M'.length _ rfl M5.out _ _ rfl HK.out _ HAM.out ?_)
              go_wp2_with fail
              go_ret
              exact ⟨by rw [HE2.out]; rfl, B5.out⟩
            · rw [if_neg (fun e => hp (hadU_iff.1 e))] at HAM
              have HNA := Lib.hid (fun h => hp (HAA.out.2 h))
              clear hp
              go_wp2_with (at_lookup; refine wpList_lookup_at _ rfl _ _ 64 rfl 30 3 uidKeyed Tryz.underlying64 (zero_int _) bm M'.length _ rfl M5.out _ _ rfl HK.out _ HAM.out ?_)
              go_wp2_with fail
              go_roundw
              case rel => exact ⟨_, _, Lib.hid (hR.out.step HUO.out HE.out HNA.out R5.out B5.out)⟩
              case measure => rw [R5.out.left_eq, hR.out.rg.left_eq]; exact HLT.out
end Go.Proofs.YtbjbimabgfpdoaaGreatDoor
namespace Go.Proofs.YtbjbimabgfpdoaaGreatDoor
open Go.RowKit Go.Wk Go.Maps
set_option maxRecDepth 100000

theorem store_ok {E : List En} (h : storeF E = 0) : E.length ≤ 16 ∧ entsFault [] E = 0 ∧ ∀ x ∈ E, ¬ Abv (graphE E) x.u x.u := by
  unfold storeF at h
  split at h
  · cases h
  · rename_i h1
    split at h
    · rename_i h2
      split at h
      · cases h
      · rename_i h3
        exact ⟨by omega, h2, fun x hx hc => h3 ⟨x, hx, hc⟩⟩
    · rename_i h2; exact absurd h h2
open Classical in
/-- What In tells. -/
noncomputable def inB (E : List En) (a b : Ud) : Bool := decide (storeF E = 0 ∧ (b = a ∨ Abv (graphE E) a b))
theorem Vr2.but {w w' : World} {b : Nat} {x y : Value} {g : Option Nat} (h : Vr2 w b x y) (hg : w.grownBy w' g) (hn : some b ≠ g) : Vr2 w' b x y :=
  have hl := block_lt_of_cell h.c0
  have hb := hg.block b hl hn
  ⟨(World.cell?_of_block (a := ⟨b, 0, none⟩) hb).trans h.c0, (World.cell?_of_block (a := ⟨b, 1, none⟩) hb).trans h.c1, (World.frozen?_of_block (a := ⟨b, 0, none⟩) hb).trans h.z0, (World.frozen?_of_block (a := ⟨b, 1, none⟩) hb).trans h.z1⟩
theorem below_drew (w : World) : Below w.heap.size w w.drew := ⟨rfl, rfl, rfl, Nat.le_refl _, fun _ _ => rfl⟩
theorem inB_true {E : List En} {a b : Ud} (hs : storeF E = 0) (h : b = a ∨ Abv (graphE E) a b) : inB E a b = true := by unfold inB; exact @decide_eq_true _ (_) ⟨hs, h⟩
theorem inB_false {E : List En} {a b : Ud} (h : ¬ (b = a ∨ Abv (graphE E) a b)) : inB E a b = false := by unfold inB; exact @decide_eq_false _ (_) fun h2 => h h2.2
theorem inB_bad {E : List En} {a b : Ud} (h : storeF E ≠ 0) : inB E a b = false := by unfold inB; exact @decide_eq_false _ (_) fun h2 => h h2.1

set_option maxHeartbeats 4000000 in
theorem ent_In (A : Option Addr) (n c : Nat) (E : List En) (a b : Ud) (w : World) (h : Es w A n c E) (ha : UOk a) (hb : UOk b) :
    Calls Tryz.prog 22 #[.slice A n c, udV a, udV b] w fun e w' => e = .returned (.tuple #[.bool (inB E a b), errV (storeF E)]) ∧ Below w.heap.size w w' := by
  have hmm := @run_makeMap Tryz.prog
  have HH := Lib.hid h
  have HUO := Lib.hid h.uok
  have HL := Lib.hid h.len
  have HA := Lib.hid ha
  have HBO := Lib.hid hb
  clear h ha hb
  unfold udV
  go_enter Tryz.func22, Tryz.ntmps22
  go_wp2_with fail
  have hsz : (w.alloc (.cells #[.string a.1, .string a.2] 30)).heap.size = w.heap.size + 1 := by simp
  have P0 := Lib.hid (vr2_new w (.string a.1) (.string a.2) 30)
  have B0 := Lib.hid (below_box w (.cells #[.string a.1, .string a.2] 30))
  obtain ⟨w0, hw0⟩ : ∃ w0, w.alloc (.cells #[.string a.1, .string a.2] 30) = w0 := ⟨_, rfl⟩
  rw [hw0] at P0 B0 hsz ⊢
  rw [← hsz]
  have HZ := Lib.hid (show w.heap.size ≠ w0.heap.size by omega)
  clear hw0 hsz
  have P1 := Lib.hid (P0.out.keep (below_box w0 (.cells #[.string b.1, .string b.2] 30)))
  have Q1 := Lib.hid (vr2_new w0 (.string b.1) (.string b.2) 30)
  have B1 := bh B0 (below_box w0 (.cells #[.string b.1, .string b.2] 30))
  obtain ⟨w1, hw1⟩ : ∃ w1, w0.alloc (.cells #[.string b.1, .string b.2] 30) = w1 := ⟨_, rfl⟩
  have HZ1 := Lib.hid (show w0.heap.size < w1.heap.size by rw [← hw1]; simp)
  rw [hw1] at P1 Q1 B1 ⊢
  have HZ0 := Lib.hid (show w.heap.size < w1.heap.size by have := B0.out.size; have := HZ1.out; omega)
  clear hw1 P0 B0
  generalize w.heap.size = ba at P1 HZ HZ0 ⊢
  generalize w0.heap.size = bb at *
  have K1 := Lib.hid (ent_Check A n c E w1 (HH.out.keep B1.out))
  refine K1.out.mono ?_
  rintro e w2 ⟨rfl, b2⟩
  have P2 := Lib.hid (P1.out.keep b2)
  have Q2 := Lib.hid (Q1.out.keep b2)
  have B2 := bh B1 b2
  have HZ2 := Lib.hid (show ba < w2.heap.size by have := HZ0.out; have := b2.size; omega)
  have HZ3 := Lib.hid (show bb < w2.heap.size by have := HZ1.out; have := b2.size; omega)
  clear K1 P1 Q1 B1 b2
  by_cases hs : storeF E = 0
  · obtain ⟨hs1, hs2, -⟩ := store_ok hs
    obtain ⟨ho1, -, ho2⟩ := ents_ok E [] hs2
    have HO1 := Lib.hid ho1
    have HO2 := Lib.hid ho2
    have H16 := Lib.hid hs1
    have HIN1 := Lib.hid (show (b = a ∨ Abv (graphE E) a b) → inB E a b = true from inB_true hs)
    have HIN0 := Lib.hid (show ¬ (b = a ∨ Abv (graphE E) a b) → inB E a b = false from inB_false)
    have HSE := Lib.hid hs
    rw [hs, errV_zero]
    clear hs hs1 hs2 ho1 ho2
    have HK := Lib.hid (keyOf_ud a HA.out)
    unfold udV at HK
    obtain ⟨c0, c1⟩ := P2.out.keep (below_box w2 (.map #[] 0))
    have M3 := Lib.hid (show MetAt (w2.alloc (.map #[] 0)) w2.heap.size [] from World.ownsMap_made _ _ _ _)
    have P3 := Lib.hid (P2.out.keep (below_box w2 (.map #[] 0)))
    have Q3 := Lib.hid (Q2.out.keep (below_box w2 (.map #[] 0)))
    have B3 := bh B2 (below_box w2 (.map #[] 0))
    have HBM := Lib.hid (show w.heap.size ≤ w2.heap.size from B2.out.size)
    clear P2 Q2 B2
    obtain ⟨w4, hrun, hown, hgrow⟩ := World.ownsMap.update (t := 64) M3.out uidKeyed Tryz.underlying64 (by decide) (val := .int .i64 1) HK.out (R := heldR) rfl
    have M4 := Lib.hid (show MetAt w4 w2.heap.size [a] from hown)
    have P4 := Lib.hid (P3.out.but hgrow (by intro h; injection h with h; have := HZ2.out; rw [h] at this; exact Nat.lt_irrefl _ this))
    have Q4 := Lib.hid (Q3.out.but hgrow (by intro h; injection h with h; have := HZ3.out; rw [h] at this; exact Nat.lt_irrefl _ this))
    have B4 := Lib.hid (B3.out.grown hgrow B3.out.size (fun g hg => by cases hg; exact HBM.out))
    clear hown hgrow P3 Q3 B3 M3
    have K2 := Lib.hid (fun w' (hb : Below w.heap.size w w') => ent_stored A n c E w' (HH.out.keep (hb)) (by have := HL.out; have := H16.out; omega))
    go_wp2_with fail
    clear hrun c0 c1
    generalize w2.heap.size = bm at *
    have hun := Nat.le_trans (unmet_le (allUps E) [a]) (allUps_len E (fun x hx => (HO1.out x hx).2))
    have KA := Lib.hid (fun (bs : Nat) (w' : World) (hS : StoreAt w' bs bm E) (hM : MetAt w' bm [a]) => ent_above E bs bm HO2.out HUO.out 101 w' a [a] HA.out (fun x hx => by simp only [List.mem_cons, List.not_mem_nil, or_false] at hx; subst hx; exact HA.out) (by have := H16.out; omega) (by have := H16.out; simp only [List.length_cons, List.length_nil]; omega) hS hM)
    unfold udV at KA
    have PD := Lib.hid (P4.out.keep (below_drew w4))
    have QD := Lib.hid (Q4.out.keep (below_drew w4))
    have MD := Lib.hid (show MetAt w4.drew bm [a] from M4.out)
    have BD := Lib.hid (show Below w.heap.size w w4.drew from B4.out.trans ((below_drew w4).mono B4.out.size))
    obtain ⟨c0, c1, -, -⟩ := PD.out
    have HLM := Lib.hid (show bm < w4.drew.heap.size from MD.out.lt)
    clear hun P4 Q4 M4 B4
    go_region_with (first
      | (go_at_call 29; (refine (K2.out _ BD.out).mono ?_); rintro e w5 ⟨bs, rfl, hbs, hO, b5⟩; (have P5 := Lib.hid (PD.out.keep b5)); (have Q5 := Lib.hid (QD.out.keep b5)); (obtain ⟨d0, d1, -, -⟩ := PD.out.keep b5); (have B5 := Lib.hid (BD.out.trans (b5.mono BD.out.size))); (have KA5 := Lib.hid (KA.out bs w5 (HH.out.store B5.out (by rw [← HL.out]; exact hO) (Nat.ne_of_gt (Nat.lt_of_lt_of_le HLM.out hbs)) HBM.out) (ownsMap_keep MD.out b5))); clear hbs hO b5)
      | (go_at_call 30; (refine KA5.out.mono ?_); rintro e2 w6 ⟨rfl, M', hA, hok', hc', hm', hg'⟩))
    all_goals
      have M6 := Lib.hid hm'
      have B6 := Lib.hid (B5.out.grown hg' B5.out.size (fun g hg => by cases hg; exact HBM.out))
      obtain ⟨f0, f1, -, -⟩ := Q5.out.but hg' (by intro h; injection h with h; have := HZ3.out; rw [h] at this; exact Nat.lt_irrefl _ this)
      have HAA := Lib.hid (adds_from hA b)
      have HKB := Lib.hid (keyOf_ud b HBO.out)
      unfold udV at HKB
      have HAM := Lib.hid (at_mapU (metM M') b HBO.out (.int .i64 0) (metM_ok hok'))
      rw [lastU_met] at HAM
      clear hA hok' hc' hm' hg' d0 d1 KA5 KA P5 Q5 PD QD c0 c1
    all_goals
      by_cases hp : b ∈ M'
      · rw [if_pos (hadU_iff.2 hp)] at HAM
        have HE2 := Lib.hid (HIN1.out (HAA.out.1 hp))
        clear hp
        go_wp2_with (at_lookup; refine wpList_lookup_at _ rfl _ _ 64 rfl 30 3 uidKeyed Tryz.underlying64 (zero_int _) bm M'.length _ rfl M6.out _ _ rfl HKB.out _ HAM.out ?_)
        go_wp2_with fail
        go_ret2
        exact ⟨by rw [HE2.out, HSE.out]; rfl, B6.out⟩
      · rw [if_neg (fun e => hp (hadU_iff.1 e))] at HAM
        have HE2 := Lib.hid (HIN0.out (fun h => hp (HAA.out.2 h)))
        clear hp
        go_wp2_with (at_lookup; refine wpList_lookup_at _ rfl _ _ 64 rfl 30 3 uidKeyed Tryz.underlying64 (zero_int _) bm M'.length _ rfl M6.out _ _ rfl HKB.out _ HAM.out ?_)
        go_wp2_with fail
        go_ret2
        exact ⟨by rw [HE2.out, HSE.out]; rfl, B6.out⟩
  · have hse := Lib.hid hs
    rw [errV_ne hs]
    clear hs
    go_wp2_with fail
    go_ret2
    exact ⟨by rw [errV_ne hse.out, inB_bad hse.out]; rfl, B2.out⟩
end Go.Proofs.YtbjbimabgfpdoaaGreatDoor
namespace Go.Proofs.YtbjbimabgfpdoaaGreatDoor
open Go.RowKit Go.Wk Go.Maps Go.Sort
set_option maxRecDepth 100000

/-- Those that are above one, ascending. -/
structure UpOf (E : List En) (u : Ud) (U : List Ud) : Prop where
  mem : ∀ x, x ∈ U ↔ Abv (graphE E) u x
  asc : U.Pairwise fun x y => cfU x y < 0
theorem sortU_asc {K : List Ud} (h : K.Nodup) : (sortU K).Pairwise fun x y => cfU x y < 0 := by
  have h1 : (sortU K).Pairwise fun x y => (!ltOf cfU y x) = true := List.pairwise_mergeSort
    (fun a b c h1 h2 => by
      simp only [Bool.not_eq_true'] at *
      exact cfU_swo.ntrans _ _ _ h2 h1)
    (fun a b => by
      rcases h1 : ltOf cfU b a with _ | _
      · simp
      · rcases h2 : ltOf cfU a b with _ | _
        · simp
        · have := cfU_swo.trans _ _ _ h1 h2
          rw [cfU_swo.irrefl] at this; cases this) K
  have h2 : (sortU K).Nodup := (sortU_perm K).nodup_iff.2 h
  refine (List.Pairwise.and h1 h2).imp fun {x y} ⟨h3, h4⟩ => ?_
  simp only [Bool.not_eq_true', ltOf, decide_eq_false_iff_not] at h3
  have a1 := cfU_cmp.anti x y
  have a2 := cfU_cmp.zero x y
  rcases Int.lt_trichotomy (cfU x y) 0 with h5 | h5 | h5
  · exact h5
  · exact absurd (a2.1 h5) h4
  · omega
/-- What the range over the map of those met has collected. -/
structure ColAt (w wr : World) (M K : List Ud) (B bm r n : Nat) (v : Value) (left : Lit → Bool) (cnt N : Nat) : Prop where
  rg : wr.ranges Tryz.prog 30 heldR bm r n (mapU (metM M)) left cnt
  has : ∀ kl, left kl = true → ∃ x ∈ M, kl = keyU x
  seen : ∀ x ∈ M, left (keyU x) = !hadU K x
  sub : ∀ x ∈ K, x ∈ M
  nd : K.Nodup
  len : K.length + cnt ≤ N
  own : wr.ownsRow B 30 2 v K.length (udCells K)
  below : Below w.heap.size w wr
theorem hadU_snoc (K : List Ud) (y x : Ud) : hadU (K ++ [y]) x = (hadU K x || decide (y = x)) := by
  unfold hadU
  rw [List.any_append]
  simp
theorem ColAt.start {w wr : World} {M : List Ud} {B bm r n cnt N : Nat} (h : wr.ranges Tryz.prog 30 heldR bm r n (mapU (metM M)) (Maps.has (mapU (metM M))) cnt) (hN : cnt ≤ N) (hb : Below w.heap.size w wr) :
    ColAt w wr M [] B bm r n (.slice none 0 0) (Maps.has (mapU (metM M))) cnt N where
  rg := h
  has kl hk := by
    obtain ⟨y, hy, e⟩ := (has_mapU _ _).1 hk
    obtain ⟨x, hx, rfl⟩ := List.mem_map.1 hy
    exact ⟨x, hx, e⟩
  seen x hx := by
    have : Maps.has (mapU (metM M)) (keyU x) = true := (has_mapU _ _).2 ⟨(x, .int .i64 1), List.mem_map.2 ⟨x, hx, rfl⟩, rfl⟩
    rw [this]; rfl
  sub x hx := nomatch hx
  nd := List.nodup_nil
  len := by simpa using hN
  own := World.ownsRow_nil _ _ _ _
  below := hb
theorem ColAt.step {w wr w' : World} {M K : List Ud} {B bm r n cnt cnt' N : Nat} {v v' : Value} {left : Lit → Bool} (h : ColAt w wr M K B bm r n v left cnt N) (hok : ∀ x ∈ M, UOk x) {y : Ud} (hy : y ∈ M) (hl : left (keyU y) = true)
    (hr : w'.ranges Tryz.prog 30 heldR bm r n (mapU (metM M)) (fun z => left z && !z.sameKey (keyU y)) cnt') (hc : cnt' < cnt)
    (hown : w'.ownsRow B 30 2 v' (K.length + 1) (udCells K ++ [.string y.1, .string y.2])) (hb : Below w.heap.size w w') :
    ColAt w w' M (K ++ [y]) B bm r n v' (fun z => left z && !z.sameKey (keyU y)) cnt' N where
  rg := hr
  has kl hk := h.has kl (by
    have : (left kl && !kl.sameKey (keyU y)) = true := hk
    rw [Bool.and_eq_true] at this
    exact this.1)
  seen x hx := by
    show (left (keyU x) && !(keyU x).sameKey (keyU y)) = _
    rw [h.seen x hx, hadU_snoc, Bool.not_or]
    congr 2
    by_cases e : y = x
    · subst e; rw [WideAt.sameKey_self (keyU_lit _)]; simp
    · rw [sameKey_ne (fun q => e (keyU_inj (hok x hx) (hok y hy) q).symm)]; simp [e]
  sub x hx := by
    rcases List.mem_append.1 hx with hx | hx
    · exact h.sub x hx
    · simp only [List.mem_cons, List.not_mem_nil, or_false] at hx; subst hx; exact hy
  nd := by
    have hn : y ∉ K := by
      have := h.seen y hy
      rw [hl] at this
      have h2 : hadU K y = false := by simpa using this.symm
      exact hadU_not.1 h2
    rw [List.nodup_append]
    refine ⟨h.nd, by simp, fun a ha b hb e => ?_⟩
    simp only [List.mem_cons, List.not_mem_nil, or_false] at hb
    subst hb; subst e; exact hn ha
  len := by have := h.len; simp only [List.length_append, List.length_cons, List.length_nil]; omega
  own := by
    rw [udCells_append, List.length_append]; exact hown
  below := hb
theorem ColAt.done {w wr : World} {M K : List Ud} {B bm r n cnt N : Nat} {v : Value} {left : Lit → Bool} (h : ColAt w wr M K B bm r n v left cnt N) (hl : ∀ kl, left kl = false) (x : Ud) : x ∈ K ↔ x ∈ M :=
  ⟨h.sub x, fun hx => by
    have := h.seen x hx
    rw [hl] at this
    exact hadU_iff.1 (by simpa using this.symm)⟩
theorem tidy_mapU (L : List (Ud × Value)) : Maps.Tidy (mapU L) := by
  refine snoc_ind (C := fun L => Maps.Tidy (mapU L)) tidy_empty (fun L p ih => ?_) L
  rw [mapU_snoc]; exact ih.put (keyU_lit _) _
theorem size_met (M : List Ud) : Maps.size (mapU (metM M)) ≤ M.length := by
  have key : ∀ L : List (Ud × Value), Maps.size (mapU L) ≤ L.length := fun L => by
    refine snoc_ind (C := fun L => Maps.size (mapU L) ≤ L.length) (Nat.le_refl _) (fun L p ih => ?_) L
    rw [mapU_snoc, size_put (tidy_mapU L), List.length_append]
    split <;> simp <;> omega
  simpa [metM] using key (metM M)
theorem usort_none (w : World) (p : Option Addr) (cap : Nat) (fv : Value) :
    Calls Tryz.prog 49 #[.slice p 0 cap, fv] w fun e w' => e = .returned (.tuple #[]) ∧ w' = w := by
  have hcon := AnyF.slices_SortFunc_none { Tryz.sortK with } p cap fv w
  change Calls Tryz.prog 49 _ _ _ at hcon
  exact hcon
theorem uids_sort (w : World) (B : Nat) (v : Value) (U : List Ud) (h : w.ownsRow B 30 2 v U.length (udCells U)) (hs : U.length ≤ 1000000) :
    Calls Tryz.prog 49 #[v, .func (.func 50) #[] #[]] w fun e w' =>
      e = .returned (.tuple #[]) ∧ w'.ownsRow B 30 2 v U.length (udCells (sortU U)) ∧ w.grownBy w' v.ownBlock := by
  rcases h.2 with ⟨rfl, h0⟩ | ⟨g, cap, cur, rfl, _⟩
  · have : U = [] := List.eq_nil_of_length_eq_zero h0
    subst this
    exact (usort_none w none 0 _).mono fun e w' ⟨h1, h2⟩ => ⟨h1, by rw [h2, List.eq_nil_of_length_eq_zero (sortU_perm []).length_eq]; exact h, by rw [h2]; exact World.grownBy.refl _ _⟩
  · exact uids_SortFunc w B g cap U h hs
/-- What ent.Above tells. -/
def UpPost (w : World) (E : List En) (u : Ud) (e : Ending) (w' : World) : Prop :=
  ∃ (A : Option Addr) (n c : Nat) (U : List Ud), e = .returned (.tuple #[.slice A n c, errV (storeF E)]) ∧ Us w' A n c U ∧ (storeF E ≠ 0 → U = []) ∧ (storeF E = 0 → UpOf E u U) ∧ Below w.heap.size w w'
set_option maxHeartbeats 4000000 in
theorem ent_Above (A : Option Addr) (n c : Nat) (E : List En) (a : Ud) (w : World) (h : Es w A n c E) (ha : UOk a) :
    Calls Tryz.prog 20 #[.slice A n c, udV a] w (UpPost w E a) := by
  obtain ⟨i0, hi, hz0, hz1, hz2⟩ := info_parts udInfo
  have hmm := @run_makeMap Tryz.prog
  have HH := Lib.hid h
  have HUO := Lib.hid h.uok
  have HL := Lib.hid h.len
  have HA := Lib.hid ha
  clear h ha
  unfold udV
  go_enter Tryz.func20, Tryz.ntmps20
  go_wp2_with fail
  have P1 := Lib.hid (vr2_new w (.string a.1) (.string a.2) 30)
  have B1 := Lib.hid (below_box w (.cells #[.string a.1, .string a.2] 30))
  obtain ⟨w1, hw1⟩ : ∃ w1, w.alloc (.cells #[.string a.1, .string a.2] 30) = w1 := ⟨_, rfl⟩
  have HZ1 := Lib.hid (show w.heap.size < w1.heap.size by rw [← hw1]; simp)
  rw [hw1] at P1 B1 ⊢
  clear hw1
  generalize w.heap.size = ba at P1 HZ1 ⊢
  have K1 := Lib.hid (ent_Check A n c E w1 (HH.out.keep B1.out))
  refine K1.out.mono ?_
  rintro e w2 ⟨rfl, b2⟩
  have P2 := Lib.hid (P1.out.keep b2)
  have B2 := bh B1 b2
  have HZ2 := Lib.hid (show ba < w2.heap.size by have := HZ1.out; have := b2.size; omega)
  clear K1 P1 B1 b2
  by_cases hs : storeF E = 0
  · obtain ⟨hs1, hs2, -⟩ := store_ok hs
    obtain ⟨ho1, -, ho2⟩ := ents_ok E [] hs2
    have HO1 := Lib.hid ho1
    have HO2 := Lib.hid ho2
    have H16 := Lib.hid hs1
    have HSE := Lib.hid hs
    rw [hs, errV_zero]
    clear hs hs1 hs2 ho1 ho2
    obtain ⟨c0, c1, -, -⟩ := P2.out.keep (below_box w2 (.map #[] 0))
    have M3 := Lib.hid (show MetAt (w2.alloc (.map #[] 0)) w2.heap.size [] from World.ownsMap_made _ _ _ _)
    have P3 := Lib.hid (P2.out.keep (below_box w2 (.map #[] 0)))
    have B3 := bh B2 (below_box w2 (.map #[] 0))
    have HBM := Lib.hid (show w.heap.size ≤ w2.heap.size from B2.out.size)
    clear P2 B2
    go_wp2_with fail
    generalize w2.alloc (.map #[] 0) = w4 at *
    generalize w2.heap.size = bm at *
    have hun := Nat.le_trans (unmet_le (allUps E) []) (allUps_len E (fun x hx => (HO1.out x hx).2))
    have KA := Lib.hid (fun (bs : Nat) (w' : World) (hS : StoreAt w' bs bm E) (hM : MetAt w' bm []) => ent_above E bs bm HO2.out HUO.out 101 w' a [] HA.out (fun x hx => nomatch hx) (by have := H16.out; omega) (by have := H16.out; simp only [List.length_nil]; omega) hS hM)
    have HUN := Lib.hid (show unmet (allUps E) [] ≤ 96 from Nat.le_trans hun (by have := H16.out; omega))
    unfold udV at KA
    have PD := Lib.hid (P3.out.keep (below_drew w4))
    have MD := Lib.hid (show MetAt w4.drew bm [] from M3.out)
    have BD := Lib.hid (show Below w.heap.size w w4.drew from B3.out.trans ((below_drew w4).mono B3.out.size))
    have K2 := Lib.hid (fun w' (hb : Below w.heap.size w w') => ent_stored A n c E w' (HH.out.keep hb) (by have := HL.out; have := H16.out; omega))
    clear c0 c1
    obtain ⟨c0, c1, -, -⟩ := PD.out
    have HLM := Lib.hid (show bm < w4.drew.heap.size from MD.out.lt)
    clear hun P3 M3 B3
    go_region_with (first
      | (go_at_call 29; (refine (K2.out _ BD.out).mono ?_); rintro e w5 ⟨bs, rfl, hbs, hO, b5⟩; (obtain ⟨d0, d1, -, -⟩ := PD.out.keep b5); (have B5 := Lib.hid (BD.out.trans (b5.mono BD.out.size))); (have KA5 := Lib.hid (KA.out bs w5 (HH.out.store B5.out (by rw [← HL.out]; exact hO) (Nat.ne_of_gt (Nat.lt_of_lt_of_le HLM.out hbs)) HBM.out) (ownsMap_keep MD.out b5))); clear hbs hO b5)
      | (go_at_call 30; (refine KA5.out.mono ?_); rintro e2 w6 ⟨rfl, M', hA, hok', hc', hm', hg'⟩))
    all_goals
      have M6 := Lib.hid hm'
      have B6 := Lib.hid (B5.out.grown hg' B5.out.size (fun g hg => by cases hg; exact HBM.out))
      have HAA := Lib.hid (adds_all hA)
      have HOK := Lib.hid hok'
      have HML := Lib.hid (show M'.length ≤ 96 from by have := HUN.out; simp only [List.length_nil] at hc'; omega)
      clear hA hok' hc' hm' hg' d0 d1 KA5 KA PD c0 c1 B5 BD MD K2
    all_goals
      go_wp2_with (at_range; refine wpList_range_own _ rfl _ 64 rfl 30 3 uidKeyed Tryz.underlying64 heldR bm M'.length (mapU (metM M')) rfl M6.out ?_; intro w7 hrg hg hs)
      go_frame
      have B7 := Lib.hid (B6.out.grown hg B6.out.size (fun g hg => by cases hg))
      have R7 := Lib.hid (ColAt.start (B := w7.heap.size) (N := Maps.size (mapU (metM M'))) hrg (Nat.le_refl _) B7.out)
      have HBR := Lib.hid M6.out.lt
      have HR7 := Lib.hid (show w.heap.size ≤ w6.heap.size from B6.out.size)
      have HN7 := Lib.hid (size_met M')
      have H67 := Lib.hid hs
      clear hrg hg hs B7 M6 B6
      generalize w6.heap.size = r at *
      generalize Maps.has (mapU (metM M')) = left0 at *
      generalize Maps.size (mapU (metM M')) = N at *
    all_goals
      go_loopw [8, 9] (fun v _ wr => ∃ K left cnt, Hid (ColAt w wr M' K w7.heap.size bm r M'.length v left cnt N)) (fun _ _ wr => wr.rangeLeft bm r)
      case atStart => exact ⟨[], _, _, R7⟩
      case round =>
        clear R7
        obtain ⟨K, left, cnt, hR⟩ := hrel
        go_wp2_with (at_next; refine wpList_next_ranges _ rfl _ rfl 30 uidKeyed heldR (fun v : Value => v) (fun v : Value => v) (fun key kl _ => ⟨key, rfl⟩) (fun v y _ => ⟨v, rfl⟩) bm r M'.length (mapU (metM M')) left cnt rfl hR.out.rg ?_ ?_)
        · intro hc0 hl0
          have HD := Lib.hid (hR.out.done hl0)
          have hkl := hR.out.len
          have KS := Lib.hid (uids_sort _ w7.heap.size _ K hR.out.own (by have := HN7.out; have := HML.out; omega))
          clear hc0 hl0 hkl
          go_wp2_with fail
          refine KS.out.mono ?_
          rintro e3 w9 ⟨rfl, hown, hgr⟩
          have HB9 := Lib.hid (hR.out.below.grown hgr hR.out.below.size (fun g hg => by
            have q1 := own_base hR.out.own g hg
            have q2 := HR7.out
            have q3 := H67.out
            omega))
          have hlk : (sortU K).length = K.length := (sortU_perm K).length_eq
          have hmk : ∀ x, x ∈ sortU K ↔ x ∈ M' := fun x => ((sortU_perm K).mem_iff).trans (HD.out x)
          have hkl := hR.out.len
          rw [← hlk] at hown hkl
          obtain ⟨A', c', hv', hus⟩ := us_of_own hown (fun x hx => HOK.out x ((hmk x).1 hx)) (by have := HN7.out; have := HML.out; omega)
          have HUS := Lib.hid hus
          have HUP := Lib.hid (show UpOf E a (sortU K) from ⟨fun x => (hmk x).trans (HAA.out x), sortU_asc hR.out.nd⟩)
          clear hown hgr hkl hlk hmk hus HD KS hR
          subst hv'
          go_wp2_with fail
          go_ret2
          exact ⟨A', _, c', sortU K, by rw [HSE.out]; rfl, HUS.out, fun h => absurd HSE.out h, fun _ => HUP.out, HB9.out⟩
        · intro x v2 kl y yp w8 cnt' hkey hlk hv hat hrg hlt' hgr hsz hen
          obtain ⟨e, he, rfl⟩ := hR.out.has kl hlk
          have hxe : x = udV e := uidKeyed.inj hkey (keyOf_ud e (HOK.out e he))
          subst hxe
          have HY := Lib.hid he
          have HLK := Lib.hid hlk
          clear hkey hlk hv hat
          unfold udV at hen
          have R8 := Lib.hid hrg
          have B8 := Lib.hid (hR.out.below.grown hgr hR.out.below.size (fun g hg => by cases hg; exact HR7.out))
          have O8 := Lib.hid (hR.out.own.kept hgr (by
            rcases hv : u8.ownBlock with _ | g
            · exact .inl rfl
            · right; intro h; injection h with h; have := own_base hR.out.own g hv; have := H67.out; omega))
          have HLT := Lib.hid hlt'
          have HKL := Lib.hid hR.out.len
          clear hrg hlt' hgr hsz he
          have R10 := Lib.hid ((R8.out.alloc (.cells #[.string e.1, .string e.2] 30)).alloc (.cells #[.string e.1, .string e.2] 30))
          have B9 := bh B8 (below_box w8 (.cells #[.string e.1, .string e.2] 30))
          have B10 := bh B9 (below_box (w8.alloc (.cells #[.string e.1, .string e.2] 30)) (.cells #[.string e.1, .string e.2] 30))
          have HC := Lib.hid (show ∀ j u, (udCells [e])[j]? = some u → ((w8.alloc (.cells #[.string e.1, .string e.2] 30)).alloc (.cells #[.string e.1, .string e.2] 30)).cell? ((⟨w8.heap.size + 1, 0, none⟩ : Addr).add j) = some u by
            have := cells_new (w8.alloc (.cells #[.string e.1, .string e.2] 30)) (udCells [e]) 30
            rw [show (w8.alloc (.cells #[.string e.1, .string e.2] 30)).heap.size = w8.heap.size + 1 by simp] at this
            exact this)
          have hkl := HKL.out
          have hnm := HN7.out
          have hml := HML.out
          have h67 := H67.out
          have hr8 := R8.out.lt
          go_wp2_with (at_builtin; go_loud (refine wpList_append_own _ rfl _ _ 31 rfl w7.heap.size 30 i0 _ 2 32 Tryz.underlying31 hi hz0 hz1 hz2 rfl (by decide) _ K.length (udCells K) rfl ((O8.out.alloc _).alloc _) ⟨_, 0, none⟩ 1 1 (udCells [e]) rfl rfl HC.out (udCells_one _) ?c1 ?c2 ?c3 ?_))
          case c1 => unfold maxLen; omega
          case c2 => omega
          case c3 => simp; omega
          intro v1 w11 hown hgrow _
          have B11 := Lib.hid (B10.out.grown hgrow B10.out.size (fun g hg => by
            have q1 := own_base O8.out g hg
            have q2 := HR7.out
            omega))
          have R11 := Lib.hid (R10.out.kept hgrow (by
            intro h
            have q1 := own_base O8.out bm h.symm
            have q2 := HBR.out
            omega) (by
            intro h
            have q1 := own_base O8.out r h.symm
            omega))
          have OW := Lib.hid hown
          clear hown hgrow R10 B9 B10 hkl hnm hml h67 hr8 R8 B8 O8
          go_wp2_with fail
          go_roundw
          case rel => exact ⟨K ++ [e], _, _, Lib.hid (hR.out.step HOK.out HY.out HLK.out R11.out HLT.out (by rw [H67.out]; exact OW.out) B11.out)⟩
          case measure => rw [R11.out.left_eq, hR.out.rg.left_eq]; exact HLT.out
  · have hse := Lib.hid hs
    rw [errV_ne hs]
    clear hs
    go_wp2_with fail
    go_ret2
    exact ⟨none, 0, 0, [], by rw [errV_ne hse.out]; rfl, ⟨rfl, Nat.le_refl _, Nat.zero_le _, fun k x hx => by simp at hx, fun x hx => nomatch hx⟩, fun _ => rfl, fun h => absurd h hse.out, B2.out⟩
end Go.Proofs.YtbjbimabgfpdoaaGreatDoor
namespace Go.Proofs.YtbjbimabgfpdoaaGreatDoor
open Go.RowKit Go.Wk
set_option maxRecDepth 100000

/-- A row of the call's own: a uid, and those found. -/
structure RowU (w : World) (B : Nat) (v : Value) (m : Nat) (u : Ud) (L : List Ud) : Prop where
  len : m = L.length + 1
  own : w.ownsRow B 30 2 v m (udCells (u :: L))
theorem RowU.keep {w w' : World} {B m : Nat} {v : Value} {u : Ud} {L : List Ud} (h : RowU w B v m u L) (hb : Below w.heap.size w w') : RowU w' B v m u L := ⟨h.len, own_kept_below h.own hb⟩
theorem RowU.us {w : World} {B m : Nat} {v : Value} {u : Ud} {L : List Ud} (h : RowU w B v m u L) (hu : UOk u) (hL : ∀ x ∈ L, UOk x) (hl : L.length ≤ 1000) : ∃ A c, v = .slice A m c ∧ Us w A m c (u :: L) := by
  have e : m = (u :: L).length := by rw [h.len]; rfl
  have h2 := h.own
  rw [e] at h2 ⊢
  exact us_of_own h2 (fun x hx => by
    rcases List.mem_cons.1 hx with rfl | hx
    · exact hu
    · exact hL x hx) (by simp; omega)
theorem hadU_snoc1 (K : List Ud) (y x : Ud) : hadU (K ++ [y]) x = (hadU K x || decide (y = x)) := by
  unfold hadU
  rw [List.any_append]
  simp
theorem abv_ok {w : World} {A : Option Addr} {n c : Nat} {E : List En} (h : Es w A n c E) {u y : Ud} (hy : Abv (graphE E) u y) : UOk y := by
  have : ∀ p q, Stp (graphE E) p q → UOk q := fun p q ⟨e, he, _, h2⟩ => by
    obtain ⟨x, hx, rfl⟩ := List.mem_map.1 he
    exact (h.enok x hx).us.ok q h2
  induction hy with
  | one s => exact this _ _ s
  | more _ _ ih => exact ih
set_option maxHeartbeats 1000000 in
/-- with: one more, if it is not there behind the first. -/
theorem ref_with (B : Nat) (v : Value) (m : Nat) (z : Ud) (L : List Ud) (p : Ud) (w : World) (h : RowU w B v m z L) (hB : B ≤ w.heap.size) (hl : L.length ≤ 1000) (hz : UOk z) (hL : ∀ x ∈ L, UOk x) :
    Calls Tryz.prog 48 #[v, udV p] w fun e w' => ∃ v' m', e = .returned v' ∧ RowU w' B v' m' z (addU L p) ∧ w.grownBy w' v.ownBlock := by
  obtain ⟨i0, hi, hz0, hz1, hz2⟩ := info_parts udInfo
  obtain ⟨A, c, rfl, hus⟩ := h.us hz hL hl
  have HM := Lib.hid h.len
  have hm1 : m ≤ 1001 := by have := h.len; omega
  have hm2 : 1 ≤ m := by have := h.len; omega
  have HO := Lib.hid h
  have HU := Lib.hid hus
  have B0 := Lib.hid (below_box w (.cells #[.string p.1, .string p.2] 30))
  have P0 := Lib.hid (vr2_new w (.string p.1) (.string p.2) 30)
  clear h hus hz hL
  unfold udV
  go_enter Tryz.func48, Tryz.ntmps48
  go_wp2_with fail
  obtain ⟨w0, hw0⟩ : ∃ w0, w.alloc (.cells #[.string p.1, .string p.2] 30) = w0 := ⟨_, rfl⟩
  rw [hw0] at P0 B0 ⊢
  clear hw0
  go_loopw [5] (fun i wr => ∃ k : Nat, k ≤ L.length ∧ i = .int .i64 (k + 1 : Nat) ∧ Hid (hadU (L.take k) p = false) ∧ Hid (Below w.heap.size w wr) ∧ Hid (Vr2 wr w.heap.size (.string p.1) (.string p.2))) (fun i _ => m - (intOf i).toNat)
  case atStart => exact ⟨0, Nat.zero_le _, rfl, rfl, B0, P0⟩
  case round =>
    clear B0 P0
    obtain ⟨k, hk, rfl, hN, hB', hV⟩ := hrel
    by_cases hlt : k < L.length
    · have hkm : k + 1 < m := by have := HM.out; omega
      have HT := Lib.hid (hadU_take hlt p)
      obtain ⟨a, rfl, q0, q1⟩ := (HU.out.keep hB'.out).at_ (k + 1) L[k] (by simp [hlt])
      have v0 := cell_regrown hV.out.c0
      have v1 := cell_regrown hV.out.c1
      by_cases he : L[k] = p
      · have HY := Lib.hid (show addU L p = L from if_pos (hadU_iff.2 (he ▸ List.getElem_mem hlt)))
        rw [he] at q0 q1
        have k0 := cell_regrown q0
        have k1 := cell_regrown q1
        clear he q0 q1 HT
        go_wp2_with fail
        refine wp_region_quiet_below (by kernel_rfl) (by kernel_rfl) ?_
        repeat (first | go_big_quiet_step (fail) | quiet_step (fail))
        refine wpQuiet_nil ?_
        intro w1 hw'
        have B1 := Lib.hid (show Below wr.heap.size wr w1 by obtain ⟨⟨d, os⟩, rfl⟩ := hw'; exact below_regrown _ _ _)
        clear hw'
        have BX := bhid hB' B1 (Nat.le_refl _)
        clear k0 k1 v0 v1 hB' B1
        go_wp2_with fail
        go_ret
        exact ⟨_, m, rfl, by rw [HY.out]; exact HO.out.keep BX.out, grown_of_below BX.out _⟩
      · rw [decide_eq_false he, Bool.or_false, hN.out] at HT
        have k0 := cell_regrown q0
        have k1 := cell_regrown q1
        have hne := uid_ne he
        clear he q0 q1
        generalize L[k] = y at *
        rcases hne with h1 | ⟨h1, h2⟩
        · go_wp2_with fail
          refine wp_region_quiet_below (by kernel_rfl) (by kernel_rfl) ?_
          repeat (first | go_big_quiet_step (fail) | quiet_step (fail))
          refine wpQuiet_nil ?_
          intro w1 hw'
          have B1 := Lib.hid (show Below wr.heap.size wr w1 by obtain ⟨⟨d, os⟩, rfl⟩ := hw'; exact below_regrown _ _ _)
          clear hw'
          have BX := bhid hB' B1 (Nat.le_refl _)
          have VX := Lib.hid (hV.out.keep B1.out)
          clear k0 k1 v0 v1 hB' B1 hV
          go_wp2_with fail
          go_roundw
          case rel => exact ⟨k + 1, by omega, by go_num, HT, BX, VX⟩
          case measure => simp [intOf]; omega
        · go_wp2_with fail
          refine wp_region_quiet_below (by kernel_rfl) (by kernel_rfl) ?_
          repeat (first | go_big_quiet_step (fail) | quiet_step (fail))
          refine wpQuiet_nil ?_
          intro w1 hw'
          have B1 := Lib.hid (show Below wr.heap.size wr w1 by obtain ⟨⟨d, os⟩, rfl⟩ := hw'; exact below_regrown _ _ _)
          clear hw'
          have BX := bhid hB' B1 (Nat.le_refl _)
          have VX := Lib.hid (hV.out.keep B1.out)
          clear k0 k1 v0 v1 hB' B1 hV
          go_wp2_with fail
          go_roundw
          case rel => exact ⟨k + 1, by omega, by go_num, HT, BX, VX⟩
          case measure => simp [intOf]; omega
    · have hkm : ¬ k + 1 < m := by have := HM.out; omega
      have HN := Lib.hid (show addU L p = L ++ [p] by
        have e : hadU L p = false := by rw [← hN.out, List.take_of_length_le (by omega)]
        unfold addU; rw [e]; rfl)
      obtain ⟨c0, c1, -, -⟩ := hV.out
      have HC := Lib.hid (cells_new wr (udCells [p]) 30)
      have O1 := Lib.hid ((own_kept_below HO.out.own hB'.out).alloc (.cells (udCells [p]).toArray 30))
      have HB2 := hB'.out.size
      go_wp2_with (at_builtin; go_loud (refine wpList_append_own _ rfl _ _ 31 rfl B 30 i0 _ 2 32 Tryz.underlying31 hi hz0 hz1 hz2 rfl (by decide) _ m (udCells (z :: L)) rfl O1.out ⟨_, 0, none⟩ 1 1 (udCells [p]) rfl rfl HC.out (udCells_one _) ?c1 ?c2 ?c3 ?_))
      case c1 => unfold maxLen; omega
      case c2 => omega
      case c3 => simp; omega
      intro v1 w1 hown hgrow _
      have OW := Lib.hid hown
      have GW := Lib.hid (((grown_of_below hB'.out _).trans (World.grownBy_alloc wr _ _)).trans hgrow)
      clear hown hgrow O1 HC c0 c1
      go_wp2_with fail
      go_ret
      exact ⟨_, m + 1, rfl, ⟨by rw [HN.out, List.length_append, HM.out]; simp, by rw [HN.out, ← List.cons_append, udCells_append]; exact OW.out⟩, GW.out⟩
/-- What Ups tells. -/
def RUps (w : World) (E : List En) (u : Ud) (e : Ending) (w' : World) : Prop :=
  ∃ (A : Option Addr) (n c : Nat) (L : List Ud), e = .returned (.slice A n c) ∧ Us w' A n c L ∧ (∀ y, y ∈ L ↔ Abv (graphE E) u y) ∧ L.Nodup ∧ L.length ≤ 900 ∧ Below w.heap.size w w'
theorem rowu_one (w : World) (u : Ud) : RowU (w.alloc (.cells #[.string u.1, .string u.2] 30)) w.heap.size (.slice (some ⟨w.heap.size, 0, none⟩) 1 1) 1 u [] :=
  ⟨rfl, rfl, .inr ⟨_, 1, _, rfl, Nat.le_refl _, heap_alloc_new w _, Nat.le_refl _, by unfold maxLen; omega, rfl, rfl⟩⟩
theorem RowU.base {w : World} {B m : Nat} {v : Value} {u : Ud} {L : List Ud} (h : RowU w B v m u L) : ∀ g, v.ownBlock = some g → B ≤ g := own_base h.own
theorem graph_at {E : List En} {k : Nat} (h : k < E.length) (h' : k < (graphE E).length) : (graphE E)[k] = (E[k].u, E[k].ups) := by
  simp [graphE]
theorem graph_ups (E : List En) : (graphE E).flatMap (·.2) = allUps E := by
  unfold graphE allUps; rw [List.flatMap_map]
/-- What is behind the first. -/
theorem us_tail {w : World} {A : Option Addr} {m c : Nat} {u : Ud} {L : List Ud} (h : Us w A m c (u :: L)) : ∃ a, A = some a ∧ Us w (some (a.add 2)) (m - 1) (c - 1) L := by
  obtain ⟨a, e, -⟩ := h.at_ 0 u rfl
  have hl := h.len
  have hc := h.cap
  have hm := h.max
  rw [List.length_cons] at hl
  refine ⟨a, e, by omega, by omega, by omega, fun k x hx => ?_, fun x hx => h.ok x (by simp [hx])⟩
  obtain ⟨b, e2, q1, q2⟩ := h.at_ (k + 1) x (by simpa using hx)
  rw [e] at e2
  injection e2 with e2
  subst e2
  refine ⟨_, rfl, ?_⟩
  rw [add_add, show 2 + k * 2 = (k + 1) * 2 by omega]
  exact ⟨q1, q2⟩
set_option maxHeartbeats 8000000 in
theorem ref_Ups (A : Option Addr) (n c : Nat) (E : List En) (u : Ud) (w : World) (h : Es w A n c E) (hu : UOk u) (ha : (allUps E).length ≤ 900) :
    Calls Tryz.prog 18 #[.slice A n c, udV u, .int .i64 n] w (RUps w E u) := by
  have HG := Lib.hid (show n = (graphE E).length by rw [h.len, graphE, List.length_map])
  have HLE := Lib.hid (show ∀ (L L' : List Ud), Grw (graphE E) u L L' → L'.length ≤ 900 from fun L L' g => by
    have := g.len
    rw [graph_ups] at this
    omega)
  have HOK := Lib.hid (fun (L L' : List Ud) (g : Grw (graphE E) u L L') (y : Ud) (hy : y ∈ L') => abv_ok h (g.sound y hy))
  have HH := Lib.hid h
  have HL := Lib.hid h.len
  have HU := Lib.hid hu
  have hmax := h.max
  unfold maxLen at hmax
  clear h ha hu
  unfold udV
  go_enter Tryz.func18, Tryz.ntmps18
  go_wp2_with fail
  have B0 := Lib.hid (below_box w (.cells #[.string u.1, .string u.2] 30))
  have hsz : (w.alloc (.cells #[.string u.1, .string u.2] 30)).heap.size = w.heap.size + 1 := by simp
  obtain ⟨w0, hw0⟩ : ∃ w0, w.alloc (.cells #[.string u.1, .string u.2] 30) = w0 := ⟨_, rfl⟩
  rw [hw0] at B0 hsz ⊢
  rw [← hsz]
  clear hw0 hsz
  have R1 := Lib.hid (rowu_one w0 u)
  have B1 := bh B0 (below_box w0 (.cells #[.string u.1, .string u.2] 30))
  have HB0 := Lib.hid (show w.heap.size ≤ w0.heap.size from B0.out.size)
  have HB1 := Lib.hid (show w0.heap.size ≤ (w0.alloc (.cells #[.string u.1, .string u.2] 30)).heap.size by simp)
  obtain ⟨w1, hw1⟩ : ∃ w1, w0.alloc (.cells #[.string u.1, .string u.2] 30) = w1 := ⟨_, rfl⟩
  rw [hw1] at R1 B1 HB1 ⊢
  clear hw1 B0
  generalize w0.heap.size = b0 at *
  go_loopw [7, 8, 9, 11, 12, 13] (fun out f s _ _ _ wr => ∃ (t fr m : Nat) (L : List Ud), t ≤ n ∧ f = .int .i64 fr ∧ s = .int .i64 t ∧ fr ≤ m ∧ Hid (Bfs (graphE E) u t fr L) ∧ Hid (RowU wr b0 out m u L) ∧ Hid (Below w.heap.size w wr) ∧ Hid (b0 ≤ wr.heap.size)) (fun _ _ s _ _ _ _ => n - (intOf s).toNat)
  case atStart => exact ⟨0, 0, 1, [], Nat.zero_le _, rfl, rfl, Nat.zero_le _, Lib.hid (Bfs.start _ _), R1, B1, HB1⟩
  case round =>
    clear R1 B1 HB1
    obtain ⟨t, fr, m, L, ht, rfl, rfl, hfr, hF, hR, hB, hb0⟩ := hrel
    obtain ⟨A1, c1, hv1, hus1⟩ := hR.out.us HU.out (HOK.out _ _ hF.out.fnd) (Nat.le_trans (HLE.out _ _ hF.out.fnd) (by omega))
    have HU1 := Lib.hid hus1
    subst hv1
    clear hus1
    have HML := Lib.hid hR.out.len
    have hmb : m ≤ 901 := by have := hR.out.len; have := HLE.out _ _ hF.out.fnd; omega
    by_cases hlt : t < n
    · go_wp2_with fail
      go_loopw [7, 11, 12, 13] (fun out i _ _ wk => ∃ (i' m' : Nat) (L' : List Ud), i' ≤ m ∧ i = .int .i64 i' ∧ Hid (Mid1 (graphE E) u L i' L') ∧ Hid (RowU wk b0 out m' u L') ∧ Hid (Below w.heap.size w wk) ∧ Hid (b0 ≤ wk.heap.size)) (fun _ i _ _ _ => m - (intOf i).toNat)
      case atStart => exact ⟨fr, m, L, hfr, rfl, Lib.hid (Mid1.start hF.out), hR, hB, hb0⟩
      case round =>
        clear hR hB hb0 HU1
        obtain ⟨i', m', L', hi, rfl, hM1, hR, hB, hb0⟩ := hrel
        by_cases hli : i' < m
        · have hil : i' < (u :: L).length := by rw [List.length_cons]; have := HML.out; omega
          go_wp2_with fail
          go_loopw [7, 12, 13] (fun out k _ wk => ∃ (k' m2 : Nat) (L2 : List Ud), k' ≤ n ∧ k = .int .i64 k' ∧ Hid (Mid2 (graphE E) u (u :: L)[i'] L' k' L2) ∧ Hid (RowU wk b0 out m2 u L2) ∧ Hid (Below w.heap.size w wk) ∧ Hid (b0 ≤ wk.heap.size)) (fun _ k _ _ => n - (intOf k).toNat)
          case atStart => exact ⟨0, m', L', Nat.zero_le _, rfl, Lib.hid (Mid2.start hM1.out.grw), hR, hB, hb0⟩
          case round =>
            clear hR hB hb0
            obtain ⟨k', m2, L2, hk, rfl, hM2, hR, hB, hb0⟩ := hrel
            by_cases hlk : k' < n
            · have hkl : k' < E.length := by rw [← HL.out]; exact hlk
              have HGA := Lib.hid (graph_at hkl (by rw [← HG.out]; exact hlk))
              obtain ⟨A2, c2, hv2, hus2⟩ := hR.out.us HU.out (HOK.out _ _ hM2.out.grw) (Nat.le_trans (HLE.out _ _ hM2.out.grw) (by omega))
              subst hv2
              have HG2 := Lib.hid (hM1.out.grw.trans hM2.out.grw)
              obtain ⟨a2, ea2, z0, z1⟩ := hus2.at_ i' _ (HG2.out.get hil)
              have hm2 : m ≤ m2 := by
                have h1 := hR.out.len
                have h2 := HML.out
                obtain ⟨R, e⟩ := HG2.out.pre
                rw [e, List.length_append] at h1
                omega
              subst ea2
              have hc2 := hus2.cap
              have hl2 := HLE.out _ _ hM2.out.grw
              have HR2 := Lib.hid hR.out.len
              have HZ := Lib.hid (show (u :: L)[i'] = u ∨ (u :: L)[i'] ∈ L2 from by
                rcases List.mem_cons.1 (List.getElem_mem hil) with e | e
                · exact .inl e
                · exact .inr (HG2.out.sub _ e))
              clear hus2
              obtain ⟨z, hz⟩ : ∃ z, z = (u :: L)[i'] := ⟨_, rfl⟩
              rw [← hz] at z0 z1 HZ hM2
              have HZE := Lib.hid hz
              clear hz
              obtain ⟨a, rfl, q0, q1, q2, -, hxo⟩ := (HH.out.keep hB.out).at_ k' _ (List.getElem?_eq_getElem hkl)
              obtain ⟨x, hx⟩ : ∃ x, x = E[k'] := ⟨_, rfl⟩
              rw [← hx] at q0 q1 q2 hxo HGA
              have HXE := Lib.hid (show E[k']? = some x by rw [List.getElem?_eq_getElem hkl, hx])
              clear hx
              have v0 := cell_regrown z0
              have v1 := cell_regrown z1
              by_cases he : x.u = z
              · have HE := Lib.hid he
                rw [he] at q0 q1
                have k0 := cell_regrown q0
                have k1 := cell_regrown q1
                clear q0 q1 z0 z1 he
                go_wp2_with fail
                refine wp_region_quiet_below (by kernel_rfl) (by kernel_rfl) ?_
                repeat (first | go_big_quiet_step (fail) | quiet_step (fail))
                refine wpQuiet_nil ?_
                intro w5 hw'
                have b5 := Lib.hid (show Below wr.heap.size wr w5 by obtain ⟨⟨d, os⟩, rfl⟩ := hw'; exact below_regrown _ _ _)
                clear hw'
                have B5 := bh hB b5.out
                have R5 := Lib.hid (hR.out.keep b5.out)
                have HB5 := Lib.hid (Nat.le_trans hb0.out b5.out.size)
                have q2' := cell_keep b5.out q2
                have HU5 := Lib.hid (hxo.us.keep b5.out)
                have HUL := Lib.hid hxo.us.len
                have hum := hxo.us.max
                unfold maxLen at hum
                clear k0 k1 v0 v1 hB hR hb0 b5 q2 hxo HU5 q2'
                go_wp2_with fail
                go_loopw [7, 13] (fun out p wk => ∃ (p' m3 : Nat) (L3 : List Ud), p' ≤ x.un ∧ p = .int .i64 p' ∧ Hid (Mid3 (graphE E) u x.ups L2 p' L3) ∧ Hid (RowU wk b0 out m3 u L3) ∧ Hid (Below w.heap.size w wk) ∧ Hid (b0 ≤ wk.heap.size)) (fun _ p _ => x.un - (intOf p).toNat)
                case atStart => exact ⟨0, m2, L2, Nat.zero_le _, rfl, Lib.hid (Mid3.start hM2.out.grw), R5, B5, HB5⟩
                case round =>
                  clear R5 B5 HB5
                  obtain ⟨p', m3, L3, hp, rfl, hM3, hR, hB, hb0⟩ := hrel
                  obtain ⟨a', ea, -, -, q2, -, hxo⟩ := (HH.out.keep hB.out).at_ k' x HXE.out
                  injection ea with ea
                  subst ea
                  by_cases hlp : p' < x.un
                  · have hlp' : p' < x.ups.length := by rw [← HUL.out]; exact hlp
                    obtain ⟨b, eb, q3, q4⟩ := hxo.us.at_ p' _ (List.getElem?_eq_getElem hlp')
                    rw [eb] at q2
                    have HM4 := Lib.hid (hM3.out.next hlp' HZ.out (show Stp (graphE E) z x.ups[p'] from ⟨(x.u, x.ups), by rw [← HGA.out]; exact List.getElem_mem _, HE.out, List.getElem_mem hlp'⟩))
                    have HK := Lib.hid (ref_with b0 u7 m3 u L3 x.ups[p'] wr hR.out hb0.out (Nat.le_trans (HLE.out _ _ hM3.out.grw) (by omega)) HU.out (HOK.out _ _ hM3.out.grw))
                    generalize x.ups[p'] = p at *
                    unfold udV at HK
                    clear hxo eb
                    go_wp2_with fail
                    refine HK.out.mono ?_
                    rintro e w6 ⟨v6, m6, rfl, hrow, hgr⟩
                    have R6 := Lib.hid hrow
                    have B6 := Lib.hid (hB.out.grown hgr hB.out.size (fun g hg => Nat.le_trans HB0.out (hR.out.base g hg)))
                    have HB6 := Lib.hid (Nat.le_trans hb0.out hgr.size)
                    clear hrow hgr HK hR hB hb0 q2 q3 q4
                    go_wp2_with fail
                    go_roundw
                    case rel => exact ⟨p' + 1, m6, addU L3 p, by omega, by go_num, HM4, R6, B6, HB6⟩
                    case measure => simp [intOf]; omega
                  · have HM4 := Lib.hid (hM2.out.next hM3.out.grw (by rw [← HG.out]; exact hlk) (fun _ => by rw [HGA.out]; exact hM3.out.done (by rw [← HUL.out]; omega)))
                    rw [HZE.out] at HM4
                    clear hxo
                    go_wp2_with fail
                    go_roundw
                    case rel => exact ⟨k' + 1, m3, L3, by omega, by go_num, HM4, hR, hB, hb0⟩
                    case measure => simp [intOf]; omega
              · have HN := Lib.hid he
                have k0 := cell_regrown q0
                have k1 := cell_regrown q1
                have hne := uid_ne he
                clear q0 q1 q2 z0 z1 he hxo
                have HM3 := Lib.hid (hM2.out.next hM2.out.grw.self (by rw [← HG.out]; exact hlk) (fun e => absurd (by rw [← e, HGA.out]) HN.out))
                rcases hne with h1 | ⟨h1, h2⟩
                · rw [HZE.out] at HM3
                  go_wp2_with fail
                  refine wp_region_quiet_below (by kernel_rfl) (by kernel_rfl) ?_
                  repeat (first | go_big_quiet_step (fail) | quiet_step (fail))
                  refine wpQuiet_nil ?_
                  intro w5 hw'
                  have b5 := Lib.hid (show Below wr.heap.size wr w5 by obtain ⟨⟨d, os⟩, rfl⟩ := hw'; exact below_regrown _ _ _)
                  clear hw'
                  have B5 := bh hB b5.out
                  have R5 := Lib.hid (hR.out.keep b5.out)
                  have HB5 := Lib.hid (Nat.le_trans hb0.out b5.out.size)
                  clear k0 k1 v0 v1 hB hR hb0 b5
                  go_wp2_with fail
                  go_roundw
                  case rel => exact ⟨k' + 1, m2, L2, by omega, by go_num, HM3, R5, B5, HB5⟩
                  case measure => simp [intOf]; omega
                · rw [HZE.out] at HM3
                  go_wp2_with fail
                  refine wp_region_quiet_below (by kernel_rfl) (by kernel_rfl) ?_
                  repeat (first | go_big_quiet_step (fail) | quiet_step (fail))
                  refine wpQuiet_nil ?_
                  intro w5 hw'
                  have b5 := Lib.hid (show Below wr.heap.size wr w5 by obtain ⟨⟨d, os⟩, rfl⟩ := hw'; exact below_regrown _ _ _)
                  clear hw'
                  have B5 := bh hB b5.out
                  have R5 := Lib.hid (hR.out.keep b5.out)
                  have HB5 := Lib.hid (Nat.le_trans hb0.out b5.out.size)
                  clear k0 k1 v0 v1 hB hR hb0 b5
                  go_wp2_with fail
                  go_roundw
                  case rel => exact ⟨k' + 1, m2, L2, by omega, by go_num, HM3, R5, B5, HB5⟩
                  case measure => simp [intOf]; omega
            · have HM4 := Lib.hid (hM1.out.next hM2.out.grw hil (hM2.out.done (by rw [← HG.out]; omega)))
              go_wp2_with fail
              go_roundw
              case rel => exact ⟨i' + 1, m2, L2, by omega, by go_num, HM4, hR, hB, hb0⟩
              case measure => simp [intOf]; omega
        · have HM5 := Lib.hid (show Bfs (graphE E) u (t + 1) m L' by
            have := Mid1.done hF.out hM1.out (by rw [List.length_cons, ← HML.out]; omega)
            rwa [← HML.out] at this)
          have hmm : m ≤ m' := by
            have h1 := hR.out.len
            have h2 := HML.out
            obtain ⟨R, e⟩ := hM1.out.grw.pre
            rw [e, List.length_append] at h1
            omega
          go_wp2_with fail
          go_roundw
          case rel => exact ⟨t + 1, m, m', L', by omega, rfl, by go_num, hmm, HM5, hR, hB, hb0⟩
          case measure => simp [intOf]; omega
    · have HALL := Lib.hid (hF.out.all (by rw [← HG.out]; omega))
      obtain ⟨a1, ea1, hus2⟩ := us_tail HU1.out
      have HU2 := Lib.hid hus2
      have HND := Lib.hid hF.out.fnd.nd
      have HLL := Lib.hid (HLE.out _ _ hF.out.fnd)
      have hm1 : 1 ≤ m := by have := HML.out; omega
      have hcm := HU1.out.cap
      subst ea1
      clear hus2
      go_wp2_with fail
      · rename_i h1
        have hL0 : L = [] := List.eq_nil_of_length_eq_zero (by have := HML.out; omega)
        go_ret
        exact ⟨_, _, _, L, rfl, ⟨by have := HML.out; omega, by omega, by unfold maxLen; omega, fun k x hx => by rw [hL0] at hx; simp at hx, fun x hx => by rw [hL0] at hx; cases hx⟩, HALL.out, HND.out, HLL.out, hB.out⟩
      · go_ret
        exact ⟨_, m - 1, c1 - 1, L, rfl, by simpa [Addr.add] using HU2.out, HALL.out, HND.out, HLL.out, hB.out⟩
set_option maxHeartbeats 1000000 in
/-- Is one above another one, within so many steps. -/
theorem ref_Over (A : Option Addr) (n c : Nat) (E : List En) (u t : Ud) (w : World) (h : Es w A n c E) (hu : UOk u) (ha : (allUps E).length ≤ 900) :
    Calls Tryz.prog 19 #[.slice A n c, udV u, udV t, .int .i64 n] w fun e w' => (∃ b : Bool, e = .returned (.bool b) ∧ (b = true ↔ Abv (graphE E) u t)) ∧ Below w.heap.size w w' := by
  have HK := Lib.hid (fun w' hb => ref_Ups A n c E u w' (h.keep (w' := w') hb) hu ha)
  clear h hu ha
  unfold udV at HK ⊢
  go_enter Tryz.func19, Tryz.ntmps19
  go_wp2_with fail
  have B0 := Lib.hid (below_box w (.cells #[.string u.1, .string u.2] 30))
  have hsz : (w.alloc (.cells #[.string u.1, .string u.2] 30)).heap.size = w.heap.size + 1 := by simp
  obtain ⟨w0, hw0⟩ : ∃ w0, w.alloc (.cells #[.string u.1, .string u.2] 30) = w0 := ⟨_, rfl⟩
  rw [hw0] at B0 hsz ⊢
  rw [← hsz]
  clear hw0 hsz
  have P1 := Lib.hid (vr2_new w0 (.string t.1) (.string t.2) 30)
  have B1 := bh B0 (below_box w0 (.cells #[.string t.1, .string t.2] 30))
  obtain ⟨w1, hw1⟩ : ∃ w1, w0.alloc (.cells #[.string t.1, .string t.2] 30) = w1 := ⟨_, rfl⟩
  rw [hw1] at P1 B1 ⊢
  clear hw1 B0
  refine (HK.out w1 B1.out).mono ?_
  rintro e w2 ⟨A2, n2, c2, L, rfl, hus, hall, hnd, hll, b2⟩
  have P2 := Lib.hid (P1.out.keep b2)
  have B2 := bh B1 b2
  have HU := Lib.hid hus
  have HL := Lib.hid hus.len
  have HALL := Lib.hid hall
  have hmx : n2 ≤ 900 := by rw [hus.len]; exact hll
  clear hus hall hnd b2 HK P1 B1 hll
  go_wp2_with fail
  go_loopw [10] (fun i wr => ∃ k : Nat, k ≤ n2 ∧ i = .int .i64 k ∧ Hid (t ∉ L.take k) ∧ Hid (Below w2.heap.size w2 wr)) (fun i _ => n2 - (intOf i).toNat)
  case atStart => exact ⟨0, Nat.zero_le _, rfl, Lib.hid (by simp), Below.refl _ _⟩
  case round =>
    obtain ⟨k, hk, rfl, hN, hB⟩ := hrel
    by_cases hlt : k < n2
    · have hlt' : k < L.length := by rw [← HL.out]; exact hlt
      have HTK := Lib.hid (List.take_succ_eq_append_getElem hlt')
      have HM := Lib.hid (List.getElem_mem hlt')
      obtain ⟨a, rfl, q0, q1⟩ := (HU.out.keep hB.out).at_ k _ (List.getElem?_eq_getElem hlt')
      obtain ⟨d0, d1, -, -⟩ := P2.out.keep hB.out
      have BW := bh B2 hB.out
      generalize L[k] = y at *
      have k0 := cell_regrown q0
      have k1 := cell_regrown q1
      have v0 := cell_regrown d0
      have v1 := cell_regrown d1
      by_cases he : y = t
      · have HY := Lib.hid (show Abv (graphE E) u t from (HALL.out t).1 (he ▸ HM.out))
        rw [he] at k0 k1
        clear he q0 q1 d0 d1 HM HTK
        go_wp2_with fail
        refine wp_region_quiet_below (by kernel_rfl) (by kernel_rfl) ?_
        repeat (first | go_big_quiet_step (fail) | quiet_step (fail))
        refine wpQuiet_nil ?_
        intro w5 hw'
        have b5 := Lib.hid (show Below wr.heap.size wr w5 by obtain ⟨⟨d, os⟩, rfl⟩ := hw'; exact below_regrown _ _ _)
        clear hw'
        have B5 := bh BW b5.out
        clear k0 k1 v0 v1
        go_wp2_with fail
        go_ret
        exact ⟨⟨true, rfl, fun _ => HY.out, fun _ => rfl⟩, B5.out⟩
      · have HN2 := Lib.hid (show t ∉ L.take (k + 1) from fun hm => by
          rw [HTK.out] at hm
          rcases List.mem_append.1 hm with hm | hm
          · exact hN.out hm
          · simp only [List.mem_cons, List.not_mem_nil, or_false] at hm; exact he hm.symm)
        have hne := uid_ne he
        clear he q0 q1 d0 d1 HM HTK
        rcases hne with h1 | ⟨h1, h2⟩
        · go_wp2_with fail
          refine wp_region_quiet_below (by kernel_rfl) (by kernel_rfl) ?_
          repeat (first | go_big_quiet_step (fail) | quiet_step (fail))
          refine wpQuiet_nil ?_
          intro w5 hw'
          have b5 := Lib.hid (show Below wr.heap.size wr w5 by obtain ⟨⟨d, os⟩, rfl⟩ := hw'; exact below_regrown _ _ _)
          clear hw'
          have B5 := bhid hB b5 (Nat.le_refl _)
          clear k0 k1 v0 v1
          go_wp2_with fail
          go_roundw
          case rel => exact ⟨k + 1, by omega, by go_num, HN2, B5⟩
          case measure => simp [intOf]; omega
        · go_wp2_with fail
          refine wp_region_quiet_below (by kernel_rfl) (by kernel_rfl) ?_
          repeat (first | go_big_quiet_step (fail) | quiet_step (fail))
          refine wpQuiet_nil ?_
          intro w5 hw'
          have b5 := Lib.hid (show Below wr.heap.size wr w5 by obtain ⟨⟨d, os⟩, rfl⟩ := hw'; exact below_regrown _ _ _)
          clear hw'
          have B5 := bhid hB b5 (Nat.le_refl _)
          clear k0 k1 v0 v1
          go_wp2_with fail
          go_roundw
          case rel => exact ⟨k + 1, by omega, by go_num, HN2, B5⟩
          case measure => simp [intOf]; omega
    · have HY := Lib.hid (show ¬ Abv (graphE E) u t from fun h => hN.out (by rw [List.take_of_length_le (by rw [← HL.out]; omega)]; exact (HALL.out t).2 h))
      have BW := bh B2 hB.out
      go_wp2_with fail
      go_ret
      exact ⟨⟨false, rfl, fun h => (nomatch h), fun h => absurd h HY.out⟩, BW.out⟩
end Go.Proofs.YtbjbimabgfpdoaaGreatDoor
namespace Go.Proofs.YtbjbimabgfpdoaaGreatDoor
open Go.RowKit Go.Wk
set_option maxRecDepth 100000

theorem ref_uidF (u : Ud) (hu : u.1.size ≤ maxLen ∧ u.2.size ≤ maxLen) (w : World) :
    Calls Tryz.prog 31 #[.agg #[.string u.1, .string u.2]] w fun e w' => e = .returned (.int .i64 (uidFault (u.1, u.2))) ∧ Below w.heap.size w w' := ref_UidFault u.1 u.2 w hu.1 hu.2
set_option maxHeartbeats 4000000 in
theorem ref_entityFault (x : En) (w : World) (h : EnOk w x) :
    Calls Tryz.prog 32 #[x.v] w fun e w' => e = .returned (.int .i64 (entF x)) ∧ Below w.heap.size w w' := by
  have V0 := Lib.hid (vr4_new w x 36)
  obtain ⟨u, UA, un, uc, ups, NA, nn, nc, P⟩ := x
  obtain ⟨-, -, hus, hns⟩ := h
  have KU := Lib.hid ref_uidF
  have KV := Lib.hid (fun w' hb => ref_ValueFault _ _ _ _ w' (hns.keep (w' := w') hb))
  have HU := Lib.hid hus
  have HN := Lib.hid hns
  have B0 := Lib.hid (below_box w (.cells #[.string u.1, .string u.2, .slice UA un uc, .slice NA nn nc] 36))
  have hlen := hus.len
  have hcap := hus.cap
  dsimp only at hlen hcap V0 KV HU HN
  clear hus hns
  unfold En.v
  dsimp only
  by_cases h6 : 6 < un
  · have HE := Lib.hid (show entF ⟨u, UA, un, uc, ups, NA, nn, nc, P⟩ = 4 by unfold entF; rw [if_pos (by dsimp only; omega)])
    rw [HE.out]
    clear hlen
    go_enter Tryz.func32, Tryz.ntmps32
    go_wp2_with fail
    go_ret
    exact ⟨rfl, B0.out⟩
  · have HE := Lib.hid (show entF ⟨u, UA, un, uc, ups, NA, nn, nc, P⟩ = if upsFault [] ups = 0 then (if valFault P = 0 then (if headOp P = 6 then 0 else 2) else valFault P) else upsFault [] ups by unfold entF; rw [if_neg (by dsimp only; omega)])
    generalize entF ⟨u, UA, un, uc, ups, NA, nn, nc, P⟩ = EF at *
    have HL := Lib.hid hlen
    have hd : decide ((6 : Int) < (un : Int)) = false := decide_eq_false (by omega)
    clear hlen
    go_enter Tryz.func32, Tryz.ntmps32
    go_wp2_with fail
    obtain ⟨w0, hw0⟩ : ∃ w0, w.alloc (.cells #[.string u.1, .string u.2, .slice UA un uc, .slice NA nn nc] 36) = w0 := ⟨_, rfl⟩
    rw [hw0] at V0 B0 ⊢
    clear hw0
    go_loopw [3, 5] (fun i _ wr => ∃ k : Nat, k ≤ un ∧ i = .int .i64 k ∧ Hid (upsFault [] ups = upsFault (ups.take k) (ups.drop k)) ∧ Hid (Below w.heap.size w wr) ∧ Hid (Vr4 wr w.heap.size ⟨u, UA, un, uc, ups, NA, nn, nc, P⟩)) (fun i _ _ => un - (intOf i).toNat)
    case atStart => exact ⟨0, Nat.zero_le _, rfl, rfl, B0, V0⟩
    case round =>
      clear B0 V0
      obtain ⟨k, hk, rfl, hF, hB, hV⟩ := hrel
      obtain ⟨c0, c1, c2, c3⟩ := hV.out
      dsimp only at c0 c1 c2 c3
      by_cases hlt : k < un
      · have hlt' : k < ups.length := by rw [← HL.out]; exact hlt
        have HS := Lib.hid (ups_step hlt')
        obtain ⟨a, rfl, q0, q1⟩ := (HU.out.at_.keep hB.out) k _ (List.getElem?_eq_getElem hlt')
        have hok := HU.out.ok _ (List.getElem_mem hlt')
        have K1 := Lib.hid (KU.out ups[k] hok wr)
        have HXK := Lib.hid (List.getElem?_eq_getElem hlt')
        generalize ups[k] = p at *
        go_wp2_with fail
        refine K1.out.mono ?_
        rintro e w2 ⟨rfl, b2⟩
        have B2 := bh hB b2
        have V2 := Lib.hid (hV.out.keep b2)
        clear K1 b2 hB hV c0 c1 c2 c3 q0 q1
        obtain ⟨c0, c1, c2, c3⟩ := V2.out
        dsimp only at c0 c1 c2 c3
        by_cases hu : uidFault (p.1, p.2) = 0
        · have hu' : uidFault p = 0 := hu
          rw [hu]
          rw [if_pos hu'] at HS
          clear hu hu'
          go_wp2_with fail
          go_loopw [5] (fun j wj => ∃ q : Nat, q ≤ k ∧ j = .int .i64 q ∧ Hid (hadU (ups.take q) p = false) ∧ Hid (Below w2.heap.size w2 wj)) (fun j _ => k - (intOf j).toNat)
          case atStart => exact ⟨0, Nat.zero_le _, rfl, Lib.hid rfl, Below.refl _ _⟩
          case round =>
            clear c0 c1 c2 c3
            obtain ⟨q, hq, rfl, hH, hJ⟩ := hrel
            have BJ := bh B2 hJ.out
            have VJ := Lib.hid (V2.out.keep hJ.out)
            obtain ⟨c0, c1, c2, c3⟩ := VJ.out
            dsimp only at c0 c1 c2 c3
            by_cases hlq : q < k
            · have hlq' : q < ups.length := by omega
              have HT := Lib.hid (hadU_take hlq' p)
              obtain ⟨a', ea, q0, q1⟩ := (HU.out.at_.keep BJ.out) q _ (List.getElem?_eq_getElem hlq')
              injection ea with ea
              subst ea
              obtain ⟨a', ea, r0, r1⟩ := (HU.out.at_.keep BJ.out) k _ HXK.out
              injection ea with ea
              subst ea
              have HM := Lib.hid (show ups[q] = p → hadU (ups.take k) p = true from fun e => hadU_iff.2 (by
                rw [← e]
                exact List.mem_take_iff_getElem.2 ⟨q, by omega, rfl⟩))
              generalize ups[q] = y at *
              have v0 := cell_regrown r0
              have v1 := cell_regrown r1
              have k2 := cell_regrown c2
              by_cases he : y = p
              · have HE2 := Lib.hid (show EF = 6 by
                  have := HS.out
                  rw [HM.out he, if_pos rfl] at this
                  rw [HE.out, hF.out, this]; rfl)
                rw [he] at q0 q1
                have k0 := cell_regrown q0
                have k1 := cell_regrown q1
                clear he q0 q1 r0 r1 HT HM HS hF
                go_wp2_with fail
                refine wp_region_quiet_below (by kernel_rfl) (by kernel_rfl) ?_
                repeat (first | go_big_quiet_step (fail) | quiet_step (fail))
                refine wpQuiet_nil ?_
                intro w5 hw'
                have b5 := Lib.hid (show Below wr.heap.size wr w5 by obtain ⟨⟨d, os⟩, rfl⟩ := hw'; exact below_regrown _ _ _)
                clear hw'
                have B5 := bh BJ b5.out
                clear k0 k1 k2 v0 v1
                go_wp2_with fail
                go_ret
                exact ⟨ret_i64 HE2.out.symm, B5.out⟩
              · rw [decide_eq_false he, Bool.or_false, hH.out] at HT
                have hne := uid_ne he
                have k0 := cell_regrown q0
                have k1 := cell_regrown q1
                clear he q0 q1 r0 r1 HM
                rcases hne with h1 | ⟨h1, h2⟩
                · go_wp2_with fail
                  refine wp_region_quiet_below (by kernel_rfl) (by kernel_rfl) ?_
                  repeat (first | go_big_quiet_step (fail) | quiet_step (fail))
                  refine wpQuiet_nil ?_
                  intro w5 hw'
                  have b5 := Lib.hid (show Below wr.heap.size wr w5 by obtain ⟨⟨d, os⟩, rfl⟩ := hw'; exact below_regrown _ _ _)
                  clear hw'
                  have B5 := bhid hJ b5 (Nat.le_refl _)
                  clear k0 k1 k2 v0 v1
                  go_wp2_with fail
                  go_roundw
                  case rel => exact ⟨q + 1, by omega, by go_num, HT, B5⟩
                  case measure => simp [intOf]; omega
                · go_wp2_with fail
                  refine wp_region_quiet_below (by kernel_rfl) (by kernel_rfl) ?_
                  repeat (first | go_big_quiet_step (fail) | quiet_step (fail))
                  refine wpQuiet_nil ?_
                  intro w5 hw'
                  have b5 := Lib.hid (show Below wr.heap.size wr w5 by obtain ⟨⟨d, os⟩, rfl⟩ := hw'; exact below_regrown _ _ _)
                  clear hw'
                  have B5 := bhid hJ b5 (Nat.le_refl _)
                  clear k0 k1 k2 v0 v1
                  go_wp2_with fail
                  go_roundw
                  case rel => exact ⟨q + 1, by omega, by go_num, HT, B5⟩
                  case measure => simp [intOf]; omega
            · have HF := Lib.hid (show upsFault [] ups = upsFault (ups.take (k + 1)) (ups.drop (k + 1)) by
                have h1 := HS.out
                have h2 := hH.out
                rw [show q = k by omega] at h2
                rw [h2, if_neg (by decide)] at h1
                exact hF.out.trans h1)
              clear HS hF
              go_wp2_with fail
              go_roundw
              case rel => exact ⟨k + 1, by omega, by go_num, HF, BJ, VJ⟩
              case measure => simp [intOf]; omega
        · have hu' : uidFault p ≠ 0 := hu
          rw [if_neg hu'] at HS
          have HE2 := Lib.hid (show EF = uidFault (p.1, p.2) by rw [HE.out, hF.out, HS.out, if_neg hu'])
          have hun : (uidFault (p.1, p.2) != 0) = true := by rw [bne_iff_ne]; exact hu
          clear hu hu' HS hF
          generalize uidFault (p.1, p.2) = f at *
          go_wp2_with fail
          go_ret
          exact ⟨ret_i64 HE2.out.symm, B2.out⟩
      · have HF := Lib.hid (show upsFault [] ups = 0 by rw [hF.out, List.drop_of_length_le (by rw [← HL.out]; omega)]; rfl)
        have HE2 := Lib.hid (show EF = if valFault P = 0 then (if headOp P = 6 then 0 else 2) else valFault P by rw [HE.out, if_pos HF.out])
        clear hF
        go_wp2_with fail
        refine (KV.out wr hB.out).mono ?_
        rintro e w2 ⟨rfl, b2⟩
        have B2 := bh hB b2
        have V2 := Lib.hid (hV.out.keep b2)
        clear hB hV c0 c1 c2 c3 b2
        by_cases hv : valFault P = 0
        · have hpos := (isV_zero.1 hv).2.pos
          obtain ⟨a, rfl, D⟩ := (HN.out.at_.keep B2.out).nd hpos
          rw [show a.add (0 * 4) = a from rfl] at D
          have hop : headOp P = P[0].op := headOp_at hpos
          have hn0 : 0 < nn := by rw [HN.out.len]; exact hpos
          rw [hv]
          rw [if_pos hv, hop] at HE2
          obtain ⟨d0, -, -, -⟩ := D
          obtain ⟨op, ho⟩ : ∃ op, op = P[0].op := ⟨_, rfl⟩
          rw [← ho] at d0 HE2
          have e3 := V2.out.c3
          dsimp only at e3
          clear hv hop ho
          by_cases h6o : op = 6
          · rw [if_pos h6o] at HE2
            subst h6o
            go_wp2_with fail
            go_ret
            exact ⟨ret_i64 HE2.out.symm, B2.out⟩
          · rw [if_neg h6o] at HE2
            have h6i : (op != 6) = true := by simp; exact h6o
            clear h6o
            go_wp2_with fail
            go_ret
            exact ⟨ret_i64 HE2.out.symm, B2.out⟩
        · rw [if_neg hv] at HE2
          have hv0 : (valFault P == 0) = false := by simp; exact hv
          clear hv
          generalize valFault P = f at *
          go_wp2_with fail
          go_ret
          exact ⟨ret_i64 HE2.out.symm, B2.out⟩
theorem ents_ups {L : List En} {M : List En} (h : entsFault M L = 0) : (allUps L).length ≤ 6 * L.length := allUps_len L fun x hx => ((ents_ok L M h).1 x hx).2
open Classical in
/-- Is one above another one. -/
noncomputable def abvB (E : List En) (u t : Ud) : Bool := decide (Abv (graphE E) u t)
theorem abvB_iff {E : List En} {u t : Ud} : abvB E u t = true ↔ Abv (graphE E) u t := by unfold abvB; exact @decide_eq_true_iff _ (_)
theorem ref_OverB (A : Option Addr) (n c : Nat) (E : List En) (u t : Ud) (w : World) (h : Es w A n c E) (hu : UOk u) (ha : (allUps E).length ≤ 900) :
    Calls Tryz.prog 19 #[.slice A n c, udV u, udV t, .int .i64 n] w fun e w' => e = .returned (.bool (abvB E u t)) ∧ Below w.heap.size w w' :=
  (ref_Over A n c E u t w h hu ha).mono fun e w' ⟨⟨b, he, hb⟩, h2⟩ => ⟨by rw [he, show b = abvB E u t from Bool.eq_iff_iff.2 (hb.trans abvB_iff.symm)], h2⟩
set_option maxHeartbeats 4000000 in
theorem ref_StoreFault (A : Option Addr) (n c : Nat) (E : List En) (w : World) (h : Es w A n c E) :
    Calls Tryz.prog 8 #[.slice A n c] w fun e w' => e = .returned (.int .i64 (storeF E)) ∧ Below w.heap.size w w' := by
  have hlen := h.len
  by_cases h16 : 16 < n
  · have HE := Lib.hid (show storeF E = 4 by unfold storeF; rw [if_pos (by omega)])
    rw [HE.out]
    clear hlen h
    go_enter Tryz.func8, Tryz.ntmps8
    go_wp2_with fail
    go_ret
    exact ⟨rfl, Below.refl _ _⟩
  · have HE := Lib.hid (show storeF E = _ by unfold storeF; rw [if_neg (by omega)])
    generalize storeF E = SF at *
    have HH := Lib.hid h
    have HUO := Lib.hid h.uok
    have HL := Lib.hid hlen
    have hd : decide ((16 : Int) < (n : Int)) = false := decide_eq_false (by omega)
    clear hlen h
    go_enter Tryz.func8, Tryz.ntmps8
    go_wp2_with fail
    go_loopw [3, 4, 5] (fun i _ _ wr => ∃ k : Nat, k ≤ n ∧ i = .int .i64 k ∧ Hid (entsFault [] E = entsFault (E.take k) (E.drop k)) ∧ Hid (Below w.heap.size w wr)) (fun i _ _ _ => n - (intOf i).toNat)
    case atStart => exact ⟨0, Nat.zero_le _, rfl, rfl, Lib.hid (Below.refl _ _)⟩
    case round =>
      obtain ⟨k, hk, rfl, hF, hB⟩ := hrel
      by_cases hlt : k < n
      · have hlt' : k < E.length := by rw [← HL.out]; exact hlt
        have HS := Lib.hid (ents_step hlt')
        have HXE := Lib.hid (List.getElem?_eq_getElem hlt')
        obtain ⟨a, rfl, q0, q1, q2, q3, hxo⟩ := (HH.out.at_.keep hB.out) k _ (List.getElem?_eq_getElem hlt')
        have hok := HUO.out _ (List.getElem_mem hlt')
        generalize E[k] = x at *
        have KU := Lib.hid (ref_uidF x.u hok wr)
        have KE := Lib.hid (fun w' hb => ref_entityFault x w' (hxo.keep (w' := w') hb))
        unfold En.v at KE
        have HXO := Lib.hid hxo
        clear hxo hok
        go_wp2_with fail
        refine KU.out.mono ?_
        rintro e w2 ⟨rfl, b2⟩
        have B2 := bh hB b2
        have KE2 := Lib.hid (fun w' (hb : Below w2.heap.size w2 w') => KE.out w' (b2.trans (hb.mono b2.size)))
        clear KU KE b2 hB q0 q1 q2 q3
        by_cases hu : uidFault x.u = 0
        · have hu' : uidFault (x.u.1, x.u.2) = 0 := hu
          rw [if_pos hu] at HS
          rw [hu']
          clear hu hu'
          go_wp2_with fail
          go_loopw [4, 5] (fun e j wj => ∃ q : Nat, q ≤ k ∧ j = .int .i64 q ∧ Hid ((e = .int .i64 0 ∧ hadE (E.take q) x.u = false) ∨ (e = .int .i64 6 ∧ hadE (E.take k) x.u = true)) ∧ Hid (Below w2.heap.size w2 wj)) (fun _ j _ => k - (intOf j).toNat)
          case atStart => exact ⟨0, Nat.zero_le _, rfl, Lib.hid (.inl ⟨rfl, rfl⟩), Below.refl _ _⟩
          case round =>
            obtain ⟨q, hq, rfl, hH, hJ⟩ := hrel
            have BJ := bh B2 hJ.out
            rcases hH.out with ⟨rfl, hN⟩ | ⟨rfl, hY⟩
            · by_cases hlq : q < k
              · have hlq' : q < E.length := by omega
                have HT := Lib.hid (hadE_take hlq' x.u)
                obtain ⟨a', ea, z0, z1, -, -, -⟩ := (HH.out.at_.keep BJ.out) q _ (List.getElem?_eq_getElem hlq')
                injection ea with ea
                subst ea
                obtain ⟨a', ea, r0, r1, -, -, -⟩ := (HH.out.at_.keep BJ.out) k x HXE.out
                injection ea with ea
                subst ea
                have HM := Lib.hid (show E[q].u = x.u → hadE (E.take k) x.u = true from fun e => hadE_iff.2 ⟨E[q], List.mem_take_iff_getElem.2 ⟨q, by omega, rfl⟩, e⟩)
                generalize E[q] = y at *
                have v0 := cell_regrown r0
                have v1 := cell_regrown r1
                by_cases he : y.u = x.u
                · have HM2 := Lib.hid (HM.out he)
                  rw [he] at z0 z1
                  have k0 := cell_regrown z0
                  have k1 := cell_regrown z1
                  clear he z0 z1 r0 r1 HT HM
                  go_wp2_with fail
                  refine wp_region_quiet_below (by kernel_rfl) (by kernel_rfl) ?_
                  repeat (first | go_big_quiet_step (fail) | quiet_step (fail))
                  refine wpQuiet_nil ?_
                  intro w5 hw'
                  have b5 := Lib.hid (show Below wr.heap.size wr w5 by obtain ⟨⟨d, os⟩, rfl⟩ := hw'; exact below_regrown _ _ _)
                  clear hw'
                  have B5 := bhid hJ b5 (Nat.le_refl _)
                  clear k0 k1 v0 v1
                  go_wp2_with fail
                  go_roundw
                  case rel => exact ⟨q + 1, by omega, by go_num, Lib.hid (.inr ⟨rfl, HM2.out⟩), B5⟩
                  case measure => simp [intOf]; omega
                · rw [decide_eq_false he, Bool.or_false, hN] at HT
                  have hne := uid_ne he
                  have k0 := cell_regrown z0
                  have k1 := cell_regrown z1
                  clear he z0 z1 r0 r1 HM
                  rcases hne with h1 | ⟨h1, h2⟩
                  · go_wp2_with fail
                    refine wp_region_quiet_below (by kernel_rfl) (by kernel_rfl) ?_
                    repeat (first | go_big_quiet_step (fail) | quiet_step (fail))
                    refine wpQuiet_nil ?_
                    intro w5 hw'
                    have b5 := Lib.hid (show Below wr.heap.size wr w5 by obtain ⟨⟨d, os⟩, rfl⟩ := hw'; exact below_regrown _ _ _)
                    clear hw'
                    have B5 := bhid hJ b5 (Nat.le_refl _)
                    clear k0 k1 v0 v1
                    go_wp2_with fail
                    go_roundw
                    case rel => exact ⟨q + 1, by omega, by go_num, Lib.hid (.inl ⟨rfl, HT.out⟩), B5⟩
                    case measure => simp [intOf]; omega
                  · go_wp2_with fail
                    refine wp_region_quiet_below (by kernel_rfl) (by kernel_rfl) ?_
                    repeat (first | go_big_quiet_step (fail) | quiet_step (fail))
                    refine wpQuiet_nil ?_
                    intro w5 hw'
                    have b5 := Lib.hid (show Below wr.heap.size wr w5 by obtain ⟨⟨d, os⟩, rfl⟩ := hw'; exact below_regrown _ _ _)
                    clear hw'
                    have B5 := bhid hJ b5 (Nat.le_refl _)
                    clear k0 k1 v0 v1
                    go_wp2_with fail
                    go_roundw
                    case rel => exact ⟨q + 1, by omega, by go_num, Lib.hid (.inl ⟨rfl, HT.out⟩), B5⟩
                    case measure => simp [intOf]; omega
              · rw [show q = k by omega] at hN
                rw [hN, if_neg (by decide)] at HS
                obtain ⟨a', ea, r0, r1, r2, r3, -⟩ := (HH.out.at_.keep BJ.out) k x HXE.out
                injection ea with ea
                subst ea
                have KE3 := Lib.hid (KE2.out wr hJ.out)
                clear hN hH
                go_wp2_with fail
                refine KE3.out.mono ?_
                rintro e w6 ⟨rfl, b6⟩
                have B6 := bh BJ b6
                clear b6 KE3 r0 r1 r2 r3
                by_cases hE : entF x = 0
                · rw [if_pos hE] at HS
                  rw [hE]
                  have HF := Lib.hid (hF.out.trans HS.out)
                  clear HS hE hF
                  go_wp2_with fail
                  go_roundw
                  case rel => exact ⟨k + 1, by omega, by go_num, HF, B6⟩
                  case measure => simp [intOf]; omega
                · rw [if_neg hE] at HS
                  have HE2 := Lib.hid (show SF = entF x by rw [HE.out, hF.out, HS.out, if_neg hE])
                  have h0 : (entF x != 0) = true := by rw [bne_iff_ne]; exact hE
                  clear hE HS hF
                  generalize entF x = f at *
                  go_wp2_with fail
                  go_ret
                  exact ⟨ret_i64 HE2.out.symm, B6.out⟩
            · rw [hY, if_pos rfl] at HS
              have HE2 := Lib.hid (show SF = 6 by rw [HE.out, hF.out, HS.out]; rfl)
              clear hY HS hF hH
              by_cases hlq : q < k
              · go_wp2_with fail
                go_ret
                exact ⟨ret_i64 HE2.out.symm, BJ.out⟩
              · go_wp2_with fail
                go_ret
                exact ⟨ret_i64 HE2.out.symm, BJ.out⟩
        · have hu' : uidFault (x.u.1, x.u.2) ≠ 0 := hu
          rw [if_neg hu] at HS
          have HE2 := Lib.hid (show SF = uidFault (x.u.1, x.u.2) by rw [HE.out, hF.out, HS.out, if_neg hu])
          have h0 : (uidFault (x.u.1, x.u.2) != 0) = true := by rw [bne_iff_ne]; exact hu'
          have h1 : (uidFault (x.u.1, x.u.2) == 0) = false := by simpa using hu'
          clear hu hu' HS hF
          generalize uidFault (x.u.1, x.u.2) = f at *
          go_wp2_with fail
          go_loopw [4, 5] (fun e j wj => e = .int .i64 f ∧ j = .int .i64 0 ∧ wj = w2) (fun _ j _ => k - (intOf j).toNat)
          case atStart => exact ⟨rfl, rfl, rfl⟩
          case round =>
            obtain ⟨rfl, rfl, rfl⟩ := hrel
            rcases Nat.eq_zero_or_pos k with hk0 | hk0
            · subst hk0
              go_wp2_with fail
              go_ret
              exact ⟨ret_i64 HE2.out.symm, B2.out⟩
            · go_wp2_with fail
              go_ret
              exact ⟨ret_i64 HE2.out.symm, B2.out⟩
      · have HF := Lib.hid (show entsFault [] E = 0 by rw [hF.out, List.drop_of_length_le (by rw [← HL.out]; omega)]; rfl)
        have HA := Lib.hid (show (allUps E).length ≤ 900 from by have := ents_ups HF.out; have := HL.out; omega)
        have HE7 := Lib.hid (show (∃ x ∈ E, Abv (graphE E) x.u x.u) → SF = 7 from fun h => by
          have e := HE.out
          rw [if_pos HF.out, if_pos h] at e; exact e)
        have HE0 := Lib.hid (show ¬ (∃ x ∈ E, Abv (graphE E) x.u x.u) → SF = 0 from fun h => by
          have e := HE.out
          rw [if_pos HF.out, if_neg h] at e; exact e)
        obtain ⟨w2, rfl⟩ : ∃ w2 : World, w2 = wr := ⟨_, rfl⟩
        have B2 := hB
        clear hF hB HE
        go_wp2_with fail
        go_loopw [6] (fun i wr => ∃ k : Nat, k ≤ n ∧ i = .int .i64 k ∧ Hid (∀ y ∈ E.take k, ¬ Abv (graphE E) y.u y.u) ∧ Hid (Below w2.heap.size w2 wr)) (fun i _ => n - (intOf i).toNat)
        case atStart => exact ⟨0, Nat.zero_le _, rfl, Lib.hid (fun y hy => by simp at hy), Below.refl _ _⟩
        case round =>
          obtain ⟨k, hk, rfl, hN, hB⟩ := hrel
          have BW := bh B2 hB.out
          by_cases hlt : k < n
          · have hlt' : k < E.length := by rw [← HL.out]; exact hlt
            obtain ⟨a, rfl, q0, q1, -, -, -⟩ := (HH.out.at_.keep BW.out) k _ (List.getElem?_eq_getElem hlt')
            have hok := HUO.out _ (List.getElem_mem hlt')
            have HM := Lib.hid (List.getElem_mem hlt')
            have HTK := Lib.hid (List.take_succ_eq_append_getElem hlt')
            generalize E[k] = x at *
            have hq : ∀ w', Below wr.heap.size wr w' → Below w.heap.size w w' := fun w' hb => BW.out.trans (hb.mono BW.out.size)
            have KO := rq (w := wr) (v := .bool (abvB E x.u x.u)) (fun w' hb => ref_OverB (some a) n c E x.u x.u w' (HH.out.keep (hq w' hb)) hok HA.out)
            unfold udV at KO
            have k0 := cell_regrown q0
            have k1 := cell_regrown q1
            clear hq q0 q1
            go_wp2_with fail
            refine wp_region_quiet_below (by kernel_rfl) (by kernel_rfl) ?_
            repeat (first | go_big_quiet_step (exact KO _ _) | quiet_step (exact KO _ _))
            refine wpQuiet_nil ?_
            intro w6 hw'
            have b6 := Lib.hid (show Below wr.heap.size wr w6 by obtain ⟨⟨d, os⟩, rfl⟩ := hw'; exact below_regrown _ _ _)
            clear hw'
            have B6 := bhid hB b6 (Nat.le_refl _)
            have BW6 := bh BW b6.out
            clear k0 k1 KO
            rcases ho : abvB E x.u x.u with _ | _
            · have HN2 := Lib.hid (show ∀ y ∈ E.take (k + 1), ¬ Abv (graphE E) y.u y.u from fun y hy => by
                rw [HTK.out] at hy
                rcases List.mem_append.1 hy with hy | hy
                · exact hN.out y hy
                · simp only [List.mem_cons, List.not_mem_nil, or_false] at hy
                  subst hy
                  intro h
                  rw [abvB_iff.2 h] at ho; cases ho)
              clear ho
              go_wp2_with fail
              go_roundw
              case rel => exact ⟨k + 1, by omega, by go_num, HN2, B6⟩
              case measure => simp [intOf]; omega
            · have HE2 := Lib.hid (HE7.out ⟨x, HM.out, abvB_iff.1 ho⟩)
              clear ho
              go_wp2_with fail
              go_ret
              exact ⟨ret_i64 HE2.out.symm, BW6.out⟩
          · have HE2 := Lib.hid (HE0.out (fun ⟨y, hy, h⟩ => hN.out y (by rw [List.take_of_length_le (by rw [← HL.out]; omega)]; exact hy) h))
            go_wp2_with fail
            go_ret
            exact ⟨ret_i64 HE2.out.symm, BW.out⟩
end Go.Proofs.YtbjbimabgfpdoaaGreatDoor
namespace Go.Proofs.YtbjbimabgfpdoaaGreatDoor
open Go.RowKit Go.Wk Go.Sort
set_option maxRecDepth 100000

theorem udCells_set : ∀ (O : List Ud) (r : Nat) (x : Ud), udCells (O.set r x) = ((udCells O).set (r * 2) (.string x.1)).set (r * 2 + 1) (.string x.2)
  | [], r, x => rfl
  | y :: O, 0, x => rfl
  | y :: O, r + 1, x => by
    rw [show (r + 1) * 2 = r * 2 + 1 + 1 by omega]
    simp only [List.set_cons_succ, udCells, udCells_set O r x]
theorem udCells_at : ∀ (P : List Ud) (k : Nat) (x : Ud), P[k]? = some x → (udCells P)[k * 2]? = some (.string x.1) ∧ (udCells P)[k * 2 + 1]? = some (.string x.2)
  | [], k, x, h => by simp at h
  | y :: P, 0, x, h => by simp at h; subst h; exact ⟨rfl, rfl⟩
  | y :: P, k + 1, x, h => by
    have := udCells_at P k x (by simpa using h)
    rw [show (k + 1) * 2 = k * 2 + 1 + 1 by omega]
    simpa [udCells] using this
theorem udCells_zero (n : Nat) : (madeCells #[.string ⟨#[]⟩, .string ⟨#[]⟩] (n * 2)).toList = udCells (List.replicate n (⟨#[]⟩, ⟨#[]⟩)) := by
  apply List.ext_getElem?
  intro j
  by_cases hj : j < n * 2
  · have hr : (List.replicate n ((⟨#[]⟩, ⟨#[]⟩) : Ud))[j / 2]? = some (⟨#[]⟩, ⟨#[]⟩) := by rw [List.getElem?_replicate, if_pos (by omega)]
    obtain ⟨h1, h2⟩ := udCells_at _ _ _ hr
    have e1 : (madeCells #[.string ⟨#[]⟩, .string ⟨#[]⟩] (n * 2)).toList[j]? = some (.string ⟨#[]⟩) := by
      rcases Nat.mod_two_eq_zero_or_one j with h | h <;> simp [madeCells, hj, h]
    rw [e1]
    rcases Nat.mod_two_eq_zero_or_one j with h | h
    · rw [show j = j / 2 * 2 by omega, h1]
    · rw [show j = j / 2 * 2 + 1 by omega, h2]
  · rw [List.getElem?_eq_none (by simp [size_madeCells]; omega), List.getElem?_eq_none (by simp; omega)]
/-- A block that holds uids. -/
def UdBlk (w : World) (g : Nat) (O : List Ud) : Prop := w.heap[g]? = some (.cells (udCells O).toArray 30 (0, 0))
theorem UdBlk.keep {w w' : World} {g : Nat} {O : List Ud} (h : UdBlk w g O) (hb : Below w.heap.size w w') : UdBlk w' g O := (hb.block g (Array.getElem?_eq_some_iff.1 h).1).trans h
theorem UdBlk.cell {w : World} {g : Nat} {O : List Ud} (h : UdBlk w g O) : ∀ j u, (udCells O)[j]? = some u → w.cell? ((⟨g, 0, none⟩ : Addr).add j) = some u := by
  intro j u hj
  have e : (⟨g, 0, none⟩ : Addr).add j = ⟨g, j, none⟩ := by
    unfold Addr.add; split
    · rename_i h0; subst h0; rfl
    · simp
  rw [e]
  unfold World.cell?
  rw [h]; simpa using hj
theorem UdBlk.at {w : World} {g : Nat} {O : List Ud} (h : UdBlk w g O) {r : Nat} (hr : r < O.length) : w.cell? ⟨g, r * 2, none⟩ = some (.string O[r].1) ∧ w.cell? ⟨g, r * 2 + 1, none⟩ = some (.string O[r].2) := by
  obtain ⟨h1, h2⟩ := udCells_at O r _ (List.getElem?_eq_getElem hr)
  unfold World.cell?
  rw [h]
  exact ⟨by simpa using h1, by simpa using h2⟩
theorem UdBlk.frozen {w : World} {g : Nat} {O : List Ud} (h : UdBlk w g O) (j : Nat) : w.frozen? ⟨g, j, none⟩ = false := by
  unfold World.frozen?
  rw [h]; simp
theorem UdBlk.set {w : World} {g : Nat} {O : List Ud} (h : UdBlk w g O) (r : Nat) (x : Ud) : UdBlk ((w.setCell ⟨g, r * 2, none⟩ (.string x.1)).setCell ⟨g, r * 2 + 1, none⟩ (.string x.2)) g (O.set r x) := by
  unfold UdBlk at h ⊢
  rw [udCells_set]
  simp only [World.setCell, Array.getElem?_modify, if_true, h]
  simp
theorem udMake (n : Nat) (hn : n ≤ 1000) (w : World) : ∃ w0, (Instr.makeSlice 31 (.int .i64 (n : Int)) (.int .i64 (n : Int))).run Tryz.prog w = .ok (.slice (some ⟨w.heap.size, 0, none⟩) n n) w0 ∧ UdBlk w0 w.heap.size (List.replicate n (⟨#[]⟩, ⟨#[]⟩)) ∧ Below w.heap.size w w0 := by
  obtain ⟨i, hi, hz, h1, h2⟩ := info_parts udInfo
  have := run_make (P := Tryz.prog) w 31 30 i _ Tryz.underlying31 hi hz .i64 .i64 (n : Int) (n : Int) (by omega) (by omega) (by rw [h2]; omega) (by omega)
  rw [h1] at this
  refine ⟨_, by simpa [Value.cells] using this, ?_, (Below.refl _ _).alloc (Nat.le_refl _) _⟩
  unfold UdBlk
  rw [heap_alloc_new, ← udCells_zero]
def ltU (x y : Ud) : Bool := decide (cfU x y < 0)
theorem ltU_irrefl (x : Ud) : ltU x x = false := by unfold ltU; rw [cfU_cmp.self]; rfl
theorem ltU_anti (x y : Ud) (h : ltU x y = true) : ltU y x = false := by
  unfold ltU at *
  have h1 := of_decide_eq_true h
  have h2 := cfU_cmp.anti x y
  exact decide_eq_false (by omega)
theorem ltU_asc {L : List Ud} (h : L.Nodup) : (sortU L).Pairwise fun x y => ltU x y = true := (sortU_asc h).imp fun h => decide_eq_true h
set_option maxHeartbeats 4000000 in
theorem ref_Sorted (A : Option Addr) (n c : Nat) (L : List Ud) (w : World) (h : Us w A n c L) (hnd : L.Nodup) (hl : n ≤ 1000) :
    Calls Tryz.prog 17 #[.slice A n c] w fun e w' => ∃ (A' : Option Addr) (c' : Nat), e = .returned (.slice A' n c') ∧ Us w' A' n c' (sortU L) ∧ Below w.heap.size w w' := by
  obtain ⟨w0, hrun, hblk, hb0⟩ := udMake n hl w
  have HU := Lib.hid h
  have HL := Lib.hid h.len
  have HASC := Lib.hid (ltU_asc hnd)
  have HPM := Lib.hid (sortU_perm L).symm
  have B0 := Lib.hid hb0
  have U0 := Lib.hid hblk
  have P0 := Lib.hid (show Put ltU L (sortU L) (List.replicate n (⟨#[]⟩, ⟨#[]⟩)) 0 from ⟨by rw [List.length_replicate, h.len], fun i _ hi => by omega⟩)
  have HG := Lib.hid (show w.heap.size < w0.heap.size from (Array.getElem?_eq_some_iff.1 hblk).1)
  clear h hnd hblk hb0
  go_enter Tryz.func17, Tryz.ntmps17
  go_wp2_with fail
  clear hrun
  obtain ⟨g, hg⟩ : ∃ g, g = w.heap.size := ⟨_, rfl⟩
  have HGW := Lib.hid hg
  rw [← hg] at U0 ⊢
  clear hg
  go_loopw [4, 5, 6] (fun i _ _ wr => ∃ (k : Nat) (O : List Ud), k ≤ n ∧ i = .int .i64 k ∧ Hid (Put ltU L (sortU L) O k) ∧ Hid (UdBlk wr g O) ∧ Hid (Below w.heap.size w wr)) (fun i _ _ _ => n - (intOf i).toNat)
  case atStart => exact ⟨0, _, Nat.zero_le _, rfl, P0, U0, B0⟩
  case round =>
    clear P0 U0 B0
    obtain ⟨k, O, hk, rfl, hP, hO, hB⟩ := hrel
    obtain ⟨w4, rfl⟩ : ∃ w4 : World, w4 = wr := ⟨_, rfl⟩
    by_cases hlt : k < n
    · have hlt' : k < L.length := by rw [← HL.out]; exact hlt
      have HST := Lib.hid (hP.out.step ltU_irrefl ltU_anti HPM.out HASC.out hlt')
      have HRK := Lib.hid (rank_at ltU_irrefl ltU_anti HPM.out HASC.out (List.getElem_mem hlt')).1
      have HXE := Lib.hid (List.getElem?_eq_getElem hlt')
      have zx := HU.out.ok _ (List.getElem_mem hlt')
      generalize L[k] = x at *
      go_wp2_with fail
      go_loopw [5, 6] (fun ah j wj => ∃ q : Nat, q ≤ n ∧ j = .int .i64 q ∧ ah = .int .i64 (rankU ltU (L.take q) x) ∧ Hid (Below w4.heap.size w4 wj)) (fun _ j _ => n - (intOf j).toNat)
      case atStart => exact ⟨0, Nat.zero_le _, rfl, rfl, Below.refl _ _⟩
      case round =>
        obtain ⟨q, hq, rfl, rfl, hJ⟩ := hrel
        have BJ := bh hB hJ.out
        have hrl : rankU ltU (L.take q) x ≤ 1000 := Nat.le_trans (rankU_le _ _ _) (by rw [List.length_take]; omega)
        by_cases hlq : q < n
        · have hlq' : q < L.length := by rw [← HL.out]; exact hlq
          have HT := Lib.hid (rankU_step ltU hlq' x)
          have zy := HU.out.ok _ (List.getElem_mem hlq')
          obtain ⟨a, rfl, q0, q1⟩ := (HU.out.keep BJ.out).at_ q _ (List.getElem?_eq_getElem hlq')
          obtain ⟨a', ea, r0, r1⟩ := (HU.out.keep BJ.out).at_ k x HXE.out
          injection ea with ea
          subst ea
          generalize L[q] = y at *
          have K := rq (w := wr) (v := .int .i64 (cmpUid y.1 y.2 x.1 x.2)) (fun w' _ => ref_Uids y.1 y.2 x.1 x.2 w' zy.1 zy.2 zx.1 zx.2)
          have k0 := cell_regrown q0
          have k1 := cell_regrown q1
          have v0 := cell_regrown r0
          have v1 := cell_regrown r1
          clear q0 q1 r0 r1 zy
          unfold ltU cfU at HT
          generalize cmpUid y.1 y.2 x.1 x.2 = cu at *
          go_wp2_with fail
          refine wp_region_quiet_below (by kernel_rfl) (by kernel_rfl) ?_
          repeat (first | go_big_quiet_step (exact K _ _) | quiet_step (exact K _ _))
          refine wpQuiet_nil ?_
          intro w5 hw'
          have b5 := Lib.hid (show Below wr.heap.size wr w5 by obtain ⟨⟨d, os⟩, rfl⟩ := hw'; exact below_regrown _ _ _)
          clear hw'
          have B5 := bhid hJ b5 (Nat.le_refl _)
          clear k0 k1 v0 v1 K
          by_cases hc : cu < 0
          · have HA2 := Lib.hid (show ((rankU ltU (L.take (q + 1)) x : Nat) : Int) = (rankU ltU (L.take q) x : Nat) + 1 by
              have := HT.out
              rw [decide_eq_true hc, if_pos rfl] at this
              show ((rankU (fun x y => decide (cmpUid x.1 x.2 y.1 y.2 < 0)) (L.take (q + 1)) x : Nat) : Int) = _
              rw [this]; rfl)
            clear HT
            go_wp2_with fail
            go_roundw
            case rel => exact ⟨q + 1, by omega, by go_num, by rw [HA2.out], B5⟩
            case measure => simp [intOf]; omega
          · have HA2 := Lib.hid (show ((rankU ltU (L.take (q + 1)) x : Nat) : Int) = (rankU ltU (L.take q) x : Nat) by
              have := HT.out
              rw [decide_eq_false hc, if_neg (by decide)] at this
              show ((rankU (fun x y => decide (cmpUid x.1 x.2 y.1 y.2 < 0)) (L.take (q + 1)) x : Nat) : Int) = _
              rw [this]; rfl)
            clear HT
            go_wp2_with fail
            go_roundw
            case rel => exact ⟨q + 1, by omega, by go_num, by rw [HA2.out], B5⟩
            case measure => simp [intOf]; omega
        · have hrk : rankU ltU (L.take q) x = rankU ltU L x := by rw [List.take_of_length_le (by rw [← HL.out]; omega)]
          rw [hrk] at hrl
          rw [hrk]
          have hrn : rankU ltU L x < n := by have := HRK.out; rw [HL.out]; exact this
          obtain ⟨r, hr⟩ : ∃ r, r = rankU ltU L x := ⟨_, rfl⟩
          rw [← hr] at hrl hrn HST ⊢
          clear hr hrk
          obtain ⟨a', ea, r0, r1⟩ := (HU.out.keep BJ.out).at_ k x HXE.out
          subst ea
          have OJ := Lib.hid (hO.out.keep hJ.out)
          have HOL := Lib.hid hP.out.1
          have f0 := OJ.out.frozen (r * 2)
          have f1 := OJ.out.frozen (r * 2 + 1)
          obtain ⟨e0, e1⟩ := OJ.out.at (r := r) (by have := HOL.out; have := HL.out; omega)
          generalize O[r]'(_) = old at *
          have OS := Lib.hid (OJ.out.set r x)
          have BS := Lib.hid ((BJ.out.setCell (p := ⟨g, r * 2, none⟩) (by rw [← HGW.out]; exact Nat.le_refl _) (.string x.1)).setCell (p := ⟨g, r * 2 + 1, none⟩) (by rw [← HGW.out]; exact Nat.le_refl _) (.string x.2))
          go_wp2_with fail
          go_roundw
          case rel => exact ⟨k + 1, _, by omega, by go_num, HST, OS, BS⟩
          case measure => simp [intOf]; omega
    · have HD := Lib.hid (hP.out.done ltU_irrefl ltU_anti HPM.out HASC.out (by rw [← HL.out]; omega))
      have hpl := HPM.out.length_eq
      go_wp2_with fail
      go_ret
      have hO2 := hO.out
      rw [HD.out] at hO2
      exact ⟨_, _, rfl, ⟨by rw [HL.out]; exact hpl, Nat.le_refl _, by unfold maxLen; omega, uds_cells hO2.cell, fun y hy => HU.out.ok y (HPM.out.mem_iff.2 hy)⟩, hB.out⟩
end Go.Proofs.YtbjbimabgfpdoaaGreatDoor
namespace Go.Proofs.YtbjbimabgfpdoaaGreatDoor
open Go.RowKit Go.Wk Go.Maps
set_option maxRecDepth 100000

/-- What is told of one's record: nothing is wrong with the store, and one is there. -/
noncomputable def attrF (E : List En) (u : Ud) : Int := if storeF E = 0 then (if hadE E u = true then 0 else 8) else storeF E
def AttrPost (w : World) (E : List En) (u : Ud) (e : Ending) (w' : World) : Prop :=
  ∃ (A : Option Addr) (n c : Nat) (P : List Nd), e = .returned (.tuple #[.slice A n c, errV (attrF E u)]) ∧ Ns w' A n c P ∧ (attrF E u ≠ 0 → P = []) ∧ (attrF E u = 0 → ∀ x ∈ E, x.u = u → P = x.P) ∧ Below w.heap.size w w'
theorem attr_nil {w w' : World} {E : List En} {u : Ud} {f : Int} (h : attrF E u = f) (h0 : f ≠ 0) (hb : Below w.heap.size w w') : AttrPost w E u (.returned (.tuple #[.slice none 0 0, .iface 27 (.int .i64 f)])) w' :=
  ⟨none, 0, 0, [], by rw [h, errV_ne h0], ⟨rfl, Nat.le_refl _, Nat.zero_le _, (fun k x hx => by simp at hx), (fun x hx => nomatch hx)⟩, fun _ => rfl, fun h2 => absurd (h.symm.trans h2) h0, hb⟩
theorem entF_val {x : En} (h : entF x = 0) : valFault x.P = 0 := by
  unfold entF at h
  split at h
  · cases h
  · split at h
    · split at h
      · assumption
      · rename_i h2; exact absurd h h2
    · rename_i h2; exact absurd h h2
theorem has_puts {E : List En} (hok : ∀ x ∈ E, UOk x.u) {u : Ud} (hu : UOk u) : Maps.has (mapU (putsE E)) (keyU u) = hadE E u := by
  rw [Bool.eq_iff_iff, has_mapU, hadE_iff]
  constructor
  · rintro ⟨y, hy, e⟩
    obtain ⟨x, hx, rfl⟩ := List.mem_map.1 hy
    exact ⟨x, hx, (keyU_inj hu (hok x hx) e).symm⟩
  · rintro ⟨x, hx, rfl⟩
    exact ⟨(x.u, x.v), List.mem_map.2 ⟨x, hx, rfl⟩, rfl⟩
/-- v, ok := m[k]. -/
theorem look_ok_at {P : Program} {w : World} {t k e : TypeId} {b n : Nat} {D : DataW Value} (h : w.ownsMap P k heldR b n D) (K : Keyed P k) (ht : P.underlying t = some (.map k e)) {z : Value} (hz : (zeroValue e).run P w = .ok z w)
    {key : Value} {kl : Lit} (hkey : keyOf P k key = some kl) {u : Value} (hu : D.atKey kl (.held z) = .held u) {hb : Bool} (hh : Maps.has D kl = hb) :
    (Instr.lookup t (.map (some b)) key true).run P w = .ok (.tuple #[u, .bool hb]) w := by
  obtain ⟨v, ps, hrun, hv⟩ := h.look_ok K ht hz (zd := .held z) (zp := []) rfl hkey
  have : v = u := by
    unfold heldR at hv
    rw [hu] at hv
    simp at hv
    exact hv.1
  subst this
  rw [hrun, hh]
/-- A variable of four cells of the call's own. -/
structure Bx4 (w : World) (b : Nat) (x0 x1 x2 x3 : Value) : Prop where
  c0 : w.cell? ⟨b, 0, none⟩ = some x0
  c1 : w.cell? ⟨b, 1, none⟩ = some x1
  c2 : w.cell? ⟨b, 2, none⟩ = some x2
  c3 : w.cell? ⟨b, 3, none⟩ = some x3
  z0 : w.frozen? ⟨b, 0, none⟩ = false
  z1 : w.frozen? ⟨b, 1, none⟩ = false
  z2 : w.frozen? ⟨b, 2, none⟩ = false
  z3 : w.frozen? ⟨b, 3, none⟩ = false
theorem Bx4.keep {w w' : World} {b : Nat} {x0 x1 x2 x3 : Value} (h : Bx4 w b x0 x1 x2 x3) (hb : Below w.heap.size w w') : Bx4 w' b x0 x1 x2 x3 :=
  have hl := block_lt_of_cell h.c0
  ⟨cell_keep hb h.c0, cell_keep hb h.c1, cell_keep hb h.c2, cell_keep hb h.c3, by rw [(bcell hb).2 b 0 hl]; exact h.z0, by rw [(bcell hb).2 b 1 hl]; exact h.z1, by rw [(bcell hb).2 b 2 hl]; exact h.z2, by rw [(bcell hb).2 b 3 hl]; exact h.z3⟩
theorem bx4_new (w : World) (x0 x1 x2 x3 : Value) (t : TypeId) : Bx4 (w.alloc (.cells #[x0, x1, x2, x3] t)) w.heap.size x0 x1 x2 x3 :=
  ⟨cell_row (heap_alloc_last w _) rfl, cell_row (heap_alloc_last w _) rfl, cell_row (heap_alloc_last w _) rfl, cell_row (heap_alloc_last w _) rfl, by simp, by simp, by simp, by simp⟩
set_option maxHeartbeats 4000000 in
theorem ent_Attrs (A : Option Addr) (n c : Nat) (E : List En) (u : Ud) (w : World) (h : Es w A n c E) (hu : UOk u) :
    Calls Tryz.prog 23 #[.slice A n c, udV u] w (AttrPost w E u) := by
  have HH := Lib.hid h
  have HUO := Lib.hid h.uok
  have HL := Lib.hid h.len
  have HU := Lib.hid hu
  clear h hu
  unfold udV
  go_enter Tryz.func23, Tryz.ntmps23
  go_wp2_with fail
  have P1 := Lib.hid (vr2_new w (.string u.1) (.string u.2) 30)
  have B1 := Lib.hid (below_box w (.cells #[.string u.1, .string u.2] 30))
  obtain ⟨w1, hw1⟩ : ∃ w1, w.alloc (.cells #[.string u.1, .string u.2] 30) = w1 := ⟨_, rfl⟩
  rw [hw1] at P1 B1 ⊢
  clear hw1
  refine (ent_Check A n c E w1 (HH.out.keep B1.out)).mono ?_
  rintro e w2 ⟨rfl, b2⟩
  have P2 := Lib.hid (P1.out.keep b2)
  have B2 := bh B1 b2
  clear P1 B1 b2
  by_cases hs : storeF E = 0
  · obtain ⟨hs1, hs2, -⟩ := store_ok hs
    obtain ⟨ho1, -, ho2⟩ := ents_ok E [] hs2
    have HO1 := Lib.hid ho1
    have HO2 := Lib.hid ho2
    have H16 := Lib.hid hs1
    have HF := Lib.hid (show attrF E u = if hadE E u = true then 0 else 8 by unfold attrF; rw [if_pos hs])
    rw [hs, errV_zero]
    clear hs hs1 hs2 ho1 ho2
    have HK := Lib.hid (keyOf_ud u HU.out)
    unfold udV at HK
    have HHAS := Lib.hid (has_puts HUO.out HU.out)
    have HAT := Lib.hid (at_mapU (putsE E) u HU.out zeroE (putsE_ok HUO.out))
    have K2 := Lib.hid (fun w' (hb : Below w.heap.size w w') => ent_stored A n c E w' (HH.out.keep hb) (by have := HL.out; have := H16.out; omega))
    have PD := Lib.hid (P2.out.keep (below_drew w2))
    obtain ⟨c0, c1, -, -⟩ := PD.out
    have BD := Lib.hid (show Below w.heap.size w w2.drew from B2.out.trans ((below_drew w2).mono B2.out.size))
    go_wp2_with fail
    rcases hh : hadE E u with _ | _
    · rw [hh] at HHAS HF
      have HAT0 := Lib.hid (show (mapU (putsE E)).atKey (keyU u) (.held zeroE) = .held zeroE by
        rw [HAT.out, lastU_none]
        · rfl
        · intro y hy e
          obtain ⟨x, hx, rfl⟩ := List.mem_map.1 hy
          have := hadE_iff.2 ⟨x, hx, e⟩
          rw [hh] at this; cases this)
      clear hh HAT
      unfold zeroE at HAT0
      have PA := Lib.hid (PD.out.keep (below_box w2.drew (.cells #[.string ⟨#[]⟩, .string ⟨#[]⟩, .slice none 0 0, .slice none 0 0] 36)))
      obtain ⟨g0, g1, -, -⟩ := PA.out
      obtain ⟨g4, g5, -, -⟩ := P2.out
      have hne2 : w.heap.size ≠ w2.drew.heap.size := Nat.ne_of_lt (block_lt_of_cell c0)
      have hlt : w.heap.size < w2.heap.size := block_lt_of_cell c0
      have hne : w.heap.size ≠ w2.heap.size := by omega
      have BA := bh BD (below_box w2.drew (.cells #[.string ⟨#[]⟩, .string ⟨#[]⟩, .slice none 0 0, .slice none 0 0] 36))
      have XA := Lib.hid (show Bx4 (w2.drew.alloc (.cells #[.string ⟨#[]⟩, .string ⟨#[]⟩, .slice none 0 0, .slice none 0 0] 36)) w2.heap.size (.string ⟨#[]⟩) (.string ⟨#[]⟩) (.slice none 0 0) (.slice none 0 0) from bx4_new w2.drew (.string ⟨#[]⟩) (.string ⟨#[]⟩) (.slice none 0 0) (.slice none 0 0) 36)
      go_region_with (first
        | (go_at_call 29; (refine (K2.out _ BD.out).mono ?_); rintro e w3 ⟨bs, rfl, hbs, hO, b3⟩; (obtain ⟨d0, d1, -, -⟩ := PD.out.keep b3); (obtain ⟨g2, g3, -, -⟩ := (PD.out.keep b3).keep (below_box w3 (.cells #[.string ⟨#[]⟩, .string ⟨#[]⟩, .slice none 0 0, .slice none 0 0] 36))); (have B3 := Lib.hid (BD.out.trans (b3.mono BD.out.size))); (have hrun := look_ok_at hO uidKeyed Tryz.underlying62 (zero_ent _) HK.out HAT0.out HHAS.out); (have hrun' := look_ok_at (ownsMap_keep hO (below_box w3 (.cells #[.string ⟨#[]⟩, .string ⟨#[]⟩, .slice none 0 0, .slice none 0 0] 36))) uidKeyed Tryz.underlying62 (zero_ent _) HK.out HAT0.out HHAS.out); clear hbs b3 hO)
        | (go_at_call 29; (refine (K2.out _ BA.out).mono ?_); rintro e w3 ⟨bs, rfl, hbs, hO, b3⟩; (obtain ⟨d0, d1, -, -⟩ := PA.out.keep b3); (obtain ⟨e0, e1, e2, e3, f0, f1, f2, f3⟩ := XA.out.keep b3); (have B3 := Lib.hid (BA.out.trans (b3.mono BA.out.size))); (have hrun := look_ok_at hO uidKeyed Tryz.underlying62 (zero_ent _) HK.out HAT0.out HHAS.out); clear hbs b3 hO))
      all_goals
        clear hrun g0 g1 g4 g5 d0 d1
        go_wp2_with fail
        go_ret2
        refine attr_nil (f := 8) (by simpa using HF.out) (by decide) ?_
        have hs3 := B3.out.size
        repeat' (first | exact B3.out | refine Below.alloc ?_ ?_ _ | refine Below.setCell ?_ ?_ _)
        all_goals (try simp)
        all_goals (try omega)
    · rw [hh] at HHAS HF
      obtain ⟨x, hx, hxu⟩ := hadE_iff.1 hh
      have HXP := Lib.hid (show ∀ y ∈ E, y.u = u → y = x from fun y hy hyu => by
        obtain ⟨i, hi, rfl⟩ := List.getElem_of_mem hy
        obtain ⟨j, hj, rfl⟩ := List.getElem_of_mem hx
        have hp := List.pairwise_iff_getElem.1 HO2.out
        rcases Nat.lt_trichotomy i j with hl | he | hl
        · have q := hp i j (by simpa using hi) (by simpa using hj) hl
          rw [List.getElem_map, List.getElem_map] at q
          exact absurd (hyu.trans hxu.symm) q
        · subst he; rfl
        · have q := hp j i (by simpa using hj) (by simpa using hi) hl
          rw [List.getElem_map, List.getElem_map] at q
          exact absurd (hxu.trans hyu.symm) q)
      have HXO := Lib.hid (HH.out.enok x hx)
      have HXV := Lib.hid (entF_val (HO1.out x hx).2)
      have HAT0 := Lib.hid (show (mapU (putsE E)).atKey (keyU u) (.held zeroE) = .held (.agg #[.string x.u.1, .string x.u.2, .slice x.UA x.un x.uc, .slice x.NA x.nn x.nc]) by
        rw [HAT.out]
        have : lastU (putsE E) u = some x.v := by
          rw [← hxu]
          exact lastU_some (x := (x.u, x.v)) (by rw [putsE, List.map_map]; exact HO2.out) (List.mem_map.2 ⟨x, hx, rfl⟩)
        rw [this]; rfl)
      clear hh HAT hx hxu
      unfold zeroE at HAT0
      obtain ⟨a, ha, -⟩ := HXO.out.ns.at_.nd (isV_zero.1 HXV.out).2.pos
      have KC := Lib.hid (fun W (hb : Below w.heap.size w W) => (clone_nodes a x.nn x.nc x.P W (by rw [← ha]; exact HXO.out.ns.keep hb) (by have := (isV_zero.1 HXV.out).1; omega)).mono (R' := fun e w' => ∃ (A' : Option Addr) (c' : Nat), e = .returned (.slice A' x.P.length c') ∧ Ns w' A' x.P.length c' x.P ∧ Below w.heap.size w w') fun e w' ⟨A', c', h1, h2, _, h3⟩ => ⟨A', c', h1, h2, hb.trans (h3.mono hb.size)⟩)
      rw [ha] at HAT0
      have PA := Lib.hid (PD.out.keep (below_box w2.drew (.cells #[.string ⟨#[]⟩, .string ⟨#[]⟩, .slice none 0 0, .slice none 0 0] 36)))
      obtain ⟨g0, g1, -, -⟩ := PA.out
      obtain ⟨g4, g5, -, -⟩ := P2.out
      have hne2 : w.heap.size ≠ w2.drew.heap.size := Nat.ne_of_lt (block_lt_of_cell c0)
      have hlt : w.heap.size < w2.heap.size := block_lt_of_cell c0
      have hne : w.heap.size ≠ w2.heap.size := by omega
      have BA := bh BD (below_box w2.drew (.cells #[.string ⟨#[]⟩, .string ⟨#[]⟩, .slice none 0 0, .slice none 0 0] 36))
      have XA := Lib.hid (show Bx4 (w2.drew.alloc (.cells #[.string ⟨#[]⟩, .string ⟨#[]⟩, .slice none 0 0, .slice none 0 0] 36)) w2.heap.size (.string ⟨#[]⟩) (.string ⟨#[]⟩) (.slice none 0 0) (.slice none 0 0) from bx4_new w2.drew (.string ⟨#[]⟩) (.string ⟨#[]⟩) (.slice none 0 0) (.slice none 0 0) 36)
      go_region_with (first
        | (go_at_call 29; (refine (K2.out _ BD.out).mono ?_); rintro e w3 ⟨bs, rfl, hbs, hO, b3⟩; (obtain ⟨d0, d1, -, -⟩ := PD.out.keep b3); (obtain ⟨g2, g3, -, -⟩ := (PD.out.keep b3).keep (below_box w3 (.cells #[.string ⟨#[]⟩, .string ⟨#[]⟩, .slice none 0 0, .slice none 0 0] 36))); (have B3 := Lib.hid (BD.out.trans (b3.mono BD.out.size))); (have hrun := look_ok_at hO uidKeyed Tryz.underlying62 (zero_ent _) HK.out HAT0.out HHAS.out); (have hrun' := look_ok_at (ownsMap_keep hO (below_box w3 (.cells #[.string ⟨#[]⟩, .string ⟨#[]⟩, .slice none 0 0, .slice none 0 0] 36))) uidKeyed Tryz.underlying62 (zero_ent _) HK.out HAT0.out HHAS.out); clear hbs b3 hO)
        | (go_at_call 29; (refine (K2.out _ BA.out).mono ?_); rintro e w3 ⟨bs, rfl, hbs, hO, b3⟩; (obtain ⟨d0, d1, -, -⟩ := PA.out.keep b3); (obtain ⟨e0, e1, e2, e3, f0, f1, f2, f3⟩ := XA.out.keep b3); (have B3 := Lib.hid (BA.out.trans (b3.mono BA.out.size))); (have hrun := look_ok_at hO uidKeyed Tryz.underlying62 (zero_ent _) HK.out HAT0.out HHAS.out); clear hbs b3 hO))
      all_goals
        clear hrun g0 g1 g4 g5 d0 d1
        go_wp2_with fail
        refine (KC.out _ ?_).mono ?_
        · have hs3 := B3.out.size
          repeat' (first | exact B3.out | refine Below.alloc ?_ ?_ _ | refine Below.setCell ?_ ?_ _)
          all_goals (try simp)
          all_goals (try omega)
        rintro e w9 ⟨A9, c9, rfl, hns, b9⟩
        have HNS := Lib.hid hns
        have B9 := Lib.hid b9
        clear hns b9
        go_wp2_with fail
        go_ret2
        have h0 : attrF E u = 0 := by simpa using HF.out
        exact ⟨A9, x.P.length, c9, x.P, by rw [h0]; rfl, HNS.out, fun h => absurd h0 h, fun _ y hy hyu => by rw [HXP.out y hy hyu], B9.out⟩
  · have HE := Lib.hid (show attrF E u = storeF E by unfold attrF; rw [if_neg hs])
    have HN := Lib.hid hs
    rw [errV_ne hs]
    generalize storeF E = f at *
    clear hs
    go_wp2_with fail
    go_ret2
    exact attr_nil HE.out HN.out B2.out
end Go.Proofs.YtbjbimabgfpdoaaGreatDoor
namespace Go.Proofs.YtbjbimabgfpdoaaGreatDoor
open Go.RowKit Go.Wk
set_option maxRecDepth 100000

theorem asc_same {E : List En} {a : Ud} {U L : List Ud} (h : UpOf E a U) (hm : ∀ y, y ∈ L ↔ Abv (graphE E) a y) (hn : L.Nodup) : U = sortU L :=
  asc_one (R := fun x y => cfU x y < 0) (fun x => by rw [cfU_cmp.self]; decide) (fun x y z h1 h2 => cfU_cmp.lt_le h1 (by omega)) U (sortU L) h.asc (sortU_asc hn) fun y => by
    rw [h.mem, (sortU_perm L).mem_iff, hm]
theorem inB_or {E : List En} (h : storeF E = 0) (a b : Ud) : inB E a b = (decide (a = b) || abvB E a b) := by
  rw [Bool.eq_iff_iff, Bool.or_eq_true, abvB_iff, decide_eq_true_iff]
  constructor
  · intro hb
    by_cases hc : b = a ∨ Abv (graphE E) a b
    · exact hc.imp (fun e => e.symm) id
    · rw [inB_false hc] at hb; cases hb
  · intro hc
    exact inB_true h (hc.imp (fun e => e.symm) id)
/-- What the law wants of the record. -/
structure RecWant (E : List En) (a : Ud) (f : Int) (P : List Nd) : Prop where
  f_ : f = attrF E a
  p0 : attrF E a ≠ 0 → P = []
  p1 : attrF E a = 0 → ∃ x ∈ E, x.u = a ∧ P = x.P
theorem RecWant.same {E : List En} {a : Ud} {f : Int} {P Q : List Nd} (h : RecWant E a f P) (h0 : attrF E a ≠ 0 → Q = []) (h1 : attrF E a = 0 → ∀ x ∈ E, x.u = a → Q = x.P) : Q = P := by
  by_cases hf : attrF E a = 0
  · obtain ⟨x, hx, hu, hp⟩ := h.p1 hf
    rw [h1 hf x hx hu, hp]
  · rw [h0 hf, h.p0 hf]
set_option maxHeartbeats 16000000 in
theorem EntAbove_walk (A : Option Addr) (n c : Nat) (E : List En) (x1 y1 x2 y2 : ByteArray) (w : World) (h : Es w A n c E) (h1 : x1.size ≤ maxLen) (h2 : y1.size ≤ maxLen) (h3 : x2.size ≤ maxLen) (h4 : y2.size ≤ maxLen) (hg : Door w) :
    Calls Tryz.prog 5 #[.slice A n c, .agg #[.string x1, .string y1], .agg #[.string x2, .string y2]] w fun e w' => e = .returned (.bool true) ∧ Below w.heap.size w w' := by
  have HH := Lib.hid h
  have HL := Lib.hid h.len
  have hmax := h.max
  unfold maxLen at hmax
  have U1 := Lib.hid (show UOk (x1, y1) from ⟨h1, h2⟩)
  have U2 := Lib.hid (show UOk (x2, y2) from ⟨h3, h4⟩)
  have HG := Lib.hid hg
  clear h h1 h2 h3 h4 hg
  go_enter Tryz.func5, Tryz.ntmps5
  go_wp2_with fail
  have Pa := Lib.hid (vr2_new w (.string x1) (.string y1) 30)
  have B0 := Lib.hid (below_box w (.cells #[.string x1, .string y1] 30))
  have hsz : (w.alloc (.cells #[.string x1, .string y1] 30)).heap.size = w.heap.size + 1 := by simp
  obtain ⟨w0, hw0⟩ : ∃ w0, w.alloc (.cells #[.string x1, .string y1] 30) = w0 := ⟨_, rfl⟩
  rw [hw0] at Pa B0 hsz ⊢
  rw [← hsz]
  clear hw0 hsz
  have P1 := Lib.hid (Pa.out.keep (below_box w0 (.cells #[.string x2, .string y2] 30)))
  have Q1 := Lib.hid (vr2_new w0 (.string x2) (.string y2) 30)
  have B1 := bh B0 (below_box w0 (.cells #[.string x2, .string y2] 30))
  obtain ⟨w1, hw1⟩ : ∃ w1, w0.alloc (.cells #[.string x2, .string y2] 30) = w1 := ⟨_, rfl⟩
  rw [hw1] at P1 Q1 B1 ⊢
  clear hw1 Pa B0
  refine (ref_StoreFault A n c E w1 (HH.out.keep B1.out)).mono ?_
  rintro e w2 ⟨rfl, b2⟩
  have P2 := Lib.hid (P1.out.keep b2)
  have Q2 := Lib.hid (Q1.out.keep b2)
  have B2 := bh B1 b2
  clear P1 Q1 B1 b2
  by_cases hs : storeF E = 0
  · have HS := Lib.hid hs
    have HA := Lib.hid (show (allUps E).length ≤ 900 from by have h1 := ents_ups (store_ok hs).2.1; have h2 := (store_ok hs).1; omega)
    rw [hs]
    clear hs
    obtain ⟨p0, p1, -, -⟩ := P2.out
    obtain ⟨q0, q1, -, -⟩ := Q2.out
    have K3 := Lib.hid (ref_Ups A n c E (x1, y1) w2 (HH.out.keep B2.out) U1.out HA.out)
    unfold udV at K3
    go_wp2_with fail
    refine K3.out.mono ?_
    rintro e w3 ⟨A3, n3, c3, L, rfl, hus, hall, hnd, hl9, b3⟩
    have P3 := Lib.hid (P2.out.keep b3)
    have Q3 := Lib.hid (Q2.out.keep b3)
    have B3 := bh B2 b3
    have HALL := Lib.hid hall
    have HND := Lib.hid hnd
    have K4 := Lib.hid (ref_Sorted A3 n3 c3 L w3 hus hnd (by rw [hus.len]; omega))
    clear P2 Q2 B2 b3 K3 hus hall hnd p0 p1 q0 q1 hl9
    go_wp2_with fail
    refine K4.out.mono ?_
    rintro e w4 ⟨A4, c4, rfl, hus, b4⟩
    have P4 := Lib.hid (P3.out.keep b4)
    have Q4 := Lib.hid (Q3.out.keep b4)
    have B4 := bh B3 b4
    have HU4 := Lib.hid hus
    clear P3 Q3 B3 b4 K4 hus
    obtain ⟨p0, p1, -, -⟩ := P4.out
    obtain ⟨q0, q1, -, -⟩ := Q4.out
    have HSAME := Lib.hid (show ∀ U, (storeF E ≠ 0 → U = []) → (storeF E = 0 → UpOf E (x1, y1) U) → U = sortU L from fun U _ h1 => asc_same (h1 HS.out) HALL.out HND.out)
    have HEF := HS
    have KO := Lib.hid (ref_OverB A n c E (x1, y1) (x2, y2) w4 (HH.out.keep B4.out) U1.out HA.out)
    unfold udV at KO
    have HIN := Lib.hid (inB_or HS.out (x1, y1) (x2, y2))
    by_cases he : (x1, y1) = (x2, y2)
    · rw [decide_eq_true he, Bool.true_or] at HIN
      have e1 : x1 = x2 := congrArg Prod.fst he
      have e2 : y1 = y2 := congrArg Prod.snd he
      rw [← e1] at q0
      rw [← e2] at q1
      clear he KO e1 e2
      obtain ⟨w5, rfl⟩ : ∃ w5 : World, w5 = w4 := ⟨_, rfl⟩
      have P5 := P4
      have Q5 := Q4
      have B5 := B4
      have HU5 := HU4
      clear P4 Q4 B4 HU4
      go_wp2_with fail
      go_loopw [10, 11, 12] (fun at1 wn i wr => ∃ k : Nat, k ≤ n ∧ i = .int .i64 k ∧ Hid ((hadE (E.take k) (x1, y1) = false ∧ at1 = .int .i64 8 ∧ wn = .slice none 0 0) ∨ (∃ j : Nat, ∃ h : j < E.length, E[j].u = (x1, y1) ∧ at1 = .int .i64 0 ∧ wn = .slice E[j].NA E[j].nn E[j].nc)) ∧ Hid (Below w5.heap.size w5 wr)) (fun _ _ i _ => n - (intOf i).toNat)
      case atStart => exact ⟨0, Nat.zero_le _, rfl, Lib.hid (.inl ⟨rfl, rfl, rfl⟩), Below.refl _ _⟩
      case round =>
        obtain ⟨k, hk, rfl, hZ, hB⟩ := hrel
        have BW := bh B5 hB.out
        by_cases hlt : k < n
        · have hlt' : k < E.length := by rw [← HL.out]; exact hlt
          have HT := Lib.hid (hadE_take hlt' (x1, y1))
          have HJ := Lib.hid (show ∀ at1 wn, (E[k].u = (x1, y1) → at1 = Value.int .i64 0 ∧ wn = Value.slice E[k].NA E[k].nn E[k].nc) → E[k].u = (x1, y1) → (∃ j : Nat, ∃ h : j < E.length, E[j].u = (x1, y1) ∧ at1 = .int .i64 0 ∧ wn = .slice E[j].NA E[j].nn E[j].nc) from fun _ _ h he => ⟨k, hlt', he, (h he).1, (h he).2⟩)
          obtain ⟨a, rfl, q0, q1, q2, q3, -⟩ := (HH.out.keep BW.out).at_ k _ (List.getElem?_eq_getElem hlt')
          obtain ⟨t0, t1, -, -⟩ := P5.out.keep hB.out
          have v0 := cell_regrown t0
          have v1 := cell_regrown t1
          obtain ⟨x, hx⟩ : ∃ x, x = E[k] := ⟨_, rfl⟩
          rw [← hx] at HT HJ q0 q1 q2 q3
          clear hx
          by_cases he : x.u = (x1, y1)
          · have e1 : x.u.1 = x1 := by rw [he]
            have e2 : x.u.2 = y1 := by rw [he]
            have HE := Lib.hid he
            rw [e1] at q0
            rw [e2] at q1
            have k0 := cell_regrown q0
            have k1 := cell_regrown q1
            clear q0 q1 t0 t1 he e1 e2 HT hZ
            go_wp2_with fail
            refine wp_region_quiet_below (by kernel_rfl) (by kernel_rfl) ?_
            repeat (first | go_big_quiet_step (fail) | quiet_step (fail))
            refine wpQuiet_nil ?_
            intro w6 hw'
            have b6 := Lib.hid (show Below wr.heap.size wr w6 by obtain ⟨⟨d, os⟩, rfl⟩ := hw'; exact below_regrown _ _ _)
            clear hw'
            have B6 := bhid hB b6 (Nat.le_refl _)
            have q3' := cell_keep b6.out q3
            clear k0 k1 v0 v1 q2 q3
            go_wp2_with fail
            go_roundw
            case rel => exact ⟨k + 1, by omega, by go_num, Lib.hid (.inr (HJ.out _ _ (fun _ => ⟨rfl, rfl⟩) HE.out)), B6⟩
            case measure => simp [intOf]; omega
          · rw [decide_eq_false he, Bool.or_false] at HT
            have HZ2 := Lib.hid (hZ.out.imp (fun ⟨h1, h2⟩ => And.intro (HT.out.trans h1) h2) id)
            have hne := uid_ne he
            dsimp only at hne
            have k0 := cell_regrown q0
            have k1 := cell_regrown q1
            clear q0 q1 t0 t1 he HT hZ HJ
            rcases hne with h1 | ⟨h1, h2⟩
            · go_wp2_with fail
              refine wp_region_quiet_below (by kernel_rfl) (by kernel_rfl) ?_
              repeat (first | go_big_quiet_step (fail) | quiet_step (fail))
              refine wpQuiet_nil ?_
              intro w6 hw'
              have b6 := Lib.hid (show Below wr.heap.size wr w6 by obtain ⟨⟨d, os⟩, rfl⟩ := hw'; exact below_regrown _ _ _)
              clear hw'
              have B6 := bhid hB b6 (Nat.le_refl _)
              clear k0 k1 v0 v1 q2 q3
              go_wp2_with fail
              go_roundw
              case rel => exact ⟨k + 1, by omega, by go_num, HZ2, B6⟩
              case measure => simp [intOf]; omega
            · go_wp2_with fail
              refine wp_region_quiet_below (by kernel_rfl) (by kernel_rfl) ?_
              repeat (first | go_big_quiet_step (fail) | quiet_step (fail))
              refine wpQuiet_nil ?_
              intro w6 hw'
              have b6 := Lib.hid (show Below wr.heap.size wr w6 by obtain ⟨⟨d, os⟩, rfl⟩ := hw'; exact below_regrown _ _ _)
              clear hw'
              have B6 := bhid hB b6 (Nat.le_refl _)
              clear k0 k1 v0 v1 q2 q3
              go_wp2_with fail
              go_roundw
              case rel => exact ⟨k + 1, by omega, by go_num, HZ2, B6⟩
              case measure => simp [intOf]; omega
        · have hkE : E.take k = E := List.take_of_length_le (by rw [← HL.out]; omega)
          obtain ⟨w6, rfl⟩ : ∃ w6 : World, w6 = wr := ⟨_, rfl⟩
          have P6 := Lib.hid (P5.out.keep hB.out)
          have Q6 := Lib.hid (Q5.out.keep hB.out)
          have HU6 := Lib.hid (HU5.out.keep hB.out)
          rcases hZ.out with ⟨hno, rfl, rfl⟩ | ⟨j, hj, hju, rfl, rfl⟩
          · rw [hkE] at hno
            have HF8 : attrF E (x1, y1) = 8 := by unfold attrF; rw [if_pos HS.out, hno]; rfl
            have HWT := Lib.hid (show RecWant E (x1, y1) 8 [] from ⟨HF8.symm, fun _ => rfl, fun h => by rw [HF8] at h; cases h⟩)
            have HWN := Lib.hid (show Ns w6 none 0 0 [] from ⟨rfl, Nat.le_refl _, Nat.zero_le _, (fun k x hx => by simp at hx), (fun x hx => nomatch hx)⟩)
            clear hno hkE hZ HF8 hB P5 Q5 HU5 B5
            obtain ⟨p0, p1, -, -⟩ := P6.out
            obtain ⟨q0, q1, -, -⟩ := Q6.out
            have T1 := Lib.hid (ent_Above A n c E (x1, y1) w6 (HH.out.keep BW.out) U1.out)
            unfold udV at T1
            go_wp2_with fail
            refine T1.out.mono ?_
            rintro e wa ⟨Aa, na, ca, U, rfl, hus, h0, h1, ba⟩
            have HUa := Lib.hid hus
            have HEQ := Lib.hid (HSAME.out U h0 h1)
            have Pa := Lib.hid (P6.out.keep ba)
            have Qa := Lib.hid (Q6.out.keep ba)
            have HUb := Lib.hid (HU6.out.keep ba)
            have HNa := Lib.hid (HWN.out.keep ba)
            have Ba := bh BW ba
            clear T1 hus h0 h1 ba p0 p1 q0 q1
            rw [HEF.out]
            go_wp2_with fail
            refine (same_Error 0 0 wa (HG.out.keep Ba.out)).mono ?_
            rintro e wb ⟨rfl, bb⟩
            rw [show ((0 : Int) == 0) = true from beq_self_eq_true _]
            have Pb := Lib.hid (Pa.out.keep bb)
            have Qb := Lib.hid (Qa.out.keep bb)
            have HUc := Lib.hid (HUa.out.keep bb)
            have HUd := Lib.hid (HUb.out.keep bb)
            have HNb := Lib.hid (HNa.out.keep bb)
            have Bb := bh Ba bb
            clear Pa Qa HUa HUb HNa Ba bb
            go_wp2_with fail
            refine (same_Uids _ _ _ _ _ _ _ _ wb HUc.out HUd.out).mono ?_
            rintro e wc ⟨rfl, bc⟩
            rw [decide_eq_true HEQ.out]
            have Pc := Lib.hid (Pb.out.keep bc)
            have Qc := Lib.hid (Qb.out.keep bc)
            have HNc := Lib.hid (HNb.out.keep bc)
            have Bc := bh Bb bc
            clear Pb Qb HUc HUd HNb Bb bc HEQ
            obtain ⟨p0, p1, -, -⟩ := Pc.out
            obtain ⟨q0, q1, -, -⟩ := Qc.out
            have T2 := Lib.hid (ent_In A n c E (x1, y1) (x2, y2) wc (HH.out.keep Bc.out) U1.out U2.out)
            unfold udV at T2
            rw [HEF.out, HIN.out] at T2
            go_wp2_with fail
            refine T2.out.mono ?_
            rintro e wd ⟨rfl, bd⟩
            have Pd := Lib.hid (Pc.out.keep bd)
            have HNd := Lib.hid (HNc.out.keep bd)
            have Bd := bh Bc bd
            clear Pc Qc HNc Bc bd T2 p0 p1 q0 q1
            go_wp2_with fail
            refine (same_Error 0 0 wd (HG.out.keep Bd.out)).mono ?_
            rintro e we ⟨rfl, be⟩
            rw [show ((0 : Int) == 0) = true from beq_self_eq_true _]
            have Pe := Lib.hid (Pd.out.keep be)
            have HNe := Lib.hid (HNd.out.keep be)
            have Be := bh Bd be
            clear Pd HNd Bd be
            obtain ⟨p0, p1, -, -⟩ := Pe.out
            have T3 := Lib.hid (ent_Attrs A n c E (x1, y1) we (HH.out.keep Be.out) U1.out)
            unfold udV at T3
            go_wp2_with fail
            refine T3.out.mono ?_
            rintro e wf ⟨Ar, nr, cr, Pr, rfl, hns, h0, h1, bf⟩
            have HPE := Lib.hid (HWT.out.same h0 h1)
            have HNr := Lib.hid hns
            have HNf := Lib.hid (HNe.out.keep bf)
            have Bf := bh Be bf
            clear Pe HNe Be bf hns h0 h1 p0 p1 T3
            rw [← HWT.out.f_]
            go_wp2_with fail
            refine (same_Error 8 8 wf (HG.out.keep Bf.out)).mono ?_
            rintro e wg ⟨rfl, bg⟩
            rw [show ((8 : Int) == 8) = true from beq_self_eq_true _]
            have HNs := Lib.hid (HNr.out.keep bg)
            have HNg := Lib.hid (HNf.out.keep bg)
            have Bg := bh Bf bg
            clear HNr HNf Bf bg
            go_wp2_with fail
            refine ((HNs.out.same HNg.out)).mono ?_
            rintro e wh ⟨rfl, bh1⟩
            have Bh := bh Bg bh1
            rw [decide_eq_true (show cmpNds Pr _ = 0 by rw [HPE.out]; exact (cmpNds_cmp.zero _ _).2 rfl)]
            go_wp2_with fail
            go_ret
            exact ⟨rfl, Bh.out⟩
          · have HF0 : attrF E (x1, y1) = 0 := by unfold attrF; rw [if_pos HS.out, if_pos (hadE_iff.2 ⟨E[j], List.getElem_mem hj, hju⟩)]
            have HWT := Lib.hid (show RecWant E (x1, y1) 0 E[j].P from ⟨HF0.symm, fun h => absurd HF0 h, fun _ => ⟨E[j], List.getElem_mem hj, hju, rfl⟩⟩)
            have HWN := Lib.hid ((HH.out.keep BW.out).enok _ (List.getElem_mem hj)).ns
            generalize E[j] = x at *
            clear hkE hZ HF0 hB P5 Q5 HU5 B5 hju
            obtain ⟨p0, p1, -, -⟩ := P6.out
            obtain ⟨q0, q1, -, -⟩ := Q6.out
            have T1 := Lib.hid (ent_Above A n c E (x1, y1) w6 (HH.out.keep BW.out) U1.out)
            unfold udV at T1
            go_wp2_with fail
            refine T1.out.mono ?_
            rintro e wa ⟨Aa, na, ca, U, rfl, hus, h0, h1, ba⟩
            have HUa := Lib.hid hus
            have HEQ := Lib.hid (HSAME.out U h0 h1)
            have Pa := Lib.hid (P6.out.keep ba)
            have Qa := Lib.hid (Q6.out.keep ba)
            have HUb := Lib.hid (HU6.out.keep ba)
            have HNa := Lib.hid (HWN.out.keep ba)
            have Ba := bh BW ba
            clear T1 hus h0 h1 ba p0 p1 q0 q1
            rw [HEF.out]
            go_wp2_with fail
            refine (same_Error 0 0 wa (HG.out.keep Ba.out)).mono ?_
            rintro e wb ⟨rfl, bb⟩
            rw [show ((0 : Int) == 0) = true from beq_self_eq_true _]
            have Pb := Lib.hid (Pa.out.keep bb)
            have Qb := Lib.hid (Qa.out.keep bb)
            have HUc := Lib.hid (HUa.out.keep bb)
            have HUd := Lib.hid (HUb.out.keep bb)
            have HNb := Lib.hid (HNa.out.keep bb)
            have Bb := bh Ba bb
            clear Pa Qa HUa HUb HNa Ba bb
            go_wp2_with fail
            refine (same_Uids _ _ _ _ _ _ _ _ wb HUc.out HUd.out).mono ?_
            rintro e wc ⟨rfl, bc⟩
            rw [decide_eq_true HEQ.out]
            have Pc := Lib.hid (Pb.out.keep bc)
            have Qc := Lib.hid (Qb.out.keep bc)
            have HNc := Lib.hid (HNb.out.keep bc)
            have Bc := bh Bb bc
            clear Pb Qb HUc HUd HNb Bb bc HEQ
            obtain ⟨p0, p1, -, -⟩ := Pc.out
            obtain ⟨q0, q1, -, -⟩ := Qc.out
            have T2 := Lib.hid (ent_In A n c E (x1, y1) (x2, y2) wc (HH.out.keep Bc.out) U1.out U2.out)
            unfold udV at T2
            rw [HEF.out, HIN.out] at T2
            go_wp2_with fail
            refine T2.out.mono ?_
            rintro e wd ⟨rfl, bd⟩
            have Pd := Lib.hid (Pc.out.keep bd)
            have HNd := Lib.hid (HNc.out.keep bd)
            have Bd := bh Bc bd
            clear Pc Qc HNc Bc bd T2 p0 p1 q0 q1
            go_wp2_with fail
            refine (same_Error 0 0 wd (HG.out.keep Bd.out)).mono ?_
            rintro e we ⟨rfl, be⟩
            rw [show ((0 : Int) == 0) = true from beq_self_eq_true _]
            have Pe := Lib.hid (Pd.out.keep be)
            have HNe := Lib.hid (HNd.out.keep be)
            have Be := bh Bd be
            clear Pd HNd Bd be
            obtain ⟨p0, p1, -, -⟩ := Pe.out
            have T3 := Lib.hid (ent_Attrs A n c E (x1, y1) we (HH.out.keep Be.out) U1.out)
            unfold udV at T3
            go_wp2_with fail
            refine T3.out.mono ?_
            rintro e wf ⟨Ar, nr, cr, Pr, rfl, hns, h0, h1, bf⟩
            have HPE := Lib.hid (HWT.out.same h0 h1)
            have HNr := Lib.hid hns
            have HNf := Lib.hid (HNe.out.keep bf)
            have Bf := bh Be bf
            clear Pe HNe Be bf hns h0 h1 p0 p1 T3
            rw [← HWT.out.f_]
            go_wp2_with fail
            refine (same_Error 0 0 wf (HG.out.keep Bf.out)).mono ?_
            rintro e wg ⟨rfl, bg⟩
            rw [show ((0 : Int) == 0) = true from beq_self_eq_true _]
            have HNs := Lib.hid (HNr.out.keep bg)
            have HNg := Lib.hid (HNf.out.keep bg)
            have Bg := bh Bf bg
            clear HNr HNf Bf bg
            go_wp2_with fail
            refine ((HNs.out.same HNg.out)).mono ?_
            rintro e wh ⟨rfl, bh1⟩
            have Bh := bh Bg bh1
            rw [decide_eq_true (show cmpNds Pr _ = 0 by rw [HPE.out]; exact (cmpNds_cmp.zero _ _).2 rfl)]
            go_wp2_with fail
            go_ret
            exact ⟨rfl, Bh.out⟩
    · have hne := uid_ne he
      rw [decide_eq_false he, Bool.false_or] at HIN
      dsimp only at hne
      clear he
      generalize abvB E (x1, y1) (x2, y2) = ib at *
      rcases hne with h1 | ⟨h1, h2⟩
      · go_wp2_with fail
        refine KO.out.mono ?_
        rintro e w5 ⟨rfl, b5⟩
        have P5 := Lib.hid (P4.out.keep b5)
        have Q5 := Lib.hid (Q4.out.keep b5)
        have B5 := bh B4 b5
        have HU5 := Lib.hid (HU4.out.keep b5)
        clear P4 Q4 B4 HU4 b5 KO p0 p1 q0 q1 h1
        go_wp2_with fail
        go_loopw [10, 11, 12] (fun at1 wn i wr => ∃ k : Nat, k ≤ n ∧ i = .int .i64 k ∧ Hid ((hadE (E.take k) (x1, y1) = false ∧ at1 = .int .i64 8 ∧ wn = .slice none 0 0) ∨ (∃ j : Nat, ∃ h : j < E.length, E[j].u = (x1, y1) ∧ at1 = .int .i64 0 ∧ wn = .slice E[j].NA E[j].nn E[j].nc)) ∧ Hid (Below w5.heap.size w5 wr)) (fun _ _ i _ => n - (intOf i).toNat)
        case atStart => exact ⟨0, Nat.zero_le _, rfl, Lib.hid (.inl ⟨rfl, rfl, rfl⟩), Below.refl _ _⟩
        case round =>
          obtain ⟨k, hk, rfl, hZ, hB⟩ := hrel
          have BW := bh B5 hB.out
          by_cases hlt : k < n
          · have hlt' : k < E.length := by rw [← HL.out]; exact hlt
            have HT := Lib.hid (hadE_take hlt' (x1, y1))
            have HJ := Lib.hid (show ∀ at1 wn, (E[k].u = (x1, y1) → at1 = Value.int .i64 0 ∧ wn = Value.slice E[k].NA E[k].nn E[k].nc) → E[k].u = (x1, y1) → (∃ j : Nat, ∃ h : j < E.length, E[j].u = (x1, y1) ∧ at1 = .int .i64 0 ∧ wn = .slice E[j].NA E[j].nn E[j].nc) from fun _ _ h he => ⟨k, hlt', he, (h he).1, (h he).2⟩)
            obtain ⟨a, rfl, q0, q1, q2, q3, -⟩ := (HH.out.keep BW.out).at_ k _ (List.getElem?_eq_getElem hlt')
            obtain ⟨t0, t1, -, -⟩ := P5.out.keep hB.out
            have v0 := cell_regrown t0
            have v1 := cell_regrown t1
            obtain ⟨x, hx⟩ : ∃ x, x = E[k] := ⟨_, rfl⟩
            rw [← hx] at HT HJ q0 q1 q2 q3
            clear hx
            by_cases he : x.u = (x1, y1)
            · have e1 : x.u.1 = x1 := by rw [he]
              have e2 : x.u.2 = y1 := by rw [he]
              have HE := Lib.hid he
              rw [e1] at q0
              rw [e2] at q1
              have k0 := cell_regrown q0
              have k1 := cell_regrown q1
              clear q0 q1 t0 t1 he e1 e2 HT hZ
              go_wp2_with fail
              refine wp_region_quiet_below (by kernel_rfl) (by kernel_rfl) ?_
              repeat (first | go_big_quiet_step (fail) | quiet_step (fail))
              refine wpQuiet_nil ?_
              intro w6 hw'
              have b6 := Lib.hid (show Below wr.heap.size wr w6 by obtain ⟨⟨d, os⟩, rfl⟩ := hw'; exact below_regrown _ _ _)
              clear hw'
              have B6 := bhid hB b6 (Nat.le_refl _)
              have q3' := cell_keep b6.out q3
              clear k0 k1 v0 v1 q2 q3
              go_wp2_with fail
              go_roundw
              case rel => exact ⟨k + 1, by omega, by go_num, Lib.hid (.inr (HJ.out _ _ (fun _ => ⟨rfl, rfl⟩) HE.out)), B6⟩
              case measure => simp [intOf]; omega
            · rw [decide_eq_false he, Bool.or_false] at HT
              have HZ2 := Lib.hid (hZ.out.imp (fun ⟨h1, h2⟩ => And.intro (HT.out.trans h1) h2) id)
              have hne := uid_ne he
              dsimp only at hne
              have k0 := cell_regrown q0
              have k1 := cell_regrown q1
              clear q0 q1 t0 t1 he HT hZ HJ
              rcases hne with h1 | ⟨h1, h2⟩
              · go_wp2_with fail
                refine wp_region_quiet_below (by kernel_rfl) (by kernel_rfl) ?_
                repeat (first | go_big_quiet_step (fail) | quiet_step (fail))
                refine wpQuiet_nil ?_
                intro w6 hw'
                have b6 := Lib.hid (show Below wr.heap.size wr w6 by obtain ⟨⟨d, os⟩, rfl⟩ := hw'; exact below_regrown _ _ _)
                clear hw'
                have B6 := bhid hB b6 (Nat.le_refl _)
                clear k0 k1 v0 v1 q2 q3
                go_wp2_with fail
                go_roundw
                case rel => exact ⟨k + 1, by omega, by go_num, HZ2, B6⟩
                case measure => simp [intOf]; omega
              · go_wp2_with fail
                refine wp_region_quiet_below (by kernel_rfl) (by kernel_rfl) ?_
                repeat (first | go_big_quiet_step (fail) | quiet_step (fail))
                refine wpQuiet_nil ?_
                intro w6 hw'
                have b6 := Lib.hid (show Below wr.heap.size wr w6 by obtain ⟨⟨d, os⟩, rfl⟩ := hw'; exact below_regrown _ _ _)
                clear hw'
                have B6 := bhid hB b6 (Nat.le_refl _)
                clear k0 k1 v0 v1 q2 q3
                go_wp2_with fail
                go_roundw
                case rel => exact ⟨k + 1, by omega, by go_num, HZ2, B6⟩
                case measure => simp [intOf]; omega
          · have hkE : E.take k = E := List.take_of_length_le (by rw [← HL.out]; omega)
            obtain ⟨w6, rfl⟩ : ∃ w6 : World, w6 = wr := ⟨_, rfl⟩
            have P6 := Lib.hid (P5.out.keep hB.out)
            have Q6 := Lib.hid (Q5.out.keep hB.out)
            have HU6 := Lib.hid (HU5.out.keep hB.out)
            rcases hZ.out with ⟨hno, rfl, rfl⟩ | ⟨j, hj, hju, rfl, rfl⟩
            · rw [hkE] at hno
              have HF8 : attrF E (x1, y1) = 8 := by unfold attrF; rw [if_pos HS.out, hno]; rfl
              have HWT := Lib.hid (show RecWant E (x1, y1) 8 [] from ⟨HF8.symm, fun _ => rfl, fun h => by rw [HF8] at h; cases h⟩)
              have HWN := Lib.hid (show Ns w6 none 0 0 [] from ⟨rfl, Nat.le_refl _, Nat.zero_le _, (fun k x hx => by simp at hx), (fun x hx => nomatch hx)⟩)
              clear hno hkE hZ HF8 hB P5 Q5 HU5 B5
              obtain ⟨p0, p1, -, -⟩ := P6.out
              obtain ⟨q0, q1, -, -⟩ := Q6.out
              have T1 := Lib.hid (ent_Above A n c E (x1, y1) w6 (HH.out.keep BW.out) U1.out)
              unfold udV at T1
              go_wp2_with fail
              refine T1.out.mono ?_
              rintro e wa ⟨Aa, na, ca, U, rfl, hus, h0, h1, ba⟩
              have HUa := Lib.hid hus
              have HEQ := Lib.hid (HSAME.out U h0 h1)
              have Pa := Lib.hid (P6.out.keep ba)
              have Qa := Lib.hid (Q6.out.keep ba)
              have HUb := Lib.hid (HU6.out.keep ba)
              have HNa := Lib.hid (HWN.out.keep ba)
              have Ba := bh BW ba
              clear T1 hus h0 h1 ba p0 p1 q0 q1
              rw [HEF.out]
              go_wp2_with fail
              refine (same_Error 0 0 wa (HG.out.keep Ba.out)).mono ?_
              rintro e wb ⟨rfl, bb⟩
              rw [show ((0 : Int) == 0) = true from beq_self_eq_true _]
              have Pb := Lib.hid (Pa.out.keep bb)
              have Qb := Lib.hid (Qa.out.keep bb)
              have HUc := Lib.hid (HUa.out.keep bb)
              have HUd := Lib.hid (HUb.out.keep bb)
              have HNb := Lib.hid (HNa.out.keep bb)
              have Bb := bh Ba bb
              clear Pa Qa HUa HUb HNa Ba bb
              go_wp2_with fail
              refine (same_Uids _ _ _ _ _ _ _ _ wb HUc.out HUd.out).mono ?_
              rintro e wc ⟨rfl, bc⟩
              rw [decide_eq_true HEQ.out]
              have Pc := Lib.hid (Pb.out.keep bc)
              have Qc := Lib.hid (Qb.out.keep bc)
              have HNc := Lib.hid (HNb.out.keep bc)
              have Bc := bh Bb bc
              clear Pb Qb HUc HUd HNb Bb bc HEQ
              obtain ⟨p0, p1, -, -⟩ := Pc.out
              obtain ⟨q0, q1, -, -⟩ := Qc.out
              have T2 := Lib.hid (ent_In A n c E (x1, y1) (x2, y2) wc (HH.out.keep Bc.out) U1.out U2.out)
              unfold udV at T2
              rw [HEF.out, HIN.out] at T2
              go_wp2_with fail
              refine T2.out.mono ?_
              rintro e wd ⟨rfl, bd⟩
              have Pd := Lib.hid (Pc.out.keep bd)
              have HNd := Lib.hid (HNc.out.keep bd)
              have Bd := bh Bc bd
              clear Pc Qc HNc Bc bd T2 p0 p1 q0 q1
              go_wp2_with fail
              refine (same_Error 0 0 wd (HG.out.keep Bd.out)).mono ?_
              rintro e we ⟨rfl, be⟩
              rw [show ((0 : Int) == 0) = true from beq_self_eq_true _]
              have Pe := Lib.hid (Pd.out.keep be)
              have HNe := Lib.hid (HNd.out.keep be)
              have Be := bh Bd be
              clear Pd HNd Bd be
              obtain ⟨p0, p1, -, -⟩ := Pe.out
              have T3 := Lib.hid (ent_Attrs A n c E (x1, y1) we (HH.out.keep Be.out) U1.out)
              unfold udV at T3
              go_wp2_with fail
              refine T3.out.mono ?_
              rintro e wf ⟨Ar, nr, cr, Pr, rfl, hns, h0, h1, bf⟩
              have HPE := Lib.hid (HWT.out.same h0 h1)
              have HNr := Lib.hid hns
              have HNf := Lib.hid (HNe.out.keep bf)
              have Bf := bh Be bf
              clear Pe HNe Be bf hns h0 h1 p0 p1 T3
              rw [← HWT.out.f_]
              go_wp2_with fail
              refine (same_Error 8 8 wf (HG.out.keep Bf.out)).mono ?_
              rintro e wg ⟨rfl, bg⟩
              rw [show ((8 : Int) == 8) = true from beq_self_eq_true _]
              have HNs := Lib.hid (HNr.out.keep bg)
              have HNg := Lib.hid (HNf.out.keep bg)
              have Bg := bh Bf bg
              clear HNr HNf Bf bg
              go_wp2_with fail
              refine ((HNs.out.same HNg.out)).mono ?_
              rintro e wh ⟨rfl, bh1⟩
              have Bh := bh Bg bh1
              rw [decide_eq_true (show cmpNds Pr _ = 0 by rw [HPE.out]; exact (cmpNds_cmp.zero _ _).2 rfl)]
              go_wp2_with fail
              go_ret
              exact ⟨rfl, Bh.out⟩
            · have HF0 : attrF E (x1, y1) = 0 := by unfold attrF; rw [if_pos HS.out, if_pos (hadE_iff.2 ⟨E[j], List.getElem_mem hj, hju⟩)]
              have HWT := Lib.hid (show RecWant E (x1, y1) 0 E[j].P from ⟨HF0.symm, fun h => absurd HF0 h, fun _ => ⟨E[j], List.getElem_mem hj, hju, rfl⟩⟩)
              have HWN := Lib.hid ((HH.out.keep BW.out).enok _ (List.getElem_mem hj)).ns
              generalize E[j] = x at *
              clear hkE hZ HF0 hB P5 Q5 HU5 B5 hju
              obtain ⟨p0, p1, -, -⟩ := P6.out
              obtain ⟨q0, q1, -, -⟩ := Q6.out
              have T1 := Lib.hid (ent_Above A n c E (x1, y1) w6 (HH.out.keep BW.out) U1.out)
              unfold udV at T1
              go_wp2_with fail
              refine T1.out.mono ?_
              rintro e wa ⟨Aa, na, ca, U, rfl, hus, h0, h1, ba⟩
              have HUa := Lib.hid hus
              have HEQ := Lib.hid (HSAME.out U h0 h1)
              have Pa := Lib.hid (P6.out.keep ba)
              have Qa := Lib.hid (Q6.out.keep ba)
              have HUb := Lib.hid (HU6.out.keep ba)
              have HNa := Lib.hid (HWN.out.keep ba)
              have Ba := bh BW ba
              clear T1 hus h0 h1 ba p0 p1 q0 q1
              rw [HEF.out]
              go_wp2_with fail
              refine (same_Error 0 0 wa (HG.out.keep Ba.out)).mono ?_
              rintro e wb ⟨rfl, bb⟩
              rw [show ((0 : Int) == 0) = true from beq_self_eq_true _]
              have Pb := Lib.hid (Pa.out.keep bb)
              have Qb := Lib.hid (Qa.out.keep bb)
              have HUc := Lib.hid (HUa.out.keep bb)
              have HUd := Lib.hid (HUb.out.keep bb)
              have HNb := Lib.hid (HNa.out.keep bb)
              have Bb := bh Ba bb
              clear Pa Qa HUa HUb HNa Ba bb
              go_wp2_with fail
              refine (same_Uids _ _ _ _ _ _ _ _ wb HUc.out HUd.out).mono ?_
              rintro e wc ⟨rfl, bc⟩
              rw [decide_eq_true HEQ.out]
              have Pc := Lib.hid (Pb.out.keep bc)
              have Qc := Lib.hid (Qb.out.keep bc)
              have HNc := Lib.hid (HNb.out.keep bc)
              have Bc := bh Bb bc
              clear Pb Qb HUc HUd HNb Bb bc HEQ
              obtain ⟨p0, p1, -, -⟩ := Pc.out
              obtain ⟨q0, q1, -, -⟩ := Qc.out
              have T2 := Lib.hid (ent_In A n c E (x1, y1) (x2, y2) wc (HH.out.keep Bc.out) U1.out U2.out)
              unfold udV at T2
              rw [HEF.out, HIN.out] at T2
              go_wp2_with fail
              refine T2.out.mono ?_
              rintro e wd ⟨rfl, bd⟩
              have Pd := Lib.hid (Pc.out.keep bd)
              have HNd := Lib.hid (HNc.out.keep bd)
              have Bd := bh Bc bd
              clear Pc Qc HNc Bc bd T2 p0 p1 q0 q1
              go_wp2_with fail
              refine (same_Error 0 0 wd (HG.out.keep Bd.out)).mono ?_
              rintro e we ⟨rfl, be⟩
              rw [show ((0 : Int) == 0) = true from beq_self_eq_true _]
              have Pe := Lib.hid (Pd.out.keep be)
              have HNe := Lib.hid (HNd.out.keep be)
              have Be := bh Bd be
              clear Pd HNd Bd be
              obtain ⟨p0, p1, -, -⟩ := Pe.out
              have T3 := Lib.hid (ent_Attrs A n c E (x1, y1) we (HH.out.keep Be.out) U1.out)
              unfold udV at T3
              go_wp2_with fail
              refine T3.out.mono ?_
              rintro e wf ⟨Ar, nr, cr, Pr, rfl, hns, h0, h1, bf⟩
              have HPE := Lib.hid (HWT.out.same h0 h1)
              have HNr := Lib.hid hns
              have HNf := Lib.hid (HNe.out.keep bf)
              have Bf := bh Be bf
              clear Pe HNe Be bf hns h0 h1 p0 p1 T3
              rw [← HWT.out.f_]
              go_wp2_with fail
              refine (same_Error 0 0 wf (HG.out.keep Bf.out)).mono ?_
              rintro e wg ⟨rfl, bg⟩
              rw [show ((0 : Int) == 0) = true from beq_self_eq_true _]
              have HNs := Lib.hid (HNr.out.keep bg)
              have HNg := Lib.hid (HNf.out.keep bg)
              have Bg := bh Bf bg
              clear HNr HNf Bf bg
              go_wp2_with fail
              refine ((HNs.out.same HNg.out)).mono ?_
              rintro e wh ⟨rfl, bh1⟩
              have Bh := bh Bg bh1
              rw [decide_eq_true (show cmpNds Pr _ = 0 by rw [HPE.out]; exact (cmpNds_cmp.zero _ _).2 rfl)]
              go_wp2_with fail
              go_ret
              exact ⟨rfl, Bh.out⟩
      · go_wp2_with fail
        refine KO.out.mono ?_
        rintro e w5 ⟨rfl, b5⟩
        have P5 := Lib.hid (P4.out.keep b5)
        have Q5 := Lib.hid (Q4.out.keep b5)
        have B5 := bh B4 b5
        have HU5 := Lib.hid (HU4.out.keep b5)
        clear P4 Q4 B4 HU4 b5 KO p0 p1 q0 q1 h1 h2
        go_wp2_with fail
        go_loopw [10, 11, 12] (fun at1 wn i wr => ∃ k : Nat, k ≤ n ∧ i = .int .i64 k ∧ Hid ((hadE (E.take k) (x1, y1) = false ∧ at1 = .int .i64 8 ∧ wn = .slice none 0 0) ∨ (∃ j : Nat, ∃ h : j < E.length, E[j].u = (x1, y1) ∧ at1 = .int .i64 0 ∧ wn = .slice E[j].NA E[j].nn E[j].nc)) ∧ Hid (Below w5.heap.size w5 wr)) (fun _ _ i _ => n - (intOf i).toNat)
        case atStart => exact ⟨0, Nat.zero_le _, rfl, Lib.hid (.inl ⟨rfl, rfl, rfl⟩), Below.refl _ _⟩
        case round =>
          obtain ⟨k, hk, rfl, hZ, hB⟩ := hrel
          have BW := bh B5 hB.out
          by_cases hlt : k < n
          · have hlt' : k < E.length := by rw [← HL.out]; exact hlt
            have HT := Lib.hid (hadE_take hlt' (x1, y1))
            have HJ := Lib.hid (show ∀ at1 wn, (E[k].u = (x1, y1) → at1 = Value.int .i64 0 ∧ wn = Value.slice E[k].NA E[k].nn E[k].nc) → E[k].u = (x1, y1) → (∃ j : Nat, ∃ h : j < E.length, E[j].u = (x1, y1) ∧ at1 = .int .i64 0 ∧ wn = .slice E[j].NA E[j].nn E[j].nc) from fun _ _ h he => ⟨k, hlt', he, (h he).1, (h he).2⟩)
            obtain ⟨a, rfl, q0, q1, q2, q3, -⟩ := (HH.out.keep BW.out).at_ k _ (List.getElem?_eq_getElem hlt')
            obtain ⟨t0, t1, -, -⟩ := P5.out.keep hB.out
            have v0 := cell_regrown t0
            have v1 := cell_regrown t1
            obtain ⟨x, hx⟩ : ∃ x, x = E[k] := ⟨_, rfl⟩
            rw [← hx] at HT HJ q0 q1 q2 q3
            clear hx
            by_cases he : x.u = (x1, y1)
            · have e1 : x.u.1 = x1 := by rw [he]
              have e2 : x.u.2 = y1 := by rw [he]
              have HE := Lib.hid he
              rw [e1] at q0
              rw [e2] at q1
              have k0 := cell_regrown q0
              have k1 := cell_regrown q1
              clear q0 q1 t0 t1 he e1 e2 HT hZ
              go_wp2_with fail
              refine wp_region_quiet_below (by kernel_rfl) (by kernel_rfl) ?_
              repeat (first | go_big_quiet_step (fail) | quiet_step (fail))
              refine wpQuiet_nil ?_
              intro w6 hw'
              have b6 := Lib.hid (show Below wr.heap.size wr w6 by obtain ⟨⟨d, os⟩, rfl⟩ := hw'; exact below_regrown _ _ _)
              clear hw'
              have B6 := bhid hB b6 (Nat.le_refl _)
              have q3' := cell_keep b6.out q3
              clear k0 k1 v0 v1 q2 q3
              go_wp2_with fail
              go_roundw
              case rel => exact ⟨k + 1, by omega, by go_num, Lib.hid (.inr (HJ.out _ _ (fun _ => ⟨rfl, rfl⟩) HE.out)), B6⟩
              case measure => simp [intOf]; omega
            · rw [decide_eq_false he, Bool.or_false] at HT
              have HZ2 := Lib.hid (hZ.out.imp (fun ⟨h1, h2⟩ => And.intro (HT.out.trans h1) h2) id)
              have hne := uid_ne he
              dsimp only at hne
              have k0 := cell_regrown q0
              have k1 := cell_regrown q1
              clear q0 q1 t0 t1 he HT hZ HJ
              rcases hne with h1 | ⟨h1, h2⟩
              · go_wp2_with fail
                refine wp_region_quiet_below (by kernel_rfl) (by kernel_rfl) ?_
                repeat (first | go_big_quiet_step (fail) | quiet_step (fail))
                refine wpQuiet_nil ?_
                intro w6 hw'
                have b6 := Lib.hid (show Below wr.heap.size wr w6 by obtain ⟨⟨d, os⟩, rfl⟩ := hw'; exact below_regrown _ _ _)
                clear hw'
                have B6 := bhid hB b6 (Nat.le_refl _)
                clear k0 k1 v0 v1 q2 q3
                go_wp2_with fail
                go_roundw
                case rel => exact ⟨k + 1, by omega, by go_num, HZ2, B6⟩
                case measure => simp [intOf]; omega
              · go_wp2_with fail
                refine wp_region_quiet_below (by kernel_rfl) (by kernel_rfl) ?_
                repeat (first | go_big_quiet_step (fail) | quiet_step (fail))
                refine wpQuiet_nil ?_
                intro w6 hw'
                have b6 := Lib.hid (show Below wr.heap.size wr w6 by obtain ⟨⟨d, os⟩, rfl⟩ := hw'; exact below_regrown _ _ _)
                clear hw'
                have B6 := bhid hB b6 (Nat.le_refl _)
                clear k0 k1 v0 v1 q2 q3
                go_wp2_with fail
                go_roundw
                case rel => exact ⟨k + 1, by omega, by go_num, HZ2, B6⟩
                case measure => simp [intOf]; omega
          · have hkE : E.take k = E := List.take_of_length_le (by rw [← HL.out]; omega)
            obtain ⟨w6, rfl⟩ : ∃ w6 : World, w6 = wr := ⟨_, rfl⟩
            have P6 := Lib.hid (P5.out.keep hB.out)
            have Q6 := Lib.hid (Q5.out.keep hB.out)
            have HU6 := Lib.hid (HU5.out.keep hB.out)
            rcases hZ.out with ⟨hno, rfl, rfl⟩ | ⟨j, hj, hju, rfl, rfl⟩
            · rw [hkE] at hno
              have HF8 : attrF E (x1, y1) = 8 := by unfold attrF; rw [if_pos HS.out, hno]; rfl
              have HWT := Lib.hid (show RecWant E (x1, y1) 8 [] from ⟨HF8.symm, fun _ => rfl, fun h => by rw [HF8] at h; cases h⟩)
              have HWN := Lib.hid (show Ns w6 none 0 0 [] from ⟨rfl, Nat.le_refl _, Nat.zero_le _, (fun k x hx => by simp at hx), (fun x hx => nomatch hx)⟩)
              clear hno hkE hZ HF8 hB P5 Q5 HU5 B5
              obtain ⟨p0, p1, -, -⟩ := P6.out
              obtain ⟨q0, q1, -, -⟩ := Q6.out
              have T1 := Lib.hid (ent_Above A n c E (x1, y1) w6 (HH.out.keep BW.out) U1.out)
              unfold udV at T1
              go_wp2_with fail
              refine T1.out.mono ?_
              rintro e wa ⟨Aa, na, ca, U, rfl, hus, h0, h1, ba⟩
              have HUa := Lib.hid hus
              have HEQ := Lib.hid (HSAME.out U h0 h1)
              have Pa := Lib.hid (P6.out.keep ba)
              have Qa := Lib.hid (Q6.out.keep ba)
              have HUb := Lib.hid (HU6.out.keep ba)
              have HNa := Lib.hid (HWN.out.keep ba)
              have Ba := bh BW ba
              clear T1 hus h0 h1 ba p0 p1 q0 q1
              rw [HEF.out]
              go_wp2_with fail
              refine (same_Error 0 0 wa (HG.out.keep Ba.out)).mono ?_
              rintro e wb ⟨rfl, bb⟩
              rw [show ((0 : Int) == 0) = true from beq_self_eq_true _]
              have Pb := Lib.hid (Pa.out.keep bb)
              have Qb := Lib.hid (Qa.out.keep bb)
              have HUc := Lib.hid (HUa.out.keep bb)
              have HUd := Lib.hid (HUb.out.keep bb)
              have HNb := Lib.hid (HNa.out.keep bb)
              have Bb := bh Ba bb
              clear Pa Qa HUa HUb HNa Ba bb
              go_wp2_with fail
              refine (same_Uids _ _ _ _ _ _ _ _ wb HUc.out HUd.out).mono ?_
              rintro e wc ⟨rfl, bc⟩
              rw [decide_eq_true HEQ.out]
              have Pc := Lib.hid (Pb.out.keep bc)
              have Qc := Lib.hid (Qb.out.keep bc)
              have HNc := Lib.hid (HNb.out.keep bc)
              have Bc := bh Bb bc
              clear Pb Qb HUc HUd HNb Bb bc HEQ
              obtain ⟨p0, p1, -, -⟩ := Pc.out
              obtain ⟨q0, q1, -, -⟩ := Qc.out
              have T2 := Lib.hid (ent_In A n c E (x1, y1) (x2, y2) wc (HH.out.keep Bc.out) U1.out U2.out)
              unfold udV at T2
              rw [HEF.out, HIN.out] at T2
              go_wp2_with fail
              refine T2.out.mono ?_
              rintro e wd ⟨rfl, bd⟩
              have Pd := Lib.hid (Pc.out.keep bd)
              have HNd := Lib.hid (HNc.out.keep bd)
              have Bd := bh Bc bd
              clear Pc Qc HNc Bc bd T2 p0 p1 q0 q1
              go_wp2_with fail
              refine (same_Error 0 0 wd (HG.out.keep Bd.out)).mono ?_
              rintro e we ⟨rfl, be⟩
              rw [show ((0 : Int) == 0) = true from beq_self_eq_true _]
              have Pe := Lib.hid (Pd.out.keep be)
              have HNe := Lib.hid (HNd.out.keep be)
              have Be := bh Bd be
              clear Pd HNd Bd be
              obtain ⟨p0, p1, -, -⟩ := Pe.out
              have T3 := Lib.hid (ent_Attrs A n c E (x1, y1) we (HH.out.keep Be.out) U1.out)
              unfold udV at T3
              go_wp2_with fail
              refine T3.out.mono ?_
              rintro e wf ⟨Ar, nr, cr, Pr, rfl, hns, h0, h1, bf⟩
              have HPE := Lib.hid (HWT.out.same h0 h1)
              have HNr := Lib.hid hns
              have HNf := Lib.hid (HNe.out.keep bf)
              have Bf := bh Be bf
              clear Pe HNe Be bf hns h0 h1 p0 p1 T3
              rw [← HWT.out.f_]
              go_wp2_with fail
              refine (same_Error 8 8 wf (HG.out.keep Bf.out)).mono ?_
              rintro e wg ⟨rfl, bg⟩
              rw [show ((8 : Int) == 8) = true from beq_self_eq_true _]
              have HNs := Lib.hid (HNr.out.keep bg)
              have HNg := Lib.hid (HNf.out.keep bg)
              have Bg := bh Bf bg
              clear HNr HNf Bf bg
              go_wp2_with fail
              refine ((HNs.out.same HNg.out)).mono ?_
              rintro e wh ⟨rfl, bh1⟩
              have Bh := bh Bg bh1
              rw [decide_eq_true (show cmpNds Pr _ = 0 by rw [HPE.out]; exact (cmpNds_cmp.zero _ _).2 rfl)]
              go_wp2_with fail
              go_ret
              exact ⟨rfl, Bh.out⟩
            · have HF0 : attrF E (x1, y1) = 0 := by unfold attrF; rw [if_pos HS.out, if_pos (hadE_iff.2 ⟨E[j], List.getElem_mem hj, hju⟩)]
              have HWT := Lib.hid (show RecWant E (x1, y1) 0 E[j].P from ⟨HF0.symm, fun h => absurd HF0 h, fun _ => ⟨E[j], List.getElem_mem hj, hju, rfl⟩⟩)
              have HWN := Lib.hid ((HH.out.keep BW.out).enok _ (List.getElem_mem hj)).ns
              generalize E[j] = x at *
              clear hkE hZ HF0 hB P5 Q5 HU5 B5 hju
              obtain ⟨p0, p1, -, -⟩ := P6.out
              obtain ⟨q0, q1, -, -⟩ := Q6.out
              have T1 := Lib.hid (ent_Above A n c E (x1, y1) w6 (HH.out.keep BW.out) U1.out)
              unfold udV at T1
              go_wp2_with fail
              refine T1.out.mono ?_
              rintro e wa ⟨Aa, na, ca, U, rfl, hus, h0, h1, ba⟩
              have HUa := Lib.hid hus
              have HEQ := Lib.hid (HSAME.out U h0 h1)
              have Pa := Lib.hid (P6.out.keep ba)
              have Qa := Lib.hid (Q6.out.keep ba)
              have HUb := Lib.hid (HU6.out.keep ba)
              have HNa := Lib.hid (HWN.out.keep ba)
              have Ba := bh BW ba
              clear T1 hus h0 h1 ba p0 p1 q0 q1
              rw [HEF.out]
              go_wp2_with fail
              refine (same_Error 0 0 wa (HG.out.keep Ba.out)).mono ?_
              rintro e wb ⟨rfl, bb⟩
              rw [show ((0 : Int) == 0) = true from beq_self_eq_true _]
              have Pb := Lib.hid (Pa.out.keep bb)
              have Qb := Lib.hid (Qa.out.keep bb)
              have HUc := Lib.hid (HUa.out.keep bb)
              have HUd := Lib.hid (HUb.out.keep bb)
              have HNb := Lib.hid (HNa.out.keep bb)
              have Bb := bh Ba bb
              clear Pa Qa HUa HUb HNa Ba bb
              go_wp2_with fail
              refine (same_Uids _ _ _ _ _ _ _ _ wb HUc.out HUd.out).mono ?_
              rintro e wc ⟨rfl, bc⟩
              rw [decide_eq_true HEQ.out]
              have Pc := Lib.hid (Pb.out.keep bc)
              have Qc := Lib.hid (Qb.out.keep bc)
              have HNc := Lib.hid (HNb.out.keep bc)
              have Bc := bh Bb bc
              clear Pb Qb HUc HUd HNb Bb bc HEQ
              obtain ⟨p0, p1, -, -⟩ := Pc.out
              obtain ⟨q0, q1, -, -⟩ := Qc.out
              have T2 := Lib.hid (ent_In A n c E (x1, y1) (x2, y2) wc (HH.out.keep Bc.out) U1.out U2.out)
              unfold udV at T2
              rw [HEF.out, HIN.out] at T2
              go_wp2_with fail
              refine T2.out.mono ?_
              rintro e wd ⟨rfl, bd⟩
              have Pd := Lib.hid (Pc.out.keep bd)
              have HNd := Lib.hid (HNc.out.keep bd)
              have Bd := bh Bc bd
              clear Pc Qc HNc Bc bd T2 p0 p1 q0 q1
              go_wp2_with fail
              refine (same_Error 0 0 wd (HG.out.keep Bd.out)).mono ?_
              rintro e we ⟨rfl, be⟩
              rw [show ((0 : Int) == 0) = true from beq_self_eq_true _]
              have Pe := Lib.hid (Pd.out.keep be)
              have HNe := Lib.hid (HNd.out.keep be)
              have Be := bh Bd be
              clear Pd HNd Bd be
              obtain ⟨p0, p1, -, -⟩ := Pe.out
              have T3 := Lib.hid (ent_Attrs A n c E (x1, y1) we (HH.out.keep Be.out) U1.out)
              unfold udV at T3
              go_wp2_with fail
              refine T3.out.mono ?_
              rintro e wf ⟨Ar, nr, cr, Pr, rfl, hns, h0, h1, bf⟩
              have HPE := Lib.hid (HWT.out.same h0 h1)
              have HNr := Lib.hid hns
              have HNf := Lib.hid (HNe.out.keep bf)
              have Bf := bh Be bf
              clear Pe HNe Be bf hns h0 h1 p0 p1 T3
              rw [← HWT.out.f_]
              go_wp2_with fail
              refine (same_Error 0 0 wf (HG.out.keep Bf.out)).mono ?_
              rintro e wg ⟨rfl, bg⟩
              rw [show ((0 : Int) == 0) = true from beq_self_eq_true _]
              have HNs := Lib.hid (HNr.out.keep bg)
              have HNg := Lib.hid (HNf.out.keep bg)
              have Bg := bh Bf bg
              clear HNr HNf Bf bg
              go_wp2_with fail
              refine ((HNs.out.same HNg.out)).mono ?_
              rintro e wh ⟨rfl, bh1⟩
              have Bh := bh Bg bh1
              rw [decide_eq_true (show cmpNds Pr _ = 0 by rw [HPE.out]; exact (cmpNds_cmp.zero _ _).2 rfl)]
              go_wp2_with fail
              go_ret
              exact ⟨rfl, Bh.out⟩
  · have HF := Lib.hid (show attrF E (x1, y1) = storeF E by unfold attrF; rw [if_neg hs])
    have HIN := Lib.hid (inB_bad hs (a := (x1, y1)) (b := (x2, y2)))
    have HSAME := Lib.hid (show ∀ U, (storeF E ≠ 0 → U = []) → (storeF E = 0 → UpOf E (x1, y1) U) → U = [] from fun U h0 _ => h0 hs)
    have HWT0 := Lib.hid (show RecWant E (x1, y1) (storeF E) [] from ⟨HF.out.symm, fun _ => rfl, fun h => absurd (HF.out.symm.trans h) hs⟩)
    have hf0 : (storeF E == 0) = false := by simpa using hs
    obtain ⟨f, hf⟩ : ∃ f, f = storeF E := ⟨_, rfl⟩
    have HEF := Lib.hid hf.symm
    rw [← hf] at hf0 HWT0 ⊢
    have HWT := HWT0
    have HU := Lib.hid (show Us w2 none 0 0 [] from ⟨rfl, Nat.le_refl _, Nat.zero_le _, (fun k x hx => by simp at hx), (fun x hx => nomatch hx)⟩)
    have HWN := Lib.hid (show Ns w2 none 0 0 [] from ⟨rfl, Nat.le_refl _, Nat.zero_le _, (fun k x hx => by simp at hx), (fun x hx => nomatch hx)⟩)
    clear hf hs HWT0
    obtain ⟨p0, p1, -, -⟩ := P2.out
    obtain ⟨q0, q1, -, -⟩ := Q2.out
    have T1 := Lib.hid (ent_Above A n c E (x1, y1) w2 (HH.out.keep B2.out) U1.out)
    unfold udV at T1
    go_wp2_with fail
    refine T1.out.mono ?_
    rintro e wa ⟨Aa, na, ca, U, rfl, hus, h0, h1, ba⟩
    have HUa := Lib.hid hus
    have HEQ := Lib.hid (HSAME.out U h0 h1)
    have Pa := Lib.hid (P2.out.keep ba)
    have Qa := Lib.hid (Q2.out.keep ba)
    have HUb := Lib.hid (HU.out.keep ba)
    have HNa := Lib.hid (HWN.out.keep ba)
    have Ba := bh B2 ba
    clear T1 hus h0 h1 ba p0 p1 q0 q1
    rw [HEF.out]
    go_wp2_with fail
    refine (same_Error f f wa (HG.out.keep Ba.out)).mono ?_
    rintro e wb ⟨rfl, bb⟩
    rw [show ((f : Int) == f) = true from beq_self_eq_true _]
    have Pb := Lib.hid (Pa.out.keep bb)
    have Qb := Lib.hid (Qa.out.keep bb)
    have HUc := Lib.hid (HUa.out.keep bb)
    have HUd := Lib.hid (HUb.out.keep bb)
    have HNb := Lib.hid (HNa.out.keep bb)
    have Bb := bh Ba bb
    clear Pa Qa HUa HUb HNa Ba bb
    go_wp2_with fail
    refine (same_Uids _ _ _ _ _ _ _ _ wb HUc.out HUd.out).mono ?_
    rintro e wc ⟨rfl, bc⟩
    rw [decide_eq_true HEQ.out]
    have Pc := Lib.hid (Pb.out.keep bc)
    have Qc := Lib.hid (Qb.out.keep bc)
    have HNc := Lib.hid (HNb.out.keep bc)
    have Bc := bh Bb bc
    clear Pb Qb HUc HUd HNb Bb bc HEQ
    obtain ⟨p0, p1, -, -⟩ := Pc.out
    obtain ⟨q0, q1, -, -⟩ := Qc.out
    have T2 := Lib.hid (ent_In A n c E (x1, y1) (x2, y2) wc (HH.out.keep Bc.out) U1.out U2.out)
    unfold udV at T2
    rw [HEF.out, HIN.out] at T2
    go_wp2_with fail
    refine T2.out.mono ?_
    rintro e wd ⟨rfl, bd⟩
    have Pd := Lib.hid (Pc.out.keep bd)
    have HNd := Lib.hid (HNc.out.keep bd)
    have Bd := bh Bc bd
    clear Pc Qc HNc Bc bd T2 p0 p1 q0 q1
    go_wp2_with fail
    refine (same_Error f f wd (HG.out.keep Bd.out)).mono ?_
    rintro e we ⟨rfl, be⟩
    rw [show ((f : Int) == f) = true from beq_self_eq_true _]
    have Pe := Lib.hid (Pd.out.keep be)
    have HNe := Lib.hid (HNd.out.keep be)
    have Be := bh Bd be
    clear Pd HNd Bd be
    obtain ⟨p0, p1, -, -⟩ := Pe.out
    have T3 := Lib.hid (ent_Attrs A n c E (x1, y1) we (HH.out.keep Be.out) U1.out)
    unfold udV at T3
    go_wp2_with fail
    refine T3.out.mono ?_
    rintro e wf ⟨Ar, nr, cr, Pr, rfl, hns, h0, h1, bf⟩
    have HPE := Lib.hid (HWT.out.same h0 h1)
    have HNr := Lib.hid hns
    have HNf := Lib.hid (HNe.out.keep bf)
    have Bf := bh Be bf
    clear Pe HNe Be bf hns h0 h1 p0 p1 T3
    rw [← HWT.out.f_]
    go_wp2_with fail
    refine (same_Error f f wf (HG.out.keep Bf.out)).mono ?_
    rintro e wg ⟨rfl, bg⟩
    rw [show ((f : Int) == f) = true from beq_self_eq_true _]
    have HNs := Lib.hid (HNr.out.keep bg)
    have HNg := Lib.hid (HNf.out.keep bg)
    have Bg := bh Bf bg
    clear HNr HNf Bf bg
    go_wp2_with fail
    refine ((HNs.out.same HNg.out)).mono ?_
    rintro e wh ⟨rfl, bh1⟩
    have Bh := bh Bg bh1
    rw [decide_eq_true (show cmpNds Pr _ = 0 by rw [HPE.out]; exact (cmpNds_cmp.zero _ _).2 rfl)]
    go_wp2_with fail
    go_ret
    exact ⟨rfl, Bh.out⟩
end Go.Proofs.YtbjbimabgfpdoaaGreatDoor
