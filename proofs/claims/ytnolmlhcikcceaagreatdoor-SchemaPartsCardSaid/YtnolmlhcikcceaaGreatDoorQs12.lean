/-
  Plain: those above one, found step by step, each once. No program in sight.
-/
import Derived.Test.YtnolmlhcikcceaaGreatDoorQs11
namespace Go.Wk

theorem nodup_le : ∀ (L M : List Ud), L.Nodup → (∀ x ∈ L, x ∈ M) → L.length ≤ M.length
  | [], _, _, _ => Nat.zero_le _
  | x :: L, M, hn, hs => by
    obtain ⟨h1, h2⟩ := List.nodup_cons.1 hn
    have h3 : x ∈ M := hs x (by simp)
    have h4 := nodup_le L (M.filter fun y => decide (y ≠ x)) h2 (fun y hy => List.mem_filter.2 ⟨hs y (by simp [hy]), decide_eq_true fun e => h1 (e ▸ hy)⟩)
    have h5 : (M.filter fun y => decide (y ≠ x)).length < M.length := Nat.lt_of_le_of_ne (List.length_filter_le _ _) fun hl => by
      have := List.length_filter_eq_length_iff.1 hl x h3
      simp at this
    rw [List.length_cons]; omega
/-- One more, if it is not there. -/
def addU (L : List Ud) (p : Ud) : List Ud := if hadU L p = true then L else L ++ [p]
/-- More of those above u: L' is L and more. -/
structure Grw (G : List (Ud × List Ud)) (u : Ud) (L L' : List Ud) : Prop where
  nd : L'.Nodup
  sound : ∀ y ∈ L', Abv G u y
  pre : ∃ R, L' = L ++ R
theorem Grw.nil (G : List (Ud × List Ud)) (u : Ud) : Grw G u [] [] := ⟨List.nodup_nil, (fun _ hy => nomatch hy), [], rfl⟩
theorem Grw.self {G : List (Ud × List Ud)} {u : Ud} {L L' : List Ud} (h : Grw G u L L') : Grw G u L' L' := ⟨h.nd, h.sound, [], by simp⟩
theorem Grw.trans {G : List (Ud × List Ud)} {u : Ud} {L L' L'' : List Ud} (h : Grw G u L L') (k : Grw G u L' L'') : Grw G u L L'' :=
  ⟨k.nd, k.sound, by obtain ⟨R, e⟩ := h.pre; obtain ⟨R', e'⟩ := k.pre; exact ⟨R ++ R', by rw [e', e, List.append_assoc]⟩⟩
theorem Grw.sub {G : List (Ud × List Ud)} {u : Ud} {L L' : List Ud} (h : Grw G u L L') : ∀ y ∈ L, y ∈ L' := fun y hy => by
  obtain ⟨R, e⟩ := h.pre
  rw [e]; exact List.mem_append_left _ hy
theorem Grw.get {G : List (Ud × List Ud)} {u : Ud} {L L' : List Ud} (h : Grw G u L L') {i : Nat} (hi : i < (u :: L).length) : (u :: L')[i]? = some (u :: L)[i] := by
  obtain ⟨R, e⟩ := h.pre
  rw [e, ← List.cons_append, List.getElem?_append_left hi, List.getElem?_eq_getElem hi]
theorem Grw.len {G : List (Ud × List Ud)} {u : Ud} {L L' : List Ud} (h : Grw G u L L') : L'.length ≤ (G.flatMap (·.2)).length := nodup_le _ _ h.nd fun x hx => by
  have h1 := h.sound x hx
  clear hx h
  induction h1 with
  | one s => obtain ⟨e, he, _, h2⟩ := s; exact List.mem_flatMap.2 ⟨e, he, h2⟩
  | more _ _ ih => exact ih
theorem addU_mem (L : List Ud) (p : Ud) : p ∈ addU L p := by
  unfold addU
  split
  · rename_i h; exact hadU_iff.1 h
  · simp
theorem Grw.add {G : List (Ud × List Ud)} {u : Ud} {L L' : List Ud} (h : Grw G u L L') {z p : Ud} (hz : z = u ∨ z ∈ L') (hs : Stp G z p) : Grw G u L (addU L' p) := by
  unfold addU
  split
  · exact h
  · rename_i hh
    have hp : p ∉ L' := fun e => hh (hadU_iff.2 e)
    obtain ⟨R, e⟩ := h.pre
    refine ⟨?_, fun y hy => ?_, R ++ [p], by rw [e, List.append_assoc]⟩
    · rw [List.nodup_append]
      refine ⟨h.nd, by simp, fun a ha b hb e => ?_⟩
      simp only [List.mem_cons, List.not_mem_nil, or_false] at hb
      subst hb; subst e; exact hp ha
    · rcases List.mem_append.1 hy with hy | hy
      · exact h.sound y hy
      · simp only [List.mem_cons, List.not_mem_nil, or_false] at hy
        subst hy
        rcases hz with rfl | hz
        · exact .one hs
        · exact (h.sound z hz).snoc hs
/-- Behind s rounds. -/
structure Bfs (G : List (Ud × List Ud)) (u : Ud) (s f : Nat) (L : List Ud) : Prop where
  fnd : Grw G u [] L
  near : ∀ y, Ste G s u y → y ∈ L
  shut : ∀ z ∈ (u :: L).take f, ∀ y, Stp G z y → y ∈ L
theorem Bfs.start (G : List (Ud × List Ud)) (u : Ud) : Bfs G u 0 0 [] := ⟨Grw.nil G u, (fun _ hy => nomatch hy), fun z hz => by simp at hz⟩
theorem Bfs.next {G : List (Ud × List Ud)} {u : Ud} {s f : Nat} {L L' : List Ud} (h : Bfs G u s f L) (k : Grw G u L L') (hs : ∀ z ∈ u :: L, ∀ y, Stp G z y → y ∈ L') : Bfs G u (s + 1) (L.length + 1) L' := by
  refine ⟨h.fnd.trans k, fun y hy => ?_, fun z hz y hy => ?_⟩
  · rcases hy.last with h1 | ⟨p, h1, h2⟩
    · exact hs u (by simp) y h1
    · exact hs p (by simp [h.near p h1]) y h2
  · obtain ⟨R, e⟩ := k.pre
    rw [e, ← List.cons_append, List.take_append_of_le_length (by simp), List.take_of_length_le (by simp)] at hz
    exact hs z hz y hy
theorem Bfs.all {G : List (Ud × List Ud)} {u : Ud} {s f : Nat} {L : List Ud} (h : Bfs G u s f L) (hs : s = G.length) (y : Ud) : y ∈ L ↔ Abv G u y :=
  ⟨fun hy => h.fnd.sound y hy, fun hy => h.near y (hs ▸ abv_ste (Nat.le_refl _) hy)⟩
/-- In the midst of a round: those of the first i looked up. -/
structure Mid1 (G : List (Ud × List Ud)) (u : Ud) (L : List Ud) (i : Nat) (L' : List Ud) : Prop where
  grw : Grw G u L L'
  shut : ∀ z ∈ (u :: L).take i, ∀ y, Stp G z y → y ∈ L'
theorem Mid1.start {G : List (Ud × List Ud)} {u : Ud} {s f : Nat} {L : List Ud} (h : Bfs G u s f L) : Mid1 G u L f L := ⟨h.fnd.self, h.shut⟩
theorem Mid1.next {G : List (Ud × List Ud)} {u : Ud} {L L' L'' : List Ud} {i : Nat} (h : Mid1 G u L i L') (k : Grw G u L' L'') (hi : i < (u :: L).length) (hs : ∀ y, Stp G (u :: L)[i] y → y ∈ L'') : Mid1 G u L (i + 1) L'' := by
  refine ⟨h.grw.trans k, fun z hz y hy => ?_⟩
  rw [List.take_succ_eq_append_getElem hi] at hz
  rcases List.mem_append.1 hz with hz | hz
  · exact k.sub y (h.shut z hz y hy)
  · simp only [List.mem_cons, List.not_mem_nil, or_false] at hz
    subst hz; exact hs y hy
theorem Mid1.done {G : List (Ud × List Ud)} {u : Ud} {s f i : Nat} {L L' : List Ud} (h : Bfs G u s f L) (k : Mid1 G u L i L') (hi : (u :: L).length ≤ i) : Bfs G u (s + 1) (L.length + 1) L' :=
  h.next k.grw fun z hz y hy => k.shut z (by rw [List.take_of_length_le hi]; exact hz) y hy
/-- In the midst of looking one up: the first k of the store. -/
structure Mid2 (G : List (Ud × List Ud)) (u z : Ud) (L : List Ud) (k : Nat) (L' : List Ud) : Prop where
  grw : Grw G u L L'
  here : ∀ e ∈ G.take k, e.1 = z → ∀ y ∈ e.2, y ∈ L'
theorem Mid2.start {G : List (Ud × List Ud)} {u z : Ud} {L0 L : List Ud} (h : Grw G u L0 L) : Mid2 G u z L 0 L := ⟨h.self, fun e he => by simp at he⟩
theorem Mid2.next {G : List (Ud × List Ud)} {u z : Ud} {L L' L'' : List Ud} {k : Nat} (h : Mid2 G u z L k L') (g : Grw G u L' L'') (hk : k < G.length) (hs : G[k].1 = z → ∀ y ∈ G[k].2, y ∈ L'') : Mid2 G u z L (k + 1) L'' := by
  refine ⟨h.grw.trans g, fun e he h1 y hy => ?_⟩
  rw [List.take_succ_eq_append_getElem hk] at he
  rcases List.mem_append.1 he with he | he
  · exact g.sub y (h.here e he h1 y hy)
  · simp only [List.mem_cons, List.not_mem_nil, or_false] at he
    subst he; exact hs h1 y hy
theorem Mid2.done {G : List (Ud × List Ud)} {u z : Ud} {L L' : List Ud} {k : Nat} (h : Mid2 G u z L k L') (hk : G.length ≤ k) : ∀ y, Stp G z y → y ∈ L' := fun y ⟨e, he, h1, h2⟩ => h.here e (by rw [List.take_of_length_le hk]; exact he) h1 y h2
/-- In the midst of one entity's Up. -/
structure Mid3 (G : List (Ud × List Ud)) (u : Ud) (ups L : List Ud) (p : Nat) (L' : List Ud) : Prop where
  grw : Grw G u L L'
  here : ∀ y ∈ ups.take p, y ∈ L'
theorem Mid3.start {G : List (Ud × List Ud)} {u : Ud} {ups L0 L : List Ud} (h : Grw G u L0 L) : Mid3 G u ups L 0 L := ⟨h.self, fun e he => by simp at he⟩
theorem Mid3.next {G : List (Ud × List Ud)} {u z : Ud} {ups L L' : List Ud} {p : Nat} (h : Mid3 G u ups L p L') (hp : p < ups.length) (hz : z = u ∨ z ∈ L) (hs : Stp G z ups[p]) : Mid3 G u ups L (p + 1) (addU L' ups[p]) := by
  have g := h.grw.self.add (hz.imp id (h.grw.sub z)) hs
  refine ⟨h.grw.trans g, fun y hy => ?_⟩
  rw [List.take_succ_eq_append_getElem hp] at hy
  rcases List.mem_append.1 hy with hy | hy
  · exact g.sub y (h.here y hy)
  · simp only [List.mem_cons, List.not_mem_nil, or_false] at hy
    subst hy; exact addU_mem _ _
theorem Mid3.done {G : List (Ud × List Ud)} {u : Ud} {ups L L' : List Ud} {p : Nat} (h : Mid3 G u ups L p L') (hp : ups.length ≤ p) : ∀ y ∈ ups, y ∈ L' := fun y hy => h.here y (by rw [List.take_of_length_le hp]; exact hy)

/- An entity more that is in nobody's Up. -/
theorem leaf_stp {G : List (Ud × List Ud)} {e : Ud × List Ud} {p q : Ud} (h : Stp (G ++ [e]) p q) (hp : p ≠ e.1) : Stp G p q := by
  obtain ⟨f, hf, h1, h2⟩ := h
  rcases List.mem_append.1 hf with hf | hf
  · exact ⟨f, hf, h1, h2⟩
  · simp only [List.mem_cons, List.not_mem_nil, or_false] at hf
    subst hf; exact absurd h1.symm hp
theorem leaf_abv {G : List (Ud × List Ud)} {e : Ud × List Ud} (hno : ∀ g ∈ G, e.1 ∉ g.2) {u y : Ud} (h : Abv (G ++ [e]) u y) (hu : u ≠ e.1) : Abv G u y := by
  induction h with
  | one s => exact .one (leaf_stp s hu)
  | more s _ ih =>
    have s' := leaf_stp s hu
    refine .more s' (ih fun h => ?_)
    obtain ⟨g, hg, _, h2⟩ := s'
    exact hno g hg (h ▸ h2)
theorem more_abv {G : List (Ud × List Ud)} (e : Ud × List Ud) {u y : Ud} (h : Abv G u y) : Abv (G ++ [e]) u y := by
  induction h with
  | one s => obtain ⟨g, hg, h1, h2⟩ := s; exact .one ⟨g, by simp [hg], h1, h2⟩
  | more s _ ih => obtain ⟨g, hg, h1, h2⟩ := s; exact .more ⟨g, by simp [hg], h1, h2⟩ ih
/-- Ascending lists that hold the same are one. -/
theorem asc_one {R : Ud → Ud → Prop} (hr : ∀ x, ¬ R x x) (ht : ∀ x y z, R x y → R y z → R x z) : ∀ (L M : List Ud), L.Pairwise R → M.Pairwise R → (∀ x, x ∈ L ↔ x ∈ M) → L = M
  | [], M, _, _, h => by
    rcases M with _ | ⟨y, M⟩
    · rfl
    · exact absurd ((h y).2 (by simp)) (by simp)
  | x :: L, [], _, _, h => absurd ((h x).1 (by simp)) (by simp)
  | x :: L, y :: M, h1, h2, h => by
    obtain ⟨a1, a2⟩ := List.pairwise_cons.1 h1
    obtain ⟨b1, b2⟩ := List.pairwise_cons.1 h2
    have e : x = y := by
      rcases List.mem_cons.1 ((h x).1 (by simp)) with e | hx
      · exact e
      · rcases List.mem_cons.1 ((h y).2 (by simp)) with e | hy
        · exact e.symm
        · exact absurd (ht _ _ _ (a1 y hy) (b1 x hx)) (hr x)
    subst e
    congr 1
    refine asc_one hr ht L M a2 b2 fun z => ⟨fun hz => ?_, fun hz => ?_⟩
    · rcases List.mem_cons.1 ((h z).1 (by simp [hz])) with e | hm
      · exact absurd (a1 z hz) (e ▸ hr z)
      · exact hm
    · rcases List.mem_cons.1 ((h z).2 (by simp [hz])) with e | hm
      · exact absurd (b1 z hz) (e ▸ hr z)
      · exact hm
end Go.Wk
