/-
  Fields of types in a row of the call's own, and slices.SortFunc over them by their names.
-/
import Derived.Test.YtocchkmhnneiiaaKdRow
import Derived.Test.YtocchkmhnneiiaaOrderD
import Derived.Test.YtocchkmhnneiiaaShSortK
import Derived.Shelf.SlSortCmp.NoneTotal
namespace Go.Proofs.Ytocchkmhnneiiaa
open Go.RowKit Go.Wk Go.Sort Go.Shelf
set_option maxRecDepth 100000

instance : Inhabited Fe := ⟨⟨(⟨#[]⟩, false, .base 41), 0, 0, ⟨#[]⟩, ⟨#[]⟩, none, none, 0, 0⟩⟩
/-- A row of the call's own that holds fields; what their types lead to lies in blocks of D that are not the row's. -/
structure RowJ (w : World) (base : Nat) (D : Nat → Prop) (v : Value) (E : List Fe) : Prop where
  own : w.ownsRow base 51 8 v E.length (feCells E)
  ok : ∀ x ∈ E, KAt w (fun b => D b ∧ some b ≠ v.ownBlock) x.y.2.2 x.u
theorem RowJ.nil (w : World) (base : Nat) (D : Nat → Prop) : RowJ w base D (.slice none 0 0) [] := ⟨World.ownsRow_nil _ _ _ _, fun _ h => nomatch h⟩
theorem RowJ.keepN {w w' : World} {base : Nat} {D : Nat → Prop} {v : Value} {E : List Fe} (h : RowJ w base D v E) (hg : w.grownBy w' none) : RowJ w' base D v E := by
  refine ⟨h.own.kept hg ?_, fun x hx => ?_⟩
  · rcases hv : v.ownBlock with _ | k
    · exact .inl rfl
    · exact .inr (fun e => nomatch e)
  · have h1 := ((kat_mono (w := w) (B' := fun b => (D b ∧ some b ≠ v.ownBlock) ∧ b < w.heap.size) (fun b hb hl => ⟨hb, hl⟩) _).1 _ _ (Nat.le_refl _) (h.ok x hx))
    have h2 := h1.cong (w' := w') fun b hb => hg.block b hb.2 (fun e => nomatch e)
    exact h2.mono fun b hb _ => hb.1
theorem RowJ.keep {w w' : World} {base : Nat} {D : Nat → Prop} {v : Value} {E : List Fe} {R : Nat} (h : RowJ w base D v E) (hg : w.grownBy w' (some R)) (hR : R < base) (hD : ¬ D R) : RowJ w' base D v E := by
  refine ⟨h.own.kept hg ?_, fun x hx => ?_⟩
  · rcases hv : v.ownBlock with _ | k
    · exact .inl rfl
    · refine .inr fun e => ?_
      injection e with e
      have := (h.own.lt k hv).1
      omega
  · have h1 := ((kat_mono (w := w) (B' := fun b => (D b ∧ some b ≠ v.ownBlock) ∧ b < w.heap.size) (fun b hb hl => ⟨hb, hl⟩) _).1 _ _ (Nat.le_refl _) (h.ok x hx))
    have h2 := h1.cong (w' := w') fun b hb => hg.block b hb.2 (fun e => by injection e with e; subst e; exact hD hb.1.1)
    exact h2.mono fun b hb _ => hb.1
/-- What the row is as fields of a type. -/
theorem RowJ.fat {w : World} {base : Nat} {D : Nat → Prop} {v : Value} {E : List Fe} (h : RowJ w base D v E) (hD : ∀ b, base ≤ b → D b) : ∃ A c, v = .slice A E.length c ∧ FAt w D A 0 (ofL (E.map Fe.y)) ∧ E.length ≤ c ∧ c ≤ maxLen := by
  obtain ⟨h1, h2⟩ := h
  have h0 := h1
  rcases h1.2 with ⟨rfl, e0⟩ | ⟨g, cap, cur, rfl, hB, hh, hc, hm, hrest⟩
  · have : E = [] := List.eq_nil_of_length_eq_zero e0
    subst this
    exact ⟨none, 0, rfl, trivial, Nat.le_refl _, Nat.zero_le _⟩
  · refine ⟨some ⟨g, 0, none⟩, cap, rfl, ?_, hc, hm⟩
    exact fat_of_cells (B := D) (a := ⟨g, 0, none⟩) (hD g hB) [] E (by simpa using h0.cells (g := g) rfl) fun x hx => (h2 x hx).mono fun b hb _ => hb.1
/-- One more. -/
theorem RowJ.snoc {w w' : World} {base : Nat} {D : Nat → Prop} {v v' : Value} {E : List Fe} {x : Fe} (h : RowJ w base D v E) (hx : KAt w (fun b => D b ∧ some b ≠ v.ownBlock) x.y.2.2 x.u) (hown : w'.ownsRow base 51 8 v' (E.length + 1) (feCells E ++ x.eight)) (hg : w.grownBy w' v.ownBlock)
    (hb : v'.ownBlock = v.ownBlock ∨ v'.ownBlock = some w.heap.size) : RowJ w' base D v' (E ++ [x]) := by
  refine ⟨?_, fun z hz => ?_⟩
  · rw [feCells_append, List.length_append]; exact hown
  · have hz' : KAt w (fun b => D b ∧ some b ≠ v.ownBlock) z.y.2.2 z.u := by
      rcases List.mem_append.1 hz with hz | hz
      · exact h.ok z hz
      · simp only [List.mem_cons, List.not_mem_nil, or_false] at hz; subst hz; exact hx
    have h1 := (kat_mono (w := w) (B' := fun b => (D b ∧ some b ≠ v.ownBlock) ∧ b < w.heap.size) (fun b hb hl => ⟨hb, hl⟩) _).1 _ _ (Nat.le_refl _) hz'
    have h2 := h1.cong (w' := w') fun b hb => hg.block b hb.2 (fun e => hb.1.2 (by rw [← e]))
    refine h2.mono fun b hb _ => ⟨hb.1.1, ?_⟩
    rcases ‹v'.ownBlock = v.ownBlock ∨ v'.ownBlock = some w.heap.size› with e | e
    · rw [e]; exact hb.1.2
    · rw [e]; intro q; injection q with q; have := hb.2; omega
/-- append of one field to such a row. -/
theorem wpList_append_fj {ops : Array Oper} {rest : List Oper} {o : Oper} {a : Act} {w : World} {Q : Exit → Act → World → Prop} (hgd : o.guard = none) (s x : Operand)
    (ho : o.op = .call { callee := .builtin .append, args := #[s, x], argTypes := #[37, 37] })
    (base : Nat) (D : Nat → Prop) (v : Value) (E : List Fe) (hs : a.eval s = v) (hrow : RowJ w base D v E) (z : Fe) (ad : Addr) (m c : Nat) (hx : a.eval x = .slice (some ad) m c) (hm : m = 1)
    (hnews : ∀ j u, z.eight[j]? = some u → w.cell? (ad.add j) = some u) (hz : KAt w (fun b => D b ∧ some b ≠ v.ownBlock) z.y.2.2 z.u) (hl : E.length ≤ 1000000) (hbase : base ≤ w.heap.size)
    (h : ∀ v' w', RowJ w' base D v' (E ++ [z]) → w.grownBy w' v.ownBlock → wpList Try.prog ops Q rest (a.put o.dst v') w') : wpList Try.prog ops Q (o :: rest) a w := by
  subst hm
  have hi := fdInfo
  cases hq : Try.prog.info? 51 with
  | none => rw [hq] at hi; cases hi
  | some i0 =>
    rw [hq] at hi
    simp only [Option.map_some, Option.some.injEq, Prod.mk.injEq] at hi
    refine wpList_append_own_at w hgd s x _ ho base _ i0 _ 8 104 Try.underlying37 hq hi.1 hi.2.1 hi.2.2 (by decide) (by decide) v E.length (feCells E) hs hrow.own ad 1 c z.eight hx rfl hnews ?_ (by unfold maxLen; omega) (by omega) hbase ?_
    · intro u hu
      have := feCells_one [z] u (by simpa [feCells, Fe.eight, Fe.u] using hu)
      exact this
    · intro v' w' h1 h2 _ h4
      exact h v' w' (hrow.snoc hz h1 h2 h4) h2

theorem jsrt_heap {w : World} {g n : Nat} {os : Array Obj} {cur : Array Value} {e : TypeId} {fr : Nat × Nat} (d : Array Value) (hb : w.heap[g]? = some (.cells cur e fr)) :
    (grow (putRow id (Sort.ahead w n) g 0 d) os).heap[g]? = some (.cells (putCells id 0 d cur) e fr) := by
  have hg : g < w.heap.size := (Array.getElem?_eq_some_iff.1 hb).1
  rw [heap_grow_old _ _ (by simpa using hg)]
  simp [putRow, mapBlock, Sort.ahead, Array.getElem?_modify, hb, onCells]
theorem jsrt_grown {w : World} {g n : Nat} {os : Array Obj} (d : Array Value) : w.grownBy (grow (putRow id (Sort.ahead w n) g 0 d) os) (some g) := by
  refine ⟨rfl, rfl, rfl, by simp, fun k hk hne => ?_⟩
  rw [heap_grow_old _ _ (by simpa using hk)]
  have : g ≠ k := fun e => hne (by rw [e])
  simp [putRow, mapBlock, Sort.ahead, Array.getElem?_modify, this]
theorem jsrt_take (cur : Array Value) (ts : List Value) (h : ts.length ≤ cur.size) : (putCells id 0 ts.toArray cur).toList.take ts.length = ts := by
  apply List.ext_getElem?
  intro j
  by_cases hj : j < ts.length
  · rw [List.getElem?_take_of_lt hj, Array.getElem?_toList]
    simp [putCells, hj, show j < cur.size by omega]
  · rw [List.getElem?_take_eq_none (by omega), List.getElem?_eq_none (by omega)]
theorem jsrt_holds {w : World} {g : Nat} {cur : Array Value} {e : TypeId} {ts : List Value} (hb : w.heap[g]? = some (.cells cur e (0, 0))) (ht : cur.toList.take ts.length = ts) : Holds id w g 0 ts.toArray := by
  intro j hj
  have hj' : j < ts.length := by simpa using hj
  refine ⟨?_, by simp [World.frozen?, hb]⟩
  have h1 : (cur.toList.take ts.length)[j]? = ts[j]? := by rw [ht]
  rw [List.getElem?_take_of_lt hj'] at h1
  simp only [World.cell?, hb, Nat.zero_add]
  simp only [Option.isSome_none, Bool.false_eq_true, if_false]
  rw [← Array.getElem?_toList, h1]
  simp [hj']
theorem eight_len (x : Fe) : x.eight.length = 8 := rfl
theorem flat_fes (d : Array Fe) : flatK Fe.eight 8 d = (feCells d.toList).toArray := ext_get! (by simp) fun t ht => by
  have h : t < d.size * 8 := by simpa using ht
  rw [get_flatK _ _ _ _ h]
  have hk : t / 8 < d.size := by omega
  have hj : t % 8 < (d[t / 8]'hk).eight.length := by rw [eight_len]; omega
  have := feCells_at d.toList (t / 8) (d[t / 8]'hk) (by simp [hk]) (t % 8) _ (List.getElem?_eq_getElem hj)
  rw [show t / 8 * 8 + t % 8 = t by omega] at this
  rw [getElem!_pos d (t / 8) hk, getElem!_pos _ (t % 8) hj]
  simp [this]
/-- The order of fields. -/
def cfF (x y : Fe) : Int := cmpB x.y.1 y.y.1
theorem cfF_swo : SWO (ltOf cfF) where
  irrefl x := by unfold ltOf cfF; rw [cmpB_cmp.self]; rfl
  trans x y z h1 h2 := by
    unfold ltOf cfF at *
    simp only [decide_eq_true_eq] at *
    exact cmpB_cmp.lt_le h1 (by omega)
  ntrans x y z h1 h2 := by
    unfold ltOf cfF at *
    simp only [decide_eq_false_iff_not] at *
    have a1 := cmpB_cmp.anti x.y.1 y.y.1
    have a2 := cmpB_cmp.anti y.y.1 z.y.1
    have a3 := cmpB_cmp.anti x.y.1 z.y.1
    have := cmpB_cmp.trans z.y.1 y.y.1 x.y.1 (by omega) (by omega)
    omega
set_option maxHeartbeats 1000000 in
theorem join_cmp (x y : Fe) (w : World) :
    Calls Try.prog 25 #[.agg x.eight.toArray, .agg y.eight.toArray] w fun e w' => e = .returned (.int .i64 (cfF x y)) ∧ BelowD w w' := by
  obtain ⟨⟨n1, m1, k1⟩, o1, i1, s1, t1, p1, A1, l1, c1⟩ := x
  obtain ⟨⟨n2, m2, k2⟩, o2, i2, s2, t2, p2, A2, l2, c2⟩ := y
  change Calls Try.prog 25 #[.agg #[.string n1, .bool m1, .int .i64 o1, .int .i64 i1, .string s1, .string t1, .pointer p1, .slice A1 l1 c1], .agg #[.string n2, .bool m2, .int .i64 o2, .int .i64 i2, .string s2, .string t2, .pointer p2, .slice A2 l2 c2]] w fun e w' => e = .returned (.int .i64 (cmpB n1 n2)) ∧ BelowD w w'
  go_enter Try.func25, Try.ntmps25
  go_wp2_with fail
  refine (strings_Compare n1 n2 _).mono ?_
  rintro e w1 ⟨rfl, rfl⟩
  go_wp2_with fail
  go_ret
  exact ⟨rfl, (((Below.refl _ _).alloc (Nat.le_refl _) _).alloc (by simp) _), Nat.le_refl _⟩
theorem f_cmp (w : World) (g size : Nat) : CmpLays Try.prog 25 #[] Fe.eight 8 cfF g 0 size w := by
  intro m os dk _ x y
  exact (join_cmp x y _).mono fun e w' ⟨h1, h2⟩ => ⟨h1, h2.grow⟩
/-- What the sort of fields tells. -/
def SrtPost (w : World) (base : Nat) (D : Nat → Prop) (v : Value) (E : List Fe) (e : Ending) (w' : World) : Prop :=
  e = .returned (.tuple #[]) ∧ ∃ E' : List Fe, E'.Perm E ∧ (E'.Pairwise fun a b => cmpB a.y.1 b.y.1 ≤ 0) ∧ RowJ w' base D v E' ∧ w.grownBy w' v.ownBlock
theorem fsort_none (w : World) (p : Option Addr) (cap : Nat) (fv : Value) :
    Calls Try.prog 24 #[.slice p 0 cap, fv] w fun e w' => e = .returned (.tuple #[]) ∧ w' = w := by
  have hcon := AnyF.slices_SortFunc_none { Try.sortK with } p cap fv w
  change Calls Try.prog 24 _ _ _ at hcon
  exact hcon
theorem fes_sort (w : World) (base : Nat) (D : Nat → Prop) (v : Value) (E : List Fe) (h : RowJ w base D v E) (hs : E.length ≤ 1000000) :
    Calls Try.prog 24 #[v, .func (.func 25) #[] #[]] w (SrtPost w base D v E) := by
  rcases h.own.2 with ⟨rfl, h0⟩ | ⟨g, cap, cur, rfl, hBg, hh, h1, h2, h3, h4⟩
  · have : E = [] := List.eq_nil_of_length_eq_zero h0
    subst this
    exact (fsort_none w none 0 _).mono fun e w' ⟨h1, h2⟩ => ⟨h1, [], List.Perm.refl _, List.Pairwise.nil, by rw [h2]; exact h, by rw [h2]; exact World.grownBy.refl _ _⟩
  · have hH : HoldsK Fe.eight 8 w g 0 E.toArray := by
      unfold HoldsK
      rw [flat_fes]
      exact jsrt_holds hh (by rw [feCells_length]; exact h4)
    have eg : ∀ args w, (callFunc 25 args).run Try.prog w = .ok (.enter 25 args) w := enters_of Try.func25 (by kernel_rfl) rfl
    have hcon := AnyQ.slices_SortFunc Try.sortK 8 Try.isAgg51 Try.sizeOf51 Fe.eight (fun _ => rfl) (fun x v hv => feCells_one [x] v (by simpa [feCells, Fe.eight, Fe.u] using hv)) cfF cfF_swo 25 #[] g 0 cap E.toArray w eg (f_cmp w g _) hH (Array.getElem?_eq_some_iff.1 hh).1 (by simp; omega)
    change Calls Try.prog 24 _ _ _ at hcon
    have hsz : E.toArray.size = E.length := by simp
    rw [hsz] at hcon
    refine hcon.mono ?_
    rintro e w' ⟨he, d', n, os, ⟨hp1, -, hp2⟩, hso, rfl⟩
    have hlen : d'.size = E.length := by rw [hp1, hsz]
    have hperm : d'.toList.Perm E := by
      rw [← hlen] at hp2
      have e1 : E.toArray.extract 0 d'.size = E.toArray := by rw [hlen, ← hsz]; exact Array.extract_size
      rw [Array.extract_size, e1] at hp2
      exact hp2
    have hL : d'.toList.length = E.length := by simpa using hlen
    have hg : w.grownBy (sortWorldK Fe.eight 8 w g 0 n d' os) (some g) := by
      unfold sortWorldK putRowK
      exact jsrt_grown _
    refine ⟨he, d'.toList, hperm, ?_, ⟨?_, fun x hx => ?_⟩, hg⟩
    · rw [List.pairwise_iff_getElem]
      intro i j hi hj hij
      have hi' : i < d'.size := by simpa using hi
      have hj' : j < d'.size := by simpa using hj
      have := hso i j (Nat.zero_le _) hij (by omega)
      rw [getElem!_pos d' j hj', getElem!_pos d' i hi'] at this
      unfold ltOf cfF at this
      have this := of_decide_eq_false this
      have a := cmpB_cmp.anti d'[i].y.1 d'[j].y.1
      simp only [Array.getElem_toList]
      omega
    · unfold sortWorldK putRowK
      rw [flat_fes]
      refine ⟨by simp [hlen], .inr ⟨g, cap, _, by rw [hL], hBg, jsrt_heap _ hh, by rw [hL]; exact h1, h2, by simp [putCells, h3], ?_⟩⟩
      have := jsrt_take cur (feCells d'.toList) (by rw [feCells_length, hL, h3]; exact Nat.mul_le_mul_right _ h1)
      rw [feCells_length] at this
      exact this
    · have hx' := h.ok x (hperm.mem_iff.1 hx)
      have h1 := (kat_mono (w := w) (B' := fun b => (D b ∧ some b ≠ (Value.slice (some ⟨g, 0, none⟩) E.length cap).ownBlock) ∧ b < w.heap.size) (fun b hb hl => ⟨hb, hl⟩) _).1 _ _ (Nat.le_refl _) hx'
      have h2 := h1.cong (w' := sortWorldK Fe.eight 8 w g 0 n d' os) fun b hb => hg.block b hb.2 (fun e => hb.1.2 e)
      exact h2.mono fun b hb _ => hb.1
end Go.Proofs.Ytocchkmhnneiiaa
