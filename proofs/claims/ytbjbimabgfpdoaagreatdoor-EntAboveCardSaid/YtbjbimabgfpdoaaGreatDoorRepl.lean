/-
  strings.NewReplacer at four texts of one byte or two, and its Replace: the table is built once.
-/
import Derived.Deep.WholeRow
import Derived.Test.YtbjbimabgfpdoaaGreatDoorOnce
import Derived.Test.YtbjbimabgfpdoaaGreatDoorQuoLaw
import Derived.Test.YtbjbimabgfpdoaaGreatDoorName
namespace Go.Proofs.YtbjbimabgfpdoaaGreatDoor
open Go.RowKit Go.Wk
set_option maxRecDepth 100000

theorem txInfo : (Tryz.prog.info? 9).map (fun i => (i.zero, i.size, i.bytes)) = some (some (.string ⟨#[]⟩), 1, 16) := by kernel_rfl
/-- The table as the literal lays it: no byte has another text. -/
noncomputable def tabZ (v : Value) : Array Value := Tryz.zeroCells225.setIfInBounds 256 v
theorem tab_zero : Tryz.zeroCells225 = Array.replicate 257 (.slice none 0 0) := by kernel_rfl
theorem tabZ_eq (v : Value) : tabZ v = (Array.replicate 257 (.slice none 0 0)).setIfInBounds 256 v := by unfold tabZ; rw [tab_zero]
theorem tabZ_size (v : Value) : (tabZ v).size = 257 := by rw [tabZ_eq]; simp
theorem tabZ_at (v : Value) (k : Nat) (h : k < 256) : (tabZ v)[k]? = some (.slice none 0 0) := by
  rw [tabZ_eq, Array.getElem?_setIfInBounds]
  rw [if_neg (by omega), Array.getElem?_replicate, if_pos (by omega)]
theorem tabZ_last (v : Value) : (tabZ v)[256]? = some v := by rw [tabZ_eq]; simp
/-- The table at a block: what stands at each byte, and the row of the bytes. -/
structure Tab (w : World) (X : Nat) (f : Nat → Value) (z : Value) : Prop where
  at_ : ∀ k, k < 256 → w.cell? ⟨X, k, none⟩ = some (f k)
  last : w.cell? ⟨X, 256, none⟩ = some z
  thaw : ∀ k, k ≤ 256 → w.frozen? ⟨X, k, none⟩ = false
theorem cell_row {w : World} {b k : Nat} {arr : Array Value} {t : TypeId} {fz : Nat × Nat} {u : Value} (h : w.heap[b]? = some (.cells arr t fz)) (hu : arr[k]? = some u) : w.cell? ⟨b, k, none⟩ = some u := by
  rw [cell_of_row _ _ k arr t fz h]; exact hu
theorem tab_new (w : World) (v : Value) : Tab (w.alloc (.cells (tabZ v) 225)) w.heap.size (fun _ => .slice none 0 0) v :=
  ⟨fun k h => cell_row (heap_alloc_last w _) (tabZ_at v k h), cell_row (heap_alloc_last w _) (tabZ_last v), fun k _ => by simp⟩
theorem Tab.lt {w : World} {X : Nat} {f : Nat → Value} {z : Value} (h : Tab w X f z) : X < w.heap.size := block_lt_of_cell h.last
theorem Tab.keep {w w' : World} {X : Nat} {f : Nat → Value} {z : Value} (h : Tab w X f z) (hb : Below w.heap.size w w') : Tab w' X f z :=
  ⟨fun k hk => cell_keep hb (h.at_ k hk), cell_keep hb h.last, fun k hk => by rw [(bcell hb).2 X k h.lt]; exact h.thaw k hk⟩
theorem Tab.set {w : World} {X : Nat} {f : Nat → Value} {z : Value} (h : Tab w X f z) (j : Nat) (hj : j < 256) (v : Value) : Tab (w.setCell ⟨X, j, none⟩ v) X (fun k => if k = j then v else f k) z :=
  ⟨fun k hk => by
    by_cases e : k = j
    · subst e; rw [if_pos rfl]; exact World.cell?_setCell_same _ _ _ (h.at_ k hk)
    · rw [if_neg e, World.cell?_setCell_other _ ⟨X, j, none⟩ ⟨X, k, none⟩ _ (by intro e; injection e; omega)]; exact h.at_ k hk,
   by rw [World.cell?_setCell_other _ ⟨X, j, none⟩ ⟨X, 256, none⟩ _ (by intro e; injection e; omega)]; exact h.last,
   fun k hk => by rw [World.frozen?_setCell]; exact h.thaw k hk⟩
theorem Tab.grown {w w' : World} {X : Nat} {f : Nat → Value} {z : Value} {g : Option Nat} (h : Tab w X f z) (hg : w.grownBy w' g) (hn : g ≠ some X) : Tab w' X f z := by
  have hb : w'.heap[X]? = w.heap[X]? := hg.block X h.lt (fun e => hn e.symm)
  exact ⟨fun k hk => (World.cell?_of_block (a := ⟨X, k, none⟩) hb).trans (h.at_ k hk), (World.cell?_of_block (a := ⟨X, 256, none⟩) hb).trans h.last, fun k hk => (World.frozen?_of_block (a := ⟨X, k, none⟩) hb).trans (h.thaw k hk)⟩
theorem Tab.setLast {w : World} {X : Nat} {f : Nat → Value} {z : Value} (h : Tab w X f z) (v : Value) : Tab (w.setCell ⟨X, 256, none⟩ v) X f v :=
  ⟨fun k hk => by rw [World.cell?_setCell_other _ ⟨X, 256, none⟩ ⟨X, k, none⟩ _ (by intro e; injection e; omega)]; exact h.at_ k hk,
   World.cell?_setCell_same _ _ _ h.last,
   fun k hk => by rw [World.frozen?_setCell]; exact h.thaw k hk⟩
theorem bytes_nil (w : World) : (binOp .eql 141 (.slice none 0 0) (.slice none 0 0)).run Tryz.prog w = .ok (.bool true) w := by kernel_rfl
theorem byte_str (w : World) (b : UInt8) (n : Int) (hn : n = b.toNat) : (convert 141 9 (.slice (some ⟨w.heap.size, 0, none⟩) 1 1)).run Tryz.prog (w.alloc (.cells #[.int .u8 n] 5)) = .ok (.string ⟨#[b]⟩) (w.alloc (.cells #[.int .u8 n] 5)) := by
  subst hn
  exact run_convert_bytes_back (P := Tryz.prog) _ 141 9 5 ⟨w.heap.size, 0, none⟩ 1 [b] Tryz.underlying141 Tryz.underlying5 Tryz.underlying9 (fun j hj => by
    have : j = 0 := by simpa using hj
    subst this
    exact cell_one_new w _ _ 0 _ rfl)
theorem two_new (w : World) (o : Array Value) (x : Value) (t t' : TypeId) : ∀ j u, [x][j]? = some u → ((w.alloc (.cells o t')).alloc (.cells #[x] t)).cell? ((⟨w.heap.size + 1, 0, none⟩ : Addr).add j) = some u := by
  intro j u hj
  have := cell_one_new (w.alloc (.cells o t')) x t j u hj
  simpa using this
theorem own_slice {w : World} {B n size : Nat} {e : TypeId} {v : Value} {xs : List Value} (h : w.ownsRow B e size v n xs) : ∃ A c, v = .slice A n c := by
  rcases h.2 with ⟨rfl, h0⟩ | ⟨g, cap, cur, rfl, _⟩
  · exact ⟨none, 0, by rw [h0]⟩
  · exact ⟨_, _, rfl⟩
/-- A text's bytes at a block that is neither the table's nor the one that the row of the bytes lies in. -/
def Tx (w : World) (X : Nat) (g : Option Nat) (v : Value) (l : List UInt8) : Prop := ∃ P c, v = .slice (some ⟨P, 0, none⟩) l.length c ∧ P ≠ X ∧ g ≠ some P ∧ P < w.heap.size ∧ ∀ (j : Nat) (b : UInt8), l[j]? = some b → w.cell? ⟨P, j, none⟩ = some (.int .u8 (b.toNat : Int))
theorem Tx.keep {w w' : World} {X : Nat} {g : Option Nat} {v : Value} {l : List UInt8} (h : Tx w X g v l) (hb : Below w.heap.size w w') : Tx w' X g v l :=
  let ⟨P, c, h1, h2, h3, h4, h5⟩ := h; ⟨P, c, h1, h2, h3, Nat.lt_of_lt_of_le h4 hb.size, fun j b hj => cell_keep hb (h5 j b hj)⟩
theorem Tx.grown {w w' : World} {X : Nat} {g : Option Nat} {v : Value} {l : List UInt8} (h : Tx w X g v l) (hg : w.grownBy w' g) : Tx w' X g v l :=
  let ⟨P, c, h1, h2, h3, h4, h5⟩ := h; ⟨P, c, h1, h2, h3, Nat.lt_of_lt_of_le h4 hg.size, fun j b hj => (World.cell?_of_block (a := ⟨P, j, none⟩) (hg.block P h4 (fun e => h3 e.symm))).trans (h5 j b hj)⟩
theorem Tx.setX {w : World} {X : Nat} {g : Option Nat} {v : Value} {l : List UInt8} (h : Tx w X g v l) (k : Nat) (u : Value) : Tx (w.setCell ⟨X, k, none⟩ u) X g v l :=
  let ⟨P, c, h1, h2, h3, h4, h5⟩ := h; ⟨P, c, h1, h2, h3, by simpa [World.setCell] using h4, fun j b hj => by
    rw [World.cell?_setCell_other _ ⟨X, k, none⟩ ⟨P, j, none⟩ _ (by intro e; injection e with e; exact h2 e.symm)]; exact h5 j b hj⟩
theorem Tx.group {w : World} {X : Nat} {g g' : Option Nat} {v : Value} {l : List UInt8} (h : Tx w X g v l) (hg : g' = g ∨ ∃ s, g' = some s ∧ w.heap.size ≤ s) : Tx w X g' v l :=
  let ⟨P, c, h1, h2, h3, h4, h5⟩ := h; ⟨P, c, h1, h2, by
    rcases hg with rfl | ⟨s, rfl, hs⟩
    · exact h3
    · intro e; injection e with e; omega, h4, h5⟩
theorem Tx.regrow {w w' : World} {X : Nat} {g g' : Option Nat} {v : Value} {l : List UInt8} {o o' : Obj} (h : Tx w X g v l) (hg : ((w.alloc o).alloc o').grownBy w' g) (hat : g' = g ∨ g' = some (w.heap.size + 1 + 1)) : Tx w' X g' v l := by
  have h1 := ((h.keep (below_box w o)).keep (below_box _ o')).grown hg
  obtain ⟨P, c, h1, h2, h3, h4, h5⟩ := h1
  refine ⟨P, c, h1, h2, ?_, h4, h5⟩
  rcases hat with rfl | rfl
  · exact h3
  · obtain ⟨P', c', k1, k2, k3, k4, k5⟩ := h
    rw [h1] at k1
    injection k1 with k1
    injection k1 with k1
    injection k1 with k1
    intro e; injection e with e; omega
theorem tx_of {w : World} {X P c : Nat} {g : Option Nat} (l : List UInt8) (hX : P ≠ X) (hg : g ≠ some P) (hP : P < w.heap.size) (h : ∀ (k : Nat) (h : k < (⟨l.toArray⟩ : ByteArray).size), w.cell? ⟨P, k, none⟩ = some (.int .u8 ((⟨l.toArray⟩ : ByteArray)[k].toNat : Int))) : Tx w X g (.slice (some ⟨P, 0, none⟩) l.length c) l :=
  ⟨P, c, rfl, hX, hg, hP, fun j b hj => by
    obtain ⟨hk, e⟩ := List.getElem?_eq_some_iff.1 hj
    have := h j (by show j < l.toArray.size; rw [List.size_toArray]; exact hk)
    rw [this, ← e]; rfl⟩
/-- The rounds that fill the table. -/
def Rnd (w : World) (X : Nat) (wr : World) (i : Value) : Prop := ∃ (f : Nat → Value) (z : Value) (L : List Value),
  wr.ownsRow w.heap.size 9 1 z L.length L ∧ Tab wr X f z ∧ z.ownBlock ≠ some X ∧ Below w.heap.size w wr ∧
  ((i = .int .i64 2 ∧ L = [] ∧ f = fun _ => .slice none 0 0) ∨
   (i = .int .i64 0 ∧ L = [.string ⟨#[34]⟩] ∧ Tx wr X z.ownBlock (f 34) [92, 34] ∧ ∀ k, k ≠ 34 → f k = .slice none 0 0) ∨
   (i = .int .i64 (-2) ∧ L = [.string ⟨#[34]⟩, .string ⟨#[92]⟩] ∧ Tx wr X z.ownBlock (f 34) [92, 34] ∧ Tx wr X z.ownBlock (f 92) [92, 92] ∧ ∀ k, k ≠ 34 → k ≠ 92 → f k = .slice none 0 0))
/-- A replacer's table, whole. -/
structure RepAt (w : World) (X : Nat) (f : Nat → Value) (T c : Nat) : Prop where
  tab : Tab w X f (.slice (some ⟨T, 0, none⟩) 2 c)
  t0 : w.cell? ⟨T, 0, none⟩ = some (.string ⟨#[34]⟩)
  t1 : w.cell? ⟨T, 1, none⟩ = some (.string ⟨#[92]⟩)
  q : ∃ P d, f 34 = .slice (some ⟨P, 0, none⟩) 2 d ∧ w.cell? ⟨P, 0, none⟩ = some (.int .u8 92) ∧ w.cell? ⟨P, 1, none⟩ = some (.int .u8 34)
  s : ∃ P d, f 92 = .slice (some ⟨P, 0, none⟩) 2 d ∧ w.cell? ⟨P, 0, none⟩ = some (.int .u8 92) ∧ w.cell? ⟨P, 1, none⟩ = some (.int .u8 92)
  o : ∀ k, k ≠ 34 → k ≠ 92 → f k = .slice none 0 0
theorem RepAt.keep {w w' : World} {X : Nat} {f : Nat → Value} {T c : Nat} (h : RepAt w X f T c) (hb : Below w.heap.size w w') : RepAt w' X f T c :=
  ⟨h.tab.keep hb, cell_keep hb h.t0, cell_keep hb h.t1, let ⟨P, d, h1, h2, h3⟩ := h.q; ⟨P, d, h1, cell_keep hb h2, cell_keep hb h3⟩, let ⟨P, d, h1, h2, h3⟩ := h.s; ⟨P, d, h1, cell_keep hb h2, cell_keep hb h3⟩, h.o⟩
theorem rep_of {w : World} {X B : Nat} {f : Nat → Value} {z : Value} (hO : w.ownsRow B 9 1 z 2 [.string ⟨#[34]⟩, .string ⟨#[92]⟩]) (hT : Tab w X f z)
    (h34 : Tx w X z.ownBlock (f 34) [92, 34]) (h92 : Tx w X z.ownBlock (f 92) [92, 92]) (hk : ∀ k, k ≠ 34 → k ≠ 92 → f k = .slice none 0 0) : ∃ T c, RepAt w X f T c := by
  have hc := fun g (e : z.ownBlock = some g) => hO.cells (g := g) e
  obtain ⟨P, d, p1, -, -, -, p2⟩ := h34
  obtain ⟨Q, d', q1, -, -, -, q2⟩ := h92
  rcases hO.2 with ⟨rfl, h0⟩ | ⟨g, cap, cur, rfl, _⟩
  · omega
  · exact ⟨g, cap, hT, hc g rfl 0 _ rfl, hc g rfl 1 _ rfl, ⟨P, d, p1, p2 0 92 rfl, p2 1 34 rfl⟩, ⟨Q, d', q1, q2 0 92 rfl, q2 1 92 rfl⟩, hk⟩
theorem repl_lit (w0 : World) (A : Option Addr) (n c : Nat) :
    Sem.run Tryz.prog (storeCells ⟨w0.heap.size, 0, none⟩ (Tryz.zeroCells225.toList.set 256 (.slice A n c))) (w0.alloc (.cells Tryz.zeroCells225 225)) = .ok () (w0.alloc (.cells (tabZ (.slice A n c)) 225)) := by
  have hs := tabZ_size (.slice A n c)
  have hz : Tryz.zeroCells225.size = 257 := by rw [tab_zero]; simp
  have h1 : (tabZ (.slice A n c)).all (·.oneCell') = true := by
    rw [Array.all_eq_true]
    intro i hi
    have := Array.getElem?_eq_getElem hi
    rcases Nat.lt_or_ge i 256 with h | h
    · rw [tabZ_at _ i h] at this; injection this with this; rw [← this]; rfl
    · have e : i = 256 := by omega
      subst e
      rw [tabZ_last] at this; injection this with this; rw [← this]; rfl
  have := run_storeCells_new (P := Tryz.prog) w0 225 Tryz.zeroCells225 (tabZ (.slice A n c)) (by rw [hs]; kernel_rfl) (by omega) h1
  have e : (tabZ (.slice A n c)).toList = Tryz.zeroCells225.toList.set 256 (.slice A n c) := by unfold tabZ; simp
  rw [e] at this
  exact this
set_option maxHeartbeats 4000000 in
theorem repl_build (b G C : Nat) (w : World) (h4 : w.cell? ⟨b, 4, none⟩ = some (.slice (some ⟨G, 0, none⟩) 4 C))
    (t0 : w.cell? ⟨G, 0, none⟩ = some (.string ⟨#[92]⟩)) (t1 : w.cell? ⟨G, 1, none⟩ = some (.string ⟨#[92, 92]⟩)) (t2 : w.cell? ⟨G, 2, none⟩ = some (.string ⟨#[34]⟩)) (t3 : w.cell? ⟨G, 3, none⟩ = some (.string ⟨#[92, 34]⟩)) :
    Calls Tryz.prog 123 #[.pointer (some ⟨b, 0, none⟩)] w fun e w' => ∃ X f T c, e = .returned (.iface 226 (.pointer (some ⟨X, 0, none⟩))) ∧ w.heap.size ≤ X ∧ RepAt w' X f T c ∧ Below w.heap.size w w' := by
  obtain ⟨j0, hj, jz0, jz1, jz2⟩ := info_parts txInfo
  have T0 := Lib.hid t0
  have T1 := Lib.hid t1
  have T2 := Lib.hid t2
  have T3 := Lib.hid t3
  clear t0 t1 t2 t3
  go_enter Tryz.func123, Tryz.ntmps123
  go_wp2_with fail
  go_loopw [4, 5] (fun f i wr => ((i = .int .i64 0 ∧ f = .bool true) ∨ (i = .int .i64 2 ∧ f = .bool false) ∨ (i = .int .i64 4 ∧ f = .bool false)) ∧ Hid (Below w.heap.size w wr)) (fun _ i _ => 4 - (intOf i).toNat)
  case atStart => exact ⟨.inl ⟨rfl, rfl⟩, Below.refl _ _⟩
  case round =>
    obtain ⟨hk, hB⟩ := hrel
    have e0 := cell_keep hB.out T0.out
    have e1 := cell_keep hB.out T1.out
    have e2 := cell_keep hB.out T2.out
    have e3 := cell_keep hB.out T3.out
    rcases hk with ⟨rfl, rfl⟩ | ⟨rfl, rfl⟩ | ⟨rfl, rfl⟩
    · go_wp2_with fail
      go_roundw
      case rel => exact ⟨.inr (.inl ⟨rfl, rfl⟩), hB⟩
      case measure => simp [intOf]
    · go_wp2_with fail
      go_roundw
      case rel => exact ⟨.inr (.inr ⟨rfl, rfl⟩), hB⟩
      case measure => simp [intOf]
    · have hsz := hB.out.size
      go_wp2_with (at_make; refine wpList_make_own _ rfl _ _ 77 rfl w.heap.size 9 j0 (.string ⟨#[]⟩) 1 Tryz.underlying77 hj jz0 jz1 .i64 .i64 _ 2 rfl rfl (by simp) (by rw [jz2]; omega) (by unfold maxLen; omega) hsz ?_; intro w0 hown0 hgrow0)
      have hst := repl_lit w0 (some ⟨wr.heap.size, 0, none⟩) 0 2
      rw [hst]
      clear hst
      have hX := hgrow0.size
      have hYX := own_lt hown0 wr.heap.size rfl
      have TB := Lib.hid (tab_new w0 (.slice (some ⟨wr.heap.size, 0, none⟩) 0 2))
      have OW := Lib.hid (hown0.alloc (.cells (tabZ (.slice (some ⟨wr.heap.size, 0, none⟩) 0 2)) 225))
      have B1 := bh hB (((grown_none hgrow0)).alloc hX (.cells (tabZ (.slice (some ⟨wr.heap.size, 0, none⟩) 0 2)) 225))
      obtain ⟨w1, hw1⟩ : ∃ w1, w0.alloc (.cells (tabZ (.slice (some ⟨wr.heap.size, 0, none⟩) 0 2)) 225) = w1 := ⟨_, rfl⟩
      rw [hw1] at TB OW B1 ⊢
      clear hw1 hown0 hgrow0 hB e0 e1 e2 e3
      have hXB : w.heap.size ≤ w0.heap.size := by omega
      go_wp2_with fail
      generalize w0.heap.size = X at *
      generalize wr.heap.size = Y at *
      go_loopw [12, 13, 14] (fun i _ _ wr => Hid (Rnd w X wr i)) (fun i _ _ _ => (intOf i + 2).toNat)
      case atStart => exact ⟨_, _, _, OW.out, TB.out, by simp [Value.ownBlock]; omega, B1.out, .inl ⟨rfl, rfl, rfl⟩⟩
      case round =>
        obtain ⟨f, z, L, hO, hT, hN, hB, hk⟩ := hrel.out
        have e0 := cell_keep hB T0.out
        have e1 := cell_keep hB T1.out
        have e2 := cell_keep hB T2.out
        have e3 := cell_keep hB T3.out
        have HO := Lib.hid hO
        have HT := Lib.hid hT
        have HN := Lib.hid hN
        have HB := Lib.hid hB
        clear hO hT hN hB hrel
        have qnil := bytes_nil
        have q34 : ((⟨#[34]⟩ : ByteArray)[0]'(by decide)).toNat = 34 := rfl
        have q92 : ((⟨#[92]⟩ : ByteArray)[0]'(by decide)).toNat = 92 := rfl
        rcases hk with ⟨rfl, rfl, rfl⟩ | ⟨rfl, rfl, h34, hk⟩ | ⟨rfl, rfl, h34, h92, hk⟩
        · have c0 := HT.out.at_ 34 (by omega)
          have c1 := HT.out.last
          have qs := byte_str wr 34 34 rfl
          have hsz2 := HB.out.size
          go_wp2_with (at_builtin; refine wpList_append_own_at _ rfl _ _ 77 rfl w.heap.size 9 j0 _ 1 16 Tryz.underlying77 hj jz0 jz1 jz2 rfl (by decide) _ 0 [] rfl ((HO.out.alloc _).alloc _) ⟨wr.heap.size + 1, 0, none⟩ 1 1 [.string ⟨#[34]⟩] rfl rfl (two_new wr _ _ _ _) (by intro u hu; simp only [List.mem_cons, List.not_mem_nil, or_false] at hu; subst hu; rfl) ?d1 ?d2 ?d3 ?_)
          case d1 => unfold maxLen; omega
          case d2 => omega
          case d3 => simp; omega
          intro v2 w3 hown hgrow _ hat
          have T3' := Lib.hid (((HT.out.keep (below_box wr _)).keep (below_box _ _)).grown hgrow HN.out)
          obtain ⟨A2, n2, rfl⟩ := own_slice hown
          have O3 := Lib.hid hown
          have B3 := Lib.hid ((((HB.out.alloc hsz2 _).alloc (by simp; omega) _)).grown hgrow (by simp; omega) (fun g hg => own_base HO.out g hg))
          have N3 := Lib.hid (show (Value.slice A2 1 n2).ownBlock ≠ some X by
            rcases hat with q | q
            · rw [q]; exact HN.out
            · rw [q]; intro e; injection e with e; have := HT.out.lt; omega)
          have d1 := T3'.out.last
          have d2 := T3'.out.thaw 256 (by omega)
          clear hown hgrow hat HT HO HB HN c0 c1 e0 e1 e2 e3 qs hsz2
          go_wp2_with fail
          have O4 := Lib.hid (ownsRow_setCell_other O3.out (a := ⟨X, 256, none⟩) N3.out (.slice A2 1 n2))
          have T4 := Lib.hid (T3'.out.setLast (.slice A2 1 n2))
          have B4 := Lib.hid (B3.out.setCell (p := ⟨X, 256, none⟩) hXB (.slice A2 1 n2))
          obtain ⟨w4, hw4⟩ : ∃ w4, w3.setCell ⟨X, 256, none⟩ (.slice A2 1 n2) = w4 := ⟨_, rfl⟩
          rw [hw4] at O4 T4 B4 ⊢
          clear hw4 d1 d2 O3 T3' B3
          obtain ⟨c5, w5, hrun, hb5, hcell⟩ := run_bytes ⟨#[92, 34]⟩ w4
          rw [hrun]
          clear hrun
          have hc0 := hcell 0 (by decide)
          have X5 := Lib.hid (tx_of (w := w5) (X := X) (P := w4.heap.size) (c := c5) (g := (Value.slice A2 1 n2).ownBlock) [92, 34] (by have := T4.out.lt; omega) (by intro e; have := own_lt O4.out _ e; omega) (block_lt_of_cell hc0) hcell)
          have T5 := Lib.hid (T4.out.keep hb5)
          have B5 := bh B4 hb5
          have O5 := Lib.hid (own_kept_below O4.out hb5)
          have e1 := T5.out.at_ 34 (by omega)
          have e2 := T5.out.thaw 34 (by omega)
          clear hcell hb5 O4 T4 B4 hc0
          go_wp2_with fail
          go_roundw
          case rel =>
            refine Lib.hid ⟨_, _, [.string ⟨#[34]⟩], ownsRow_setCell_other O5.out (a := ⟨X, 34, none⟩) N3.out _, T5.out.set 34 (by omega) _, N3.out, B5.out.setCell (p := ⟨X, 34, none⟩) hXB _, .inr (.inl ⟨rfl, rfl, by rw [if_pos rfl]; exact X5.out.setX 34 _, fun k hk => by rw [if_neg hk]⟩)⟩
          case measure => simp [intOf]
        · have c0 := HT.out.at_ 92 (by omega)
          have c1 := HT.out.last
          have qs := byte_str wr 92 92 rfl
          have hsz2 := HB.out.size
          have H34 := Lib.hid h34
          have HK := Lib.hid hk
          have ek : f 92 = .slice none 0 0 := hk 92 (by decide)
          rw [ek] at c0
          clear h34 hk ek
          go_wp2_with (at_builtin; refine wpList_append_own_at _ rfl _ _ 77 rfl w.heap.size 9 j0 _ 1 16 Tryz.underlying77 hj jz0 jz1 jz2 rfl (by decide) _ 1 [.string ⟨#[34]⟩] rfl ((HO.out.alloc _).alloc _) ⟨wr.heap.size + 1, 0, none⟩ 1 1 [.string ⟨#[92]⟩] rfl rfl (two_new wr _ _ _ _) (by intro u hu; simp only [List.mem_cons, List.not_mem_nil, or_false] at hu; subst hu; rfl) ?d1 ?d2 ?d3 ?_)
          case d1 => unfold maxLen; omega
          case d2 => omega
          case d3 => simp; omega
          intro v2 w3 hown hgrow _ hat
          have T3' := Lib.hid (((HT.out.keep (below_box wr _)).keep (below_box _ _)).grown hgrow HN.out)
          obtain ⟨A2, n2, rfl⟩ := own_slice hown
          have O3 := Lib.hid hown
          have B3 := Lib.hid ((((HB.out.alloc hsz2 _).alloc (by simp; omega) _)).grown hgrow (by simp; omega) (fun g hg => own_base HO.out g hg))
          have N3 := Lib.hid (show (Value.slice A2 2 n2).ownBlock ≠ some X by
            rcases hat with q | q
            · rw [q]; exact HN.out
            · rw [q]; intro e; injection e with e; have := HT.out.lt; omega)
          have K3 := Lib.hid (H34.out.regrow hgrow hat)
          have d1 := T3'.out.last
          have d2 := T3'.out.thaw 256 (by omega)
          clear hown hgrow hat HT HO HB HN c0 c1 e0 e1 e2 e3 qs hsz2 H34
          go_wp2_with fail
          have O4 := Lib.hid (ownsRow_setCell_other O3.out (a := ⟨X, 256, none⟩) N3.out (.slice A2 2 n2))
          have T4 := Lib.hid (T3'.out.setLast (.slice A2 2 n2))
          have B4 := Lib.hid (B3.out.setCell (p := ⟨X, 256, none⟩) hXB (.slice A2 2 n2))
          have K4 := Lib.hid (K3.out.setX 256 (.slice A2 2 n2))
          obtain ⟨w4, hw4⟩ : ∃ w4, w3.setCell ⟨X, 256, none⟩ (.slice A2 2 n2) = w4 := ⟨_, rfl⟩
          rw [hw4] at O4 T4 B4 K4 ⊢
          clear hw4 d1 d2 O3 T3' B3 K3
          obtain ⟨c5, w5, hrun, hb5, hcell⟩ := run_bytes ⟨#[92, 92]⟩ w4
          rw [hrun]
          clear hrun
          have hc0 := hcell 0 (by decide)
          have X5 := Lib.hid (tx_of (w := w5) (X := X) (P := w4.heap.size) (c := c5) (g := (Value.slice A2 2 n2).ownBlock) [92, 92] (by have := T4.out.lt; omega) (by intro e; have := own_lt O4.out _ e; omega) (block_lt_of_cell hc0) hcell)
          have T5 := Lib.hid (T4.out.keep hb5)
          have B5 := bh B4 hb5
          have O5 := Lib.hid (own_kept_below O4.out hb5)
          have K5 := Lib.hid (K4.out.keep hb5)
          have e1 := T5.out.at_ 92 (by omega)
          have e2 := T5.out.thaw 92 (by omega)
          clear hcell hb5 O4 T4 B4 K4 hc0
          go_wp2_with fail
          go_roundw
          case rel =>
            refine Lib.hid ⟨_, _, [.string ⟨#[34]⟩, .string ⟨#[92]⟩], ownsRow_setCell_other O5.out (a := ⟨X, 92, none⟩) N3.out _, T5.out.set 92 (by omega) _, N3.out, B5.out.setCell (p := ⟨X, 92, none⟩) hXB _, .inr (.inr ⟨rfl, rfl, by rw [if_neg (by decide)]; exact K5.out.setX 92 _, by rw [if_pos rfl]; exact X5.out.setX 92 _, fun k hk1 hk2 => by rw [if_neg hk2]; exact HK.out k hk1⟩)⟩
          case measure => simp [intOf]
        · have R := Lib.hid (rep_of HO.out HT.out h34 h92 hk)
          clear h34 h92 hk HO HT HN e0 e1 e2 e3
          go_wp2_with fail
          go_ret
          obtain ⟨T, c, R⟩ := R.out
          exact ⟨X, f, T, c, rfl, hXB, R, HB.out⟩
set_option maxHeartbeats 1000000 in
theorem repl_buildOnce (b G C : Nat) (w : World) (h3 : w.cell? ⟨b, 3, none⟩ = some .nilIface) (z3 : w.frozen? ⟨b, 3, none⟩ = false) (z4 : w.frozen? ⟨b, 4, none⟩ = false) (h4 : w.cell? ⟨b, 4, none⟩ = some (.slice (some ⟨G, 0, none⟩) 4 C))
    (t0 : w.cell? ⟨G, 0, none⟩ = some (.string ⟨#[92]⟩)) (t1 : w.cell? ⟨G, 1, none⟩ = some (.string ⟨#[92, 92]⟩)) (t2 : w.cell? ⟨G, 2, none⟩ = some (.string ⟨#[34]⟩)) (t3 : w.cell? ⟨G, 3, none⟩ = some (.string ⟨#[92, 34]⟩)) :
    Calls Tryz.prog 111 #[.pointer (some ⟨b, 0, none⟩)] w fun e w' => ∃ w1 X f T c, e = .returned (.tuple #[]) ∧ w.heap.size ≤ X ∧ RepAt w1 X f T c ∧ Below w.heap.size w w1 ∧
      w' = (w1.setCell ⟨b, 3, none⟩ (.iface 226 (.pointer (some ⟨X, 0, none⟩)))).setCell ⟨b, 4, none⟩ (.slice none 0 0) := by
  have K := Lib.hid (repl_build b G C w h4 t0 t1 t2 t3)
  have H3 := Lib.hid h3
  have H4 := Lib.hid h4
  have Z3 := Lib.hid z3
  have Z4 := Lib.hid z4
  have hb3 := block_lt_of_cell h3
  clear h3 h4 z3 z4 t0 t1 t2 t3
  go_enter Tryz.func111, Tryz.ntmps111
  go_wp2_with fail
  refine (K.out).mono ?_
  rintro e w1 ⟨X, f, T, c, rfl, hX, R, b1⟩
  have R1 := Lib.hid R
  have B1 := Lib.hid b1
  have c3 := cell_keep b1 H3.out
  have c4 := cell_keep b1 H4.out
  have y3 := (bcell b1).2 b 3 hb3
  have y4 := (bcell b1).2 b 4 hb3
  rw [Z3.out] at y3
  rw [Z4.out] at y4
  clear R b1 K
  go_wp2_with fail
  go_end0
  exact ⟨w1, X, f, T, c, rfl, hX, R1.out, B1.out, rfl⟩
end Go.Proofs.YtbjbimabgfpdoaaGreatDoor
