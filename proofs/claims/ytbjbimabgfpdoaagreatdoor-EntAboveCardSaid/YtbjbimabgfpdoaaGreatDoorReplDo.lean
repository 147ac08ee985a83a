/-
  sync.Once's Do at a replacer that has not been built; the replacer that NewReplacer makes.
-/
import Derived.Test.YtbjbimabgfpdoaaGreatDoorRepl
namespace Go.Proofs.YtbjbimabgfpdoaaGreatDoor
open Go.RowKit Go.Wk
set_option maxRecDepth 100000

/-- A replacer that has not been built. -/
structure NewRep (w : World) (b G C : Nat) : Prop where
  c0 : w.cell? ⟨b, 0, none⟩ = some (.int .u32 0)
  c1 : w.cell? ⟨b, 1, none⟩ = some (.int .i32 0)
  c3 : w.cell? ⟨b, 3, none⟩ = some .nilIface
  c4 : w.cell? ⟨b, 4, none⟩ = some (.slice (some ⟨G, 0, none⟩) 4 C)
  z : ∀ k, w.frozen? ⟨b, k, none⟩ = false
  t0 : w.cell? ⟨G, 0, none⟩ = some (.string ⟨#[92]⟩)
  t1 : w.cell? ⟨G, 1, none⟩ = some (.string ⟨#[92, 92]⟩)
  t2 : w.cell? ⟨G, 2, none⟩ = some (.string ⟨#[34]⟩)
  t3 : w.cell? ⟨G, 3, none⟩ = some (.string ⟨#[92, 34]⟩)

theorem RepAt.other {w : World} {X : Nat} {f : Nat → Value} {T c b : Nat} {n : Int} (h : RepAt w X f T c) (hb : w.cell? ⟨b, 0, none⟩ = some (.int .u32 n)) (k : Nat) (u : Value) : RepAt (w.setCell ⟨b, k, none⟩ u) X f T c := by
  have ne : ∀ (Y : Nat) (v : Value), w.cell? ⟨Y, 0, none⟩ = some v → v ≠ .int .u32 n → ∀ j, (w.setCell ⟨b, k, none⟩ u).cell? ⟨Y, j, none⟩ = w.cell? ⟨Y, j, none⟩ := fun Y v hv hn j =>
    World.cell?_setCell_other _ ⟨b, k, none⟩ ⟨Y, j, none⟩ _ (by
      intro e; injection e with e; subst e
      rw [hb] at hv; injection hv with hv; exact hn hv.symm)
  have eX := ne X _ (h.tab.at_ 0 (by decide)) (by rw [h.o 0 (by decide) (by decide)]; simp)
  have eT := ne T _ h.t0 (by simp)
  refine ⟨⟨fun j hj => (eX j).trans (h.tab.at_ j hj), (eX 256).trans h.tab.last, fun j hj => by rw [World.frozen?_setCell]; exact h.tab.thaw j hj⟩, (eT 0).trans h.t0, (eT 1).trans h.t1, ?_, ?_, h.o⟩
  · obtain ⟨P, d, h1, h2, h3⟩ := h.q
    have e := ne P _ h2 (by simp)
    exact ⟨P, d, h1, (e 0).trans h2, (e 1).trans h3⟩
  · obtain ⟨P, d, h1, h2, h3⟩ := h.s
    have e := ne P _ h2 (by simp)
    exact ⟨P, d, h1, (e 0).trans h2, (e 1).trans h3⟩
set_option maxHeartbeats 2000000 in
theorem repl_slow (b G C : Nat) (w : World) (h : NewRep w b G C) (hbG : b ≠ G) :
    Calls Tryz.prog 122 #[.pointer (some ⟨b, 0, none⟩), .func (.func 111) #[.pointer (some ⟨b, 0, none⟩)] #[]] w fun e w' => ∃ X f T c, e = .returned (.tuple #[]) ∧ w.heap.size ≤ X ∧ RepAt w' X f T c ∧
      w'.cell? ⟨b, 3, none⟩ = some (.iface 226 (.pointer (some ⟨X, 0, none⟩))) ∧ w.grownBy w' (some b) := by
  have oth : ∀ (u : World) (i k : Nat) (v : Value), i ≠ k → (u.setCell ⟨b, i, none⟩ v).cell? ⟨b, k, none⟩ = u.cell? ⟨b, k, none⟩ := fun u i k v hik => World.cell?_setCell_other _ ⟨b, i, none⟩ ⟨b, k, none⟩ _ (by intro e; injection e with _ e; exact hik e)
  have othG : ∀ (u : World) (i k : Nat) (v : Value), (u.setCell ⟨b, i, none⟩ v).cell? ⟨G, k, none⟩ = u.cell? ⟨G, k, none⟩ := fun u i k v => World.cell?_setCell_other _ ⟨b, i, none⟩ ⟨G, k, none⟩ _ (by intro e; injection e with e; exact hbG e)
  have hl := run_call_load (P := Tryz.prog) Tryz.func134 (by kernel_rfl) (by kernel_rfl) (by kernel_rfl) .u32 (by kernel_rfl) (w := w.setCell ⟨b, 1, none⟩ (.int .i32 1)) (a := ⟨b, 0, none⟩) (x := 0) ((oth _ _ _ _ (by decide)).trans h.c0)
  have hnot : ∀ (x : Bool) (w : World), (Op.unary .not (.bool x)).run Tryz.prog w = .ok (.bool (!x)) w := fun _ _ => rfl
  have OTH := Lib.hid oth
  have KB := Lib.hid (repl_buildOnce b G C (w.setCell ⟨b, 1, none⟩ (.int .i32 1)) ((oth _ _ _ _ (by decide)).trans h.c3) (by simp [h.z]) (by simp [h.z]) ((oth _ _ _ _ (by decide)).trans h.c4) ((othG _ _ _ _).trans h.t0) ((othG _ _ _ _).trans h.t1) ((othG _ _ _ _).trans h.t2) ((othG _ _ _ _).trans h.t3))
  have K := Lib.hid (lock_free ⟨b, 1, none⟩ w h.c1 (h.z 1))
  have H := Lib.hid h
  clear h oth othG
  go_enter_defers Tryz.func122, Tryz.ntmps122
  go_wp2_with fail
  refine (K.out).mono ?_
  rintro e w1 ⟨rfl, rfl⟩
  clear K
  go_wp2_with (first | (go_at_call 111; refine (KB.out).mono ?_; rintro e w2 ⟨w1, X, f, T, c, rfl, hX, R, hb, rfl⟩) | (go_at_call 121; go_in))
  have hbl := block_lt_of_cell H.out.c0
  have q0 : w1.cell? ⟨b, 0, none⟩ = some (.int .u32 0) := cell_keep hb ((OTH.out _ _ _ _ (by decide)).trans H.out.c0)
  have q1 : w1.cell? ⟨b, 1, none⟩ = some (.int .i32 1) := cell_keep hb (World.cell?_setCell_same w ⟨b, 1, none⟩ _ H.out.c1)
  have q3 : w1.cell? ⟨b, 3, none⟩ = some .nilIface := cell_keep hb ((OTH.out _ _ _ _ (by decide)).trans H.out.c3)
  have qz : ∀ k, w1.frozen? ⟨b, k, none⟩ = false := fun k => ((bcell hb).2 b k (by simpa [World.setCell] using hbl)).trans (by simp [H.out.z])
  have R1 := R.other q0 3 (.iface 226 (.pointer (some ⟨X, 0, none⟩)))
  have p0 := (OTH.out w1 3 0 (.iface 226 (.pointer (some ⟨X, 0, none⟩))) (by decide)).trans q0
  have p1 := (OTH.out w1 3 1 (.iface 226 (.pointer (some ⟨X, 0, none⟩))) (by decide)).trans q1
  have p3 := World.cell?_setCell_same w1 ⟨b, 3, none⟩ (.iface 226 (.pointer (some ⟨X, 0, none⟩))) q3
  have pz : ∀ k, (w1.setCell ⟨b, 3, none⟩ (.iface 226 (.pointer (some ⟨X, 0, none⟩)))).frozen? ⟨b, k, none⟩ = false := fun k => by rw [World.frozen?_setCell]; exact qz k
  have G1 := ((grown_setCell w ⟨b, 1, none⟩ (.int .i32 1)).trans (grown_of_below hb (some b))).trans (grown_setCell w1 ⟨b, 3, none⟩ (.iface 226 (.pointer (some ⟨X, 0, none⟩))))
  generalize w1.setCell ⟨b, 3, none⟩ (.iface 226 (.pointer (some ⟨X, 0, none⟩))) = w3 at *
  have R2 := R1.other p0 4 (.slice none 0 0)
  have s0 := (OTH.out w3 4 0 (.slice none 0 0) (by decide)).trans p0
  have s1 := (OTH.out w3 4 1 (.slice none 0 0) (by decide)).trans p1
  have s3 := (OTH.out w3 4 3 (.slice none 0 0) (by decide)).trans p3
  have sz : ∀ k, (w3.setCell ⟨b, 4, none⟩ (.slice none 0 0)).frozen? ⟨b, k, none⟩ = false := fun k => by rw [World.frozen?_setCell]; exact pz k
  have G2 := G1.trans (grown_setCell w3 ⟨b, 4, none⟩ (.slice none 0 0))
  generalize w3.setCell ⟨b, 4, none⟩ (.slice none 0 0) = w4 at *
  refine leaves_cons (f := 137) (args := #[.pointer (some ⟨b, 0, none⟩), .bool true]) (by simp) (by simp [go_sem]) ?_
  refine (store_deferred ⟨b, 0, none⟩ (.int .u32 0) .returning _ s0 (sz 0)).mono ?_
  rintro e u' w'' ⟨rfl, rfl, rfl⟩
  have R3 := (R2.keep ((Below.refl _ _).drew)).other (b := b) (n := 0) (by rw [World.cell?_drew]; exact s0) 0 (.int .u32 1)
  have v0 := World.cell?_setCell_same w4.drew ⟨b, 0, none⟩ (.int .u32 1) (by rw [World.cell?_drew]; exact s0)
  have v1 := (OTH.out w4.drew 0 1 (.int .u32 1) (by decide)).trans s1
  have v3 := (OTH.out w4.drew 0 3 (.int .u32 1) (by decide)).trans s3
  have vz : ∀ k, (w4.drew.setCell ⟨b, 0, none⟩ (.int .u32 1)).frozen? ⟨b, k, none⟩ = false := fun k => by rw [World.frozen?_setCell, World.frozen?_drew]; exact sz k
  have G3 := (G2.trans (grown_of_below ((Below.refl w4.heap.size w4).drew) (some b))).trans (grown_setCell w4.drew ⟨b, 0, none⟩ (.int .u32 1))
  generalize w4.drew.setCell ⟨b, 0, none⟩ (.int .u32 1) = w5 at *
  refine leaves_cons (f := 136) (args := #[.pointer (some ⟨b, 1, none⟩)]) (by simp [settle]) (by simp [go_sem]) ?_
  refine (unlock_deferred ⟨b, 1, none⟩ _ _ v1 (vz 1)).mono ?_
  rintro e u' w'' ⟨rfl, rfl, rfl⟩
  have R4 := R3.other v0 1 (.int .i32 0)
  have y3 := (OTH.out w5 1 3 (.int .i32 0) (by decide)).trans v3
  have G4 := G3.trans (grown_setCell w5 ⟨b, 1, none⟩ (.int .i32 0))
  simp [Leaves, settle, results, Tryz.results122]
  exact ⟨X, by simpa [World.setCell] using hX, ⟨f, T, c, R4⟩, y3, G4⟩
set_option maxHeartbeats 1000000 in
theorem repl_do (b G C : Nat) (w : World) (h : NewRep w b G C) (hbG : b ≠ G) :
    Calls Tryz.prog 110 #[.pointer (some ⟨b, 0, none⟩), .func (.func 111) #[.pointer (some ⟨b, 0, none⟩)] #[]] w fun e w' => ∃ X f T c, e = .returned (.tuple #[]) ∧ w.heap.size ≤ X ∧ RepAt w' X f T c ∧
      w'.cell? ⟨b, 3, none⟩ = some (.iface 226 (.pointer (some ⟨X, 0, none⟩))) ∧ w.grownBy w' (some b) := by
  have hl := run_call_load (P := Tryz.prog) Tryz.func134 (by kernel_rfl) (by kernel_rfl) (by kernel_rfl) .u32 (by kernel_rfl) h.c0
  have hnot : ∀ (x : Bool) (w : World), (Op.unary .not (.bool x)).run Tryz.prog w = .ok (.bool (!x)) w := fun _ _ => rfl
  have KS := Lib.hid (repl_slow b G C w h hbG)
  clear h
  go_enter Tryz.func110, Tryz.ntmps110
  go_wp2_with (first | (go_at_call 122; refine (KS.out).mono ?_; rintro e w1 ⟨X, f, T, c, rfl, hX, R, h3, hg⟩) | (go_at_call 121; go_in))
  go_end0
  exact ⟨X, f, T, c, rfl, hX, R, h3, hg⟩

set_option maxHeartbeats 1000000 in
/-- NewReplacer at the four texts. -/
theorem repl_new (g : Nat) (w : World) (t0 : w.cell? ⟨g, 0, none⟩ = some (.string ⟨#[92]⟩)) (t1 : w.cell? ⟨g, 1, none⟩ = some (.string ⟨#[92, 92]⟩)) (t2 : w.cell? ⟨g, 2, none⟩ = some (.string ⟨#[34]⟩)) (t3 : w.cell? ⟨g, 3, none⟩ = some (.string ⟨#[92, 34]⟩)) :
    Calls Tryz.prog 81 #[.slice (some ⟨g, 0, none⟩) 4 4] w fun e w' => ∃ b G C, e = .returned (.pointer (some ⟨b, 0, none⟩)) ∧ NewRep w' b G C ∧ b ≠ G ∧ w.heap.size ≤ b ∧ Below w.heap.size w w' := by
  obtain ⟨j0, hj, jz0, jz1, jz2⟩ := info_parts txInfo
  go_enter Tryz.func81, Tryz.ntmps81
  go_wp2_with fail
  go_ret
  generalize (Question.appendCap 4 0 9).cut (w.tape w.drawn (Question.appendCap 4 0 9)) = C
  have hs : ∀ (k : Nat) (v : Value), [Value.string ⟨#[92]⟩, .string ⟨#[92, 92]⟩, .string ⟨#[34]⟩, .string ⟨#[92, 34]⟩][k]? = some v → ∀ (o : Obj), ((w.alloc (.cells (#[.string ⟨#[92]⟩, .string ⟨#[92, 92]⟩, .string ⟨#[34]⟩, .string ⟨#[92, 34]⟩] ++ Builtin.zeroCells #[.string ⟨#[]⟩] (C - 4)) 9)).alloc o).drew.cell? ⟨w.heap.size, k, none⟩ = some v := fun k v hk o => by
    rw [World.cell?_drew]
    refine cell_keep (below_box _ o) (cell_row (heap_alloc_last w _) ?_)
    rw [Array.getElem?_append, if_pos (by have := (List.getElem?_eq_some_iff.1 hk).1; simpa using this)]
    simpa using hk
  refine ⟨w.heap.size + 1, w.heap.size, C, rfl, ?_, by omega, by omega, (((Below.refl _ _).alloc (Nat.le_refl _) _).alloc (by simp) _).drew⟩
  have hn : ∀ (k : Nat) (v : Value), [Value.int .u32 0, .int .i32 0, .int .u32 0, .nilIface, .slice (some ⟨w.heap.size, 0, none⟩) 4 C][k]? = some v → ((w.alloc (.cells (#[.string ⟨#[92]⟩, .string ⟨#[92, 92]⟩, .string ⟨#[34]⟩, .string ⟨#[92, 34]⟩] ++ Builtin.zeroCells #[.string ⟨#[]⟩] (C - 4)) 9)).alloc (.cells #[.int .u32 0, .int .i32 0, .int .u32 0, .nilIface, .slice (some ⟨w.heap.size, 0, none⟩) 4 C] 191)).drew.cell? ⟨w.heap.size + 1, k, none⟩ = some v := fun k v hk => by
    rw [World.cell?_drew]
    have := cell_row (heap_alloc_last (w.alloc (.cells (#[.string ⟨#[92]⟩, .string ⟨#[92, 92]⟩, .string ⟨#[34]⟩, .string ⟨#[92, 34]⟩] ++ Builtin.zeroCells #[.string ⟨#[]⟩] (C - 4)) 9)) (.cells #[.int .u32 0, .int .i32 0, .int .u32 0, .nilIface, .slice (some ⟨w.heap.size, 0, none⟩) 4 C] 191)) (k := k) (u := v) (by simpa using hk)
    simpa using this
  exact ⟨hn 0 _ rfl, hn 1 _ rfl, hn 3 _ rfl, hn 4 _ rfl, fun k => by simp, hs 0 _ rfl _, hs 1 _ rfl _, hs 2 _ rfl _, hs 3 _ rfl _⟩
end Go.Proofs.YtbjbimabgfpdoaaGreatDoor
