/-
  eval.Value: the value of an expression, or what is wrong.
  The laws' op: a node ahead of the nodes of its parts; what is the same.
  What the laws of evaluation ask for first: two and three are five; the laws' small functions.
  ref AskFault: what is wrong with a request.
  Slices of uids that come in.
  From the condition on the one listed variable (errors.errorType) to the walk's fact on its cell; a world that meets it.
  What all laws of evaluation stand on.
-/
import Derived.ChangeSame
import Derived.ChangeVars
import Derived.JoinedOf
import Derived.LaidLaws
import Derived.LaidHandle
import Derived.Stop.Joined
import Derived.Test.YtcdpoamiejompaaGreatDoorQe31
namespace Go.Proofs.YtcdpoamiejompaaGreatDoor
open Go.RowKit Go.Wk Go.Sort
set_option maxRecDepth 100000

/-- What Value tells. -/
def ValPost (w : World) (r : Res) (e : Ending) (w' : World) : Prop := ∃ A n c, e = .returned (.tuple #[.slice A n c, errV (valE r)]) ∧ Ns w' A n c (valV r) ∧ Below w.heap.size w w'
theorem val_bad {w w' : World} {k : Int} (hb : Below w.heap.size w w') : ValPost w (.error k) (.returned (.tuple #[.slice none 0 0, errV k])) w' := ⟨none, 0, 0, rfl, ns_nil w', hb⟩
/-- What lies there when Value begins: the request, the value and the error that are told. -/
def valW (w : World) (q : Rq) : World := ((w.alloc (.cells #[.string q.who.1, .string q.who.2, .string q.act.1, .string q.act.2, .string q.what.1, .string q.what.2, .slice q.NA q.nn q.nc] 27)).alloc (.cells #[.slice none 0 0] 25)).alloc (.cells #[.nilIface] 30)
structure Vw (w : World) (s : Nat) (q : Rq) : Prop where
  vq : Vq w s q
  cv : w.cell? ⟨s + 1, 0, none⟩ = some (.slice none 0 0)
  ce : w.cell? ⟨s + 1 + 1, 0, none⟩ = some .nilIface
  zv : w.frozen? ⟨s + 1, 0, none⟩ = false
  ze : w.frozen? ⟨s + 1 + 1, 0, none⟩ = false
theorem Vw.keep {w w' : World} {s : Nat} {q : Rq} (h : Vw w s q) (hb : Below w.heap.size w w') : Vw w' s q :=
  ⟨h.vq.keep hb, cell_keep hb h.cv, cell_keep hb h.ce, (hb.frozen (p := ⟨s + 1, 0, none⟩) (block_lt_of_cell h.cv)).trans h.zv, (hb.frozen (p := ⟨s + 1 + 1, 0, none⟩) (block_lt_of_cell h.ce)).trans h.ze⟩
theorem valW_below (w : World) (q : Rq) : Below w.heap.size w (valW w q) :=
  (below_box w _).trans (((below_box _ _).mono (by simp)).trans ((below_box _ _).mono (by simp; omega)))
theorem valW_new (w : World) (q : Rq) : Vw (valW w q) w.heap.size q := by
  have h1 := vq_new w q 27
  have h2 := (h1.keep (below_box _ (.cells #[.slice none 0 0] 25))).keep (below_box _ (.cells #[.nilIface] 30))
  refine ⟨h2, ?_, ?_, ?_, ?_⟩
  · have := cell_keep (below_box _ (.cells #[.nilIface] 30)) (cell_row (heap_alloc_last (w.alloc (.cells #[.string q.who.1, .string q.who.2, .string q.act.1, .string q.act.2, .string q.what.1, .string q.what.2, .slice q.NA q.nn q.nc] 27)) (.cells #[.slice none 0 0] 25)) (k := 0) (u := .slice none 0 0) rfl)
    rw [World.size_alloc] at this
    exact this
  · have := cell_row (heap_alloc_last ((w.alloc (.cells #[.string q.who.1, .string q.who.2, .string q.act.1, .string q.act.2, .string q.what.1, .string q.what.2, .slice q.NA q.nn q.nc] 27)).alloc (.cells #[.slice none 0 0] 25)) (.cells #[.nilIface] 30)) (k := 0) (u := .nilIface) rfl
    rw [World.size_alloc, World.size_alloc] at this
    exact this
  · have ha : (w.alloc (.cells #[.string q.who.1, .string q.who.2, .string q.act.1, .string q.act.2, .string q.what.1, .string q.what.2, .slice q.NA q.nn q.nc] 27)).heap.size = w.heap.size + 1 := by simp
    exact ((below_box _ _).frozen (p := ⟨w.heap.size + 1, 0, none⟩) (by simp)).trans (World.frozen?_alloc_at _ _ _ _ ha.symm)
  · have ha : ((w.alloc (.cells #[.string q.who.1, .string q.who.2, .string q.act.1, .string q.act.2, .string q.what.1, .string q.what.2, .slice q.NA q.nn q.nc] 27)).alloc (.cells #[.slice none 0 0] 25)).heap.size = w.heap.size + 1 + 1 := by simp
    exact World.frozen?_alloc_at _ _ _ _ ha.symm
/-- What is told when the value and the error are laid. -/
theorem put_two {w : World} {s : Nat} {q : Rq} (h : Vw w s q) (x y : Value) : ((w.setCell ⟨s + 1, 0, none⟩ x).setCell ⟨s + 1 + 1, 0, none⟩ y).cell? ⟨s + 1, 0, none⟩ = some x ∧ ((w.setCell ⟨s + 1, 0, none⟩ x).setCell ⟨s + 1 + 1, 0, none⟩ y).cell? ⟨s + 1 + 1, 0, none⟩ = some y :=
  ⟨(World.cell?_setCell_other _ _ _ _ (by intro e; injection e with e; omega)).trans (World.cell?_setCell_same w _ _ h.cv), World.cell?_setCell_same _ _ _ ((World.cell?_setCell_other w _ _ _ (by intro e; injection e with e; omega)).trans h.ce)⟩
set_option maxHeartbeats 4000000 in
theorem value_bad (EA : Option Addr) (en ec : Nat) (E : List En) (q : Rq) (A : Option Addr) (n c : Nat) (P : List Nd) (w : World) (hE : Es w EA en ec E) (hq : RqOk w q) (hP : Ns w A n c P) (hu : upF ⟨E, q.who, q.act, q.what, q.P⟩ P ≠ 0) :
    Calls Tryz.prog 12 #[.slice EA en ec, q.v, .slice A n c] w (ValPost w (valueX ⟨E, q.who, q.act, q.what, q.P⟩ P)) := by
  have C1 := Lib.hid (fun w' (hb : Below w.heap.size w w') => ent_Check EA en ec E w' (hE.keep hb))
  have C2 := Lib.hid (fun w' (hb : Below w.heap.size w w') => eval_Ask q w' (hq.keep hb))
  have C3 := Lib.hid (fun w' (hb : Below w.heap.size w w') => tree_Check A n c P w' (hP.keep hb))
  have HR := Lib.hid (show valueX ⟨E, q.who, q.act, q.what, q.P⟩ P = .error (upF ⟨E, q.who, q.act, q.what, q.P⟩ P) by unfold valueX; rw [if_neg hu])
  have HU := Lib.hid (show upF ⟨E, q.who, q.act, q.what, q.P⟩ P = or2 (storeF E) (or2 (askF q.who q.act q.what q.P) (exFault P)) from rfl)
  have HN := Lib.hid hu
  rw [HR.out]
  unfold Rq.v at C2 ⊢
  generalize upF ⟨E, q.who, q.act, q.what, q.P⟩ P = U at *
  generalize storeF E = f1 at *
  generalize askF q.who q.act q.what q.P = f2 at *
  generalize exFault P = f3 at *
  have B0 := Lib.hid (valW_below w q)
  have V0 := Lib.hid (valW_new w q)
  unfold valW at B0 V0
  clear hE hq hP hu
  go_enter_defers Tryz.func12, Tryz.ntmps12
  go_wp2_with fail
  refine (C1.out _ B0.out).mono ?_
  rintro e w1 ⟨rfl, b1⟩
  have B1 := bh B0 b1
  have V1 := Lib.hid (V0.out.keep b1)
  clear b1 B0 V0 C1
  by_cases q1 : f1 = 0
  case neg =>
    have hU : U = f1 := by rw [HU.out, or2_ne q1]
    clear HU HN HR C2 C3
    have HEV := Lib.hid (errV_ne q1)
    rw [HEV.out]
    obtain ⟨-, cv, ce, zv, ze⟩ := V1.out
    have hl1 := block_lt_of_cell cv
    have hl2 := block_lt_of_cell ce
    obtain ⟨p1, p2⟩ := put_two V1.out (.slice none 0 0) (.iface 39 (.int .i64 f1))
    have BB := Lib.hid ((B1.out.setCell (p := ⟨w.heap.size + 1, 0, none⟩) (Nat.le_succ _) (.slice none 0 0)).setCell (p := ⟨w.heap.size + 1 + 1, 0, none⟩) (Nat.le_succ_of_le (Nat.le_succ _)) (.iface 39 (.int .i64 f1)))
    have HT := Lib.hid (val_bad (k := f1) BB.out)
    rw [HEV.out] at HT
    go_wp2_with fail
    simp [bodyPostD, Leaves, results, Tryz.results12, go_sem, cv, ce]
    rw [hU]
    exact HT.out
  rw [q1, errV_zero]
  obtain ⟨⟨c0, c1, c2, c3, c4, c5, c6⟩, -, -, -, -⟩ := V1.out
  go_wp2_with fail
  refine (C2.out _ B1.out).mono ?_
  rintro e w2 ⟨rfl, b2⟩
  have B2 := bh B1 b2
  have V2 := Lib.hid (V1.out.keep b2)
  clear b2 B1 V1 C2 c0 c1 c2 c3 c4 c5 c6
  by_cases q2 : f2 = 0
  case neg =>
    have hU : U = f2 := by rw [HU.out, q1, or2_zero, or2_ne q2]
    clear HU HN HR C3
    have HEV := Lib.hid (errV_ne q2)
    rw [HEV.out]
    obtain ⟨-, cv, ce, zv, ze⟩ := V2.out
    have hl1 := block_lt_of_cell cv
    have hl2 := block_lt_of_cell ce
    obtain ⟨p1, p2⟩ := put_two V2.out (.slice none 0 0) (.iface 39 (.int .i64 f2))
    have BB := Lib.hid ((B2.out.setCell (p := ⟨w.heap.size + 1, 0, none⟩) (Nat.le_succ _) (.slice none 0 0)).setCell (p := ⟨w.heap.size + 1 + 1, 0, none⟩) (Nat.le_succ_of_le (Nat.le_succ _)) (.iface 39 (.int .i64 f2)))
    have HT := Lib.hid (val_bad (k := f2) BB.out)
    rw [HEV.out] at HT
    go_wp2_with fail
    simp [bodyPostD, Leaves, results, Tryz.results12, go_sem, cv, ce]
    rw [hU]
    exact HT.out
  rw [q2, errV_zero]
  go_wp2_with fail
  refine (C3.out _ B2.out).mono ?_
  rintro e w3 ⟨rfl, b3⟩
  have B3 := bh B2 b3
  have V3 := Lib.hid (V2.out.keep b3)
  clear b3 B2 V2 C3
  have hU : U = f3 := by rw [HU.out, q1, or2_zero, q2, or2_zero]
  have q3 : f3 ≠ 0 := fun q => HN.out (hU.trans q)
  clear HU HN HR
  have HEV := Lib.hid (errV_ne q3)
  rw [HEV.out]
  obtain ⟨-, cv, ce, zv, ze⟩ := V3.out
  have hl1 := block_lt_of_cell cv
  have hl2 := block_lt_of_cell ce
  obtain ⟨p1, p2⟩ := put_two V3.out (.slice none 0 0) (.iface 39 (.int .i64 f3))
  have BB := Lib.hid ((B3.out.setCell (p := ⟨w.heap.size + 1, 0, none⟩) (Nat.le_succ _) (.slice none 0 0)).setCell (p := ⟨w.heap.size + 1 + 1, 0, none⟩) (Nat.le_succ_of_le (Nat.le_succ _)) (.iface 39 (.int .i64 f3)))
  have HT := Lib.hid (val_bad (k := f3) BB.out)
  rw [HEV.out] at HT
  go_wp2_with fail
  simp [bodyPostD, Leaves, results, Tryz.results12, go_sem, cv, ce]
  rw [hU]
  exact HT.out
set_option maxHeartbeats 4000000 in
theorem value_run (EA : Option Addr) (en ec : Nat) (E : List En) (q : Rq) (A : Option Addr) (n c : Nat) (P : List Nd) (w : World) (hE : Es w EA en ec E) (hq : RqOk w q) (hP : Ns w A n c P) (hd : Door w) (hu : upF ⟨E, q.who, q.act, q.what, q.P⟩ P = 0) :
    Calls Tryz.prog 12 #[.slice EA en ec, q.v, .slice A n c] w (ValPost w (valueX ⟨E, q.who, q.act, q.what, q.P⟩ P)) := by
  obtain ⟨hok, h200, x, hx, hPx⟩ := upF_zero hu
  have h1 : storeF E = 0 := hok.e
  have h2 : askF q.who q.act q.what q.P = 0 := by
    unfold upF at hu
    exact (or2_zero_iff.1 (or2_zero_iff.1 hu).2).1
  have h3 : exFault P = 0 := exFault_zero.2 ⟨h200, x, hx, hPx⟩
  have C1 := Lib.hid (fun w' (hb : Below w.heap.size w w') => ent_Check EA en ec E w' (hE.keep hb))
  rw [h1, errV_zero] at C1
  have C2 := Lib.hid (fun w' (hb : Below w.heap.size w w') => eval_Ask q w' (hq.keep hb))
  rw [h2, errV_zero] at C2
  have C3 := Lib.hid (fun w' (hb : Below w.heap.size w w') => tree_Check A n c P w' (hP.keep hb))
  rw [h3, errV_zero] at C3
  have HCX := Lib.hid (fun w' (hb : Below w.heap.size w w') => (⟨hE.keep hb, hq.keep hb, hP.keep hb, hd.keep hb, hok⟩ : CxOk w' ⟨EA, en, ec, E, q, A, n, c, P⟩))
  have HV := Lib.hid (show valueX ⟨E, q.who, q.act, q.what, q.P⟩ P = evX ⟨E, q.who, q.act, q.what, q.P⟩ x from valueX_at hu hx hPx)
  have HOK := Lib.hid (fun V (h : evX ⟨E, q.who, q.act, q.what, q.P⟩ x = .ok V) => evX_ok hok x false hx V h)
  have HXA := Lib.hid (show XAt P 0 false x by rw [hPx]; exact XAt.all hx)
  have HLX := Lib.hid (show x.flat.length ≤ P.length from Nat.le_of_eq (by rw [hPx]))
  have NX := Lib.hid (fun (W : World) (R : Nat) => eval_next (W := W) (R := R) (k := ⟨EA, en, ec, E, q, A, n, c, P⟩) h200 P.length)
  have B0 := Lib.hid (valW_below w q)
  have V0 := Lib.hid (valW_new w q)
  have hmf : ∀ (fn : Fn) (first cap : Array Value) (w : World), (Instr.makeFunc fn first cap).run Tryz.prog w = .ok (.func fn first cap) w := fun _ _ _ _ => rfl
  unfold valW at B0 V0
  unfold Rq.v at C2 ⊢
  rw [HV.out]
  obtain ⟨rr, hrr⟩ : ∃ rr : Res, rr = evX ⟨E, q.who, q.act, q.what, q.P⟩ x := ⟨_, rfl⟩
  rw [← hrr]
  have HRR := Lib.hid hrr
  clear hE hq hP hd hu hok h200 hx hPx h1 h2 h3 hrr
  go_enter_defers Tryz.func12, Tryz.ntmps12
  go_wp2_with fail
  refine (C1.out _ B0.out).mono ?_
  rintro e w1 ⟨rfl, b1⟩
  have B1 := bh B0 b1
  have V1 := Lib.hid (V0.out.keep b1)
  clear b1 B0 V0 C1
  obtain ⟨⟨c0, c1, c2, c3, c4, c5, c6⟩, -, -, -, -⟩ := V1.out
  go_wp2_with fail
  refine (C2.out _ B1.out).mono ?_
  rintro e w2 ⟨rfl, b2⟩
  have B2 := bh B1 b2
  have V2 := Lib.hid (V1.out.keep b2)
  clear b2 B1 V1 C2 c0 c1 c2 c3 c4 c5 c6
  go_wp2_with fail
  refine (C3.out _ B2.out).mono ?_
  rintro e w3 ⟨rfl, b3⟩
  have B3 := bh B2 b3
  have V3 := Lib.hid (V2.out.keep b3)
  clear b3 B2 V2 C3
  obtain ⟨⟨c0, c1, c2, c3, c4, c5, c6⟩, -, -, -, -⟩ := V3.out
  go_wp2_with fail
  have hz := World.size_alloc w3 (.cells #[.slice EA en ec, .string q.who.1, .string q.who.2, .string q.act.1, .string q.act.2, .string q.what.1, .string q.what.2, .slice q.NA q.nn q.nc, .slice A n c, .int .i64 0] 65)
  have E0 : EvAt w3 (w3.alloc (.cells #[.slice EA en ec, .string q.who.1, .string q.who.2, .string q.act.1, .string q.act.2, .string q.what.1, .string q.what.2, .slice q.NA q.nn q.nc, .slice A n c, .int .i64 0] 65)) w3.heap.size ⟨EA, en, ec, E, q, A, n, c, P⟩ ((0 : Nat) : Int) :=
    ⟨below_box w3 _, Nat.le_refl _, HCX.out w3 B3.out, ⟨_, heap_alloc_last w3 _⟩⟩
  have K := Lib.hid (NX.out w3 w3.heap.size x 0 _ E0 HXA.out HLX.out)
  clear E0 c0 c1 c2 c3 c4 c5 c6
  rw [show evX (Cx.env ⟨EA, en, ec, E, q, A, n, c, P⟩) x = rr from HRR.out.symm] at K
  rcases rr with u | V
  · unfold EvPost at K
    refine K.out.mono ?_
    rintro e w4 ⟨g4, rfl⟩
    have b4 : Below w3.heap.size w3 w4 := (below_box w3 _).trans ((below_of_grown g4 (Nat.le_refl _) (by rw [hz]; omega)))
    have V4 := Lib.hid (V3.out.keep b4)
    have B4 := bh B3 b4
    have hu0 : u ≠ 0 := fun z => evX_nz x HXA.out.valid (HRR.out.symm.trans (by rw [z]))
    clear g4 b4 K V3 B3 hz HRR
    obtain ⟨-, cv, ce, zv, ze⟩ := V4.out
    have hl1 := block_lt_of_cell cv
    have hl2 := block_lt_of_cell ce
    go_wp2_with fail
    refine leaves_cons (f := 30) (args := #[.pointer (some ⟨w.heap.size + 1, 0, none⟩), .pointer (some ⟨w.heap.size + 1 + 1, 0, none⟩)]) (by simp) (by simp [go_sem]) ?_
    refine (value_caught (w.heap.size + 1) (w.heap.size + 1 + 1) u _ _ [] w4 cv zv ce ze (by omega)).mono ?_
    rintro e u' w5 ⟨rfl, rfl, rfl⟩
    obtain ⟨p1, p2⟩ := put_two V4.out (.slice none 0 0) (.iface 39 (.int .i64 u))
    have BB := (B4.out.setCell (p := ⟨w.heap.size + 1, 0, none⟩) (Nat.le_succ _) (.slice none 0 0)).setCell (p := ⟨w.heap.size + 1 + 1, 0, none⟩) (Nat.le_succ_of_le (Nat.le_succ _)) (.iface 39 (.int .i64 u))
    have HT := val_bad (k := u) BB
    rw [errV_ne hu0] at HT
    simp [Leaves, settle, results, Tryz.results12, go_sem, p1, p2]
    exact HT
  · unfold EvPost at K
    have vV := HOK.out V HRR.out.symm
    have pV := valFault_pos vV
    have lV := (isV_zero.1 vV).1
    refine K.out.mono ?_
    rintro e w4 ⟨g4, ⟨A4, n4, c4, rfl, N4, -⟩, -⟩
    have b4 : Below w3.heap.size w3 w4 := (below_box w3 _).trans ((below_of_grown g4 (Nat.le_refl _) (by rw [hz]; omega)))
    have V4 := Lib.hid (V3.out.keep b4)
    have B4 := bh B3 b4
    obtain ⟨a4, rfl, -⟩ := ns_hd N4 pV
    have K2 := Lib.hid (clone_value a4 n4 c4 V w4 N4 (by omega))
    unfold NewNs at K2
    clear g4 b4 K V3 B3 hz HRR N4 vV pV
    go_wp2_with fail
    refine K2.out.mono ?_
    rintro e w5 ⟨A5, c5, rfl, N5, F5, b5⟩
    obtain ⟨vl, hvl⟩ : ∃ vl, vl = V.length := ⟨_, rfl⟩
    rw [← hvl] at N5 lV ⊢
    have V5 := Lib.hid (V4.out.keep b5)
    have B5 := bh B4 b5
    have HN5 := Lib.hid N5
    obtain ⟨-, cv0, ce0, -, -⟩ := V4.out
    have hl3 := block_lt_of_cell cv0
    have hl4 := block_lt_of_cell ce0
    have HF5 := Lib.hid (show ∀ a, A5 = some a → w.heap.size + 1 + 1 < a.block from fun a e => Nat.lt_of_lt_of_le hl4 (F5 a e))
    obtain ⟨-, cv, ce, zv, ze⟩ := V5.out
    have hl1 := block_lt_of_cell cv
    have hl2 := block_lt_of_cell ce
    obtain ⟨p1, p2⟩ := put_two V5.out (.slice A5 vl c5) .nilIface
    have N6 := Lib.hid ((HN5.out.but (grown_setCell w5 ⟨w.heap.size + 1, 0, none⟩ (.slice A5 vl c5)) (fun _ a e => by have := HF5.out a e; show a.block ≠ w.heap.size + 1; omega)).but (grown_setCell _ ⟨w.heap.size + 1 + 1, 0, none⟩ .nilIface) (fun _ a e => by have := HF5.out a e; show a.block ≠ w.heap.size + 1 + 1; omega))
    have BB := Lib.hid ((B5.out.setCell (p := ⟨w.heap.size + 1, 0, none⟩) (Nat.le_succ _) (.slice A5 vl c5)).setCell (p := ⟨w.heap.size + 1 + 1, 0, none⟩) (Nat.le_succ_of_le (Nat.le_succ _)) .nilIface)
    clear b5 N5 F5 V4 B4 K2 cv0 ce0 hl3 hl4 hvl
    go_wp2_with fail
    refine leaves_cons (f := 30) (args := #[.pointer (some ⟨w.heap.size + 1, 0, none⟩), .pointer (some ⟨w.heap.size + 1 + 1, 0, none⟩)]) (by simp) (by simp [go_sem]) ?_
    refine (value_idle ⟨w.heap.size + 1, 0, none⟩ ⟨w.heap.size + 1 + 1, 0, none⟩ _).mono ?_
    rintro e u' w6 ⟨rfl, rfl, rfl⟩
    simp [Leaves, settle, results, Tryz.results12, go_sem, p1, p2]
    exact ⟨A5, vl, c5, rfl, N6.out, BB.out⟩
theorem eval_Value (EA : Option Addr) (en ec : Nat) (E : List En) (q : Rq) (A : Option Addr) (n c : Nat) (P : List Nd) (w : World) (hE : Es w EA en ec E) (hq : RqOk w q) (hP : Ns w A n c P) (hd : Door w) :
    Calls Tryz.prog 12 #[.slice EA en ec, q.v, .slice A n c] w (ValPost w (valueX ⟨E, q.who, q.act, q.what, q.P⟩ P)) := by
  by_cases hu : upF ⟨E, q.who, q.act, q.what, q.P⟩ P = 0
  · exact value_run EA en ec E q A n c P w hE hq hP hd hu
  · exact value_bad EA en ec E q A n c P w hE hq hP hu
end Go.Proofs.YtcdpoamiejompaaGreatDoor
namespace Go.Proofs.YtcdpoamiejompaaGreatDoor
open Go.RowKit Go.Wk Go.Sort
set_option maxRecDepth 100000

def opsP (o : Int) (V : List Sl) (k : Nat) : List Nd := opN o :: ((V.take k).map Sl.P).flatten
theorem opsP_step {o : Int} {V : List Sl} {k : Nat} (h : k < V.length) : opsP o V (k + 1) = opsP o V k ++ V[k].P := by
  unfold opsP
  rw [List.take_succ_eq_append_getElem h, List.map_append, List.flatten_append]
  simp only [List.map_cons, List.map_nil, List.flatten_cons, List.flatten_nil, List.append_nil, List.cons_append]
theorem opsP_all {o : Int} {V : List Sl} {k : Nat} (h : V.length ≤ k) : opsP o V k = opN o :: (V.map Sl.P).flatten := by
  unfold opsP
  rw [List.take_of_length_le h]
theorem opsP_len {o : Int} {V : List Sl} (k : Nat) : (opsP o V k).length ≤ (V.map Sl.P).flatten.length + 1 := by
  unfold opsP
  simp only [List.length_cons, List.length_flatten, List.map_map]
  have : ((V.take k).map (List.length ∘ Sl.P)).sum ≤ (V.map (List.length ∘ Sl.P)).sum := by
    conv => rhs; rw [← List.take_append_drop k V]
    rw [List.map_append, List.sum_append]
    omega
  omega
theorem sls_one (w : World) (r : Sl) (hr : Ns w r.A r.n r.c r.P) (t : TypeId) : SlsAt (w.alloc (.cells #[.slice r.A r.n r.c] t)) (some ⟨w.heap.size, 0, none⟩) [r] := fun k x hx => by
  match k, hx with
  | 0, hx => simp at hx; subst hx; exact ⟨_, rfl, cell_row (heap_alloc_last w _) rfl, hr.keep (below_box w _)⟩
  | k + 1, hx => simp at hx
theorem sls_two (w : World) (r s : Sl) (hr : Ns w r.A r.n r.c r.P) (hs : Ns w s.A s.n s.c s.P) (t : TypeId) : SlsAt (w.alloc (.cells #[.slice r.A r.n r.c, .slice s.A s.n s.c] t)) (some ⟨w.heap.size, 0, none⟩) [r, s] := fun k x hx => by
  match k, hx with
  | 0, hx => simp at hx; subst hx; exact ⟨_, rfl, cell_row (heap_alloc_last w _) rfl, hr.keep (below_box w _)⟩
  | 1, hx => simp at hx; subst hx; exact ⟨_, rfl, cell_row (heap_alloc_last w _) rfl, hs.keep (below_box w _)⟩
  | k + 2, hx => simp at hx
theorem sls_three (w : World) (r s u : Sl) (hr : Ns w r.A r.n r.c r.P) (hs : Ns w s.A s.n s.c s.P) (hu : Ns w u.A u.n u.c u.P) (t : TypeId) : SlsAt (w.alloc (.cells #[.slice r.A r.n r.c, .slice s.A s.n s.c, .slice u.A u.n u.c] t)) (some ⟨w.heap.size, 0, none⟩) [r, s, u] := fun k x hx => by
  match k, hx with
  | 0, hx => simp at hx; subst hx; exact ⟨_, rfl, cell_row (heap_alloc_last w _) rfl, hr.keep (below_box w _)⟩
  | 1, hx => simp at hx; subst hx; exact ⟨_, rfl, cell_row (heap_alloc_last w _) rfl, hs.keep (below_box w _)⟩
  | 2, hx => simp at hx; subst hx; exact ⟨_, rfl, cell_row (heap_alloc_last w _) rfl, hu.keep (below_box w _)⟩
  | k + 3, hx => simp at hx
set_option maxHeartbeats 4000000 in
theorem law_op (o : Int) (A : Option Addr) (n c : Nat) (V : List Sl) (w : World) (hn : n = V.length) (hm : n ≤ 10) (hV : SlsAt w A V) (h0 : ∀ r ∈ V, 0 < r.P.length) (hl : (V.map Sl.P).flatten.length ≤ 1000) :
    Calls Tryz.prog 20 #[.int .i64 o, .slice A n c] w (NewNs w (opN o :: (V.map Sl.P).flatten)) := by
  obtain ⟨i0, hi, hz0, hz1, hz2⟩ := info_parts ndInfo
  have HV := Lib.hid hV
  have HN := Lib.hid hn
  have H0 := Lib.hid h0
  have HL := Lib.hid hl
  have R0 := Lib.hid (row_one w (opN o))
  have HLE := Lib.hid (fun k => Nat.le_trans (opsP_len (o := o) (V := V) k) (Nat.succ_le_succ hl))
  clear hV hn h0 hl
  go_enter Tryz.func20, Tryz.ntmps20
  go_wp2_with fail
  have hnm : n ≤ 10 := hm
  go_loopw [5, 6] (fun v i wr => ∃ k : Nat, k ≤ n ∧ i = .int .i64 k ∧ Hid (wr.ownsRow w.heap.size 42 4 v (opsP o V k).length (ndCells (opsP o V k))) ∧ Hid (Below w.heap.size w wr)) (fun _ i _ => n - (intOf i).toNat)
  case atStart => exact ⟨0, Nat.zero_le _, rfl, R0, below_box _ _⟩
  case round =>
    obtain ⟨k, hk, rfl, hR, hB⟩ := hrel
    have hsz := hB.out.size
    by_cases hlt : k < n
    · have h1 : k < V.length := by rw [← HN.out]; exact hlt
      have HO := Lib.hid (opsP_step (o := o) h1)
      obtain ⟨a, rfl, q, hs⟩ := (HV.out.keep hB.out).at h1
      have hv := H0.out _ (List.getElem_mem h1)
      generalize V[k] = r at *
      obtain ⟨a2, ea, -⟩ := hs.at_.nd hv
      rw [ea] at q
      have HC := Lib.hid (show ∀ j u, (ndCells r.P)[j]? = some u → wr.cell? (a2.add j) = some u from by
        have := hs.at_
        rw [ea] at this
        exact this.cells)
      have HRN := Lib.hid hs.len
      have hol := HLE.out (k + 1)
      rw [HO.out, List.length_append, ← HRN.out] at hol
      clear hs hv ea
      go_wp2_with (at_builtin; refine wpList_append_own _ rfl _ _ 25 rfl w.heap.size 42 i0 _ 4 48 Tryz.underlying25 hi hz0 hz1 hz2 rfl (by decide) _ (opsP o V k).length (ndCells (opsP o V k)) rfl hR.out a2 r.n r.c (ndCells r.P) rfl (by rw [ndCells_length, HRN.out]) HC.out (ndCells_one _) ?c1 ?c2 ?c3 ?_)
      case c1 => unfold maxLen; omega
      case c2 => omega
      case c3 => exact hsz
      intro v1 w5 hown hgrow _
      have B5 := Lib.hid (hB.out.grown hgrow hsz (own_base hR.out))
      rw [HRN.out, ← ndCells_append, ← List.length_append, ← HO.out] at hown
      have OW := Lib.hid hown
      clear hown hgrow hB hR HO HC q
      go_wp2_with fail
      go_roundw
      case rel => exact ⟨k + 1, by omega, by go_num, OW, B5⟩
      case measure => simp [intOf]; omega
    · have HX := Lib.hid (opsP_all (o := o) (V := V) (k := k) (by rw [← HN.out]; omega))
      have hR2 := hR.out
      rw [HX.out] at hR2
      have HL2 := Lib.hid HL.out
      obtain ⟨A5, c5, rfl, hc5, hA5, hF5⟩ := nds_of_own hR2
      have NN := Lib.hid (show Ns wr A5 (opN o :: (V.map Sl.P).flatten).length c5 (opN o :: (V.map Sl.P).flatten) from ⟨rfl, hc5, by have := HL.out; simp only [List.length_cons]; unfold maxLen; omega, hA5, fun x hx => by
        rcases List.mem_cons.1 hx with rfl | hx
        · exact ⟨Nat.zero_le _, Nat.zero_le _, by show _ ≤ (0 : Int); decide, by show (0 : Int) ≤ _; decide⟩
        · exact ndsOk_mem HV.out.nds x hx⟩)
      have HF5 := Lib.hid hF5
      clear hR hR2 hc5 hA5 hF5
      go_wp2_with fail
      go_ret
      exact ⟨A5, c5, rfl, NN.out, HF5.out, hB.out⟩
theorem law_same (A B : Option Addr) (n m c d : Nat) (P Q : List Nd) (e f : Int) (w : World) (h : Ns w A n c P) (k : Ns w B m d Q) (hg : Door w) :
    Calls Tryz.prog 26 #[.slice A n c, errV e, .slice B m d, errV f] w fun r w' => r = .returned (.bool (decide (cmpNds P Q = 0) && e == f)) ∧ Below w.heap.size w w' := by
  have K1 := Lib.hid (h.same k)
  have K2 := Lib.hid (fun w' hb => same_Told e f w' (hg.keep (w' := w') hb))
  generalize decide (cmpNds P Q = 0) = p1 at *
  generalize (e == f) = p2 at *
  generalize errV e = ve at *
  generalize errV f = vf at *
  clear h k hg
  go_enter Tryz.func26, Tryz.ntmps26
  go_wp2_with fail
  refine K1.out.mono ?_
  rintro e w1 ⟨rfl, b1⟩
  have B1 := Lib.hid b1
  clear b1 K1
  go_wp2_with fail
  refine (K2.out _ B1.out).mono ?_
  rintro e w2 ⟨rfl, b2⟩
  have B2 := bh B1 b2
  clear b2 B1 K2
  rcases p1 with _ | _
  · go_wp2_with fail
    go_ret
    exact ⟨rfl, B2.out⟩
  · go_wp2_with fail
    go_ret
    exact ⟨rfl, B2.out⟩
/-- "A". -/
def oneT : ByteArray := ⟨#[0x41]⟩
def oneU : Ud := (oneT, emp)
def recO : List Nd := [⟨6, 0, emp, emp⟩]
theorem law_num (n : Int) (w : World) : Calls Tryz.prog 29 #[.int .i64 n] w fun e w' => e = .returned (.agg #[.int .i64 2, .int .i64 n, .string ⟨#[]⟩, .string ⟨#[]⟩]) ∧ Below w.heap.size w w' := by
  go_enter Tryz.func29, Tryz.ntmps29
  go_wp2_with fail
  exact ⟨rfl, .agg #[.int .i64 2, .int .i64 n, .string ⟨#[]⟩, .string ⟨#[]⟩], by simp [results, Tryz.results29, go_sem], rfl, below_box w _⟩
/-- Nobody's request, and where its context lies. -/
def noRq (b : Nat) : Rq := ⟨oneU, oneU, oneU, some ⟨b, 0, none⟩, 1, 1, recO⟩
set_option maxHeartbeats 1000000 in
theorem law_empty (w : World) : Calls Tryz.prog 28 #[] w fun e w' => ∃ b, e = .returned (noRq b).v ∧ RqOk w' (noRq b) ∧ Below w.heap.size w w' := by
  go_enter Tryz.func28, Tryz.ntmps28
  go_wp2_with fail
  have b1 := below_box w (.cells #[.string ⟨#[65]⟩, .string ⟨#[]⟩, .string ⟨#[65]⟩, .string ⟨#[]⟩, .string ⟨#[65]⟩, .string ⟨#[]⟩, .slice (some ⟨w.heap.size + 1 + 1, 0, none⟩) 1 1] 27)
  have b2 := b1.trans ((below_box (w.alloc (.cells #[.string ⟨#[65]⟩, .string ⟨#[]⟩, .string ⟨#[65]⟩, .string ⟨#[]⟩, .string ⟨#[65]⟩, .string ⟨#[]⟩, .slice (some ⟨w.heap.size + 1 + 1, 0, none⟩) 1 1] 27)) (.cells #[.string ⟨#[65]⟩, .string ⟨#[]⟩] 24)).mono b1.size)
  have hN := nd_lit ((w.alloc (.cells #[.string ⟨#[65]⟩, .string ⟨#[]⟩, .string ⟨#[65]⟩, .string ⟨#[]⟩, .string ⟨#[65]⟩, .string ⟨#[]⟩, .slice (some ⟨w.heap.size + 1 + 1, 0, none⟩) 1 1] 27)).alloc (.cells #[.string ⟨#[65]⟩, .string ⟨#[]⟩] 24)) ⟨6, 0, emp, emp⟩ ⟨Nat.zero_le _, Nat.zero_le _, by decide, by decide⟩
  have hz : ((w.alloc (.cells #[.string ⟨#[65]⟩, .string ⟨#[]⟩, .string ⟨#[65]⟩, .string ⟨#[]⟩, .string ⟨#[65]⟩, .string ⟨#[]⟩, .slice (some ⟨w.heap.size + 1 + 1, 0, none⟩) 1 1] 27)).alloc (.cells #[.string ⟨#[65]⟩, .string ⟨#[]⟩] 24)).heap.size = w.heap.size + 1 + 1 := by simp
  rw [hz] at hN
  have b3 := b2.trans ((below_box ((w.alloc (.cells #[.string ⟨#[65]⟩, .string ⟨#[]⟩, .string ⟨#[65]⟩, .string ⟨#[]⟩, .string ⟨#[65]⟩, .string ⟨#[]⟩, .slice (some ⟨w.heap.size + 1 + 1, 0, none⟩) 1 1] 27)).alloc (.cells #[.string ⟨#[65]⟩, .string ⟨#[]⟩] 24)) (.cells #[.int .i64 6, .int .i64 0, .string ⟨#[]⟩, .string ⟨#[]⟩] 42)).mono b2.size)
  refine ⟨rfl, (noRq (w.heap.size + 1 + 1)).v, by simp [results, Tryz.results28, go_sem, noRq, Rq.v, oneU, oneT, emp], _, rfl, ⟨(show oneT.size ≤ maxLen by decide), (show emp.size ≤ maxLen by decide), (show oneT.size ≤ maxLen by decide), (show emp.size ≤ maxLen by decide), (show oneT.size ≤ maxLen by decide), (show emp.size ≤ maxLen by decide), hN⟩, b3⟩
end Go.Proofs.YtcdpoamiejompaaGreatDoor
namespace Go.Proofs.YtcdpoamiejompaaGreatDoor
open Go.RowKit Go.Wk Go.Sort
set_option maxRecDepth 100000

/-- Nobody's request. -/
def noEnv : Env := ⟨[], oneU, oneU, oneU, recO⟩
def addX : Ex := .node (opN 17) (.cons (.node ⟨2, 2, emp, emp⟩ .nil) (.cons (.node ⟨2, 3, emp, emp⟩ .nil) .nil))
theorem noEnv_up : up0 noEnv = 0 := by
  unfold up0
  have h1 : storeF noEnv.E = 0 := by
    rw [storeF_zero]
    refine ⟨by simp [noEnv], rfl, ?_⟩
    rintro ⟨y, hy, -⟩
    simp [noEnv] at hy
  rw [h1, or2_zero]
  decide
theorem fact_value : valueX noEnv [opN 17, ⟨2, 2, emp, emp⟩, ⟨2, 3, emp, emp⟩] = .ok (intN 5) := by
  have v : addX.valid false := ⟨by decide, by decide, fun e => Bool.noConfusion e, ⟨by decide, by decide, trivial⟩, fun e => Bool.noConfusion e, ⟨by decide, by decide, trivial⟩, trivial⟩
  have e : addX.flat = [opN 17, ⟨2, 2, emp, emp⟩, ⟨2, 3, emp, emp⟩] := rfl
  have h2 : ∀ k : Int, evX noEnv (.node ⟨2, k, emp, emp⟩ .nil) = .ok [⟨2, k, emp, emp⟩] := fun k => by rw [evX, if_pos (show (1 : Int) ≤ 2 ∧ (2 : Int) ≤ 4 by decide)]
  have e9 : (opN 17).op = 17 := rfl
  rw [← e, valueX_ex v (by decide), if_pos noEnv_up]
  unfold addX
  rw [evX, e9, if_neg (by decide), if_neg (by decide), if_neg (by decide), if_neg (by decide), if_neg (by decide)]
  simp only [evS, h2]
  rw [if_neg (by decide)]
  simp only [applyX]
  unfold twoX
  rw [e9, if_neg (by decide), if_neg (by decide), if_neg (by decide), if_neg (by decide), if_neg (by decide), if_pos ⟨rfl, rfl⟩, if_neg (by decide), if_neg (by decide)]
  rfl
theorem lit_ns (w : World) (P : List Nd) (t : TypeId) (h : P.length ≤ 1000) (ho : NdsOk P) : Ns (w.alloc (.cells (ndCells P).toArray t)) (some ⟨w.heap.size, 0, none⟩) P.length P.length P :=
  ⟨rfl, Nat.le_refl _, by unfold maxLen; omega, nds_new w P t, ho⟩
theorem fact_ns (w : World) : Ns (w.alloc (.cells #[.int .i64 17, .int .i64 0, .string ⟨#[]⟩, .string ⟨#[]⟩, .int .i64 2, .int .i64 2, .string ⟨#[]⟩, .string ⟨#[]⟩, .int .i64 2, .int .i64 3, .string ⟨#[]⟩, .string ⟨#[]⟩] 42)) (some ⟨w.heap.size, 0, none⟩) 3 3 [opN 17, ⟨2, 2, emp, emp⟩, ⟨2, 3, emp, emp⟩] :=
  lit_ns w [opN 17, ⟨2, 2, emp, emp⟩, ⟨2, 3, emp, emp⟩] 42 (by decide) (by intro x hx; simp only [List.mem_cons, List.not_mem_nil, or_false] at hx; rcases hx with rfl | rfl | rfl <;> exact ⟨by decide, by decide, by decide, by decide⟩)
theorem none_es (w : World) : Es w none 0 0 [] := ⟨rfl, Nat.le_refl _, Nat.zero_le _, fun k x hx => by simp at hx⟩
set_option maxHeartbeats 4000000 in
theorem law_fact (w : World) (hg : Door w) : Calls Tryz.prog 11 #[] w fun e w' => e = .returned (.bool true) ∧ Below w.heap.size w w' := by
  have HD := Lib.hid hg
  clear hg
  go_enter Tryz.func11, Tryz.ntmps11
  go_wp2_with fail
  refine (law_empty w).mono ?_
  rintro e w1 ⟨b, rfl, hq, b1⟩
  have B1 := Lib.hid b1
  have HQ := Lib.hid hq
  clear b1 hq
  unfold noRq Rq.v
  dsimp only
  go_wp2_with fail
  refine (law_num 2 w1).mono ?_
  rintro e w2 ⟨rfl, b2⟩
  have B2 := bh B1 b2
  have HQ2 := Lib.hid (HQ.out.keep b2)
  clear b2 B1 HQ
  go_wp2_with fail
  refine (law_num 3 w2).mono ?_
  rintro e w3 ⟨rfl, b3⟩
  have B3 := bh B2 b3
  have HQ3 := Lib.hid (HQ2.out.keep b3)
  clear b3 B2 HQ2
  go_wp2_with fail
  have B4 := bh B3 (below_box w3 (.cells #[.int .i64 17, .int .i64 0, .string ⟨#[]⟩, .string ⟨#[]⟩, .int .i64 2, .int .i64 2, .string ⟨#[]⟩, .string ⟨#[]⟩, .int .i64 2, .int .i64 3, .string ⟨#[]⟩, .string ⟨#[]⟩] 42))
  have K := Lib.hid (eval_Value none 0 0 [] (noRq b) (some ⟨w3.heap.size, 0, none⟩) 3 3 [opN 17, ⟨2, 2, emp, emp⟩, ⟨2, 3, emp, emp⟩] _ (none_es _) (HQ3.out.keep (below_box w3 _)) (fact_ns w3) (HD.out.keep B4.out))
  rw [show valueX ⟨[], (noRq b).who, (noRq b).act, (noRq b).what, (noRq b).P⟩ [opN 17, ⟨2, 2, emp, emp⟩, ⟨2, 3, emp, emp⟩] = .ok (intN 5) from fact_value] at K
  unfold ValPost noRq Rq.v at K
  dsimp only at K
  refine K.out.mono ?_
  rintro e w5 ⟨A5, n5, c5, rfl, N5, b5⟩
  have B5 := bh B4 b5
  have HN5 := Lib.hid (show Ns w5 A5 n5 c5 (intN 5) from N5)
  rw [show errV (valE (.ok (intN 5))) = .nilIface from errV_zero]
  clear b5 B4 B3 HQ3 K N5
  go_wp2_with fail
  refine (law_num 5 w5).mono ?_
  rintro e w6 ⟨rfl, b6⟩
  have B6 := bh B5 b6
  have HN6 := Lib.hid (HN5.out.keep b6)
  clear b6 B5 HN5
  go_wp2_with fail
  have B7 := bh B6 (below_box w6 (.cells #[.int .i64 2, .int .i64 5, .string ⟨#[]⟩, .string ⟨#[]⟩] 42))
  have K2 := Lib.hid ((HN6.out.keep (below_box w6 (.cells #[.int .i64 2, .int .i64 5, .string ⟨#[]⟩, .string ⟨#[]⟩] 42))).same (nd_lit w6 ⟨2, 5, emp, emp⟩ ⟨by decide, by decide, by decide, by decide⟩))
  rw [decide_eq_true (show cmpNds (intN 5) [⟨2, 5, emp, emp⟩] = 0 from cmpNds_cmp.self _)] at K2
  refine K2.out.mono ?_
  rintro e w8 ⟨rfl, b8⟩
  have B8 := bh B7 b8
  clear b8 B7 B6 K2 HN6
  go_wp2_with fail
  go_ret
  exact ⟨rfl, B8.out⟩
end Go.Proofs.YtcdpoamiejompaaGreatDoor
namespace Go.Proofs.YtcdpoamiejompaaGreatDoor
open Go.RowKit Go.Wk Go.Sort
set_option maxRecDepth 100000

set_option maxHeartbeats 2000000 in
theorem ref_AskFault (q : Rq) (w : World) (h : RqOk w q) :
    Calls Tryz.prog 23 #[q.v] w fun e w' => e = .returned (.int .i64 (askF q.who q.act q.what q.P)) ∧ Below w.heap.size w w' := by
  obtain ⟨⟨s1, t1⟩, ⟨s2, t2⟩, ⟨s3, t3⟩, NA, nn, nc, P⟩ := q
  have V0 := Lib.hid (vq_new w ⟨(s1, t1), (s2, t2), (s3, t3), NA, nn, nc, P⟩ 27)
  have B0 := Lib.hid (below_box w (.cells #[.string s1, .string t1, .string s2, .string t2, .string s3, .string t3, .slice NA nn nc] 27))
  have C1 : Hid (∀ w, Calls Tryz.prog 17 #[.agg #[.string s1, .string t1]] w fun e w' => e = .returned (.int .i64 (uidFault (s1, t1))) ∧ Below w.heap.size w w') := Lib.hid (fun w => ref_UidFault s1 t1 w h.w1 h.w2)
  have C2 : Hid (∀ w, Calls Tryz.prog 17 #[.agg #[.string s2, .string t2]] w fun e w' => e = .returned (.int .i64 (uidFault (s2, t2))) ∧ Below w.heap.size w w') := Lib.hid (fun w => ref_UidFault s2 t2 w h.a1 h.a2)
  have C3 : Hid (∀ w, Calls Tryz.prog 17 #[.agg #[.string s3, .string t3]] w fun e w' => e = .returned (.int .i64 (uidFault (s3, t3))) ∧ Below w.heap.size w w') := Lib.hid (fun w => ref_UidFault s3 t3 w h.t1 h.t2)
  have HN := Lib.hid h.ns
  have KV := Lib.hid (fun w' hb => ref_ValueFault _ _ _ _ w' (h.ns.keep (w' := w') hb))
  dsimp only at HN KV
  have HR := Lib.hid (show askF (s1, t1) (s2, t2) (s3, t3) P = or2 (uidFault (s1, t1)) (or2 (uidFault (s2, t2)) (or2 (uidFault (s3, t3)) (or2 (valFault P) (if headOp P = 6 then 0 else 2)))) from rfl)
  unfold Rq.v
  dsimp only
  generalize askF (s1, t1) (s2, t2) (s3, t3) P = F at *
  generalize uidFault (s1, t1) = r1 at *
  generalize uidFault (s2, t2) = r2 at *
  generalize uidFault (s3, t3) = r3 at *
  have hnx := h.ns.max
  have hnc := h.ns.cap
  unfold maxLen at hnx
  dsimp only at hnx hnc
  clear h
  go_enter Tryz.func23, Tryz.ntmps23
  go_wp2_with fail
  refine (C1.out _).mono ?_
  rintro e w1 ⟨rfl, b1⟩
  have B1 := Lib.hid (B0.out.trans (b1.mono B0.out.size))
  have V1 := Lib.hid (V0.out.keep b1)
  clear b1 B0 V0
  by_cases g1 : r1 = 0
  · subst g1
    rw [or2_zero] at HR
    obtain ⟨c0, c1, c2, c3, c4, c5, c6⟩ := V1.out
    dsimp only at c0 c1 c2 c3 c4 c5 c6
    go_wp2_with fail
    refine (C2.out _).mono ?_
    rintro e w2 ⟨rfl, b2⟩
    have B2 := Lib.hid (B1.out.trans (b2.mono B1.out.size))
    have V2 := Lib.hid (V1.out.keep b2)
    clear b2 B1 V1 c0 c1 c2 c3 c4 c5 c6
    by_cases g2 : r2 = 0
    · subst g2
      rw [or2_zero] at HR
      obtain ⟨c0, c1, c2, c3, c4, c5, c6⟩ := V2.out
      dsimp only at c0 c1 c2 c3 c4 c5 c6
      go_wp2_with fail
      refine (C3.out _).mono ?_
      rintro e w3 ⟨rfl, b3⟩
      have B3 := Lib.hid (B2.out.trans (b3.mono B2.out.size))
      have V3 := Lib.hid (V2.out.keep b3)
      clear b3 B2 V2 c0 c1 c2 c3 c4 c5 c6
      by_cases g3 : r3 = 0
      · subst g3
        rw [or2_zero] at HR
        obtain ⟨c0, c1, c2, c3, c4, c5, c6⟩ := V3.out
        dsimp only at c0 c1 c2 c3 c4 c5 c6
        go_wp2_with fail
        refine (KV.out _ B3.out).mono ?_
        rintro e w4 ⟨rfl, b4⟩
        have B4 := Lib.hid (B3.out.trans (b4.mono B3.out.size))
        have V4 := Lib.hid (V3.out.keep b4)
        clear b4 B3 V3 c0 c1 c2 c3 c4 c5 c6
        obtain ⟨c0, c1, c2, c3, c4, c5, c6⟩ := V4.out
        dsimp only at c0 c1 c2 c3 c4 c5 c6
        by_cases g4 : valFault P = 0
        · obtain ⟨a, rfl, hn1, d0, -⟩ := val_hd (HN.out.keep B4.out) (isV_zero.1 g4).2.pos
          rw [g4, or2_zero] at HR
          rw [g4]
          by_cases g5 : headOp P = 6
          · rw [if_pos g5] at HR
            rw [g5] at d0
            clear g5 g4
            go_wp2_with fail
            go_ret
            exact ⟨by rw [HR.out]; rfl, B4.out⟩
          · rw [if_neg g5] at HR
            have f1 : (headOp P != 6) = true := by rw [bne_iff_ne]; exact g5
            generalize headOp P = o at *
            clear g5 g4
            go_wp2_with fail
            go_ret
            exact ⟨by rw [HR.out]; rfl, B4.out⟩
        · rw [or2_ne g4] at HR
          have f1 : (valFault P == 0) = false := beq_eq_false_iff_ne.2 g4
          generalize valFault P = r4 at *
          clear g4
          go_wp2_with fail
          go_ret
          exact ⟨by rw [HR.out]; rfl, B4.out⟩
      · rw [or2_ne g3] at HR
        have f1 : (r3 == 0) = false := beq_eq_false_iff_ne.2 g3
        clear g3
        go_wp2_with fail
        go_ret
        exact ⟨by rw [HR.out]; rfl, B3.out⟩
    · rw [or2_ne g2] at HR
      have f1 : (r2 == 0) = false := beq_eq_false_iff_ne.2 g2
      clear g2
      go_wp2_with fail
      go_ret
      exact ⟨by rw [HR.out]; rfl, B2.out⟩
  · rw [or2_ne g1] at HR
    have f1 : (r1 == 0) = false := beq_eq_false_iff_ne.2 g1
    clear g1
    go_wp2_with fail
    go_ret
    exact ⟨by rw [HR.out]; rfl, B1.out⟩
end Go.Proofs.YtcdpoamiejompaaGreatDoor
namespace Go.Proofs.YtcdpoamiejompaaGreatDoor
open Go.Wk Go.ChangeShapes Go.WideShapes Go.RowKit
set_option maxRecDepth 100000

theorem open_uids {H : Type} {enc : TypeId × Value → H} {w : World} {b b0 : Nat} {sp : Nat → Bool} {hd : Bool} {v : Value} {d : DataW H} {ps : List MemPlace} {r : Reach}
    (hv : Value.okWide Tryz.prog w r b0 38 v) (h : DataW.Trod enc Tryz.prog w b sp hd 38 v d ps) : ∃ (A : Option Addr) (n c : Nat) (P : List Ud), v = .slice A n c ∧ Us w A n c P := by
  obtain ⟨A', n', c', rfl⟩ := okWide_slice Tryz.underlying38 hv
  obtain ⟨A, n, c, P, e, hu⟩ := rd_uds (rd_of_trod h)
  exact ⟨A, n, c, P, by simpa [Value.cells] using e, hu⟩
end Go.Proofs.YtcdpoamiejompaaGreatDoor
namespace Go.Proofs.YtcdpoamiejompaaGreatDoor
open Go.ChangeShapes Go.WideShapes Go.RowKit

def laidOne : DataW Unit := Rows.laid_errors_errorType
def rtName : String := match laidOne with | .iface n _ => n | _ => ""
theorem rt_found : (Tryz.prog.cutTypes.find? (·.1 == rtName)).map (·.2) = some 214 := by kernel_rfl
theorem et_found : Tryz.prog.globalNamed "errors.errorType" = some 0 := by kernel_rfl
theorem oneRow : ((List.range 379).filter fun t => Tryz.prog.rowNamed t [101, 114, 114, 111, 114]) = [30] := by kernel_rfl
theorem typesSize : Tryz.prog.types.size = 379 := by kernel_rfl

def laidList : List (String × DataW Unit) := [("errors.errorType", laidOne)]
theorem handle_of_laid {W : World} (h : laidMetH Tryz.prog laidList W) : Door W := by
  have h' : laidMet Tryz.prog [] W ∧ handlesMet Tryz.prog laidList W := h
  obtain ⟨name, u, ty, e1, e2, e3, e4, e5⟩ := h'.2 _ (List.mem_singleton.2 rfl)
  have en : name = [101, 114, 114, 111, 114] := (Option.some.inj e1).symm
  subst en
  obtain rfl := Option.some.inj (rt_found.symm.trans e2)
  have hm : ty ∈ (List.range 379).filter fun t => Tryz.prog.rowNamed t [101, 114, 114, 111, 114] := List.mem_filter.2 ⟨List.mem_range.2 (by rw [← typesSize]; exact e3), e4⟩
  rw [oneRow] at hm
  obtain rfl := List.mem_singleton.1 hm
  have hh : typeHandle Tryz.prog 30 = .pointer (some ⟨2, 30, none⟩) := by kernel_rfl
  rw [hh] at e5
  have := World.var?_cell et_found e5 0
  exact this

noncomputable def laidWorld (os : Os) : World :=
  let w0 := World.holding Tryz.prog os ⟨#[], #[], []⟩
  { w0 with heap := w0.heap.modify 0 fun
      | .cells _ t frozen => .cells #[.iface 214 (.agg #[.pointer (some ⟨2, 30, none⟩)])] t frozen
      | o => o }
theorem laidWorld_met (os : Os) (args : Array Value) : laidMetH Tryz.prog laidList ((laidWorld os).forCall (fun _ _ => 0) ⟨#[], args, []⟩).memory :=
  laidMetH_of_parts (laidMet_nil _ _) (by kernel_rfl)
end Go.Proofs.YtcdpoamiejompaaGreatDoor

