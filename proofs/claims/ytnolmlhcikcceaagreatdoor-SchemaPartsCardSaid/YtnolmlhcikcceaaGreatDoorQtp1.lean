/-
  Acts appended at a step of a region that draws (gen_rows.py).
  SchemaParts: the walk of the law (gen_schparts.py).
-/
import Derived.Deep.RegionHeld3
import Derived.Laws.OwnMore
import Derived.Test.YtnolmlhcikcceaaGreatDoorQt31
namespace Go.Proofs.YtnolmlhcikcceaaGreatDoor
open Go.RowKit Go.Wk
set_option maxRecDepth 100000

/-- At a step of a region that draws: 'append(own, as...)'. -/
theorem step_own_as {ops : Array Oper} {o : Oper} {a : Act} {w : World} {K : Act → World → Prop} {Q : Exit → Act → World → Prop} {E' : Prop} (hgd : o.guard = none) (s x : Operand)
    (ho : o.op = .call { callee := .builtin .append, args := #[s, x], argTypes := #[23, 23] })
    (B : Nat) (v : Value) (n : Nat) (U : List An) (A : Option Addr) (m c : Nat) (L : List An) (hs : a.eval s = v) (hx : a.eval x = .slice A m c) (hown : w.ownsRow B 55 4 v n (anCells U)) (hE : As w A m c L) (hnil : A = none → m = 0 ∧ c = 0) (hsz : (n + m) * 88 ≤ 140737488351232) (hB : B ≤ w.heap.size)
    (h : ∀ v' w', w'.ownsRow B 55 4 v' (n + m) (anCells (U ++ L)) → w.grownBy w' v.ownBlock → K (a.put o.dst v') w') : if Region.wanted o (yielded ops a.tmps) = true then Oper.wp Tryz.prog o a w K Q else E' := by
  have hw : Region.wanted o (yielded ops a.tmps) = true := by simp [Region.wanted, hgd]
  rw [if_pos hw]
  obtain ⟨i0, hi, hz0, hz1, hz2⟩ := info_parts anInfo
  have hl := hE.len
  rcases A with _ | ad
  · obtain ⟨rfl, rfl⟩ := hnil rfl
    have : L = [] := List.eq_nil_of_length_eq_zero hl.symm
    subst this
    have hrun := run_append_owned_none (P := Tryz.prog) (w := w) B 23 o.type _ i0 4 Tryz.underlying23 hi v n _ hown
    unfold Oper.wp
    simp [execOp, ho, resolve, invoke, builtin, hs, hx, hrun, Result.andThen]
    exact h v w (by simpa using hown) (World.grownBy.refl _ _)
  · refine wp_append_own w s x _ ho B 55 i0 _ 4 88 Tryz.underlying23 hi hz0 hz1 hz2 rfl (by decide) v n (anCells U) hs hown ad m c (anCells L) hx (by rw [anCells_length, hl]) (AnsAt.cells hE.at_) (anCells_one L) ?_ ?_ hB ?_
    · unfold maxLen; omega
    · omega
    · intro v' w' h1 h2 _
      exact h v' w' (by rw [anCells_append]; exact h1) h2
/-- An act in a row of its own. -/
theorem as_lit (w : World) (x : An) (hx : AnOk w x) : As (w.alloc (.cells #[.string x.d.id, .slice x.WA x.wn x.wc, .slice x.TA x.tn x.tc, .slice x.NA x.nn x.nc] 55)) (some ⟨w.heap.size, 0, none⟩) 1 1 [x] :=
  ⟨rfl, Nat.le_refl _, by unfold maxLen; omega, ans_of_cells (cells_new w (anCells [x]) _) fun y hy => by
    simp only [List.mem_cons, List.not_mem_nil, or_false] at hy; subst hy; exact hx.keep (below_box w _)⟩
theorem as_far {w w' : World} {A : Option Addr} {n c : Nat} {L : List An} {g : Option Nat} (h : As w A n c L) (hg : w.grownBy w' g) (hn : ∀ a, A = some a → some a.block ≠ g) (hk : ∀ x ∈ L, AnOk w' x) : As w' A n c L :=
  ⟨h.len, h.cap, h.max, fun k x hx => by
    obtain ⟨a, e, h1, h2, h3, h4, -⟩ := h.at_ k x hx
    have hb : some (a.add (k * 4)).block ≠ g := by rw [add_block]; exact hn a e
    exact ⟨a, e, hg.cell h1 hb, hg.cell h2 hb, hg.cell h3 hb, hg.cell h4 hb, hk x (List.mem_of_getElem? hx)⟩⟩
end Go.Proofs.YtnolmlhcikcceaaGreatDoor
namespace Go.Proofs.YtnolmlhcikcceaaGreatDoor
open Go.RowKit Go.Wk Go.Sort
set_option maxRecDepth 100000
theorem own_slice2 {w : World} {B e k n : Nat} {v : Value} {xs : List Value} (h : w.ownsRow B e k v (n + 1) xs) : ∃ g cap, v = .slice (some ⟨g, 0, none⟩) (n + 1) cap := by
  rcases h.2 with ⟨-, h0⟩ | ⟨g, cap, cur, hv, -⟩
  · exact absurd h0 (by omega)
  · exact ⟨g, cap, hv⟩
theorem sc_keep {w : World} {b bw o : Nat} {u : Value} (v : Value) (h : w.cell? ⟨b, o, none⟩ = some u) (hn : b ≠ bw) : (w.setCell ⟨bw, 1, none⟩ v).cell? ⟨b, o, none⟩ = some u :=
  (World.cell?_setCell_other _ ⟨bw, 1, none⟩ ⟨b, o, none⟩ _ (fun e => hn (congrArg Addr.block e).symm)).trans h
theorem es_one {w : World} {a : Addr} {n c : Nat} {E : List En} {k : Nat} (h : Es w (some a) n c E) (hk : k < n) (hl : k < E.length) : Es w (some (a.add (k * 4))) 1 (c - k) [E[k]] :=
  ⟨rfl, by have := h.cap; omega, by unfold maxLen; omega, fun j y hy => by
    match j, hy with
    | 0, hy =>
      simp only [List.getElem?_cons_zero, Option.some.injEq] at hy
      subst hy
      obtain ⟨a', e, h1⟩ := h.at_ k _ (List.getElem?_eq_getElem hl)
      injection e with e
      subst e
      exact ⟨_, rfl, h1⟩
    | j + 1, hy => simp at hy⟩
theorem own_pack {w : World} {B0 B n : Nat} {v : Value} {L : List An} {x : An} (h : w.ownsRow B 55 4 v (0 + n + 1) (anCells ([] ++ L ++ [x]))) (hB : B0 ≤ B) : ∃ B, B0 ≤ B ∧ w.ownsRow B 55 4 v (n + 1) (anCells (L ++ [x])) :=
  ⟨B, hB, by rw [Nat.zero_add] at h; exact h⟩

set_option maxHeartbeats 4000000 in
theorem SchemaParts_bad (s : Sc) (A : Option Addr) (n c : Nat) (E : List En) (q : Rq) (x : An) (w : World) (hs : ScOk w s) (hnil : ScNil s) (hE : Es w A n c E) (hq : RqOk w q) (hx : AnOk w x) (hg : Door w) (g1 : schF s.k s.a ≠ 0) :
    Calls Tryz.prog 5 #[s.v, .slice A n c, q.v, x.v] w fun e w' => e = .returned (.bool true) ∧ Below w.heap.size w w' := by
  obtain ⟨i0, hi, hz0, hz1, hz2⟩ := info_parts anInfo
  have C1 := Lib.hid (fun w' (hb : Below w.heap.size w w') => schema_Check s w' (hs.keep hb))
  have C2 := Lib.hid (fun w' (hb : Below w.heap.size w w') => ent_Check A n c E w' (hE.keep hb))
  have C3 := Lib.hid (fun w' (hb : Below w.heap.size w w') => schema_Store s A n c E w' (hs.keep hb) (hE.keep hb))
  have C5 := Lib.hid (fun w' (hb : Below w.heap.size w w') => schema_Asks s q w' (hs.keep hb) (hq.keep hb))
  have HT : Hid (∀ n w', Below w.heap.size w w' → Calls Tryz.prog 8 #[errV n, .int .i64 n] w' fun e w'' => e = .returned (.bool true) ∧ Below w'.heap.size w' w'') := Lib.hid (fun n w' hb => by have := same_Error n n w' (hg.keep hb); rwa [beq_self_eq_true] at this)
  have HS := Lib.hid hs
  have HEs := Lib.hid hE
  have HQ := Lib.hid hq
  have HX := Lib.hid hx
  have HNIL := Lib.hid hnil
  have HL := Lib.hid hE.len
  have HLC := Lib.hid hE.cap
  have hnx := hE.max
  have hkx := hs.k.max
  have hax := hs.a.max
  unfold maxLen at hnx hkx hax
  unfold Sc.v at C1 C3 C5 ⊢
  unfold Rq.v at C5 ⊢
  unfold An.v
  have s1 : (w.alloc (.cells #[.slice s.KA s.kn s.kc, .slice s.AA s.an s.ac] 25)).heap.size = w.heap.size + 1 := by simp
  have s2 : ((w.alloc (.cells #[.slice s.KA s.kn s.kc, .slice s.AA s.an s.ac] 25)).alloc (.cells #[.string q.who.1, .string q.who.2, .string q.act.1, .string q.act.2, .string q.what.1, .string q.what.2, .slice q.NA q.nn q.nc] 48)).heap.size = w.heap.size + 1 + 1 := by simp
  have b0 := below_box w (.cells #[.slice s.KA s.kn s.kc, .slice s.AA s.an s.ac] 25)
  have b1 := below_box (w.alloc (.cells #[.slice s.KA s.kn s.kc, .slice s.AA s.an s.ac] 25)) (.cells #[.string q.who.1, .string q.who.2, .string q.act.1, .string q.act.2, .string q.what.1, .string q.what.2, .slice q.NA q.nn q.nc] 48)
  have b2 := below_box ((w.alloc (.cells #[.slice s.KA s.kn s.kc, .slice s.AA s.an s.ac] 25)).alloc (.cells #[.string q.who.1, .string q.who.2, .string q.act.1, .string q.act.2, .string q.what.1, .string q.what.2, .slice q.NA q.nn q.nc] 48)) (.cells #[.string x.d.id, .slice x.WA x.wn x.wc, .slice x.TA x.tn x.tc, .slice x.NA x.nn x.nc] 55)
  have V0 := Lib.hid (((vs_new w s 25).keep b1).keep b2)
  have W' := (vq_new (w.alloc (.cells #[.slice s.KA s.kn s.kc, .slice s.AA s.an s.ac] 25)) q 48).keep b2
  rw [s1] at W'
  have W0 := Lib.hid W'
  have X' := va_new ((w.alloc (.cells #[.slice s.KA s.kn s.kc, .slice s.AA s.an s.ac] 25)).alloc (.cells #[.string q.who.1, .string q.who.2, .string q.act.1, .string q.act.2, .string q.what.1, .string q.what.2, .slice q.NA q.nn q.nc] 48)) x 55
  rw [s2] at X'
  have X0 := Lib.hid X'
  have B0 := Lib.hid (b0.trans ((b1.trans (b2.mono b1.size)).mono b0.size))
  have C7 := Lib.hid (law_lostN (((w.alloc (.cells #[.slice s.KA s.kn s.kc, .slice s.AA s.an s.ac] 25)).alloc (.cells #[.string q.who.1, .string q.who.2, .string q.act.1, .string q.act.2, .string q.what.1, .string q.what.2, .slice q.NA q.nn q.nc] 48)).alloc (.cells #[.string x.d.id, .slice x.WA x.wn x.wc, .slice x.TA x.tn x.tc, .slice x.NA x.nn x.nc] 55)) (w.heap.size + 1 + 1 + 1) (by simp))
  have HA8 : Hid (schF s.k s.a = 0 → s.an ≤ 8) := Lib.hid (fun h => by
    have := (schF_zero.1 h).2.1
    unfold Sc.a at this
    rw [List.length_map, ← hs.a.len] at this
    exact this)
  clear hs hE hq hg hx hnil W' X' b0 b1 b2 s1 s2
  go_enter Tryz.func5, Tryz.ntmps5
  go_wp2_with fail
  refine (C7.out).mono ?_
  rintro e w1 ⟨rfl, bb⟩
  have B1 := bh B0 bb
  have V1 := Lib.hid (V0.out.keep bb)
  have W1 := Lib.hid (W0.out.keep bb)
  have X1 := Lib.hid (X0.out.keep bb)
  clear bb B0 V0 W0 X0
  go_wp2_with fail
  refine (HT.out _ _ B1.out).mono ?_
  rintro e w2 ⟨rfl, bb⟩
  have B2 := bh B1 bb
  have V2 := Lib.hid (V1.out.keep bb)
  have W2 := Lib.hid (W1.out.keep bb)
  have X2 := Lib.hid (X1.out.keep bb)
  clear bb B1 V1 W1 X1
  obtain ⟨v0, v1⟩ := V2.out
  obtain ⟨c0, c1, c2, c3, c4, c5, c6⟩ := W2.out
  obtain ⟨x0, x1, x2, x3⟩ := X2.out
  go_wp2_with fail
  refine (C1.out _ B2.out).mono ?_
  rintro e w3 ⟨rfl, bb⟩
  have B3 := bh B2 bb
  have V3 := Lib.hid (V2.out.keep bb)
  have W3 := Lib.hid (W2.out.keep bb)
  have X3 := Lib.hid (X2.out.keep bb)
  clear bb B2 V2 W2 X2
  clear v0 v1 c0 c1 c2 c3 c4 c5 c6 x0 x1 x2 x3
  obtain ⟨v0, v1⟩ := V3.out
  obtain ⟨c0, c1, c2, c3, c4, c5, c6⟩ := W3.out
  obtain ⟨x0, x1, x2, x3⟩ := X3.out
  have HEV := Lib.hid (errV_ne g1)
  rw [HEV.out]
  generalize schF s.k s.a = r at *
  clear g1
  go_wp2_with fail
  go_ret
  exact ⟨rfl, B3.out⟩
set_option maxHeartbeats 4000000 in
theorem SchemaParts_no (s : Sc) (A : Option Addr) (n c : Nat) (E : List En) (q : Rq) (x : An) (w : World) (hs : ScOk w s) (hnil : ScNil s) (hE : Es w A n c E) (hq : RqOk w q) (hx : AnOk w x) (hg : Door w) (g1 : schF s.k s.a = 0) (g2 : storeF E ≠ 0) :
    Calls Tryz.prog 5 #[s.v, .slice A n c, q.v, x.v] w fun e w' => e = .returned (.bool true) ∧ Below w.heap.size w w' := by
  obtain ⟨i0, hi, hz0, hz1, hz2⟩ := info_parts anInfo
  have C1 := Lib.hid (fun w' (hb : Below w.heap.size w w') => schema_Check s w' (hs.keep hb))
  have C2 := Lib.hid (fun w' (hb : Below w.heap.size w w') => ent_Check A n c E w' (hE.keep hb))
  have C3 := Lib.hid (fun w' (hb : Below w.heap.size w w') => schema_Store s A n c E w' (hs.keep hb) (hE.keep hb))
  have C5 := Lib.hid (fun w' (hb : Below w.heap.size w w') => schema_Asks s q w' (hs.keep hb) (hq.keep hb))
  have HT : Hid (∀ n w', Below w.heap.size w w' → Calls Tryz.prog 8 #[errV n, .int .i64 n] w' fun e w'' => e = .returned (.bool true) ∧ Below w'.heap.size w' w'') := Lib.hid (fun n w' hb => by have := same_Error n n w' (hg.keep hb); rwa [beq_self_eq_true] at this)
  have HS := Lib.hid hs
  have HEs := Lib.hid hE
  have HQ := Lib.hid hq
  have HX := Lib.hid hx
  have HNIL := Lib.hid hnil
  have HL := Lib.hid hE.len
  have HLC := Lib.hid hE.cap
  have hnx := hE.max
  have hkx := hs.k.max
  have hax := hs.a.max
  unfold maxLen at hnx hkx hax
  unfold Sc.v at C1 C3 C5 ⊢
  unfold Rq.v at C5 ⊢
  unfold An.v
  have s1 : (w.alloc (.cells #[.slice s.KA s.kn s.kc, .slice s.AA s.an s.ac] 25)).heap.size = w.heap.size + 1 := by simp
  have s2 : ((w.alloc (.cells #[.slice s.KA s.kn s.kc, .slice s.AA s.an s.ac] 25)).alloc (.cells #[.string q.who.1, .string q.who.2, .string q.act.1, .string q.act.2, .string q.what.1, .string q.what.2, .slice q.NA q.nn q.nc] 48)).heap.size = w.heap.size + 1 + 1 := by simp
  have b0 := below_box w (.cells #[.slice s.KA s.kn s.kc, .slice s.AA s.an s.ac] 25)
  have b1 := below_box (w.alloc (.cells #[.slice s.KA s.kn s.kc, .slice s.AA s.an s.ac] 25)) (.cells #[.string q.who.1, .string q.who.2, .string q.act.1, .string q.act.2, .string q.what.1, .string q.what.2, .slice q.NA q.nn q.nc] 48)
  have b2 := below_box ((w.alloc (.cells #[.slice s.KA s.kn s.kc, .slice s.AA s.an s.ac] 25)).alloc (.cells #[.string q.who.1, .string q.who.2, .string q.act.1, .string q.act.2, .string q.what.1, .string q.what.2, .slice q.NA q.nn q.nc] 48)) (.cells #[.string x.d.id, .slice x.WA x.wn x.wc, .slice x.TA x.tn x.tc, .slice x.NA x.nn x.nc] 55)
  have V0 := Lib.hid (((vs_new w s 25).keep b1).keep b2)
  have W' := (vq_new (w.alloc (.cells #[.slice s.KA s.kn s.kc, .slice s.AA s.an s.ac] 25)) q 48).keep b2
  rw [s1] at W'
  have W0 := Lib.hid W'
  have X' := va_new ((w.alloc (.cells #[.slice s.KA s.kn s.kc, .slice s.AA s.an s.ac] 25)).alloc (.cells #[.string q.who.1, .string q.who.2, .string q.act.1, .string q.act.2, .string q.what.1, .string q.what.2, .slice q.NA q.nn q.nc] 48)) x 55
  rw [s2] at X'
  have X0 := Lib.hid X'
  have B0 := Lib.hid (b0.trans ((b1.trans (b2.mono b1.size)).mono b0.size))
  have C7 := Lib.hid (law_lostN (((w.alloc (.cells #[.slice s.KA s.kn s.kc, .slice s.AA s.an s.ac] 25)).alloc (.cells #[.string q.who.1, .string q.who.2, .string q.act.1, .string q.act.2, .string q.what.1, .string q.what.2, .slice q.NA q.nn q.nc] 48)).alloc (.cells #[.string x.d.id, .slice x.WA x.wn x.wc, .slice x.TA x.tn x.tc, .slice x.NA x.nn x.nc] 55)) (w.heap.size + 1 + 1 + 1) (by simp))
  have HA8 : Hid (schF s.k s.a = 0 → s.an ≤ 8) := Lib.hid (fun h => by
    have := (schF_zero.1 h).2.1
    unfold Sc.a at this
    rw [List.length_map, ← hs.a.len] at this
    exact this)
  clear hs hE hq hg hx hnil W' X' b0 b1 b2 s1 s2
  go_enter Tryz.func5, Tryz.ntmps5
  go_wp2_with fail
  refine (C7.out).mono ?_
  rintro e w1 ⟨rfl, bb⟩
  have B1 := bh B0 bb
  have V1 := Lib.hid (V0.out.keep bb)
  have W1 := Lib.hid (W0.out.keep bb)
  have X1 := Lib.hid (X0.out.keep bb)
  clear bb B0 V0 W0 X0
  go_wp2_with fail
  refine (HT.out _ _ B1.out).mono ?_
  rintro e w2 ⟨rfl, bb⟩
  have B2 := bh B1 bb
  have V2 := Lib.hid (V1.out.keep bb)
  have W2 := Lib.hid (W1.out.keep bb)
  have X2 := Lib.hid (X1.out.keep bb)
  clear bb B1 V1 W1 X1
  obtain ⟨v0, v1⟩ := V2.out
  obtain ⟨c0, c1, c2, c3, c4, c5, c6⟩ := W2.out
  obtain ⟨x0, x1, x2, x3⟩ := X2.out
  go_wp2_with fail
  refine (C1.out _ B2.out).mono ?_
  rintro e w3 ⟨rfl, bb⟩
  have B3 := bh B2 bb
  have V3 := Lib.hid (V2.out.keep bb)
  have W3 := Lib.hid (W2.out.keep bb)
  have X3 := Lib.hid (X2.out.keep bb)
  clear bb B2 V2 W2 X2
  clear v0 v1 c0 c1 c2 c3 c4 c5 c6 x0 x1 x2 x3
  obtain ⟨v0, v1⟩ := V3.out
  obtain ⟨c0, c1, c2, c3, c4, c5, c6⟩ := W3.out
  obtain ⟨x0, x1, x2, x3⟩ := X3.out
  replace HA8 := Lib.hid (HA8.out g1)
  rw [g1, errV_zero]
  go_wp2_with fail
  refine (C2.out _ B3.out).mono ?_
  rintro e w4 ⟨rfl, bb⟩
  have B4 := bh B3 bb
  have V4 := Lib.hid (V3.out.keep bb)
  have W4 := Lib.hid (W3.out.keep bb)
  have X4 := Lib.hid (X3.out.keep bb)
  clear bb B3 V3 W3 X3
  have HEV := Lib.hid (errV_ne g2)
  rw [HEV.out]
  generalize storeF E = r2 at *
  clear g2
  obtain ⟨v0, v1⟩ := V4.out
  obtain ⟨c0, c1, c2, c3, c4, c5, c6⟩ := W4.out
  obtain ⟨x0, x1, x2, x3⟩ := X4.out
  have HLT : w.heap.size + 1 + 1 < w4.heap.size := block_lt_of_cell x0
  have bx := below_box w4 (.cells #[.slice s.KA s.kn s.kc, .slice none 0 0] 25)
  have Y5 := Lib.hid (vr2_new w4 (.slice s.KA s.kn s.kc) (.slice none 0 0) 25)
  have B5 := bh B4 bx
  have V5 := Lib.hid (V4.out.keep bx)
  have W5 := Lib.hid (W4.out.keep bx)
  have X5 := Lib.hid (X4.out.keep bx)
  have h8 : s.an ≤ 8 := HA8.out
  go_wp2_with fail
  obtain ⟨w5, hw5⟩ : ∃ w5, w4.alloc (.cells #[.slice s.KA s.kn s.kc, .slice none 0 0] 25) = w5 := ⟨_, rfl⟩
  have hlt5 : w4.heap.size < w5.heap.size := by rw [← hw5]; simp
  rw [hw5] at B5 V5 W5 X5 Y5 bx ⊢
  clear hw5 X4 v0 v1 c0 c1 c2 c3 c4 c5 c6 x0 x1 x2 x3
  obtain ⟨v0, v1⟩ := V5.out
  obtain ⟨x0, x1, x2, x3⟩ := X5.out
  have HKX : ∀ w', Below w5.heap.size w5 w' → AnOk w' x := fun w' hb => HX.out.keep (B5.out.trans (hb.mono B5.out.size))
  have HKS : ∀ w', Below w5.heap.size w5 w' → As w' s.AA s.an s.ac s.L := fun w' hb => HS.out.a.keep (B5.out.trans (hb.mono B5.out.size))
  have P1 : Below w5.heap.size w5 (w5.drew.alloc (.cells #[] 55)) := (Below.refl _ _).drew.alloc (Nat.le_refl _) _
  have P2 : Below w5.heap.size w5 ((w5.drew.alloc (.cells #[] 55)).alloc (.cells #[.string x.d.id, .slice x.WA x.wn x.wc, .slice x.TA x.tn x.tc, .slice x.NA x.nn x.nc] 55)) := P1.alloc (by simp) _
  have P4 : Below w5.heap.size w5 (w5.drew.alloc (.cells #[.string x.d.id, .slice x.WA x.wn x.wc, .slice x.TA x.tn x.tc, .slice x.NA x.nn x.nc] 55)) := (Below.refl _ _).drew.alloc (Nat.le_refl _) _
  have P3 : Below w5.heap.size w5 ((w5.drew.alloc (.cells #[.string x.d.id, .slice x.WA x.wn x.wc, .slice x.TA x.tn x.tc, .slice x.NA x.nn x.nc] 55)).alloc (.cells #[] 55)) := P4.alloc (by simp) _
  have O1 : (w5.drew.alloc (.cells #[] 55)).ownsRow w5.heap.size 55 4 (.slice (some ⟨w5.heap.size, 0, none⟩) 0 0) 0 (anCells []) := World.ownsRow_lit (e := 55) (size := 4) (base := w5.heap.size) w5.drew #[] 0 (Nat.le_refl _) (Nat.zero_le _) rfl
  have O2 : ((w5.drew.alloc (.cells #[] 55)).alloc (.cells #[.string x.d.id, .slice x.WA x.wn x.wc, .slice x.TA x.tn x.tc, .slice x.NA x.nn x.nc] 55)).ownsRow w5.heap.size 55 4 (.slice (some ⟨w5.heap.size, 0, none⟩) 0 0) 0 (anCells []) := O1.alloc _
  have O3 : ((w5.drew.alloc (.cells #[.string x.d.id, .slice x.WA x.wn x.wc, .slice x.TA x.tn x.tc, .slice x.NA x.nn x.nc] 55)).alloc (.cells #[] 55)).ownsRow (w5.heap.size + 1) 55 4 (.slice (some ⟨w5.heap.size + 1, 0, none⟩) 0 0) 0 (anCells []) := by
    have := World.ownsRow_lit (e := 55) (size := 4) (base := w5.heap.size + 1) (w5.drew.alloc (.cells #[.string x.d.id, .slice x.WA x.wn x.wc, .slice x.TA x.tn x.tc, .slice x.NA x.nn x.nc] 55)) #[] 0 (by simp) (Nat.zero_le _) rfl
    rwa [show (w5.drew.alloc (.cells #[.string x.d.id, .slice x.WA x.wn x.wc, .slice x.TA x.tn x.tc, .slice x.NA x.nn x.nc] 55)).heap.size = w5.heap.size + 1 by simp] at this
  have L2 : As ((w5.drew.alloc (.cells #[] 55)).alloc (.cells #[.string x.d.id, .slice x.WA x.wn x.wc, .slice x.TA x.tn x.tc, .slice x.NA x.nn x.nc] 55)) (some ⟨w5.heap.size + 1, 0, none⟩) 1 1 [x] := by
    have := as_lit (w5.drew.alloc (.cells #[] 55)) x (HKX _ P1)
    rwa [show (w5.drew.alloc (.cells #[] 55)).heap.size = w5.heap.size + 1 by simp] at this
  have L3 : As ((w5.drew.alloc (.cells #[.string x.d.id, .slice x.WA x.wn x.wc, .slice x.TA x.tn x.tc, .slice x.NA x.nn x.nc] 55)).alloc (.cells #[] 55)) (some ⟨w5.heap.size, 0, none⟩) 1 1 [x] := by
    have := (as_lit w5.drew x (HX.out.keep (B5.out.trans ((Below.refl _ _).drew.mono B5.out.size)))).keep (below_box _ (.cells #[] 55))
    exact this
  have hnil2 : s.AA = none → s.an = 0 ∧ s.ac = 0 := HNIL.out.a
  have hnl : ∀ b : Nat, (some ⟨b, 0, none⟩ : Option Addr) = none → (1 : Nat) = 0 ∧ (1 : Nat) = 0 := fun _ h => nomatch h
  have hk1 : ∀ w', Below w5.heap.size w5 w' → ∀ y ∈ [x], AnOk w' y := fun w' hb y hy => by
    rw [List.mem_singleton.1 hy]
    exact HKX w' hb
  have n0 : w.heap.size ≠ w4.heap.size := by omega
  have n1 : w.heap.size + 1 + 1 ≠ w4.heap.size := by omega
  have hsz6 : (0 + s.an) * 88 ≤ 140737488351232 := by omega
  have hsz8 : (0 + s.an + 1) * 88 ≤ 140737488351232 := by omega
  have A1 := HKS _ P1
  have A2 := HKS _ P2
  have A3 := HKS _ P3
  have e1 : w5.heap.size ≤ (w5.drew.alloc (.cells #[] 55)).heap.size := by simp
  have e2 : w5.heap.size ≤ ((w5.drew.alloc (.cells #[] 55)).alloc (.cells #[.string x.d.id, .slice x.WA x.wn x.wc, .slice x.TA x.tn x.tc, .slice x.NA x.nn x.nc] 55)).heap.size := by simp; omega
  have e3 : w5.heap.size + 1 ≤ ((w5.drew.alloc (.cells #[.string x.d.id, .slice x.WA x.wn x.wc, .slice x.TA x.tn x.tc, .slice x.NA x.nn x.nc] 55)).alloc (.cells #[] 55)).heap.size := by simp
  have hno : ∀ (a : Addr), (some ⟨w5.heap.size + 1, 0, none⟩ : Option Addr) = some a → some a.block ≠ (Value.slice (some ⟨w5.heap.size, 0, none⟩) 0 0).ownBlock := by
    intro a h
    injection h with h
    subst h
    simp [Value.ownBlock]
  have hno3 : ∀ (a : Addr), (some ⟨w5.heap.size, 0, none⟩ : Option Addr) = some a → some a.block ≠ (Value.slice (some ⟨w5.heap.size + 1, 0, none⟩) 0 0).ownBlock := by
    intro a h
    injection h with h
    subst h
    simp [Value.ownBlock]
  have hob1 : ∀ g, (Value.slice (some ⟨w5.heap.size, 0, none⟩) 0 0).ownBlock = some g → w5.heap.size ≤ g := fun g h => own_base O1 g h
  have hob3 : ∀ g, (Value.slice (some ⟨w5.heap.size + 1, 0, none⟩) 0 0).ownBlock = some g → w5.heap.size ≤ g := fun g h => Nat.le_of_succ_le (own_base O3 g h)
  go_region_held3 (fun w' : World => w'.cell? ⟨w.heap.size, 1, none⟩ = some (.slice s.AA s.an s.ac) ∧ w'.cell? ⟨w.heap.size + 1 + 1, 0, none⟩ = some (.string x.d.id) ∧ w'.cell? ⟨w.heap.size + 1 + 1, 1, none⟩ = some (.slice x.WA x.wn x.wc) ∧ w'.cell? ⟨w.heap.size + 1 + 1, 2, none⟩ = some (.slice x.TA x.tn x.tc) ∧ w'.cell? ⟨w.heap.size + 1 + 1, 3, none⟩ = some (.slice x.NA x.nn x.nc)) (first | go_keep | exact KK _) ((first | (refine step_own_as rfl (.tmp 52) (.tmp 54) ?_ w5.heap.size (.slice (some ⟨w5.heap.size, 0, none⟩) 0 0) 0 [] s.AA s.an s.ac s.L ?_ ?_ O1 A1 hnil2 hsz6 e1 ?_; (all_goals try rfl); intro v6 w6 hown hgrow; have G6 := P1.grown hgrow P1.size hob1; have u1 := cell_keep G6 v1; have t0 := cell_keep G6 x0; have t1 := cell_keep G6 x1; have t2 := cell_keep G6 x2; have t3 := cell_keep G6 x3; have P6 := G6.alloc G6.size (.cells #[.string x.d.id, .slice x.WA x.wn x.wc, .slice x.TA x.tn x.tc, .slice x.NA x.nn x.nc] 55); have OX := hown.alloc (.cells #[.string x.d.id, .slice x.WA x.wn x.wc, .slice x.TA x.tn x.tc, .slice x.NA x.nn x.nc] 55); have LX := as_lit w6 x (HKX w6 G6); have EX : w5.heap.size ≤ (w6.alloc (.cells #[.string x.d.id, .slice x.WA x.wn x.wc, .slice x.TA x.tn x.tc, .slice x.NA x.nn x.nc] 55)).heap.size := P6.size; have FX : w5.heap.size ≤ w5.heap.size := Nat.le_refl _) | (refine step_own_as rfl (.tmp 52) (.tmp 54) ?_ w5.heap.size (.slice (some ⟨w5.heap.size, 0, none⟩) 0 0) 0 [] s.AA s.an s.ac s.L ?_ ?_ O2 A2 hnil2 hsz6 e2 ?_; (all_goals try rfl); intro v6 w6 hown hgrow; have G6 := P2.grown hgrow P2.size hob1; have u1 := cell_keep G6 v1; have t0 := cell_keep G6 x0; have t1 := cell_keep G6 x1; have t2 := cell_keep G6 x2; have t3 := cell_keep G6 x3; have P6 := G6; have OX := hown; have LX := as_far L2 hgrow hno (hk1 w6 G6); have EX : w5.heap.size ≤ w6.heap.size := P6.size; have FX : w5.heap.size ≤ w5.heap.size := Nat.le_refl _) | (refine step_own_as rfl (.tmp 52) (.tmp 54) ?_ (w5.heap.size + 1) (.slice (some ⟨(w5.heap.size + 1), 0, none⟩) 0 0) 0 [] s.AA s.an s.ac s.L ?_ ?_ O3 A3 hnil2 hsz6 e3 ?_; (all_goals try rfl); intro v6 w6 hown hgrow; have G6 := P3.grown hgrow P3.size hob3; have u1 := cell_keep G6 v1; have t0 := cell_keep G6 x0; have t1 := cell_keep G6 x1; have t2 := cell_keep G6 x2; have t3 := cell_keep G6 x3; have P6 := G6; have OX := hown; have LX := as_far L3 hgrow hno3 (hk1 w6 G6); have EX : w5.heap.size + 1 ≤ w6.heap.size := Nat.le_trans e3 hgrow.size; have FX : w5.heap.size ≤ w5.heap.size + 1 := Nat.le_succ _) | (refine step_own_as rfl (.tmp 55) (.tmp 57) ?_ _ _ _ _ _ _ _ [x] ?_ ?_ OX LX (hnl _) hsz8 EX ?_; (all_goals try rfl); intro v8 w8 hown8 hgrow8; obtain ⟨g8, cap8, hv8⟩ := own_slice2 hown8; subst hv8; have G8 := P6.grown hgrow8 P6.size (fun g hg => Nat.le_trans FX (own_base OX g hg)); have GO := Lib.hid (own_pack hown8 FX); have r1 := cell_keep G8 v1; have q0 := cell_keep G8 x0; have q1 := cell_keep G8 x1; have q2 := cell_keep G8 x2; have q3 := cell_keep G8 x3; have KK := fun v => And.intro (sc_keep v r1 n0) (And.intro (sc_keep v q0 n1) (And.intro (sc_keep v q1 n1) (And.intro (sc_keep v q2 n1) (sc_keep v q3 n1)))); obtain ⟨yy0, yy1, zz0, zz1⟩ := Vr2.keep Y5.out G8)))
  all_goals
    obtain ⟨w9, hw9⟩ : ∃ w9, w8.setCell ⟨w4.heap.size, 1, none⟩ (.slice (some ⟨g8, 0, none⟩) (s.an + 1) cap8) = w9 := ⟨_, rfl⟩
    obtain ⟨BB, hBB, hown9⟩ := GO.out
    have o9 := ownsRow_setCell_below hown9 (a := ⟨w4.heap.size, 1, none⟩) (by show w4.heap.size < BB; omega) (.slice (some ⟨g8, 0, none⟩) (s.an + 1) cap8)
    have P9 : Below w4.heap.size w4 w9 := by
      rw [← hw9]
      exact (bx.trans (G8.mono bx.size)).setCell (p := ⟨w4.heap.size, 1, none⟩) (Nat.le_refl _) _
    have y0 : w9.cell? ⟨w4.heap.size, 0, none⟩ = some (.slice s.KA s.kn s.kc) := by
      rw [← hw9, World.cell?_setCell_other _ ⟨w4.heap.size, 1, none⟩ ⟨w4.heap.size, 0, none⟩ _ (by intro e; injection e with _ e; cases e)]
      exact yy0
    have y1 : w9.cell? ⟨w4.heap.size, 1, none⟩ = some (.slice (some ⟨g8, 0, none⟩) (s.an + 1) cap8) := by
      rw [← hw9]
      exact World.cell?_setCell_same w8 ⟨w4.heap.size, 1, none⟩ _ yy1
    rw [hw9] at o9 ⊢
    have V9 := Lib.hid (V4.out.keep P9)
    have W9 := Lib.hid (W4.out.keep P9)
    have B9 := bh B4 P9
    have HW4 := Lib.hid (show w.heap.size + 1 + 1 < w4.heap.size from HLT)
    have hokL : ∀ y ∈ s.L ++ [x], AnOk w9 y := fun y hy => by
      rcases List.mem_append.1 hy with hy | hy
      · obtain ⟨j, hj, rfl⟩ := List.getElem_of_mem hy
        obtain ⟨_, _, _, _, _, _, h⟩ := (HS.out.a.keep B9.out).at_ j _ (List.getElem?_eq_getElem hj)
        exact h
      · rw [List.mem_singleton.1 hy]; exact HX.out.keep B9.out
    obtain ⟨A8, c8, e8, as8⟩ := as_of_own o9 (by rw [List.length_append, HS.out.a.len]; rfl) hokL (by unfold maxLen; omega)
    injection e8 with e81 _ e82
    subst e81
    subst e82
    have SW := Lib.hid (show ScOk w9 ⟨s.KA, s.kn, s.kc, s.K, some ⟨g8, 0, none⟩, s.an + 1, cap8, s.L ++ [x]⟩ from ⟨HS.out.k.keep B9.out, as8⟩)
    have hmk : (⟨s.KA, s.kn, s.kc, s.K, some ⟨g8, 0, none⟩, s.an + 1, cap8, s.L ++ [x]⟩ : Sc).k = s.k := rfl
    have hma : (⟨s.KA, s.kn, s.kc, s.K, some ⟨g8, 0, none⟩, s.an + 1, cap8, s.L ++ [x]⟩ : Sc).a = s.a ++ [x.d] := by unfold Sc.a; simp
    have D1 := schema_Check _ w9 SW.out
    have D2 := fun w' hb => schema_Asks ⟨s.KA, s.kn, s.kc, s.K, some ⟨g8, 0, none⟩, s.an + 1, cap8, s.L ++ [x]⟩ q w' (SW.out.keep hb) (HQ.out.keep (B9.out.trans (hb.mono B9.out.size)))
    rw [hmk, hma] at D1 D2
    unfold Sc.v at D1 D2
    unfold Rq.v at D2
    dsimp only at D1 D2
    have C8 := Lib.hid D1
    have C9 := Lib.hid D2
    have HAM := Lib.hid (fun h1 h2 => asks_more (T := actionT) (K := s.k) (L := s.a) (x := x.d) (a := q.who) (b := q.act) (c := q.what) (P := q.P) h1 h2)
    clear D1 D2 hmk hma as8 hokL o9 hown9 hBB P9 hw9 GO G8 yy0 yy1 zz0 zz1 KK SW bx hlt5 HLT
    generalize schF s.k (s.a ++ [x.d]) = r1 at *
    generalize asksF actionT s.k s.a q.who q.act q.what q.P = r5 at *
    generalize asksF actionT s.k (s.a ++ [x.d]) q.who q.act q.what q.P = r6 at *
    have HLT2 := block_lt_of_cell y0
    go_wp2_with fail
    refine C8.out.mono ?_
    rintro e w10 ⟨rfl, b10⟩
    have B10 := bh B9 b10
    have V10 := Lib.hid (V9.out.keep b10)
    have W10 := Lib.hid (W9.out.keep b10)
    replace y0 := cell_keep b10 y0
    replace y1 := cell_keep b10 y1
    have P10 := Lib.hid b10
    clear b10 B9 V9 W9 HLT2 C8
    by_cases h1 : r1 = 0
    · rw [h1, errV_zero]
      have HAM2 := Lib.hid (HAM.out h1)
      clear h1 HAM
      obtain ⟨v0, v1⟩ := V10.out
      obtain ⟨c0, c1, c2, c3, c4, c5, c6⟩ := W10.out
      go_wp2_with fail
      refine (C5.out _ B10.out).mono ?_
      rintro e w11 ⟨rfl, b11⟩
      have B11 := bh B10 b11
      have W11 := Lib.hid (W10.out.keep b11)
      replace y0 := cell_keep b11 y0
      replace y1 := cell_keep b11 y1
      have P11 := Lib.hid (P10.out.trans (b11.mono P10.out.size))
      clear b11 B10 V10 W10 P10 v0 v1 c0 c1 c2 c3 c4 c5 c6
      by_cases h2 : r5 = 0
      · rw [h2, errV_zero]
        have HR := HAM2.out h2
        rw [HR, errV_zero] at C9
        clear h2 HR HAM2
        obtain ⟨c0, c1, c2, c3, c4, c5, c6⟩ := W11.out
        go_wp2_with fail
        refine (C9.out _ P11.out).mono ?_
        rintro e w12 ⟨rfl, b12⟩
        have B12 := bh B11 b12
        clear b12
        go_wp2_with fail
        go_ret
        exact ⟨rfl, B12.out⟩
      · have HEV := Lib.hid (errV_ne h2)
        rw [HEV.out]
        clear h2 HAM2
        go_wp2_with fail
        go_ret
        exact ⟨rfl, B11.out⟩
    · have HEV := Lib.hid (errV_ne h1)
      rw [HEV.out]
      clear h1 HAM
      go_wp2_with fail
      go_ret
      exact ⟨rfl, B10.out⟩
set_option maxHeartbeats 4000000 in
theorem SchemaParts_ok (s : Sc) (A : Option Addr) (n c : Nat) (E : List En) (q : Rq) (x : An) (w : World) (hs : ScOk w s) (hnil : ScNil s) (hE : Es w A n c E) (hq : RqOk w q) (hx : AnOk w x) (hg : Door w) (g1 : schF s.k s.a = 0) (g2 : storeF E = 0) :
    Calls Tryz.prog 5 #[s.v, .slice A n c, q.v, x.v] w fun e w' => e = .returned (.bool true) ∧ Below w.heap.size w w' := by
  obtain ⟨i0, hi, hz0, hz1, hz2⟩ := info_parts anInfo
  have C1 := Lib.hid (fun w' (hb : Below w.heap.size w w') => schema_Check s w' (hs.keep hb))
  have C2 := Lib.hid (fun w' (hb : Below w.heap.size w w') => ent_Check A n c E w' (hE.keep hb))
  have C3 := Lib.hid (fun w' (hb : Below w.heap.size w w') => schema_Store s A n c E w' (hs.keep hb) (hE.keep hb))
  have C5 := Lib.hid (fun w' (hb : Below w.heap.size w w') => schema_Asks s q w' (hs.keep hb) (hq.keep hb))
  have HT : Hid (∀ n w', Below w.heap.size w w' → Calls Tryz.prog 8 #[errV n, .int .i64 n] w' fun e w'' => e = .returned (.bool true) ∧ Below w'.heap.size w' w'') := Lib.hid (fun n w' hb => by have := same_Error n n w' (hg.keep hb); rwa [beq_self_eq_true] at this)
  have HS := Lib.hid hs
  have HEs := Lib.hid hE
  have HQ := Lib.hid hq
  have HX := Lib.hid hx
  have HNIL := Lib.hid hnil
  have HL := Lib.hid hE.len
  have HLC := Lib.hid hE.cap
  have hnx := hE.max
  have hkx := hs.k.max
  have hax := hs.a.max
  unfold maxLen at hnx hkx hax
  unfold Sc.v at C1 C3 C5 ⊢
  unfold Rq.v at C5 ⊢
  unfold An.v
  have s1 : (w.alloc (.cells #[.slice s.KA s.kn s.kc, .slice s.AA s.an s.ac] 25)).heap.size = w.heap.size + 1 := by simp
  have s2 : ((w.alloc (.cells #[.slice s.KA s.kn s.kc, .slice s.AA s.an s.ac] 25)).alloc (.cells #[.string q.who.1, .string q.who.2, .string q.act.1, .string q.act.2, .string q.what.1, .string q.what.2, .slice q.NA q.nn q.nc] 48)).heap.size = w.heap.size + 1 + 1 := by simp
  have b0 := below_box w (.cells #[.slice s.KA s.kn s.kc, .slice s.AA s.an s.ac] 25)
  have b1 := below_box (w.alloc (.cells #[.slice s.KA s.kn s.kc, .slice s.AA s.an s.ac] 25)) (.cells #[.string q.who.1, .string q.who.2, .string q.act.1, .string q.act.2, .string q.what.1, .string q.what.2, .slice q.NA q.nn q.nc] 48)
  have b2 := below_box ((w.alloc (.cells #[.slice s.KA s.kn s.kc, .slice s.AA s.an s.ac] 25)).alloc (.cells #[.string q.who.1, .string q.who.2, .string q.act.1, .string q.act.2, .string q.what.1, .string q.what.2, .slice q.NA q.nn q.nc] 48)) (.cells #[.string x.d.id, .slice x.WA x.wn x.wc, .slice x.TA x.tn x.tc, .slice x.NA x.nn x.nc] 55)
  have V0 := Lib.hid (((vs_new w s 25).keep b1).keep b2)
  have W' := (vq_new (w.alloc (.cells #[.slice s.KA s.kn s.kc, .slice s.AA s.an s.ac] 25)) q 48).keep b2
  rw [s1] at W'
  have W0 := Lib.hid W'
  have X' := va_new ((w.alloc (.cells #[.slice s.KA s.kn s.kc, .slice s.AA s.an s.ac] 25)).alloc (.cells #[.string q.who.1, .string q.who.2, .string q.act.1, .string q.act.2, .string q.what.1, .string q.what.2, .slice q.NA q.nn q.nc] 48)) x 55
  rw [s2] at X'
  have X0 := Lib.hid X'
  have B0 := Lib.hid (b0.trans ((b1.trans (b2.mono b1.size)).mono b0.size))
  have C7 := Lib.hid (law_lostN (((w.alloc (.cells #[.slice s.KA s.kn s.kc, .slice s.AA s.an s.ac] 25)).alloc (.cells #[.string q.who.1, .string q.who.2, .string q.act.1, .string q.act.2, .string q.what.1, .string q.what.2, .slice q.NA q.nn q.nc] 48)).alloc (.cells #[.string x.d.id, .slice x.WA x.wn x.wc, .slice x.TA x.tn x.tc, .slice x.NA x.nn x.nc] 55)) (w.heap.size + 1 + 1 + 1) (by simp))
  have HA8 : Hid (schF s.k s.a = 0 → s.an ≤ 8) := Lib.hid (fun h => by
    have := (schF_zero.1 h).2.1
    unfold Sc.a at this
    rw [List.length_map, ← hs.a.len] at this
    exact this)
  clear hs hE hq hg hx hnil W' X' b0 b1 b2 s1 s2
  go_enter Tryz.func5, Tryz.ntmps5
  go_wp2_with fail
  refine (C7.out).mono ?_
  rintro e w1 ⟨rfl, bb⟩
  have B1 := bh B0 bb
  have V1 := Lib.hid (V0.out.keep bb)
  have W1 := Lib.hid (W0.out.keep bb)
  have X1 := Lib.hid (X0.out.keep bb)
  clear bb B0 V0 W0 X0
  go_wp2_with fail
  refine (HT.out _ _ B1.out).mono ?_
  rintro e w2 ⟨rfl, bb⟩
  have B2 := bh B1 bb
  have V2 := Lib.hid (V1.out.keep bb)
  have W2 := Lib.hid (W1.out.keep bb)
  have X2 := Lib.hid (X1.out.keep bb)
  clear bb B1 V1 W1 X1
  obtain ⟨v0, v1⟩ := V2.out
  obtain ⟨c0, c1, c2, c3, c4, c5, c6⟩ := W2.out
  obtain ⟨x0, x1, x2, x3⟩ := X2.out
  go_wp2_with fail
  refine (C1.out _ B2.out).mono ?_
  rintro e w3 ⟨rfl, bb⟩
  have B3 := bh B2 bb
  have V3 := Lib.hid (V2.out.keep bb)
  have W3 := Lib.hid (W2.out.keep bb)
  have X3 := Lib.hid (X2.out.keep bb)
  clear bb B2 V2 W2 X2
  clear v0 v1 c0 c1 c2 c3 c4 c5 c6 x0 x1 x2 x3
  obtain ⟨v0, v1⟩ := V3.out
  obtain ⟨c0, c1, c2, c3, c4, c5, c6⟩ := W3.out
  obtain ⟨x0, x1, x2, x3⟩ := X3.out
  replace HA8 := Lib.hid (HA8.out g1)
  have HPT := Lib.hid (stoF_parts g1 g2)
  rw [g1, errV_zero]
  go_wp2_with fail
  refine (C2.out _ B3.out).mono ?_
  rintro e w4 ⟨rfl, bb⟩
  have B4 := bh B3 bb
  have V4 := Lib.hid (V3.out.keep bb)
  have W4 := Lib.hid (W3.out.keep bb)
  have X4 := Lib.hid (X3.out.keep bb)
  clear bb B3 V3 W3 X3
  rw [g2, errV_zero]
  clear g1 g2
  obtain ⟨v0, v1⟩ := V4.out
  obtain ⟨c0, c1, c2, c3, c4, c5, c6⟩ := W4.out
  obtain ⟨x0, x1, x2, x3⟩ := X4.out
  go_wp2_with fail
  go_loopw [10, 11] (fun al i wr => ∃ (k : Nat) (b : Bool), al = .bool b ∧ i = .int .i64 k ∧ k ≤ n ∧ Hid (b = (E.take k).all (fun y => decide (stoF s.k s.a [y] = 0))) ∧ Hid (Below w.heap.size w wr) ∧ Hid (Vs wr w.heap.size s) ∧ Hid (Vq wr (w.heap.size + 1) q) ∧ Hid (Va wr (w.heap.size + 1 + 1) x)) (fun _ i _ => n - (intOf i).toNat)
  case atStart => exact ⟨0, true, rfl, rfl, Nat.zero_le _, Lib.hid rfl, B4, V4, W4, X4⟩
  case round =>
    clear v0 v1 c0 c1 c2 c3 c4 c5 c6 x0 x1 x2 x3 B4 V4 W4 X4
    obtain ⟨k, b, rfl, rfl, hk, hA, hB, hV, hW, hX⟩ := hrel
    obtain ⟨v0, v1⟩ := hV.out
    by_cases hlt : k < n
    · have hkl : k < E.length := by rw [← HL.out]; exact hlt
      obtain ⟨a, ea, -⟩ := HEs.out.at_ k _ (List.getElem?_eq_getElem hkl)
      subst ea
      have hc := HLC.out
      have P1 : ∀ w', Below wr.heap.size wr w' → Calls Tryz.prog 9 #[.agg #[.slice s.KA s.kn s.kc, .slice s.AA s.an s.ac], .slice (some (a.add (k * 4))) 1 (c - k)] w' fun e w'' => e = .returned (errV (stoF s.k s.a [E[k]])) ∧ Below w'.heap.size w' w'' := fun w' hb => schema_Store s _ 1 (c - k) [E[k]] w' (HS.out.keep (hB.out.trans (hb.mono hB.out.size))) (es_one (HEs.out.keep (hB.out.trans (hb.mono hB.out.size))) hlt hkl)
      have HA2 := Lib.hid (show (E.take (k + 1)).all (fun y => decide (stoF s.k s.a [y] = 0)) = (b && decide (stoF s.k s.a [E[k]] = 0)) by
        rw [List.take_succ_eq_append_getElem hkl, List.all_append, ← hA.out]
        simp)
      have k0 := cell_regrown v0
      have k1 := cell_regrown v1
      generalize stoF s.k s.a [E[k]] = r at *
      clear hA
      by_cases hr : r = 0
      · rw [hr, errV_zero] at P1
        have R1 := rq (w := wr) P1
        rw [decide_eq_true hr, Bool.and_true] at HA2
        have HA3 := Lib.hid HA2.out.symm
        clear P1 hr HA2
        go_wp2_with fail
        refine wp_region_quiet_below (by kernel_rfl) (by kernel_rfl) ?_
        repeat (first | go_big_quiet_step (exact R1 _ _) | quiet_step (exact R1 _ _))
        refine wpQuiet_nil ?_
        intro w5 hw'
        have b5 := Lib.hid (show Below wr.heap.size wr w5 by obtain ⟨⟨d, os⟩, rfl⟩ := hw'; exact below_regrown _ _ _)
        clear hw'
        have B5 := bh hB b5.out
        have V5 := Lib.hid (hV.out.keep b5.out)
        have W5 := Lib.hid (hW.out.keep b5.out)
        have X5 := Lib.hid (hX.out.keep b5.out)
        clear b5 R1 hB hV hW hX k0 k1 v0 v1
        go_wp2_with fail
        go_roundw
        case rel => exact ⟨k + 1, b, rfl, by go_num, hlt, HA3, B5, V5, W5, X5⟩
        case measure => simp [intOf]; omega
      · rw [errV_ne hr] at P1
        have R1 := rq (w := wr) P1
        rw [decide_eq_false hr, Bool.and_false] at HA2
        have HA3 := Lib.hid HA2.out.symm
        clear P1 hr HA2
        go_wp2_with fail
        refine wp_region_quiet_below (by kernel_rfl) (by kernel_rfl) ?_
        repeat (first | go_big_quiet_step (exact R1 _ _) | quiet_step (exact R1 _ _))
        refine wpQuiet_nil ?_
        intro w5 hw'
        have b5 := Lib.hid (show Below wr.heap.size wr w5 by obtain ⟨⟨d, os⟩, rfl⟩ := hw'; exact below_regrown _ _ _)
        clear hw'
        have B5 := bh hB b5.out
        have V5 := Lib.hid (hV.out.keep b5.out)
        have W5 := Lib.hid (hW.out.keep b5.out)
        have X5 := Lib.hid (hX.out.keep b5.out)
        clear b5 R1 hB hV hW hX k0 k1 v0 v1
        go_wp2_with fail
        go_roundw
        case rel => exact ⟨k + 1, false, rfl, by go_num, hlt, HA3, B5, V5, W5, X5⟩
        case measure => simp [intOf]; omega
    · have HB2 := Lib.hid (show b = decide (stoF s.k s.a E = 0) by
        rw [hA.out, List.take_of_length_le (by rw [← HL.out]; omega), Bool.eq_iff_iff, List.all_eq_true, decide_eq_true_iff, HPT.out]
        simp)
      clear hA
      generalize stoF s.k s.a E = r3 at *
      go_wp2_with fail
      refine (C3.out _ hB.out).mono ?_
      rintro e w7 ⟨rfl, b7⟩
      have B7 := bh hB b7
      have V7 := Lib.hid (hV.out.keep b7)
      have W7 := Lib.hid (hW.out.keep b7)
      have X7 := Lib.hid (hX.out.keep b7)
      clear b7 hB hV hW hX v0 v1
      by_cases h3 : r3 = 0
      · rw [decide_eq_true h3] at HB2
        have HB3 := HB2.out
        subst HB3
        rw [h3, errV_zero]
        clear h3
        obtain ⟨v0, v1⟩ := V7.out
        obtain ⟨c0, c1, c2, c3, c4, c5, c6⟩ := W7.out
        obtain ⟨x0, x1, x2, x3⟩ := X7.out
        have HLT : w.heap.size + 1 + 1 < w7.heap.size := block_lt_of_cell x0
        have bx := below_box w7 (.cells #[.slice s.KA s.kn s.kc, .slice none 0 0] 25)
        have Y5 := Lib.hid (vr2_new w7 (.slice s.KA s.kn s.kc) (.slice none 0 0) 25)
        have B5 := bh B7 bx
        have V5 := Lib.hid (V7.out.keep bx)
        have W5 := Lib.hid (W7.out.keep bx)
        have X5 := Lib.hid (X7.out.keep bx)
        have h8 : s.an ≤ 8 := HA8.out
        go_wp2_with fail
        obtain ⟨w5, hw5⟩ : ∃ w5, w7.alloc (.cells #[.slice s.KA s.kn s.kc, .slice none 0 0] 25) = w5 := ⟨_, rfl⟩
        have hlt5 : w7.heap.size < w5.heap.size := by rw [← hw5]; simp
        rw [hw5] at B5 V5 W5 X5 Y5 bx ⊢
        clear hw5 X7 v0 v1 c0 c1 c2 c3 c4 c5 c6 x0 x1 x2 x3
        obtain ⟨v0, v1⟩ := V5.out
        obtain ⟨x0, x1, x2, x3⟩ := X5.out
        have HKX : ∀ w', Below w5.heap.size w5 w' → AnOk w' x := fun w' hb => HX.out.keep (B5.out.trans (hb.mono B5.out.size))
        have HKS : ∀ w', Below w5.heap.size w5 w' → As w' s.AA s.an s.ac s.L := fun w' hb => HS.out.a.keep (B5.out.trans (hb.mono B5.out.size))
        have P1 : Below w5.heap.size w5 (w5.drew.alloc (.cells #[] 55)) := (Below.refl _ _).drew.alloc (Nat.le_refl _) _
        have P2 : Below w5.heap.size w5 ((w5.drew.alloc (.cells #[] 55)).alloc (.cells #[.string x.d.id, .slice x.WA x.wn x.wc, .slice x.TA x.tn x.tc, .slice x.NA x.nn x.nc] 55)) := P1.alloc (by simp) _
        have P4 : Below w5.heap.size w5 (w5.drew.alloc (.cells #[.string x.d.id, .slice x.WA x.wn x.wc, .slice x.TA x.tn x.tc, .slice x.NA x.nn x.nc] 55)) := (Below.refl _ _).drew.alloc (Nat.le_refl _) _
        have P3 : Below w5.heap.size w5 ((w5.drew.alloc (.cells #[.string x.d.id, .slice x.WA x.wn x.wc, .slice x.TA x.tn x.tc, .slice x.NA x.nn x.nc] 55)).alloc (.cells #[] 55)) := P4.alloc (by simp) _
        have O1 : (w5.drew.alloc (.cells #[] 55)).ownsRow w5.heap.size 55 4 (.slice (some ⟨w5.heap.size, 0, none⟩) 0 0) 0 (anCells []) := World.ownsRow_lit (e := 55) (size := 4) (base := w5.heap.size) w5.drew #[] 0 (Nat.le_refl _) (Nat.zero_le _) rfl
        have O2 : ((w5.drew.alloc (.cells #[] 55)).alloc (.cells #[.string x.d.id, .slice x.WA x.wn x.wc, .slice x.TA x.tn x.tc, .slice x.NA x.nn x.nc] 55)).ownsRow w5.heap.size 55 4 (.slice (some ⟨w5.heap.size, 0, none⟩) 0 0) 0 (anCells []) := O1.alloc _
        have O3 : ((w5.drew.alloc (.cells #[.string x.d.id, .slice x.WA x.wn x.wc, .slice x.TA x.tn x.tc, .slice x.NA x.nn x.nc] 55)).alloc (.cells #[] 55)).ownsRow (w5.heap.size + 1) 55 4 (.slice (some ⟨w5.heap.size + 1, 0, none⟩) 0 0) 0 (anCells []) := by
          have := World.ownsRow_lit (e := 55) (size := 4) (base := w5.heap.size + 1) (w5.drew.alloc (.cells #[.string x.d.id, .slice x.WA x.wn x.wc, .slice x.TA x.tn x.tc, .slice x.NA x.nn x.nc] 55)) #[] 0 (by simp) (Nat.zero_le _) rfl
          rwa [show (w5.drew.alloc (.cells #[.string x.d.id, .slice x.WA x.wn x.wc, .slice x.TA x.tn x.tc, .slice x.NA x.nn x.nc] 55)).heap.size = w5.heap.size + 1 by simp] at this
        have L2 : As ((w5.drew.alloc (.cells #[] 55)).alloc (.cells #[.string x.d.id, .slice x.WA x.wn x.wc, .slice x.TA x.tn x.tc, .slice x.NA x.nn x.nc] 55)) (some ⟨w5.heap.size + 1, 0, none⟩) 1 1 [x] := by
          have := as_lit (w5.drew.alloc (.cells #[] 55)) x (HKX _ P1)
          rwa [show (w5.drew.alloc (.cells #[] 55)).heap.size = w5.heap.size + 1 by simp] at this
        have L3 : As ((w5.drew.alloc (.cells #[.string x.d.id, .slice x.WA x.wn x.wc, .slice x.TA x.tn x.tc, .slice x.NA x.nn x.nc] 55)).alloc (.cells #[] 55)) (some ⟨w5.heap.size, 0, none⟩) 1 1 [x] := by
          have := (as_lit w5.drew x (HX.out.keep (B5.out.trans ((Below.refl _ _).drew.mono B5.out.size)))).keep (below_box _ (.cells #[] 55))
          exact this
        have hnil2 : s.AA = none → s.an = 0 ∧ s.ac = 0 := HNIL.out.a
        have hnl : ∀ b : Nat, (some ⟨b, 0, none⟩ : Option Addr) = none → (1 : Nat) = 0 ∧ (1 : Nat) = 0 := fun _ h => nomatch h
        have hk1 : ∀ w', Below w5.heap.size w5 w' → ∀ y ∈ [x], AnOk w' y := fun w' hb y hy => by
          rw [List.mem_singleton.1 hy]
          exact HKX w' hb
        have n0 : w.heap.size ≠ w7.heap.size := by omega
        have n1 : w.heap.size + 1 + 1 ≠ w7.heap.size := by omega
        have hsz6 : (0 + s.an) * 88 ≤ 140737488351232 := by omega
        have hsz8 : (0 + s.an + 1) * 88 ≤ 140737488351232 := by omega
        have A1 := HKS _ P1
        have A2 := HKS _ P2
        have A3 := HKS _ P3
        have e1 : w5.heap.size ≤ (w5.drew.alloc (.cells #[] 55)).heap.size := by simp
        have e2 : w5.heap.size ≤ ((w5.drew.alloc (.cells #[] 55)).alloc (.cells #[.string x.d.id, .slice x.WA x.wn x.wc, .slice x.TA x.tn x.tc, .slice x.NA x.nn x.nc] 55)).heap.size := by simp; omega
        have e3 : w5.heap.size + 1 ≤ ((w5.drew.alloc (.cells #[.string x.d.id, .slice x.WA x.wn x.wc, .slice x.TA x.tn x.tc, .slice x.NA x.nn x.nc] 55)).alloc (.cells #[] 55)).heap.size := by simp
        have hno : ∀ (a : Addr), (some ⟨w5.heap.size + 1, 0, none⟩ : Option Addr) = some a → some a.block ≠ (Value.slice (some ⟨w5.heap.size, 0, none⟩) 0 0).ownBlock := by
          intro a h
          injection h with h
          subst h
          simp [Value.ownBlock]
        have hno3 : ∀ (a : Addr), (some ⟨w5.heap.size, 0, none⟩ : Option Addr) = some a → some a.block ≠ (Value.slice (some ⟨w5.heap.size + 1, 0, none⟩) 0 0).ownBlock := by
          intro a h
          injection h with h
          subst h
          simp [Value.ownBlock]
        have hob1 : ∀ g, (Value.slice (some ⟨w5.heap.size, 0, none⟩) 0 0).ownBlock = some g → w5.heap.size ≤ g := fun g h => own_base O1 g h
        have hob3 : ∀ g, (Value.slice (some ⟨w5.heap.size + 1, 0, none⟩) 0 0).ownBlock = some g → w5.heap.size ≤ g := fun g h => Nat.le_of_succ_le (own_base O3 g h)
        go_region_held3 (fun w' : World => w'.cell? ⟨w.heap.size, 1, none⟩ = some (.slice s.AA s.an s.ac) ∧ w'.cell? ⟨w.heap.size + 1 + 1, 0, none⟩ = some (.string x.d.id) ∧ w'.cell? ⟨w.heap.size + 1 + 1, 1, none⟩ = some (.slice x.WA x.wn x.wc) ∧ w'.cell? ⟨w.heap.size + 1 + 1, 2, none⟩ = some (.slice x.TA x.tn x.tc) ∧ w'.cell? ⟨w.heap.size + 1 + 1, 3, none⟩ = some (.slice x.NA x.nn x.nc)) (first | go_keep | exact KK _) ((first | (refine step_own_as rfl (.tmp 52) (.tmp 54) ?_ w5.heap.size (.slice (some ⟨w5.heap.size, 0, none⟩) 0 0) 0 [] s.AA s.an s.ac s.L ?_ ?_ O1 A1 hnil2 hsz6 e1 ?_; (all_goals try rfl); intro v6 w6 hown hgrow; have G6 := P1.grown hgrow P1.size hob1; have u1 := cell_keep G6 v1; have t0 := cell_keep G6 x0; have t1 := cell_keep G6 x1; have t2 := cell_keep G6 x2; have t3 := cell_keep G6 x3; have P6 := G6.alloc G6.size (.cells #[.string x.d.id, .slice x.WA x.wn x.wc, .slice x.TA x.tn x.tc, .slice x.NA x.nn x.nc] 55); have OX := hown.alloc (.cells #[.string x.d.id, .slice x.WA x.wn x.wc, .slice x.TA x.tn x.tc, .slice x.NA x.nn x.nc] 55); have LX := as_lit w6 x (HKX w6 G6); have EX : w5.heap.size ≤ (w6.alloc (.cells #[.string x.d.id, .slice x.WA x.wn x.wc, .slice x.TA x.tn x.tc, .slice x.NA x.nn x.nc] 55)).heap.size := P6.size; have FX : w5.heap.size ≤ w5.heap.size := Nat.le_refl _) | (refine step_own_as rfl (.tmp 52) (.tmp 54) ?_ w5.heap.size (.slice (some ⟨w5.heap.size, 0, none⟩) 0 0) 0 [] s.AA s.an s.ac s.L ?_ ?_ O2 A2 hnil2 hsz6 e2 ?_; (all_goals try rfl); intro v6 w6 hown hgrow; have G6 := P2.grown hgrow P2.size hob1; have u1 := cell_keep G6 v1; have t0 := cell_keep G6 x0; have t1 := cell_keep G6 x1; have t2 := cell_keep G6 x2; have t3 := cell_keep G6 x3; have P6 := G6; have OX := hown; have LX := as_far L2 hgrow hno (hk1 w6 G6); have EX : w5.heap.size ≤ w6.heap.size := P6.size; have FX : w5.heap.size ≤ w5.heap.size := Nat.le_refl _) | (refine step_own_as rfl (.tmp 52) (.tmp 54) ?_ (w5.heap.size + 1) (.slice (some ⟨(w5.heap.size + 1), 0, none⟩) 0 0) 0 [] s.AA s.an s.ac s.L ?_ ?_ O3 A3 hnil2 hsz6 e3 ?_; (all_goals try rfl); intro v6 w6 hown hgrow; have G6 := P3.grown hgrow P3.size hob3; have u1 := cell_keep G6 v1; have t0 := cell_keep G6 x0; have t1 := cell_keep G6 x1; have t2 := cell_keep G6 x2; have t3 := cell_keep G6 x3; have P6 := G6; have OX := hown; have LX := as_far L3 hgrow hno3 (hk1 w6 G6); have EX : w5.heap.size + 1 ≤ w6.heap.size := Nat.le_trans e3 hgrow.size; have FX : w5.heap.size ≤ w5.heap.size + 1 := Nat.le_succ _) | (refine step_own_as rfl (.tmp 55) (.tmp 57) ?_ _ _ _ _ _ _ _ [x] ?_ ?_ OX LX (hnl _) hsz8 EX ?_; (all_goals try rfl); intro v8 w8 hown8 hgrow8; obtain ⟨g8, cap8, hv8⟩ := own_slice2 hown8; subst hv8; have G8 := P6.grown hgrow8 P6.size (fun g hg => Nat.le_trans FX (own_base OX g hg)); have GO := Lib.hid (own_pack hown8 FX); have r1 := cell_keep G8 v1; have q0 := cell_keep G8 x0; have q1 := cell_keep G8 x1; have q2 := cell_keep G8 x2; have q3 := cell_keep G8 x3; have KK := fun v => And.intro (sc_keep v r1 n0) (And.intro (sc_keep v q0 n1) (And.intro (sc_keep v q1 n1) (And.intro (sc_keep v q2 n1) (sc_keep v q3 n1)))); obtain ⟨yy0, yy1, zz0, zz1⟩ := Vr2.keep Y5.out G8)))
        all_goals
          obtain ⟨w9, hw9⟩ : ∃ w9, w8.setCell ⟨w7.heap.size, 1, none⟩ (.slice (some ⟨g8, 0, none⟩) (s.an + 1) cap8) = w9 := ⟨_, rfl⟩
          obtain ⟨BB, hBB, hown9⟩ := GO.out
          have o9 := ownsRow_setCell_below hown9 (a := ⟨w7.heap.size, 1, none⟩) (by show w7.heap.size < BB; omega) (.slice (some ⟨g8, 0, none⟩) (s.an + 1) cap8)
          have P9 : Below w7.heap.size w7 w9 := by
            rw [← hw9]
            exact (bx.trans (G8.mono bx.size)).setCell (p := ⟨w7.heap.size, 1, none⟩) (Nat.le_refl _) _
          have y0 : w9.cell? ⟨w7.heap.size, 0, none⟩ = some (.slice s.KA s.kn s.kc) := by
            rw [← hw9, World.cell?_setCell_other _ ⟨w7.heap.size, 1, none⟩ ⟨w7.heap.size, 0, none⟩ _ (by intro e; injection e with _ e; cases e)]
            exact yy0
          have y1 : w9.cell? ⟨w7.heap.size, 1, none⟩ = some (.slice (some ⟨g8, 0, none⟩) (s.an + 1) cap8) := by
            rw [← hw9]
            exact World.cell?_setCell_same w8 ⟨w7.heap.size, 1, none⟩ _ yy1
          rw [hw9] at o9 ⊢
          have V9 := Lib.hid (V7.out.keep P9)
          have W9 := Lib.hid (W7.out.keep P9)
          have B9 := bh B7 P9
          have HW4 := Lib.hid (show w.heap.size + 1 + 1 < w7.heap.size from HLT)
          have hokL : ∀ y ∈ s.L ++ [x], AnOk w9 y := fun y hy => by
            rcases List.mem_append.1 hy with hy | hy
            · obtain ⟨j, hj, rfl⟩ := List.getElem_of_mem hy
              obtain ⟨_, _, _, _, _, _, h⟩ := (HS.out.a.keep B9.out).at_ j _ (List.getElem?_eq_getElem hj)
              exact h
            · rw [List.mem_singleton.1 hy]; exact HX.out.keep B9.out
          obtain ⟨A8, c8, e8, as8⟩ := as_of_own o9 (by rw [List.length_append, HS.out.a.len]; rfl) hokL (by unfold maxLen; omega)
          injection e8 with e81 _ e82
          subst e81
          subst e82
          have SW := Lib.hid (show ScOk w9 ⟨s.KA, s.kn, s.kc, s.K, some ⟨g8, 0, none⟩, s.an + 1, cap8, s.L ++ [x]⟩ from ⟨HS.out.k.keep B9.out, as8⟩)
          have hmk : (⟨s.KA, s.kn, s.kc, s.K, some ⟨g8, 0, none⟩, s.an + 1, cap8, s.L ++ [x]⟩ : Sc).k = s.k := rfl
          have hma : (⟨s.KA, s.kn, s.kc, s.K, some ⟨g8, 0, none⟩, s.an + 1, cap8, s.L ++ [x]⟩ : Sc).a = s.a ++ [x.d] := by unfold Sc.a; simp
          have D1 := schema_Check _ w9 SW.out
          have D2 := fun w' hb => schema_Asks ⟨s.KA, s.kn, s.kc, s.K, some ⟨g8, 0, none⟩, s.an + 1, cap8, s.L ++ [x]⟩ q w' (SW.out.keep hb) (HQ.out.keep (B9.out.trans (hb.mono B9.out.size)))
          rw [hmk, hma] at D1 D2
          unfold Sc.v at D1 D2
          unfold Rq.v at D2
          dsimp only at D1 D2
          have C8 := Lib.hid D1
          have C9 := Lib.hid D2
          have HAM := Lib.hid (fun h1 h2 => asks_more (T := actionT) (K := s.k) (L := s.a) (x := x.d) (a := q.who) (b := q.act) (c := q.what) (P := q.P) h1 h2)
          clear D1 D2 hmk hma as8 hokL o9 hown9 hBB P9 hw9 GO G8 yy0 yy1 zz0 zz1 KK SW bx hlt5 HLT
          generalize schF s.k (s.a ++ [x.d]) = r1 at *
          generalize asksF actionT s.k s.a q.who q.act q.what q.P = r5 at *
          generalize asksF actionT s.k (s.a ++ [x.d]) q.who q.act q.what q.P = r6 at *
          have HLT2 := block_lt_of_cell y0
          go_wp2_with fail
          refine C8.out.mono ?_
          rintro e w10 ⟨rfl, b10⟩
          have B10 := bh B9 b10
          have V10 := Lib.hid (V9.out.keep b10)
          have W10 := Lib.hid (W9.out.keep b10)
          replace y0 := cell_keep b10 y0
          replace y1 := cell_keep b10 y1
          have P10 := Lib.hid b10
          clear b10 B9 V9 W9 HLT2 C8
          by_cases h1 : r1 = 0
          · rw [h1, errV_zero]
            have HAM2 := Lib.hid (HAM.out h1)
            clear h1 HAM
            obtain ⟨v0, v1⟩ := V10.out
            obtain ⟨c0, c1, c2, c3, c4, c5, c6⟩ := W10.out
            go_wp2_with fail
            refine (C5.out _ B10.out).mono ?_
            rintro e w11 ⟨rfl, b11⟩
            have B11 := bh B10 b11
            have W11 := Lib.hid (W10.out.keep b11)
            replace y0 := cell_keep b11 y0
            replace y1 := cell_keep b11 y1
            have P11 := Lib.hid (P10.out.trans (b11.mono P10.out.size))
            clear b11 B10 V10 W10 P10 v0 v1 c0 c1 c2 c3 c4 c5 c6
            by_cases h2 : r5 = 0
            · rw [h2, errV_zero]
              have HR := HAM2.out h2
              rw [HR, errV_zero] at C9
              clear h2 HR HAM2
              obtain ⟨c0, c1, c2, c3, c4, c5, c6⟩ := W11.out
              go_wp2_with fail
              refine (C9.out _ P11.out).mono ?_
              rintro e w12 ⟨rfl, b12⟩
              have B12 := bh B11 b12
              clear b12
              go_wp2_with fail
              go_ret
              exact ⟨rfl, B12.out⟩
            · have HEV := Lib.hid (errV_ne h2)
              rw [HEV.out]
              clear h2 HAM2
              go_wp2_with fail
              go_ret
              exact ⟨rfl, B11.out⟩
          · have HEV := Lib.hid (errV_ne h1)
            rw [HEV.out]
            clear h1 HAM
            go_wp2_with fail
            go_ret
            exact ⟨rfl, B10.out⟩
      · rw [decide_eq_false h3] at HB2
        have HB3 := HB2.out
        subst HB3
        rw [errV_ne h3]
        clear h3
        obtain ⟨v0, v1⟩ := V7.out
        obtain ⟨c0, c1, c2, c3, c4, c5, c6⟩ := W7.out
        obtain ⟨x0, x1, x2, x3⟩ := X7.out
        have HLT : w.heap.size + 1 + 1 < w7.heap.size := block_lt_of_cell x0
        have bx := below_box w7 (.cells #[.slice s.KA s.kn s.kc, .slice none 0 0] 25)
        have Y5 := Lib.hid (vr2_new w7 (.slice s.KA s.kn s.kc) (.slice none 0 0) 25)
        have B5 := bh B7 bx
        have V5 := Lib.hid (V7.out.keep bx)
        have W5 := Lib.hid (W7.out.keep bx)
        have X5 := Lib.hid (X7.out.keep bx)
        have h8 : s.an ≤ 8 := HA8.out
        go_wp2_with fail
        obtain ⟨w5, hw5⟩ : ∃ w5, w7.alloc (.cells #[.slice s.KA s.kn s.kc, .slice none 0 0] 25) = w5 := ⟨_, rfl⟩
        have hlt5 : w7.heap.size < w5.heap.size := by rw [← hw5]; simp
        rw [hw5] at B5 V5 W5 X5 Y5 bx ⊢
        clear hw5 X7 v0 v1 c0 c1 c2 c3 c4 c5 c6 x0 x1 x2 x3
        obtain ⟨v0, v1⟩ := V5.out
        obtain ⟨x0, x1, x2, x3⟩ := X5.out
        have HKX : ∀ w', Below w5.heap.size w5 w' → AnOk w' x := fun w' hb => HX.out.keep (B5.out.trans (hb.mono B5.out.size))
        have HKS : ∀ w', Below w5.heap.size w5 w' → As w' s.AA s.an s.ac s.L := fun w' hb => HS.out.a.keep (B5.out.trans (hb.mono B5.out.size))
        have P1 : Below w5.heap.size w5 (w5.drew.alloc (.cells #[] 55)) := (Below.refl _ _).drew.alloc (Nat.le_refl _) _
        have P2 : Below w5.heap.size w5 ((w5.drew.alloc (.cells #[] 55)).alloc (.cells #[.string x.d.id, .slice x.WA x.wn x.wc, .slice x.TA x.tn x.tc, .slice x.NA x.nn x.nc] 55)) := P1.alloc (by simp) _
        have P4 : Below w5.heap.size w5 (w5.drew.alloc (.cells #[.string x.d.id, .slice x.WA x.wn x.wc, .slice x.TA x.tn x.tc, .slice x.NA x.nn x.nc] 55)) := (Below.refl _ _).drew.alloc (Nat.le_refl _) _
        have P3 : Below w5.heap.size w5 ((w5.drew.alloc (.cells #[.string x.d.id, .slice x.WA x.wn x.wc, .slice x.TA x.tn x.tc, .slice x.NA x.nn x.nc] 55)).alloc (.cells #[] 55)) := P4.alloc (by simp) _
        have O1 : (w5.drew.alloc (.cells #[] 55)).ownsRow w5.heap.size 55 4 (.slice (some ⟨w5.heap.size, 0, none⟩) 0 0) 0 (anCells []) := World.ownsRow_lit (e := 55) (size := 4) (base := w5.heap.size) w5.drew #[] 0 (Nat.le_refl _) (Nat.zero_le _) rfl
        have O2 : ((w5.drew.alloc (.cells #[] 55)).alloc (.cells #[.string x.d.id, .slice x.WA x.wn x.wc, .slice x.TA x.tn x.tc, .slice x.NA x.nn x.nc] 55)).ownsRow w5.heap.size 55 4 (.slice (some ⟨w5.heap.size, 0, none⟩) 0 0) 0 (anCells []) := O1.alloc _
        have O3 : ((w5.drew.alloc (.cells #[.string x.d.id, .slice x.WA x.wn x.wc, .slice x.TA x.tn x.tc, .slice x.NA x.nn x.nc] 55)).alloc (.cells #[] 55)).ownsRow (w5.heap.size + 1) 55 4 (.slice (some ⟨w5.heap.size + 1, 0, none⟩) 0 0) 0 (anCells []) := by
          have := World.ownsRow_lit (e := 55) (size := 4) (base := w5.heap.size + 1) (w5.drew.alloc (.cells #[.string x.d.id, .slice x.WA x.wn x.wc, .slice x.TA x.tn x.tc, .slice x.NA x.nn x.nc] 55)) #[] 0 (by simp) (Nat.zero_le _) rfl
          rwa [show (w5.drew.alloc (.cells #[.string x.d.id, .slice x.WA x.wn x.wc, .slice x.TA x.tn x.tc, .slice x.NA x.nn x.nc] 55)).heap.size = w5.heap.size + 1 by simp] at this
        have L2 : As ((w5.drew.alloc (.cells #[] 55)).alloc (.cells #[.string x.d.id, .slice x.WA x.wn x.wc, .slice x.TA x.tn x.tc, .slice x.NA x.nn x.nc] 55)) (some ⟨w5.heap.size + 1, 0, none⟩) 1 1 [x] := by
          have := as_lit (w5.drew.alloc (.cells #[] 55)) x (HKX _ P1)
          rwa [show (w5.drew.alloc (.cells #[] 55)).heap.size = w5.heap.size + 1 by simp] at this
        have L3 : As ((w5.drew.alloc (.cells #[.string x.d.id, .slice x.WA x.wn x.wc, .slice x.TA x.tn x.tc, .slice x.NA x.nn x.nc] 55)).alloc (.cells #[] 55)) (some ⟨w5.heap.size, 0, none⟩) 1 1 [x] := by
          have := (as_lit w5.drew x (HX.out.keep (B5.out.trans ((Below.refl _ _).drew.mono B5.out.size)))).keep (below_box _ (.cells #[] 55))
          exact this
        have hnil2 : s.AA = none → s.an = 0 ∧ s.ac = 0 := HNIL.out.a
        have hnl : ∀ b : Nat, (some ⟨b, 0, none⟩ : Option Addr) = none → (1 : Nat) = 0 ∧ (1 : Nat) = 0 := fun _ h => nomatch h
        have hk1 : ∀ w', Below w5.heap.size w5 w' → ∀ y ∈ [x], AnOk w' y := fun w' hb y hy => by
          rw [List.mem_singleton.1 hy]
          exact HKX w' hb
        have n0 : w.heap.size ≠ w7.heap.size := by omega
        have n1 : w.heap.size + 1 + 1 ≠ w7.heap.size := by omega
        have hsz6 : (0 + s.an) * 88 ≤ 140737488351232 := by omega
        have hsz8 : (0 + s.an + 1) * 88 ≤ 140737488351232 := by omega
        have A1 := HKS _ P1
        have A2 := HKS _ P2
        have A3 := HKS _ P3
        have e1 : w5.heap.size ≤ (w5.drew.alloc (.cells #[] 55)).heap.size := by simp
        have e2 : w5.heap.size ≤ ((w5.drew.alloc (.cells #[] 55)).alloc (.cells #[.string x.d.id, .slice x.WA x.wn x.wc, .slice x.TA x.tn x.tc, .slice x.NA x.nn x.nc] 55)).heap.size := by simp; omega
        have e3 : w5.heap.size + 1 ≤ ((w5.drew.alloc (.cells #[.string x.d.id, .slice x.WA x.wn x.wc, .slice x.TA x.tn x.tc, .slice x.NA x.nn x.nc] 55)).alloc (.cells #[] 55)).heap.size := by simp
        have hno : ∀ (a : Addr), (some ⟨w5.heap.size + 1, 0, none⟩ : Option Addr) = some a → some a.block ≠ (Value.slice (some ⟨w5.heap.size, 0, none⟩) 0 0).ownBlock := by
          intro a h
          injection h with h
          subst h
          simp [Value.ownBlock]
        have hno3 : ∀ (a : Addr), (some ⟨w5.heap.size, 0, none⟩ : Option Addr) = some a → some a.block ≠ (Value.slice (some ⟨w5.heap.size + 1, 0, none⟩) 0 0).ownBlock := by
          intro a h
          injection h with h
          subst h
          simp [Value.ownBlock]
        have hob1 : ∀ g, (Value.slice (some ⟨w5.heap.size, 0, none⟩) 0 0).ownBlock = some g → w5.heap.size ≤ g := fun g h => own_base O1 g h
        have hob3 : ∀ g, (Value.slice (some ⟨w5.heap.size + 1, 0, none⟩) 0 0).ownBlock = some g → w5.heap.size ≤ g := fun g h => Nat.le_of_succ_le (own_base O3 g h)
        go_region_held3 (fun w' : World => w'.cell? ⟨w.heap.size, 1, none⟩ = some (.slice s.AA s.an s.ac) ∧ w'.cell? ⟨w.heap.size + 1 + 1, 0, none⟩ = some (.string x.d.id) ∧ w'.cell? ⟨w.heap.size + 1 + 1, 1, none⟩ = some (.slice x.WA x.wn x.wc) ∧ w'.cell? ⟨w.heap.size + 1 + 1, 2, none⟩ = some (.slice x.TA x.tn x.tc) ∧ w'.cell? ⟨w.heap.size + 1 + 1, 3, none⟩ = some (.slice x.NA x.nn x.nc)) (first | go_keep | exact KK _) ((first | (refine step_own_as rfl (.tmp 52) (.tmp 54) ?_ w5.heap.size (.slice (some ⟨w5.heap.size, 0, none⟩) 0 0) 0 [] s.AA s.an s.ac s.L ?_ ?_ O1 A1 hnil2 hsz6 e1 ?_; (all_goals try rfl); intro v6 w6 hown hgrow; have G6 := P1.grown hgrow P1.size hob1; have u1 := cell_keep G6 v1; have t0 := cell_keep G6 x0; have t1 := cell_keep G6 x1; have t2 := cell_keep G6 x2; have t3 := cell_keep G6 x3; have P6 := G6.alloc G6.size (.cells #[.string x.d.id, .slice x.WA x.wn x.wc, .slice x.TA x.tn x.tc, .slice x.NA x.nn x.nc] 55); have OX := hown.alloc (.cells #[.string x.d.id, .slice x.WA x.wn x.wc, .slice x.TA x.tn x.tc, .slice x.NA x.nn x.nc] 55); have LX := as_lit w6 x (HKX w6 G6); have EX : w5.heap.size ≤ (w6.alloc (.cells #[.string x.d.id, .slice x.WA x.wn x.wc, .slice x.TA x.tn x.tc, .slice x.NA x.nn x.nc] 55)).heap.size := P6.size; have FX : w5.heap.size ≤ w5.heap.size := Nat.le_refl _) | (refine step_own_as rfl (.tmp 52) (.tmp 54) ?_ w5.heap.size (.slice (some ⟨w5.heap.size, 0, none⟩) 0 0) 0 [] s.AA s.an s.ac s.L ?_ ?_ O2 A2 hnil2 hsz6 e2 ?_; (all_goals try rfl); intro v6 w6 hown hgrow; have G6 := P2.grown hgrow P2.size hob1; have u1 := cell_keep G6 v1; have t0 := cell_keep G6 x0; have t1 := cell_keep G6 x1; have t2 := cell_keep G6 x2; have t3 := cell_keep G6 x3; have P6 := G6; have OX := hown; have LX := as_far L2 hgrow hno (hk1 w6 G6); have EX : w5.heap.size ≤ w6.heap.size := P6.size; have FX : w5.heap.size ≤ w5.heap.size := Nat.le_refl _) | (refine step_own_as rfl (.tmp 52) (.tmp 54) ?_ (w5.heap.size + 1) (.slice (some ⟨(w5.heap.size + 1), 0, none⟩) 0 0) 0 [] s.AA s.an s.ac s.L ?_ ?_ O3 A3 hnil2 hsz6 e3 ?_; (all_goals try rfl); intro v6 w6 hown hgrow; have G6 := P3.grown hgrow P3.size hob3; have u1 := cell_keep G6 v1; have t0 := cell_keep G6 x0; have t1 := cell_keep G6 x1; have t2 := cell_keep G6 x2; have t3 := cell_keep G6 x3; have P6 := G6; have OX := hown; have LX := as_far L3 hgrow hno3 (hk1 w6 G6); have EX : w5.heap.size + 1 ≤ w6.heap.size := Nat.le_trans e3 hgrow.size; have FX : w5.heap.size ≤ w5.heap.size + 1 := Nat.le_succ _) | (refine step_own_as rfl (.tmp 55) (.tmp 57) ?_ _ _ _ _ _ _ _ [x] ?_ ?_ OX LX (hnl _) hsz8 EX ?_; (all_goals try rfl); intro v8 w8 hown8 hgrow8; obtain ⟨g8, cap8, hv8⟩ := own_slice2 hown8; subst hv8; have G8 := P6.grown hgrow8 P6.size (fun g hg => Nat.le_trans FX (own_base OX g hg)); have GO := Lib.hid (own_pack hown8 FX); have r1 := cell_keep G8 v1; have q0 := cell_keep G8 x0; have q1 := cell_keep G8 x1; have q2 := cell_keep G8 x2; have q3 := cell_keep G8 x3; have KK := fun v => And.intro (sc_keep v r1 n0) (And.intro (sc_keep v q0 n1) (And.intro (sc_keep v q1 n1) (And.intro (sc_keep v q2 n1) (sc_keep v q3 n1)))); obtain ⟨yy0, yy1, zz0, zz1⟩ := Vr2.keep Y5.out G8)))
        all_goals
          obtain ⟨w9, hw9⟩ : ∃ w9, w8.setCell ⟨w7.heap.size, 1, none⟩ (.slice (some ⟨g8, 0, none⟩) (s.an + 1) cap8) = w9 := ⟨_, rfl⟩
          obtain ⟨BB, hBB, hown9⟩ := GO.out
          have o9 := ownsRow_setCell_below hown9 (a := ⟨w7.heap.size, 1, none⟩) (by show w7.heap.size < BB; omega) (.slice (some ⟨g8, 0, none⟩) (s.an + 1) cap8)
          have P9 : Below w7.heap.size w7 w9 := by
            rw [← hw9]
            exact (bx.trans (G8.mono bx.size)).setCell (p := ⟨w7.heap.size, 1, none⟩) (Nat.le_refl _) _
          have y0 : w9.cell? ⟨w7.heap.size, 0, none⟩ = some (.slice s.KA s.kn s.kc) := by
            rw [← hw9, World.cell?_setCell_other _ ⟨w7.heap.size, 1, none⟩ ⟨w7.heap.size, 0, none⟩ _ (by intro e; injection e with _ e; cases e)]
            exact yy0
          have y1 : w9.cell? ⟨w7.heap.size, 1, none⟩ = some (.slice (some ⟨g8, 0, none⟩) (s.an + 1) cap8) := by
            rw [← hw9]
            exact World.cell?_setCell_same w8 ⟨w7.heap.size, 1, none⟩ _ yy1
          rw [hw9] at o9 ⊢
          have V9 := Lib.hid (V7.out.keep P9)
          have W9 := Lib.hid (W7.out.keep P9)
          have B9 := bh B7 P9
          have HW4 := Lib.hid (show w.heap.size + 1 + 1 < w7.heap.size from HLT)
          have hokL : ∀ y ∈ s.L ++ [x], AnOk w9 y := fun y hy => by
            rcases List.mem_append.1 hy with hy | hy
            · obtain ⟨j, hj, rfl⟩ := List.getElem_of_mem hy
              obtain ⟨_, _, _, _, _, _, h⟩ := (HS.out.a.keep B9.out).at_ j _ (List.getElem?_eq_getElem hj)
              exact h
            · rw [List.mem_singleton.1 hy]; exact HX.out.keep B9.out
          obtain ⟨A8, c8, e8, as8⟩ := as_of_own o9 (by rw [List.length_append, HS.out.a.len]; rfl) hokL (by unfold maxLen; omega)
          injection e8 with e81 _ e82
          subst e81
          subst e82
          have SW := Lib.hid (show ScOk w9 ⟨s.KA, s.kn, s.kc, s.K, some ⟨g8, 0, none⟩, s.an + 1, cap8, s.L ++ [x]⟩ from ⟨HS.out.k.keep B9.out, as8⟩)
          have hmk : (⟨s.KA, s.kn, s.kc, s.K, some ⟨g8, 0, none⟩, s.an + 1, cap8, s.L ++ [x]⟩ : Sc).k = s.k := rfl
          have hma : (⟨s.KA, s.kn, s.kc, s.K, some ⟨g8, 0, none⟩, s.an + 1, cap8, s.L ++ [x]⟩ : Sc).a = s.a ++ [x.d] := by unfold Sc.a; simp
          have D1 := schema_Check _ w9 SW.out
          have D2 := fun w' hb => schema_Asks ⟨s.KA, s.kn, s.kc, s.K, some ⟨g8, 0, none⟩, s.an + 1, cap8, s.L ++ [x]⟩ q w' (SW.out.keep hb) (HQ.out.keep (B9.out.trans (hb.mono B9.out.size)))
          rw [hmk, hma] at D1 D2
          unfold Sc.v at D1 D2
          unfold Rq.v at D2
          dsimp only at D1 D2
          have C8 := Lib.hid D1
          have C9 := Lib.hid D2
          have HAM := Lib.hid (fun h1 h2 => asks_more (T := actionT) (K := s.k) (L := s.a) (x := x.d) (a := q.who) (b := q.act) (c := q.what) (P := q.P) h1 h2)
          clear D1 D2 hmk hma as8 hokL o9 hown9 hBB P9 hw9 GO G8 yy0 yy1 zz0 zz1 KK SW bx hlt5 HLT
          generalize schF s.k (s.a ++ [x.d]) = r1 at *
          generalize asksF actionT s.k s.a q.who q.act q.what q.P = r5 at *
          generalize asksF actionT s.k (s.a ++ [x.d]) q.who q.act q.what q.P = r6 at *
          have HLT2 := block_lt_of_cell y0
          go_wp2_with fail
          refine C8.out.mono ?_
          rintro e w10 ⟨rfl, b10⟩
          have B10 := bh B9 b10
          have V10 := Lib.hid (V9.out.keep b10)
          have W10 := Lib.hid (W9.out.keep b10)
          replace y0 := cell_keep b10 y0
          replace y1 := cell_keep b10 y1
          have P10 := Lib.hid b10
          clear b10 B9 V9 W9 HLT2 C8
          by_cases h1 : r1 = 0
          · rw [h1, errV_zero]
            have HAM2 := Lib.hid (HAM.out h1)
            clear h1 HAM
            obtain ⟨v0, v1⟩ := V10.out
            obtain ⟨c0, c1, c2, c3, c4, c5, c6⟩ := W10.out
            go_wp2_with fail
            refine (C5.out _ B10.out).mono ?_
            rintro e w11 ⟨rfl, b11⟩
            have B11 := bh B10 b11
            have W11 := Lib.hid (W10.out.keep b11)
            replace y0 := cell_keep b11 y0
            replace y1 := cell_keep b11 y1
            have P11 := Lib.hid (P10.out.trans (b11.mono P10.out.size))
            clear b11 B10 V10 W10 P10 v0 v1 c0 c1 c2 c3 c4 c5 c6
            by_cases h2 : r5 = 0
            · rw [h2, errV_zero]
              have HR := HAM2.out h2
              rw [HR, errV_zero] at C9
              clear h2 HR HAM2
              obtain ⟨c0, c1, c2, c3, c4, c5, c6⟩ := W11.out
              go_wp2_with fail
              refine (C9.out _ P11.out).mono ?_
              rintro e w12 ⟨rfl, b12⟩
              have B12 := bh B11 b12
              clear b12
              go_wp2_with fail
              go_ret
              exact ⟨rfl, B12.out⟩
            · have HEV := Lib.hid (errV_ne h2)
              rw [HEV.out]
              clear h2 HAM2
              go_wp2_with fail
              go_ret
              exact ⟨rfl, B11.out⟩
          · have HEV := Lib.hid (errV_ne h1)
            rw [HEV.out]
            clear h1 HAM
            go_wp2_with fail
            go_ret
            exact ⟨rfl, B10.out⟩
theorem SchemaParts_walk (s : Sc) (A : Option Addr) (n c : Nat) (E : List En) (q : Rq) (x : An) (w : World) (hs : ScOk w s) (hnil : ScNil s) (hE : Es w A n c E) (hq : RqOk w q) (hx : AnOk w x) (hg : Door w) :
    Calls Tryz.prog 5 #[s.v, .slice A n c, q.v, x.v] w fun e w' => e = .returned (.bool true) ∧ Below w.heap.size w w' := by
  by_cases g1 : schF s.k s.a = 0
  · by_cases g2 : storeF E = 0
    · exact SchemaParts_ok s A n c E q x w hs hnil hE hq hx hg g1 g2
    · exact SchemaParts_no s A n c E q x w hs hnil hE hq hx hg g1 g2
  · exact SchemaParts_bad s A n c E q x w hs hnil hE hq hx hg g1
end Go.Proofs.YtnolmlhcikcceaaGreatDoor
