/-
  BagMakes: the walk of the law.
-/
import Derived.Test.YtfbgaefbalbohaaDoorBagMk
import Derived.Test.YtfbgaefbalbohaaDoorRefSetOf
import Derived.Test.YtfbgaefbalbohaaDoorRefBag
import Derived.Test.YtfbgaefbalbohaaDoorTold
namespace Go.Proofs.YtfbgaefbalbohaaDoor
open Go.RowKit Go.Wk Go.Sort
set_option maxRecDepth 100000

/-- One row behind another one, nil included. -/
theorem wpList_append_rows {P : Program} {w : World} {ops : Array Oper} {rest : List Oper} {o : Oper} {a : Act} {Q : Exit → Act → World → Prop} (hgd : o.guard = none) (s x : Operand) (t : TypeId)
    (ho : o.op = .call { callee := .builtin .append, args := #[s, x], argTypes := #[t, t] })
    (base base2 : Nat) (e : TypeId) (i : TypeInfo) (z : Value) (bytes : Nat) (ht : P.underlying t = some (.slice e)) (hi : P.info? e = some i) (hz : i.zero = some z)
    (hsize : i.size = 1) (hby : i.bytes = bytes) (hzs : z.cells.size = 1)
    (v vx : Value) (n m : Nat) (xs ys : List Value) (hs : a.eval s = v) (hown : w.ownsRow base e 1 v n xs) (hx : a.eval x = vx) (hown2 : w.ownsRow base2 e 1 vx m ys) (h1 : ∀ u ∈ ys, u.oneCell' = true)
    (h63 : n + m ≤ maxLen) (hbytes : (n + m) * bytes ≤ 140737488355328) (hbase : base ≤ w.heap.size)
    (h : ∀ v' w', w'.ownsRow base e 1 v' (n + m) (xs ++ ys) → w.grownBy w' v.ownBlock → (v'.ownBlock = v.ownBlock ∨ v'.ownBlock = some w.heap.size) → wpList P ops Q rest (a.put o.dst v') w') :
    wpList P ops Q (o :: rest) a w := by
  rcases hown2.2 with ⟨rfl, rfl⟩ | ⟨g, cap, cur, rfl, -⟩
  · have hy : ys = [] := List.eq_nil_of_length_eq_zero (by have := hown2.1; omega)
    subst hy
    exact wpList_append_own_none hgd s x t ho base e i 1 ht hi v n xs hs hown hx (h v w (by simpa using hown) (World.grownBy.refl _ _) (.inl rfl))
  · exact wpList_append_own_at w hgd s x t ho base e i z 1 bytes ht hi hz hsize hby hzs (by decide) v n xs hs hown ⟨g, 0, none⟩ m cap ys hx (by have := hown2.1; omega) (hown2.cells (g := g) rfl) h1 h63 hbytes hbase fun v' w' q1 q2 _ q4 => h v' w' q1 q2 q4

/-- Three slices of the call's own. -/
def Want (w : World) (b : Nat) (s0 s1 s2 : Value) : Prop := w.heap[b]? = some (.cells #[s0, s1, s2] 50 (0, 0))
section
variable {w w' : World} {b : Nat} {x0 x1 x2 v : Value}
theorem Want.keep (h : Want w b x0 x1 x2) (hb : Below w.heap.size w w') : Want w' b x0 x1 x2 := by
  unfold Want at *
  rw [(grown_of_below hb none).block b (Array.getElem?_eq_some_iff.1 h).1 (by simp)]; exact h
theorem Want.row {g : Option Nat} (h : Want w b x0 x1 x2) (hg : w.grownBy w' g) (hne : g ≠ some b) : Want w' b x0 x1 x2 := by
  unfold Want at *
  rw [hg.block b (Array.getElem?_eq_some_iff.1 h).1 (Ne.symm hne)]; exact h
theorem Want.c0 (h : Want w b x0 x1 x2) : w.cell? ⟨b, 0, none⟩ = some x0 ∧ w.frozen? ⟨b, 0, none⟩ = false := by
  unfold Want at h; exact ⟨by simp [World.cell?, h], by simp [World.frozen?, h]⟩
theorem Want.c1 (h : Want w b x0 x1 x2) : w.cell? ⟨b, 1, none⟩ = some x1 ∧ w.frozen? ⟨b, 1, none⟩ = false := by
  unfold Want at h; exact ⟨by simp [World.cell?, h], by simp [World.frozen?, h]⟩
theorem Want.c2 (h : Want w b x0 x1 x2) : w.cell? ⟨b, 2, none⟩ = some x2 ∧ w.frozen? ⟨b, 2, none⟩ = false := by
  unfold Want at h; exact ⟨by simp [World.cell?, h], by simp [World.frozen?, h]⟩
theorem Want.s0 (h : Want w b x0 x1 x2) : Want (w.setCell ⟨b, 0, none⟩ v) b v x1 x2 := by
  unfold Want at *; rw [setCell_eq]; simp [mapBlock, Array.getElem?_modify, h, onCells]
theorem Want.s1 (h : Want w b x0 x1 x2) : Want (w.setCell ⟨b, 1, none⟩ v) b x0 v x2 := by
  unfold Want at *; rw [setCell_eq]; simp [mapBlock, Array.getElem?_modify, h, onCells]
theorem Want.s2 (h : Want w b x0 x1 x2) : Want (w.setCell ⟨b, 2, none⟩ v) b x0 x1 v := by
  unfold Want at *; rw [setCell_eq]; simp [mapBlock, Array.getElem?_modify, h, onCells]
end
theorem filt_true (P Q : List Nd) : ((setParts P).filter fun x => hasB (setParts Q) x == true) = meetL P Q := by unfold meetL; simp
theorem filt_false (P Q : List Nd) : ((setParts P).filter fun x => hasB (setParts Q) x == false) = lessL P Q := by unfold lessL; simp
theorem sub_apart {A : Option Addr} {r : Sl} {g : Option Nat} (h : SubSl A r) (hA : ∀ a0, A = some a0 → g ≠ some a0.block) : Apart r g := fun _ a ea q => by
  obtain ⟨a0, e, hb⟩ := h a ea
  exact hA a0 e (by rw [q, hb])
theorem OwnSls.sls {w : World} {B n c : Nat} {A : Option Addr} {V : List Sl} (h : OwnSls w B (.slice A n c) V) : n = V.length ∧ SlsAt w A V := by
  obtain ⟨A', c', e, -, q⟩ := h.at
  injection e with e1 e2 e3
  subst e1 e2 e3
  exact ⟨rfl, q⟩
theorem own_dest {w : World} {B : Nat} {v : Value} {V : List Sl} (h : OwnSls w B v V) : ∃ A c, v = .slice A V.length c := let ⟨A, c, e, _⟩ := h.at; ⟨A, c, e⟩

section
variable (A1 : Option Addr) (n1 c1 : Nat) (S : List Nd) (A2 : Option Addr) (n2 c2 : Nat) (T : List Nd) (w : World) (hs : Ns w A1 n1 c1 S) (ht : Ns w A2 n2 c2 T) (hg : Door w)
include hs ht hg
set_option maxHeartbeats 8000000 in
theorem BagMakes_bad (h : bothE S T ≠ 0) :
    Calls Tryd.prog 7 #[.slice A1 n1 c1, .slice A2 n2 c2] w fun e w' => e = .returned (.bool true) ∧ Below w.heap.size w w' := by
  have C1 := Lib.hid (fun w' hb => ref_SetFault A1 A2 n1 n2 c1 c2 S T w' (hs.keep (w' := w') hb) (ht.keep hb))
  have C2 := Lib.hid (fun w' hb => (hs.keep (w' := w') hb).union (ht.keep hb))
  have C3 := Lib.hid (fun w' hb => (hs.keep (w' := w') hb).meet (ht.keep hb))
  have C4 := Lib.hid (fun w' hb => (hs.keep (w' := w') hb).less (ht.keep hb))
  have HG := Lib.hid hg
  unfold OpPost at C2 C3 C4
  rw [opE_bad h, opV_bad h] at C2 C3 C4
  have y0 : (bothE S T == 0) = false := beq_eq_false_iff_ne.2 h
  generalize bothE S T = y at *
  clear h hs ht hg
  go_enter Tryd.func7, Tryd.ntmps7
  go_wp2_with fail
  refine (C1.out _ (Below.refl _ _)).mono ?_
  rintro e w1 ⟨rfl, b1⟩
  have B1 := Lib.hid (b1.alloc b1.size (.cells #[.slice none 0 0, .slice none 0 0, .slice none 0 0] 50))
  have W := Lib.hid (show Want (w1.alloc (.cells #[.slice none 0 0, .slice none 0 0, .slice none 0 0] 50)) w1.heap.size (.slice none 0 0) (.slice none 0 0) (.slice none 0 0) from heap_alloc_new _ _)
  clear b1
  go_wp2_with fail
  refine (C2.out _ B1.out).mono ?_
  rintro e w2 ⟨a2, m2, d2, rfl, N2, b2⟩
  have B2 := bh B1 b2
  replace W := Lib.hid (W.out.keep b2)
  clear b2 B1
  have H2 := Lib.hid N2
  clear N2
  go_wp2_with fail
  refine (same_Error y y _ (HG.out.keep B2.out)).mono ?_
  rintro e w3 ⟨rfl, b3⟩
  have B3 := bh B2 b3
  replace W := Lib.hid (W.out.keep b3)
  replace H2 := Lib.hid (H2.out.keep b3)
  clear b3 B2
  rw [beq_self_eq_true]
  obtain ⟨p2, p2'⟩ := W.out.c2
  go_wp2_with fail
  refine (H2.out.alike (ns_nil _)).mono ?_
  rintro e w4 ⟨rfl, b4⟩
  have B4 := bh B3 b4
  replace W := Lib.hid (W.out.keep b4)
  clear b4 B3
  clear p2 p2' H2
  go_wp2_with fail
  refine (C1.out _ B4.out).mono ?_
  rintro e w5 ⟨rfl, b5⟩
  have B5 := bh B4 b5
  replace W := Lib.hid (W.out.keep b5)
  clear b5 B4
  go_wp2_with fail
  refine (C3.out _ B5.out).mono ?_
  rintro e w6 ⟨a6, m6, d6, rfl, N6, b6⟩
  have B6 := bh B5 b6
  replace W := Lib.hid (W.out.keep b6)
  clear b6 B5
  have H6 := Lib.hid N6
  clear N6
  go_wp2_with fail
  refine (same_Error y y _ (HG.out.keep B6.out)).mono ?_
  rintro e w7 ⟨rfl, b7⟩
  have B7 := bh B6 b7
  replace W := Lib.hid (W.out.keep b7)
  replace H6 := Lib.hid (H6.out.keep b7)
  clear b7 B6
  rw [beq_self_eq_true]
  obtain ⟨p0, p0'⟩ := W.out.c0
  go_wp2_with fail
  refine (H6.out.alike (ns_nil _)).mono ?_
  rintro e w8 ⟨rfl, b8⟩
  have B8 := bh B7 b8
  replace W := Lib.hid (W.out.keep b8)
  clear b8 B7
  clear p0 p0' H6
  go_wp2_with fail
  refine (C4.out _ B8.out).mono ?_
  rintro e w9 ⟨a9, m9, d9, rfl, N9, b9⟩
  have B9 := bh B8 b9
  replace W := Lib.hid (W.out.keep b9)
  clear b9 B8
  have H9 := Lib.hid N9
  clear N9
  go_wp2_with fail
  refine (same_Error y y _ (HG.out.keep B9.out)).mono ?_
  rintro e w10 ⟨rfl, b10⟩
  have B10 := bh B9 b10
  replace W := Lib.hid (W.out.keep b10)
  replace H9 := Lib.hid (H9.out.keep b10)
  clear b10 B9
  rw [beq_self_eq_true]
  obtain ⟨p1, p1'⟩ := W.out.c1
  go_wp2_with fail
  refine (H9.out.alike (ns_nil _)).mono ?_
  rintro e w11 ⟨rfl, b11⟩
  have B11 := bh B10 b11
  clear b11 B10
  clear p1 p1' H9
  go_wp2_with fail
  go_ret
  exact ⟨rfl, B11.out⟩
set_option maxHeartbeats 16000000 in
theorem BagMakes_ok (h : bothE S T = 0) :
    Calls Tryd.prog 7 #[.slice A1 n1 c1, .slice A2 n2 c2] w fun e w' => e = .returned (.bool true) ∧ Below w.heap.size w w' := by
  obtain ⟨i0, hi, hz0, hz1, hz2⟩ := info_parts slInfo
  obtain ⟨fa, fb, fc, fd⟩ := bothE_zero.1 h
  have C1 := Lib.hid (fun w' hb => ref_SetFault A1 A2 n1 n2 c1 c2 S T w' (hs.keep (w' := w') hb) (ht.keep hb))
  rw [h] at C1
  have C2 := Lib.hid (fun w' hb => ref_ChosenO A1 A2 n1 n2 c1 c2 S T true w' (hs.keep (w' := w') hb) (ht.keep hb) fa fc fb fd)
  have C3 := Lib.hid (fun w' hb => ref_ChosenO A1 A2 n1 n2 c1 c2 S T false w' (hs.keep (w' := w') hb) (ht.keep hb) fa fc fb fd)
  rw [filt_true] at C2
  rw [filt_false] at C3
  have C4 := Lib.hid (fun w' hb => refParts_setO A2 n2 c2 T w' (ht.keep (w' := w') hb) fb fd)
  have C9 := Lib.hid (fun w' hb => (hs.keep (w' := w') hb).union (ht.keep hb))
  unfold OpPost at C9
  rw [opE_ok h, opV_ok h] at C9
  have C13 := Lib.hid (fun w' hb => (hs.keep (w' := w') hb).meet_ok (ht.keep hb) h rfl)
  have C16 := Lib.hid (fun w' hb => (hs.keep (w' := w') hb).less_ok (ht.keep hb) h rfl)
  have HG := Lib.hid hg
  have HEI := Lib.hid (either_union h)
  have LS := setParts_len fa fc
  have LT := Lib.hid (setParts_len fb fd)
  have LM := Lib.hid (show (meetL S T).length ≤ 200 from Nat.le_trans (List.length_filter_le _ _) LS)
  have LL := Lib.hid (show (lessL S T).length ≤ 200 from Nat.le_trans (List.length_filter_le _ _) LS)
  have AB1 := Lib.hid (show ∀ a, A1 = some a → a.block < w.heap.size from hs.at_.lt (isV_zero.1 fa).2.pos)
  have AB2 := Lib.hid (show ∀ a, A2 = some a → a.block < w.heap.size from ht.at_.lt (isV_zero.1 fb).2.pos)
  clear h hs ht hg fa fb fc fd LS
  go_enter Tryd.func7, Tryd.ntmps7
  go_wp2_with fail
  refine (C1.out _ (Below.refl _ _)).mono ?_
  rintro e w1 ⟨rfl, b1⟩
  have B1 := Lib.hid (b1.alloc b1.size (.cells #[.slice none 0 0, .slice none 0 0, .slice none 0 0] 50))
  have W := Lib.hid (show Want (w1.alloc (.cells #[.slice none 0 0, .slice none 0 0, .slice none 0 0] 50)) w1.heap.size (.slice none 0 0) (.slice none 0 0) (.slice none 0 0) from heap_alloc_new _ _)
  have hb0 := b1.size
  have hA0 : (w1.alloc (.cells #[.slice none 0 0, .slice none 0 0, .slice none 0 0] 50)).heap.size = w1.heap.size + 1 := by simp
  clear b1
  go_wp2_with fail
  refine (C2.out _ B1.out).mono ?_
  rintro e w2 ⟨v1, V1, rfl, O1, e1, b2, -⟩
  have B2 := bh B1 b2
  have sz2 := b2.size
  rw [hA0] at sz2
  replace W := Lib.hid (W.out.keep b2)
  obtain ⟨a1, d1, rfl, -, S1⟩ := O1.at
  have HS1 := Lib.hid S1
  have E1 := Lib.hid e1
  clear O1 S1 e1 b2 B1 hA0
  go_wp2_with fail
  refine (C3.out _ B2.out).mono ?_
  rintro e w3 ⟨v2, V2, rfl, O2, e2, b3, q2⟩
  have B3 := bh B2 b3
  have sz3 := b3.size
  replace W := Lib.hid (W.out.keep b3)
  replace HS1 := Lib.hid (HS1.out.keep b3)
  obtain ⟨a2, d2, rfl⟩ := own_dest O2
  have HO2 := Lib.hid O2
  have G2 := Lib.hid (show ∀ g, (Value.slice a2 V2.length d2).ownBlock = some g → w2.heap.size ≤ g ∧ g < w3.heap.size from fun g hg => ⟨own_base O2.own g hg, own_lt O2.own g hg⟩)
  have Q2 := Lib.hid q2
  have E2 := Lib.hid e2
  clear O2 q2 e2 b3 B2
  go_wp2_with fail
  refine (C4.out _ B3.out).mono ?_
  rintro e w4 ⟨v3, v3', V3, rfl, T4, e4, b4, q4⟩
  have B4 := bh B3 b4
  have sz4 := b4.size
  replace W := Lib.hid (W.out.keep b4)
  replace HS1 := Lib.hid (HS1.out.keep b4)
  replace HO2 := Lib.hid (HO2.out.keep b4)
  obtain ⟨a3, d3, rfl⟩ := own_dest T4.a
  have HO3 := Lib.hid T4.a
  have Q3 := Lib.hid q4
  have E3 := Lib.hid e4
  have G3 := Lib.hid (own_base T4.a.own)
  clear T4 q4 e4 b4 B3
  have hl1 : V1.length ≤ 200 := by have := congrArg List.length E1.out; have := LM.out; simp only [List.length_map] at *; omega
  have hl2 : V2.length ≤ 200 := by have := congrArg List.length E2.out; have := LL.out; simp only [List.length_map] at *; omega
  have hl3 : V3.length ≤ 200 := by have := congrArg List.length E3.out; have := LT.out; simp only [List.length_map] at *; omega
  have R5 := Lib.hid (ref_SetOf a1 V1.length d1 V1 w4 rfl (by omega) HS1.out)
  rw [E1.out] at R5
  clear HS1 E1
  go_wp2_with fail
  refine (R5.out).mono ?_
  rintro e w5 ⟨A5, m5, d5, rfl, N5, b5, x5⟩
  have sz5 := b5.size
  replace W := Lib.hid (W.out.keep b5)
  replace HO2 := Lib.hid (HO2.out.keep b5)
  replace HO3 := Lib.hid (HO3.out.keep b5)
  have B5 := bh B4 b5
  have hgr := grown_set w5 w1.heap.size 0 (.slice A5 m5 d5)
  have B5s := Lib.hid (B5.out.setCell (p := ⟨w1.heap.size, 0, none⟩) hb0 (.slice A5 m5 d5))
  obtain ⟨p0, p0'⟩ := W.out.c0
  replace W := Lib.hid (W.out.s0 (v := .slice A5 m5 d5))
  have H5 := Lib.hid (N5.but hgr (fun _ a ea => by have := x5 a ea; omega))
  have X5 := Lib.hid x5
  replace HO2 := Lib.hid (HO2.out.row hgr (.inr (fun q => by have := (G2.out _ q).1; omega)) (fun r hr => sub_apart (Q2.out r hr) (fun a0 ea q => by have := AB1.out a0 ea; injection q with q; omega)))
  replace HO3 := Lib.hid (HO3.out.row hgr (.inr (fun q => by have := G3.out _ q; omega)) (fun r hr => sub_apart (Q3.out r hr) (fun a0 ea q => by have := AB2.out a0 ea; injection q with q; omega)))
  have R6 := Lib.hid (ref_SetOf a2 V2.length d2 V2 _ rfl (by omega) HO2.out.sls.2)
  rw [E2.out] at R6
  clear hgr N5 x5 b5 B4 B5 R5
  go_wp2_with fail
  refine (R6.out).mono ?_
  rintro e w6 ⟨A6, m6, d6, rfl, N6, b6, x6⟩
  have sz6 := b6.size
  replace W := Lib.hid (W.out.keep b6)
  replace HO2 := Lib.hid (HO2.out.keep b6)
  replace HO3 := Lib.hid (HO3.out.keep b6)
  replace H5 := Lib.hid (H5.out.keep b6)
  have B6 := bh B5s b6
  have hgr := grown_set w6 w1.heap.size 1 (.slice A6 m6 d6)
  have hsz5 : (w5.setCell ⟨w1.heap.size, 0, none⟩ (.slice A5 m5 d5)).heap.size = w5.heap.size := by simp
  rw [hsz5] at sz6 x6
  have B6s := Lib.hid (B6.out.setCell (p := ⟨w1.heap.size, 1, none⟩) hb0 (.slice A6 m6 d6))
  obtain ⟨p1, p1'⟩ := W.out.c1
  replace W := Lib.hid (W.out.s1 (v := .slice A6 m6 d6))
  replace H5 := Lib.hid (H5.out.but hgr (fun _ a ea => by have := X5.out a ea; omega))
  have H6 := Lib.hid (N6.but hgr (fun _ a ea => by have := x6 a ea; omega))
  have X6 := Lib.hid x6
  replace HO2 := Lib.hid (HO2.out.row hgr (.inr (fun q => by have := (G2.out _ q).1; omega)) (fun r hr => sub_apart (Q2.out r hr) (fun a0 ea q => by have := AB1.out a0 ea; injection q with q; omega)))
  replace HO3 := Lib.hid (HO3.out.row hgr (.inr (fun q => by have := G3.out _ q; omega)) (fun r hr => sub_apart (Q3.out r hr) (fun a0 ea q => by have := AB2.out a0 ea; injection q with q; omega)))
  have hsz6 : (w6.setCell ⟨w1.heap.size, 1, none⟩ (.slice A6 m6 d6)).heap.size = w6.heap.size := by simp
  have hb6 := B6s.out.size
  clear hgr N6 x6 b6 B5s B6 R6 p0 p0'
  go_wp2_with (at_builtin; refine wpList_append_rows rfl _ _ 30 rfl _ _ 31 i0 _ 24 Tryd.underlying30 hi hz0 hz1 hz2 rfl _ _ V2.length V3.length (V2.map Sl.v) (V3.map Sl.v) rfl HO2.out.own rfl HO3.out.own (by intro u hu; obtain ⟨r, -, rfl⟩ := List.mem_map.1 hu; rfl) ?c1 ?c2 ?c3 ?_)
  case c1 => unfold maxLen; omega
  case c2 => omega
  case c3 => omega
  intro v7 w7 hown hgrow hat
  have O7 := HO2.out.append HO3.out.each (fun r hr => sub_apart (Q3.out r hr) (fun a0 ea q => by have := AB2.out a0 ea; have := (G2.out _ q).1; omega)) hown hgrow (by rw [hsz6]; exact hat)
  have B7 := Lib.hid (B6s.out.grown hgrow hb6 (fun g hg => by have := (G2.out _ hg).1; omega))
  replace W := Lib.hid (W.out.row hgrow (fun q => by have := (G2.out _ q).1; omega))
  replace H5 := Lib.hid (Ns.row (r := ⟨A5, m5, d5, _⟩) H5.out hgrow (fun _ a ea q => by have := X5.out a ea; have := (G2.out _ q).2; omega))
  replace H6 := Lib.hid (Ns.row (r := ⟨A6, m6, d6, _⟩) H6.out hgrow (fun _ a ea q => by have := X6.out a ea; have := (G2.out _ q).2; omega))
  have sz7 := hgrow.size
  rw [hsz6] at sz7
  obtain ⟨a7, d7, hv7⟩ := own_dest O7
  have hl7 : (V2 ++ V3).length ≤ 400 := by rw [List.length_append]; omega
  have R8 := ref_SetOf a7 (V2 ++ V3).length d7 (V2 ++ V3) w7 rfl (by omega) (by rw [hv7] at O7; exact O7.sls.2)
  rw [show (V2 ++ V3).map Sl.P = eitherL S T by unfold eitherL; rw [List.map_append, E2.out, E3.out]] at R8
  generalize (V2 ++ V3).length = N at R8 hv7
  have R8' := Lib.hid R8
  clear hown hgrow hat O7 HO2 HO3 R8 hl7
  subst hv7
  unfold RSetPost at R8'
  rw [HEI.out.1, HEI.out.2] at R8'
  generalize Wk.setE (unionL S T) = y at *
  go_wp2_with fail
  refine (R8'.out).mono ?_
  rintro e w8 ⟨A8, m8, d8, rfl, N8, b8, x8⟩
  have sz8 := b8.size
  replace W := Lib.hid (W.out.keep b8)
  replace H5 := Lib.hid (H5.out.keep b8)
  replace H6 := Lib.hid (H6.out.keep b8)
  have B8 := bh B7 b8
  have hgr := grown_set w8 w1.heap.size 2 (.slice A8 m8 d8)
  have B8s := Lib.hid (B8.out.setCell (p := ⟨w1.heap.size, 2, none⟩) hb0 (.slice A8 m8 d8))
  obtain ⟨p2, p2'⟩ := W.out.c2
  replace W := Lib.hid (W.out.s2 (v := .slice A8 m8 d8))
  replace H5 := Lib.hid (H5.out.but hgr (fun _ a ea => by have := X5.out a ea; omega))
  replace H6 := Lib.hid (H6.out.but hgr (fun _ a ea => by have := X6.out a ea; omega))
  have H8 := Lib.hid (N8.but hgr (fun _ a ea => by have := x8 a ea; omega))
  clear hgr N8 x8 b8 B7 B8 R8' p1 p1'
  go_wp2_with fail
  refine (C9.out _ B8s.out).mono ?_
  rintro e w9 ⟨A9, m9, d9, rfl, N9, b9⟩
  have B9 := bh B8s b9
  replace W := Lib.hid (W.out.keep b9)
  replace H5 := Lib.hid (H5.out.keep b9)
  replace H6 := Lib.hid (H6.out.keep b9)
  replace H8 := Lib.hid (H8.out.keep b9)
  have H9 := Lib.hid N9
  clear b9 N9 B8s p2 p2'
  go_wp2_with fail
  refine (same_Error y y _ (HG.out.keep B9.out)).mono ?_
  rintro e w10 ⟨rfl, b10⟩
  have B10 := bh B9 b10
  replace W := Lib.hid (W.out.keep b10)
  replace H5 := Lib.hid (H5.out.keep b10)
  replace H6 := Lib.hid (H6.out.keep b10)
  replace H8 := Lib.hid (H8.out.keep b10)
  replace H9 := Lib.hid (H9.out.keep b10)
  clear b10 B9
  rw [beq_self_eq_true]
  obtain ⟨r2, r2'⟩ := W.out.c2
  go_wp2_with fail
  refine (H9.out.alike H8.out).mono ?_
  rintro e w11 ⟨rfl, b11⟩
  have B11 := bh B10 b11
  replace W := Lib.hid (W.out.keep b11)
  replace H5 := Lib.hid (H5.out.keep b11)
  replace H6 := Lib.hid (H6.out.keep b11)
  clear b11 B10
  clear r2 r2' H8 H9
  go_wp2_with fail
  refine (C1.out _ B11.out).mono ?_
  rintro e w12 ⟨rfl, b12⟩
  have B12 := bh B11 b12
  replace W := Lib.hid (W.out.keep b12)
  replace H5 := Lib.hid (H5.out.keep b12)
  replace H6 := Lib.hid (H6.out.keep b12)
  clear b12 B11
  go_wp2_with fail
  refine (C13.out _ B12.out).mono ?_
  rintro e w13 ⟨A13, m13, d13, rfl, N13, b13⟩
  have B13 := bh B12 b13
  replace W := Lib.hid (W.out.keep b13)
  replace H5 := Lib.hid (H5.out.keep b13)
  replace H6 := Lib.hid (H6.out.keep b13)
  clear b13 B12
  have H13 := Lib.hid N13
  clear N13
  have K := Lib.hid (fun w' hb => same_Error 0 0 w' (HG.out.keep (w' := w') hb))
  rw [errV_zero] at K
  go_wp2_with fail
  refine (K.out _ B13.out).mono ?_
  rintro e w14 ⟨rfl, b14⟩
  have B14 := bh B13 b14
  replace W := Lib.hid (W.out.keep b14)
  replace H5 := Lib.hid (H5.out.keep b14)
  replace H6 := Lib.hid (H6.out.keep b14)
  replace H13 := Lib.hid (H13.out.keep b14)
  clear b14 B13
  rw [beq_self_eq_true]
  obtain ⟨r0, r0'⟩ := W.out.c0
  go_wp2_with fail
  refine (H13.out.alike H5.out).mono ?_
  rintro e w15 ⟨rfl, b15⟩
  have B15 := bh B14 b15
  replace W := Lib.hid (W.out.keep b15)
  replace H6 := Lib.hid (H6.out.keep b15)
  clear b15 B14
  clear r0 r0' H5 H13
  go_wp2_with fail
  refine (C16.out _ B15.out).mono ?_
  rintro e w16 ⟨A17, m17, d17, rfl, N17, b16⟩
  have B16 := bh B15 b16
  replace W := Lib.hid (W.out.keep b16)
  replace H6 := Lib.hid (H6.out.keep b16)
  clear b16 B15
  have H17 := Lib.hid N17
  clear N17
  go_wp2_with fail
  refine (K.out _ B16.out).mono ?_
  rintro e w17 ⟨rfl, b17⟩
  have B17 := bh B16 b17
  replace W := Lib.hid (W.out.keep b17)
  replace H6 := Lib.hid (H6.out.keep b17)
  replace H17 := Lib.hid (H17.out.keep b17)
  clear b17 B16
  rw [beq_self_eq_true]
  obtain ⟨r1, r1'⟩ := W.out.c1
  go_wp2_with fail
  refine (H17.out.alike H6.out).mono ?_
  rintro e w18 ⟨rfl, b18⟩
  have B18 := bh B17 b18
  clear b18 B17
  clear r1 r1'
  go_wp2_with fail
  go_ret
  exact ⟨rfl, B18.out⟩
end
theorem BagMakes_walk (A1 : Option Addr) (n1 c1 : Nat) (S : List Nd) (A2 : Option Addr) (n2 c2 : Nat) (T : List Nd) (w : World) (hs : Ns w A1 n1 c1 S) (ht : Ns w A2 n2 c2 T) (hg : Door w) :
    Calls Tryd.prog 7 #[.slice A1 n1 c1, .slice A2 n2 c2] w fun e w' => e = .returned (.bool true) ∧ Below w.heap.size w w' := by
  by_cases h : bothE S T = 0
  · exact BagMakes_ok A1 n1 c1 S A2 n2 c2 T w hs ht hg h
  · exact BagMakes_bad A1 n1 c1 S A2 n2 c2 T w hs ht hg h
end Go.Proofs.YtfbgaefbalbohaaDoor
