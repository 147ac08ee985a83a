/-
  ref KindEnd: of records.
  Aids of later walks: a node's four cells; contracts that end in Below, met in a region that draws.
  Slices of slices of nodes: how they lie; those that a call collects; slices.Clone of nodes.
  val.split: the parts of a set or a record, in new slices.
  ref FieldsOf, FieldKind, PartKind: where the fields of a record's type stand, and their types; ref KindEnd, KindFault.
  Types as they lie.
  Variables of several cells of the call's own.
-/
import Derived.Maps.AppendAt
import Derived.Test.YtmekockjgldndaaDoorQj7
namespace Go.Proofs.YtmekockjgldndaaDoor
open Go.RowKit Go.Wk Go.Sort
set_option maxRecDepth 100000

set_option maxHeartbeats 2000000 in
/-- Of records. -/
theorem ke_rec (P : List Nd) (m : Nat) (a : Addr) (n c q : Nat) (w : World) (ih : KeC P (some a) n c m) (hns : Ns w (some a) n c P) (hq : q < n) (hf : n - q ≤ m + 1) (x : Nd) (hx : P[q]? = some x) (h1 : x.op = 46) (h2 : 0 ≤ x.n) (h3 : x.s = emp) (h4 : x.t = emp) :
    Calls Tryd.prog 11 #[.slice (some a) n c, .int .i64 q] w fun e w' => e = .returned (.int .i64 (kEnd P q)) ∧ Below w.heap.size w w' := by
  have HE := Lib.hid (show kEnd P q = fEnd P x.n.toNat emp (q + 1) by rw [kEnd_rec hx h1, if_pos ⟨h2, h3, h4⟩])
  have hm := hns.max
  unfold maxLen at hm
  have HNS := Lib.hid hns
  have HLN := Lib.hid hns.len
  have hxn : x.n ≤ 9223372036854775807 := (hns.ok x (List.mem_of_getElem? hx)).hi
  have IH := Lib.hid (fun p w' (hp : q < p) hb => ih p w' (hns.keep (w' := w') hb) (by omega))
  obtain ⟨a', ea, d0, d1, d2, d3⟩ := hns.at_ q x hx
  injection ea with ea
  subst ea
  have hl : (a.add (q * 4)).block < w.heap.size := block_lt_of_cell d0
  have HB := Lib.hid (below_box w (.cells #[.int .i64 46, .int .i64 x.n, .string ⟨#[]⟩, .string ⟨#[]⟩] 36))
  have HX := Lib.hid (bx4_new' w (.int .i64 46) (.int .i64 x.n) (.string ⟨#[]⟩) (.string ⟨#[]⟩) 36)
  have e1 : decide (x.n < 0) = false := decide_eq_false (by omega)
  rw [h1] at d0
  rw [show x.s = ⟨#[]⟩ from h3] at d2
  rw [show x.t = ⟨#[]⟩ from h4] at d3
  generalize kEnd P q = r at *
  clear hns h1 h3 h4 ih
  have g0 : decide (n ≤ q) = false := decide_eq_false (by omega)
  go_enter Tryd.func11, Tryd.ntmps11
  go_wp2_with fail
  go_loopw [1, 6, 7] (fun u l i wr => ∃ (k p : Nat) (last : ByteArray), u = .int .i64 p ∧ l = .string last ∧ i = .int .i64 k ∧ k ≤ x.n.toNat ∧ q < p ∧ p ≤ n ∧ Hid (last.size ≤ maxLen) ∧ Hid (fEnd P x.n.toNat emp (q + 1) = fEnd P (x.n.toNat - k) last p) ∧ Hid (Below w.heap.size w wr) ∧ Hid (wr.cell? ⟨w.heap.size, 1, none⟩ = some (.int .i64 x.n))) (fun _ _ i _ => x.n.toNat - (intOf i).toNat)
  case atStart => exact ⟨0, q + 1, ⟨#[]⟩, by go_num, rfl, rfl, Nat.zero_le _, Nat.lt_succ_self _, hq, Lib.hid (Nat.zero_le _), Lib.hid rfl, HB, HX⟩
  case round =>
    obtain ⟨k, p, last, rfl, rfl, rfl, hk, hqp, hpn, hLS, hFE, hW, hX⟩ := hrel
    have x1 := hX.out
    have hw1 : w.heap.size < wr.heap.size := block_lt_of_cell x1
    by_cases hlt : k < x.n.toNat
    · have g1 : decide ((k : Int) < x.n) = true := decide_eq_true (by omega)
      have HFE := Lib.hid (show fEnd P x.n.toNat emp (q + 1) = fEnd P (x.n.toNat - k - 1 + 1) last p by rw [hFE.out]; congr 1; omega)
      by_cases hpn2 : p < n
      · have hpl : p < P.length := by rw [← HLN.out]; exact hpn2
        obtain ⟨a', ea, e0, e1, e2, e3⟩ := (HNS.out.keep hW.out).at_ p _ (List.getElem?_eq_getElem hpl)
        injection ea with ea
        subst ea
        have HYS := Lib.hid (HNS.out.ok _ (List.getElem_mem hpl)).s
        have HY0 := List.getElem?_eq_getElem hpl
        obtain ⟨y, hy⟩ : ∃ y, y = P[p] := ⟨_, rfl⟩
        rw [← hy] at e0 e1 e2 e3 HYS HY0
        have HY := Lib.hid HY0
        clear hy HY0
        have hla : (a.add (p * 4)).block < wr.heap.size := block_lt_of_cell e0
        have HBAD := Lib.hid (show ¬ kfOk last y → r = -1 from fun h => by rw [HE.out, HFE.out, fEnd_succ HY.out, if_neg h])
        have HGOOD := Lib.hid (show kfOk last y → r = if 0 ≤ kEnd P (p + 1) then fEnd P (x.n.toNat - k - 1) y.s (kEnd P (p + 1)).toNat else -1 from fun h => by rw [HE.out, HFE.out, fEnd_succ HY.out, if_pos h])
        have V1 := Lib.hid (fun w => ref_NameFault y.s w HYS.out)
        have V2 := Lib.hid (fun w => ref_Texts last y.s w hLS.out HYS.out)
        obtain ⟨yo, yn, ys, yt⟩ := y
        simp only at e0 e1 e2 e3 V1 V2
        by_cases h47 : yo = 47
        · subst h47
          by_cases hn0 : yn < 0
          · have HBV := Lib.hid (HBAD.out fun h => by rcases h.2.1 with h | h <;> (simp only at h; omega))
            have f1 : decide (yn < 0) = true := decide_eq_true hn0
            clear hn0
            go_wp2_with fail
            go_ret
            exact ⟨by rw [HBV.out]; rfl, hW.out⟩
          · have f1 : decide (yn < 0) = false := decide_eq_false hn0
            by_cases hn1 : 1 < yn
            · have HBV := Lib.hid (HBAD.out fun h => by rcases h.2.1 with h | h <;> (simp only at h; omega))
              have f2 : decide (1 < yn) = true := decide_eq_true hn1
              clear hn0 hn1
              go_wp2_with fail
              go_ret
              exact ⟨by rw [HBV.out]; rfl, hW.out⟩
            · have f2 : decide (1 < yn) = false := decide_eq_false hn1
              have HN01 := Lib.hid (show yn = 0 ∨ yn = 1 by omega)
              rcases emp_or' yt with rfl | ⟨ht, t1, t2⟩
              · by_cases hf0 : nameFault ys = 0
                · have HF0 := Lib.hid hf0
                  rw [hf0] at V1
                  by_cases hc : 0 ≤ cmpB last ys
                  · have HBV := Lib.hid (HBAD.out fun h => by have := h.2.2.2.2; simp only at this; omega)
                    have f3 : decide (0 ≤ cmpB last ys) = true := decide_eq_true hc
                    clear hn0 hn1 hf0 hc
                    generalize cmpB last ys = cc at *
                    go_wp2_with fail
                    refine (V1.out _).mono ?_
                    rintro e w1 ⟨rfl, rfl⟩
                    go_wp2_with fail
                    refine (V2.out _).mono ?_
                    rintro e w2 ⟨rfl, b2⟩
                    have B2 := Lib.hid (hW.out.trans (b2.mono hW.out.size))
                    have hw2 : w.heap.size < w2.heap.size := Nat.lt_of_lt_of_le hw1 b2.size
                    have X2 := Lib.hid (cell_keep b2 x1)
                    have E2 := Lib.hid (cell_keep b2 e2)
                    clear b2 e0 e1 e2 e3 x1
                    go_wp2_with fail
                    go_ret
                    exact ⟨by rw [HBV.out]; rfl, B2.out⟩
                  · have HGV := Lib.hid (HGOOD.out ⟨rfl, HN01.out, rfl, HF0.out, by simp only; omega⟩)
                    have f3 : decide (0 ≤ cmpB last ys) = false := decide_eq_false hc
                    clear hn0 hn1 hf0 hc HBAD HGOOD
                    generalize cmpB last ys = cc at *
                    go_wp2_with fail
                    refine (V1.out _).mono ?_
                    rintro e w1 ⟨rfl, rfl⟩
                    go_wp2_with fail
                    refine (V2.out _).mono ?_
                    rintro e w2 ⟨rfl, b2⟩
                    have B2 := Lib.hid (hW.out.trans (b2.mono hW.out.size))
                    have hw2 : w.heap.size < w2.heap.size := Nat.lt_of_lt_of_le hw1 b2.size
                    have X2 := Lib.hid (cell_keep b2 x1)
                    have E2 := Lib.hid (cell_keep b2 e2)
                    have hla2 : (a.add (p * 4)).block < w2.heap.size := Nat.lt_of_lt_of_le hla b2.size
                    clear b2 e0 e1 e2 e3 x1
                    have e2' := E2.out
                    go_wp2_with fail
                    refine (IH.out (p + 1) w2 (by omega) B2.out).mono ?_
                    rintro e w3 ⟨rfl, b3⟩
                    have B3 := Lib.hid (B2.out.trans (b3.mono B2.out.size))
                    have X3 := Lib.hid (cell_keep b3 X2.out)
                    clear b3 e2'
                    by_cases hk0 : 0 ≤ kEnd P (p + 1)
                    · obtain ⟨e', he, hep, hel⟩ := kEnd_lt hk0
                      have HF2 := Lib.hid (show fEnd P x.n.toNat emp (q + 1) = fEnd P (x.n.toNat - (k + 1)) ys e' by
                        have h1 := HGV.out
                        rw [if_pos hk0, he, HE.out] at h1
                        simp only [Int.toNat_natCast] at h1
                        rw [h1, show x.n.toNat - (k + 1) = x.n.toNat - k - 1 by omega])
                      have hen : e' ≤ n := by rw [HLN.out]; exact hel
                      rw [he]
                      clear hk0 he hel
                      go_wp2_with fail
                      go_roundw
                      case rel => exact ⟨k + 1, e', ys, rfl, rfl, by go_num, hlt, by omega, hen, HYS, HF2, B3, X3⟩
                      case measure => simp [intOf]; omega
                    · have HBV := Lib.hid (show r = -1 by rw [HGV.out, if_neg hk0])
                      rw [kEnd_neg hk0]
                      clear hk0
                      go_wp2_with fail
                      go_ret
                      exact ⟨by rw [HBV.out]; rfl, B3.out⟩
                · have HBV := Lib.hid (HBAD.out fun h => hf0 h.2.2.2.1)
                  have f3 : (nameFault ys == 0) = false := beq_eq_false_iff_ne.2 hf0
                  have f4 : (nameFault ys != 0) = true := by rw [bne_iff_ne]; exact hf0
                  clear hn0 hn1 hf0 HBAD HGOOD
                  generalize nameFault ys = nf at *
                  go_wp2_with fail
                  refine (V1.out _).mono ?_
                  rintro e w1 ⟨rfl, rfl⟩
                  go_wp2_with fail
                  go_ret
                  exact ⟨by rw [HBV.out]; rfl, hW.out⟩
              · have HBV := Lib.hid (HBAD.out fun h => ht h.2.2.1)
                clear hn0 hn1 ht
                go_wp2_with fail
                go_ret
                exact ⟨by rw [HBV.out]; rfl, hW.out⟩
        · have HBV := Lib.hid (HBAD.out fun h => h47 h.1)
          have f1 : (yo == 47) = false := beq_eq_false_iff_ne.2 h47
          have f2 : (yo != 47) = true := by rw [bne_iff_ne]; exact h47
          clear h47
          go_wp2_with fail
          go_ret
          exact ⟨by rw [HBV.out]; rfl, hW.out⟩
      · have HBV := Lib.hid (show r = -1 by
          rw [HE.out, HFE.out]
          exact fEnd_out (by rw [← HLN.out]; omega))
        have f1 : decide ((n : Int) ≤ (p : Int)) = true := decide_eq_true (by omega)
        go_wp2_with fail
        go_ret
        exact ⟨by rw [HBV.out]; rfl, hW.out⟩
    · have g1 : decide ((k : Int) < x.n) = false := decide_eq_false (by omega)
      have HFE := Lib.hid (show r = (p : Int) by
        rw [HE.out, hFE.out, show x.n.toNat - k = 0 by omega]
        exact fEnd_zero (by rw [← HLN.out]; exact hpn))
      go_wp2_with fail
      go_ret
      exact ⟨by rw [HFE.out]; rfl, hW.out⟩
end Go.Proofs.YtmekockjgldndaaDoor
namespace Go.Proofs.YtmekockjgldndaaDoor
open Go.RowKit Go.Wk Go.Sort

/-- A contract that ends in Below, in every world of a region that draws. -/
theorem rq {P : Program} {f : FuncId} {args : Array Value} {w : World} {v : Value} (h : ∀ w', Below w.heap.size w w' → Calls P f args w' fun e w'' => e = .returned v ∧ Below w'.heap.size w' w'') :
    ∀ d os, Calls P f args (grow (redrawn w d) os) fun e w'' => e = .returned v ∧ ∃ p : Regrown, w'' = grow (redrawn w p.d) p.os :=
  fun d os => Calls.regrown_of (h _ (below_regrown w d os))
/-- One that leaves all as it was. -/
theorem rqs {P : Program} {f : FuncId} {args : Array Value} {w : World} {v : Value} (h : ∀ w', Calls P f args w' fun e w'' => e = .returned v ∧ w' = w'') :
    ∀ d os, Calls P f args (grow (redrawn w d) os) fun e w'' => e = .returned v ∧ ∃ p : Regrown, w'' = grow (redrawn w p.d) p.os :=
  fun d os => (h _).mono fun _ _ ⟨he, hw⟩ => ⟨he, ⟨⟨d, os⟩, hw.symm⟩⟩

/-- A node's cells. -/
structure Nd4 (w : World) (a : Addr) (x : Nd) : Prop where
  c0 : w.cell? a = some (.int .i64 x.op)
  c1 : w.cell? ⟨a.block, a.off + 1, none⟩ = some (.int .i64 x.n)
  c2 : w.cell? ⟨a.block, a.off + 2, none⟩ = some (.string x.s)
  c3 : w.cell? ⟨a.block, a.off + 3, none⟩ = some (.string x.t)
theorem Nd4.keep {w w' : World} {a : Addr} {x : Nd} (h : Nd4 w a x) (hb : Below w.heap.size w w') : Nd4 w' a x :=
  ⟨cell_keep hb h.c0, cell_keep hb h.c1, cell_keep hb h.c2, cell_keep hb h.c3⟩
theorem NdsAt.nd {w : World} {A : Option Addr} {P : List Nd} (h : NdsAt w A P) {k : Nat} (hk : k < P.length) : ∃ a, A = some a ∧ Nd4 w (a.add (k * 4)) P[k] :=
  let ⟨a, e, h1, h2, h3, h4⟩ := h k P[k] (List.getElem?_eq_getElem hk); ⟨a, e, h1, h2, h3, h4⟩
theorem NdsOk.seg {P : List Nd} (h : NdsOk P) (i j : Nat) : NdsOk (seg P i j) := fun x hx => h x (List.mem_of_mem_drop (List.mem_of_mem_take hx))
end Go.Proofs.YtmekockjgldndaaDoor
namespace Go.Proofs.YtmekockjgldndaaDoor
open Go.RowKit Go.Wk Go.Sort
set_option maxRecDepth 100000

/-- A slice of nodes, as it lies in another slice. -/
structure Sl where
  A : Option Addr
  n : Nat
  c : Nat
  P : List Nd
def Sl.v (r : Sl) : Value := .slice r.A r.n r.c
/-- A slice that holds slices of nodes. -/
def SlsAt (w : World) (A : Option Addr) (V : List Sl) : Prop :=
  ∀ (k : Nat) (r : Sl), V[k]? = some r → ∃ a, A = some a ∧ w.cell? (a.add k) = some (.slice r.A r.n r.c) ∧ Ns w r.A r.n r.c r.P
theorem SlsAt.keep {w w' : World} {A : Option Addr} {V : List Sl} (h : SlsAt w A V) (hb : Below w.heap.size w w') : SlsAt w' A V :=
  fun k r hk => let ⟨a, h1, h2, h3⟩ := h k r hk; ⟨a, h1, cell_keep hb h2, h3.keep hb⟩
theorem SlsAt.at {w : World} {A : Option Addr} {V : List Sl} (h : SlsAt w A V) {k : Nat} (hk : k < V.length) : ∃ a, A = some a ∧ w.cell? (a.add k) = some (.slice V[k].A V[k].n V[k].c) ∧ Ns w V[k].A V[k].n V[k].c V[k].P :=
  h k V[k] (List.getElem?_eq_getElem hk)

theorem Ns.but {w w' : World} {A : Option Addr} {n c : Nat} {P : List Nd} {R : Nat} (h : Ns w A n c P) (hg : w.grownBy w' (some R)) (hR : 0 < P.length → ∀ a, A = some a → a.block ≠ R) : Ns w' A n c P := by
  refine ⟨h.len, h.cap, h.max, ?_, h.ok⟩
  rcases Nat.eq_zero_or_pos P.length with h0 | h0
  · intro k x hx
    have : P = [] := List.eq_nil_of_length_eq_zero h0
    subst this; simp at hx
  · exact h.at_.but hg (hR h0)
/-- A slice of nodes lies apart from a block. -/
def Apart (r : Sl) (g : Option Nat) : Prop := 0 < r.P.length → ∀ a, r.A = some a → g ≠ some a.block
theorem Ns.row {w w' : World} {r : Sl} {g : Option Nat} (h : Ns w r.A r.n r.c r.P) (hg : w.grownBy w' g) (ha : Apart r g) : Ns w' r.A r.n r.c r.P := by
  rcases g with _ | g
  · exact h.keep (grown_none hg)
  · exact h.but hg (fun h0 a e q => ha h0 a e (by rw [q]))

/-- The slices that the call has collected. -/
structure OwnSls (w : World) (B : Nat) (v : Value) (V : List Sl) : Prop where
  own : w.ownsRow B 22 1 v V.length (V.map Sl.v)
  each : ∀ r ∈ V, Ns w r.A r.n r.c r.P
  apart : ∀ r ∈ V, Apart r v.ownBlock
theorem OwnSls.nil (w : World) (B : Nat) : OwnSls w B (.slice none 0 0) [] := ⟨World.ownsRow_nil w B _ 1, (by intro r hr; cases hr), (by intro r hr; cases hr)⟩
theorem OwnSls.keep {w w' : World} {B : Nat} {v : Value} {V : List Sl} (h : OwnSls w B v V) (hb : Below w.heap.size w w') : OwnSls w' B v V :=
  ⟨h.own.kept (grown_of_below hb none) (by cases hv : v.ownBlock <;> simp), fun r hr => (h.each r hr).keep hb, h.apart⟩
/-- Another row is written. -/
theorem OwnSls.row {w w' : World} {B : Nat} {v : Value} {V : List Sl} {g : Option Nat} (h : OwnSls w B v V) (hg : w.grownBy w' g) (hne : v.ownBlock = none ∨ v.ownBlock ≠ g) (ha : ∀ r ∈ V, Apart r g) : OwnSls w' B v V :=
  ⟨h.own.kept hg hne, fun r hr => (h.each r hr).row hg (ha r hr), h.apart⟩
/-- One more. -/
theorem OwnSls.snoc {w w' : World} {B : Nat} {v v' : Value} {V : List Sl} {r : Sl} {o : Obj} (h : OwnSls w B v V) (hr : Ns w r.A r.n r.c r.P) (ha : Apart r v.ownBlock)
    (hown : w'.ownsRow B 22 1 v' (V.length + 1) (V.map Sl.v ++ [r.v])) (hg : (w.alloc o).grownBy w' v.ownBlock) (hat : v'.ownBlock = v.ownBlock ∨ v'.ownBlock = some (w.alloc o).heap.size) : OwnSls w' B v' (V ++ [r]) := by
  have hba : Below w.heap.size w (w.alloc o) := below_box w o
  have hlt : ∀ x ∈ V ++ [r], Ns w x.A x.n x.c x.P ∧ Apart x v.ownBlock := by
    intro x hx
    rcases List.mem_append.1 hx with h1 | h1
    · exact ⟨h.each x h1, h.apart x h1⟩
    · simp only [List.mem_cons, List.not_mem_nil, or_false] at h1
      subst h1; exact ⟨hr, ha⟩
  refine ⟨?_, fun x hx => ((hlt x hx).1.keep hba).row hg (hlt x hx).2, fun x hx h0 a e => ?_⟩
  · simpa using hown
  · rcases hat with e' | e'
    · rw [e']; exact (hlt x hx).2 h0 a e
    · rw [e']
      have := (hlt x hx).1.at_.lt h0 a e
      intro q
      injection q with q
      simp at q
      omega
/-- Collected slices are a slice that holds them. -/
theorem OwnSls.at {w : World} {B : Nat} {v : Value} {V : List Sl} (h : OwnSls w B v V) : ∃ A c, v = .slice A V.length c ∧ V.length ≤ c ∧ SlsAt w A V := by
  rcases h.own.2 with ⟨rfl, h0⟩ | ⟨g, cap, cur, rfl, _, _, hc, _⟩
  · have : V = [] := List.eq_nil_of_length_eq_zero h0
    subst this
    exact ⟨none, 0, rfl, Nat.le_refl _, fun k r hk => by simp at hk⟩
  · refine ⟨some ⟨g, 0, none⟩, cap, rfl, hc, fun k r hk => ⟨_, rfl, ?_, h.each r (List.mem_of_getElem? hk)⟩⟩
    exact h.own.cells (g := g) rfl k _ (by rw [List.getElem?_map, hk]; rfl)
theorem slInfo : (Tryd.prog.info? 22).map (fun i => (i.zero, i.size, i.bytes)) = some (some (.slice none 0 0), 1, 24) := by kernel_rfl

/-- The cells of nodes, out of where they lie. -/
theorem NdsAt.cells {w : World} {a : Addr} {P : List Nd} (h : NdsAt w (some a) P) : ∀ j u, (ndCells P)[j]? = some u → w.cell? (a.add j) = some u := by
  intro j u hu
  have hl := ndCells_length P
  have hj : j < (ndCells P).length := (List.getElem?_eq_some_iff.1 hu).1
  have hk : j / 4 < P.length := by omega
  obtain ⟨h1, h2, h3, h4⟩ := ndCells_at P (j / 4) P[j / 4] (List.getElem?_eq_getElem hk)
  obtain ⟨b, e, q1, q2, q3, q4⟩ := h (j / 4) P[j / 4] (List.getElem?_eq_getElem hk)
  injection e with e
  subst e
  have hr : j % 4 = 0 ∨ j % 4 = 1 ∨ j % 4 = 2 ∨ j % 4 = 3 := by omega
  have nx : ∀ (x d : Nat), 0 < d → (⟨(a.add x).block, (a.add x).off + d, none⟩ : Addr) = a.add (x + d) := by
    intro x d hd
    unfold Addr.add
    by_cases hx : x = 0
    · subst hx; simp; omega
    · simp [hx, Nat.add_assoc]
  rcases hr with hr | hr | hr | hr
  · have e : j = j / 4 * 4 := by omega
    rw [← e] at h1 q1
    rw [hu] at h1; rw [h1]; exact q1
  · have e : j = j / 4 * 4 + 1 := by omega
    rw [nx _ _ (by omega), ← e] at q2
    rw [← e] at h2
    rw [hu] at h2; rw [h2]; exact q2
  · have e : j = j / 4 * 4 + 2 := by omega
    rw [nx _ _ (by omega), ← e] at q3
    rw [← e] at h3
    rw [hu] at h3; rw [h3]; exact q3
  · have e : j = j / 4 * 4 + 3 := by omega
    rw [nx _ _ (by omega), ← e] at q4
    rw [← e] at h4
    rw [hu] at h4; rw [h4]; exact q4
theorem ndCells_one (P : List Nd) : ∀ u ∈ ndCells P, u.oneCell' = true := by
  induction P with
  | nil => intro u hu; cases hu
  | cons x P ih =>
    intro u hu
    simp only [ndCells, List.mem_cons] at hu
    rcases hu with rfl | rfl | rfl | rfl | hu
    · rfl
    · rfl
    · rfl
    · rfl
    · exact ih u hu
theorem ndInfo : (Tryd.prog.info? 36).map (fun i => (i.zero, i.size, i.bytes)) = some (some (.agg #[.int .i64 0, .int .i64 0, .string ⟨#[]⟩, .string ⟨#[]⟩]), 4, 48) := by kernel_rfl
theorem nds_of_own {w : World} {B : Nat} {v : Value} {P : List Nd} (h : w.ownsRow B 36 4 v P.length (ndCells P)) : ∃ A c, v = .slice A P.length c ∧ P.length ≤ c ∧ NdsAt w A P ∧ (∀ a, A = some a → B ≤ a.block) := by
  rcases h.2 with ⟨rfl, h0⟩ | ⟨g, cap, cur, rfl, hB, _, hc, _⟩
  · have : P = [] := List.eq_nil_of_length_eq_zero h0
    subst this
    exact ⟨none, 0, rfl, Nat.le_refl _, fun k x hx => by simp at hx, fun a e => by cases e⟩
  · exact ⟨some ⟨g, 0, none⟩, cap, rfl, hc, nds_of_cells (h.cells (g := g) rfl), fun a e => by injection e with e; subst e; exact hB⟩

/-- A slice of nodes of the call's own: in new blocks. -/
def NewNs (w : World) (P : List Nd) (e : Ending) (w' : World) : Prop := ∃ (A : Option Addr) (c : Nat), e = .returned (.slice A P.length c) ∧ Ns w' A P.length c P ∧ (∀ a, A = some a → w.heap.size ≤ a.block) ∧ Below w.heap.size w w'
end Go.Proofs.YtmekockjgldndaaDoor
namespace Go.Proofs.YtmekockjgldndaaDoor
open Go.RowKit Go.Wk Go.Sort
set_option maxRecDepth 100000

/-- What split tells. -/
def SplitPost (w : World) (L : List (List Nd)) (N : List ByteArray) (e : Ending) (w' : World) : Prop :=
  ∃ (v v' : Value) (V : List Sl), e = .returned (.tuple #[v, v']) ∧ OwnSls w' w.heap.size v V ∧ V.map Sl.P = L ∧ w'.ownsRow w.heap.size 9 1 v' N.length (N.map Value.string) ∧ (∀ r ∈ V, ∀ a, r.A = some a → w.heap.size < a.block) ∧ Below w.heap.size w w'
theorem own_mono {w : World} {B B' n : Nat} {e : TypeId} {size : Nat} {v : Value} {xs : List Value} (h : w.ownsRow B e size v n xs) (hB : B' ≤ B) : w.ownsRow B' e size v n xs := by
  refine ⟨h.1, ?_⟩
  rcases h.2 with h2 | ⟨g, cap, cur, hv, hg, r⟩
  · exact .inl h2
  · exact .inr ⟨g, cap, cur, hv, Nat.le_trans hB hg, r⟩
theorem OwnSls.mono {w : World} {B B' : Nat} {v : Value} {V : List Sl} (h : OwnSls w B v V) (hB : B' ≤ B) : OwnSls w B' v V := ⟨own_mono h.own hB, h.each, h.apart⟩
theorem RdAt.row {w w' : World} {R p : Nat} {v : Value} {g : Option Nat} (h : RdAt w R v p) (hg : w.grownBy w' g) (hne : some R ≠ g) : RdAt w' R v p :=
  ⟨hg.cell h.c0 hne, hg.cell h.c1 hne, (World.frozen?_of_block (w := w) (hg.block R h.lt hne)).trans h.f1⟩
/-- The slices lie behind a block. -/
def Later (R : Nat) (V : List Sl) : Prop := ∀ r ∈ V, ∀ a, r.A = some a → R < a.block
theorem Later.apart {R : Nat} {V : List Sl} (h : Later R V) : ∀ r ∈ V, Apart r (some R) := fun r hr _ a e q => by
  have := h r hr a e
  injection q with q
  omega
theorem Later.snoc {R : Nat} {V : List Sl} {r : Sl} (h : Later R V) (hr : ∀ a, r.A = some a → R < a.block) : Later R (V ++ [r]) := by
  intro x hx
  rcases List.mem_append.1 hx with h1 | h1
  · exact h x h1
  · simp only [List.mem_cons, List.not_mem_nil, or_false] at h1
    subst h1; exact hr
theorem own_ne {w : World} {B n : Nat} {e : TypeId} {size : Nat} {v : Value} {xs : List Value} (h : w.ownsRow B e size v n xs) {R : Nat} (hR : R < B) : v.ownBlock = none ∨ v.ownBlock ≠ some R := by
  rcases hv : v.ownBlock with _ | g
  · exact .inl rfl
  · have := own_base h g hv
    exact .inr (fun q => by injection q with q; omega)
theorem own_ne' {w : World} {B n : Nat} {e : TypeId} {size : Nat} {v : Value} {xs : List Value} (h : w.ownsRow B e size v n xs) {R : Nat} (hR : R < B) : some R ≠ v.ownBlock := by
  rcases own_ne h hR with h | h
  · rw [h]; simp
  · exact fun q => h q.symm
theorem ns_seg {w : World} {a : Addr} {n c : Nat} {P : List Nd} (h : Ns w (some a) n c P) {i j : Nat} (h1 : i ≤ j) (h2 : j ≤ n) : Ns w (some (a.add (i * 4))) (j - i) (c - i) (seg P i j) := by
  have := h.len
  have := h.cap
  have := h.max
  exact ⟨(seg_length (by omega)).symm, by omega, by omega, h.at_.seg i j, h.ok.seg i j⟩
theorem setLoop_inv {v : List Nd} {f : Nat → Option Nat} {N k : Nat} {q n : Nat} (hk : k < N) (h : ∃ lo, setLoop v f (N - k) lo q = some n) :
    ∃ e, f q = some e ∧ (∃ lo, setLoop v f (N - (k + 1)) lo e = some n) ∧ splitS v f (N - k) q = seg v q e :: splitS v f (N - (k + 1)) e := by
  obtain ⟨lo, h⟩ := h
  obtain ⟨j, hj⟩ : ∃ j, N - k = j + 1 := ⟨N - k - 1, by omega⟩
  rw [hj] at h
  rw [hj, show N - (k + 1) = j by omega]
  simp only [setLoop] at h
  rcases hf : f q with _ | e
  · rw [hf] at h; cases h
  · rw [hf] at h
    simp only at h
    split at h
    · exact ⟨e, rfl, ⟨_, h⟩, by simp only [splitS, hf]⟩
    · cases h

end Go.Proofs.YtmekockjgldndaaDoor
namespace Go.Proofs.YtmekockjgldndaaDoor
open Go.RowKit Go.Wk Go.Sort
set_option maxRecDepth 100000

/-- KindEnd. -/
theorem ref_KindEnd (P : List Nd) (A : Option Addr) (n c : Nat) : ∀ m, KeC P A n c m
  | 0 => fun q w h hm => ke_out P A n c q w h.len (by omega)
  | m + 1 => fun q w h hm => by
    by_cases hq : q < n
    · have ih := ref_KindEnd P A n c m
      have hp : q < P.length := by rw [← h.len]; exact hq
      have hx := List.getElem?_eq_getElem hp
      obtain ⟨a, rfl, d0, d1, d2, d3⟩ := h.at_ q _ hx
      have hok := h.ok _ (List.getElem_mem hp)
      generalize P[q] = x at *
      by_cases hb : x.t ≠ emp ∨ (x.op ≠ 44 ∧ x.s ≠ emp) ∨ (x.op ≠ 46 ∧ x.n ≠ 0) ∨ x.n < 0
      · have e : kEnd P q = -1 := by
          by_cases b1 : baseOp x.op
          · rw [kEnd_base hx b1, if_neg]
            rintro ⟨q1, q2, q3⟩
            rcases hb with hb | ⟨-, hb⟩ | ⟨-, hb⟩ | hb
            · exact hb q3
            · exact hb q2
            · exact hb q1
            · omega
          by_cases b2 : x.op = 44
          · rw [kEnd_ent hx b2, if_neg]
            rintro ⟨q1, q2, q3⟩
            rcases hb with hb | ⟨hb, -⟩ | ⟨-, hb⟩ | hb
            · exact hb q3
            · exact hb b2
            · exact hb q1
            · omega
          by_cases b3 : x.op = 45
          · rw [kEnd_set hx b3, if_neg]
            rintro ⟨q1, q2, q3⟩
            rcases hb with hb | ⟨-, hb⟩ | ⟨-, hb⟩ | hb
            · exact hb q3
            · exact hb q2
            · exact hb q1
            · omega
          by_cases b4 : x.op = 46
          · rw [kEnd_rec hx b4, if_neg]
            rintro ⟨q1, q2, q3⟩
            rcases hb with hb | ⟨-, hb⟩ | ⟨hb, -⟩ | hb
            · exact hb q3
            · exact hb q2
            · exact hb b4
            · omega
          exact kEnd_else hx b1 b2 b3 b4
        rw [e]
        exact ke_bad a n c q x.op x.n x.s x.t w h.max hq d0 d1 d2 d3 hb
      · have ht : x.t = emp := Decidable.byContradiction fun e => hb (.inl e)
        have hs : x.op ≠ 44 → x.s = emp := fun e0 => Decidable.byContradiction fun e => hb (.inr (.inl ⟨e0, e⟩))
        have hn : x.op ≠ 46 → x.n = 0 := fun e0 => Decidable.byContradiction fun e => hb (.inr (.inr (.inl ⟨e0, e⟩)))
        have hn0 : 0 ≤ x.n := Decidable.byContradiction fun e => hb (.inr (.inr (.inr (by omega))))
        by_cases b1 : baseOp x.op
        · have h44 : x.op ≠ 44 := fun e => by rw [e] at b1; revert b1; decide
          have h46 : x.op ≠ 46 := fun e => by rw [e] at b1; revert b1; decide
          rw [kEnd_base hx b1, if_pos ⟨hn h46, hs h44, ht⟩]
          exact ke_base a n c q x.op x.n x.s x.t w h.max hq d0 d1 d2 d3 b1 (hn h46) (hs h44) ht
        by_cases b2 : x.op = 44
        · have h46 : x.op ≠ 46 := by omega
          have e : kEnd P q = if nameFault x.s = 0 then ((q + 1 : Nat) : Int) else -1 := by
            rw [kEnd_ent hx b2]
            by_cases hf : nameFault x.s = 0
            · rw [if_pos hf, if_pos ⟨hn h46, hf, ht⟩]
            · rw [if_neg hf, if_neg (fun q => hf q.2.1)]
          rw [e]
          exact ke_ent a n c q x.op x.n x.s x.t w h.max hq d0 d1 d2 d3 hok.s b2 (hn h46) ht
        by_cases b3 : x.op = 45
        · exact ke_set P m a n c q w ih h hq hm x hx b3 (hn (by omega)) (hs (by omega)) ht
        by_cases b4 : x.op = 46
        · exact ke_rec P m a n c q w ih h hq hm x hx b4 hn0 (hs (by omega)) ht
        rw [kEnd_else hx b1 b2 b3 b4]
        exact ke_else a n c q x.op x.n x.s x.t w h.max hq d0 d1 d2 d3 b1 b2 b3 b4
    · exact ke_out P A n c q w h.len (by omega)
theorem ref_End {P : List Nd} {A : Option Addr} {n c : Nat} {w : World} (h : Ns w A n c P) (q : Nat) : Calls Tryd.prog 11 #[.slice A n c, .int .i64 q] w fun e w' => e = .returned (.int .i64 (kEnd P q)) ∧ Below w.heap.size w w' :=
  ref_KindEnd P A n c n q w h (Nat.sub_le _ _)
theorem ref_KindFault (A : Option Addr) (n c : Nat) (P : List Nd) (w : World) (h : Ns w A n c P) :
    Calls Tryd.prog 4 #[.slice A n c] w fun e w' => e = .returned (.int .i64 (kindFault P)) ∧ Below w.heap.size w w' := by
  have HL := Lib.hid h.len
  have hm := h.max
  unfold maxLen at hm
  have K := Lib.hid (ref_End h 0)
  by_cases h200 : 200 < n
  · have HF := Lib.hid (show kindFault P = 4 by unfold kindFault; rw [if_pos (by rw [← HL.out]; exact h200)])
    have f1 : decide (200 < (n : Int)) = true := decide_eq_true (by omega)
    clear h K h200
    go_enter Tryd.func4, Tryd.ntmps4
    go_wp2_with fail
    go_ret
    exact ⟨by rw [HF.out]; rfl, Below.refl _ _⟩
  · have f1 : decide (200 < (n : Int)) = false := decide_eq_false (by omega)
    by_cases hk : kEnd P 0 = (P.length : Int)
    · have HF := Lib.hid (show kindFault P = 0 by unfold kindFault; rw [if_neg (by rw [← HL.out]; exact h200), if_pos (kEnd_all.1 hk)])
      rw [hk, ← HL.out] at K
      clear h h200 hk
      go_enter Tryd.func4, Tryd.ntmps4
      go_wp2_with fail
      refine (K.out).mono ?_
      rintro e w1 ⟨rfl, b1⟩
      have B1 := Lib.hid b1
      clear b1
      go_wp2_with fail
      go_ret
      exact ⟨by rw [HF.out]; rfl, B1.out⟩
    · have HF := Lib.hid (show kindFault P = 1 by unfold kindFault; rw [if_neg (by rw [← HL.out]; exact h200), if_neg (fun q => hk (kEnd_all.2 q))])
      have f2 : (kEnd P 0 == (n : Int)) = false := beq_eq_false_iff_ne.2 (by rw [HL.out]; exact hk)
      have f3 : (kEnd P 0 != (n : Int)) = true := by rw [bne_iff_ne, HL.out]; exact hk
      generalize kEnd P 0 = r at *
      clear h h200 hk
      go_enter Tryd.func4, Tryd.ntmps4
      go_wp2_with fail
      refine (K.out).mono ?_
      rintro e w1 ⟨rfl, b1⟩
      have B1 := Lib.hid b1
      clear b1
      go_wp2_with fail
      go_ret
      exact ⟨by rw [HF.out]; rfl, B1.out⟩

/-- A slice that holds numbers. -/
def IntsIn (w : World) (A : Option Addr) (E : List Nat) : Prop := ∀ (k e : Nat), E[k]? = some e → ∃ a, A = some a ∧ w.cell? (a.add k) = some (.int .i64 (e : Int))
theorem IntsIn.keep {w w' : World} {A : Option Addr} {E : List Nat} (h : IntsIn w A E) (hb : Below w.heap.size w w') : IntsIn w' A E := fun k e he => by
  obtain ⟨a, q1, q2⟩ := h k e he
  exact ⟨a, q1, cell_keep hb q2⟩
def intCs (E : List Nat) : List Value := E.map fun e : Nat => Value.int .i64 (e : Int)
theorem ints_in_own {w : World} {B : Nat} {v : Value} {E : List Nat} (h : w.ownsRow B 3 1 v E.length (intCs E)) : ∃ A c, v = .slice A E.length c ∧ E.length ≤ c ∧ IntsIn w A E := by
  rcases h.2 with ⟨rfl, h0⟩ | ⟨g, cap, cur, rfl, _, _, hc, _⟩
  · have : E = [] := List.eq_nil_of_length_eq_zero h0
    subst this
    exact ⟨none, 0, rfl, Nat.le_refl _, fun k x hx => by simp at hx⟩
  · refine ⟨some ⟨g, 0, none⟩, cap, rfl, hc, fun k x hx => ⟨_, rfl, h.cells (g := g) rfl _ _ ?_⟩⟩
    unfold intCs; rw [List.getElem?_map, hx]; rfl
theorem intInf : (Tryd.prog.info? 3).map (fun i => (i.zero, i.size, i.bytes)) = some (some (.int .i64 0), 1, 8) := by kernel_rfl
theorem own_int1 {w1 : World} {B : Nat} {v' : Value} {E : List Nat} {x : Nat} (h : w1.ownsRow B 3 1 v' (E.length + 1) (intCs E ++ [.int .i64 (x : Int)])) :
    w1.ownsRow B 3 1 v' (E ++ [x]).length (intCs (E ++ [x])) := by
  rw [show intCs (E ++ [x]) = intCs E ++ [.int .i64 (x : Int)] by simp [intCs], List.length_append]
  exact h
theorem one_int (n : Int) : ∀ u ∈ [Value.int .i64 n], u.oneCell' = true := by
  intro u hu; simp only [List.mem_cons, List.not_mem_nil, or_false] at hu; subst hu; rfl
set_option maxHeartbeats 1000000 in
theorem ref_FieldsOf (f : Fl) (hv : f.validFrom emp) (A : Option Addr) (n c : Nat) (w : World) (h : Ns w A n c (Kd.fs f).flat) (hl : n ≤ 4000) :
    Calls Tryd.prog 12 #[.slice A n c] w fun e w' => ∃ A' c', e = .returned (.slice A' f.len c') ∧ f.len ≤ c' ∧ IntsIn w' A' (posF 1 f) ∧ Below w.heap.size w w' := by
  obtain ⟨i0, hi, hz0, hz1, hz2⟩ := info_parts intInf
  obtain ⟨a, rfl, d0, d1, d2, d3⟩ := h.at_ 0 ⟨46, f.len, emp, emp⟩ rfl
  rw [show a.add (0 * 4) = a from rfl] at d0 d1 d2 d3
  simp only at d0 d1 d2 d3
  have hn1 : 1 ≤ n := by rw [h.len]; simp [Kd.flat]
  have hfl : f.len ≤ n := by
    rw [h.len, Kd.flat, List.length_cons]
    have : ∀ g : Fl, g.len ≤ g.flat.length := fun g => by
      induction g using Fl.rec (motive_1 := fun _ => True) with
      | nil => exact Nat.zero_le _
      | cons s m k r _ ih => simp only [Fl.len, Fl.flat, List.length_cons, List.length_append]; omega
      | _ => trivial
    have := this f
    omega
  have K := Lib.hid (fun (q : Nat) w' (hb : Below w.heap.size w w') => ref_End (h.keep hb) q)
  have HLn := Lib.hid h.len
  have HS := Lib.hid (KLeft.start hv)
  have HPL := Lib.hid (posF_len f 1)
  generalize (Kd.fs f).flat = t at *
  clear h hv d0 d2 d3
  go_enter Tryd.func12, Tryd.ntmps12
  go_wp2_with fail
  go_loopw [3, 4, 5] (fun v at_ i wr => ∃ (k p : Nat) (E : List Nat) (g : Fl), at_ = .int .i64 p ∧ i = .int .i64 k ∧ k + g.len = f.len ∧ E.length = k ∧ p ≤ n ∧ Hid (posF 1 f = E ++ posF p g) ∧ Hid (KLeft t p g) ∧ Hid (wr.ownsRow w.heap.size 3 1 v E.length (intCs E)) ∧ Hid (Below w.heap.size w wr)) (fun _ _ i _ => f.len - (intOf i).toNat)
  case atStart => exact ⟨0, 1, [], f, rfl, rfl, by omega, rfl, hn1, rfl, HS.out, World.ownsRow_nil _ _ _ _, Below.refl _ _⟩
  case round =>
    obtain ⟨k, p, E, g, rfl, rfl, hk, hE, hp, hP, hL, hown, hB⟩ := hrel
    have e1 := cell_keep hB.out d1
    by_cases hlt : k < f.len
    · obtain ⟨s, m, kk, r, rfl⟩ : ∃ s m kk r, g = .cons s m kk r := by
        cases g with
        | nil => simp [Fl.len] at hk; omega
        | cons s m kk r => exact ⟨s, m, kk, r, rfl⟩
      obtain ⟨hf, hL2⟩ := hL.out.head
      have hle := hf.le
      rw [← HLn.out] at hle
      have HE := Lib.hid hf.end_
      have HL2 := Lib.hid hL2
      have HP2 := Lib.hid (show posF 1 f = (E ++ [p]) ++ posF (p + 1 + kk.flat.length) r by rw [hP.out]; simp [posF])
      have hk2 : k + 1 + r.len = f.len := by simp only [Fl.len] at hk; omega
      generalize kk.flat.length = ln at *
      clear hf hL hL2 hP hk
      go_wp2_with (at_builtin; refine wpList_append_own _ rfl _ _ 37 rfl w.heap.size 3 i0 _ 1 8 Tryd.underlying37 hi hz0 hz1 hz2 rfl (by decide) _ E.length (intCs E) rfl (hown.out.alloc _) ⟨_, 0, none⟩ 1 1 [.int .i64 (p : Int)] rfl rfl (cells_new _ _ _) (one_int _) (by unfold maxLen; omega) (by omega) ?c5 ?_)
      case c5 => have := hB.out.size; simp; omega
      intro v1 w1 hown1 hgrow1 _
      have B1 := Lib.hid (below_append hB.out (Nat.le_refl _) hown.out _ hgrow1)
      have O1 := Lib.hid (own_int1 (E := E) (x := p) (by rw [hE]; exact hown1))
      clear hown hB hown1 hgrow1 e1
      have CK := Lib.hid (K.out (p + 1) w1 B1.out)
      rw [HE.out] at CK
      go_wp2_with fail
      refine (CK.out).mono ?_
      rintro e w2 ⟨rfl, b2⟩
      have B2 := Lib.hid (B1.out.trans (b2.mono B1.out.size))
      have O2 := Lib.hid (own_kept_below O1.out b2)
      clear b2 B1 O1 HE CK
      go_wp2_with fail
      go_roundw
      case rel => exact ⟨k + 1, p + 1 + ln, E ++ [p], r, rfl, by go_num, by omega, by simp; omega, by omega, HP2, HL2, O2, B2⟩
      case measure => simp [intOf]; omega
    · obtain rfl : g = .nil := by
        cases g with
        | nil => rfl
        | cons s m kk r => simp [Fl.len] at hk; omega
      have HPE := Lib.hid (show posF 1 f = E by rw [hP.out]; simp [posF])
      have hkf : k = f.len := by omega
      obtain ⟨A', c', hv', hc', hint⟩ := ints_in_own hown.out
      subst hv'
      have HI := Lib.hid hint
      have hEl : E.length = f.len := by omega
      rw [hEl] at *
      clear hL hP hown hint
      go_wp2_with fail
      go_ret
      exact ⟨A', c', rfl, by omega, by rw [HPE.out]; exact HI.out, hB.out⟩
set_option maxHeartbeats 1000000 in
theorem ref_FieldKind (f : Fl) (hv : f.validFrom emp) (A : Option Addr) (n c : Nat) (s : ByteArray) (w : World) (h : Ns w A n c (Kd.fs f).flat) (hl : n ≤ 4000) (hs : s.size ≤ maxLen) :
    Calls Tryd.prog 13 #[.slice A n c, .string s] w fun e w' => e = .returned (.int .i64 (posOf 1 f s)) ∧ Below w.heap.size w w' := by
  have FO := Lib.hid (ref_FieldsOf f hv A n c w h hl)
  have HN := Lib.hid h
  have HS := Lib.hid (KLeft.start hv)
  have hfn : f.len < n := by
    rw [h.len, Kd.flat, List.length_cons]
    have : ∀ g : Fl, g.len ≤ g.flat.length := fun g => by
      induction g using Fl.rec (motive_1 := fun _ => True) with
      | nil => exact Nat.zero_le _
      | cons s m k r _ ih => simp only [Fl.len, Fl.flat, List.length_cons, List.length_append]; omega
      | _ => trivial
    have := this f
    omega
  have HPL := Lib.hid (posF_len f 1)
  generalize (Kd.fs f).flat = t at *
  clear h hv
  go_enter Tryd.func13, Tryd.ntmps13
  go_wp2_with fail
  refine (FO.out).mono ?_
  rintro e w1 ⟨A', c', rfl, hc', hI, b1⟩
  have B1 := Lib.hid b1
  have HI := Lib.hid hI
  clear b1 hI FO
  go_wp2_with fail
  go_loopw [6] (fun i wr => ∃ (k p : Nat) (g : Fl), i = .int .i64 k ∧ k + g.len = f.len ∧ Hid (posF p g = (posF 1 f).drop k) ∧ Hid (posOf 1 f s = posOf p g s) ∧ Hid (KLeft t p g) ∧ Hid (Below w1.heap.size w1 wr)) (fun i _ => f.len - (intOf i).toNat)
  case atStart => exact ⟨0, 1, f, rfl, by omega, rfl, rfl, HS.out, Below.refl _ _⟩
  case round =>
    obtain ⟨k, p, g, rfl, hk, hP, hQ, hL, hB⟩ := hrel
    have BW := Lib.hid (B1.out.trans (hB.out.mono B1.out.size))
    by_cases hlt : k < f.len
    · obtain ⟨u, m, kk, r, rfl⟩ : ∃ s m kk r, g = .cons s m kk r := by
        cases g with
        | nil => simp [Fl.len] at hk; omega
        | cons s m kk r => exact ⟨s, m, kk, r, rfl⟩
      obtain ⟨hf, hL2⟩ := hL.out.head
      have hle := hf.le
      rw [← HN.out.len] at hle
      have hpe : (posF 1 f)[k]? = some p := by
        have := congrArg (fun l => l[0]?) hP.out
        simp only [posF, List.getElem?_cons_zero, List.getElem?_drop, Nat.add_zero] at this
        exact this.symm
      obtain ⟨ai, rfl, hci⟩ := (HI.out.keep hB.out) k p hpe
      obtain ⟨a, rfl, d0, d1, d2, d3⟩ := (HN.out.keep BW.out).at_ p _ hf.nd
      have HP2 := Lib.hid (show posF (p + 1 + kk.flat.length) r = (posF 1 f).drop (k + 1) by
        have := congrArg (List.drop 1) hP.out
        rw [List.drop_drop] at this
        simpa [posF] using this)
      have HL2 := Lib.hid hL2
      have hk2 : k + 1 + r.len = f.len := by simp only [Fl.len] at hk; omega
      simp only [fldNd] at d0 d1 d2 d3
      have hpn : p < n := by omega
      clear hf hL hL2 hP hk hpe d0 d1 d3
      by_cases hus : u = s
      · subst hus
        have HR := Lib.hid (show posOf 1 f u = (p : Int) by rw [hQ.out]; simp [posOf])
        clear hQ
        go_wp2_with fail
        go_ret
        exact ⟨by rw [HR.out]; rfl, BW.out⟩
      · have HR := Lib.hid (show posOf 1 f s = posOf (p + 1 + kk.flat.length) r s by rw [hQ.out]; simp [posOf, hus])
        have f2 : (u.toList == s.toList) = false := beq_eq_false_iff_ne.2 (fun e => hus (toList_inj e))
        clear hQ hus
        go_wp2_with fail
        go_roundw
        case rel => exact ⟨k + 1, _, r, by go_num, hk2, HP2, HR, HL2, hB⟩
        case measure => simp [intOf]; omega
    · obtain rfl : g = .nil := by
        cases g with
        | nil => rfl
        | cons s m kk r => simp [Fl.len] at hk; omega
      have HR := Lib.hid (show posOf 1 f s = -1 by rw [hQ.out]; rfl)
      clear hQ hP hL
      go_wp2_with fail
      go_ret
      exact ⟨by rw [HR.out]; rfl, BW.out⟩
/-- What PartKind tells of the field at q. -/
theorem ref_PartKind (t : List Nd) (q : Nat) (s : ByteArray) (m : Bool) (k : Kd) (hf : KFld t q s m k) (a : Addr) (n c : Nat) (w : World) (h : Ns w (some a) n c t) :
    Calls Tryd.prog 14 #[.slice (some a) n c, .int .i64 q] w fun e w' => e = .returned (.slice (some (a.add ((q + 1) * 4))) k.flat.length (c - (q + 1))) ∧ Below w.heap.size w w' := by
  have K := Lib.hid (ref_End h (q + 1))
  rw [hf.end_] at K
  have hle := hf.le
  rw [← h.len] at hle
  have hc := h.cap
  have hm := h.max
  unfold maxLen at hm
  have hpos := flat_pos k
  generalize k.flat.length = ln at *
  have hq1 : q + 1 < c := by omega
  clear h hf
  go_enter Tryd.func14, Tryd.ntmps14
  go_wp2_with fail
  refine (K.out).mono ?_
  rintro e w1 ⟨rfl, b1⟩
  have B1 := Lib.hid b1
  clear b1
  go_wp2_with fail
  all_goals first
    | (exfalso; omega)
    | (go_ret; exact ⟨by show Ending.returned (Value.slice _ (q + 1 + ln - (q + 1)) _) = _; rw [show q + 1 + ln - (q + 1) = ln by omega], B1.out⟩)
theorem part_ns {t : List Nd} {q : Nat} {s : ByteArray} {m : Bool} {k : Kd} (hf : KFld t q s m k) {a : Addr} {n c : Nat} {w : World} (h : Ns w (some a) n c t) : Ns w (some (a.add ((q + 1) * 4))) k.flat.length (c - (q + 1)) k.flat := by
  have hle := hf.le
  have := ns_seg h (i := q + 1) (j := q + 1 + k.flat.length) (by omega) (by rw [h.len]; exact hle)
  rw [hf.seg, show q + 1 + k.flat.length - (q + 1) = k.flat.length by omega] at this
  exact this
end Go.Proofs.YtmekockjgldndaaDoor
namespace Go.Proofs.YtmekockjgldndaaDoor
open Go.RowKit Go.Wk Go.Sort
set_option maxRecDepth 100000

/-- These cells stand from an address on. -/
def Row0 (w : World) (a : Addr) (u : List Value) : Prop := ∀ (j : Nat) (x : Value), u[j]? = some x → w.cell? (a.add j) = some x
mutual
/-- The cells of a type; what they lead to lies in blocks of B. -/
def KAt (w : World) (B : Nat → Prop) : Kd → List Value → Prop
  | .base x, v => ∃ n : Int, v = [.int .i64 x, .int .i64 n, .string emp, .string emp, .pointer none, .slice none 0 0]
  | .ent s, v => ∃ n : Int, v = [.int .i64 44, .int .i64 n, .string s, .string emp, .pointer none, .slice none 0 0]
  | .set q, v => ∃ (n : Int) (b : Nat) (u : List Value), v = [.int .i64 45, .int .i64 n, .string emp, .string emp, .pointer (some ⟨b, 0, none⟩), .slice none 0 0] ∧ B b ∧ Row0 w ⟨b, 0, none⟩ u ∧ KAt w B q u
  | .fs f, v => ∃ (n : Int) (A : Option Addr) (c : Nat), v = [.int .i64 46, .int .i64 n, .string emp, .string emp, .pointer none, .slice A f.len c] ∧ f.len ≤ c ∧ c ≤ maxLen ∧ FAt w B A 0 f
/-- The fields of a record's type, from the i-th place of a row on. -/
def FAt (w : World) (B : Nat → Prop) : Option Addr → Nat → Fl → Prop
  | _, _, .nil => True
  | A, i, .cons s m k r => (∃ (a : Addr) (u : List Value), A = some a ∧ B a.block ∧ Row0 w (a.add (i * 8)) (.string s :: .bool m :: u) ∧ KAt w B k u) ∧ FAt w B A (i + 1) r
end
theorem Row0.cong {w w' : World} {a : Addr} {u : List Value} (h : Row0 w a u) (hb : w'.heap[a.block]? = w.heap[a.block]?) : Row0 w' a u := fun j x hx => by
  have := h j x hx
  rw [← this]
  exact World.cell?_of_block (by rw [add_block]; exact hb)
theorem kat_cong {w w' : World} {B : Nat → Prop} (hB : ∀ b, B b → w'.heap[b]? = w.heap[b]?) : ∀ (n : Nat), (∀ k v, k.sz ≤ n → KAt w B k v → KAt w' B k v) ∧ (∀ f A i, f.sz ≤ n → FAt w B A i f → FAt w' B A i f)
  | 0 => by
    refine ⟨fun k v h => by cases k <;> simp [Kd.sz] at h, fun f A i h hf => ?_⟩
    cases f with
    | nil => trivial
    | cons s m k r => simp [Fl.sz] at h
  | n + 1 => by
    obtain ⟨ihK, ihF⟩ := kat_cong hB n
    refine ⟨fun k v h hk => ?_, fun f A i h hf => ?_⟩
    · cases k with
      | base x => exact hk
      | ent s => exact hk
      | set q =>
        simp only [Kd.sz] at h
        obtain ⟨m, b, u, e, h1, h2, h3⟩ := hk
        exact ⟨m, b, u, e, h1, h2.cong (hB b h1), ihK q u (by omega) h3⟩
      | fs f =>
        simp only [Kd.sz] at h
        obtain ⟨m, A, c, e, h1, h2, h3⟩ := hk
        exact ⟨m, A, c, e, h1, h2, ihF f A 0 (by omega) h3⟩
    · cases f with
      | nil => trivial
      | cons s m k r =>
        simp only [Fl.sz] at h
        obtain ⟨⟨a, u, e, h1, h2, h3⟩, h4⟩ := hf
        exact ⟨⟨a, u, e, h1, h2.cong (by rw [add_block]; exact hB _ h1), ihK k u (by omega) h3⟩, ihF r A (i + 1) (by omega) h4⟩
theorem kat_mono {w : World} {B B' : Nat → Prop} (hB : ∀ b, B b → b < w.heap.size → B' b) : ∀ (n : Nat), (∀ k v, k.sz ≤ n → KAt w B k v → KAt w B' k v) ∧ (∀ f A i, f.sz ≤ n → FAt w B A i f → FAt w B' A i f)
  | 0 => by
    refine ⟨fun k v h => by cases k <;> simp [Kd.sz] at h, fun f A i h hf => ?_⟩
    cases f with
    | nil => trivial
    | cons s m k r => simp [Fl.sz] at h
  | n + 1 => by
    obtain ⟨ihK, ihF⟩ := kat_mono hB n
    refine ⟨fun k v h hk => ?_, fun f A i h hf => ?_⟩
    · cases k with
      | base x => exact hk
      | ent s => exact hk
      | set q =>
        simp only [Kd.sz] at h
        obtain ⟨m, b, u, e, h1, h2, h3⟩ := hk
        have hlt : b < w.heap.size := by
          have hu : ∃ x, u[0]? = some x := by
            cases q with
            | base x => obtain ⟨_, rfl⟩ := h3; exact ⟨_, rfl⟩
            | ent s => obtain ⟨_, rfl⟩ := h3; exact ⟨_, rfl⟩
            | set q => obtain ⟨_, _, _, rfl, _⟩ := h3; exact ⟨_, rfl⟩
            | fs f => obtain ⟨_, _, _, rfl, _⟩ := h3; exact ⟨_, rfl⟩
          obtain ⟨x, hx⟩ := hu
          exact block_lt_of_cell (h2 0 x hx)
        exact ⟨m, b, u, e, hB b h1 hlt, h2, ihK q u (by omega) h3⟩
      | fs f =>
        simp only [Kd.sz] at h
        obtain ⟨m, A, c, e, h1, h2, h3⟩ := hk
        exact ⟨m, A, c, e, h1, h2, ihF f A 0 (by omega) h3⟩
    · cases f with
      | nil => trivial
      | cons s m k r =>
        simp only [Fl.sz] at h
        obtain ⟨⟨a, u, e, h1, h2, h3⟩, h4⟩ := hf
        have hlt : a.block < w.heap.size := by
          have := block_lt_of_cell (h2 0 _ rfl)
          rwa [add_block, add_block] at this
        exact ⟨⟨a, u, e, hB _ h1 hlt, h2, ihK k u (by omega) h3⟩, ihF r A (i + 1) (by omega) h4⟩
theorem KAt.cong {w w' : World} {B : Nat → Prop} {k : Kd} {v : List Value} (h : KAt w B k v) (hB : ∀ b, B b → w'.heap[b]? = w.heap[b]?) : KAt w' B k v := (kat_cong hB _).1 k v (Nat.le_refl _) h
theorem KAt.mono {w : World} {B B' : Nat → Prop} {k : Kd} {v : List Value} (h : KAt w B k v) (hB : ∀ b, B b → b < w.heap.size → B' b) : KAt w B' k v := (kat_mono hB _).1 k v (Nat.le_refl _) h
theorem FAt.cong {w w' : World} {B : Nat → Prop} {A : Option Addr} {i : Nat} {f : Fl} (h : FAt w B A i f) (hB : ∀ b, B b → w'.heap[b]? = w.heap[b]?) : FAt w' B A i f := (kat_cong hB _).2 f A i (Nat.le_refl _) h
theorem FAt.mono {w : World} {B B' : Nat → Prop} {A : Option Addr} {i : Nat} {f : Fl} (h : FAt w B A i f) (hB : ∀ b, B b → b < w.heap.size → B' b) : FAt w B' A i f := (kat_mono hB _).2 f A i (Nat.le_refl _) h

/-- kinds' reader: the nodes that are left. -/
structure RdK (w : World) (R : Nat) (Q : List Nd) : Prop where
  c0 : ∃ (A : Option Addr) (n c : Nat), w.cell? ⟨R, 0, none⟩ = some (.slice A n c) ∧ Ns w A n c Q ∧ (0 < Q.length → ∀ a, A = some a → a.block < R)
  f0 : w.frozen? ⟨R, 0, none⟩ = false
theorem RdK.keep {w w' : World} {R : Nat} {Q : List Nd} (h : RdK w R Q) (hb : Below w.heap.size w w') : RdK w' R Q := by
  obtain ⟨⟨A, n, c, h1, h2, h3⟩, h4⟩ := h
  exact ⟨⟨A, n, c, cell_keep hb h1, h2.keep hb, h3⟩, (hb.frozen (p := ⟨R, 0, none⟩) (block_lt_of_cell h1)).trans h4⟩
abbrev kwrong : List PanicEntry := [{ v := .iface 68 (.agg #[]), recovered := false }]
/-- What node tells. -/
def NodePost (w : World) (R : Nat) : List Nd → Ending → World → Prop
  | [], e, w' => e = .panicked kwrong ∧ w.grownBy w' (some R)
  | x :: r, e, w' => e = .returned (ndV x) ∧ RdK w' R r ∧ w.grownBy w' (some R)
theorem ns_tail {w : World} {a : Addr} {n c : Nat} {x : Nd} {r : List Nd} (h : Ns w (some a) n c (x :: r)) : Ns w (some (a.add 4)) (n - 1) (c - 1) r := by
  have hl := h.len
  have hc := h.cap
  have hm := h.max
  rw [List.length_cons] at hl
  refine ⟨by omega, by omega, by omega, fun k y hy => ?_, fun y hy => h.ok y (by simp [hy])⟩
  obtain ⟨b, e, q0, q1, q2, q3⟩ := h.at_ (k + 1) y (by simpa using hy)
  injection e with e
  subst e
  refine ⟨_, rfl, ?_⟩
  rw [add_add, show 4 + k * 4 = (k + 1) * 4 by omega]
  exact ⟨q0, q1, q2, q3⟩
theorem kind_node (R : Nat) (Q : List Nd) (w : World) (h : RdK w R Q) :
    Calls Tryd.prog 44 #[.pointer (some ⟨R, 0, none⟩)] w (NodePost w R Q) := by
  obtain ⟨⟨A, n, c, e0, hns0, hap⟩, g0⟩ := h
  have hlt : R < w.heap.size := block_lt_of_cell e0
  have hb := below_box w (.cells #[.int .i64 0, .int .i64 0, .string ⟨#[]⟩, .string ⟨#[]⟩] 36)
  have c0 := cell_keep hb e0
  have f0 := (hb.frozen (p := ⟨R, 0, none⟩) hlt).trans g0
  have hns := hns0.keep hb
  have hne : R ≠ w.heap.size := by omega
  have hne2 : w.heap.size ≠ R := by omega
  clear hb
  cases Q with
  | nil =>
    have hn : n = 0 := hns.len
    subst hn
    clear hns hns0 hap
    go_enter Tryd.func44, Tryd.ntmps44
    go_wp2_with fail
    exact ⟨rfl, rfl, grown_of_below (below_box w _) _⟩
  | cons x r =>
    have HN := Lib.hid hns.len
    have hc := hns.cap
    have hm := hns.max
    unfold maxLen at hm
    have hn1 : 1 ≤ n := by rw [hns.len, List.length_cons]; omega
    obtain ⟨a, rfl, q0, q1, q2, q3⟩ := hns.at_ 0 x rfl
    rw [show a.add (0 * 4) = a from rfl] at q0 q1 q2 q3
    have HNS0 := Lib.hid hns0
    have HAL := Lib.hid (hap (by simp) a rfl)
    have HAP := Lib.hid (Nat.ne_of_lt HAL.out)
    clear hns hns0 hap
    go_enter Tryd.func44, Tryd.ntmps44
    go_wp2_with fail
    all_goals
      rename_i h1
      have hg : ∀ v o1 o2, w.grownBy (((w.setCell ⟨R, 0, none⟩ v).alloc o1).alloc o2) (some R) := fun v o1 o2 => grown_alloc (grown_alloc (grown_setCell w ⟨R, 0, none⟩ v) o1) o2
      have hc0 : ∀ v o1 o2, (((w.setCell ⟨R, 0, none⟩ v).alloc o1).alloc o2).cell? ⟨R, 0, none⟩ = some v := fun v o1 o2 => cell_keep (below_box _ _) (cell_keep (below_box _ _) (World.cell?_setCell_same _ _ _ e0))
      have hf0 : ∀ v o1 o2, (((w.setCell ⟨R, 0, none⟩ v).alloc o1).alloc o2).frozen? ⟨R, 0, none⟩ = false := fun v o1 o2 => by
        rw [((below_box _ _).frozen (p := ⟨R, 0, none⟩) (by simp [World.setCell]; omega)), ((below_box _ _).frozen (p := ⟨R, 0, none⟩) (by simp [World.setCell]; omega)), World.frozen?_setCell]
        exact g0
    · have hr0 : r = [] := List.eq_nil_of_length_eq_zero (by have := HN.out; rw [List.length_cons] at this; omega)
      subst hr0
      refine bodyPost_ret (v := ndV x) (by simp [results, Tryd.results44, go_sem, ndV]) rfl ⟨rfl, ⟨⟨_, _, _, hc0 _ _ _, ⟨by have := HN.out; simp at this; simp; omega, by omega, by unfold maxLen; omega, (fun k x hx => by simp at hx), (fun x hx => nomatch hx)⟩, fun h => absurd h (by simp)⟩, hf0 _ _ _⟩, hg _ _ _⟩
    · refine bodyPost_ret (v := ndV x) (by simp [results, Tryd.results44, go_sem, ndV]) rfl ⟨rfl, ⟨⟨_, _, _, hc0 _ _ _, by simpa [Addr.add] using (ns_tail HNS0.out).but (hg _ _ _) (fun _ b e => by injection e with e; subst e; exact HAP.out), fun _ b e => by injection e with e; subst e; exact HAL.out⟩, hf0 _ _ _⟩, hg _ _ _⟩
end Go.Proofs.YtmekockjgldndaaDoor
namespace Go.Proofs.YtmekockjgldndaaDoor
open Go.RowKit Go.Wk Go.Sort
set_option maxRecDepth 100000

theorem cell_new (w : World) (cs : Array Value) (t : TypeId) (j : Nat) {v : Value} (h : cs[j]? = some v) : (w.alloc (.cells cs t)).cell? ⟨w.heap.size, j, none⟩ = some v := by
  rw [World.cell?_alloc_at _ _ _ _ rfl]; exact h
/-- A variable of 4 cells of the call's own. -/
structure Bx4 (w : World) (b : Nat) (x0 x1 x2 x3 : Value) : Prop where
  c0 : w.cell? ⟨b, 0, none⟩ = some x0
  c1 : w.cell? ⟨b, 1, none⟩ = some x1
  c2 : w.cell? ⟨b, 2, none⟩ = some x2
  c3 : w.cell? ⟨b, 3, none⟩ = some x3
  z0 : w.frozen? ⟨b, 0, none⟩ = false
  z1 : w.frozen? ⟨b, 1, none⟩ = false
  z2 : w.frozen? ⟨b, 2, none⟩ = false
  z3 : w.frozen? ⟨b, 3, none⟩ = false
theorem bx4_new (w : World) (x0 x1 x2 x3 : Value) (t : TypeId) : Bx4 (w.alloc (.cells #[x0, x1, x2, x3] t)) w.heap.size x0 x1 x2 x3 :=
  ⟨cell_new w _ _ _ rfl, cell_new w _ _ _ rfl, cell_new w _ _ _ rfl, cell_new w _ _ _ rfl, by simp, by simp, by simp, by simp⟩
theorem Bx4.keep {w w' : World} {b : Nat} {x0 x1 x2 x3 : Value} (h : Bx4 w b x0 x1 x2 x3) (hb : Below w.heap.size w w') : Bx4 w' b x0 x1 x2 x3 :=
  have hl := block_lt_of_cell h.c0
  ⟨cell_keep hb h.c0, cell_keep hb h.c1, cell_keep hb h.c2, cell_keep hb h.c3, by rw [(bcell hb).2 b 0 hl]; exact h.z0, by rw [(bcell hb).2 b 1 hl]; exact h.z1, by rw [(bcell hb).2 b 2 hl]; exact h.z2, by rw [(bcell hb).2 b 3 hl]; exact h.z3⟩
theorem Bx4.but {w w' : World} {b : Nat} {x0 x1 x2 x3 : Value} {g : Option Nat} (h : Bx4 w b x0 x1 x2 x3) (hg : w.grownBy w' g) (hn : some b ≠ g) : Bx4 w' b x0 x1 x2 x3 :=
  have hb := hg.block b (block_lt_of_cell h.c0) hn
  ⟨(World.cell?_of_block (a := ⟨b, 0, none⟩) hb).trans h.c0, (World.cell?_of_block (a := ⟨b, 1, none⟩) hb).trans h.c1, (World.cell?_of_block (a := ⟨b, 2, none⟩) hb).trans h.c2, (World.cell?_of_block (a := ⟨b, 3, none⟩) hb).trans h.c3, (World.frozen?_of_block (a := ⟨b, 0, none⟩) hb).trans h.z0, (World.frozen?_of_block (a := ⟨b, 1, none⟩) hb).trans h.z1, (World.frozen?_of_block (a := ⟨b, 2, none⟩) hb).trans h.z2, (World.frozen?_of_block (a := ⟨b, 3, none⟩) hb).trans h.z3⟩
/-- A variable of 6 cells of the call's own. -/
structure Bx6 (w : World) (b : Nat) (x0 x1 x2 x3 x4 x5 : Value) : Prop where
  c0 : w.cell? ⟨b, 0, none⟩ = some x0
  c1 : w.cell? ⟨b, 1, none⟩ = some x1
  c2 : w.cell? ⟨b, 2, none⟩ = some x2
  c3 : w.cell? ⟨b, 3, none⟩ = some x3
  c4 : w.cell? ⟨b, 4, none⟩ = some x4
  c5 : w.cell? ⟨b, 5, none⟩ = some x5
  z0 : w.frozen? ⟨b, 0, none⟩ = false
  z1 : w.frozen? ⟨b, 1, none⟩ = false
  z2 : w.frozen? ⟨b, 2, none⟩ = false
  z3 : w.frozen? ⟨b, 3, none⟩ = false
  z4 : w.frozen? ⟨b, 4, none⟩ = false
  z5 : w.frozen? ⟨b, 5, none⟩ = false
theorem bx6_new (w : World) (x0 x1 x2 x3 x4 x5 : Value) (t : TypeId) : Bx6 (w.alloc (.cells #[x0, x1, x2, x3, x4, x5] t)) w.heap.size x0 x1 x2 x3 x4 x5 :=
  ⟨cell_new w _ _ _ rfl, cell_new w _ _ _ rfl, cell_new w _ _ _ rfl, cell_new w _ _ _ rfl, cell_new w _ _ _ rfl, cell_new w _ _ _ rfl, by simp, by simp, by simp, by simp, by simp, by simp⟩
theorem Bx6.keep {w w' : World} {b : Nat} {x0 x1 x2 x3 x4 x5 : Value} (h : Bx6 w b x0 x1 x2 x3 x4 x5) (hb : Below w.heap.size w w') : Bx6 w' b x0 x1 x2 x3 x4 x5 :=
  have hl := block_lt_of_cell h.c0
  ⟨cell_keep hb h.c0, cell_keep hb h.c1, cell_keep hb h.c2, cell_keep hb h.c3, cell_keep hb h.c4, cell_keep hb h.c5, by rw [(bcell hb).2 b 0 hl]; exact h.z0, by rw [(bcell hb).2 b 1 hl]; exact h.z1, by rw [(bcell hb).2 b 2 hl]; exact h.z2, by rw [(bcell hb).2 b 3 hl]; exact h.z3, by rw [(bcell hb).2 b 4 hl]; exact h.z4, by rw [(bcell hb).2 b 5 hl]; exact h.z5⟩
theorem Bx6.but {w w' : World} {b : Nat} {x0 x1 x2 x3 x4 x5 : Value} {g : Option Nat} (h : Bx6 w b x0 x1 x2 x3 x4 x5) (hg : w.grownBy w' g) (hn : some b ≠ g) : Bx6 w' b x0 x1 x2 x3 x4 x5 :=
  have hb := hg.block b (block_lt_of_cell h.c0) hn
  ⟨(World.cell?_of_block (a := ⟨b, 0, none⟩) hb).trans h.c0, (World.cell?_of_block (a := ⟨b, 1, none⟩) hb).trans h.c1, (World.cell?_of_block (a := ⟨b, 2, none⟩) hb).trans h.c2, (World.cell?_of_block (a := ⟨b, 3, none⟩) hb).trans h.c3, (World.cell?_of_block (a := ⟨b, 4, none⟩) hb).trans h.c4, (World.cell?_of_block (a := ⟨b, 5, none⟩) hb).trans h.c5, (World.frozen?_of_block (a := ⟨b, 0, none⟩) hb).trans h.z0, (World.frozen?_of_block (a := ⟨b, 1, none⟩) hb).trans h.z1, (World.frozen?_of_block (a := ⟨b, 2, none⟩) hb).trans h.z2, (World.frozen?_of_block (a := ⟨b, 3, none⟩) hb).trans h.z3, (World.frozen?_of_block (a := ⟨b, 4, none⟩) hb).trans h.z4, (World.frozen?_of_block (a := ⟨b, 5, none⟩) hb).trans h.z5⟩
/-- A variable of 8 cells of the call's own. -/
structure Bx8 (w : World) (b : Nat) (x0 x1 x2 x3 x4 x5 x6 x7 : Value) : Prop where
  c0 : w.cell? ⟨b, 0, none⟩ = some x0
  c1 : w.cell? ⟨b, 1, none⟩ = some x1
  c2 : w.cell? ⟨b, 2, none⟩ = some x2
  c3 : w.cell? ⟨b, 3, none⟩ = some x3
  c4 : w.cell? ⟨b, 4, none⟩ = some x4
  c5 : w.cell? ⟨b, 5, none⟩ = some x5
  c6 : w.cell? ⟨b, 6, none⟩ = some x6
  c7 : w.cell? ⟨b, 7, none⟩ = some x7
  z0 : w.frozen? ⟨b, 0, none⟩ = false
  z1 : w.frozen? ⟨b, 1, none⟩ = false
  z2 : w.frozen? ⟨b, 2, none⟩ = false
  z3 : w.frozen? ⟨b, 3, none⟩ = false
  z4 : w.frozen? ⟨b, 4, none⟩ = false
  z5 : w.frozen? ⟨b, 5, none⟩ = false
  z6 : w.frozen? ⟨b, 6, none⟩ = false
  z7 : w.frozen? ⟨b, 7, none⟩ = false
theorem bx8_new (w : World) (x0 x1 x2 x3 x4 x5 x6 x7 : Value) (t : TypeId) : Bx8 (w.alloc (.cells #[x0, x1, x2, x3, x4, x5, x6, x7] t)) w.heap.size x0 x1 x2 x3 x4 x5 x6 x7 :=
  ⟨cell_new w _ _ _ rfl, cell_new w _ _ _ rfl, cell_new w _ _ _ rfl, cell_new w _ _ _ rfl, cell_new w _ _ _ rfl, cell_new w _ _ _ rfl, cell_new w _ _ _ rfl, cell_new w _ _ _ rfl, by simp, by simp, by simp, by simp, by simp, by simp, by simp, by simp⟩
theorem Bx8.keep {w w' : World} {b : Nat} {x0 x1 x2 x3 x4 x5 x6 x7 : Value} (h : Bx8 w b x0 x1 x2 x3 x4 x5 x6 x7) (hb : Below w.heap.size w w') : Bx8 w' b x0 x1 x2 x3 x4 x5 x6 x7 :=
  have hl := block_lt_of_cell h.c0
  ⟨cell_keep hb h.c0, cell_keep hb h.c1, cell_keep hb h.c2, cell_keep hb h.c3, cell_keep hb h.c4, cell_keep hb h.c5, cell_keep hb h.c6, cell_keep hb h.c7, by rw [(bcell hb).2 b 0 hl]; exact h.z0, by rw [(bcell hb).2 b 1 hl]; exact h.z1, by rw [(bcell hb).2 b 2 hl]; exact h.z2, by rw [(bcell hb).2 b 3 hl]; exact h.z3, by rw [(bcell hb).2 b 4 hl]; exact h.z4, by rw [(bcell hb).2 b 5 hl]; exact h.z5, by rw [(bcell hb).2 b 6 hl]; exact h.z6, by rw [(bcell hb).2 b 7 hl]; exact h.z7⟩
theorem Bx8.but {w w' : World} {b : Nat} {x0 x1 x2 x3 x4 x5 x6 x7 : Value} {g : Option Nat} (h : Bx8 w b x0 x1 x2 x3 x4 x5 x6 x7) (hg : w.grownBy w' g) (hn : some b ≠ g) : Bx8 w' b x0 x1 x2 x3 x4 x5 x6 x7 :=
  have hb := hg.block b (block_lt_of_cell h.c0) hn
  ⟨(World.cell?_of_block (a := ⟨b, 0, none⟩) hb).trans h.c0, (World.cell?_of_block (a := ⟨b, 1, none⟩) hb).trans h.c1, (World.cell?_of_block (a := ⟨b, 2, none⟩) hb).trans h.c2, (World.cell?_of_block (a := ⟨b, 3, none⟩) hb).trans h.c3, (World.cell?_of_block (a := ⟨b, 4, none⟩) hb).trans h.c4, (World.cell?_of_block (a := ⟨b, 5, none⟩) hb).trans h.c5, (World.cell?_of_block (a := ⟨b, 6, none⟩) hb).trans h.c6, (World.cell?_of_block (a := ⟨b, 7, none⟩) hb).trans h.c7, (World.frozen?_of_block (a := ⟨b, 0, none⟩) hb).trans h.z0, (World.frozen?_of_block (a := ⟨b, 1, none⟩) hb).trans h.z1, (World.frozen?_of_block (a := ⟨b, 2, none⟩) hb).trans h.z2, (World.frozen?_of_block (a := ⟨b, 3, none⟩) hb).trans h.z3, (World.frozen?_of_block (a := ⟨b, 4, none⟩) hb).trans h.z4, (World.frozen?_of_block (a := ⟨b, 5, none⟩) hb).trans h.z5, (World.frozen?_of_block (a := ⟨b, 6, none⟩) hb).trans h.z6, (World.frozen?_of_block (a := ⟨b, 7, none⟩) hb).trans h.z7⟩
theorem Bx4.set {w : World} {b : Nat} {x0 x1 x2 x3 : Value} (h : Bx4 w b x0 x1 x2 x3) (y0 y1 y2 y3 : Value) : Bx4 ((((w.setCell ⟨b, 0, none⟩ y0).setCell ⟨b, 1, none⟩ y1).setCell ⟨b, 2, none⟩ y2).setCell ⟨b, 3, none⟩ y3) b y0 y1 y2 y3 := by
  obtain ⟨c0, c1, c2, c3, z0, z1, z2, z3⟩ := h
  refine ⟨?_, ?_, ?_, ?_, ?_, ?_, ?_, ?_⟩
  all_goals go_simp
theorem Bx6.set {w : World} {b : Nat} {x0 x1 x2 x3 x4 x5 : Value} (h : Bx6 w b x0 x1 x2 x3 x4 x5) (y0 y1 y2 y3 y4 y5 : Value) : Bx6 ((((((w.setCell ⟨b, 0, none⟩ y0).setCell ⟨b, 1, none⟩ y1).setCell ⟨b, 2, none⟩ y2).setCell ⟨b, 3, none⟩ y3).setCell ⟨b, 4, none⟩ y4).setCell ⟨b, 5, none⟩ y5) b y0 y1 y2 y3 y4 y5 := by
  obtain ⟨c0, c1, c2, c3, c4, c5, z0, z1, z2, z3, z4, z5⟩ := h
  refine ⟨?_, ?_, ?_, ?_, ?_, ?_, ?_, ?_, ?_, ?_, ?_, ?_⟩
  all_goals go_simp
theorem Bx8.set {w : World} {b : Nat} {x0 x1 x2 x3 x4 x5 x6 x7 : Value} (h : Bx8 w b x0 x1 x2 x3 x4 x5 x6 x7) (y0 y1 y2 y3 y4 y5 y6 y7 : Value) : Bx8 ((((((((w.setCell ⟨b, 0, none⟩ y0).setCell ⟨b, 1, none⟩ y1).setCell ⟨b, 2, none⟩ y2).setCell ⟨b, 3, none⟩ y3).setCell ⟨b, 4, none⟩ y4).setCell ⟨b, 5, none⟩ y5).setCell ⟨b, 6, none⟩ y6).setCell ⟨b, 7, none⟩ y7) b y0 y1 y2 y3 y4 y5 y6 y7 := by
  obtain ⟨c0, c1, c2, c3, c4, c5, c6, c7, z0, z1, z2, z3, z4, z5, z6, z7⟩ := h
  refine ⟨?_, ?_, ?_, ?_, ?_, ?_, ?_, ?_, ?_, ?_, ?_, ?_, ?_, ?_, ?_, ?_⟩
  all_goals go_simp
theorem below_set4 {B b : Nat} {a w : World} (h : Below B a w) (hb : B ≤ b) (y0 y1 y2 y3 : Value) : Below B a ((((w.setCell ⟨b, 0, none⟩ y0).setCell ⟨b, 1, none⟩ y1).setCell ⟨b, 2, none⟩ y2).setCell ⟨b, 3, none⟩ y3) := ((((h.setCell (p := ⟨b, 0, none⟩) hb y0).setCell (p := ⟨b, 1, none⟩) hb y1).setCell (p := ⟨b, 2, none⟩) hb y2).setCell (p := ⟨b, 3, none⟩) hb y3)
theorem below_set6 {B b : Nat} {a w : World} (h : Below B a w) (hb : B ≤ b) (y0 y1 y2 y3 y4 y5 : Value) : Below B a ((((((w.setCell ⟨b, 0, none⟩ y0).setCell ⟨b, 1, none⟩ y1).setCell ⟨b, 2, none⟩ y2).setCell ⟨b, 3, none⟩ y3).setCell ⟨b, 4, none⟩ y4).setCell ⟨b, 5, none⟩ y5) := ((((((h.setCell (p := ⟨b, 0, none⟩) hb y0).setCell (p := ⟨b, 1, none⟩) hb y1).setCell (p := ⟨b, 2, none⟩) hb y2).setCell (p := ⟨b, 3, none⟩) hb y3).setCell (p := ⟨b, 4, none⟩) hb y4).setCell (p := ⟨b, 5, none⟩) hb y5)
theorem below_set8 {B b : Nat} {a w : World} (h : Below B a w) (hb : B ≤ b) (y0 y1 y2 y3 y4 y5 y6 y7 : Value) : Below B a ((((((((w.setCell ⟨b, 0, none⟩ y0).setCell ⟨b, 1, none⟩ y1).setCell ⟨b, 2, none⟩ y2).setCell ⟨b, 3, none⟩ y3).setCell ⟨b, 4, none⟩ y4).setCell ⟨b, 5, none⟩ y5).setCell ⟨b, 6, none⟩ y6).setCell ⟨b, 7, none⟩ y7) := ((((((((h.setCell (p := ⟨b, 0, none⟩) hb y0).setCell (p := ⟨b, 1, none⟩) hb y1).setCell (p := ⟨b, 2, none⟩) hb y2).setCell (p := ⟨b, 3, none⟩) hb y3).setCell (p := ⟨b, 4, none⟩) hb y4).setCell (p := ⟨b, 5, none⟩) hb y5).setCell (p := ⟨b, 6, none⟩) hb y6).setCell (p := ⟨b, 7, none⟩) hb y7)
end Go.Proofs.YtmekockjgldndaaDoor
