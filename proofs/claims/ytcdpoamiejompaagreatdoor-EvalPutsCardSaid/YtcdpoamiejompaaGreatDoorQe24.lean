/-
  Schemas and requests that come in.
  A request in a variable.
  eval.Ask.
  tree.Skip: the place behind a part of an expression.
  tree.behind, tree.Check; the reference's Behind and Fault: where an expression ends.
  The order of nodes once more: what was there is as it was, and draws are only added.
  DERIVED: THE SHELF's CONTRACTS AT THIS DUMP, IN PLAIN WORDS (tools/lay-plain.mjs out of 'TryzSort.lean', which tools/lay-shelf.mjs wrote): THE SAME DECLARATIONS UNDER THE SAME NAMES: 'import', 'namespace', 'open', 'def', 'theorem' AND NOTHING ELSE: no command of the shelf's: FOR A HAND-IN. Each laying: the table of numbers ('.._ren') and one theorem, a field a fact of the dump's own or the kernel's comparison; each contract: ONE APPLICATION.
  slices.SortFunc over slices of nodes by val.order.
  Plain: a list of values without what is as the one before it.
-/
import Derived.Shelf.SlSortCmp.Whole1
import Derived.Shelf.SlSortCmp.NoneTotal
import Derived.Test.YtcdpoamiejompaaGreatDoorProg
import Derived.Test.YtcdpoamiejompaaGreatDoorQe23
namespace Go.Proofs.YtcdpoamiejompaaGreatDoor
open Go.Wk Go.ChangeShapes Go.WideShapes Go.RowKit
set_option maxRecDepth 100000

/-- A slice of texts, with its length and its capacity. -/
structure Txs (w : World) (A : Option Addr) (n c : Nat) (N : List ByteArray) : Prop where
  len : n = N.length
  cap : n ≤ c
  max : n ≤ maxLen
  at_ : TxAt w A N
  ok : ∀ x ∈ N, x.size ≤ maxLen
theorem Txs.keep {w w' : World} {A : Option Addr} {n c : Nat} {N : List ByteArray} (h : Txs w A n c N) (hb : Below w.heap.size w w') : Txs w' A n c N := ⟨h.len, h.cap, h.max, h.at_.keep hb, h.ok⟩
/-- A kind, and where its parts lie. -/
structure Kn where
  d : KD
  UA : Option Addr
  un : Nat
  uc : Nat
  NA : Option Addr
  nn : Nat
  nc : Nat
def Kn.cs (x : Kn) : List Value := [.string x.d.nm, .slice x.UA x.un x.uc, .slice x.NA x.nn x.nc]
structure KnOk (w : World) (x : Kn) : Prop where
  s : x.d.nm.size ≤ maxLen
  us : Txs w x.UA x.un x.uc x.d.up
  ns : Ns w x.NA x.nn x.nc x.d.P
theorem KnOk.keep {w w' : World} {x : Kn} (h : KnOk w x) (hb : Below w.heap.size w w') : KnOk w' x := ⟨h.s, h.us.keep hb, h.ns.keep hb⟩
/-- An act, and where its parts lie. -/
structure An where
  d : AD
  WA : Option Addr
  wn : Nat
  wc : Nat
  TA : Option Addr
  tn : Nat
  tc : Nat
  NA : Option Addr
  nn : Nat
  nc : Nat
def An.cs (x : An) : List Value := [.string x.d.id, .slice x.WA x.wn x.wc, .slice x.TA x.tn x.tc, .slice x.NA x.nn x.nc]
def An.v (x : An) : Value := .agg #[.string x.d.id, .slice x.WA x.wn x.wc, .slice x.TA x.tn x.tc, .slice x.NA x.nn x.nc]
structure AnOk (w : World) (x : An) : Prop where
  s : x.d.id.size ≤ maxLen
  ws : Txs w x.WA x.wn x.wc x.d.who
  ts : Txs w x.TA x.tn x.tc x.d.what
  ns : Ns w x.NA x.nn x.nc x.d.P
theorem AnOk.keep {w w' : World} {x : An} (h : AnOk w x) (hb : Below w.heap.size w w') : AnOk w' x := ⟨h.s, h.ws.keep hb, h.ts.keep hb, h.ns.keep hb⟩
/-- A slice that holds kinds. -/
structure Ks (w : World) (A : Option Addr) (n c : Nat) (K : List Kn) : Prop where
  len : n = K.length
  cap : n ≤ c
  max : n ≤ maxLen
  at_ : ∀ (k : Nat) (x : Kn), K[k]? = some x → ∃ a, A = some a ∧ w.cell? (a.add (k * 3)) = some (.string x.d.nm) ∧ w.cell? ⟨(a.add (k * 3)).block, (a.add (k * 3)).off + 1, none⟩ = some (.slice x.UA x.un x.uc) ∧
    w.cell? ⟨(a.add (k * 3)).block, (a.add (k * 3)).off + 2, none⟩ = some (.slice x.NA x.nn x.nc) ∧ KnOk w x
theorem Ks.keep {w w' : World} {A : Option Addr} {n c : Nat} {K : List Kn} (h : Ks w A n c K) (hb : Below w.heap.size w w') : Ks w' A n c K :=
  ⟨h.len, h.cap, h.max, fun k x hx => let ⟨a, h1, h2, h3, h4, h5⟩ := h.at_ k x hx; ⟨a, h1, cell_keep hb h2, cell_keep hb h3, cell_keep hb h4, h5.keep hb⟩⟩
/-- A slice that holds acts. -/
structure As (w : World) (A : Option Addr) (n c : Nat) (L : List An) : Prop where
  len : n = L.length
  cap : n ≤ c
  max : n ≤ maxLen
  at_ : ∀ (k : Nat) (x : An), L[k]? = some x → ∃ a, A = some a ∧ w.cell? (a.add (k * 4)) = some (.string x.d.id) ∧ w.cell? ⟨(a.add (k * 4)).block, (a.add (k * 4)).off + 1, none⟩ = some (.slice x.WA x.wn x.wc) ∧
    w.cell? ⟨(a.add (k * 4)).block, (a.add (k * 4)).off + 2, none⟩ = some (.slice x.TA x.tn x.tc) ∧ w.cell? ⟨(a.add (k * 4)).block, (a.add (k * 4)).off + 3, none⟩ = some (.slice x.NA x.nn x.nc) ∧ AnOk w x
theorem As.keep {w w' : World} {A : Option Addr} {n c : Nat} {L : List An} (h : As w A n c L) (hb : Below w.heap.size w w') : As w' A n c L :=
  ⟨h.len, h.cap, h.max, fun k x hx => let ⟨a, h1, h2, h3, h4, h5, h6⟩ := h.at_ k x hx; ⟨a, h1, cell_keep hb h2, cell_keep hb h3, cell_keep hb h4, cell_keep hb h5, h6.keep hb⟩⟩
/-- A schema, and where its parts lie. -/
structure Sc where
  KA : Option Addr
  kn : Nat
  kc : Nat
  K : List Kn
  AA : Option Addr
  an : Nat
  ac : Nat
  L : List An
def Sc.v (s : Sc) : Value := .agg #[.slice s.KA s.kn s.kc, .slice s.AA s.an s.ac]
def Sc.k (s : Sc) : List KD := s.K.map Kn.d
def Sc.a (s : Sc) : List AD := s.L.map An.d
structure ScOk (w : World) (s : Sc) : Prop where
  k : Ks w s.KA s.kn s.kc s.K
  a : As w s.AA s.an s.ac s.L
theorem ScOk.keep {w w' : World} {s : Sc} (h : ScOk w s) (hb : Below w.heap.size w w') : ScOk w' s := ⟨h.k.keep hb, h.a.keep hb⟩
/-- A request, and where its context lies. -/
structure Rq where
  who : Ud
  act : Ud
  what : Ud
  NA : Option Addr
  nn : Nat
  nc : Nat
  P : List Nd
def Rq.v (q : Rq) : Value := .agg #[.string q.who.1, .string q.who.2, .string q.act.1, .string q.act.2, .string q.what.1, .string q.what.2, .slice q.NA q.nn q.nc]
structure RqOk (w : World) (q : Rq) : Prop where
  w1 : q.who.1.size ≤ maxLen
  w2 : q.who.2.size ≤ maxLen
  a1 : q.act.1.size ≤ maxLen
  a2 : q.act.2.size ≤ maxLen
  t1 : q.what.1.size ≤ maxLen
  t2 : q.what.2.size ≤ maxLen
  ns : Ns w q.NA q.nn q.nc q.P
theorem RqOk.keep {w w' : World} {q : Rq} (h : RqOk w q) (hb : Below w.heap.size w w') : RqOk w' q := ⟨h.w1, h.w2, h.a1, h.a2, h.t1, h.t2, h.ns.keep hb⟩

theorem cells_request : Tryz.prog.cellsOf 27 = 7 := by kernel_rfl
theorem open_request {H : Type} {enc : TypeId × Value → H} {w : World} {b b0 : Nat} {sp : Nat → Bool} {hd : Bool} {v : Value} {d : DataW H} {ps : List MemPlace} {r : Reach}
    (hv : Value.okWide Tryz.prog w r b0 27 v) (h : DataW.Trod enc Tryz.prog w b sp hd 27 v d ps) : ∃ x : Rq, v = x.v ∧ RqOk w x := by
  obtain ⟨cs, rfl, _⟩ := okWide_struct Tryz.underlying27 hv
  have hr := rd_of_trod h
  have hl := (rd_struct Tryz.underlying27 hr).1
  rw [cells_request] at hl
  obtain ⟨l⟩ := cs
  simp only [Value.cells] at hl hr
  match l, hl with
  | [c0, c1, c2, c3, c4, c5, c6], _ =>
    have h0 : Rd Tryz.prog w 24 [c0, c1] := rd_field Tryz.underlying27 hr 0 24 0 2 rfl cells_uid
    have h1 : Rd Tryz.prog w 24 [c2, c3] := rd_field Tryz.underlying27 hr 1 24 2 2 rfl cells_uid
    have h2 : Rd Tryz.prog w 24 [c4, c5] := rd_field Tryz.underlying27 hr 2 24 4 2 rfl cells_uid
    have h3 : Rd Tryz.prog w 25 [c6] := rd_field Tryz.underlying27 hr 3 25 6 1 rfl cells_nodes1
    obtain ⟨s1, t1, e0, p1, p2⟩ := rd_uid h0
    obtain ⟨s2, t2, e1, p3, p4⟩ := rd_uid h1
    obtain ⟨s3, t3, e2, p5, p6⟩ := rd_uid h2
    obtain ⟨NA, nn, nc, P, e3, n1, n2, n3, n4, n5⟩ := rd_nodes h3
    simp only [List.cons.injEq, and_true] at e0 e1 e2 e3
    exact ⟨⟨(s1, t1), (s2, t2), (s3, t3), NA, nn, nc, P⟩, by rw [e0.1, e0.2, e1.1, e1.2, e2.1, e2.2, e3]; rfl, p1, p2, p3, p4, p5, p6, n1, n2, n3, n4, n5⟩
end Go.Proofs.YtcdpoamiejompaaGreatDoor
namespace Go.Proofs.YtcdpoamiejompaaGreatDoor
open Go.RowKit Go.Wk Go.Sort
set_option maxRecDepth 100000

/-- The seven cells of a request in a variable. -/
structure Vq (w : World) (b : Nat) (q : Rq) : Prop where
  c0 : w.cell? ⟨b, 0, none⟩ = some (.string q.who.1)
  c1 : w.cell? ⟨b, 1, none⟩ = some (.string q.who.2)
  c2 : w.cell? ⟨b, 2, none⟩ = some (.string q.act.1)
  c3 : w.cell? ⟨b, 3, none⟩ = some (.string q.act.2)
  c4 : w.cell? ⟨b, 4, none⟩ = some (.string q.what.1)
  c5 : w.cell? ⟨b, 5, none⟩ = some (.string q.what.2)
  c6 : w.cell? ⟨b, 6, none⟩ = some (.slice q.NA q.nn q.nc)
theorem Vq.keep {w w' : World} {b : Nat} {x : Rq} (h : Vq w b x) (hb : Below w.heap.size w w') : Vq w' b x := ⟨cell_keep hb h.c0, cell_keep hb h.c1, cell_keep hb h.c2, cell_keep hb h.c3, cell_keep hb h.c4, cell_keep hb h.c5, cell_keep hb h.c6⟩
theorem vq_new (w : World) (q : Rq) (t : TypeId) : Vq (w.alloc (.cells #[.string q.who.1, .string q.who.2, .string q.act.1, .string q.act.2, .string q.what.1, .string q.what.2, .slice q.NA q.nn q.nc] t)) w.heap.size q :=
  ⟨cell_row (heap_alloc_last w _) rfl, cell_row (heap_alloc_last w _) rfl, cell_row (heap_alloc_last w _) rfl, cell_row (heap_alloc_last w _) rfl, cell_row (heap_alloc_last w _) rfl, cell_row (heap_alloc_last w _) rfl, cell_row (heap_alloc_last w _) rfl⟩
end Go.Proofs.YtcdpoamiejompaaGreatDoor
namespace Go.Proofs.YtcdpoamiejompaaGreatDoor
open Go.RowKit Go.Wk Go.Sort
set_option maxRecDepth 100000

theorem val_hd {w : World} {A : Option Addr} {n c : Nat} {P : List Nd} (h : Ns w A n c P) (hp : 0 < P.length) : ∃ a, A = some a ∧ 1 ≤ n ∧ w.cell? a = some (.int .i64 (headOp P)) ∧ w.cell? ⟨a.block, a.off + 2, none⟩ = some (.string P[0].s) := by
  obtain ⟨a, ha, D⟩ := h.at_.nd hp
  rw [show a.add (0 * 4) = a from rfl] at D
  refine ⟨a, ha, by rw [h.len]; exact hp, ?_, D.c2⟩
  rw [headOp_at hp]
  exact D.c0
theorem ask_idx0 (s1 t1 s2 t2 s3 t3 : ByteArray) (w : World) : (Instr.index 87 (.agg #[.string s1, .string t1, .string s2, .string t2, .string s3, .string t3]) (.int .i64 0)).run Tryz.prog w = .ok (.agg #[.string s1, .string t1]) w := by kernel_rfl
theorem ask_idx1 (s1 t1 s2 t2 s3 t3 : ByteArray) (w : World) : (Instr.index 87 (.agg #[.string s1, .string t1, .string s2, .string t2, .string s3, .string t3]) (.int .i64 1)).run Tryz.prog w = .ok (.agg #[.string s2, .string t2]) w := by kernel_rfl
theorem ask_idx2 (s1 t1 s2 t2 s3 t3 : ByteArray) (w : World) : (Instr.index 87 (.agg #[.string s1, .string t1, .string s2, .string t2, .string s3, .string t3]) (.int .i64 2)).run Tryz.prog w = .ok (.agg #[.string s3, .string t3]) w := by kernel_rfl
/-- What is left to ask behind k of the three. -/
def askR (r1 r2 r3 R : Int) (k : Nat) : Int := if k = 0 then or2 r1 (or2 r2 (or2 r3 R)) else if k = 1 then or2 r2 (or2 r3 R) else if k = 2 then or2 r3 R else R
set_option maxHeartbeats 4000000 in
theorem eval_Ask (q : Rq) (w : World) (h : RqOk w q) :
    Calls Tryz.prog 15 #[q.v] w fun e w' => e = .returned (errV (askF q.who q.act q.what q.P)) ∧ Below w.heap.size w w' := by
  obtain ⟨⟨s1, t1⟩, ⟨s2, t2⟩, ⟨s3, t3⟩, NA, nn, nc, P⟩ := q
  have V0 := Lib.hid (vq_new w ⟨(s1, t1), (s2, t2), (s3, t3), NA, nn, nc, P⟩ 27)
  have B0 := Lib.hid (below_box w (.cells #[.string s1, .string t1, .string s2, .string t2, .string s3, .string t3, .slice NA nn nc] 27))
  have C1 := Lib.hid (fun w => name_Write s1 t1 w h.w1 h.w2)
  have C2 := Lib.hid (fun w => name_Write s2 t2 w h.a1 h.a2)
  have C3 := Lib.hid (fun w => name_Write s3 t3 w h.t1 h.t2)
  have HN := Lib.hid h.ns
  have KV := Lib.hid (fun w' hb => val_Check_ns (h.ns.keep (w' := w') hb))
  dsimp only at HN KV
  have HR := Lib.hid (show askF (s1, t1) (s2, t2) (s3, t3) P = askR (uidFault (s1, t1)) (uidFault (s2, t2)) (uidFault (s3, t3)) (or2 (valFault P) (if headOp P = 6 then 0 else 2)) 0 from rfl)
  unfold Rq.v
  dsimp only
  generalize askF (s1, t1) (s2, t2) (s3, t3) P = F at *
  generalize uidFault (s1, t1) = r1 at *
  generalize uidFault (s2, t2) = r2 at *
  generalize uidFault (s3, t3) = r3 at *
  generalize wrtV (s1, t1) = u1 at *
  generalize wrtV (s2, t2) = u2 at *
  generalize wrtV (s3, t3) = u3 at *
  have hnx := h.ns.max
  have hnc := h.ns.cap
  unfold maxLen at hnx
  dsimp only at hnx hnc
  clear h
  go_enter Tryz.func15, Tryz.ntmps15
  go_wp2_with fail
  go_loopw [15] (fun i wr => ∃ k : Nat, i = .int .i64 k ∧ k ≤ 3 ∧ Hid (F = askR r1 r2 r3 (or2 (valFault P) (if headOp P = 6 then 0 else 2)) k) ∧ Hid (Below w.heap.size w wr) ∧ Hid (Vq wr w.heap.size ⟨(s1, t1), (s2, t2), (s3, t3), NA, nn, nc, P⟩)) (fun i _ => 3 - (intOf i).toNat)
  case atStart => exact ⟨0, rfl, by omega, HR, B0, V0⟩
  case round =>
    obtain ⟨k, rfl, hk, hF, hB, hV⟩ := hrel
    clear HR B0 V0
    have hcase : k = 0 ∨ k = 1 ∨ k = 2 ∨ k = 3 := by omega
    rcases hcase with rfl | rfl | rfl | rfl
    · have hix := ask_idx0 s1 t1 s2 t2 s3 t3
      have HF := Lib.hid (show F = or2 r1 (or2 r2 (or2 r3 (or2 (valFault P) (if headOp P = 6 then 0 else 2)))) from hF.out)
      have BB := Lib.hid (below_box wr (.cells #[.string s1, .string t1] 24))
      clear hF
      go_wp2_with fail
      refine (C1.out _).mono ?_
      rintro e w1 ⟨rfl, b1⟩
      have BW := Lib.hid (BB.out.trans (b1.mono BB.out.size))
      have B1 := Lib.hid (hB.out.trans (BW.out.mono hB.out.size))
      have V1 := Lib.hid (hV.out.keep BW.out)
      clear b1 BB BW hB hV
      by_cases g : r1 = 0
      · have HF2 := Lib.hid (show F = askR r1 r2 r3 (or2 (valFault P) (if headOp P = 6 then 0 else 2)) 1 by rw [HF.out, g, or2_zero]; rfl)
        rw [g, errV_zero]
        clear HF g
        go_wp2_with fail
        go_roundw
        case rel => exact ⟨1, by go_num, by omega, HF2, B1, V1⟩
        case measure => simp [intOf]
      · have HEV := Lib.hid (errV_ne g)
        have HE := Lib.hid (show F = r1 by rw [HF.out, or2_ne g])
        rw [HEV.out]
        clear g
        go_wp2_with fail
        go_ret
        exact ⟨by rw [HE.out, HEV.out]; rfl, B1.out⟩
    · have hix := ask_idx1 s1 t1 s2 t2 s3 t3
      have HF := Lib.hid (show F = or2 r2 (or2 r3 (or2 (valFault P) (if headOp P = 6 then 0 else 2))) from hF.out)
      have BB := Lib.hid (below_box wr (.cells #[.string s2, .string t2] 24))
      clear hF
      go_wp2_with fail
      refine (C2.out _).mono ?_
      rintro e w1 ⟨rfl, b1⟩
      have BW := Lib.hid (BB.out.trans (b1.mono BB.out.size))
      have B1 := Lib.hid (hB.out.trans (BW.out.mono hB.out.size))
      have V1 := Lib.hid (hV.out.keep BW.out)
      clear b1 BB BW hB hV
      by_cases g : r2 = 0
      · have HF2 := Lib.hid (show F = askR r1 r2 r3 (or2 (valFault P) (if headOp P = 6 then 0 else 2)) 2 by rw [HF.out, g, or2_zero]; rfl)
        rw [g, errV_zero]
        clear HF g
        go_wp2_with fail
        go_roundw
        case rel => exact ⟨2, by go_num, by omega, HF2, B1, V1⟩
        case measure => simp [intOf]
      · have HEV := Lib.hid (errV_ne g)
        have HE := Lib.hid (show F = r2 by rw [HF.out, or2_ne g])
        rw [HEV.out]
        clear g
        go_wp2_with fail
        go_ret
        exact ⟨by rw [HE.out, HEV.out]; rfl, B1.out⟩
    · have hix := ask_idx2 s1 t1 s2 t2 s3 t3
      have HF := Lib.hid (show F = or2 r3 (or2 (valFault P) (if headOp P = 6 then 0 else 2)) from hF.out)
      have BB := Lib.hid (below_box wr (.cells #[.string s3, .string t3] 24))
      clear hF
      go_wp2_with fail
      refine (C3.out _).mono ?_
      rintro e w1 ⟨rfl, b1⟩
      have BW := Lib.hid (BB.out.trans (b1.mono BB.out.size))
      have B1 := Lib.hid (hB.out.trans (BW.out.mono hB.out.size))
      have V1 := Lib.hid (hV.out.keep BW.out)
      clear b1 BB BW hB hV
      by_cases g : r3 = 0
      · have HF2 := Lib.hid (show F = askR r1 r2 r3 (or2 (valFault P) (if headOp P = 6 then 0 else 2)) 3 by rw [HF.out, g, or2_zero]; rfl)
        rw [g, errV_zero]
        clear HF g
        go_wp2_with fail
        go_roundw
        case rel => exact ⟨3, by go_num, by omega, HF2, B1, V1⟩
        case measure => simp [intOf]
      · have HEV := Lib.hid (errV_ne g)
        have HE := Lib.hid (show F = r3 by rw [HF.out, or2_ne g])
        rw [HEV.out]
        clear g
        go_wp2_with fail
        go_ret
        exact ⟨by rw [HE.out, HEV.out]; rfl, B1.out⟩
    · have HF := Lib.hid (show F = or2 (valFault P) (if headOp P = 6 then 0 else 2) from hF.out)
      obtain ⟨c0, c1, c2, c3, c4, c5, c6⟩ := hV.out
      dsimp only at c0 c1 c2 c3 c4 c5 c6
      clear hF
      go_wp2_with fail
      refine (KV.out _ hB.out).mono ?_
      rintro e w4 ⟨rfl, b4⟩
      have B4 := Lib.hid (hB.out.trans (b4.mono hB.out.size))
      have V4 := Lib.hid (hV.out.keep b4)
      clear b4 hB hV c0 c1 c2 c3 c4 c5 c6
      obtain ⟨c0, c1, c2, c3, c4, c5, c6⟩ := V4.out
      dsimp only at c0 c1 c2 c3 c4 c5 c6
      by_cases g4 : valFault P = 0
      · obtain ⟨a, rfl, hn1, d0, -⟩ := val_hd (HN.out.keep B4.out) (isV_zero.1 g4).2.pos
        rw [g4, or2_zero] at HF
        rw [g4, errV_zero]
        by_cases g5 : headOp P = 6
        · rw [if_pos g5] at HF
          rw [g5] at d0
          clear g5 g4
          go_wp2_with fail
          go_ret
          exact ⟨by rw [HF.out]; rfl, B4.out⟩
        · rw [if_neg g5] at HF
          have f1 : (headOp P != 6) = true := by rw [bne_iff_ne]; exact g5
          generalize headOp P = o at *
          clear g5 g4
          go_wp2_with fail
          go_ret
          exact ⟨by rw [HF.out]; rfl, B4.out⟩
      · rw [or2_ne g4] at HF
        have HEV := Lib.hid (errV_ne g4)
        rw [HEV.out]
        generalize valFault P = r4 at *
        clear g4
        go_wp2_with fail
        go_ret
        exact ⟨by rw [HF.out, HEV.out]; rfl, B4.out⟩
end Go.Proofs.YtcdpoamiejompaaGreatDoor
namespace Go.Proofs.YtcdpoamiejompaaGreatDoor
open Go.RowKit Go.Wk Go.Sort
set_option maxRecDepth 100000

set_option maxHeartbeats 2000000 in
theorem tree_Skip (A : Option Addr) (n c : Nat) (P : List Nd) (p : Nat) (f : Bool) (x : Ex) (w : World) (h : Ns w A n c P) (hx : XAt P p f x) :
    Calls Tryz.prog 127 #[.slice A n c, .int .i64 p] w fun e w' => e = .returned (.int .i64 ((p + x.flat.length : Nat) : Int)) ∧ Below w.heap.size w w' := by
  have hm := h.max
  unfold maxLen at hm
  have HNS := Lib.hid h
  have HLN := Lib.hid h.len
  have HLE := Lib.hid hx.le
  have HO := Lib.hid (show Over P p (.cons x .nil) from (by obtain ⟨r, e⟩ := hx.drop; exact Over.start hx.valid e))
  have CP := Lib.hid (fun y w => tree_parts y w)
  unfold ndV at CP
  have HT := Lib.hid (show p + (Exs.cons x .nil).flat.length = p + x.flat.length by simp [Exs.flat])
  have hple : p + x.flat.length ≤ n := by rw [HLN.out]; exact HLE.out
  generalize p + x.flat.length = T at *
  clear h hx
  go_enter Tryz.func127, Tryz.ntmps127
  go_wp2_with fail
  go_loopw [1, 5] (fun u l wr => ∃ (q m : Nat) (L : Exs), u = .int .i64 q ∧ l = .int .i64 m ∧ Hid (m = L.len) ∧ Hid (Over P q L) ∧ Hid (q + L.flat.length = T) ∧ Hid (Below w.heap.size w wr)) (fun u _ _ => n + 1 - (intOf u).toNat)
  case atStart => exact ⟨p, 1, .cons x .nil, rfl, rfl, Lib.hid rfl, HO, HT, Lib.hid (Below.refl _ _)⟩
  case round =>
    obtain ⟨q, m, L, rfl, rfl, hM, hO, hT, hB⟩ := hrel
    by_cases hl : 0 < m
    · obtain ⟨y, ps, r, rfl⟩ := hO.out.left (by rw [← hM.out]; exact hl)
      obtain ⟨hy, hO2, hlen, htot⟩ := hO.out.step
      have hql : q < P.length := (List.getElem?_eq_some_iff.1 hy).1
      have hqn : q < n := by rw [HLN.out]; exact hql
      obtain ⟨a, rfl, d0, d1, d2, d3⟩ := (HNS.out.keep hB.out).at_ q y hy
      have HO2 := Lib.hid hO2
      have HT2 := Lib.hid (htot.trans hT.out)
      have hbl := flatXs_len (ps.app r)
      have hm1 : (Exs.cons (.node y ps) r).len = r.len + 1 := rfl
      have hmm := hM.out
      have hsum : (m : Int) + partsN y = ((ps.app r).len : Int) + 1 := by omega
      have hfl : (ps.app r).len + 1 ≤ n := by have := HT2.out; omega
      have CY := Lib.hid (fun w => CP.out y w)
      have f0 : decide (0 < m) = true := decide_eq_true hl
      obtain ⟨m2, hm2⟩ : ∃ m2, m2 = (ps.app r).len := ⟨_, rfl⟩
      have HM2 := Lib.hid hm2
      rw [← hm2] at hsum hfl
      generalize (ps.app r) = L2 at *
      generalize partsN y = k at *
      clear hO hT hy hO2 htot hlen hl hbl hm1 hmm hm2
      go_wp2_with fail
      refine (CY.out _).mono ?_
      rintro e w1 ⟨rfl, b1⟩
      have B1 := bh hB b1
      clear b1 hB d0 d1 d2 d3
      go_wp2_with fail
      go_roundw
      case rel => exact ⟨q + 1, m2, L2, by go_num, by go_num, HM2, HO2, HT2, B1⟩
      case measure => simp [intOf]; omega
    · have hL : L = .nil := by
        have := hM.out
        cases L with
        | nil => rfl
        | cons x r => simp only [Exs.len] at this; omega
      have HR := Lib.hid (show q = T by have := hT.out; rw [hL] at this; simpa [Exs.flat] using this)
      have hm0 : m = 0 := by omega
      subst hm0
      clear hL hl
      go_wp2_with fail
      go_ret
      exact ⟨by rw [← HR.out]; rfl, hB.out⟩
end Go.Proofs.YtcdpoamiejompaaGreatDoor
namespace Go.Proofs.YtcdpoamiejompaaGreatDoor
open Go.RowKit Go.Wk Go.Sort
set_option maxRecDepth 100000

/-- The four cells of a node in a variable. -/
structure Vn (w : World) (b : Nat) (x : Nd) : Prop where
  c0 : w.cell? ⟨b, 0, none⟩ = some (.int .i64 x.op)
  c1 : w.cell? ⟨b, 1, none⟩ = some (.int .i64 x.n)
  c2 : w.cell? ⟨b, 2, none⟩ = some (.string x.s)
  c3 : w.cell? ⟨b, 3, none⟩ = some (.string x.t)
theorem Vn.keep {w w' : World} {b : Nat} {x : Nd} (h : Vn w b x) (hb : Below w.heap.size w w') : Vn w' b x := ⟨cell_keep hb h.c0, cell_keep hb h.c1, cell_keep hb h.c2, cell_keep hb h.c3⟩
theorem vn_new (w : World) (x : Nd) (t : TypeId) : Vn (w.alloc (.cells #[.int .i64 x.op, .int .i64 x.n, .string x.s, .string x.t] t)) w.heap.size x :=
  ⟨vcell_row (heap_alloc_new w _) rfl, vcell_row (heap_alloc_new w _) rfl, vcell_row (heap_alloc_new w _) rfl, vcell_row (heap_alloc_new w _) rfl⟩
theorem xsEnd_free (t : List Nd) (s s' : ByteArray) : ∀ (c p : Nat), xsEnd t c false s p = xsEnd t c false s' p
  | 0, p => by unfold xsEnd; simp only [parseXs]
  | c + 1, p => by
    rcases h : t[p]? with _ | y
    · have hp : t.length ≤ p := List.getElem?_eq_none_iff.1 h
      rw [xsEnd_out hp, xsEnd_out hp]
    · have e1 : ∀ z, ¬ (false = true ∧ ¬ cmpB z y.s < 0) := fun z q => Bool.false_ne_true q.1
      rw [xsEnd_succ h, xsEnd_succ h, if_neg (e1 s), if_neg (e1 s')]
/-- A part that is no field. -/
theorem xsEnd_plain {t : List Nd} {s : ByteArray} {c p : Nat} : xsEnd t (c + 1) false s p = if 0 ≤ xEnd t p false then xsEnd t c false s (xEnd t p false).toNat else -1 := by
  rcases h : t[p]? with _ | y
  · have hp : t.length ≤ p := List.getElem?_eq_none_iff.1 h
    rw [xsEnd_out hp, xEnd_out hp]; rfl
  · rw [xsEnd_succ h, if_neg (fun q => absurd q.1 Bool.false_ne_true), xsEnd_free t y.s s]
theorem headX_no {f : Bool} {x : Nd} (h : fieldsN x = false) : headX f x = false := by unfold headX; rw [h]; rfl
theorem headX_of {f : Bool} {x : Nd} (h : fieldsN x = true) : headX f x = (decide (x.op = 7) == f) := by unfold headX; rw [h]; rfl
theorem partsN_le {x : Nd} (h : NdOk x) : partsN x ≤ 9223372036854775807 := by
  unfold partsN
  have := h.hi
  split
  · exact this
  · repeat' (first | split | omega)
def TbC (P : List Nd) (A : Option Addr) (n c m : Nat) : Prop := ∀ (p : Nat) (f : Bool) (w : World), Ns w A n c P → n - p ≤ m →
  Calls Tryz.prog 49 #[.slice A n c, .int .i64 p, .bool f] w fun e w' => e = .returned (.int .i64 (xEnd P p f)) ∧ Below w.heap.size w w'
set_option maxHeartbeats 1000000 in
theorem tb_out (P : List Nd) (A : Option Addr) (n c p : Nat) (f : Bool) (w : World) (h : Ns w A n c P) (hp : n ≤ p) :
    Calls Tryz.prog 49 #[.slice A n c, .int .i64 p, .bool f] w fun e w' => e = .returned (.int .i64 (xEnd P p f)) ∧ Below w.heap.size w w' := by
  have HR := Lib.hid (xEnd_out (t := P) (p := p) (f := f) (by rw [← h.len]; exact hp))
  have f0 : decide ((n : Int) ≤ (p : Int)) = true := decide_eq_true (by omega)
  have f1 : decide ((p : Int) < 0) = false := decide_eq_false (by omega)
  clear h
  go_enter Tryz.func49, Tryz.ntmps49
  go_wp2_with fail
  go_ret
  exact ⟨by rw [HR.out]; rfl, Below.refl _ _⟩
set_option maxHeartbeats 8000000 in
theorem tb_step (P : List Nd) (m : Nat) (a : Addr) (n c q : Nat) (f : Bool) (w : World) (ih : TbC P (some a) n c m) (hns : Ns w (some a) n c P) (hq : q < n) (hf : n - q ≤ m + 1) :
    Calls Tryz.prog 49 #[.slice (some a) n c, .int .i64 q, .bool f] w fun e w' => e = .returned (.int .i64 (xEnd P q f)) ∧ Below w.heap.size w w' := by
  have hm := hns.max
  unfold maxLen at hm
  have HNS := Lib.hid hns
  have HLN := Lib.hid hns.len
  have hql : q < P.length := by rw [← hns.len]; exact hq
  have HX0 := List.getElem?_eq_getElem hql
  have hok := hns.ok _ (List.getElem_mem hql)
  have IH := Lib.hid (fun p g w' (hp : q < p) hb => ih p g w' (hns.keep (w' := w') hb) (by omega))
  obtain ⟨a', ea, d0, d1, d2, d3⟩ := hns.at_ q _ HX0
  injection ea with ea
  subst ea
  have CS := Lib.hid (tree_shaped P[q] w hok)
  have CP := Lib.hid (fun w => tree_parts P[q] w)
  have hpl := partsN_le hok
  obtain ⟨x, hx⟩ : ∃ x, x = P[q] := ⟨_, rfl⟩
  rw [← hx] at HX0 hok d0 d1 d2 d3 CS CP hpl
  have HX := Lib.hid HX0
  clear hx HX0 hns ih hok
  have HXE := Lib.hid (show Nd4 w (a.add (q * 4)) x from ⟨d0, d1, d2, d3⟩)
  unfold ndV at CS CP
  have f0 : decide (n ≤ q) = false := decide_eq_false (by omega)
  have f1 : decide ((q : Int) < 0) = false := decide_eq_false (by omega)
  by_cases hfx : fieldsN x = true
  · rw [hfx] at CS
    have HH := Lib.hid (headX_of (f := f) hfx)
    have HP0 := Lib.hid (partsN_pos hfx)
    clear hfx
    go_enter Tryz.func49, Tryz.ntmps49
    go_wp2_with fail
    refine CS.out.mono ?_
    rintro e w1 ⟨rfl, b1⟩
    have B1 := Lib.hid b1
    have HXE1 := Lib.hid (HXE.out.keep b1)
    obtain ⟨e0, e1, e2, e3⟩ := HXE1.out
    clear b1 CS HXE d0 d1 d2 d3
    have he : (x.op == 7) = decide (x.op = 7) := rfl
    by_cases hh : (decide (x.op = 7) == f) = true
    · have HE := Lib.hid (show xEnd P q f = xsEnd P (partsN x).toNat (isRec x) emp (q + 1) from xEnd_head HX.out (HH.out.trans hh))
      have f2 : (!(x.op == 7) == f) = false := by rw [he]; revert hh; cases decide (x.op = 7) <;> cases f <;> simp
      obtain ⟨M, hM⟩ : ∃ M : Nat, partsN x = (M : Int) := ⟨(partsN x).toNat, by have := HP0.out; omega⟩
      rw [hM] at CP hpl
      rw [hM, Int.toNat_natCast] at HE
      have B2 := Lib.hid (B1.out.trans ((below_box w1 (.cells #[.int .i64 x.op, .int .i64 x.n, .string x.s, .string x.t] 42)).mono B1.out.size))
      have V2 := Lib.hid (vn_new w1 x 42)
      clear hh he hM HH HP0 HX
      go_wp2_with fail
      refine (CP.out _).mono ?_
      rintro e w2 ⟨rfl, b2⟩
      have B3 := bh B2 b2
      have V3 := Lib.hid (V2.out.keep b2)
      clear b2 B2 V2 e0 e1 e2 e3 HXE1 B1 CP
      go_wp2_with fail
      go_loopw [1, 8, 43] (fun u l i wr => ∃ (k p : Nat) (last : ByteArray), u = .int .i64 p ∧ l = .string last ∧ i = .int .i64 k ∧ k ≤ M ∧ q < p ∧ p ≤ n ∧ Hid (xEnd P q f = xsEnd P (M - k) (isRec x) last p) ∧ Hid (Below w.heap.size w wr) ∧ Hid (Vn wr w1.heap.size x)) (fun _ _ i _ => M - (intOf i).toNat)
      case atStart => exact ⟨0, q + 1, ⟨#[]⟩, by go_num, rfl, rfl, Nat.zero_le _, Nat.lt_succ_self _, hq, HE, B3, V3⟩
      case round =>
        clear B3 V3 HE
        obtain ⟨k, p, last, rfl, rfl, rfl, hk, hqp, hpn, hF, hB, hV⟩ := hrel
        obtain ⟨v0, v1, v2, v3⟩ := hV.out
        by_cases hlt : k < M
        · have HF := Lib.hid (show xEnd P q f = xsEnd P (M - (k + 1) + 1) (isRec x) last p by rw [hF.out, show M - k = M - (k + 1) + 1 by omega])
          clear hF
          by_cases hpn2 : p < n
          · have hpl2 : p < P.length := by rw [← HLN.out]; exact hpn2
            have g3 : decide (n ≤ p) = false := decide_eq_false (by omega)
            by_cases h6 : x.op = 6
            · have hr : isRec x = true := by unfold isRec; exact decide_eq_true h6
              have g2 : (x.op == 6) = true := beq_iff_eq.2 h6
              obtain ⟨a', ea, e0, e1, e2, e3⟩ := (HNS.out.keep hB.out).at_ p _ (List.getElem?_eq_getElem hpl2)
              injection ea with ea
              subst ea
              have HN := Lib.hid (HF.out.trans ((congrArg (fun b => xsEnd P (M - (k + 1) + 1) b last p) hr).trans (xsEnd_succ (List.getElem?_eq_getElem hpl2))))
              have HRC := Lib.hid hr
              have IHP := Lib.hid (fun w' hb => IH.out p true w' hqp hb)
              generalize P[p] = y at *
              clear HF hr h6
              rcases leq_ways y.s last with ⟨hc, l1, l2⟩ | ⟨hc, l1⟩ | ⟨hc, l1, l2⟩
              · have HGV := Lib.hid (HN.out.trans (if_neg (fun q => q.2 hc)))
                clear hc HN
                go_wp2_with fail
                refine (IHP.out _ hB.out).mono ?_
                rintro e w6 ⟨rfl, b6⟩
                have B6 := bh hB b6
                have V6 := Lib.hid (hV.out.keep b6)
                clear b6 hB hV v0 v1 v2 v3 e0 e1 e2 e3
                by_cases hk0 : 0 ≤ xEnd P p true
                · obtain ⟨e', he, hep, hel⟩ := xEnd_lt hk0
                  have HF2 := Lib.hid (show xEnd P q f = xsEnd P (M - (k + 1)) (isRec x) y.s e' by
                    have h1 := HGV.out
                    rw [if_pos hk0, he, Int.toNat_natCast] at h1
                    rw [h1, HRC.out])
                  have hen : e' ≤ n := by rw [HLN.out]; exact hel
                  rw [he]
                  clear hk0 he hel
                  go_wp2_with fail
                  go_roundw
                  case rel => exact ⟨k + 1, e', y.s, rfl, rfl, by go_num, hlt, by omega, hen, HF2, B6, V6⟩
                  case measure => simp [intOf]; omega
                · have HBV := Lib.hid (show xEnd P q f = -1 by rw [HGV.out, if_neg hk0])
                  rw [xEnd_neg hk0]
                  clear hk0
                  go_wp2_with fail
                  go_ret
                  exact ⟨by rw [HBV.out]; rfl, B6.out⟩
              · have HBV := Lib.hid (show xEnd P q f = -1 from HN.out.trans (if_pos ⟨rfl, hc⟩))
                clear hc HN
                go_wp2_with fail
                go_ret
                exact ⟨by rw [HBV.out]; rfl, hB.out⟩
              · have HBV := Lib.hid (show xEnd P q f = -1 from HN.out.trans (if_pos ⟨rfl, hc⟩))
                clear hc HN
                go_wp2_with fail
                go_ret
                exact ⟨by rw [HBV.out]; rfl, hB.out⟩
            · have hr : isRec x = false := by unfold isRec; exact decide_eq_false h6
              have HRC := Lib.hid hr
              have g2 : (x.op == 6) = false := beq_eq_false_iff_ne.2 h6
              have HGV := Lib.hid (HF.out.trans ((congrArg (fun b => xsEnd P (M - (k + 1) + 1) b last p) hr).trans xsEnd_plain))
              have IHP := Lib.hid (fun w' hb => IH.out p false w' hqp hb)
              clear hr HF h6
              go_wp2_with fail
              refine (IHP.out _ hB.out).mono ?_
              rintro e w6 ⟨rfl, b6⟩
              have B6 := bh hB b6
              have V6 := Lib.hid (hV.out.keep b6)
              clear b6 hB hV v0 v1 v2 v3
              by_cases hk0 : 0 ≤ xEnd P p false
              · obtain ⟨e', he, hep, hel⟩ := xEnd_lt hk0
                have HF2 := Lib.hid (show xEnd P q f = xsEnd P (M - (k + 1)) (isRec x) last e' by
                  have h1 := HGV.out
                  rw [if_pos hk0, he, Int.toNat_natCast] at h1
                  rw [h1, HRC.out])
                have hen : e' ≤ n := by rw [HLN.out]; exact hel
                rw [he]
                clear hk0 he hel
                go_wp2_with fail
                go_roundw
                case rel => exact ⟨k + 1, e', last, rfl, rfl, by go_num, hlt, by omega, hen, HF2, B6, V6⟩
                case measure => simp [intOf]; omega
              · have HBV := Lib.hid (show xEnd P q f = -1 by rw [HGV.out, if_neg hk0])
                rw [xEnd_neg hk0]
                clear hk0
                go_wp2_with fail
                go_ret
                exact ⟨by rw [HBV.out]; rfl, B6.out⟩
          · have HBV := Lib.hid (show xEnd P q f = -1 by rw [HF.out, xsEnd_out (by rw [← HLN.out]; omega)])
            have g3 : decide (n ≤ p) = true := decide_eq_true (by omega)
            clear HF
            go_wp2_with fail
            go_ret
            exact ⟨by rw [HBV.out]; rfl, hB.out⟩
        · have HE2 := Lib.hid (show xEnd P q f = (p : Int) by
            rw [hF.out, show M - k = 0 by omega]
            exact xsEnd_zero (by rw [← HLN.out]; exact hpn))
          clear hF
          go_wp2_with fail
          go_ret
          exact ⟨by rw [HE2.out]; rfl, hB.out⟩
    · have HE := Lib.hid (show xEnd P q f = -1 from xEnd_bad HX.out (HH.out.trans (by simpa using hh)))
      have f2 : (!(x.op == 7) == f) = true := by rw [he]; revert hh; cases decide (x.op = 7) <;> cases f <;> simp
      clear hh he
      go_wp2_with fail
      go_ret
      exact ⟨by rw [HE.out]; rfl, B1.out⟩
  · have hfx : fieldsN x = false := by simpa using hfx
    rw [hfx] at CS
    have HE := Lib.hid (show xEnd P q f = -1 from xEnd_bad HX.out (headX_no hfx))
    clear hfx
    go_enter Tryz.func49, Tryz.ntmps49
    go_wp2_with fail
    refine CS.out.mono ?_
    rintro e w1 ⟨rfl, b1⟩
    have B1 := Lib.hid b1
    clear b1 CS HXE d0 d1 d2 d3
    go_wp2_with fail
    go_ret
    exact ⟨by rw [HE.out]; rfl, B1.out⟩
theorem tree_behind (P : List Nd) (A : Option Addr) (n c : Nat) : ∀ m, TbC P A n c m
  | 0 => fun p f w h hm => tb_out P A n c p f w h (by omega)
  | m + 1 => fun p f w h hm => by
    by_cases hp : p < n
    · rcases A with _ | a
      · have := h.at_ p _ (List.getElem?_eq_getElem (by rw [← h.len]; exact hp))
        obtain ⟨a, e, -⟩ := this
        cases e
      · exact tb_step P m a n c p f w (tree_behind P (some a) n c m) h hp hm
    · exact tb_out P A n c p f w h (by omega)
set_option maxHeartbeats 1000000 in
theorem tree_Check (A : Option Addr) (n c : Nat) (P : List Nd) (w : World) (h : Ns w A n c P) :
    Calls Tryz.prog 25 #[.slice A n c] w fun e w' => e = .returned (errV (exFault P)) ∧ Below w.heap.size w w' := by
  have hl := h.len
  by_cases h200 : 200 < n
  · have HR := Lib.hid (show exFault P = 4 by unfold exFault; rw [if_pos (by omega)])
    have f0 : decide ((200 : Int) < (n : Int)) = true := decide_eq_true (by omega)
    clear h hl
    go_enter Tryz.func25, Tryz.ntmps25
    go_wp2_with fail
    go_ret
    exact ⟨by rw [HR.out]; rfl, Below.refl _ _⟩
  · have C := Lib.hid (tree_behind P A n c n 0 false w h (by omega))
    have f0 : decide ((200 : Int) < (n : Int)) = false := decide_eq_false (by omega)
    have HR := Lib.hid (show exFault P = if (readX P).isSome then 0 else 1 by unfold exFault; rw [if_neg (by omega)])
    have HA := Lib.hid (xEnd_all (t := P))
    rw [← hl] at HA
    clear h hl h200
    generalize xEnd P 0 false = r at *
    go_enter Tryz.func25, Tryz.ntmps25
    go_wp2_with fail
    refine C.out.mono ?_
    rintro e w1 ⟨rfl, b1⟩
    have B1 := Lib.hid b1
    clear b1 C
    by_cases hr : r = (n : Int)
    · have HE := Lib.hid (show exFault P = 0 by rw [HR.out, if_pos (HA.out.1 hr)])
      have f1 : (r != (n : Int)) = false := by rw [bne_eq_false_iff_eq]; exact hr
      clear hr
      go_wp2_with fail
      go_ret
      exact ⟨by rw [HE.out]; rfl, B1.out⟩
    · have HE := Lib.hid (show exFault P = 1 by rw [HR.out, if_neg (fun q => hr (HA.out.2 q))])
      have f1 : (r != (n : Int)) = true := by rw [bne_iff_ne]; exact hr
      clear hr
      go_wp2_with fail
      go_ret
      exact ⟨by rw [HE.out]; rfl, B1.out⟩
end Go.Proofs.YtcdpoamiejompaaGreatDoor
namespace Go.Proofs.YtcdpoamiejompaaGreatDoor
open Go.RowKit Go.Wk Go.Sort
set_option maxRecDepth 100000

/-- What was there is as it was, and draws are only added. -/
structure BelowD (w w' : World) : Prop where
  b : Below w.heap.size w w'
  d : w.drawn ≤ w'.drawn
theorem BelowD.grow {w w' : World} (h : BelowD w w') : ∃ q os, w' = grow (w.drewN q) os := by
  obtain ⟨p, hp⟩ := regrown_of_below h.b
  have e : p.d = w'.drawn := by rw [hp]; rfl
  refine ⟨w'.drawn - w.drawn, p.os, ?_⟩
  have e2 : redrawn w p.d = w.drewN (w'.drawn - w.drawn) := by
    unfold redrawn World.drewN
    rw [e, show w.drawn + (w'.drawn - w.drawn) = w'.drawn by have := h.d; omega]
  rw [← e2]; exact hp

set_option maxHeartbeats 800000 in
theorem val_compareD (x y : Nd) (w : World) :
    Calls Tryz.prog 101 #[ndV x, ndV y] w fun e w' => e = .returned (.int .i64 (cmpNd x y)) ∧ BelowD w w' := by
  unfold ndV
  go_enter Tryz.func101, Tryz.ntmps101
  go_wp2
  refine still_tail 20 (by kernel_rfl) (by kernel_rfl) ?_
  simp only [List.take_succ_cons, List.take_zero, List.drop_succ_cons, List.drop_zero]
  iterate 4 still_step
  still_call (cmp_Compare_int _ _ _)
  iterate 4 still_step
  still_call (cmp_Compare_int _ _ _)
  iterate 4 still_step
  still_call (strings_Compare _ _ _)
  iterate 4 still_step
  still_call (strings_Compare _ _ _)
  refine wpStill_nil ?_
  go_wp2_with (go_at_call 145; refine (cmp_Or4 (cmpI x.op y.op) (cmpI x.n y.n) (cmpB x.s y.s) (cmpB x.t y.t) _ _ (by go_simp) (by go_simp) (by go_simp) (by go_simp)).mono ?_; rintro e w' ⟨rfl, rfl⟩)
  go_ret
  exact ⟨rfl, ((((Below.refl _ _).alloc (Nat.le_refl _) _).alloc (by simp) _).alloc (by simp; omega) _).drew, Nat.le_succ _⟩

set_option maxHeartbeats 1000000 in
theorem val_CompareFuncD (A B : Option Addr) (n m c d : Nat) (P Q : List Nd) (w : World) (hn : n = P.length) (hm : m = Q.length) (hln : n ≤ maxLen) (_hlm : m ≤ maxLen) (hP : NdsAt w A P) (hQ : NdsAt w B Q) :
    Calls Tryz.prog 100 #[.slice A n c, .slice B m d, .func (.func 101) #[] #[]] w fun e w' => e = .returned (.int .i64 (cmpNds P Q)) ∧ BelowD w w' := by
  unfold maxLen at hln _hlm
  have HP := Lib.hid hP
  have HQ := Lib.hid hQ
  have HN := Lib.hid hn
  have HM := Lib.hid hm
  clear hP hQ hn hm
  go_enter Tryz.func100, Tryz.ntmps100
  go_wp2
  go_loopw [7, 8, 9, 10, 13] (fun _ _ _ _ i wr => ∃ k : Nat, k ≤ n ∧ k ≤ m ∧ i = .int .i64 k ∧ Hid (cmpNds P Q = cmpNds (P.drop k) (Q.drop k)) ∧ Hid (w.drawn ≤ wr.drawn) ∧ Below w.heap.size w wr) (fun _ _ _ _ i _ => n - (intOf i).toNat)
  case atStart => exact ⟨0, Nat.zero_le _, Nat.zero_le _, rfl, rfl, Nat.le_refl _, Below.refl _ _⟩
  case round =>
    obtain ⟨k, hkn, hkm, rfl, hc, hdr, hbel⟩ := hrel
    obtain ⟨wo, rfl⟩ : ∃ wo : World, wo = wr := ⟨_, rfl⟩
    by_cases h1 : k < n
    · have h1' : k < P.length := by rw [← HN.out]; exact h1
      obtain ⟨a, rfl, a1, a2, a3, a4⟩ := (HP.out.keep hbel) k P[k] (List.getElem?_eq_getElem h1')
      by_cases h2 : k < m
      · have h2' : k < Q.length := by rw [← HM.out]; exact h2
        obtain ⟨b, rfl, b1, b2, b3, b4⟩ := (HQ.out.keep hbel) k Q[k] (List.getElem?_eq_getElem h2')
        have HA := Lib.hid (hc.out.trans (cmpNds_at h1' h2'))
        have g : ∀ (o : Obj) (x : Addr) (v : Value), wo.cell? x = some v → (wo.alloc o).cell? x = some v := fun o x v h => cell_keep ((Below.refl _ _).alloc (Nat.le_refl _) o) h
        replace b1 := fun o => g o _ _ b1
        replace b2 := fun o => g o _ _ b2
        replace b3 := fun o => g o _ _ b3
        replace b4 := fun o => g o _ _ b4
        clear hc g
        go_wp2_with fail
        refine (val_compareD P[k] Q[k] _).mono ?_
        rintro e w1 ⟨rfl, hb1, hd1⟩
        have hdw := Lib.hid (Nat.le_trans hdr.out hd1)
        clear hd1
        have hbw := Lib.hid ((hbel.alloc (by have := hbel.size; omega) _).alloc (by have := hbel.size; simp; omega) _ |>.trans (hb1.mono (by have := hbel.size; simp; omega)))
        clear hb1 b1 b2 b3 b4 a1 a2 a3 a4
        by_cases h0 : cmpNd P[k] Q[k] = 0
        · have HC := Lib.hid (HA.out.trans (by rw [h0]; rfl : _ = cmpNds (P.drop (k + 1)) (Q.drop (k + 1))))
          rw [h0]
          clear h0 HA
          go_wp2
          go_roundw
          case rel => exact ⟨k + 1, by omega, by omega, by go_num, HC, hdw, hbw.out⟩
          case measure => simp [intOf]; omega
        · have HC := Lib.hid (HA.out.trans (or2_ne h0 _))
          have h0' : (cmpNd P[k] Q[k] == 0) = false := beq_eq_false_iff_ne.2 h0
          clear HA
          go_wp2
          go_ret
          exact ⟨ret_i64 HC.out.symm, hbw.out, hdw.out⟩
      · have HA := Lib.hid (hc.out.trans (cmpNds_end2 h1' (by rw [← HM.out]; omega)))
        clear hc
        go_wp2
        go_ret
        exact ⟨ret_i64 HA.out.symm, hbel.alloc (by have := hbel.size; omega) _, hdr.out⟩
    · obtain rfl : k = n := by omega
      by_cases h2 : k < m
      · have HA := Lib.hid (hc.out.trans (cmpNds_end1 (by rw [← HN.out]; omega) (by rw [← HM.out]; exact h2)))
        clear hc
        go_wp2
        go_ret
        exact ⟨ret_i64 HA.out.symm, hbel, hdr.out⟩
      · have HA := Lib.hid (hc.out.trans (cmpNds_end0 (by rw [← HN.out]; omega) (by rw [← HM.out]; omega)))
        clear hc
        go_wp2
        go_ret
        exact ⟨ret_i64 HA.out.symm, hbel, hdr.out⟩

theorem val_orderD (A B : Option Addr) (n m c d : Nat) (P Q : List Nd) (w : World) (hn : n = P.length) (hm : m = Q.length) (hln : n ≤ maxLen) (hlm : m ≤ maxLen) (hP : NdsAt w A P) (hQ : NdsAt w B Q) :
    Calls Tryz.prog 58 #[.slice A n c, .slice B m d] w fun e w' => e = .returned (.int .i64 (cmpNds P Q)) ∧ BelowD w w' := by
  have H := val_CompareFuncD A B n m c d P Q w hn hm hln hlm hP hQ
  clear hn hm hP hQ
  go_enter Tryz.func58, Tryz.ntmps58
  go_wp2_with fail
  refine H.mono ?_
  rintro e w1 ⟨rfl, hb1⟩
  go_wp2
  go_ret
  exact ⟨rfl, hb1⟩
end Go.Proofs.YtcdpoamiejompaaGreatDoor
namespace Go.Proofs
open Go.Shelf
def Tryz.sortF_ren : Go.Shelf.Ren := ⟨fun | 6 => 166 | 15 => 183 | 14 => 182 | 28 => 201 | 29 => 202 | 20 => 193 | 21 => 194 | 22 => 195 | 23 => 196 | 24 => 197 | 25 => 198 | 26 => 199 | 27 => 200 | 46 => 218 | 47 => 219 | 48 => 220 | 49 => 221 | 50 => 222 | 57 => 237 | n => n, fun | 22 => 59 | 24 => 25 | 25 => 102 | 3 => 3 | 39 => 247 | 0 => 0 | 53 => 199 | 55 => 191 | 4 => 4 | 46 => 272 | 45 => 271 | 50 => 276 | 5 => 5 | 9 => 9 | 66 => 300 | 70 => 304 | 76 => 317 | 77 => 318 | n => n, fun | n => n⟩
theorem Tryz.sortF : Go.Proofs.SlLaysF.n6 Tryz.prog Tryz.sortF_ren := {
  mixed := by kernel_rfl
  f6 := ⟨Tryz.f166.name, by decide, Tryz.func166.trans (congrArg some (by kernel_rfl))⟩
  f14 := ⟨Tryz.f182.name, by decide, Tryz.func182.trans (congrArg some (by kernel_rfl))⟩
  f15 := Tryz.func183.trans (congrArg some (by kernel_rfl))
  f20 := ⟨Tryz.f193.name, by decide, Tryz.func193.trans (congrArg some (by kernel_rfl))⟩
  f21 := ⟨Tryz.f194.name, by decide, Tryz.func194.trans (congrArg some (by kernel_rfl))⟩
  f22 := ⟨Tryz.f195.name, by decide, Tryz.func195.trans (congrArg some (by kernel_rfl))⟩
  f23 := ⟨Tryz.f196.name, by decide, Tryz.func196.trans (congrArg some (by kernel_rfl))⟩
  f24 := ⟨Tryz.f197.name, by decide, Tryz.func197.trans (congrArg some (by kernel_rfl))⟩
  f25 := ⟨Tryz.f198.name, by decide, Tryz.func198.trans (congrArg some (by kernel_rfl))⟩
  f26 := ⟨Tryz.f199.name, by decide, Tryz.func199.trans (congrArg some (by kernel_rfl))⟩
  f27 := ⟨Tryz.f200.name, by decide, Tryz.func200.trans (congrArg some (by kernel_rfl))⟩
  f28 := Tryz.func201.trans (congrArg some (by kernel_rfl))
  f29 := Tryz.func202.trans (congrArg some (by kernel_rfl))
  f46 := ⟨Tryz.f218.name, by decide, Tryz.func218.trans (congrArg some (by kernel_rfl))⟩
  f47 := Tryz.func219.trans (congrArg some (by kernel_rfl))
  f48 := Tryz.func220.trans (congrArg some (by kernel_rfl))
  f49 := ⟨Tryz.f221.name, by decide, Tryz.func221.trans (congrArg some (by kernel_rfl))⟩
  f50 := ⟨Tryz.f222.name, by decide, Tryz.func222.trans (congrArg some (by kernel_rfl))⟩
  f57 := ⟨Tryz.f237.name, by decide, Tryz.func237.trans (congrArg some (by kernel_rfl))⟩
  t0 := Tryz.underlying0
  a0 := Tryz.isAgg0
  z0 := Tryz.sizeOf0
  v0 := Tryz.zeroValue0
  t3 := Tryz.underlying3
  a3 := Tryz.isAgg3
  z3 := Tryz.sizeOf3
  v3 := Tryz.zeroValue3
  t4 := Tryz.underlying4
  a4 := Tryz.isAgg4
  z4 := Tryz.sizeOf4
  v4 := Tryz.zeroValue4
  t5 := Tryz.underlying5
  a5 := Tryz.isAgg5
  z5 := Tryz.sizeOf5
  v5 := Tryz.zeroValue5
  t9 := Tryz.underlying9
  a9 := Tryz.isAgg9
  z9 := Tryz.sizeOf9
  v9 := Tryz.zeroValue9
  t22 := Tryz.underlying59
  a22 := Tryz.isAgg59
  z22 := Tryz.sizeOf59
  v22 := Tryz.zeroValue59
  a24 := Tryz.isAgg25
  z24 := Tryz.sizeOf25
  t25 := Tryz.underlying102
  a25 := Tryz.isAgg102
  z25 := Tryz.sizeOf102
  v25 := Tryz.zeroValue102
  t39 := Tryz.underlying247
  a39 := Tryz.isAgg247
  z39 := Tryz.sizeOf247
  v39 := Tryz.zeroValue247
  t45 := Tryz.underlying271
  a45 := Tryz.isAgg271
  z45 := Tryz.sizeOf271
  v45 := Tryz.zeroValue271
  t46 := Tryz.underlying272
  a46 := Tryz.isAgg272
  z46 := Tryz.sizeOf272
  v46 := Tryz.zeroValue272
  t50 := Tryz.underlying276
  a50 := Tryz.isAgg276
  z50 := Tryz.sizeOf276
  v50 := Tryz.zeroValue276
  t53 := Tryz.underlying199
  a53 := Tryz.isAgg199
  z53 := Tryz.sizeOf199
  v53 := Tryz.zeroValue199
  t55 := Tryz.underlying191
  a55 := Tryz.isAgg191
  z55 := Tryz.sizeOf191
  v55 := Tryz.zeroValue191
  t66 := Tryz.underlying300
  a66 := Tryz.isAgg300
  z66 := Tryz.sizeOf300
  v66 := Tryz.zeroValue300
  t70 := Tryz.underlying304
  a70 := Tryz.isAgg304
  z70 := Tryz.sizeOf304
  v70 := Tryz.zeroValue304
  t76 := Tryz.underlying317
  a76 := Tryz.isAgg317
  z76 := Tryz.sizeOf317
  v76 := Tryz.zeroValue317
  t77 := Tryz.underlying318
  a77 := Tryz.isAgg318
  z77 := Tryz.sizeOf318
  v77 := Tryz.zeroValue318 }
end Go.Proofs
namespace Go.Proofs.YtcdpoamiejompaaGreatDoor
open Go.RowKit Go.Wk Go.Sort Go.Shelf
set_option maxRecDepth 100000

section
variable {α : Type} [Inhabited α] {enc : α → Value}
theorem srt_heap {w : World} {g n : Nat} {os : Array Obj} {cur : Array Value} {e : TypeId} {fr : Nat × Nat} (d : Array α) (hb : w.heap[g]? = some (.cells cur e fr)) :
    (sortWorld enc w g 0 n d os).heap[g]? = some (.cells (putCells enc 0 d cur) e fr) := by
  have hg : g < w.heap.size := (Array.getElem?_eq_some_iff.1 hb).1
  unfold sortWorld
  rw [heap_grow_old _ _ (by simpa using hg)]
  simp [putRow, mapBlock, Sort.ahead, Array.getElem?_modify, hb, onCells]
theorem srt_grown {w : World} {g n : Nat} {os : Array Obj} (d : Array α) : w.grownBy (sortWorld enc w g 0 n d os) (some g) := by
  unfold sortWorld
  refine ⟨rfl, rfl, rfl, by simp, fun k hk hne => ?_⟩
  rw [heap_grow_old _ _ (by simpa using hk)]
  have : g ≠ k := fun e => hne (by rw [e])
  simp [putRow, mapBlock, Sort.ahead, Array.getElem?_modify, this]
theorem srt_take (cur : Array Value) (ts : List α) (h : ts.length ≤ cur.size) : (putCells enc 0 ts.toArray cur).toList.take ts.length = ts.map enc := by
  apply List.ext_getElem?
  intro j
  by_cases hj : j < ts.length
  · rw [List.getElem?_take_of_lt hj, Array.getElem?_toList]
    simp [putCells, hj, show j < cur.size by omega]
  · rw [List.getElem?_take_eq_none (by omega), List.getElem?_eq_none (by simp; omega)]
theorem srt_holds {w : World} {g : Nat} {cur : Array Value} {e : TypeId} {ts : List α} (hb : w.heap[g]? = some (.cells cur e (0, 0))) (ht : cur.toList.take ts.length = ts.map enc) : Holds enc w g 0 ts.toArray := by
  intro j hj
  have hj' : j < ts.length := by simpa using hj
  refine ⟨?_, by simp [World.frozen?, hb]⟩
  have h1 : (cur.toList.take ts.length)[j]? = (ts.map enc)[j]? := by rw [ht]
  rw [List.getElem?_take_of_lt hj'] at h1
  simp only [World.cell?, hb, Nat.zero_add]
  simp only [Option.isSome_none, Bool.false_eq_true, if_false]
  rw [← Array.getElem?_toList, h1]
  simp [hj']
end

/-- Slices that may be compared while a block turns. -/
abbrev GoodSl (w : World) (g : Nat) : Type := { r : Sl // Ns w r.A r.n r.c r.P ∧ Apart r (some g) }
instance (w : World) (g : Nat) : Inhabited (GoodSl w g) := ⟨⟨⟨none, 0, 0, []⟩, ⟨rfl, Nat.le_refl _, Nat.zero_le _, fun k x hx => by simp at hx, fun x hx => by cases hx⟩, fun h => by simp at h⟩⟩
def gEnc (w : World) (g : Nat) (x : GoodSl w g) : Value := x.1.v
def gCf (w : World) (g : Nat) (x y : GoodSl w g) : Int := cmpNds x.1.P y.1.P
theorem g_swo (w : World) (g : Nat) : SWO (ltOf (gCf w g)) where
  irrefl x := by unfold ltOf gCf; rw [cmpNds_cmp.self]; rfl
  trans x y z h1 h2 := by
    unfold ltOf gCf at *
    simp only [decide_eq_true_eq] at *
    exact cmpNds_cmp.lt_le h1 (by omega)
  ntrans x y z h1 h2 := by
    unfold ltOf gCf at *
    simp only [decide_eq_false_iff_not] at *
    have a1 := cmpNds_cmp.anti x.1.P y.1.P
    have a2 := cmpNds_cmp.anti y.1.P z.1.P
    have a3 := cmpNds_cmp.anti x.1.P z.1.P
    have := cmpNds_cmp.trans z.1.P y.1.P x.1.P (by omega) (by omega)
    omega
theorem ns_orderD {w : World} {r s : Sl} (h : Ns w r.A r.n r.c r.P) (k : Ns w s.A s.n s.c s.P) :
    Calls Tryz.prog 58 #[r.v, s.v] w fun e w' => e = .returned (.int .i64 (cmpNds r.P s.P)) ∧ BelowD w w' :=
  val_orderD r.A s.A r.n s.n r.c s.c r.P s.P w h.len k.len h.max k.max h.at_ k.at_
theorem g_cmp (w : World) (g size : Nat) : CmpLays1 Tryz.prog 58 #[] (gEnc w g) (gCf w g) g 0 size w := by
  intro m os dk _ x y
  have n1 := Ns.row (r := x.1) x.2.1 (srt_grown (enc := gEnc w g) (n := m) (os := os) dk) x.2.2
  have n2 := Ns.row (r := y.1) y.2.1 (srt_grown (enc := gEnc w g) (n := m) (os := os) dk) y.2.2
  exact (ns_orderD n1 n2).mono fun e w' ⟨h1, h2⟩ => ⟨h1, h2.grow⟩

theorem lift_list {β : Type} {p : β → Prop} (V : List β) (h : ∀ r ∈ V, p r) : ∃ L : List { r : β // p r }, L.map (fun x => x.1) = V := by
  induction V with
  | nil => exact ⟨[], rfl⟩
  | cons r V ih =>
    obtain ⟨L, hL⟩ := ih (fun x hx => h x (by simp [hx]))
    exact ⟨⟨r, h r (by simp)⟩ :: L, by simp [hL]⟩
/-- In order. -/
def SortedSl (V : List Sl) : Prop := ∀ i j (hij : i < j) (hj : j < V.length), cmpNds (V[i]'(by omega)).P V[j].P ≤ 0
theorem sort_Sls (w : World) (B g cap : Nat) (V : List Sl) (h : OwnSls w B (.slice (some ⟨g, 0, none⟩) V.length cap) V) (hs : V.length ≤ 5864062014634) :
    Calls Tryz.prog 166 #[.slice (some ⟨g, 0, none⟩) V.length cap, .func (.func 58) #[] #[]] w fun e w' =>
      e = .returned (.tuple #[]) ∧ ∃ V' : List Sl, V'.Perm V ∧ SortedSl V' ∧ OwnSls w' B (.slice (some ⟨g, 0, none⟩) V.length cap) V' ∧ w.grownBy w' (some g) := by
  have hgood : ∀ r ∈ V, Ns w r.A r.n r.c r.P ∧ Apart r (some g) := fun r hr => ⟨h.each r hr, h.apart r hr⟩
  obtain ⟨L, hL⟩ : ∃ L : List (GoodSl w g), L.map (fun x => x.1) = V := lift_list V hgood
  have hLl : L.length = V.length := by rw [← hL]; simp
  rcases h.own.2 with ⟨e0, -⟩ | ⟨g', cap', cur, e0, hBg, hh, h1, h2, h3, h4⟩
  · cases e0
  injection e0 with e1 _ e2
  injection e1 with e1
  injection e1 with e1
  subst e1 e2
  have hEnc : L.map (gEnc w g) = V.map Sl.v := by rw [← hL, List.map_map]; rfl
  have hH : Holds (gEnc w g) w g 0 L.toArray := srt_holds hh (by rw [hEnc, hLl]; simpa using h4)
  have eg : ∀ args w, (callFunc 58 args).run Tryz.prog w = .ok (.enter 58 args) w := enters_of Tryz.func58 (by kernel_rfl) rfl
  have hcon := Any.slices_SortFunc Tryz.sortF (gEnc w g) (fun _ => rfl) (gCf w g) (g_swo w g) 58 #[] g 0 cap L.toArray w eg (g_cmp w g _) hH (Array.getElem?_eq_some_iff.1 hh).1 (by simp; omega)
  change Calls Tryz.prog 166 _ _ _ at hcon
  have hsz : L.toArray.size = V.length := by simp [hLl]
  rw [hsz] at hcon
  refine hcon.mono ?_
  rintro e w' ⟨he, d', n, os, hp, hso, rfl⟩
  refine ⟨he, d'.toList.map (fun x => x.1), ?_, ?_, ?_, srt_grown d'⟩
  · obtain ⟨q1, -, q3⟩ := hp
    have a1 : (d'.extract 0 V.length).toList = d'.toList := by
      rw [Array.toList_extract]
      simp only [List.extract, Nat.sub_zero, List.drop_zero]
      exact List.take_of_length_le (by simp; omega)
    have a2 : (L.toArray.extract 0 V.length).toList = L := by
      rw [Array.toList_extract]; simp [List.extract, ← hLl]
    rw [a1, a2] at q3
    have := q3.map (fun x : GoodSl w g => x.1)
    rw [hL] at this
    exact this
  · intro i j hij hj
    have hj' : j < d'.size := by simpa using hj
    have hd : d'.size = V.length := hp.1.trans hsz
    have := hso i j (Nat.zero_le _) hij (by omega)
    unfold ltOf gCf at this
    simp only [decide_eq_false_iff_not] at this
    have b1 := cmpNds_cmp.anti (d'[j]!).1.P (d'[i]!).1.P
    have g1 : (d'.toList.map (fun x => x.1))[i]'(by simp; omega) = (d'[i]!).1 := by simp [show i < d'.size by omega]
    have g2 : (d'.toList.map (fun x => x.1))[j] = (d'[j]!).1 := by simp [hj']
    rw [g1, g2]
    omega
  · have hd : d'.size = V.length := hp.1.trans hsz
    have hdl : d'.toList.length = V.length := by simpa using hd
    refine ⟨⟨by simp [hd], .inr ⟨g, cap, _, by simp [hd], hBg, srt_heap d' hh, by simpa [hd] using h1, h2, by simp [putCells, h3], ?_⟩⟩, ?_, ?_⟩
    · have := srt_take (enc := gEnc w g) cur d'.toList (by rw [h3]; omega)
      rw [hdl] at this
      simp only [List.length_map, hdl, Nat.mul_one]
      rw [show d'.toList.toArray = d' from by simp] at this
      rw [this, List.map_map]; rfl
    · intro r hr
      obtain ⟨x, hx, rfl⟩ := List.mem_map.1 hr
      exact Ns.row (r := x.1) x.2.1 (srt_grown d') x.2.2
    · intro r hr
      obtain ⟨x, hx, rfl⟩ := List.mem_map.1 hr
      exact x.2.2
theorem sort_none (w : World) (p : Option Addr) (cap : Nat) (fv : Value) :
    Calls Tryz.prog 166 #[.slice p 0 cap, fv] w fun e w' => e = .returned (.tuple #[]) ∧ w' = w :=
  AnyF.slices_SortFunc_none (ρ := Tryz.sortF_ren) { Tryz.sortF with } p cap fv w
end Go.Proofs.YtcdpoamiejompaaGreatDoor
namespace Go.Proofs.YtcdpoamiejompaaGreatDoor
open Go.RowKit Go.Wk Go.Sort

def goL (p : Sl) : List Sl → List Sl
  | [] => []
  | b :: r => if cmpNds b.P p.P = 0 then goL b r else b :: goL b r
/-- Without what is as the one before it. -/
def compactL : List Sl → List Sl
  | [] => []
  | a :: r => a :: goL a r
theorem goL_eq {V : List Sl} {p : Sl} {k : Nat} (h : k < V.length) (he : cmpNds V[k].P p.P = 0) : goL p (V.drop k) = goL V[k] (V.drop (k + 1)) := by
  rw [List.drop_eq_getElem_cons h]; simp only [goL, he, if_true]
theorem goL_ne {V : List Sl} {p : Sl} {k : Nat} (h : k < V.length) (he : cmpNds V[k].P p.P ≠ 0) : goL p (V.drop k) = V[k] :: goL V[k] (V.drop (k + 1)) := by
  rw [List.drop_eq_getElem_cons h]; simp only [goL, he, if_false]
theorem goL_end {V : List Sl} {p : Sl} {k : Nat} (h : V.length ≤ k) : goL p (V.drop k) = [] := by
  rw [List.drop_of_length_le h]; rfl
theorem compact_start {V : List Sl} (h : 0 < V.length) : compactL V = V.take 1 ++ goL V[0] (V.drop 1) := by
  rcases V with _ | ⟨a, r⟩
  · simp at h
  · rfl
theorem compact_short {V : List Sl} (h : V.length < 2) : compactL V = V := by
  rcases V with _ | ⟨a, _ | ⟨b, r⟩⟩
  · rfl
  · rfl
  · simp at h; omega
theorem goL_sub (r : List Sl) : ∀ p x, x ∈ goL p r → x ∈ r := by
  induction r with
  | nil => intro p x h; cases h
  | cons b r ih =>
    intro p x h
    simp only [goL] at h
    split at h
    · exact List.mem_cons_of_mem _ (ih _ _ h)
    · rcases List.mem_cons.1 h with rfl | h
      · simp
      · exact List.mem_cons_of_mem _ (ih _ _ h)
theorem compact_sub {V : List Sl} {x : Sl} (h : x ∈ compactL V) : x ∈ V := by
  rcases V with _ | ⟨a, r⟩
  · cases h
  · rcases List.mem_cons.1 h with rfl | h
    · simp
    · exact List.mem_cons_of_mem _ (goL_sub _ _ _ h)
theorem goL_len (r : List Sl) : ∀ p, (goL p r).length ≤ r.length := by
  induction r with
  | nil => intro p; simp [goL]
  | cons b r ih =>
    intro p
    simp only [goL]
    split
    · have := ih b; simp; omega
    · have := ih b; simp; omega
theorem compact_len (V : List Sl) : (compactL V).length ≤ V.length := by
  rcases V with _ | ⟨a, r⟩
  · simp [compactL]
  · have := goL_len r a; simp [compactL]; omega
/-- What is in order, without what is as the one before it, is the set. -/
theorem goL_up (r : List Sl) : ∀ p : Sl, (p :: r).Pairwise (fun a b => cmpNds a.P b.P ≤ 0) → Up (p.P :: (goL p r).map Sl.P) ∧ ∀ x ∈ r, x.P ∈ p.P :: (goL p r).map Sl.P := by
  induction r with
  | nil => intro p _; exact ⟨trivial, fun x hx => by cases hx⟩
  | cons b r ih =>
    intro p h
    obtain ⟨h1, h2⟩ := List.pairwise_cons.1 h
    obtain ⟨i1, i2⟩ := ih b h2
    have hle := h1 b (by simp)
    have ha := cmpNds_cmp.anti p.P b.P
    simp only [goL]
    split
    · rename_i h0
      have e := (cmpNds_cmp.zero b.P p.P).1 h0
      rw [e] at i1 i2
      refine ⟨i1, fun x hx => ?_⟩
      rcases List.mem_cons.1 hx with rfl | hx
      · rw [e]; simp
      · exact i2 x hx
    · rename_i h0
      refine ⟨⟨by omega, i1⟩, fun x hx => ?_⟩
      rcases List.mem_cons.1 hx with rfl | hx
      · simp
      · exact List.mem_cons_of_mem _ (i2 x hx)
theorem compact_set {V : List Sl} (h : V.Pairwise (fun a b => cmpNds a.P b.P ≤ 0)) : (compactL V).map Sl.P = setL (V.map Sl.P) := by
  rcases V with _ | ⟨a, r⟩
  · rfl
  obtain ⟨h1, h2⟩ := goL_up r a h
  refine (setL_of h1 fun x => ⟨fun hx => ?_, fun hx => ?_⟩).symm
  · obtain ⟨y, hy, rfl⟩ : ∃ y ∈ compactL (a :: r), y.P = x := List.mem_map.1 hx
    exact List.mem_map_of_mem (compact_sub hy)
  · obtain ⟨y, hy, rfl⟩ := List.mem_map.1 hx
    rcases List.mem_cons.1 hy with rfl | hy
    · simp
    · exact h2 y hy
end Go.Proofs.YtcdpoamiejompaaGreatDoor
