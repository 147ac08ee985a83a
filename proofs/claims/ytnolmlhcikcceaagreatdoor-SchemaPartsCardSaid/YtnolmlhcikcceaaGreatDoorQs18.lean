/-
  Schemas and requests that come in.
  The contracts of the reference's checks of names and texts.
  ref KindEnd: the place behind a type; ref KindFault.
  ref KindEnd: of records.
  ref FieldsOf, FieldKind, PartKind: where the fields of a record's type stand, and their types; ref KindEnd, KindFault.
  Types as they lie.
-/
import Derived.Test.YtnolmlhcikcceaaGreatDoorQs17
namespace Go.Proofs.YtnolmlhcikcceaaGreatDoor
open Go.Wk Go.ChangeShapes Go.WideShapes Go.RowKit
set_option maxRecDepth 100000

/-- A slice of texts, with its length and its capacity. -/
structure Txs (w : World) (A : Option Addr) (n c : Nat) (N : List ByteArray) : Prop where
  len : n = N.length
  cap : n ≤ c
  max : n ≤ maxLen
  at_ : TxAt w A N
  ok : ∀ x ∈ N, x.size ≤ maxLen
theorem Txs.keep {w w' : World} {A : Option Addr} {n c : Nat} {N : List ByteArray} (h : Txs w A n c N) (hb : Below w.heap.size w w') : Txs w' A n c N := ⟨h.len, h.cap, h.max, h.at_.keep hb, h.ok⟩
/-- A kind, and where its parts lie. -/
structure Kn where
  d : KD
  UA : Option Addr
  un : Nat
  uc : Nat
  NA : Option Addr
  nn : Nat
  nc : Nat
def Kn.cs (x : Kn) : List Value := [.string x.d.nm, .slice x.UA x.un x.uc, .slice x.NA x.nn x.nc]
structure KnOk (w : World) (x : Kn) : Prop where
  s : x.d.nm.size ≤ maxLen
  us : Txs w x.UA x.un x.uc x.d.up
  ns : Ns w x.NA x.nn x.nc x.d.P
theorem KnOk.keep {w w' : World} {x : Kn} (h : KnOk w x) (hb : Below w.heap.size w w') : KnOk w' x := ⟨h.s, h.us.keep hb, h.ns.keep hb⟩
/-- An act, and where its parts lie. -/
structure An where
  d : AD
  WA : Option Addr
  wn : Nat
  wc : Nat
  TA : Option Addr
  tn : Nat
  tc : Nat
  NA : Option Addr
  nn : Nat
  nc : Nat
def An.cs (x : An) : List Value := [.string x.d.id, .slice x.WA x.wn x.wc, .slice x.TA x.tn x.tc, .slice x.NA x.nn x.nc]
def An.v (x : An) : Value := .agg #[.string x.d.id, .slice x.WA x.wn x.wc, .slice x.TA x.tn x.tc, .slice x.NA x.nn x.nc]
structure AnOk (w : World) (x : An) : Prop where
  s : x.d.id.size ≤ maxLen
  ws : Txs w x.WA x.wn x.wc x.d.who
  ts : Txs w x.TA x.tn x.tc x.d.what
  ns : Ns w x.NA x.nn x.nc x.d.P
theorem AnOk.keep {w w' : World} {x : An} (h : AnOk w x) (hb : Below w.heap.size w w') : AnOk w' x := ⟨h.s, h.ws.keep hb, h.ts.keep hb, h.ns.keep hb⟩
/-- A slice that holds kinds. -/
structure Ks (w : World) (A : Option Addr) (n c : Nat) (K : List Kn) : Prop where
  len : n = K.length
  cap : n ≤ c
  max : n ≤ maxLen
  at_ : ∀ (k : Nat) (x : Kn), K[k]? = some x → ∃ a, A = some a ∧ w.cell? (a.add (k * 3)) = some (.string x.d.nm) ∧ w.cell? ⟨(a.add (k * 3)).block, (a.add (k * 3)).off + 1, none⟩ = some (.slice x.UA x.un x.uc) ∧
    w.cell? ⟨(a.add (k * 3)).block, (a.add (k * 3)).off + 2, none⟩ = some (.slice x.NA x.nn x.nc) ∧ KnOk w x
theorem Ks.keep {w w' : World} {A : Option Addr} {n c : Nat} {K : List Kn} (h : Ks w A n c K) (hb : Below w.heap.size w w') : Ks w' A n c K :=
  ⟨h.len, h.cap, h.max, fun k x hx => let ⟨a, h1, h2, h3, h4, h5⟩ := h.at_ k x hx; ⟨a, h1, cell_keep hb h2, cell_keep hb h3, cell_keep hb h4, h5.keep hb⟩⟩
/-- A slice that holds acts. -/
structure As (w : World) (A : Option Addr) (n c : Nat) (L : List An) : Prop where
  len : n = L.length
  cap : n ≤ c
  max : n ≤ maxLen
  at_ : ∀ (k : Nat) (x : An), L[k]? = some x → ∃ a, A = some a ∧ w.cell? (a.add (k * 4)) = some (.string x.d.id) ∧ w.cell? ⟨(a.add (k * 4)).block, (a.add (k * 4)).off + 1, none⟩ = some (.slice x.WA x.wn x.wc) ∧
    w.cell? ⟨(a.add (k * 4)).block, (a.add (k * 4)).off + 2, none⟩ = some (.slice x.TA x.tn x.tc) ∧ w.cell? ⟨(a.add (k * 4)).block, (a.add (k * 4)).off + 3, none⟩ = some (.slice x.NA x.nn x.nc) ∧ AnOk w x
theorem As.keep {w w' : World} {A : Option Addr} {n c : Nat} {L : List An} (h : As w A n c L) (hb : Below w.heap.size w w') : As w' A n c L :=
  ⟨h.len, h.cap, h.max, fun k x hx => let ⟨a, h1, h2, h3, h4, h5, h6⟩ := h.at_ k x hx; ⟨a, h1, cell_keep hb h2, cell_keep hb h3, cell_keep hb h4, cell_keep hb h5, h6.keep hb⟩⟩
/-- A schema, and where its parts lie. -/
structure Sc where
  KA : Option Addr
  kn : Nat
  kc : Nat
  K : List Kn
  AA : Option Addr
  an : Nat
  ac : Nat
  L : List An
def Sc.v (s : Sc) : Value := .agg #[.slice s.KA s.kn s.kc, .slice s.AA s.an s.ac]
def Sc.k (s : Sc) : List KD := s.K.map Kn.d
def Sc.a (s : Sc) : List AD := s.L.map An.d
structure ScOk (w : World) (s : Sc) : Prop where
  k : Ks w s.KA s.kn s.kc s.K
  a : As w s.AA s.an s.ac s.L
theorem ScOk.keep {w w' : World} {s : Sc} (h : ScOk w s) (hb : Below w.heap.size w w') : ScOk w' s := ⟨h.k.keep hb, h.a.keep hb⟩
/-- A request, and where its context lies. -/
structure Rq where
  who : Ud
  act : Ud
  what : Ud
  NA : Option Addr
  nn : Nat
  nc : Nat
  P : List Nd
def Rq.v (q : Rq) : Value := .agg #[.string q.who.1, .string q.who.2, .string q.act.1, .string q.act.2, .string q.what.1, .string q.what.2, .slice q.NA q.nn q.nc]
structure RqOk (w : World) (q : Rq) : Prop where
  w1 : q.who.1.size ≤ maxLen
  w2 : q.who.2.size ≤ maxLen
  a1 : q.act.1.size ≤ maxLen
  a2 : q.act.2.size ≤ maxLen
  t1 : q.what.1.size ≤ maxLen
  t2 : q.what.2.size ≤ maxLen
  ns : Ns w q.NA q.nn q.nc q.P
theorem RqOk.keep {w w' : World} {q : Rq} (h : RqOk w q) (hb : Below w.heap.size w w') : RqOk w' q := ⟨h.w1, h.w2, h.a1, h.a2, h.t1, h.t2, h.ns.keep hb⟩

theorem cells_kind : Tryz.prog.cellsOf 44 = 3 := by kernel_rfl
theorem cells_act : Tryz.prog.cellsOf 55 = 4 := by kernel_rfl
theorem cells_strs : Tryz.prog.cellsOf 42 = 1 := by kernel_rfl
theorem cells_kinds : Tryz.prog.cellsOf 22 = 1 := by kernel_rfl
theorem cells_acts : Tryz.prog.cellsOf 23 = 1 := by kernel_rfl
theorem cells_schema : Tryz.prog.cellsOf 25 = 2 := by kernel_rfl
theorem cells_request : Tryz.prog.cellsOf 48 = 7 := by kernel_rfl
theorem rd_txs {w : World} {cs : List Value} (h : Rd Tryz.prog w 42 cs) : ∃ (A : Option Addr) (n c : Nat) (N : List ByteArray), cs = [.slice A n c] ∧ Txs w A n c N := by
  obtain ⟨A, n, c, rfl, h1, h2, h3⟩ := rd_slice Tryz.underlying42 h
  rw [cells_string] at h3
  obtain ⟨N, hl, hr⟩ := list_of n (fun k (x : ByteArray) => (∃ a, A = some a ∧ w.cell? (a.add k) = some (.string x)) ∧ x.size ≤ maxLen) (fun i hi => by
    obtain ⟨a, rfl, cs', hl, hc, hr⟩ := h3 i hi
    obtain ⟨x, rfl, q1⟩ := rd_string Tryz.underlying9 hr
    have := hc 0 (by omega)
    exact ⟨x, ⟨a, rfl, by simpa using this⟩, q1⟩)
  refine ⟨A, n, c, N, rfl, hl.symm, h1, by omega, fun k x hk => (hr k x hk).1, fun x hx => ?_⟩
  obtain ⟨k, hk, rfl⟩ := List.getElem_of_mem hx
  exact (hr k _ (List.getElem?_eq_getElem hk)).2
theorem rd_kind {w : World} {cs : List Value} (h : Rd Tryz.prog w 44 cs) : ∃ x : Kn, cs = x.cs ∧ KnOk w x := by
  have hl := (rd_struct Tryz.underlying44 h).1
  rw [cells_kind] at hl
  match cs, hl with
  | [c0, c1, c2], _ =>
    have h0 : Rd Tryz.prog w 9 [c0] := rd_field Tryz.underlying44 h 0 9 0 1 rfl cells_string
    have h2 : Rd Tryz.prog w 42 [c1] := rd_field Tryz.underlying44 h 1 42 1 1 rfl cells_strs
    have h3 : Rd Tryz.prog w 27 [c2] := rd_field Tryz.underlying44 h 2 27 2 1 rfl cells_nodes1
    obtain ⟨s, e0, s1⟩ := rd_string Tryz.underlying9 h0
    obtain ⟨UA, un, uc, up, e2, hu⟩ := rd_txs h2
    obtain ⟨NA, nn, nc, P, e3, n1, n2, n3, n4, n5⟩ := rd_nodes h3
    simp only [List.cons.injEq, and_true] at e0 e2 e3
    exact ⟨⟨⟨s, up, P⟩, UA, un, uc, NA, nn, nc⟩, by rw [e0, e2, e3]; rfl, s1, hu, n1, n2, n3, n4, n5⟩
theorem rd_act {w : World} {cs : List Value} (h : Rd Tryz.prog w 55 cs) : ∃ x : An, cs = x.cs ∧ AnOk w x := by
  have hl := (rd_struct Tryz.underlying55 h).1
  rw [cells_act] at hl
  match cs, hl with
  | [c0, c1, c2, c3], _ =>
    have h0 : Rd Tryz.prog w 9 [c0] := rd_field Tryz.underlying55 h 0 9 0 1 rfl cells_string
    have h1 : Rd Tryz.prog w 42 [c1] := rd_field Tryz.underlying55 h 1 42 1 1 rfl cells_strs
    have h2 : Rd Tryz.prog w 42 [c2] := rd_field Tryz.underlying55 h 2 42 2 1 rfl cells_strs
    have h3 : Rd Tryz.prog w 27 [c3] := rd_field Tryz.underlying55 h 3 27 3 1 rfl cells_nodes1
    obtain ⟨s, e0, s1⟩ := rd_string Tryz.underlying9 h0
    obtain ⟨WA, wn, wc, who, e1, hw⟩ := rd_txs h1
    obtain ⟨TA, tn, tc, what, e2, ht⟩ := rd_txs h2
    obtain ⟨NA, nn, nc, P, e3, n1, n2, n3, n4, n5⟩ := rd_nodes h3
    simp only [List.cons.injEq, and_true] at e0 e1 e2 e3
    exact ⟨⟨⟨s, who, what, P⟩, WA, wn, wc, TA, tn, tc, NA, nn, nc⟩, by rw [e0, e1, e2, e3]; rfl, s1, hw, ht, n1, n2, n3, n4, n5⟩
theorem rd_kinds {w : World} {cs : List Value} (h : Rd Tryz.prog w 22 cs) : ∃ (A : Option Addr) (n c : Nat) (K : List Kn), cs = [.slice A n c] ∧ Ks w A n c K := by
  obtain ⟨A, n, c, rfl, h1, h2, h3⟩ := rd_slice Tryz.underlying22 h
  rw [cells_kind] at h3
  obtain ⟨K, hl, hr⟩ := list_of n (fun k (x : Kn) => (∃ a, A = some a ∧ w.cell? (a.add (k * 3)) = some (.string x.d.nm) ∧ w.cell? (a.add (k * 3 + 1)) = some (.slice x.UA x.un x.uc) ∧ w.cell? (a.add (k * 3 + 2)) = some (.slice x.NA x.nn x.nc)) ∧ KnOk w x) (fun i hi => by
    obtain ⟨a, rfl, cs', hl, hc, hr⟩ := h3 i hi
    obtain ⟨x, rfl, hx⟩ := rd_kind hr
    exact ⟨x, ⟨a, rfl, hc 0 (by omega), hc 1 (by omega), hc 2 (by omega)⟩, hx⟩)
  refine ⟨A, n, c, K, rfl, hl.symm, h1, by omega, fun k x hx => ?_⟩
  obtain ⟨⟨a, e, q1, q2, q3⟩, hx⟩ := hr k x hx
  refine ⟨a, e, q1, ?_, ?_, hx⟩
  all_goals
    rw [← add_add] at q2 q3
    unfold Addr.add at q2 q3 ⊢
    first | (simpa using q2) | (simpa using q3)
theorem rd_acts {w : World} {cs : List Value} (h : Rd Tryz.prog w 23 cs) : ∃ (A : Option Addr) (n c : Nat) (L : List An), cs = [.slice A n c] ∧ As w A n c L := by
  obtain ⟨A, n, c, rfl, h1, h2, h3⟩ := rd_slice Tryz.underlying23 h
  rw [cells_act] at h3
  obtain ⟨K, hl, hr⟩ := list_of n (fun k (x : An) => (∃ a, A = some a ∧ w.cell? (a.add (k * 4)) = some (.string x.d.id) ∧ w.cell? (a.add (k * 4 + 1)) = some (.slice x.WA x.wn x.wc) ∧ w.cell? (a.add (k * 4 + 2)) = some (.slice x.TA x.tn x.tc) ∧ w.cell? (a.add (k * 4 + 3)) = some (.slice x.NA x.nn x.nc)) ∧ AnOk w x) (fun i hi => by
    obtain ⟨a, rfl, cs', hl, hc, hr⟩ := h3 i hi
    obtain ⟨x, rfl, hx⟩ := rd_act hr
    exact ⟨x, ⟨a, rfl, hc 0 (by omega), hc 1 (by omega), hc 2 (by omega), hc 3 (by omega)⟩, hx⟩)
  refine ⟨A, n, c, K, rfl, hl.symm, h1, by omega, fun k x hx => ?_⟩
  obtain ⟨⟨a, e, q1, q2, q3, q4⟩, hx⟩ := hr k x hx
  refine ⟨a, e, q1, ?_, ?_, ?_, hx⟩
  all_goals
    rw [← add_add] at q2 q3 q4
    unfold Addr.add at q2 q3 q4 ⊢
    first | (simpa using q2) | (simpa using q3) | (simpa using q4)
theorem open_schema {H : Type} {enc : TypeId × Value → H} {w : World} {b b0 : Nat} {sp : Nat → Bool} {hd : Bool} {v : Value} {d : DataW H} {ps : List MemPlace} {r : Reach}
    (hv : Value.okWide Tryz.prog w r b0 25 v) (h : DataW.Trod enc Tryz.prog w b sp hd 25 v d ps) : ∃ x : Sc, v = x.v ∧ ScOk w x := by
  obtain ⟨cs, rfl, _⟩ := okWide_struct Tryz.underlying25 hv
  have hr := rd_of_trod h
  have hl := (rd_struct Tryz.underlying25 hr).1
  rw [cells_schema] at hl
  obtain ⟨l⟩ := cs
  simp only [Value.cells] at hl hr
  match l, hl with
  | [c0, c1], _ =>
    have h0 : Rd Tryz.prog w 22 [c0] := rd_field Tryz.underlying25 hr 0 22 0 1 rfl cells_kinds
    have h1 : Rd Tryz.prog w 23 [c1] := rd_field Tryz.underlying25 hr 1 23 1 1 rfl cells_acts
    obtain ⟨KA, kn, kc, K, e0, hk⟩ := rd_kinds h0
    obtain ⟨AA, an, ac, L, e1, ha⟩ := rd_acts h1
    simp only [List.cons.injEq, and_true] at e0 e1
    exact ⟨⟨KA, kn, kc, K, AA, an, ac, L⟩, by rw [e0, e1]; rfl, hk, ha⟩
theorem open_act {H : Type} {enc : TypeId × Value → H} {w : World} {b b0 : Nat} {sp : Nat → Bool} {hd : Bool} {v : Value} {d : DataW H} {ps : List MemPlace} {r : Reach}
    (hv : Value.okWide Tryz.prog w r b0 55 v) (h : DataW.Trod enc Tryz.prog w b sp hd 55 v d ps) : ∃ x : An, v = x.v ∧ AnOk w x := by
  obtain ⟨cs, rfl, _⟩ := okWide_struct Tryz.underlying55 hv
  obtain ⟨x, e, h1⟩ := rd_act (rd_of_trod h)
  refine ⟨x, ?_, h1⟩
  obtain ⟨l⟩ := cs
  simp only [Value.cells] at e
  unfold An.v
  rw [e]; rfl
theorem open_request {H : Type} {enc : TypeId × Value → H} {w : World} {b b0 : Nat} {sp : Nat → Bool} {hd : Bool} {v : Value} {d : DataW H} {ps : List MemPlace} {r : Reach}
    (hv : Value.okWide Tryz.prog w r b0 48 v) (h : DataW.Trod enc Tryz.prog w b sp hd 48 v d ps) : ∃ x : Rq, v = x.v ∧ RqOk w x := by
  obtain ⟨cs, rfl, _⟩ := okWide_struct Tryz.underlying48 hv
  have hr := rd_of_trod h
  have hl := (rd_struct Tryz.underlying48 hr).1
  rw [cells_request] at hl
  obtain ⟨l⟩ := cs
  simp only [Value.cells] at hl hr
  match l, hl with
  | [c0, c1, c2, c3, c4, c5, c6], _ =>
    have h0 : Rd Tryz.prog w 33 [c0, c1] := rd_field Tryz.underlying48 hr 0 33 0 2 rfl cells_uid
    have h1 : Rd Tryz.prog w 33 [c2, c3] := rd_field Tryz.underlying48 hr 1 33 2 2 rfl cells_uid
    have h2 : Rd Tryz.prog w 33 [c4, c5] := rd_field Tryz.underlying48 hr 2 33 4 2 rfl cells_uid
    have h3 : Rd Tryz.prog w 27 [c6] := rd_field Tryz.underlying48 hr 3 27 6 1 rfl cells_nodes1
    obtain ⟨s1, t1, e0, p1, p2⟩ := rd_uid h0
    obtain ⟨s2, t2, e1, p3, p4⟩ := rd_uid h1
    obtain ⟨s3, t3, e2, p5, p6⟩ := rd_uid h2
    obtain ⟨NA, nn, nc, P, e3, n1, n2, n3, n4, n5⟩ := rd_nodes h3
    simp only [List.cons.injEq, and_true] at e0 e1 e2 e3
    exact ⟨⟨(s1, t1), (s2, t2), (s3, t3), NA, nn, nc, P⟩, by rw [e0.1, e0.2, e1.1, e1.2, e2.1, e2.2, e3]; rfl, p1, p2, p3, p4, p5, p6, n1, n2, n3, n4, n5⟩
end Go.Proofs.YtnolmlhcikcceaaGreatDoor
namespace Go.Proofs.YtnolmlhcikcceaaGreatDoor
open Go.RowKit Go.Wk

theorem ref_isLetter (n : Int) (w : World) (h0 : 0 ≤ n) (h1 : n ≤ 255) : Calls Tryz.prog 126 #[.int .u8 n] w fun e w' => e = .returned (.bool (isLet n)) ∧ w = w' := by
  go_enter Tryz.func126, Tryz.ntmps126
  go_wp2
  all_goals (go_ret; exact ⟨ret_bool (by unfold isLet; rw [Bool.eq_iff_iff]; simp; omega), rfl⟩)
theorem ref_isDigit (n : Int) (w : World) (h0 : 0 ≤ n) (h1 : n ≤ 255) : Calls Tryz.prog 127 #[.int .u8 n] w fun e w' => e = .returned (.bool (isDig n)) ∧ w = w' := by
  go_enter Tryz.func127, Tryz.ntmps127
  go_wp2
  all_goals (go_ret; exact ⟨ret_bool (by unfold isDig; rw [Bool.eq_iff_iff]; simp; omega), rfl⟩)

set_option maxHeartbeats 1000000 in
theorem ref_NameFault (s : ByteArray) (w : World) (hs : s.size ≤ maxLen) : Calls Tryz.prog 72 #[.string s] w fun e w' => e = .returned (.int .i64 (nameFault s)) ∧ w = w' := by
  unfold maxLen at hs
  go_enter Tryz.func72, Tryz.ntmps72
  go_wp2
  go_loop [2, 3] (fun r i => ∃ k : Nat, k ≤ s.size ∧ i = .int .i64 k ∧ r = .int .i64 0 ∧ Hid (0 < k → nameOk (s.data.toList.take k) = true)) (fun _ i => s.size - (intOf i).toNat)
  case atStart => exact ⟨0, Nat.zero_le _, rfl, rfl, fun h => absurd h (by omega)⟩
  case round =>
    obtain ⟨k, hk, rfl, rfl, hall⟩ := hrel
    by_cases hlt : k < s.size
    · have C1 := Lib.hid (fun w => ref_isLetter (s[k].toNat : Int) w (by omega) (by have := s[k].toNat_lt; omega))
      have C2 := Lib.hid (fun w => ref_isDigit (s[k].toNat : Int) w (by omega) (by have := s[k].toNat_lt; omega))
      by_cases hk0 : k = 0
      · subst hk0
        have G1 := Lib.hid (fun q : isLet (s[0].toNat : Int) = true => (show nameOk (s.data.toList.take 1) = true from nameOk_take_one hlt q))
        have G2 := Lib.hid (fun q : isLet (s[0].toNat : Int) = false => (show nameFault s = 1 by unfold nameFault; rw [nameOk_first hlt q]; rfl))
        clear hall
        rcases hx : isLet (s[0].toNat : Int) with _ | _ <;> rw [hx] at C1 G1 G2 <;> clear hx
        · go_wp2_with (go_at_call 126; refine (C1.out _).mono ?_; rintro e w' ⟨rfl, rfl⟩)
          go_ret
          exact ⟨by rw [G2.out (by simp)]; rfl, rfl⟩
        · go_wp2_with (go_at_call 126; refine (C1.out _).mono ?_; rintro e w' ⟨rfl, rfl⟩)
          go_round
          case rel => exact ⟨1, by omega, by go_num, rfl, fun _ => G1.out (by simp)⟩
          case measure => simp [intOf]; omega
      · have hst : isWrd s[k] = (isLet (s[k].toNat : Int) || isDig (s[k].toNat : Int)) := rfl
        have G1 := Lib.hid (fun q : isWrd s[k] = true => (show nameOk (s.data.toList.take (k + 1)) = true from nameOk_take_succ (by omega) hlt (hall.out (by omega)) q))
        have G2 := Lib.hid (fun q : isWrd s[k] = false => (show nameFault s = 1 by unfold nameFault; rw [nameOk_stop (by omega) hlt q]; rfl))
        rw [hst] at G1 G2
        have hk1 : ((k : Int) == 0) = false := by rw [beq_eq_false_iff_ne]; omega
        clear hst hall hk0
        rcases hx : isLet (s[k].toNat : Int) with _ | _ <;> rcases hy : isDig (s[k].toNat : Int) with _ | _ <;> rw [hx] at C1 G1 G2 <;> rw [hy] at C2 G1 G2 <;> clear hx hy
        all_goals go_wp2_with (first | (go_at_call 126; refine (C1.out _).mono ?_; rintro e w' ⟨rfl, rfl⟩) | (go_at_call 127; refine (C2.out _).mono ?_; rintro e w' ⟨rfl, rfl⟩))
        · go_ret
          exact ⟨by rw [G2.out (by simp)]; rfl, rfl⟩
        all_goals
          go_round
          case rel => exact ⟨k + 1, by omega, by go_num, rfl, fun _ => G1.out rfl⟩
          case measure => simp [intOf]; omega
    · by_cases h0 : s.size = 0
      · have H3 := Lib.hid (show nameFault s = 1 by unfold nameFault; rw [nameOk_empty h0]; rfl)
        have h1 : ((s.size : Int) == 0) = true := by rw [beq_iff_eq]; omega
        clear hall
        go_wp2
        go_ret
        exact ⟨by rw [H3.out]; rfl, rfl⟩
      · have H2 := Lib.hid (show nameOk s.data.toList = true from nameOk_end (by omega) (hall.out (by omega)))
        have h1 : ((s.size : Int) == 0) = false := by rw [beq_eq_false_iff_ne]; omega
        clear hall h0
        by_cases h20 : 20 < s.size
        · have H3 := Lib.hid (show nameFault s = 4 by unfold nameFault; rw [H2.out, if_pos rfl, if_pos h20])
          clear H2
          go_wp2
          go_ret
          exact ⟨by rw [H3.out]; rfl, rfl⟩
        · have H3 := Lib.hid (show nameFault s = 0 by unfold nameFault; rw [H2.out, if_pos rfl, if_neg h20])
          clear H2
          go_wp2
          go_ret
          exact ⟨by rw [H3.out]; rfl, rfl⟩

set_option maxHeartbeats 400000 in
theorem ref_TextFault (s : ByteArray) (w : World) (hs : s.size ≤ maxLen) : Calls Tryz.prog 75 #[.string s] w fun e w' => e = .returned (.int .i64 (textFault s)) ∧ Below w.heap.size w w' := by
  unfold maxLen at hs
  by_cases h60 : 60 < s.size
  · have H := Lib.hid (show textFault s = 4 by unfold textFault; rw [if_pos h60])
    go_enter Tryz.func75, Tryz.ntmps75
    go_wp2
    go_ret
    exact ⟨by rw [H.out]; rfl, Below.refl _ _⟩
  have H := Lib.hid (show textFault s = if s.data.toList.all isPrtB then 0 else 1 by unfold textFault; rw [if_neg (by omega)])
  go_enter Tryz.func75, Tryz.ntmps75
  go_wp2
  go_loopw [2, 3] (fun r i wr => ∃ k : Nat, k ≤ s.size ∧ i = .int .i64 k ∧ r = .int .i64 0 ∧ Hid ((s.data.toList.take k).all isPrtB = true) ∧ Below w.heap.size w wr) (fun _ i _ => s.size - (intOf i).toNat)
  case atStart => exact ⟨0, Nat.zero_le _, rfl, rfl, by simp [Hid], Below.refl _ _⟩
  case round =>
    obtain ⟨k, hk, rfl, rfl, hall, hb⟩ := hrel
    by_cases hlt : k < s.size
    · by_cases hp : 32 ≤ (s[k].toNat : Int) ∧ (s[k].toNat : Int) ≤ 126
      · have H2 := Lib.hid (show (s.data.toList.take (k + 1)).all isPrtB = true by rw [all_succ s isPrtB hlt, hall.out, Bool.true_and]; unfold isPrtB isPrt; simp; omega)
        obtain ⟨hp1, hp2⟩ := hp
        have q1 : decide ((s[k].toNat : Int) < 32) = false := by simp; omega
        clear hall
        go_wp2
        go_roundw
        case rel => exact ⟨k + 1, by omega, by go_num, rfl, H2, hb⟩
        case measure => simp [intOf]; omega
      · have H2 := Lib.hid (show s.data.toList.all isPrtB = false from all_stop hlt (by unfold isPrtB isPrt; rw [Bool.eq_false_iff]; simp; omega))
        clear hall
        by_cases hq : (s[k].toNat : Int) < 32
        · clear hp
          have q1 : decide ((s[k].toNat : Int) < 32) = true := by simp; omega
          go_wp2
          go_ret
          exact ⟨by rw [H.out, H2.out]; rfl, hb⟩
        · have hq2 : 126 < (s[k].toNat : Int) := by omega
          clear hp
          have q1 : decide ((s[k].toNat : Int) < 32) = false := by simp; omega
          go_wp2
          go_ret
          exact ⟨by rw [H.out, H2.out]; rfl, hb⟩
    · have H2 := Lib.hid (show s.data.toList.all isPrtB = true from (all_end (k := k) (by omega)).symm.trans hall.out)
      clear hall
      go_wp2
      go_ret
      exact ⟨by rw [H.out, H2.out]; rfl, hb⟩
end Go.Proofs.YtnolmlhcikcceaaGreatDoor
namespace Go.Proofs.YtnolmlhcikcceaaGreatDoor
open Go.RowKit Go.Wk Go.Sort
set_option maxRecDepth 100000

theorem emp_or' (s : ByteArray) : s = ⟨#[]⟩ ∨ s ≠ emp ∧ (s.toList == []) = false ∧ (s.toList != []) = true := by
  rcases empty_or s with h | ⟨h1, h2, h3⟩
  · exact .inl h
  · exact .inr ⟨fun e => h2 (by rw [e, show emp.toList = [] by rw [ByteArray.toList_eq]; rfl]), beq_eq_false_iff_ne.2 h2, by rw [bne_iff_ne]; exact h2⟩
theorem bx4_new' (w : World) (x0 x1 x2 x3 : Value) (t : TypeId) : (w.alloc (.cells #[x0, x1, x2, x3] t)).cell? ⟨w.heap.size, 1, none⟩ = some x1 := by
  rw [World.cell?_alloc_at _ _ _ _ rfl]; rfl
/-- The contract of KindEnd, with so much fuel. -/
def KeC (P : List Nd) (A : Option Addr) (n c : Nat) (m : Nat) : Prop :=
  ∀ (q : Nat) (w : World), Ns w A n c P → n - q ≤ m → Calls Tryz.prog 131 #[.slice A n c, .int .i64 q] w fun e w' => e = .returned (.int .i64 (kEnd P q)) ∧ Below w.heap.size w w'
set_option maxHeartbeats 1000000 in
theorem ke_out (P : List Nd) (A : Option Addr) (n c q : Nat) (w : World) (hn : n = P.length) (h : n ≤ q) :
    Calls Tryz.prog 131 #[.slice A n c, .int .i64 q] w fun e w' => e = .returned (.int .i64 (kEnd P q)) ∧ Below w.heap.size w w' := by
  have HE := Lib.hid (kEnd_out (t := P) (p := q) (by omega))
  clear hn
  go_enter Tryz.func131, Tryz.ntmps131
  go_wp2_with fail
  go_ret
  exact ⟨by rw [HE.out]; rfl, Below.refl _ _⟩
section
variable (a : Addr) (n c q : Nat) (xo xn : Int) (xs xt : ByteArray) (w : World) (hm : n ≤ maxLen) (hq : q < n) (d0 : w.cell? (a.add (q * 4)) = some (.int .i64 xo)) (d1 : w.cell? ⟨(a.add (q * 4)).block, (a.add (q * 4)).off + 1, none⟩ = some (.int .i64 xn)) (d2 : w.cell? ⟨(a.add (q * 4)).block, (a.add (q * 4)).off + 2, none⟩ = some (.string xs)) (d3 : w.cell? ⟨(a.add (q * 4)).block, (a.add (q * 4)).off + 3, none⟩ = some (.string xt))
include hm hq d0 d1 d2 d3
set_option maxHeartbeats 1000000 in
/-- A head that is none. -/
theorem ke_bad (h : xt ≠ emp ∨ (xo ≠ 44 ∧ xs ≠ emp) ∨ (xo ≠ 46 ∧ xn ≠ 0) ∨ xn < 0) :
    Calls Tryz.prog 131 #[.slice (some a) n c, .int .i64 q] w fun e w' => e = .returned (.int .i64 (-1)) ∧ Below w.heap.size w w' := by
  unfold maxLen at hm
  have hl : (a.add (q * 4)).block < w.heap.size := block_lt_of_cell d0
  have HB := Lib.hid (fun o => below_box w o)
  rcases emp_or' xt with rfl | ⟨ht, t1, t2⟩
  · have h := h.resolve_left (fun e => e rfl)
    by_cases h44 : xo = 44
    · subst h44
      have h := h.resolve_left (fun e => e.1 rfl)
      by_cases hn : xn = 0
      · have h := h.resolve_left (fun e => e.2 hn)
        omega
      · have e1 : (xn == 0) = false := beq_eq_false_iff_ne.2 hn
        have e2 : (xn != 0) = true := by rw [bne_iff_ne]; exact hn
        clear h
        go_enter Tryz.func131, Tryz.ntmps131
        go_wp2_with fail
        go_ret
        exact ⟨rfl, HB.out _⟩
    · have f1 : (xo == 44) = false := beq_eq_false_iff_ne.2 h44
      have f2 : (xo != 44) = true := by rw [bne_iff_ne]; exact h44
      rcases emp_or' xs with rfl | ⟨hs, s1, s2⟩
      · have h := h.resolve_left (fun e => e.2 rfl)
        by_cases h46 : xo = 46
        · subst h46
          have h := h.resolve_left (fun e => e.1 rfl)
          have e1 : decide (xn < 0) = true := decide_eq_true h
          clear h44
          go_enter Tryz.func131, Tryz.ntmps131
          go_wp2_with fail
          go_ret
          exact ⟨rfl, HB.out _⟩
        · have g1 : (xo == 46) = false := beq_eq_false_iff_ne.2 h46
          have g2 : (xo != 46) = true := by rw [bne_iff_ne]; exact h46
          have hn : xn ≠ 0 := by rcases h with h | h <;> omega
          have e1 : (xn == 0) = false := beq_eq_false_iff_ne.2 hn
          have e2 : (xn != 0) = true := by rw [bne_iff_ne]; exact hn
          clear h hn h44 h46
          go_enter Tryz.func131, Tryz.ntmps131
          go_wp2_with fail
          go_ret
          exact ⟨rfl, HB.out _⟩
      · clear h hs h44
        go_enter Tryz.func131, Tryz.ntmps131
        go_wp2_with fail
        go_ret
        exact ⟨rfl, HB.out _⟩
  · clear h ht
    go_enter Tryz.func131, Tryz.ntmps131
    go_wp2_with fail
    go_ret
    exact ⟨rfl, HB.out _⟩
set_option maxHeartbeats 1000000 in
/-- An entity. -/
theorem ke_ent (hs : xs.size ≤ maxLen) (h1 : xo = 44) (h2 : xn = 0) (h3 : xt = emp) :
    Calls Tryz.prog 131 #[.slice (some a) n c, .int .i64 q] w fun e w' => e = .returned (.int .i64 (if nameFault xs = 0 then ((q + 1 : Nat) : Int) else -1)) ∧ Below w.heap.size w w' := by
  unfold maxLen at hm
  have hl : (a.add (q * 4)).block < w.heap.size := block_lt_of_cell d0
  have HB := Lib.hid (fun o => below_box w o)
  have V := Lib.hid (fun w => ref_NameFault xs w hs)
  have h3' : xt = ⟨#[]⟩ := h3
  subst h1 h2 h3'
  clear h3 hs
  by_cases hf : nameFault xs = 0
  · rw [hf] at V
    rw [if_pos hf]
    clear hf
    go_enter Tryz.func131, Tryz.ntmps131
    go_wp2_with fail
    refine (V.out _).mono ?_
    rintro e w1 ⟨rfl, rfl⟩
    go_wp2_with fail
    go_ret
    exact ⟨by go_num, HB.out _⟩
  · have f1 : (nameFault xs == 0) = false := beq_eq_false_iff_ne.2 hf
    have f2 : (nameFault xs != 0) = true := by rw [bne_iff_ne]; exact hf
    rw [if_neg hf]
    clear hf
    generalize nameFault xs = nf at *
    go_enter Tryz.func131, Tryz.ntmps131
    go_wp2_with fail
    refine (V.out _).mono ?_
    rintro e w1 ⟨rfl, rfl⟩
    go_wp2_with fail
    go_ret
    exact ⟨rfl, HB.out _⟩
set_option maxHeartbeats 1000000 in
/-- One of those without parts. -/
theorem ke_base (h1 : baseOp xo) (h2 : xn = 0) (h3 : xs = emp) (h4 : xt = emp) :
    Calls Tryz.prog 131 #[.slice (some a) n c, .int .i64 q] w fun e w' => e = .returned (.int .i64 ((q + 1 : Nat) : Int)) ∧ Below w.heap.size w w' := by
  unfold maxLen at hm
  have hl : (a.add (q * 4)).block < w.heap.size := block_lt_of_cell d0
  have HB := Lib.hid (fun o => below_box w o)
  have h3' : xs = ⟨#[]⟩ := h3
  have h4' : xt = ⟨#[]⟩ := h4
  subst h2 h3' h4'
  clear h3 h4
  rcases h1 with rfl | rfl | rfl | rfl | rfl
  all_goals
    go_enter Tryz.func131, Tryz.ntmps131
    go_wp2_with fail
    go_ret
    exact ⟨by go_num, HB.out _⟩
set_option maxHeartbeats 1000000 in
/-- None of those that there are. -/
theorem ke_else (h0 : ¬ baseOp xo) (h1 : xo ≠ 44) (h2 : xo ≠ 45) (h3 : xo ≠ 46) :
    Calls Tryz.prog 131 #[.slice (some a) n c, .int .i64 q] w fun e w' => e = .returned (.int .i64 (-1)) ∧ Below w.heap.size w w' := by
  by_cases hb : xt ≠ emp ∨ (xo ≠ 44 ∧ xs ≠ emp) ∨ (xo ≠ 46 ∧ xn ≠ 0) ∨ xn < 0
  · exact ke_bad a n c q xo xn xs xt w hm hq d0 d1 d2 d3 hb
  · have ht : xt = ⟨#[]⟩ := Decidable.byContradiction fun e => hb (.inl e)
    have hs : xs = ⟨#[]⟩ := Decidable.byContradiction fun e => hb (.inr (.inl ⟨h1, e⟩))
    have hn : xn = 0 := Decidable.byContradiction fun e => hb (.inr (.inr (.inl ⟨h3, e⟩)))
    clear hb
    subst ht hs hn
    unfold maxLen at hm
    have hl : (a.add (q * 4)).block < w.heap.size := block_lt_of_cell d0
    have HB := Lib.hid (fun o => below_box w o)
    have f1 : (xo == 44) = false := beq_eq_false_iff_ne.2 h1
    have f2 : (xo != 44) = true := by rw [bne_iff_ne]; exact h1
    have f3 : (xo == 45) = false := beq_eq_false_iff_ne.2 h2
    have f4 : (xo == 46) = false := beq_eq_false_iff_ne.2 h3
    have f5 : (xo != 46) = true := by rw [bne_iff_ne]; exact h3
    have f6 : (xo == 48) = false := beq_eq_false_iff_ne.2 (fun e => h0 (.inr (.inr (.inr (.inl e)))))
    have f7 : (xo == 49) = false := beq_eq_false_iff_ne.2 (fun e => h0 (.inr (.inr (.inr (.inr e)))))
    by_cases h41 : 41 ≤ xo
    · have g1 : decide (41 ≤ xo) = true := decide_eq_true h41
      have g2 : decide (xo ≤ 43) = false := decide_eq_false (fun e => h0 (by unfold baseOp; omega))
      clear h0 h1 h2 h3 h41
      go_enter Tryz.func131, Tryz.ntmps131
      go_wp2_with fail
      go_ret
      exact ⟨rfl, HB.out _⟩
    · have g1 : decide (41 ≤ xo) = false := decide_eq_false h41
      clear h0 h1 h2 h3 h41
      go_enter Tryz.func131, Tryz.ntmps131
      go_wp2_with fail
      go_ret
      exact ⟨rfl, HB.out _⟩
end
set_option maxHeartbeats 1000000 in
/-- Of sets. -/
theorem ke_set (P : List Nd) (m : Nat) (a : Addr) (n c q : Nat) (w : World) (ih : KeC P (some a) n c m) (hns : Ns w (some a) n c P) (hq : q < n) (hf : n - q ≤ m + 1) (x : Nd) (hx : P[q]? = some x) (h1 : x.op = 45) (h2 : x.n = 0) (h3 : x.s = emp) (h4 : x.t = emp) :
    Calls Tryz.prog 131 #[.slice (some a) n c, .int .i64 q] w fun e w' => e = .returned (.int .i64 (kEnd P q)) ∧ Below w.heap.size w w' := by
  have HE := Lib.hid (show kEnd P q = kEnd P (q + 1) by rw [kEnd_set hx h1, if_pos ⟨h2, h3, h4⟩])
  have hm := hns.max
  unfold maxLen at hm
  have IH := Lib.hid (fun w' hb => ih (q + 1) w' (hns.keep (w' := w') hb) (by omega))
  obtain ⟨a', ea, d0, d1, d2, d3⟩ := hns.at_ q x hx
  injection ea with ea
  subst ea
  have hl : (a.add (q * 4)).block < w.heap.size := block_lt_of_cell d0
  have HB := Lib.hid (below_box w (.cells #[.int .i64 45, .int .i64 0, .string ⟨#[]⟩, .string ⟨#[]⟩] 35))
  rw [h1] at d0
  rw [h2] at d1
  rw [show x.s = ⟨#[]⟩ from h3] at d2
  rw [show x.t = ⟨#[]⟩ from h4] at d3
  clear hns hx h1 h2 h3 h4 ih
  generalize kEnd P (q + 1) = r at *
  go_enter Tryz.func131, Tryz.ntmps131
  go_wp2_with fail
  refine (IH.out _ HB.out).mono ?_
  rintro e w1 ⟨rfl, b1⟩
  have B1 := Lib.hid (HB.out.trans (b1.mono (by simp)))
  clear b1
  go_wp2_with fail
  go_ret
  exact ⟨by rw [HE.out]; rfl, B1.out⟩
end Go.Proofs.YtnolmlhcikcceaaGreatDoor
namespace Go.Proofs.YtnolmlhcikcceaaGreatDoor
open Go.RowKit Go.Wk Go.Sort
set_option maxRecDepth 100000

set_option maxHeartbeats 2000000 in
/-- Of records. -/
theorem ke_rec (P : List Nd) (m : Nat) (a : Addr) (n c q : Nat) (w : World) (ih : KeC P (some a) n c m) (hns : Ns w (some a) n c P) (hq : q < n) (hf : n - q ≤ m + 1) (x : Nd) (hx : P[q]? = some x) (h1 : x.op = 46) (h2 : 0 ≤ x.n) (h3 : x.s = emp) (h4 : x.t = emp) :
    Calls Tryz.prog 131 #[.slice (some a) n c, .int .i64 q] w fun e w' => e = .returned (.int .i64 (kEnd P q)) ∧ Below w.heap.size w w' := by
  have HE := Lib.hid (show kEnd P q = fEnd P x.n.toNat emp (q + 1) by rw [kEnd_rec hx h1, if_pos ⟨h2, h3, h4⟩])
  have hm := hns.max
  unfold maxLen at hm
  have HNS := Lib.hid hns
  have HLN := Lib.hid hns.len
  have hxn : x.n ≤ 9223372036854775807 := (hns.ok x (List.mem_of_getElem? hx)).hi
  have IH := Lib.hid (fun p w' (hp : q < p) hb => ih p w' (hns.keep (w' := w') hb) (by omega))
  obtain ⟨a', ea, d0, d1, d2, d3⟩ := hns.at_ q x hx
  injection ea with ea
  subst ea
  have hl : (a.add (q * 4)).block < w.heap.size := block_lt_of_cell d0
  have HB := Lib.hid (below_box w (.cells #[.int .i64 46, .int .i64 x.n, .string ⟨#[]⟩, .string ⟨#[]⟩] 35))
  have HX := Lib.hid (bx4_new' w (.int .i64 46) (.int .i64 x.n) (.string ⟨#[]⟩) (.string ⟨#[]⟩) 35)
  have e1 : decide (x.n < 0) = false := decide_eq_false (by omega)
  rw [h1] at d0
  rw [show x.s = ⟨#[]⟩ from h3] at d2
  rw [show x.t = ⟨#[]⟩ from h4] at d3
  generalize kEnd P q = r at *
  clear hns h1 h3 h4 ih
  have g0 : decide (n ≤ q) = false := decide_eq_false (by omega)
  go_enter Tryz.func131, Tryz.ntmps131
  go_wp2_with fail
  go_loopw [1, 6, 7] (fun u l i wr => ∃ (k p : Nat) (last : ByteArray), u = .int .i64 p ∧ l = .string last ∧ i = .int .i64 k ∧ k ≤ x.n.toNat ∧ q < p ∧ p ≤ n ∧ Hid (last.size ≤ maxLen) ∧ Hid (fEnd P x.n.toNat emp (q + 1) = fEnd P (x.n.toNat - k) last p) ∧ Hid (Below w.heap.size w wr) ∧ Hid (wr.cell? ⟨w.heap.size, 1, none⟩ = some (.int .i64 x.n))) (fun _ _ i _ => x.n.toNat - (intOf i).toNat)
  case atStart => exact ⟨0, q + 1, ⟨#[]⟩, by go_num, rfl, rfl, Nat.zero_le _, Nat.lt_succ_self _, hq, Lib.hid (Nat.zero_le _), Lib.hid rfl, HB, HX⟩
  case round =>
    obtain ⟨k, p, last, rfl, rfl, rfl, hk, hqp, hpn, hLS, hFE, hW, hX⟩ := hrel
    have x1 := hX.out
    have hw1 : w.heap.size < wr.heap.size := block_lt_of_cell x1
    by_cases hlt : k < x.n.toNat
    · have g1 : decide ((k : Int) < x.n) = true := decide_eq_true (by omega)
      have HFE := Lib.hid (show fEnd P x.n.toNat emp (q + 1) = fEnd P (x.n.toNat - k - 1 + 1) last p by rw [hFE.out]; congr 1; omega)
      by_cases hpn2 : p < n
      · have hpl : p < P.length := by rw [← HLN.out]; exact hpn2
        obtain ⟨a', ea, e0, e1, e2, e3⟩ := (HNS.out.keep hW.out).at_ p _ (List.getElem?_eq_getElem hpl)
        injection ea with ea
        subst ea
        have HYS := Lib.hid (HNS.out.ok _ (List.getElem_mem hpl)).s
        have HY0 := List.getElem?_eq_getElem hpl
        obtain ⟨y, hy⟩ : ∃ y, y = P[p] := ⟨_, rfl⟩
        rw [← hy] at e0 e1 e2 e3 HYS HY0
        have HY := Lib.hid HY0
        clear hy HY0
        have hla : (a.add (p * 4)).block < wr.heap.size := block_lt_of_cell e0
        have HBAD := Lib.hid (show ¬ kfOk last y → r = -1 from fun h => by rw [HE.out, HFE.out, fEnd_succ HY.out, if_neg h])
        have HGOOD := Lib.hid (show kfOk last y → r = if 0 ≤ kEnd P (p + 1) then fEnd P (x.n.toNat - k - 1) y.s (kEnd P (p + 1)).toNat else -1 from fun h => by rw [HE.out, HFE.out, fEnd_succ HY.out, if_pos h])
        have V1 := Lib.hid (fun w => ref_NameFault y.s w HYS.out)
        have V2 := Lib.hid (fun w => ref_Texts last y.s w hLS.out HYS.out)
        obtain ⟨yo, yn, ys, yt⟩ := y
        simp only at e0 e1 e2 e3 V1 V2
        by_cases h47 : yo = 47
        · subst h47
          by_cases hn0 : yn < 0
          · have HBV := Lib.hid (HBAD.out fun h => by rcases h.2.1 with h | h <;> (simp only at h; omega))
            have f1 : decide (yn < 0) = true := decide_eq_true hn0
            clear hn0
            go_wp2_with fail
            go_ret
            exact ⟨by rw [HBV.out]; rfl, hW.out⟩
          · have f1 : decide (yn < 0) = false := decide_eq_false hn0
            by_cases hn1 : 1 < yn
            · have HBV := Lib.hid (HBAD.out fun h => by rcases h.2.1 with h | h <;> (simp only at h; omega))
              have f2 : decide (1 < yn) = true := decide_eq_true hn1
              clear hn0 hn1
              go_wp2_with fail
              go_ret
              exact ⟨by rw [HBV.out]; rfl, hW.out⟩
            · have f2 : decide (1 < yn) = false := decide_eq_false hn1
              have HN01 := Lib.hid (show yn = 0 ∨ yn = 1 by omega)
              rcases emp_or' yt with rfl | ⟨ht, t1, t2⟩
              · by_cases hf0 : nameFault ys = 0
                · have HF0 := Lib.hid hf0
                  rw [hf0] at V1
                  by_cases hc : 0 ≤ cmpB last ys
                  · have HBV := Lib.hid (HBAD.out fun h => by have := h.2.2.2.2; simp only at this; omega)
                    have f3 : decide (0 ≤ cmpB last ys) = true := decide_eq_true hc
                    clear hn0 hn1 hf0 hc
                    generalize cmpB last ys = cc at *
                    go_wp2_with fail
                    refine (V1.out _).mono ?_
                    rintro e w1 ⟨rfl, rfl⟩
                    go_wp2_with fail
                    refine (V2.out _).mono ?_
                    rintro e w2 ⟨rfl, b2⟩
                    have B2 := Lib.hid (hW.out.trans (b2.mono hW.out.size))
                    have hw2 : w.heap.size < w2.heap.size := Nat.lt_of_lt_of_le hw1 b2.size
                    have X2 := Lib.hid (cell_keep b2 x1)
                    have E2 := Lib.hid (cell_keep b2 e2)
                    clear b2 e0 e1 e2 e3 x1
                    go_wp2_with fail
                    go_ret
                    exact ⟨by rw [HBV.out]; rfl, B2.out⟩
                  · have HGV := Lib.hid (HGOOD.out ⟨rfl, HN01.out, rfl, HF0.out, by simp only; omega⟩)
                    have f3 : decide (0 ≤ cmpB last ys) = false := decide_eq_false hc
                    clear hn0 hn1 hf0 hc HBAD HGOOD
                    generalize cmpB last ys = cc at *
                    go_wp2_with fail
                    refine (V1.out _).mono ?_
                    rintro e w1 ⟨rfl, rfl⟩
                    go_wp2_with fail
                    refine (V2.out _).mono ?_
                    rintro e w2 ⟨rfl, b2⟩
                    have B2 := Lib.hid (hW.out.trans (b2.mono hW.out.size))
                    have hw2 : w.heap.size < w2.heap.size := Nat.lt_of_lt_of_le hw1 b2.size
                    have X2 := Lib.hid (cell_keep b2 x1)
                    have E2 := Lib.hid (cell_keep b2 e2)
                    have hla2 : (a.add (p * 4)).block < w2.heap.size := Nat.lt_of_lt_of_le hla b2.size
                    clear b2 e0 e1 e2 e3 x1
                    have e2' := E2.out
                    go_wp2_with fail
                    refine (IH.out (p + 1) w2 (by omega) B2.out).mono ?_
                    rintro e w3 ⟨rfl, b3⟩
                    have B3 := Lib.hid (B2.out.trans (b3.mono B2.out.size))
                    have X3 := Lib.hid (cell_keep b3 X2.out)
                    clear b3 e2'
                    by_cases hk0 : 0 ≤ kEnd P (p + 1)
                    · obtain ⟨e', he, hep, hel⟩ := kEnd_lt hk0
                      have HF2 := Lib.hid (show fEnd P x.n.toNat emp (q + 1) = fEnd P (x.n.toNat - (k + 1)) ys e' by
                        have h1 := HGV.out
                        rw [if_pos hk0, he, HE.out] at h1
                        simp only [Int.toNat_natCast] at h1
                        rw [h1, show x.n.toNat - (k + 1) = x.n.toNat - k - 1 by omega])
                      have hen : e' ≤ n := by rw [HLN.out]; exact hel
                      rw [he]
                      clear hk0 he hel
                      go_wp2_with fail
                      go_roundw
                      case rel => exact ⟨k + 1, e', ys, rfl, rfl, by go_num, hlt, by omega, hen, HYS, HF2, B3, X3⟩
                      case measure => simp [intOf]; omega
                    · have HBV := Lib.hid (show r = -1 by rw [HGV.out, if_neg hk0])
                      rw [kEnd_neg hk0]
                      clear hk0
                      go_wp2_with fail
                      go_ret
                      exact ⟨by rw [HBV.out]; rfl, B3.out⟩
                · have HBV := Lib.hid (HBAD.out fun h => hf0 h.2.2.2.1)
                  have f3 : (nameFault ys == 0) = false := beq_eq_false_iff_ne.2 hf0
                  have f4 : (nameFault ys != 0) = true := by rw [bne_iff_ne]; exact hf0
                  clear hn0 hn1 hf0 HBAD HGOOD
                  generalize nameFault ys = nf at *
                  go_wp2_with fail
                  refine (V1.out _).mono ?_
                  rintro e w1 ⟨rfl, rfl⟩
                  go_wp2_with fail
                  go_ret
                  exact ⟨by rw [HBV.out]; rfl, hW.out⟩
              · have HBV := Lib.hid (HBAD.out fun h => ht h.2.2.1)
                clear hn0 hn1 ht
                go_wp2_with fail
                go_ret
                exact ⟨by rw [HBV.out]; rfl, hW.out⟩
        · have HBV := Lib.hid (HBAD.out fun h => h47 h.1)
          have f1 : (yo == 47) = false := beq_eq_false_iff_ne.2 h47
          have f2 : (yo != 47) = true := by rw [bne_iff_ne]; exact h47
          clear h47
          go_wp2_with fail
          go_ret
          exact ⟨by rw [HBV.out]; rfl, hW.out⟩
      · have HBV := Lib.hid (show r = -1 by
          rw [HE.out, HFE.out]
          exact fEnd_out (by rw [← HLN.out]; omega))
        have f1 : decide ((n : Int) ≤ (p : Int)) = true := decide_eq_true (by omega)
        go_wp2_with fail
        go_ret
        exact ⟨by rw [HBV.out]; rfl, hW.out⟩
    · have g1 : decide ((k : Int) < x.n) = false := decide_eq_false (by omega)
      have HFE := Lib.hid (show r = (p : Int) by
        rw [HE.out, hFE.out, show x.n.toNat - k = 0 by omega]
        exact fEnd_zero (by rw [← HLN.out]; exact hpn))
      go_wp2_with fail
      go_ret
      exact ⟨by rw [HFE.out]; rfl, hW.out⟩
end Go.Proofs.YtnolmlhcikcceaaGreatDoor
namespace Go.Proofs.YtnolmlhcikcceaaGreatDoor
open Go.RowKit Go.Wk Go.Sort
set_option maxRecDepth 100000

/-- KindEnd. -/
theorem ref_KindEnd (P : List Nd) (A : Option Addr) (n c : Nat) : ∀ m, KeC P A n c m
  | 0 => fun q w h hm => ke_out P A n c q w h.len (by omega)
  | m + 1 => fun q w h hm => by
    by_cases hq : q < n
    · have ih := ref_KindEnd P A n c m
      have hp : q < P.length := by rw [← h.len]; exact hq
      have hx := List.getElem?_eq_getElem hp
      obtain ⟨a, rfl, d0, d1, d2, d3⟩ := h.at_ q _ hx
      have hok := h.ok _ (List.getElem_mem hp)
      generalize P[q] = x at *
      by_cases hb : x.t ≠ emp ∨ (x.op ≠ 44 ∧ x.s ≠ emp) ∨ (x.op ≠ 46 ∧ x.n ≠ 0) ∨ x.n < 0
      · have e : kEnd P q = -1 := by
          by_cases b1 : baseOp x.op
          · rw [kEnd_base hx b1, if_neg]
            rintro ⟨q1, q2, q3⟩
            rcases hb with hb | ⟨-, hb⟩ | ⟨-, hb⟩ | hb
            · exact hb q3
            · exact hb q2
            · exact hb q1
            · omega
          by_cases b2 : x.op = 44
          · rw [kEnd_ent hx b2, if_neg]
            rintro ⟨q1, q2, q3⟩
            rcases hb with hb | ⟨hb, -⟩ | ⟨-, hb⟩ | hb
            · exact hb q3
            · exact hb b2
            · exact hb q1
            · omega
          by_cases b3 : x.op = 45
          · rw [kEnd_set hx b3, if_neg]
            rintro ⟨q1, q2, q3⟩
            rcases hb with hb | ⟨-, hb⟩ | ⟨-, hb⟩ | hb
            · exact hb q3
            · exact hb q2
            · exact hb q1
            · omega
          by_cases b4 : x.op = 46
          · rw [kEnd_rec hx b4, if_neg]
            rintro ⟨q1, q2, q3⟩
            rcases hb with hb | ⟨-, hb⟩ | ⟨hb, -⟩ | hb
            · exact hb q3
            · exact hb q2
            · exact hb b4
            · omega
          exact kEnd_else hx b1 b2 b3 b4
        rw [e]
        exact ke_bad a n c q x.op x.n x.s x.t w h.max hq d0 d1 d2 d3 hb
      · have ht : x.t = emp := Decidable.byContradiction fun e => hb (.inl e)
        have hs : x.op ≠ 44 → x.s = emp := fun e0 => Decidable.byContradiction fun e => hb (.inr (.inl ⟨e0, e⟩))
        have hn : x.op ≠ 46 → x.n = 0 := fun e0 => Decidable.byContradiction fun e => hb (.inr (.inr (.inl ⟨e0, e⟩)))
        have hn0 : 0 ≤ x.n := Decidable.byContradiction fun e => hb (.inr (.inr (.inr (by omega))))
        by_cases b1 : baseOp x.op
        · have h44 : x.op ≠ 44 := fun e => by rw [e] at b1; revert b1; decide
          have h46 : x.op ≠ 46 := fun e => by rw [e] at b1; revert b1; decide
          rw [kEnd_base hx b1, if_pos ⟨hn h46, hs h44, ht⟩]
          exact ke_base a n c q x.op x.n x.s x.t w h.max hq d0 d1 d2 d3 b1 (hn h46) (hs h44) ht
        by_cases b2 : x.op = 44
        · have h46 : x.op ≠ 46 := by omega
          have e : kEnd P q = if nameFault x.s = 0 then ((q + 1 : Nat) : Int) else -1 := by
            rw [kEnd_ent hx b2]
            by_cases hf : nameFault x.s = 0
            · rw [if_pos hf, if_pos ⟨hn h46, hf, ht⟩]
            · rw [if_neg hf, if_neg (fun q => hf q.2.1)]
          rw [e]
          exact ke_ent a n c q x.op x.n x.s x.t w h.max hq d0 d1 d2 d3 hok.s b2 (hn h46) ht
        by_cases b3 : x.op = 45
        · exact ke_set P m a n c q w ih h hq hm x hx b3 (hn (by omega)) (hs (by omega)) ht
        by_cases b4 : x.op = 46
        · exact ke_rec P m a n c q w ih h hq hm x hx b4 hn0 (hs (by omega)) ht
        rw [kEnd_else hx b1 b2 b3 b4]
        exact ke_else a n c q x.op x.n x.s x.t w h.max hq d0 d1 d2 d3 b1 b2 b3 b4
    · exact ke_out P A n c q w h.len (by omega)
theorem ref_End {P : List Nd} {A : Option Addr} {n c : Nat} {w : World} (h : Ns w A n c P) (q : Nat) : Calls Tryz.prog 131 #[.slice A n c, .int .i64 q] w fun e w' => e = .returned (.int .i64 (kEnd P q)) ∧ Below w.heap.size w w' :=
  ref_KindEnd P A n c n q w h (Nat.sub_le _ _)
theorem ref_KindFault (A : Option Addr) (n c : Nat) (P : List Nd) (w : World) (h : Ns w A n c P) :
    Calls Tryz.prog 128 #[.slice A n c] w fun e w' => e = .returned (.int .i64 (kindFault P)) ∧ Below w.heap.size w w' := by
  have HL := Lib.hid h.len
  have hm := h.max
  unfold maxLen at hm
  have K := Lib.hid (ref_End h 0)
  by_cases h200 : 200 < n
  · have HF := Lib.hid (show kindFault P = 4 by unfold kindFault; rw [if_pos (by rw [← HL.out]; exact h200)])
    have f1 : decide (200 < (n : Int)) = true := decide_eq_true (by omega)
    clear h K h200
    go_enter Tryz.func128, Tryz.ntmps128
    go_wp2_with fail
    go_ret
    exact ⟨by rw [HF.out]; rfl, Below.refl _ _⟩
  · have f1 : decide (200 < (n : Int)) = false := decide_eq_false (by omega)
    by_cases hk : kEnd P 0 = (P.length : Int)
    · have HF := Lib.hid (show kindFault P = 0 by unfold kindFault; rw [if_neg (by rw [← HL.out]; exact h200), if_pos (kEnd_all.1 hk)])
      rw [hk, ← HL.out] at K
      clear h h200 hk
      go_enter Tryz.func128, Tryz.ntmps128
      go_wp2_with fail
      refine (K.out).mono ?_
      rintro e w1 ⟨rfl, b1⟩
      have B1 := Lib.hid b1
      clear b1
      go_wp2_with fail
      go_ret
      exact ⟨by rw [HF.out]; rfl, B1.out⟩
    · have HF := Lib.hid (show kindFault P = 1 by unfold kindFault; rw [if_neg (by rw [← HL.out]; exact h200), if_neg (fun q => hk (kEnd_all.2 q))])
      have f2 : (kEnd P 0 == (n : Int)) = false := beq_eq_false_iff_ne.2 (by rw [HL.out]; exact hk)
      have f3 : (kEnd P 0 != (n : Int)) = true := by rw [bne_iff_ne, HL.out]; exact hk
      generalize kEnd P 0 = r at *
      clear h h200 hk
      go_enter Tryz.func128, Tryz.ntmps128
      go_wp2_with fail
      refine (K.out).mono ?_
      rintro e w1 ⟨rfl, b1⟩
      have B1 := Lib.hid b1
      clear b1
      go_wp2_with fail
      go_ret
      exact ⟨by rw [HF.out]; rfl, B1.out⟩

/-- A slice that holds numbers. -/
def IntsIn (w : World) (A : Option Addr) (E : List Nat) : Prop := ∀ (k e : Nat), E[k]? = some e → ∃ a, A = some a ∧ w.cell? (a.add k) = some (.int .i64 (e : Int))
theorem IntsIn.keep {w w' : World} {A : Option Addr} {E : List Nat} (h : IntsIn w A E) (hb : Below w.heap.size w w') : IntsIn w' A E := fun k e he => by
  obtain ⟨a, q1, q2⟩ := h k e he
  exact ⟨a, q1, cell_keep hb q2⟩
def intCs (E : List Nat) : List Value := E.map fun e : Nat => Value.int .i64 (e : Int)
theorem ints_in_own {w : World} {B : Nat} {v : Value} {E : List Nat} (h : w.ownsRow B 3 1 v E.length (intCs E)) : ∃ A c, v = .slice A E.length c ∧ E.length ≤ c ∧ IntsIn w A E := by
  rcases h.2 with ⟨rfl, h0⟩ | ⟨g, cap, cur, rfl, _, _, hc, _⟩
  · have : E = [] := List.eq_nil_of_length_eq_zero h0
    subst this
    exact ⟨none, 0, rfl, Nat.le_refl _, fun k x hx => by simp at hx⟩
  · refine ⟨some ⟨g, 0, none⟩, cap, rfl, hc, fun k x hx => ⟨_, rfl, h.cells (g := g) rfl _ _ ?_⟩⟩
    unfold intCs; rw [List.getElem?_map, hx]; rfl
theorem intInf : (Tryz.prog.info? 3).map (fun i => (i.zero, i.size, i.bytes)) = some (some (.int .i64 0), 1, 8) := by kernel_rfl
theorem own_int1 {w1 : World} {B : Nat} {v' : Value} {E : List Nat} {x : Nat} (h : w1.ownsRow B 3 1 v' (E.length + 1) (intCs E ++ [.int .i64 (x : Int)])) :
    w1.ownsRow B 3 1 v' (E ++ [x]).length (intCs (E ++ [x])) := by
  rw [show intCs (E ++ [x]) = intCs E ++ [.int .i64 (x : Int)] by simp [intCs], List.length_append]
  exact h
theorem one_int (n : Int) : ∀ u ∈ [Value.int .i64 n], u.oneCell' = true := by
  intro u hu; simp only [List.mem_cons, List.not_mem_nil, or_false] at hu; subst hu; rfl
set_option maxHeartbeats 1000000 in
theorem ref_FieldsOf (f : Fl) (hv : f.validFrom emp) (A : Option Addr) (n c : Nat) (w : World) (h : Ns w A n c (Kd.fs f).flat) (hl : n ≤ 4000) :
    Calls Tryz.prog 82 #[.slice A n c] w fun e w' => ∃ A' c', e = .returned (.slice A' f.len c') ∧ f.len ≤ c' ∧ IntsIn w' A' (posF 1 f) ∧ Below w.heap.size w w' := by
  obtain ⟨i0, hi, hz0, hz1, hz2⟩ := info_parts intInf
  obtain ⟨a, rfl, d0, d1, d2, d3⟩ := h.at_ 0 ⟨46, f.len, emp, emp⟩ rfl
  rw [show a.add (0 * 4) = a from rfl] at d0 d1 d2 d3
  simp only at d0 d1 d2 d3
  have hn1 : 1 ≤ n := by rw [h.len]; simp [Kd.flat]
  have hfl : f.len ≤ n := by
    rw [h.len, Kd.flat, List.length_cons]
    have : ∀ g : Fl, g.len ≤ g.flat.length := fun g => by
      induction g using Fl.rec (motive_1 := fun _ => True) with
      | nil => exact Nat.zero_le _
      | cons s m k r _ ih => simp only [Fl.len, Fl.flat, List.length_cons, List.length_append]; omega
      | _ => trivial
    have := this f
    omega
  have K := Lib.hid (fun (q : Nat) w' (hb : Below w.heap.size w w') => ref_End (h.keep hb) q)
  have HLn := Lib.hid h.len
  have HS := Lib.hid (KLeft.start hv)
  have HPL := Lib.hid (posF_len f 1)
  generalize (Kd.fs f).flat = t at *
  clear h hv d0 d2 d3
  go_enter Tryz.func82, Tryz.ntmps82
  go_wp2_with fail
  go_loopw [3, 4, 5] (fun v at_ i wr => ∃ (k p : Nat) (E : List Nat) (g : Fl), at_ = .int .i64 p ∧ i = .int .i64 k ∧ k + g.len = f.len ∧ E.length = k ∧ p ≤ n ∧ Hid (posF 1 f = E ++ posF p g) ∧ Hid (KLeft t p g) ∧ Hid (wr.ownsRow w.heap.size 3 1 v E.length (intCs E)) ∧ Hid (Below w.heap.size w wr)) (fun _ _ i _ => f.len - (intOf i).toNat)
  case atStart => exact ⟨0, 1, [], f, rfl, rfl, by omega, rfl, hn1, rfl, HS.out, World.ownsRow_nil _ _ _ _, Below.refl _ _⟩
  case round =>
    obtain ⟨k, p, E, g, rfl, rfl, hk, hE, hp, hP, hL, hown, hB⟩ := hrel
    have e1 := cell_keep hB.out d1
    by_cases hlt : k < f.len
    · obtain ⟨s, m, kk, r, rfl⟩ : ∃ s m kk r, g = .cons s m kk r := by
        cases g with
        | nil => simp [Fl.len] at hk; omega
        | cons s m kk r => exact ⟨s, m, kk, r, rfl⟩
      obtain ⟨hf, hL2⟩ := hL.out.head
      have hle := hf.le
      rw [← HLn.out] at hle
      have HE := Lib.hid hf.end_
      have HL2 := Lib.hid hL2
      have HP2 := Lib.hid (show posF 1 f = (E ++ [p]) ++ posF (p + 1 + kk.flat.length) r by rw [hP.out]; simp [posF])
      have hk2 : k + 1 + r.len = f.len := by simp only [Fl.len] at hk; omega
      generalize kk.flat.length = ln at *
      clear hf hL hL2 hP hk
      go_wp2_with (at_builtin; refine wpList_append_own _ rfl _ _ 143 rfl w.heap.size 3 i0 _ 1 8 Tryz.underlying143 hi hz0 hz1 hz2 rfl (by decide) _ E.length (intCs E) rfl (hown.out.alloc _) ⟨_, 0, none⟩ 1 1 [.int .i64 (p : Int)] rfl rfl (cells_new _ _ _) (one_int _) (by unfold maxLen; omega) (by omega) ?c5 ?_)
      case c5 => have := hB.out.size; simp; omega
      intro v1 w1 hown1 hgrow1 _
      have B1 := Lib.hid (below_append hB.out (Nat.le_refl _) hown.out _ hgrow1)
      have O1 := Lib.hid (own_int1 (E := E) (x := p) (by rw [hE]; exact hown1))
      clear hown hB hown1 hgrow1 e1
      have CK := Lib.hid (K.out (p + 1) w1 B1.out)
      rw [HE.out] at CK
      go_wp2_with fail
      refine (CK.out).mono ?_
      rintro e w2 ⟨rfl, b2⟩
      have B2 := Lib.hid (B1.out.trans (b2.mono B1.out.size))
      have O2 := Lib.hid (own_kept_below O1.out b2)
      clear b2 B1 O1 HE CK
      go_wp2_with fail
      go_roundw
      case rel => exact ⟨k + 1, p + 1 + ln, E ++ [p], r, rfl, by go_num, by omega, by simp; omega, by omega, HP2, HL2, O2, B2⟩
      case measure => simp [intOf]; omega
    · obtain rfl : g = .nil := by
        cases g with
        | nil => rfl
        | cons s m kk r => simp [Fl.len] at hk; omega
      have HPE := Lib.hid (show posF 1 f = E by rw [hP.out]; simp [posF])
      have hkf : k = f.len := by omega
      obtain ⟨A', c', hv', hc', hint⟩ := ints_in_own hown.out
      subst hv'
      have HI := Lib.hid hint
      have hEl : E.length = f.len := by omega
      rw [hEl] at *
      clear hL hP hown hint
      go_wp2_with fail
      go_ret
      exact ⟨A', c', rfl, by omega, by rw [HPE.out]; exact HI.out, hB.out⟩
set_option maxHeartbeats 1000000 in
theorem ref_FieldKind (f : Fl) (hv : f.validFrom emp) (A : Option Addr) (n c : Nat) (s : ByteArray) (w : World) (h : Ns w A n c (Kd.fs f).flat) (hl : n ≤ 4000) (hs : s.size ≤ maxLen) :
    Calls Tryz.prog 80 #[.slice A n c, .string s] w fun e w' => e = .returned (.int .i64 (posOf 1 f s)) ∧ Below w.heap.size w w' := by
  have FO := Lib.hid (ref_FieldsOf f hv A n c w h hl)
  have HN := Lib.hid h
  have HS := Lib.hid (KLeft.start hv)
  have hfn : f.len < n := by
    rw [h.len, Kd.flat, List.length_cons]
    have : ∀ g : Fl, g.len ≤ g.flat.length := fun g => by
      induction g using Fl.rec (motive_1 := fun _ => True) with
      | nil => exact Nat.zero_le _
      | cons s m k r _ ih => simp only [Fl.len, Fl.flat, List.length_cons, List.length_append]; omega
      | _ => trivial
    have := this f
    omega
  have HPL := Lib.hid (posF_len f 1)
  generalize (Kd.fs f).flat = t at *
  clear h hv
  go_enter Tryz.func80, Tryz.ntmps80
  go_wp2_with fail
  refine (FO.out).mono ?_
  rintro e w1 ⟨A', c', rfl, hc', hI, b1⟩
  have B1 := Lib.hid b1
  have HI := Lib.hid hI
  clear b1 hI FO
  go_wp2_with fail
  go_loopw [6] (fun i wr => ∃ (k p : Nat) (g : Fl), i = .int .i64 k ∧ k + g.len = f.len ∧ Hid (posF p g = (posF 1 f).drop k) ∧ Hid (posOf 1 f s = posOf p g s) ∧ Hid (KLeft t p g) ∧ Hid (Below w1.heap.size w1 wr)) (fun i _ => f.len - (intOf i).toNat)
  case atStart => exact ⟨0, 1, f, rfl, by omega, rfl, rfl, HS.out, Below.refl _ _⟩
  case round =>
    obtain ⟨k, p, g, rfl, hk, hP, hQ, hL, hB⟩ := hrel
    have BW := Lib.hid (B1.out.trans (hB.out.mono B1.out.size))
    by_cases hlt : k < f.len
    · obtain ⟨u, m, kk, r, rfl⟩ : ∃ s m kk r, g = .cons s m kk r := by
        cases g with
        | nil => simp [Fl.len] at hk; omega
        | cons s m kk r => exact ⟨s, m, kk, r, rfl⟩
      obtain ⟨hf, hL2⟩ := hL.out.head
      have hle := hf.le
      rw [← HN.out.len] at hle
      have hpe : (posF 1 f)[k]? = some p := by
        have := congrArg (fun l => l[0]?) hP.out
        simp only [posF, List.getElem?_cons_zero, List.getElem?_drop, Nat.add_zero] at this
        exact this.symm
      obtain ⟨ai, rfl, hci⟩ := (HI.out.keep hB.out) k p hpe
      obtain ⟨a, rfl, d0, d1, d2, d3⟩ := (HN.out.keep BW.out).at_ p _ hf.nd
      have HP2 := Lib.hid (show posF (p + 1 + kk.flat.length) r = (posF 1 f).drop (k + 1) by
        have := congrArg (List.drop 1) hP.out
        rw [List.drop_drop] at this
        simpa [posF] using this)
      have HL2 := Lib.hid hL2
      have hk2 : k + 1 + r.len = f.len := by simp only [Fl.len] at hk; omega
      simp only [fldNd] at d0 d1 d2 d3
      have hpn : p < n := by omega
      clear hf hL hL2 hP hk hpe d0 d1 d3
      by_cases hus : u = s
      · subst hus
        have HR := Lib.hid (show posOf 1 f u = (p : Int) by rw [hQ.out]; simp [posOf])
        clear hQ
        go_wp2_with fail
        go_ret
        exact ⟨by rw [HR.out]; rfl, BW.out⟩
      · have HR := Lib.hid (show posOf 1 f s = posOf (p + 1 + kk.flat.length) r s by rw [hQ.out]; simp [posOf, hus])
        have f2 : (u.toList == s.toList) = false := beq_eq_false_iff_ne.2 (fun e => hus (toList_inj e))
        clear hQ hus
        go_wp2_with fail
        go_roundw
        case rel => exact ⟨k + 1, _, r, by go_num, hk2, HP2, HR, HL2, hB⟩
        case measure => simp [intOf]; omega
    · obtain rfl : g = .nil := by
        cases g with
        | nil => rfl
        | cons s m kk r => simp [Fl.len] at hk; omega
      have HR := Lib.hid (show posOf 1 f s = -1 by rw [hQ.out]; rfl)
      clear hQ hP hL
      go_wp2_with fail
      go_ret
      exact ⟨by rw [HR.out]; rfl, BW.out⟩
/-- What PartKind tells of the field at q. -/
theorem ref_PartKind (t : List Nd) (q : Nat) (s : ByteArray) (m : Bool) (k : Kd) (hf : KFld t q s m k) (a : Addr) (n c : Nat) (w : World) (h : Ns w (some a) n c t) :
    Calls Tryz.prog 81 #[.slice (some a) n c, .int .i64 q] w fun e w' => e = .returned (.slice (some (a.add ((q + 1) * 4))) k.flat.length (c - (q + 1))) ∧ Below w.heap.size w w' := by
  have K := Lib.hid (ref_End h (q + 1))
  rw [hf.end_] at K
  have hle := hf.le
  rw [← h.len] at hle
  have hc := h.cap
  have hm := h.max
  unfold maxLen at hm
  have hpos := flat_pos k
  generalize k.flat.length = ln at *
  have hq1 : q + 1 < c := by omega
  clear h hf
  go_enter Tryz.func81, Tryz.ntmps81
  go_wp2_with fail
  refine (K.out).mono ?_
  rintro e w1 ⟨rfl, b1⟩
  have B1 := Lib.hid b1
  clear b1
  go_wp2_with fail
  all_goals first
    | (exfalso; omega)
    | (go_ret; exact ⟨by show Ending.returned (Value.slice _ (q + 1 + ln - (q + 1)) _) = _; rw [show q + 1 + ln - (q + 1) = ln by omega], B1.out⟩)
theorem part_ns {t : List Nd} {q : Nat} {s : ByteArray} {m : Bool} {k : Kd} (hf : KFld t q s m k) {a : Addr} {n c : Nat} {w : World} (h : Ns w (some a) n c t) : Ns w (some (a.add ((q + 1) * 4))) k.flat.length (c - (q + 1)) k.flat := by
  have hle := hf.le
  have := ns_seg h (i := q + 1) (j := q + 1 + k.flat.length) (by omega) (by rw [h.len]; exact hle)
  rw [hf.seg, show q + 1 + k.flat.length - (q + 1) = k.flat.length by omega] at this
  exact this
end Go.Proofs.YtnolmlhcikcceaaGreatDoor
namespace Go.Proofs.YtnolmlhcikcceaaGreatDoor
open Go.RowKit Go.Wk Go.Sort
set_option maxRecDepth 100000

/-- These cells stand from an address on. -/
def Row0 (w : World) (a : Addr) (u : List Value) : Prop := ∀ (j : Nat) (x : Value), u[j]? = some x → w.cell? (a.add j) = some x
mutual
/-- The cells of a type; what they lead to lies in blocks of B. -/
def KAt (w : World) (B : Nat → Prop) : Kd → List Value → Prop
  | .base x, v => ∃ n : Int, v = [.int .i64 x, .int .i64 n, .string emp, .string emp, .pointer none, .slice none 0 0]
  | .ent s, v => ∃ n : Int, v = [.int .i64 44, .int .i64 n, .string s, .string emp, .pointer none, .slice none 0 0]
  | .set q, v => ∃ (n : Int) (b : Nat) (u : List Value), v = [.int .i64 45, .int .i64 n, .string emp, .string emp, .pointer (some ⟨b, 0, none⟩), .slice none 0 0] ∧ B b ∧ Row0 w ⟨b, 0, none⟩ u ∧ KAt w B q u
  | .fs f, v => ∃ (n : Int) (A : Option Addr) (c : Nat), v = [.int .i64 46, .int .i64 n, .string emp, .string emp, .pointer none, .slice A f.len c] ∧ f.len ≤ c ∧ c ≤ maxLen ∧ FAt w B A 0 f
/-- The fields of a record's type, from the i-th place of a row on. -/
def FAt (w : World) (B : Nat → Prop) : Option Addr → Nat → Fl → Prop
  | _, _, .nil => True
  | A, i, .cons s m k r => (∃ (a : Addr) (u : List Value), A = some a ∧ B a.block ∧ Row0 w (a.add (i * 8)) (.string s :: .bool m :: u) ∧ KAt w B k u) ∧ FAt w B A (i + 1) r
end
theorem Row0.cong {w w' : World} {a : Addr} {u : List Value} (h : Row0 w a u) (hb : w'.heap[a.block]? = w.heap[a.block]?) : Row0 w' a u := fun j x hx => by
  have := h j x hx
  rw [← this]
  exact World.cell?_of_block (by rw [add_block]; exact hb)
theorem kat_cong {w w' : World} {B : Nat → Prop} (hB : ∀ b, B b → w'.heap[b]? = w.heap[b]?) : ∀ (n : Nat), (∀ k v, k.sz ≤ n → KAt w B k v → KAt w' B k v) ∧ (∀ f A i, f.sz ≤ n → FAt w B A i f → FAt w' B A i f)
  | 0 => by
    refine ⟨fun k v h => by cases k <;> simp [Kd.sz] at h, fun f A i h hf => ?_⟩
    cases f with
    | nil => trivial
    | cons s m k r => simp [Fl.sz] at h
  | n + 1 => by
    obtain ⟨ihK, ihF⟩ := kat_cong hB n
    refine ⟨fun k v h hk => ?_, fun f A i h hf => ?_⟩
    · cases k with
      | base x => exact hk
      | ent s => exact hk
      | set q =>
        simp only [Kd.sz] at h
        obtain ⟨m, b, u, e, h1, h2, h3⟩ := hk
        exact ⟨m, b, u, e, h1, h2.cong (hB b h1), ihK q u (by omega) h3⟩
      | fs f =>
        simp only [Kd.sz] at h
        obtain ⟨m, A, c, e, h1, h2, h3⟩ := hk
        exact ⟨m, A, c, e, h1, h2, ihF f A 0 (by omega) h3⟩
    · cases f with
      | nil => trivial
      | cons s m k r =>
        simp only [Fl.sz] at h
        obtain ⟨⟨a, u, e, h1, h2, h3⟩, h4⟩ := hf
        exact ⟨⟨a, u, e, h1, h2.cong (by rw [add_block]; exact hB _ h1), ihK k u (by omega) h3⟩, ihF r A (i + 1) (by omega) h4⟩
theorem kat_mono {w : World} {B B' : Nat → Prop} (hB : ∀ b, B b → b < w.heap.size → B' b) : ∀ (n : Nat), (∀ k v, k.sz ≤ n → KAt w B k v → KAt w B' k v) ∧ (∀ f A i, f.sz ≤ n → FAt w B A i f → FAt w B' A i f)
  | 0 => by
    refine ⟨fun k v h => by cases k <;> simp [Kd.sz] at h, fun f A i h hf => ?_⟩
    cases f with
    | nil => trivial
    | cons s m k r => simp [Fl.sz] at h
  | n + 1 => by
    obtain ⟨ihK, ihF⟩ := kat_mono hB n
    refine ⟨fun k v h hk => ?_, fun f A i h hf => ?_⟩
    · cases k with
      | base x => exact hk
      | ent s => exact hk
      | set q =>
        simp only [Kd.sz] at h
        obtain ⟨m, b, u, e, h1, h2, h3⟩ := hk
        have hlt : b < w.heap.size := by
          have hu : ∃ x, u[0]? = some x := by
            cases q with
            | base x => obtain ⟨_, rfl⟩ := h3; exact ⟨_, rfl⟩
            | ent s => obtain ⟨_, rfl⟩ := h3; exact ⟨_, rfl⟩
            | set q => obtain ⟨_, _, _, rfl, _⟩ := h3; exact ⟨_, rfl⟩
            | fs f => obtain ⟨_, _, _, rfl, _⟩ := h3; exact ⟨_, rfl⟩
          obtain ⟨x, hx⟩ := hu
          exact block_lt_of_cell (h2 0 x hx)
        exact ⟨m, b, u, e, hB b h1 hlt, h2, ihK q u (by omega) h3⟩
      | fs f =>
        simp only [Kd.sz] at h
        obtain ⟨m, A, c, e, h1, h2, h3⟩ := hk
        exact ⟨m, A, c, e, h1, h2, ihF f A 0 (by omega) h3⟩
    · cases f with
      | nil => trivial
      | cons s m k r =>
        simp only [Fl.sz] at h
        obtain ⟨⟨a, u, e, h1, h2, h3⟩, h4⟩ := hf
        have hlt : a.block < w.heap.size := by
          have := block_lt_of_cell (h2 0 _ rfl)
          rwa [add_block, add_block] at this
        exact ⟨⟨a, u, e, hB _ h1 hlt, h2, ihK k u (by omega) h3⟩, ihF r A (i + 1) (by omega) h4⟩
theorem KAt.cong {w w' : World} {B : Nat → Prop} {k : Kd} {v : List Value} (h : KAt w B k v) (hB : ∀ b, B b → w'.heap[b]? = w.heap[b]?) : KAt w' B k v := (kat_cong hB _).1 k v (Nat.le_refl _) h
theorem KAt.mono {w : World} {B B' : Nat → Prop} {k : Kd} {v : List Value} (h : KAt w B k v) (hB : ∀ b, B b → b < w.heap.size → B' b) : KAt w B' k v := (kat_mono hB _).1 k v (Nat.le_refl _) h
theorem FAt.cong {w w' : World} {B : Nat → Prop} {A : Option Addr} {i : Nat} {f : Fl} (h : FAt w B A i f) (hB : ∀ b, B b → w'.heap[b]? = w.heap[b]?) : FAt w' B A i f := (kat_cong hB _).2 f A i (Nat.le_refl _) h
theorem FAt.mono {w : World} {B B' : Nat → Prop} {A : Option Addr} {i : Nat} {f : Fl} (h : FAt w B A i f) (hB : ∀ b, B b → b < w.heap.size → B' b) : FAt w B' A i f := (kat_mono hB _).2 f A i (Nat.le_refl _) h

/-- kinds' reader: the nodes that are left. -/
structure RdK (w : World) (R : Nat) (Q : List Nd) : Prop where
  c0 : ∃ (A : Option Addr) (n c : Nat), w.cell? ⟨R, 0, none⟩ = some (.slice A n c) ∧ Ns w A n c Q ∧ (0 < Q.length → ∀ a, A = some a → a.block < R)
  f0 : w.frozen? ⟨R, 0, none⟩ = false
theorem RdK.keep {w w' : World} {R : Nat} {Q : List Nd} (h : RdK w R Q) (hb : Below w.heap.size w w') : RdK w' R Q := by
  obtain ⟨⟨A, n, c, h1, h2, h3⟩, h4⟩ := h
  exact ⟨⟨A, n, c, cell_keep hb h1, h2.keep hb, h3⟩, (hb.frozen (p := ⟨R, 0, none⟩) (block_lt_of_cell h1)).trans h4⟩
abbrev kwrong : List PanicEntry := [{ v := .iface 198 (.agg #[]), recovered := false }]
/-- What node tells. -/
def NodePost (w : World) (R : Nat) : List Nd → Ending → World → Prop
  | [], e, w' => e = .panicked kwrong ∧ w.grownBy w' (some R)
  | x :: r, e, w' => e = .returned (ndV x) ∧ RdK w' R r ∧ w.grownBy w' (some R)
theorem ns_tail {w : World} {a : Addr} {n c : Nat} {x : Nd} {r : List Nd} (h : Ns w (some a) n c (x :: r)) : Ns w (some (a.add 4)) (n - 1) (c - 1) r := by
  have hl := h.len
  have hc := h.cap
  have hm := h.max
  rw [List.length_cons] at hl
  refine ⟨by omega, by omega, by omega, fun k y hy => ?_, fun y hy => h.ok y (by simp [hy])⟩
  obtain ⟨b, e, q0, q1, q2, q3⟩ := h.at_ (k + 1) y (by simpa using hy)
  injection e with e
  subst e
  refine ⟨_, rfl, ?_⟩
  rw [add_add, show 4 + k * 4 = (k + 1) * 4 by omega]
  exact ⟨q0, q1, q2, q3⟩
theorem kind_node (R : Nat) (Q : List Nd) (w : World) (h : RdK w R Q) :
    Calls Tryz.prog 154 #[.pointer (some ⟨R, 0, none⟩)] w (NodePost w R Q) := by
  obtain ⟨⟨A, n, c, e0, hns0, hap⟩, g0⟩ := h
  have hlt : R < w.heap.size := block_lt_of_cell e0
  have hb := below_box w (.cells #[.int .i64 0, .int .i64 0, .string ⟨#[]⟩, .string ⟨#[]⟩] 35)
  have c0 := cell_keep hb e0
  have f0 := (hb.frozen (p := ⟨R, 0, none⟩) hlt).trans g0
  have hns := hns0.keep hb
  have hne : R ≠ w.heap.size := by omega
  have hne2 : w.heap.size ≠ R := by omega
  clear hb
  cases Q with
  | nil =>
    have hn : n = 0 := hns.len
    subst hn
    clear hns hns0 hap
    go_enter Tryz.func154, Tryz.ntmps154
    go_wp2_with fail
    exact ⟨rfl, rfl, grown_of_below (below_box w _) _⟩
  | cons x r =>
    have HN := Lib.hid hns.len
    have hc := hns.cap
    have hm := hns.max
    unfold maxLen at hm
    have hn1 : 1 ≤ n := by rw [hns.len, List.length_cons]; omega
    obtain ⟨a, rfl, q0, q1, q2, q3⟩ := hns.at_ 0 x rfl
    rw [show a.add (0 * 4) = a from rfl] at q0 q1 q2 q3
    have HNS0 := Lib.hid hns0
    have HAL := Lib.hid (hap (by simp) a rfl)
    have HAP := Lib.hid (Nat.ne_of_lt HAL.out)
    clear hns hns0 hap
    go_enter Tryz.func154, Tryz.ntmps154
    go_wp2_with fail
    all_goals
      rename_i h1
      have hg : ∀ v o1 o2, w.grownBy (((w.setCell ⟨R, 0, none⟩ v).alloc o1).alloc o2) (some R) := fun v o1 o2 => grown_alloc (grown_alloc (grown_setCell w ⟨R, 0, none⟩ v) o1) o2
      have hc0 : ∀ v o1 o2, (((w.setCell ⟨R, 0, none⟩ v).alloc o1).alloc o2).cell? ⟨R, 0, none⟩ = some v := fun v o1 o2 => cell_keep (below_box _ _) (cell_keep (below_box _ _) (World.cell?_setCell_same _ _ _ e0))
      have hf0 : ∀ v o1 o2, (((w.setCell ⟨R, 0, none⟩ v).alloc o1).alloc o2).frozen? ⟨R, 0, none⟩ = false := fun v o1 o2 => by
        rw [((below_box _ _).frozen (p := ⟨R, 0, none⟩) (by simp [World.setCell]; omega)), ((below_box _ _).frozen (p := ⟨R, 0, none⟩) (by simp [World.setCell]; omega)), World.frozen?_setCell]
        exact g0
    · have hr0 : r = [] := List.eq_nil_of_length_eq_zero (by have := HN.out; rw [List.length_cons] at this; omega)
      subst hr0
      refine bodyPost_ret (v := ndV x) (by simp [results, Tryz.results154, go_sem, ndV]) rfl ⟨rfl, ⟨⟨_, _, _, hc0 _ _ _, ⟨by have := HN.out; simp at this; simp; omega, by omega, by unfold maxLen; omega, (fun k x hx => by simp at hx), (fun x hx => nomatch hx)⟩, fun h => absurd h (by simp)⟩, hf0 _ _ _⟩, hg _ _ _⟩
    · refine bodyPost_ret (v := ndV x) (by simp [results, Tryz.results154, go_sem, ndV]) rfl ⟨rfl, ⟨⟨_, _, _, hc0 _ _ _, by simpa [Addr.add] using (ns_tail HNS0.out).but (hg _ _ _) (fun _ b e => by injection e with e; subst e; exact HAP.out), fun _ b e => by injection e with e; subst e; exact HAL.out⟩, hf0 _ _ _⟩, hg _ _ _⟩
end Go.Proofs.YtnolmlhcikcceaaGreatDoor
