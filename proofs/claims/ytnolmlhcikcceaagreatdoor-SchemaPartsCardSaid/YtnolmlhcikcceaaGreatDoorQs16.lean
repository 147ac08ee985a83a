/-
  byteStringReplacer's Replace at the table of quotes.
  name.Quote: a text between quotes.
  strings.Builder: WriteByte, WriteString, String: the library's contracts, laid.
  name.Unquote: what was quoted.
  The library's variable internal/bytealg.MaxLen: it holds some number.
  name.Write, name.Read.
  Aids of later walks: a node's four cells; contracts that end in Below, met in a region that draws.
  Slices of slices of nodes: how they lie; those that a call collects; slices.Clone of nodes.
  val.split: the parts of a set or a record, in new slices.
-/
import Derived.Deep.RegionLaw
import Derived.Laws.CopyOwn
import Derived.Shelf.Strings.Builder1
import Derived.Shelf.Strings.BuilderK
import Derived.Shelf.Strings.BuilderCap
import Derived.Shelf.Lay
import Derived.Shelf.Vars
import Derived.Maps.AppendAt
import Derived.Test.YtnolmlhcikcceaaGreatDoorProg
import Derived.Test.YtnolmlhcikcceaaGreatDoorQs15
namespace Go.Proofs.YtnolmlhcikcceaaGreatDoor
open Go.RowKit Go.Wk
set_option maxRecDepth 100000

/-- How many bytes want a sign ahead. -/
def cntQ (l : List UInt8) : Nat := l.count 34 + l.count 92
theorem cntQ_le (l : List UInt8) : cntQ l ≤ 2 * l.length := by
  have h1 := List.count_le_length (a := (34 : UInt8)) (l := l)
  have h2 := List.count_le_length (a := (92 : UInt8)) (l := l)
  unfold cntQ; omega
theorem cntQ_succ (s : ByteArray) {k : Nat} (h : k < s.size) : cntQ (s.data.toList.take (k + 1)) = cntQ (s.data.toList.take k) + if s[k].toNat = 34 ∨ s[k].toNat = 92 then 1 else 0 := by
  have h' : k < s.data.toList.length := by simpa using h
  have e : s.data.toList.take (k + 1) = s.data.toList.take k ++ [s[k]] := by rw [List.take_succ_eq_append_getElem h']; rfl
  have t34 : s[k] = 34 ↔ s[k].toNat = 34 := ⟨fun e => by rw [e]; rfl, fun e => UInt8.toNat_inj.1 e⟩
  have t92 : s[k] = 92 ↔ s[k].toNat = 92 := ⟨fun e => by rw [e]; rfl, fun e => UInt8.toNat_inj.1 e⟩
  unfold cntQ
  rw [e, List.count_append, List.count_append, List.count_singleton, List.count_singleton]
  by_cases h1 : s[k] = 34
  · have : s[k].toNat = 34 := t34.1 h1
    simp [h1]; omega
  · by_cases h2 : s[k] = 92
    · simp [h2]; omega
    · have n1 : s[k].toNat ≠ 34 := fun e => h1 (t34.2 e)
      have n2 : s[k].toNat ≠ 92 := fun e => h2 (t92.2 e)
      simp [h1, h2, n1, n2]
theorem u8Info : (Tryz.prog.info? 5).map (fun i => (i.zero, i.size, i.bytes)) = some (some (.int .u8 0), 1, 1) := by kernel_rfl
theorem run_neq_slice_nil' (w : World) (a : Option Addr) (l c : Nat) : (binOp .neq 128 (.slice a l c) (.slice none 0 0)).run Tryz.prog w = .ok (.bool (!a.isNone)) w :=
  run_neq_slice_nil (P := Tryz.prog) w 128 5 a l c Tryz.underlying128
/-- A row of bytes of the call's own, as it lies. -/
def BufAt (w : World) (g : Nat) (cur : List Value) : Prop := w.heap[g]? = some (.cells cur.toArray 5 (0, 0))
theorem buf_new {w : World} {B g n : Nat} {xs : List Value} (h : w.ownsRow B 5 1 (.slice (some ⟨g, 0, none⟩) n n) n xs) : ∃ cur, BufAt w g cur ∧ cur.length = n := by
  rcases h.2 with ⟨h0, _⟩ | ⟨g', cap, cur, h1, h2, h3, h4, h5, h6⟩
  · cases h0
  · injection h1 with h1 _ h1c
    injection h1 with h1
    injection h1 with h1
    subst h1 h1c
    exact ⟨cur.toList, by unfold BufAt; simpa using h3, by simp; omega⟩
theorem BufAt.cell {w : World} {g : Nat} {cur : List Value} (h : BufAt w g cur) {m : Nat} {v : Value} (hm : cur[m]? = some v) : w.cell? ⟨g, m, none⟩ = some v := cell_row h (by simpa using hm)
theorem BufAt.thaw {w : World} {g : Nat} {cur : List Value} (h : BufAt w g cur) (m : Nat) : w.frozen? ⟨g, m, none⟩ = false := by
  unfold BufAt at h
  unfold World.frozen?
  rw [h]; simp
theorem BufAt.set {w : World} {g : Nat} {cur : List Value} (h : BufAt w g cur) (m : Nat) (v : Value) : BufAt (w.setCell ⟨g, m, none⟩ v) g (cur.set m v) := by
  unfold BufAt
  rw [setCell_eq_setRow w g m _ _ _ v h, setRow_heap w g _ _ _ _ h]
  simp
theorem set_take {α : Type} {l : List α} {m : Nat} (h : m < l.length) (v : α) : (l.set m v).take (m + 1) = l.take m ++ [v] := by
  rw [List.take_succ_eq_append_getElem (by simpa using h), List.getElem_set_self, List.take_set]
  congr 1
  exact List.set_eq_of_length_le (by simp; omega)
theorem splice_take {α : Type} (l : List α) (m : Nat) (cs : List α) (h : m + cs.length ≤ l.length) : (splice l m cs).take (m + cs.length) = l.take m ++ cs := by
  unfold splice
  rw [← List.append_assoc, List.take_left' (by simp; omega)]
def bvals (l : List UInt8) : List Value := l.map fun b => .int .u8 (b.toNat : Int)
theorem bvals_append (a b : List UInt8) : bvals (a ++ b) = bvals a ++ bvals b := List.map_append
theorem quo_step (s : ByteArray) {k : Nat} (h : k < s.size) : quo (s.data.toList.take (k + 1)) = quo (s.data.toList.take k) ++ if s[k].toNat = 34 ∨ s[k].toNat = 92 then [92, s[k]] else [s[k]] := by
  have h' : k < s.data.toList.length := by simpa using h
  have e : s.data.toList.take (k + 1) = s.data.toList.take k ++ [s[k]] := by rw [List.take_succ_eq_append_getElem h']; rfl
  have t34 : s[k] = 34 ↔ s[k].toNat = 34 := ⟨fun e => by rw [e]; rfl, fun e => UInt8.toNat_inj.1 e⟩
  have t92 : s[k] = 92 ↔ s[k].toNat = 92 := ⟨fun e => by rw [e]; rfl, fun e => UInt8.toNat_inj.1 e⟩
  rw [e, quo_append]
  congr 1
  by_cases h1 : s[k] = 34 ∨ s[k] = 92
  · rw [quo, if_pos h1, if_pos (h1.imp t34.1 t92.1)]; rfl
  · rw [quo, if_neg h1, if_neg (fun e => h1 (e.imp t34.2 t92.2))]; rfl
theorem quo_take_le (l : List UInt8) (k : Nat) : (quo (l.take k)).length ≤ (quo l).length := by
  conv => rhs; rw [← List.take_append_drop k l, quo_append]
  simp
theorem buf_string (w : World) (g : Nat) (s : ByteArray) (h : BufAt w g (bvals (quo s.data.toList))) :
    (convert 128 9 (.slice (some ⟨g, 0, none⟩) (quo s.data.toList).length (quo s.data.toList).length)).run Tryz.prog w = .ok (.string (bytesOf (quo s.data.toList))) w :=
  run_convert_bytes_back (P := Tryz.prog) _ 128 9 5 ⟨g, 0, none⟩ _ (quo s.data.toList) Tryz.underlying128 Tryz.underlying5 Tryz.underlying9 (fun j hj => by
    have e : (⟨g, 0, none⟩ : Addr).add j = ⟨g, j, none⟩ := by unfold Addr.add; split <;> simp_all
    rw [e]
    refine h.cell ?_
    unfold bvals
    rw [List.getElem?_map, List.getElem?_eq_getElem hj]; rfl)
theorem src_two {w w' : World} {P : Nat} {x y : Value} (hb : Below w.heap.size w w') (h : w.cell? ⟨P, 0, none⟩ = some x ∧ w.cell? ⟨P, 1, none⟩ = some y) : ∀ j v, [x, y][j]? = some v → w'.cell? ((⟨P, 0, none⟩ : Addr).add j) = some v := by
  intro j v hv
  rcases j with _ | _ | j
  · simp at hv; subst hv; exact cell_keep hb h.1
  · simp at hv; subst hv; exact cell_keep hb (by simpa [Addr.add] using h.2)
  · simp at hv
set_option maxHeartbeats 4000000 in
theorem repl_at (X T c : Nat) (f : Nat → Value) (s : ByteArray) (w : World) (R : RepAt w X f T c) (hs : s.size ≤ 60) :
    Calls Tryz.prog 271 #[.pointer (some ⟨X, 0, none⟩), .string s] w fun e w' => e = .returned (.string (bytesOf (quo s.data.toList))) ∧ Below w.heap.size w w' := by
  obtain ⟨i0, hi, hz0, hz1, hz2⟩ := info_parts u8Info
  have HR := Lib.hid R
  have c0 := R.tab.last
  have hl := size_toList s
  have n34 := List.count_le_length (a := (34 : UInt8)) (l := s.data.toList)
  have n92 := List.count_le_length (a := (92 : UInt8)) (l := s.data.toList)
  rw [hl] at n34 n92
  have K34 := Lib.hid (fun w => Tryz.strings_Count_one s 34 w)
  have K92 := Lib.hid (fun w => Tryz.strings_Count_one s 92 w)
  have EQ := Lib.hid (show cntQ s.data.toList = s.data.toList.count 34 + s.data.toList.count 92 from rfl)
  unfold Lib.countByte at K34 K92
  generalize s.data.toList.count 34 = a34 at *
  generalize s.data.toList.count 92 = a92 at *
  obtain ⟨P, d, ep, qp⟩ := R.q
  obtain ⟨Q, d', eq, qq⟩ := R.s
  have QP := Lib.hid qp
  have QQ := Lib.hid qq
  clear qp qq
  have p34 := R.tab.at_ 34 (by decide)
  have p92 := R.tab.at_ 92 (by decide)
  rw [ep] at p34
  rw [eq] at p92
  have P34 := Lib.hid p34
  have P92 := Lib.hid p92
  clear R p34 p92 ep eq
  go_enter Tryz.func271, Tryz.ntmps271
  by_cases h16 : 16 ≤ s.size
  · have hd : decide ((16 : Int) ≤ (s.size : Int)) = true := decide_eq_true (by omega)
    go_wp2_with fail
    clear c0
    go_loopw [5, 6, 8, 9, 32] (fun m y _ _ i wr => ((i = .int .i64 0 ∧ m = .int .i64 s.size ∧ y = .bool false) ∨ (i = .int .i64 1 ∧ m = .int .i64 ((s.size + a34 : Nat) : Int) ∧ y = .bool (decide (a34 ≠ 0))) ∨ (i = .int .i64 2 ∧ m = .int .i64 ((s.size + (a34 + a92) : Nat) : Int) ∧ y = .bool (decide (a34 + a92 ≠ 0)))) ∧ Hid (Below w.heap.size w wr)) (fun _ _ _ _ i _ => 2 - (intOf i).toNat)
    case atStart => exact ⟨.inl ⟨rfl, rfl, rfl⟩, Below.refl _ _⟩
    case round =>
      obtain ⟨hk, hB⟩ := hrel
      have R1 := Lib.hid (HR.out.keep hB.out)
      have r0 := R1.out.t0
      have r1 := R1.out.t1
      have q34 : ((⟨#[34]⟩ : ByteArray)[0]'(by decide)).toNat = 34 := rfl
      have q92 : ((⟨#[92]⟩ : ByteArray)[0]'(by decide)).toNat = 92 := rfl
      have p34 := cell_keep hB.out P34.out
      have p92 := cell_keep hB.out P92.out
      rcases hk with ⟨rfl, rfl, rfl⟩ | ⟨rfl, rfl, rfl⟩ | ⟨rfl, rfl, rfl⟩
      · go_wp2_with fail
        refine (K34.out wr).mono ?_
        rintro e w1 ⟨rfl, rfl⟩
        rcases a34 with _ | a
        · go_wp2_with fail
          go_roundw
          case rel => exact ⟨.inr (.inl ⟨rfl, rfl, rfl⟩), hB⟩
          case measure => simp [intOf]
        · go_wp2_with fail
          have k34 := cell_regrown p34
          refine wp_region_quiet_below (by kernel_rfl) (by kernel_rfl) ?_
          repeat (first | go_big_quiet_step (fail) | quiet_step (fail))
          refine wpQuiet_nil ?_
          intro w2 hw'
          have B2 := Lib.hid (show Below w1.heap.size w1 w2 by obtain ⟨⟨d, os⟩, rfl⟩ := hw'; exact below_regrown _ _ _)
          clear hw'
          have BX := bhid hB B2 (Nat.le_refl _)
          clear k34 hB B2 R1 r0 r1 p34 p92
          go_wp2_with fail
          go_roundw
          case rel => exact ⟨.inr (.inl ⟨rfl, by go_num, rfl⟩), BX⟩
          case measure => simp [intOf]
      · go_wp2_with fail
        refine (K92.out wr).mono ?_
        rintro e w1 ⟨rfl, rfl⟩
        rcases a92 with _ | a
        · go_wp2_with fail
          go_roundw
          case rel => exact ⟨.inr (.inr ⟨rfl, by simp, by simp⟩), hB⟩
          case measure => simp [intOf]
        · go_wp2_with fail
          have k92 := cell_regrown p92
          refine wp_region_quiet_below (by kernel_rfl) (by kernel_rfl) ?_
          repeat (first | go_big_quiet_step (fail) | quiet_step (fail))
          refine wpQuiet_nil ?_
          intro w2 hw'
          have B2 := Lib.hid (show Below w1.heap.size w1 w2 by obtain ⟨⟨d, os⟩, rfl⟩ := hw'; exact below_regrown _ _ _)
          clear hw'
          have BX := bhid hB B2 (Nat.le_refl _)
          clear k92 hB B2 R1 r0 r1 p34 p92
          go_wp2_with fail
          go_roundw
          case rel => exact ⟨.inr (.inr ⟨rfl, by go_num, by simp⟩), BX⟩
          case measure => simp [intOf]
      · have HQ := EQ
        clear K34 K92 R1 r0 r1 p34 p92 n34 n92
        generalize a34 + a92 = q at *
        rcases q with _ | q
        · have e0 : decide ((0 : Nat) ≠ 0) = false := rfl
          rw [e0]
          have Z := Lib.hid (show quo s.data.toList = s.data.toList from quo_none (by have := HQ.out; unfold cntQ at this; omega) (by have := HQ.out; unfold cntQ at this; omega))
          go_wp2_with fail
          go_ret
          exact ⟨by rw [Z.out, bytesOf_of]; rfl, hB.out⟩
        · have e0 : decide (q + 1 ≠ 0) = true := decide_eq_true (by omega)
          rw [e0]
          have hn : (quo s.data.toList).length = s.size + (q + 1) := by rw [quo_count, hl]; have := HQ.out; unfold cntQ at this; omega
          generalize s.size + (q + 1) = n at *
          have hn2 := (quo_length s.data.toList).2
          rw [hn, hl] at hn2
          have hn120 : n ≤ 120 := by omega
          have HN := Lib.hid hn
          have hsz := hB.out.size
          clear hn hn2 e0
          go_wp2_with (at_make; refine wpList_make_full _ rfl _ _ 128 rfl w.heap.size 5 i0 (.int .u8 0) 1 Tryz.underlying128 hi hz0 hz1 .i64 .i64 _ _ n rfl rfl rfl rfl (by rw [hz2]; omega) (by unfold maxLen; omega) hsz ?_; intro w0 hown0 hgrow0)
          obtain ⟨cur0, BF0, hcl0⟩ := buf_new hown0
          have B0 := Lib.hid (hB.out.trans ((grown_none hgrow0).mono hsz))
          have GB := Lib.hid (show w.heap.size ≤ wr.heap.size from hsz)
          generalize wr.heap.size = g at *
          clear hown0 hgrow0 hsz hB
          go_wp2_with fail
          go_loopw [13, 14, 15] (fun j i _ wr => ∃ (k m : Nat) (cur : List Value), k ≤ s.size ∧ i = .int .i64 k ∧ j = .int .i64 m ∧ Hid (m = (quo (s.data.toList.take k)).length) ∧ Hid (BufAt wr g cur) ∧ cur.length = n ∧ Hid (cur.take m = bvals (quo (s.data.toList.take k))) ∧ Hid (Below w.heap.size w wr)) (fun _ i _ _ => s.size - (intOf i).toNat)
          case atStart => exact ⟨0, 0, cur0, Nat.zero_le _, rfl, rfl, rfl, BF0, hcl0, rfl, B0⟩
          case round =>
            obtain ⟨k, m, cur, hk, rfl, rfl, hm, hBF, hcl, hcv, hB⟩ := hrel
            by_cases hlt : k < s.size
            · have hst := quo_step s hlt
              have hle := quo_take_le s.data.toList (k + 1)
              rw [HN.out] at hle
              have hb : s[k].toNat < 256 := UInt8.toNat_lt _
              have R1 := Lib.hid (HR.out.keep hB.out)
              have p34 := cell_keep hB.out P34.out
              have p92 := cell_keep hB.out P92.out
              have nq := run_neq_slice_nil'
              by_cases h34 : s[k].toNat = 34
              · rw [if_pos (.inl h34)] at hst
                have HST := Lib.hid hst
                rw [hst, List.length_append, ← hm.out] at hle
                simp only [List.length_cons, List.length_nil] at hle
                clear hst
                go_wp2_with fail
                have hs2 := src_two hB.out QP.out
                have e1 : m ≤ n := by omega
                have e2 : ¬ n = m := by omega
                have e3 : (m : Int) ≤ (n : Int) := by omega
                go_region_law (refine step_copy_splice rfl (.tmp 105) (.tmp 111) 128 128 rfl 5 Tryz.underlying128 (by kernel_rfl) (some ⟨g, m, none⟩) (some ⟨P, 0, none⟩) (n - m) (n - m) 2 d (by simp [Act.eval]) (by simp [Act.eval]) g m cur 5 hBF.out [.int .u8 92, .int .u8 34] (by simp [Nat.min_def]; omega) (fun _ => ⟨rfl, _, rfl, hs2⟩) (by simp; omega) (by intro v hv; simp at hv; rcases hv with rfl | rfl <;> rfl) w.heap.size w hB.out.drew GB.out ?_; intro w4 hg4 hb4)
                go_wp2_with fail
                go_roundw
                case rel => exact ⟨k + 1, m + 2, _, by omega, by go_num, by go_num, Lib.hid (by rw [HST.out, List.length_append, ← hm.out]; rfl), hg4, (length_splice _ _ _ (by simp; omega)).trans hcl, Lib.hid ((splice_take cur m [.int .u8 92, .int .u8 34] (by simp; omega)).trans (by rw [HST.out, bvals_append, hcv.out]; simp [bvals, h34])), hb4⟩
                case measure => simp [intOf]; omega
              · by_cases h92 : s[k].toNat = 92
                · rw [if_pos (.inr h92)] at hst
                  have HST := Lib.hid hst
                  rw [hst, List.length_append, ← hm.out] at hle
                  simp only [List.length_cons, List.length_nil] at hle
                  clear hst
                  go_wp2_with fail
                  have hs2 := src_two hB.out QQ.out
                  have e1 : m ≤ n := by omega
                  have e2 : ¬ n = m := by omega
                  have e3 : (m : Int) ≤ (n : Int) := by omega
                  go_region_law (refine step_copy_splice rfl (.tmp 105) (.tmp 111) 128 128 rfl 5 Tryz.underlying128 (by kernel_rfl) (some ⟨g, m, none⟩) (some ⟨Q, 0, none⟩) (n - m) (n - m) 2 d' (by simp [Act.eval]) (by simp [Act.eval]) g m cur 5 hBF.out [.int .u8 92, .int .u8 92] (by simp [Nat.min_def]; omega) (fun _ => ⟨rfl, _, rfl, hs2⟩) (by simp; omega) (by intro v hv; simp at hv; rcases hv with rfl | rfl <;> rfl) w.heap.size w hB.out.drew GB.out ?_; intro w4 hg4 hb4)
                  go_wp2_with fail
                  go_roundw
                  case rel => exact ⟨k + 1, m + 2, _, by omega, by go_num, by go_num, Lib.hid (by rw [HST.out, List.length_append, ← hm.out]; rfl), hg4, (length_splice _ _ _ (by simp; omega)).trans hcl, Lib.hid ((splice_take cur m [.int .u8 92, .int .u8 92] (by simp; omega)).trans (by rw [HST.out, bvals_append, hcv.out]; simp [bvals, h92])), hb4⟩
                  case measure => simp [intOf]; omega
                · rw [if_neg (fun e => e.elim h34 h92)] at hst
                  have HST := Lib.hid hst
                  rw [hst, List.length_append, ← hm.out] at hle
                  simp only [List.length_cons, List.length_nil] at hle
                  have pn := R1.out.tab.at_ s[k].toNat hb
                  rw [R1.out.o _ h34 h92] at pn
                  have e1 : m < n := by omega
                  have e3 : (m : Int) < (n : Int) := by omega
                  have hml : m < cur.length := by omega
                  have d0 := hBF.out.cell (List.getElem?_eq_getElem hml)
                  have d1 := hBF.out.thaw m
                  clear hst
                  go_wp2_with fail
                  go_roundw
                  case rel => exact ⟨k + 1, m + 1, _, by omega, by go_num, by go_num, Lib.hid (by rw [HST.out, List.length_append, ← hm.out]; rfl), Lib.hid (hBF.out.set m _), by simpa using hcl, Lib.hid ((set_take hml _).trans (by rw [HST.out, bvals_append, hcv.out]; rfl)), hB.out.setCell (p := ⟨g, m, none⟩) GB.out _⟩
                  case measure => simp [intOf]; omega
            · have ek : s.data.toList.take k = s.data.toList := List.take_of_length_le (by omega)
              rw [ek] at hm hcv
              have hlm : cur.length ≤ m := by rw [hcl, hm.out, HN.out]; exact Nat.le_refl _
              have hcv2 : cur = bvals (quo s.data.toList) := by
                have := hcv.out
                rwa [List.take_of_length_le hlm] at this
              have hcvt := buf_string wr g s (hcv2 ▸ hBF.out)
              rw [HN.out] at hcvt
              clear ek hm hcv hcl hcv2
              go_wp2_with fail
              go_ret
              exact ⟨rfl, hB.out⟩
  · have hd : decide ((16 : Int) ≤ (s.size : Int)) = false := decide_eq_false (by omega)
    go_wp2_with fail
    clear c0
    go_loopw [5, 6, 10, 11] (fun m y i _ wr => ∃ k : Nat, k ≤ s.size ∧ i = .int .i64 k ∧ m = .int .i64 ((s.size + cntQ (s.data.toList.take k) : Nat) : Int) ∧ y = .bool (decide (cntQ (s.data.toList.take k) ≠ 0)) ∧ Hid (Below w.heap.size w wr)) (fun _ _ i _ _ => s.size - (intOf i).toNat)
    case atStart => exact ⟨0, Nat.zero_le _, rfl, rfl, rfl, Below.refl _ _⟩
    case round =>
      obtain ⟨k, hk, rfl, rfl, rfl, hB⟩ := hrel
      by_cases hlt : k < s.size
      · have hc := cntQ_succ s hlt
        have HC := Lib.hid hc
        have hcl := cntQ_le (s.data.toList.take k)
        have htl : (s.data.toList.take k).length ≤ k := List.length_take_le _ _
        have hb : s[k].toNat < 256 := UInt8.toNat_lt _
        have R1 := Lib.hid (HR.out.keep hB.out)
        have p34 := cell_keep hB.out P34.out
        have p92 := cell_keep hB.out P92.out
        have nq := run_neq_slice_nil'
        by_cases h34 : s[k].toNat = 34
        · rw [if_pos (.inl h34)] at hc
          go_wp2_with fail
          go_roundw
          case rel => exact ⟨k + 1, by omega, by go_num, by rw [HC.out, if_pos (.inl h34)]; go_num, by rw [HC.out, if_pos (.inl h34)]; simp, hB⟩
          case measure => simp [intOf]; omega
        · by_cases h92 : s[k].toNat = 92
          · rw [if_pos (.inr h92)] at hc
            go_wp2_with fail
            go_roundw
            case rel => exact ⟨k + 1, by omega, by go_num, by rw [HC.out, if_pos (.inr h92)]; go_num, by rw [HC.out, if_pos (.inr h92)]; simp, hB⟩
            case measure => simp [intOf]; omega
          · rw [if_neg (fun e => e.elim h34 h92)] at hc
            have pn := R1.out.tab.at_ s[k].toNat hb
            rw [R1.out.o _ h34 h92] at pn
            go_wp2_with fail
            go_roundw
            case rel => exact ⟨k + 1, by omega, by go_num, by rw [HC.out, if_neg (fun e => e.elim h34 h92)]; rfl, by rw [HC.out, if_neg (fun e => e.elim h34 h92)]; rfl, hB⟩
            case measure => simp [intOf]; omega
      · have HQ := Lib.hid (show cntQ s.data.toList = cntQ (s.data.toList.take k) by rw [List.take_of_length_le (by omega)])
        generalize cntQ (s.data.toList.take k) = q at *
        clear K34 K92 n34 n92 EQ
        rcases q with _ | q
        · have e0 : decide ((0 : Nat) ≠ 0) = false := rfl
          rw [e0]
          have Z := Lib.hid (show quo s.data.toList = s.data.toList from quo_none (by have := HQ.out; unfold cntQ at this; omega) (by have := HQ.out; unfold cntQ at this; omega))
          go_wp2_with fail
          go_ret
          exact ⟨by rw [Z.out, bytesOf_of]; rfl, hB.out⟩
        · have e0 : decide (q + 1 ≠ 0) = true := decide_eq_true (by omega)
          rw [e0]
          have hn : (quo s.data.toList).length = s.size + (q + 1) := by rw [quo_count, hl]; have := HQ.out; unfold cntQ at this; omega
          generalize s.size + (q + 1) = n at *
          have hn2 := (quo_length s.data.toList).2
          rw [hn, hl] at hn2
          have hn120 : n ≤ 120 := by omega
          have HN := Lib.hid hn
          have hsz := hB.out.size
          clear hn hn2 e0
          go_wp2_with (at_make; refine wpList_make_full _ rfl _ _ 128 rfl w.heap.size 5 i0 (.int .u8 0) 1 Tryz.underlying128 hi hz0 hz1 .i64 .i64 _ _ n rfl rfl rfl rfl (by rw [hz2]; omega) (by unfold maxLen; omega) hsz ?_; intro w0 hown0 hgrow0)
          obtain ⟨cur0, BF0, hcl0⟩ := buf_new hown0
          have B0 := Lib.hid (hB.out.trans ((grown_none hgrow0).mono hsz))
          have GB := Lib.hid (show w.heap.size ≤ wr.heap.size from hsz)
          generalize wr.heap.size = g at *
          clear hown0 hgrow0 hsz hB
          go_wp2_with fail
          go_loopw [13, 14, 15] (fun j i _ wr => ∃ (k m : Nat) (cur : List Value), k ≤ s.size ∧ i = .int .i64 k ∧ j = .int .i64 m ∧ Hid (m = (quo (s.data.toList.take k)).length) ∧ Hid (BufAt wr g cur) ∧ cur.length = n ∧ Hid (cur.take m = bvals (quo (s.data.toList.take k))) ∧ Hid (Below w.heap.size w wr)) (fun _ i _ _ => s.size - (intOf i).toNat)
          case atStart => exact ⟨0, 0, cur0, Nat.zero_le _, rfl, rfl, rfl, BF0, hcl0, rfl, B0⟩
          case round =>
            obtain ⟨k, m, cur, hk, rfl, rfl, hm, hBF, hcl, hcv, hB⟩ := hrel
            by_cases hlt : k < s.size
            · have hst := quo_step s hlt
              have hle := quo_take_le s.data.toList (k + 1)
              rw [HN.out] at hle
              have hb : s[k].toNat < 256 := UInt8.toNat_lt _
              have R1 := Lib.hid (HR.out.keep hB.out)
              have p34 := cell_keep hB.out P34.out
              have p92 := cell_keep hB.out P92.out
              have nq := run_neq_slice_nil'
              by_cases h34 : s[k].toNat = 34
              · rw [if_pos (.inl h34)] at hst
                have HST := Lib.hid hst
                rw [hst, List.length_append, ← hm.out] at hle
                simp only [List.length_cons, List.length_nil] at hle
                clear hst
                go_wp2_with fail
                have hs2 := src_two hB.out QP.out
                have e1 : m ≤ n := by omega
                have e2 : ¬ n = m := by omega
                have e3 : (m : Int) ≤ (n : Int) := by omega
                go_region_law (refine step_copy_splice rfl (.tmp 105) (.tmp 111) 128 128 rfl 5 Tryz.underlying128 (by kernel_rfl) (some ⟨g, m, none⟩) (some ⟨P, 0, none⟩) (n - m) (n - m) 2 d (by simp [Act.eval]) (by simp [Act.eval]) g m cur 5 hBF.out [.int .u8 92, .int .u8 34] (by simp [Nat.min_def]; omega) (fun _ => ⟨rfl, _, rfl, hs2⟩) (by simp; omega) (by intro v hv; simp at hv; rcases hv with rfl | rfl <;> rfl) w.heap.size w hB.out.drew GB.out ?_; intro w4 hg4 hb4)
                go_wp2_with fail
                go_roundw
                case rel => exact ⟨k + 1, m + 2, _, by omega, by go_num, by go_num, Lib.hid (by rw [HST.out, List.length_append, ← hm.out]; rfl), hg4, (length_splice _ _ _ (by simp; omega)).trans hcl, Lib.hid ((splice_take cur m [.int .u8 92, .int .u8 34] (by simp; omega)).trans (by rw [HST.out, bvals_append, hcv.out]; simp [bvals, h34])), hb4⟩
                case measure => simp [intOf]; omega
              · by_cases h92 : s[k].toNat = 92
                · rw [if_pos (.inr h92)] at hst
                  have HST := Lib.hid hst
                  rw [hst, List.length_append, ← hm.out] at hle
                  simp only [List.length_cons, List.length_nil] at hle
                  clear hst
                  go_wp2_with fail
                  have hs2 := src_two hB.out QQ.out
                  have e1 : m ≤ n := by omega
                  have e2 : ¬ n = m := by omega
                  have e3 : (m : Int) ≤ (n : Int) := by omega
                  go_region_law (refine step_copy_splice rfl (.tmp 105) (.tmp 111) 128 128 rfl 5 Tryz.underlying128 (by kernel_rfl) (some ⟨g, m, none⟩) (some ⟨Q, 0, none⟩) (n - m) (n - m) 2 d' (by simp [Act.eval]) (by simp [Act.eval]) g m cur 5 hBF.out [.int .u8 92, .int .u8 92] (by simp [Nat.min_def]; omega) (fun _ => ⟨rfl, _, rfl, hs2⟩) (by simp; omega) (by intro v hv; simp at hv; rcases hv with rfl | rfl <;> rfl) w.heap.size w hB.out.drew GB.out ?_; intro w4 hg4 hb4)
                  go_wp2_with fail
                  go_roundw
                  case rel => exact ⟨k + 1, m + 2, _, by omega, by go_num, by go_num, Lib.hid (by rw [HST.out, List.length_append, ← hm.out]; rfl), hg4, (length_splice _ _ _ (by simp; omega)).trans hcl, Lib.hid ((splice_take cur m [.int .u8 92, .int .u8 92] (by simp; omega)).trans (by rw [HST.out, bvals_append, hcv.out]; simp [bvals, h92])), hb4⟩
                  case measure => simp [intOf]; omega
                · rw [if_neg (fun e => e.elim h34 h92)] at hst
                  have HST := Lib.hid hst
                  rw [hst, List.length_append, ← hm.out] at hle
                  simp only [List.length_cons, List.length_nil] at hle
                  have pn := R1.out.tab.at_ s[k].toNat hb
                  rw [R1.out.o _ h34 h92] at pn
                  have e1 : m < n := by omega
                  have e3 : (m : Int) < (n : Int) := by omega
                  have hml : m < cur.length := by omega
                  have d0 := hBF.out.cell (List.getElem?_eq_getElem hml)
                  have d1 := hBF.out.thaw m
                  clear hst
                  go_wp2_with fail
                  go_roundw
                  case rel => exact ⟨k + 1, m + 1, _, by omega, by go_num, by go_num, Lib.hid (by rw [HST.out, List.length_append, ← hm.out]; rfl), Lib.hid (hBF.out.set m _), by simpa using hcl, Lib.hid ((set_take hml _).trans (by rw [HST.out, bvals_append, hcv.out]; rfl)), hB.out.setCell (p := ⟨g, m, none⟩) GB.out _⟩
                  case measure => simp [intOf]; omega
            · have ek : s.data.toList.take k = s.data.toList := List.take_of_length_le (by omega)
              rw [ek] at hm hcv
              have hlm : cur.length ≤ m := by rw [hcl, hm.out, HN.out]; exact Nat.le_refl _
              have hcv2 : cur = bvals (quo s.data.toList) := by
                have := hcv.out
                rwa [List.take_of_length_le hlm] at this
              have hcvt := buf_string wr g s (hcv2 ▸ hBF.out)
              rw [HN.out] at hcvt
              clear ek hm hcv hcl hcv2
              go_wp2_with fail
              go_ret
              exact ⟨rfl, hB.out⟩
end Go.Proofs.YtnolmlhcikcceaaGreatDoor
namespace Go.Proofs.YtnolmlhcikcceaaGreatDoor
open Go.RowKit Go.Wk
set_option maxRecDepth 100000

/-- (*Replacer).Replace at a replacer that has not been built. -/
theorem repl_replace (b G C : Nat) (s : ByteArray) (w : World) (h : NewRep w b G C) (hbG : b ≠ G) (hs : s.size ≤ 60) :
    Calls Tryz.prog 71 #[.pointer (some ⟨b, 0, none⟩), .string s] w fun e w' => e = .returned (.string (bytesOf (quo s.data.toList))) ∧ ∃ w1, w.grownBy w1 (some b) ∧ Below w1.heap.size w1 w' := by
  have K := Lib.hid (repl_do b G C w h hbG)
  clear h
  go_enter Tryz.func71, Tryz.ntmps71
  go_wp2_with fail
  refine (K.out).mono ?_
  rintro e w1 ⟨X, f, T, c, rfl, hX, R, h3, hg⟩
  have KR := Lib.hid (repl_at X T c f s w1 R hs)
  have HG := Lib.hid hg
  clear R hg K
  go_wp2_with fail
  refine (KR.out).mono ?_
  rintro e w2 ⟨rfl, b2⟩
  go_wp2_with fail
  go_ret
  exact ⟨rfl, w1, HG.out, b2⟩

theorem quoted_sum (s : ByteArray) : (⟨#[34]⟩ : ByteArray) ++ bytesOf (quo s.data.toList) ++ ⟨#[34]⟩ = Wk.quoted s := by
  refine bytes_ext ?_
  rw [quoted_data]
  simp [ByteArray.data_append, bytesOf]
theorem name_Quote (s : ByteArray) (w : World) (hs : s.size ≤ maxLen) :
    Calls Tryz.prog 31 #[.string s] w fun e w' => e = .returned (.tuple #[.string (quoV s), errV (textFault s)]) ∧ Below w.heap.size w w' := by
  have K := Lib.hid (name_Plain s w hs)
  by_cases h0 : textFault s = 0
  · rw [h0, errV_zero] at K
    have h60 : s.size ≤ 60 := by
      unfold textFault at h0
      by_cases h : 60 < s.size
      · rw [if_pos h] at h0; cases h0
      · omega
    have HV := Lib.hid (show quoV s = Wk.quoted s from if_pos h0)
    rw [h0, errV_zero, HV.out]
    clear h0
    go_enter Tryz.func31, Tryz.ntmps31
    go_wp2_with fail
    refine (K.out).mono ?_
    rintro e w1 ⟨rfl, b1⟩
    have B1 := Lib.hid b1
    clear b1 K
    go_wp2_with fail
    have T2 := Lib.hid (cells_new w1 [.string ⟨#[92]⟩, .string ⟨#[92, 92]⟩, .string ⟨#[34]⟩, .string ⟨#[92, 34]⟩] 9)
    have B2 := bh B1 (below_box w1 (.cells #[.string ⟨#[92]⟩, .string ⟨#[92, 92]⟩, .string ⟨#[34]⟩, .string ⟨#[92, 34]⟩] 9))
    obtain ⟨w2, hw2⟩ : ∃ w2, w1.alloc (.cells #[.string ⟨#[92]⟩, .string ⟨#[92, 92]⟩, .string ⟨#[34]⟩, .string ⟨#[92, 34]⟩] 9) = w2 := ⟨_, rfl⟩
    have e2 : w1.alloc (.cells [Value.string ⟨#[92]⟩, .string ⟨#[92, 92]⟩, .string ⟨#[34]⟩, .string ⟨#[92, 34]⟩].toArray 9) = w2 := hw2
    rw [e2] at T2
    rw [hw2] at B2 ⊢
    clear hw2 e2
    refine (repl_new w1.heap.size w2 (by simpa [Addr.add] using T2.out 0 _ rfl) (by simpa [Addr.add] using T2.out 1 _ rfl) (by simpa [Addr.add] using T2.out 2 _ rfl) (by simpa [Addr.add] using T2.out 3 _ rfl)).mono ?_
    rintro e w3 ⟨b, G, C, rfl, hN, hbG, hb, b3⟩
    have B3 := bh B2 b3
    have KR := Lib.hid (repl_replace b G C s w3 hN hbG h60)
    have HB := Lib.hid (show w.heap.size ≤ b from Nat.le_trans B2.out.size hb)
    clear T2 hN b3 B2 hb hbG B1
    go_wp2_with fail
    refine (KR.out).mono ?_
    rintro e w4 ⟨rfl, w5, hg, b4⟩
    have B4 := Lib.hid ((B3.out.trans (below_of_grown hg HB.out B3.out.size)).trans (b4.mono (Nat.le_trans B3.out.size hg.size)))
    clear KR hg b4
    have hz : (bytesOf (quo s.data.toList)).size ≤ 120 := by
      rw [bytesOf_size]
      have := (quo_length s.data.toList).2
      rw [size_toList] at this
      omega
    have HS := Lib.hid (quoted_sum s)
    generalize bytesOf (quo s.data.toList) = q at *
    go_wp2_with fail
    go_ret2
    exact ⟨by rw [← HS.out]; rfl, B4.out⟩
  · have HE := Lib.hid (errV_ne h0)
    have HV := Lib.hid (show quoV s = ⟨#[]⟩ from if_neg h0)
    rw [HE.out] at K
    rw [HE.out, HV.out]
    clear h0
    go_enter Tryz.func31, Tryz.ntmps31
    go_wp2_with fail
    refine (K.out).mono ?_
    rintro e w1 ⟨rfl, b1⟩
    have B1 := Lib.hid b1
    clear b1 K
    go_wp2_with fail
    go_ret2
    exact ⟨rfl, B1.out⟩
end Go.Proofs.YtnolmlhcikcceaaGreatDoor
namespace Go.Proofs.YtnolmlhcikcceaaGreatDoor
open Go.RowKit Go.Shelf
set_option maxRecDepth 100000

/-- Block b is a builder that holds these bytes. -/
def Bld (B b : Nat) (l : List UInt8) (w : World) : Prop := Lib.IsBuilderF 351 5 B b (Lib.byteCells l) w
/-- A new one. -/
theorem bld_new (w : World) (B : Nat) (hB : B ≤ w.heap.size) : Bld B w.heap.size [] (w.alloc (.cells #[.pointer none, .slice none 0 0] 351)) :=
  .inl (Lib.BuilderAtF.of ⟨hB, _, heap_alloc_new w _, World.ownsRow_nil _ _ _ 1, by simp [Value.ownBlock]⟩)
theorem Bld.keep {B b : Nat} {l : List UInt8} {w w' : World} (h : Bld B b l w) (hb : Below w.heap.size w w') : Bld B b l w' := by
  have go : ∀ p, Lib.BuilderAtF 351 5 B b p (Lib.byteCells l) w → Lib.BuilderAtF 351 5 B b p (Lib.byteCells l) w' := by
    rintro p ⟨h1, v, h2, h3, h4⟩
    have hlt := (Array.getElem?_eq_some_iff.1 h2).1
    refine ⟨h1, v, ?_, h3.kept (row := none) ⟨hb.os, hb.tape, hb.output, hb.size, fun k hk _ => hb.block k hk⟩ (by cases hv : v.ownBlock <;> simp), h4⟩
    rw [hb.block b hlt]; exact h2
  exact h.imp (go _) (go _)
theorem Bld.lt {B b : Nat} {l : List UInt8} {w : World} (h : Bld B b l w) : b < w.heap.size := by
  rcases h with ⟨_, v, q, _⟩ | ⟨_, v, q, _⟩ <;> exact (Array.getElem?_eq_some_iff.1 q).1
/-- A row of other things abides what a builder does. -/
theorem row_others {w w' : World} {B b size n : Nat} {e : TypeId} {v : Value} {xs : List Value} (h : w.ownsRow B e size v n xs) (hk : Lib.OthersKept 5 (some b) w w') (he : e ≠ 5) (hb : ∀ g, v.ownBlock = some g → g ≠ b) : w'.ownsRow B e size v n xs := by
  refine ⟨h.1, h.2.imp id ?_⟩
  rintro ⟨g, cap, cur, rfl, q1, q2, q3⟩
  exact ⟨g, cap, cur, rfl, q1, hk g _ q2 (by simpa using hb g rfl) (fun c fz q => by injection q with _ q _; exact he q), q3⟩
end Go.Proofs.YtnolmlhcikcceaaGreatDoor
namespace Go.Proofs.YtnolmlhcikcceaaGreatDoor
open Go.RowKit Go.Wk
set_option maxRecDepth 100000

theorem body_extract (s : ByteArray) (h : 2 ≤ s.size) : (s.extract 1 (s.size - 1)).data.toList = body s := by
  unfold body
  rw [ByteArray.data_extract, Array.toList_extract]
  simp
  congr 1
  omega
theorem bareV_none {s : ByteArray} (h : bare s = none) : bareV s = ⟨#[]⟩ ∧ bareE s = 1 := by
  unfold bareV bareE; rw [h]; exact ⟨rfl, rfl⟩
theorem bareV_some {s u : ByteArray} (h : bare s = some u) : bareV s = u ∧ bareE s = 0 := by
  unfold bareV bareE; rw [h]; exact ⟨rfl, rfl⟩
theorem inQ_not {s : ByteArray} (hq : ¬ inQ s) (h : 2 ≤ s.size) : s[0].toNat ≠ 34 ∨ s[s.size - 1].toNat ≠ 34 := by
  by_cases h0 : s[0].toNat = 34
  · refine .inr fun h1 => hq ⟨h, ?_, ?_⟩
    · have : s.data.toList[0]? = some s[0] := List.getElem?_eq_getElem (by simp; omega)
      rw [this]; exact congrArg some (UInt8.toNat_inj.1 h0)
    · have : s.data.toList[s.size - 1]? = some s[s.size - 1] := List.getElem?_eq_getElem (by simp; omega)
      rw [this]; exact congrArg some (UInt8.toNat_inj.1 h1)
  · exact .inl h0
theorem inQ_at {s : ByteArray} (hq : inQ s) : ∃ (h : 2 ≤ s.size), s[0].toNat = 34 ∧ s[s.size - 1].toNat = 34 := by
  obtain ⟨h, q0, q1⟩ := hq
  refine ⟨h, ?_, ?_⟩
  · have : s.data.toList[0]? = some s[0] := List.getElem?_eq_getElem (by simp; omega)
    rw [this] at q0; injection q0 with q0; rw [q0]; rfl
  · have : s.data.toList[s.size - 1]? = some s[s.size - 1] := List.getElem?_eq_getElem (by simp; omega)
    rw [this] at q1; injection q1 with q1; rw [q1]; rfl
end Go.Proofs.YtnolmlhcikcceaaGreatDoor
namespace Go.Proofs.YtnolmlhcikcceaaGreatDoor
open Go.RowKit

/-- internal/bytealg.MaxLen holds some number. -/
def Max (w : World) : Prop := ∃ m : Int, w.cell? ⟨1, 0, none⟩ = some (.int .i64 m)
theorem Max.keep {w w' : World} (h : Max w) (hb : Below w.heap.size w w') : Max w' := let ⟨m, hm⟩ := h; ⟨m, cell_keep hb hm⟩
theorem max_of_shaped {w : World} (h : w.ShapedOpen Tryz.prog) : Max w :=
  cell_of_shapedOpen_int (t := 3) (zero := #[.int .i64 0]) h (of_decide_eq_true (by kernel_rfl)) (by kernel_rfl) rfl (by kernel_rfl) (by kernel_rfl) Tryz.underlying3
end Go.Proofs.YtnolmlhcikcceaaGreatDoor
namespace Go.Proofs.YtnolmlhcikcceaaGreatDoor
open Go.RowKit Go.Wk
set_option maxRecDepth 100000

theorem two_cells (w : World) (x y : Value) (t : TypeId) : (w.alloc (.cells #[x, y] t)).cell? ⟨w.heap.size, 0, none⟩ = some x ∧ (w.alloc (.cells #[x, y] t)).cell? ⟨w.heap.size, 1, none⟩ = some y :=
  ⟨cell_row (heap_alloc_last w _) rfl, cell_row (heap_alloc_last w _) rfl⟩
set_option maxHeartbeats 1000000 in
theorem name_Write (a b : ByteArray) (w : World) (ha : a.size ≤ maxLen) (hb : b.size ≤ maxLen) :
    Calls Tryz.prog 42 #[.agg #[.string a, .string b]] w fun e w' => e = .returned (.tuple #[.string (wrtV (a, b)), errV (uidFault (a, b))]) ∧ Below w.heap.size w w' := by
  have KC := Lib.hid (fun w => name_Check a w ha)
  have KQ := Lib.hid (fun w => name_Quote b w hb)
  have CC := Lib.hid (two_cells w (.string a) (.string b) 33)
  have B0 := Lib.hid (below_box w (.cells #[.string a, .string b] 33))
  by_cases h1 : nameFault a = 0
  · have HE := Lib.hid (show uidFault (a, b) = textFault b from if_pos h1)
    rw [h1, errV_zero] at KC
    have hna := name_le h1
    by_cases h2 : textFault b = 0
    · have HV := Lib.hid (show wrtV (a, b) = wrt (a, b) from if_pos (uidFault_zero.2 ⟨h1, h2⟩))
      have hq := quo_length b.data.toList
      have htb := text_le h2
      have hqs : (Wk.quoted b).size ≤ 122 := by rw [quoted_size]; rw [size_toList] at hq; omega
      have HS := Lib.hid (wrt_sum (a, b))
      unfold quoV at KQ
      rw [h2, errV_zero, if_pos rfl] at KQ
      rw [HE.out, HV.out, h2, errV_zero]
      clear h1 h2 hq
      go_enter Tryz.func42, Tryz.ntmps42
      go_wp2_with fail
      obtain ⟨w0, hw0⟩ : ∃ w0, w.alloc (.cells #[.string a, .string b] 33) = w0 := ⟨_, rfl⟩
      rw [hw0] at CC B0 ⊢
      clear hw0
      refine (KC.out w0).mono ?_
      rintro e w1 ⟨rfl, b1⟩
      have B1 := bh B0 b1
      have c0 := cell_keep b1 CC.out.1
      have c1 := cell_keep b1 CC.out.2
      clear KC B0 CC
      go_wp2_with fail
      refine (KQ.out w1).mono ?_
      rintro e w2 ⟨rfl, b2⟩
      have B2 := bh B1 b2
      have d0 := cell_keep b2 c0
      have d1 := cell_keep b2 c1
      clear KQ B1 c0 c1 b1 b2
      generalize Wk.quoted b = q at *
      go_wp2_with fail
      go_ret2
      exact ⟨by rw [← HS.out]; rfl, B2.out⟩
    · have HV := Lib.hid (show wrtV (a, b) = ⟨#[]⟩ from if_neg (fun h => h2 (uidFault_zero.1 h).2))
      rw [errV_ne h2] at KQ
      rw [HE.out, HV.out, errV_ne h2]
      clear h1 h2
      go_enter Tryz.func42, Tryz.ntmps42
      go_wp2_with fail
      obtain ⟨w0, hw0⟩ : ∃ w0, w.alloc (.cells #[.string a, .string b] 33) = w0 := ⟨_, rfl⟩
      rw [hw0] at CC B0 ⊢
      clear hw0
      refine (KC.out w0).mono ?_
      rintro e w1 ⟨rfl, b1⟩
      have B1 := bh B0 b1
      have c0 := cell_keep b1 CC.out.1
      have c1 := cell_keep b1 CC.out.2
      clear KC B0 CC
      go_wp2_with fail
      refine (KQ.out w1).mono ?_
      rintro e w2 ⟨rfl, b2⟩
      have B2 := bh B1 b2
      clear KQ B1 c0 c1 b1 b2
      go_wp2_with fail
      go_ret2
      exact ⟨rfl, B2.out⟩
  · have HE := Lib.hid (show uidFault (a, b) = nameFault a from if_neg h1)
    have HV := Lib.hid (show wrtV (a, b) = ⟨#[]⟩ from if_neg (fun h => h1 (uidFault_zero.1 h).1))
    rw [errV_ne h1] at KC
    rw [HE.out, HV.out, errV_ne h1]
    clear h1
    go_enter Tryz.func42, Tryz.ntmps42
    go_wp2_with fail
    obtain ⟨w0, hw0⟩ : ∃ w0, w.alloc (.cells #[.string a, .string b] 33) = w0 := ⟨_, rfl⟩
    rw [hw0] at CC B0 ⊢
    clear hw0
    refine (KC.out w0).mono ?_
    rintro e w1 ⟨rfl, b1⟩
    have B1 := bh B0 b1
    clear KC B0 CC b1
    go_wp2_with fail
    go_ret2
    exact ⟨rfl, B1.out⟩

/-- A variable of two cells of the call's own. -/
structure Vr2 (w : World) (b : Nat) (x y : Value) : Prop where
  c0 : w.cell? ⟨b, 0, none⟩ = some x
  c1 : w.cell? ⟨b, 1, none⟩ = some y
  z0 : w.frozen? ⟨b, 0, none⟩ = false
  z1 : w.frozen? ⟨b, 1, none⟩ = false
theorem Vr2.keep {w w' : World} {b : Nat} {x y : Value} (h : Vr2 w b x y) (hb : Below w.heap.size w w') : Vr2 w' b x y :=
  have hl := block_lt_of_cell h.c0
  ⟨cell_keep hb h.c0, cell_keep hb h.c1, by rw [(bcell hb).2 b 0 hl]; exact h.z0, by rw [(bcell hb).2 b 1 hl]; exact h.z1⟩
theorem vr2_new (w : World) (x y : Value) (t : TypeId) : Vr2 (w.alloc (.cells #[x, y] t)) w.heap.size x y :=
  ⟨(two_cells w x y t).1, (two_cells w x y t).2, by simp, by simp⟩
theorem Vr2.set {w : World} {b : Nat} {x y : Value} (h : Vr2 w b x y) (x' y' : Value) : Vr2 ((w.setCell ⟨b, 0, none⟩ x').setCell ⟨b, 1, none⟩ y') b x' y' := by
  have h1 : (w.setCell ⟨b, 0, none⟩ x').cell? ⟨b, 1, none⟩ = some y := (World.cell?_setCell_other _ ⟨b, 0, none⟩ ⟨b, 1, none⟩ _ (by intro e; injection e with _ e; cases e)).trans h.c1
  refine ⟨(World.cell?_setCell_other _ ⟨b, 1, none⟩ ⟨b, 0, none⟩ _ (by intro e; injection e with _ e; cases e)).trans (World.cell?_setCell_same _ _ _ h.c0), World.cell?_setCell_same _ _ _ h1, ?_, ?_⟩
  · rw [World.frozen?_setCell, World.frozen?_setCell]; exact h.z0
  · rw [World.frozen?_setCell, World.frozen?_setCell]; exact h.z1
end Go.Proofs.YtnolmlhcikcceaaGreatDoor
namespace Go.Proofs.YtnolmlhcikcceaaGreatDoor
open Go.RowKit Go.Wk Go.Sort

/-- A contract that ends in Below, in every world of a region that draws. -/
theorem rq {P : Program} {f : FuncId} {args : Array Value} {w : World} {v : Value} (h : ∀ w', Below w.heap.size w w' → Calls P f args w' fun e w'' => e = .returned v ∧ Below w'.heap.size w' w'') :
    ∀ d os, Calls P f args (grow (redrawn w d) os) fun e w'' => e = .returned v ∧ ∃ p : Regrown, w'' = grow (redrawn w p.d) p.os :=
  fun d os => Calls.regrown_of (h _ (below_regrown w d os))
/-- One that leaves all as it was. -/
theorem rqs {P : Program} {f : FuncId} {args : Array Value} {w : World} {v : Value} (h : ∀ w', Calls P f args w' fun e w'' => e = .returned v ∧ w' = w'') :
    ∀ d os, Calls P f args (grow (redrawn w d) os) fun e w'' => e = .returned v ∧ ∃ p : Regrown, w'' = grow (redrawn w p.d) p.os :=
  fun d os => (h _).mono fun _ _ ⟨he, hw⟩ => ⟨he, ⟨⟨d, os⟩, hw.symm⟩⟩

/-- A node's cells. -/
structure Nd4 (w : World) (a : Addr) (x : Nd) : Prop where
  c0 : w.cell? a = some (.int .i64 x.op)
  c1 : w.cell? ⟨a.block, a.off + 1, none⟩ = some (.int .i64 x.n)
  c2 : w.cell? ⟨a.block, a.off + 2, none⟩ = some (.string x.s)
  c3 : w.cell? ⟨a.block, a.off + 3, none⟩ = some (.string x.t)
theorem Nd4.keep {w w' : World} {a : Addr} {x : Nd} (h : Nd4 w a x) (hb : Below w.heap.size w w') : Nd4 w' a x :=
  ⟨cell_keep hb h.c0, cell_keep hb h.c1, cell_keep hb h.c2, cell_keep hb h.c3⟩
theorem NdsAt.nd {w : World} {A : Option Addr} {P : List Nd} (h : NdsAt w A P) {k : Nat} (hk : k < P.length) : ∃ a, A = some a ∧ Nd4 w (a.add (k * 4)) P[k] :=
  let ⟨a, e, h1, h2, h3, h4⟩ := h k P[k] (List.getElem?_eq_getElem hk); ⟨a, e, h1, h2, h3, h4⟩
theorem NdsOk.seg {P : List Nd} (h : NdsOk P) (i j : Nat) : NdsOk (seg P i j) := fun x hx => h x (List.mem_of_mem_drop (List.mem_of_mem_take hx))
end Go.Proofs.YtnolmlhcikcceaaGreatDoor
namespace Go.Proofs.YtnolmlhcikcceaaGreatDoor
open Go.RowKit Go.Wk Go.Sort
set_option maxRecDepth 100000

/-- A slice of nodes, as it lies in another slice. -/
structure Sl where
  A : Option Addr
  n : Nat
  c : Nat
  P : List Nd
def Sl.v (r : Sl) : Value := .slice r.A r.n r.c
/-- A slice that holds slices of nodes. -/
def SlsAt (w : World) (A : Option Addr) (V : List Sl) : Prop :=
  ∀ (k : Nat) (r : Sl), V[k]? = some r → ∃ a, A = some a ∧ w.cell? (a.add k) = some (.slice r.A r.n r.c) ∧ Ns w r.A r.n r.c r.P
theorem SlsAt.keep {w w' : World} {A : Option Addr} {V : List Sl} (h : SlsAt w A V) (hb : Below w.heap.size w w') : SlsAt w' A V :=
  fun k r hk => let ⟨a, h1, h2, h3⟩ := h k r hk; ⟨a, h1, cell_keep hb h2, h3.keep hb⟩
theorem SlsAt.at {w : World} {A : Option Addr} {V : List Sl} (h : SlsAt w A V) {k : Nat} (hk : k < V.length) : ∃ a, A = some a ∧ w.cell? (a.add k) = some (.slice V[k].A V[k].n V[k].c) ∧ Ns w V[k].A V[k].n V[k].c V[k].P :=
  h k V[k] (List.getElem?_eq_getElem hk)

theorem Ns.but {w w' : World} {A : Option Addr} {n c : Nat} {P : List Nd} {R : Nat} (h : Ns w A n c P) (hg : w.grownBy w' (some R)) (hR : 0 < P.length → ∀ a, A = some a → a.block ≠ R) : Ns w' A n c P := by
  refine ⟨h.len, h.cap, h.max, ?_, h.ok⟩
  rcases Nat.eq_zero_or_pos P.length with h0 | h0
  · intro k x hx
    have : P = [] := List.eq_nil_of_length_eq_zero h0
    subst this; simp at hx
  · exact h.at_.but hg (hR h0)
/-- A slice of nodes lies apart from a block. -/
def Apart (r : Sl) (g : Option Nat) : Prop := 0 < r.P.length → ∀ a, r.A = some a → g ≠ some a.block
theorem Ns.row {w w' : World} {r : Sl} {g : Option Nat} (h : Ns w r.A r.n r.c r.P) (hg : w.grownBy w' g) (ha : Apart r g) : Ns w' r.A r.n r.c r.P := by
  rcases g with _ | g
  · exact h.keep (grown_none hg)
  · exact h.but hg (fun h0 a e q => ha h0 a e (by rw [q]))

/-- The slices that the call has collected. -/
structure OwnSls (w : World) (B : Nat) (v : Value) (V : List Sl) : Prop where
  own : w.ownsRow B 27 1 v V.length (V.map Sl.v)
  each : ∀ r ∈ V, Ns w r.A r.n r.c r.P
  apart : ∀ r ∈ V, Apart r v.ownBlock
theorem OwnSls.nil (w : World) (B : Nat) : OwnSls w B (.slice none 0 0) [] := ⟨World.ownsRow_nil w B _ 1, (by intro r hr; cases hr), (by intro r hr; cases hr)⟩
theorem OwnSls.keep {w w' : World} {B : Nat} {v : Value} {V : List Sl} (h : OwnSls w B v V) (hb : Below w.heap.size w w') : OwnSls w' B v V :=
  ⟨h.own.kept (grown_of_below hb none) (by cases hv : v.ownBlock <;> simp), fun r hr => (h.each r hr).keep hb, h.apart⟩
/-- Another row is written. -/
theorem OwnSls.row {w w' : World} {B : Nat} {v : Value} {V : List Sl} {g : Option Nat} (h : OwnSls w B v V) (hg : w.grownBy w' g) (hne : v.ownBlock = none ∨ v.ownBlock ≠ g) (ha : ∀ r ∈ V, Apart r g) : OwnSls w' B v V :=
  ⟨h.own.kept hg hne, fun r hr => (h.each r hr).row hg (ha r hr), h.apart⟩
/-- One more. -/
theorem OwnSls.snoc {w w' : World} {B : Nat} {v v' : Value} {V : List Sl} {r : Sl} {o : Obj} (h : OwnSls w B v V) (hr : Ns w r.A r.n r.c r.P) (ha : Apart r v.ownBlock)
    (hown : w'.ownsRow B 27 1 v' (V.length + 1) (V.map Sl.v ++ [r.v])) (hg : (w.alloc o).grownBy w' v.ownBlock) (hat : v'.ownBlock = v.ownBlock ∨ v'.ownBlock = some (w.alloc o).heap.size) : OwnSls w' B v' (V ++ [r]) := by
  have hba : Below w.heap.size w (w.alloc o) := below_box w o
  have hlt : ∀ x ∈ V ++ [r], Ns w x.A x.n x.c x.P ∧ Apart x v.ownBlock := by
    intro x hx
    rcases List.mem_append.1 hx with h1 | h1
    · exact ⟨h.each x h1, h.apart x h1⟩
    · simp only [List.mem_cons, List.not_mem_nil, or_false] at h1
      subst h1; exact ⟨hr, ha⟩
  refine ⟨?_, fun x hx => ((hlt x hx).1.keep hba).row hg (hlt x hx).2, fun x hx h0 a e => ?_⟩
  · simpa using hown
  · rcases hat with e' | e'
    · rw [e']; exact (hlt x hx).2 h0 a e
    · rw [e']
      have := (hlt x hx).1.at_.lt h0 a e
      intro q
      injection q with q
      simp at q
      omega
/-- Collected slices are a slice that holds them. -/
theorem OwnSls.at {w : World} {B : Nat} {v : Value} {V : List Sl} (h : OwnSls w B v V) : ∃ A c, v = .slice A V.length c ∧ V.length ≤ c ∧ SlsAt w A V := by
  rcases h.own.2 with ⟨rfl, h0⟩ | ⟨g, cap, cur, rfl, _, _, hc, _⟩
  · have : V = [] := List.eq_nil_of_length_eq_zero h0
    subst this
    exact ⟨none, 0, rfl, Nat.le_refl _, fun k r hk => by simp at hk⟩
  · refine ⟨some ⟨g, 0, none⟩, cap, rfl, hc, fun k r hk => ⟨_, rfl, ?_, h.each r (List.mem_of_getElem? hk)⟩⟩
    exact h.own.cells (g := g) rfl k _ (by rw [List.getElem?_map, hk]; rfl)
theorem slInfo : (Tryz.prog.info? 27).map (fun i => (i.zero, i.size, i.bytes)) = some (some (.slice none 0 0), 1, 24) := by kernel_rfl

/-- The cells of nodes, out of where they lie. -/
theorem NdsAt.cells {w : World} {a : Addr} {P : List Nd} (h : NdsAt w (some a) P) : ∀ j u, (ndCells P)[j]? = some u → w.cell? (a.add j) = some u := by
  intro j u hu
  have hl := ndCells_length P
  have hj : j < (ndCells P).length := (List.getElem?_eq_some_iff.1 hu).1
  have hk : j / 4 < P.length := by omega
  obtain ⟨h1, h2, h3, h4⟩ := ndCells_at P (j / 4) P[j / 4] (List.getElem?_eq_getElem hk)
  obtain ⟨b, e, q1, q2, q3, q4⟩ := h (j / 4) P[j / 4] (List.getElem?_eq_getElem hk)
  injection e with e
  subst e
  have hr : j % 4 = 0 ∨ j % 4 = 1 ∨ j % 4 = 2 ∨ j % 4 = 3 := by omega
  have nx : ∀ (x d : Nat), 0 < d → (⟨(a.add x).block, (a.add x).off + d, none⟩ : Addr) = a.add (x + d) := by
    intro x d hd
    unfold Addr.add
    by_cases hx : x = 0
    · subst hx; simp; omega
    · simp [hx, Nat.add_assoc]
  rcases hr with hr | hr | hr | hr
  · have e : j = j / 4 * 4 := by omega
    rw [← e] at h1 q1
    rw [hu] at h1; rw [h1]; exact q1
  · have e : j = j / 4 * 4 + 1 := by omega
    rw [nx _ _ (by omega), ← e] at q2
    rw [← e] at h2
    rw [hu] at h2; rw [h2]; exact q2
  · have e : j = j / 4 * 4 + 2 := by omega
    rw [nx _ _ (by omega), ← e] at q3
    rw [← e] at h3
    rw [hu] at h3; rw [h3]; exact q3
  · have e : j = j / 4 * 4 + 3 := by omega
    rw [nx _ _ (by omega), ← e] at q4
    rw [← e] at h4
    rw [hu] at h4; rw [h4]; exact q4
theorem ndCells_one (P : List Nd) : ∀ u ∈ ndCells P, u.oneCell' = true := by
  induction P with
  | nil => intro u hu; cases hu
  | cons x P ih =>
    intro u hu
    simp only [ndCells, List.mem_cons] at hu
    rcases hu with rfl | rfl | rfl | rfl | hu
    · rfl
    · rfl
    · rfl
    · rfl
    · exact ih u hu
theorem ndInfo : (Tryz.prog.info? 35).map (fun i => (i.zero, i.size, i.bytes)) = some (some (.agg #[.int .i64 0, .int .i64 0, .string ⟨#[]⟩, .string ⟨#[]⟩]), 4, 48) := by kernel_rfl
theorem nds_of_own {w : World} {B : Nat} {v : Value} {P : List Nd} (h : w.ownsRow B 35 4 v P.length (ndCells P)) : ∃ A c, v = .slice A P.length c ∧ P.length ≤ c ∧ NdsAt w A P ∧ (∀ a, A = some a → B ≤ a.block) := by
  rcases h.2 with ⟨rfl, h0⟩ | ⟨g, cap, cur, rfl, hB, _, hc, _⟩
  · have : P = [] := List.eq_nil_of_length_eq_zero h0
    subst this
    exact ⟨none, 0, rfl, Nat.le_refl _, fun k x hx => by simp at hx, fun a e => by cases e⟩
  · exact ⟨some ⟨g, 0, none⟩, cap, rfl, hc, nds_of_cells (h.cells (g := g) rfl), fun a e => by injection e with e; subst e; exact hB⟩

/-- A slice of nodes of the call's own: in new blocks. -/
def NewNs (w : World) (P : List Nd) (e : Ending) (w' : World) : Prop := ∃ (A : Option Addr) (c : Nat), e = .returned (.slice A P.length c) ∧ Ns w' A P.length c P ∧ (∀ a, A = some a → w.heap.size ≤ a.block) ∧ Below w.heap.size w w'
set_option maxHeartbeats 1000000 in
theorem clone_nodes (a : Addr) (n c : Nat) (P : List Nd) (w : World) (h : Ns w (some a) n c P) (hl : P.length ≤ 100000) :
    Calls Tryz.prog 168 #[.slice (some a) n c] w (NewNs w P) := by
  obtain ⟨i0, hi, hz0, hz1, hz2⟩ := info_parts ndInfo
  have hn := h.len
  have HC := Lib.hid (fun w' hb => (h.at_.keep (w' := w') hb).cells)
  have HO := Lib.hid h.ok
  have HL := Lib.hid hl
  clear h hl
  subst hn
  have hnil := fun w : World => Lib.run_eql_slice_nil (P := Tryz.prog) w 27 35 (some a) P.length c 0 0 Tryz.underlying27
  simp only [Option.isNone_some] at hnil
  go_enter Tryz.func168, Tryz.ntmps168
  have hB : ∀ W : World, (W.alloc (.cells #[] 35)).ownsRow W.heap.size 35 4 (.slice (some ⟨W.heap.size, 0, none⟩) 0 0) 0 [] := fun W =>
    ⟨rfl, .inr ⟨_, 0, #[], rfl, Nat.le_refl _, heap_alloc_new W _, Nat.le_refl _, by unfold maxLen; omega, rfl, rfl⟩⟩
  go_wp2_with (at_builtin; refine wpList_append_own _ rfl _ _ 27 rfl w.heap.size 35 i0 _ 4 48 Tryz.underlying27 hi hz0 hz1 hz2 rfl (by decide) _ 0 [] rfl (hB w) a P.length c (ndCells P) rfl (ndCells_length P) (HC.out _ (below_box _ _)) (ndCells_one P) ?c1 ?c2 ?c3 ?_)
  case c1 => have := HL.out; unfold maxLen; omega
  case c2 => have := HL.out; omega
  case c3 => simp
  intro v1 w1 hown hgrow _
  have HW := Lib.hid hown
  have HG := Lib.hid hgrow
  clear hown hgrow hnil
  go_wp2_with fail
  go_ret
  obtain ⟨A, c', rfl, h1, h2, h3⟩ := nds_of_own HW.out
  refine ⟨A, c', rfl, ⟨rfl, h1, by have := HL.out; unfold maxLen; omega, h2, HO.out⟩, h3, ?_⟩
  exact (below_box w _).grown HG.out (by simp) (fun k hk => by simp [Value.ownBlock] at hk; omega)
end Go.Proofs.YtnolmlhcikcceaaGreatDoor
namespace Go.Proofs.YtnolmlhcikcceaaGreatDoor
open Go.RowKit Go.Wk Go.Sort
set_option maxRecDepth 100000

/-- What split tells. -/
def SplitPost (w : World) (L : List (List Nd)) (N : List ByteArray) (e : Ending) (w' : World) : Prop :=
  ∃ (v v' : Value) (V : List Sl), e = .returned (.tuple #[v, v']) ∧ OwnSls w' w.heap.size v V ∧ V.map Sl.P = L ∧ w'.ownsRow w.heap.size 9 1 v' N.length (N.map Value.string) ∧ (∀ r ∈ V, ∀ a, r.A = some a → w.heap.size < a.block) ∧ Below w.heap.size w w'
theorem own_mono {w : World} {B B' n : Nat} {e : TypeId} {size : Nat} {v : Value} {xs : List Value} (h : w.ownsRow B e size v n xs) (hB : B' ≤ B) : w.ownsRow B' e size v n xs := by
  refine ⟨h.1, ?_⟩
  rcases h.2 with h2 | ⟨g, cap, cur, hv, hg, r⟩
  · exact .inl h2
  · exact .inr ⟨g, cap, cur, hv, Nat.le_trans hB hg, r⟩
theorem OwnSls.mono {w : World} {B B' : Nat} {v : Value} {V : List Sl} (h : OwnSls w B v V) (hB : B' ≤ B) : OwnSls w B' v V := ⟨own_mono h.own hB, h.each, h.apart⟩
theorem RdAt.row {w w' : World} {R p : Nat} {v : Value} {g : Option Nat} (h : RdAt w R v p) (hg : w.grownBy w' g) (hne : some R ≠ g) : RdAt w' R v p :=
  ⟨hg.cell h.c0 hne, hg.cell h.c1 hne, (World.frozen?_of_block (w := w) (hg.block R h.lt hne)).trans h.f1⟩
/-- The slices lie behind a block. -/
def Later (R : Nat) (V : List Sl) : Prop := ∀ r ∈ V, ∀ a, r.A = some a → R < a.block
theorem Later.apart {R : Nat} {V : List Sl} (h : Later R V) : ∀ r ∈ V, Apart r (some R) := fun r hr _ a e q => by
  have := h r hr a e
  injection q with q
  omega
theorem Later.snoc {R : Nat} {V : List Sl} {r : Sl} (h : Later R V) (hr : ∀ a, r.A = some a → R < a.block) : Later R (V ++ [r]) := by
  intro x hx
  rcases List.mem_append.1 hx with h1 | h1
  · exact h x h1
  · simp only [List.mem_cons, List.not_mem_nil, or_false] at h1
    subst h1; exact hr
theorem own_ne {w : World} {B n : Nat} {e : TypeId} {size : Nat} {v : Value} {xs : List Value} (h : w.ownsRow B e size v n xs) {R : Nat} (hR : R < B) : v.ownBlock = none ∨ v.ownBlock ≠ some R := by
  rcases hv : v.ownBlock with _ | g
  · exact .inl rfl
  · have := own_base h g hv
    exact .inr (fun q => by injection q with q; omega)
theorem own_ne' {w : World} {B n : Nat} {e : TypeId} {size : Nat} {v : Value} {xs : List Value} (h : w.ownsRow B e size v n xs) {R : Nat} (hR : R < B) : some R ≠ v.ownBlock := by
  rcases own_ne h hR with h | h
  · rw [h]; simp
  · exact fun q => h q.symm
theorem ns_seg {w : World} {a : Addr} {n c : Nat} {P : List Nd} (h : Ns w (some a) n c P) {i j : Nat} (h1 : i ≤ j) (h2 : j ≤ n) : Ns w (some (a.add (i * 4))) (j - i) (c - i) (seg P i j) := by
  have := h.len
  have := h.cap
  have := h.max
  exact ⟨(seg_length (by omega)).symm, by omega, by omega, h.at_.seg i j, h.ok.seg i j⟩
theorem setLoop_inv {v : List Nd} {f : Nat → Option Nat} {N k : Nat} {q n : Nat} (hk : k < N) (h : ∃ lo, setLoop v f (N - k) lo q = some n) :
    ∃ e, f q = some e ∧ (∃ lo, setLoop v f (N - (k + 1)) lo e = some n) ∧ splitS v f (N - k) q = seg v q e :: splitS v f (N - (k + 1)) e := by
  obtain ⟨lo, h⟩ := h
  obtain ⟨j, hj⟩ : ∃ j, N - k = j + 1 := ⟨N - k - 1, by omega⟩
  rw [hj] at h
  rw [hj, show N - (k + 1) = j by omega]
  simp only [setLoop] at h
  rcases hf : f q with _ | e
  · rw [hf] at h; cases h
  · rw [hf] at h
    simp only at h
    split at h
    · exact ⟨e, rfl, ⟨_, h⟩, by simp only [splitS, hf]⟩
    · cases h

set_option maxHeartbeats 8000000 in
theorem split_set (A : Option Addr) (n c : Nat) (P : List Nd) (w : World) (h : Ns w A n c P) (hv : valFault P = 0) (h5 : headOp P = 5) :
    Calls Tryz.prog 148 #[.slice A n c] w (SplitPost w (setParts P) []) := by
  obtain ⟨i0, hi, hz0, hz1, hz2⟩ := info_parts slInfo
  obtain ⟨h200, hV⟩ := isV_zero.1 hv
  have hpos := hV.pos
  obtain ⟨a, rfl, D⟩ := h.at_.nd hpos
  have hn := h.len
  obtain ⟨hs0, _, hop, hx0, hN⟩ := set_loop hV h5
  have hE : setParts P = splitS P (partEnd P (P.length + 1)) P[0].n.toNat 1 := by unfold setParts; rw [hN]
  rw [hN] at hs0
  obtain ⟨-, -, -, hhi⟩ := h.ok.at hpos
  have K := Lib.hid (fun q w' (hb : Below w.heap.size w w') rd hq => val_part (some a) P n c w.heap.size hn h.cap h.max h.ok (fun h0 a' e => by have := h.at_.lt h0 a' e; omega) (P.length + 1) q w' rd (h.at_.keep hb) (by omega : n - q < P.length + 1))
  have HN := Lib.hid h
  have HL := Lib.hid hn
  have H0 := Lib.hid hs0
  have HE := Lib.hid hE
  rw [show a.add (0 * 4) = a from rfl] at D
  obtain ⟨d0, d1, d2, d3⟩ := D
  have r0 : RdAt (w.alloc (.cells #[.slice (some a) n c, .int .i64 1] 181)) w.heap.size (.slice (some a) n c) 1 := ⟨by simp, by simp, by simp⟩
  rw [hop] at d0
  have d1' := fun o : Obj => cell_keep (below_box w o) d1
  generalize P[0] = x at *
  have hn200 : n ≤ 200 := by omega
  have hn1 : 0 < n := by omega
  clear h hv h5 hV hn hs0 hE hN h200 hop
  go_enter Tryz.func148, Tryz.ntmps148
  go_wp2_with fail
  clear d1'
  go_loopw [2, 3, 12] (fun v v' i wr => ∃ (k q : Nat) (V : List Sl), i = .int .i64 k ∧ v' = .slice none 0 0 ∧ (k : Int) ≤ x.n ∧ q ≤ n ∧ k + 1 ≤ q ∧ V.length = k ∧ Hid (setParts P = V.map Sl.P ++ splitS P (partEnd P (P.length + 1)) (x.n.toNat - k) q) ∧
      Hid (∃ lo, setLoop P (partEnd P (P.length + 1)) (x.n.toNat - k) lo q = some P.length) ∧ Hid (OwnSls wr (w.heap.size + 1) v V) ∧ Hid (Later w.heap.size V) ∧ Hid (RdAt wr w.heap.size (.slice (some a) n c) q) ∧ Hid (Below w.heap.size w wr)) (fun _ _ i _ => (x.n - intOf i).toNat)
  case atStart => exact ⟨0, 1, [], rfl, rfl, hx0, hn1, by omega, rfl, HE.out, ⟨none, H0.out⟩, OwnSls.nil _ _, (by intro r hr; cases hr), r0, below_box _ _⟩
  case round =>
    obtain ⟨k, q, V, rfl, rfl, hk, hq, hkq, hVl, hE, hS, hO, hLt, hrd, hB⟩ := hrel
    have e0 := cell_keep hB.out d0
    by_cases hlt : (k : Int) < x.n
    · obtain ⟨e, hf, hS', hsp⟩ := setLoop_inv (by omega) hS.out
      have hle := partEnd_le _ _ _ hf
      rw [← HL.out] at hle
      have C := Lib.hid (K.out q wr hB.out hrd.out (by rw [← HL.out]; omega))
      rw [hf] at C
      have HE2 := Lib.hid (hE.out.trans (by rw [hsp] : _ = V.map Sl.P ++ (seg P q e :: splitS P (partEnd P (P.length + 1)) (x.n.toNat - (k + 1)) e)))
      have HS2 := Lib.hid hS'
      clear hE hS hS' hsp hf
      go_wp2_with fail
      refine C.out.mono ?_
      rintro e' w2 hpost
      obtain ⟨rfl, r2, g2⟩ := hpost
      have B2 := Lib.hid (hB.out.trans (below_of_grown g2 (Nat.le_refl _) hB.out.size))
      have O2 := hO.out.row g2 (own_ne hO.out.own (by omega)) hLt.out.apart
      have CL := Lib.hid (clone_nodes (a.add (q * 4)) (e - q) (c - q) (seg P q e) w2 (ns_seg (HN.out.keep B2.out) (by omega) hle.2) (by rw [seg_length (by rw [← HL.out]; omega)]; omega))
      have R2 := Lib.hid r2
      have OO2 := Lib.hid O2
      have hsz2 := B2.out.size
      have hsz3 : w.heap.size < w2.heap.size := R2.out.lt
      clear O2 r2 g2 hO hB hrd
      go_wp2_with fail
      refine CL.out.mono ?_
      rintro e' w3 hpost
      obtain ⟨A3, c3, rfl, n3, l3, b3⟩ := hpost
      have B3 := bh B2 b3
      have hO3 := OO2.out.keep b3
      have hR3 := R2.out.keep b3
      have O3 := Lib.hid hO3
      have R3 := Lib.hid hR3
      have N3 := Lib.hid (show Ns w3 (⟨A3, (seg P q e).length, c3, seg P q e⟩ : Sl).A _ _ _ from n3)
      have L3 := Lib.hid (hLt.out.snoc (r := ⟨A3, (seg P q e).length, c3, seg P q e⟩) (fun a' h' => by have := l3 a' h'; omega))
      have A3p : Hid (Apart ⟨A3, (seg P q e).length, c3, seg P q e⟩ u2.ownBlock) := by
        intro h0 a' e' q'
        have h1 := own_lt OO2.out.own a'.block q'
        have h2 := l3 a' e'
        omega
      have hsz4 := B3.out.size
      have hsz5 := b3.size
      clear b3 n3 l3 hO3 hR3 OO2 R2 B2 hLt
      go_wp2_with (at_builtin; refine wpList_append_own_at _ rfl _ _ 138 rfl (w.heap.size + 1) 27 i0 _ 1 24 Tryz.underlying138 hi hz0 hz1 hz2 rfl (by decide) _ V.length (V.map Sl.v) rfl (O3.out.own.alloc _) ⟨_, 0, none⟩ 1 1 [.slice A3 (seg P q e).length c3] rfl rfl (cell_one_new _ _ _) (by intro u hu; simp only [List.mem_cons, List.not_mem_nil, or_false] at hu; subst hu; rfl) ?c1 ?c2 ?c3 ?_)
      case c1 => unfold maxLen; omega
      case c2 => omega
      case c3 => simp; omega
      intro v1 w4 hown hgrow _ hat
      have B4 := Lib.hid ((B3.out.alloc B3.out.size _).grown hgrow (by simp; omega) (fun g hg => by have := own_base O3.out.own g hg; omega))
      have R4 := Lib.hid ((R3.out.keep (below_box w3 _)).row hgrow (own_ne' O3.out.own (by omega)))
      have O4 := Lib.hid (O3.out.snoc (r := ⟨A3, (seg P q e).length, c3, seg P q e⟩) N3.out A3p.out (by rw [hVl]; exact hown) hgrow (by simpa using hat))
      have HE4 := Lib.hid (HE2.out.trans (show _ = (V ++ [(⟨A3, (seg P q e).length, c3, seg P q e⟩ : Sl)]).map Sl.P ++ splitS P (partEnd P (P.length + 1)) (x.n.toNat - (k + 1)) e by simp))
      have hl4 : (V ++ [(⟨A3, (seg P q e).length, c3, seg P q e⟩ : Sl)]).length = k + 1 := by simp [hVl]
      clear hown hgrow hat O3 R3 N3 A3p HE2 B3
      go_wp2_with fail
      go_roundw
      case rel => exact ⟨k + 1, e, _, by go_num, rfl, by omega, by omega, by omega, hl4, HE4, HS2, O4, L3, R4, B4⟩
      case measure => simp [intOf]; omega
    · have HG := Lib.hid (hE.out.trans (show _ = V.map Sl.P by rw [show x.n.toNat - k = 0 by omega]; simp [splitS]))
      clear hE hS hrd
      go_wp2_with fail
      go_ret2
      exact ⟨_, _, V, rfl, hO.out.mono (by omega), HG.out.symm, World.ownsRow_nil _ _ _ 1, hLt.out, hB.out⟩
end Go.Proofs.YtnolmlhcikcceaaGreatDoor
