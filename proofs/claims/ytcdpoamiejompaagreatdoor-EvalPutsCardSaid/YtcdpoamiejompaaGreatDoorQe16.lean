/-
  byteStringReplacer's Replace at the table of quotes.
  name.Quote: a text between quotes.
  strings.Builder: WriteByte, WriteString, String: the library's contracts, laid.
  name.Unquote: what was quoted.
  The library's variable internal/bytealg.MaxLen: it holds some number.
  name.Write, name.Read.
  The contracts of the comparisons of texts and uids, of the program and of the reference.
  The order of nodes: val.compare, slices.CompareFunc, val.order.
  val.shaped: has a node just the fields that a value's may have?
-/
import Derived.Deep.RegionLaw
import Derived.Laws.CopyOwn
import Derived.Shelf.Strings.Builder1
import Derived.Shelf.Strings.BuilderK
import Derived.Shelf.Strings.BuilderCap
import Derived.Shelf.Lay
import Derived.Shelf.Vars
import Derived.Test.YtcdpoamiejompaaGreatDoorProg
import Derived.Test.YtcdpoamiejompaaGreatDoorQe15
namespace Go.Proofs.YtcdpoamiejompaaGreatDoor
open Go.RowKit Go.Wk
set_option maxRecDepth 100000

/-- How many bytes want a sign ahead. -/
def cntQ (l : List UInt8) : Nat := l.count 34 + l.count 92
theorem cntQ_le (l : List UInt8) : cntQ l ≤ 2 * l.length := by
  have h1 := List.count_le_length (a := (34 : UInt8)) (l := l)
  have h2 := List.count_le_length (a := (92 : UInt8)) (l := l)
  unfold cntQ; omega
theorem cntQ_succ (s : ByteArray) {k : Nat} (h : k < s.size) : cntQ (s.data.toList.take (k + 1)) = cntQ (s.data.toList.take k) + if s[k].toNat = 34 ∨ s[k].toNat = 92 then 1 else 0 := by
  have h' : k < s.data.toList.length := by simpa using h
  have e : s.data.toList.take (k + 1) = s.data.toList.take k ++ [s[k]] := by rw [List.take_succ_eq_append_getElem h']; rfl
  have t34 : s[k] = 34 ↔ s[k].toNat = 34 := ⟨fun e => by rw [e]; rfl, fun e => UInt8.toNat_inj.1 e⟩
  have t92 : s[k] = 92 ↔ s[k].toNat = 92 := ⟨fun e => by rw [e]; rfl, fun e => UInt8.toNat_inj.1 e⟩
  unfold cntQ
  rw [e, List.count_append, List.count_append, List.count_singleton, List.count_singleton]
  by_cases h1 : s[k] = 34
  · have : s[k].toNat = 34 := t34.1 h1
    simp [h1]; omega
  · by_cases h2 : s[k] = 92
    · simp [h2]; omega
    · have n1 : s[k].toNat ≠ 34 := fun e => h1 (t34.2 e)
      have n2 : s[k].toNat ≠ 92 := fun e => h2 (t92.2 e)
      simp [h1, h2, n1, n2]
theorem u8Info : (Tryz.prog.info? 5).map (fun i => (i.zero, i.size, i.bytes)) = some (some (.int .u8 0), 1, 1) := by kernel_rfl
theorem run_neq_slice_nil' (w : World) (a : Option Addr) (l c : Nat) : (binOp .neq 142 (.slice a l c) (.slice none 0 0)).run Tryz.prog w = .ok (.bool (!a.isNone)) w :=
  run_neq_slice_nil (P := Tryz.prog) w 142 5 a l c Tryz.underlying142
/-- A row of bytes of the call's own, as it lies. -/
def BufAt (w : World) (g : Nat) (cur : List Value) : Prop := w.heap[g]? = some (.cells cur.toArray 5 (0, 0))
theorem buf_new {w : World} {B g n : Nat} {xs : List Value} (h : w.ownsRow B 5 1 (.slice (some ⟨g, 0, none⟩) n n) n xs) : ∃ cur, BufAt w g cur ∧ cur.length = n := by
  rcases h.2 with ⟨h0, _⟩ | ⟨g', cap, cur, h1, h2, h3, h4, h5, h6⟩
  · cases h0
  · injection h1 with h1 _ h1c
    injection h1 with h1
    injection h1 with h1
    subst h1 h1c
    exact ⟨cur.toList, by unfold BufAt; simpa using h3, by simp; omega⟩
theorem BufAt.cell {w : World} {g : Nat} {cur : List Value} (h : BufAt w g cur) {m : Nat} {v : Value} (hm : cur[m]? = some v) : w.cell? ⟨g, m, none⟩ = some v := cell_row h (by simpa using hm)
theorem BufAt.thaw {w : World} {g : Nat} {cur : List Value} (h : BufAt w g cur) (m : Nat) : w.frozen? ⟨g, m, none⟩ = false := by
  unfold BufAt at h
  unfold World.frozen?
  rw [h]; simp
theorem BufAt.set {w : World} {g : Nat} {cur : List Value} (h : BufAt w g cur) (m : Nat) (v : Value) : BufAt (w.setCell ⟨g, m, none⟩ v) g (cur.set m v) := by
  unfold BufAt
  rw [setCell_eq_setRow w g m _ _ _ v h, setRow_heap w g _ _ _ _ h]
  simp
theorem set_take {α : Type} {l : List α} {m : Nat} (h : m < l.length) (v : α) : (l.set m v).take (m + 1) = l.take m ++ [v] := by
  rw [List.take_succ_eq_append_getElem (by simpa using h), List.getElem_set_self, List.take_set]
  congr 1
  exact List.set_eq_of_length_le (by simp; omega)
theorem splice_take {α : Type} (l : List α) (m : Nat) (cs : List α) (h : m + cs.length ≤ l.length) : (splice l m cs).take (m + cs.length) = l.take m ++ cs := by
  unfold splice
  rw [← List.append_assoc, List.take_left' (by simp; omega)]
def bvals (l : List UInt8) : List Value := l.map fun b => .int .u8 (b.toNat : Int)
theorem bvals_append (a b : List UInt8) : bvals (a ++ b) = bvals a ++ bvals b := List.map_append
theorem quo_step (s : ByteArray) {k : Nat} (h : k < s.size) : quo (s.data.toList.take (k + 1)) = quo (s.data.toList.take k) ++ if s[k].toNat = 34 ∨ s[k].toNat = 92 then [92, s[k]] else [s[k]] := by
  have h' : k < s.data.toList.length := by simpa using h
  have e : s.data.toList.take (k + 1) = s.data.toList.take k ++ [s[k]] := by rw [List.take_succ_eq_append_getElem h']; rfl
  have t34 : s[k] = 34 ↔ s[k].toNat = 34 := ⟨fun e => by rw [e]; rfl, fun e => UInt8.toNat_inj.1 e⟩
  have t92 : s[k] = 92 ↔ s[k].toNat = 92 := ⟨fun e => by rw [e]; rfl, fun e => UInt8.toNat_inj.1 e⟩
  rw [e, quo_append]
  congr 1
  by_cases h1 : s[k] = 34 ∨ s[k] = 92
  · rw [quo, if_pos h1, if_pos (h1.imp t34.1 t92.1)]; rfl
  · rw [quo, if_neg h1, if_neg (fun e => h1 (e.imp t34.2 t92.2))]; rfl
theorem quo_take_le (l : List UInt8) (k : Nat) : (quo (l.take k)).length ≤ (quo l).length := by
  conv => rhs; rw [← List.take_append_drop k l, quo_append]
  simp
theorem buf_string (w : World) (g : Nat) (s : ByteArray) (h : BufAt w g (bvals (quo s.data.toList))) :
    (convert 142 9 (.slice (some ⟨g, 0, none⟩) (quo s.data.toList).length (quo s.data.toList).length)).run Tryz.prog w = .ok (.string (bytesOf (quo s.data.toList))) w :=
  run_convert_bytes_back (P := Tryz.prog) _ 142 9 5 ⟨g, 0, none⟩ _ (quo s.data.toList) Tryz.underlying142 Tryz.underlying5 Tryz.underlying9 (fun j hj => by
    have e : (⟨g, 0, none⟩ : Addr).add j = ⟨g, j, none⟩ := by unfold Addr.add; split <;> simp_all
    rw [e]
    refine h.cell ?_
    unfold bvals
    rw [List.getElem?_map, List.getElem?_eq_getElem hj]; rfl)
theorem src_two {w w' : World} {P : Nat} {x y : Value} (hb : Below w.heap.size w w') (h : w.cell? ⟨P, 0, none⟩ = some x ∧ w.cell? ⟨P, 1, none⟩ = some y) : ∀ j v, [x, y][j]? = some v → w'.cell? ((⟨P, 0, none⟩ : Addr).add j) = some v := by
  intro j v hv
  rcases j with _ | _ | j
  · simp at hv; subst hv; exact cell_keep hb h.1
  · simp at hv; subst hv; exact cell_keep hb (by simpa [Addr.add] using h.2)
  · simp at hv
set_option maxHeartbeats 4000000 in
theorem repl_at (X T c : Nat) (f : Nat → Value) (s : ByteArray) (w : World) (R : RepAt w X f T c) (hs : s.size ≤ 60) :
    Calls Tryz.prog 295 #[.pointer (some ⟨X, 0, none⟩), .string s] w fun e w' => e = .returned (.string (bytesOf (quo s.data.toList))) ∧ Below w.heap.size w w' := by
  obtain ⟨i0, hi, hz0, hz1, hz2⟩ := info_parts u8Info
  have HR := Lib.hid R
  have c0 := R.tab.last
  have hl := size_toList s
  have n34 := List.count_le_length (a := (34 : UInt8)) (l := s.data.toList)
  have n92 := List.count_le_length (a := (92 : UInt8)) (l := s.data.toList)
  rw [hl] at n34 n92
  have K34 := Lib.hid (fun w => Tryz.strings_Count_one s 34 w)
  have K92 := Lib.hid (fun w => Tryz.strings_Count_one s 92 w)
  have EQ := Lib.hid (show cntQ s.data.toList = s.data.toList.count 34 + s.data.toList.count 92 from rfl)
  unfold Lib.countByte at K34 K92
  generalize s.data.toList.count 34 = a34 at *
  generalize s.data.toList.count 92 = a92 at *
  obtain ⟨P, d, ep, qp⟩ := R.q
  obtain ⟨Q, d', eq, qq⟩ := R.s
  have QP := Lib.hid qp
  have QQ := Lib.hid qq
  clear qp qq
  have p34 := R.tab.at_ 34 (by decide)
  have p92 := R.tab.at_ 92 (by decide)
  rw [ep] at p34
  rw [eq] at p92
  have P34 := Lib.hid p34
  have P92 := Lib.hid p92
  clear R p34 p92 ep eq
  go_enter Tryz.func295, Tryz.ntmps295
  by_cases h16 : 16 ≤ s.size
  · have hd : decide ((16 : Int) ≤ (s.size : Int)) = true := decide_eq_true (by omega)
    go_wp2_with fail
    clear c0
    go_loopw [5, 6, 8, 9, 32] (fun m y _ _ i wr => ((i = .int .i64 0 ∧ m = .int .i64 s.size ∧ y = .bool false) ∨ (i = .int .i64 1 ∧ m = .int .i64 ((s.size + a34 : Nat) : Int) ∧ y = .bool (decide (a34 ≠ 0))) ∨ (i = .int .i64 2 ∧ m = .int .i64 ((s.size + (a34 + a92) : Nat) : Int) ∧ y = .bool (decide (a34 + a92 ≠ 0)))) ∧ Hid (Below w.heap.size w wr)) (fun _ _ _ _ i _ => 2 - (intOf i).toNat)
    case atStart => exact ⟨.inl ⟨rfl, rfl, rfl⟩, Below.refl _ _⟩
    case round =>
      obtain ⟨hk, hB⟩ := hrel
      have R1 := Lib.hid (HR.out.keep hB.out)
      have r0 := R1.out.t0
      have r1 := R1.out.t1
      have q34 : ((⟨#[34]⟩ : ByteArray)[0]'(by decide)).toNat = 34 := rfl
      have q92 : ((⟨#[92]⟩ : ByteArray)[0]'(by decide)).toNat = 92 := rfl
      have p34 := cell_keep hB.out P34.out
      have p92 := cell_keep hB.out P92.out
      rcases hk with ⟨rfl, rfl, rfl⟩ | ⟨rfl, rfl, rfl⟩ | ⟨rfl, rfl, rfl⟩
      · go_wp2_with fail
        refine (K34.out wr).mono ?_
        rintro e w1 ⟨rfl, rfl⟩
        rcases a34 with _ | a
        · go_wp2_with fail
          go_roundw
          case rel => exact ⟨.inr (.inl ⟨rfl, rfl, rfl⟩), hB⟩
          case measure => simp [intOf]
        · go_wp2_with fail
          have k34 := cell_regrown p34
          refine wp_region_quiet_below (by kernel_rfl) (by kernel_rfl) ?_
          repeat (first | go_big_quiet_step (fail) | quiet_step (fail))
          refine wpQuiet_nil ?_
          intro w2 hw'
          have B2 := Lib.hid (show Below w1.heap.size w1 w2 by obtain ⟨⟨d, os⟩, rfl⟩ := hw'; exact below_regrown _ _ _)
          clear hw'
          have BX := bhid hB B2 (Nat.le_refl _)
          clear k34 hB B2 R1 r0 r1 p34 p92
          go_wp2_with fail
          go_roundw
          case rel => exact ⟨.inr (.inl ⟨rfl, by go_num, rfl⟩), BX⟩
          case measure => simp [intOf]
      · go_wp2_with fail
        refine (K92.out wr).mono ?_
        rintro e w1 ⟨rfl, rfl⟩
        rcases a92 with _ | a
        · go_wp2_with fail
          go_roundw
          case rel => exact ⟨.inr (.inr ⟨rfl, by simp, by simp⟩), hB⟩
          case measure => simp [intOf]
        · go_wp2_with fail
          have k92 := cell_regrown p92
          refine wp_region_quiet_below (by kernel_rfl) (by kernel_rfl) ?_
          repeat (first | go_big_quiet_step (fail) | quiet_step (fail))
          refine wpQuiet_nil ?_
          intro w2 hw'
          have B2 := Lib.hid (show Below w1.heap.size w1 w2 by obtain ⟨⟨d, os⟩, rfl⟩ := hw'; exact below_regrown _ _ _)
          clear hw'
          have BX := bhid hB B2 (Nat.le_refl _)
          clear k92 hB B2 R1 r0 r1 p34 p92
          go_wp2_with fail
          go_roundw
          case rel => exact ⟨.inr (.inr ⟨rfl, by go_num, by simp⟩), BX⟩
          case measure => simp [intOf]
      · have HQ := EQ
        clear K34 K92 R1 r0 r1 p34 p92 n34 n92
        generalize a34 + a92 = q at *
        rcases q with _ | q
        · have e0 : decide ((0 : Nat) ≠ 0) = false := rfl
          rw [e0]
          have Z := Lib.hid (show quo s.data.toList = s.data.toList from quo_none (by have := HQ.out; unfold cntQ at this; omega) (by have := HQ.out; unfold cntQ at this; omega))
          go_wp2_with fail
          go_ret
          exact ⟨by rw [Z.out, bytesOf_of]; rfl, hB.out⟩
        · have e0 : decide (q + 1 ≠ 0) = true := decide_eq_true (by omega)
          rw [e0]
          have hn : (quo s.data.toList).length = s.size + (q + 1) := by rw [quo_count, hl]; have := HQ.out; unfold cntQ at this; omega
          generalize s.size + (q + 1) = n at *
          have hn2 := (quo_length s.data.toList).2
          rw [hn, hl] at hn2
          have hn120 : n ≤ 120 := by omega
          have HN := Lib.hid hn
          have hsz := hB.out.size
          clear hn hn2 e0
          go_wp2_with (at_make; refine wpList_make_full _ rfl _ _ 142 rfl w.heap.size 5 i0 (.int .u8 0) 1 Tryz.underlying142 hi hz0 hz1 .i64 .i64 _ _ n rfl rfl rfl rfl (by rw [hz2]; omega) (by unfold maxLen; omega) hsz ?_; intro w0 hown0 hgrow0)
          obtain ⟨cur0, BF0, hcl0⟩ := buf_new hown0
          have B0 := Lib.hid (hB.out.trans ((grown_none hgrow0).mono hsz))
          have GB := Lib.hid (show w.heap.size ≤ wr.heap.size from hsz)
          generalize wr.heap.size = g at *
          clear hown0 hgrow0 hsz hB
          go_wp2_with fail
          go_loopw [13, 14, 15] (fun j i _ wr => ∃ (k m : Nat) (cur : List Value), k ≤ s.size ∧ i = .int .i64 k ∧ j = .int .i64 m ∧ Hid (m = (quo (s.data.toList.take k)).length) ∧ Hid (BufAt wr g cur) ∧ cur.length = n ∧ Hid (cur.take m = bvals (quo (s.data.toList.take k))) ∧ Hid (Below w.heap.size w wr)) (fun _ i _ _ => s.size - (intOf i).toNat)
          case atStart => exact ⟨0, 0, cur0, Nat.zero_le _, rfl, rfl, rfl, BF0, hcl0, rfl, B0⟩
          case round =>
            obtain ⟨k, m, cur, hk, rfl, rfl, hm, hBF, hcl, hcv, hB⟩ := hrel
            by_cases hlt : k < s.size
            · have hst := quo_step s hlt
              have hle := quo_take_le s.data.toList (k + 1)
              rw [HN.out] at hle
              have hb : s[k].toNat < 256 := UInt8.toNat_lt _
              have R1 := Lib.hid (HR.out.keep hB.out)
              have p34 := cell_keep hB.out P34.out
              have p92 := cell_keep hB.out P92.out
              have nq := run_neq_slice_nil'
              by_cases h34 : s[k].toNat = 34
              · rw [if_pos (.inl h34)] at hst
                have HST := Lib.hid hst
                rw [hst, List.length_append, ← hm.out] at hle
                simp only [List.length_cons, List.length_nil] at hle
                clear hst
                go_wp2_with fail
                have hs2 := src_two hB.out QP.out
                have e1 : m ≤ n := by omega
                have e2 : ¬ n = m := by omega
                have e3 : (m : Int) ≤ (n : Int) := by omega
                go_region_law (refine step_copy_splice rfl (.tmp 105) (.tmp 111) 142 142 rfl 5 Tryz.underlying142 (by kernel_rfl) (some ⟨g, m, none⟩) (some ⟨P, 0, none⟩) (n - m) (n - m) 2 d (by simp [Act.eval]) (by simp [Act.eval]) g m cur 5 hBF.out [.int .u8 92, .int .u8 34] (by simp [Nat.min_def]; omega) (fun _ => ⟨rfl, _, rfl, hs2⟩) (by simp; omega) (by intro v hv; simp at hv; rcases hv with rfl | rfl <;> rfl) w.heap.size w hB.out.drew GB.out ?_; intro w4 hg4 hb4)
                go_wp2_with fail
                go_roundw
                case rel => exact ⟨k + 1, m + 2, _, by omega, by go_num, by go_num, Lib.hid (by rw [HST.out, List.length_append, ← hm.out]; rfl), hg4, (length_splice _ _ _ (by simp; omega)).trans hcl, Lib.hid ((splice_take cur m [.int .u8 92, .int .u8 34] (by simp; omega)).trans (by rw [HST.out, bvals_append, hcv.out]; simp [bvals, h34])), hb4⟩
                case measure => simp [intOf]; omega
              · by_cases h92 : s[k].toNat = 92
                · rw [if_pos (.inr h92)] at hst
                  have HST := Lib.hid hst
                  rw [hst, List.length_append, ← hm.out] at hle
                  simp only [List.length_cons, List.length_nil] at hle
                  clear hst
                  go_wp2_with fail
                  have hs2 := src_two hB.out QQ.out
                  have e1 : m ≤ n := by omega
                  have e2 : ¬ n = m := by omega
                  have e3 : (m : Int) ≤ (n : Int) := by omega
                  go_region_law (refine step_copy_splice rfl (.tmp 105) (.tmp 111) 142 142 rfl 5 Tryz.underlying142 (by kernel_rfl) (some ⟨g, m, none⟩) (some ⟨Q, 0, none⟩) (n - m) (n - m) 2 d' (by simp [Act.eval]) (by simp [Act.eval]) g m cur 5 hBF.out [.int .u8 92, .int .u8 92] (by simp [Nat.min_def]; omega) (fun _ => ⟨rfl, _, rfl, hs2⟩) (by simp; omega) (by intro v hv; simp at hv; rcases hv with rfl | rfl <;> rfl) w.heap.size w hB.out.drew GB.out ?_; intro w4 hg4 hb4)
                  go_wp2_with fail
                  go_roundw
                  case rel => exact ⟨k + 1, m + 2, _, by omega, by go_num, by go_num, Lib.hid (by rw [HST.out, List.length_append, ← hm.out]; rfl), hg4, (length_splice _ _ _ (by simp; omega)).trans hcl, Lib.hid ((splice_take cur m [.int .u8 92, .int .u8 92] (by simp; omega)).trans (by rw [HST.out, bvals_append, hcv.out]; simp [bvals, h92])), hb4⟩
                  case measure => simp [intOf]; omega
                · rw [if_neg (fun e => e.elim h34 h92)] at hst
                  have HST := Lib.hid hst
                  rw [hst, List.length_append, ← hm.out] at hle
                  simp only [List.length_cons, List.length_nil] at hle
                  have pn := R1.out.tab.at_ s[k].toNat hb
                  rw [R1.out.o _ h34 h92] at pn
                  have e1 : m < n := by omega
                  have e3 : (m : Int) < (n : Int) := by omega
                  have hml : m < cur.length := by omega
                  have d0 := hBF.out.cell (List.getElem?_eq_getElem hml)
                  have d1 := hBF.out.thaw m
                  clear hst
                  go_wp2_with fail
                  go_roundw
                  case rel => exact ⟨k + 1, m + 1, _, by omega, by go_num, by go_num, Lib.hid (by rw [HST.out, List.length_append, ← hm.out]; rfl), Lib.hid (hBF.out.set m _), by simpa using hcl, Lib.hid ((set_take hml _).trans (by rw [HST.out, bvals_append, hcv.out]; rfl)), hB.out.setCell (p := ⟨g, m, none⟩) GB.out _⟩
                  case measure => simp [intOf]; omega
            · have ek : s.data.toList.take k = s.data.toList := List.take_of_length_le (by omega)
              rw [ek] at hm hcv
              have hlm : cur.length ≤ m := by rw [hcl, hm.out, HN.out]; exact Nat.le_refl _
              have hcv2 : cur = bvals (quo s.data.toList) := by
                have := hcv.out
                rwa [List.take_of_length_le hlm] at this
              have hcvt := buf_string wr g s (hcv2 ▸ hBF.out)
              rw [HN.out] at hcvt
              clear ek hm hcv hcl hcv2
              go_wp2_with fail
              go_ret
              exact ⟨rfl, hB.out⟩
  · have hd : decide ((16 : Int) ≤ (s.size : Int)) = false := decide_eq_false (by omega)
    go_wp2_with fail
    clear c0
    go_loopw [5, 6, 10, 11] (fun m y i _ wr => ∃ k : Nat, k ≤ s.size ∧ i = .int .i64 k ∧ m = .int .i64 ((s.size + cntQ (s.data.toList.take k) : Nat) : Int) ∧ y = .bool (decide (cntQ (s.data.toList.take k) ≠ 0)) ∧ Hid (Below w.heap.size w wr)) (fun _ _ i _ _ => s.size - (intOf i).toNat)
    case atStart => exact ⟨0, Nat.zero_le _, rfl, rfl, rfl, Below.refl _ _⟩
    case round =>
      obtain ⟨k, hk, rfl, rfl, rfl, hB⟩ := hrel
      by_cases hlt : k < s.size
      · have hc := cntQ_succ s hlt
        have HC := Lib.hid hc
        have hcl := cntQ_le (s.data.toList.take k)
        have htl : (s.data.toList.take k).length ≤ k := List.length_take_le _ _
        have hb : s[k].toNat < 256 := UInt8.toNat_lt _
        have R1 := Lib.hid (HR.out.keep hB.out)
        have p34 := cell_keep hB.out P34.out
        have p92 := cell_keep hB.out P92.out
        have nq := run_neq_slice_nil'
        by_cases h34 : s[k].toNat = 34
        · rw [if_pos (.inl h34)] at hc
          go_wp2_with fail
          go_roundw
          case rel => exact ⟨k + 1, by omega, by go_num, by rw [HC.out, if_pos (.inl h34)]; go_num, by rw [HC.out, if_pos (.inl h34)]; simp, hB⟩
          case measure => simp [intOf]; omega
        · by_cases h92 : s[k].toNat = 92
          · rw [if_pos (.inr h92)] at hc
            go_wp2_with fail
            go_roundw
            case rel => exact ⟨k + 1, by omega, by go_num, by rw [HC.out, if_pos (.inr h92)]; go_num, by rw [HC.out, if_pos (.inr h92)]; simp, hB⟩
            case measure => simp [intOf]; omega
          · rw [if_neg (fun e => e.elim h34 h92)] at hc
            have pn := R1.out.tab.at_ s[k].toNat hb
            rw [R1.out.o _ h34 h92] at pn
            go_wp2_with fail
            go_roundw
            case rel => exact ⟨k + 1, by omega, by go_num, by rw [HC.out, if_neg (fun e => e.elim h34 h92)]; rfl, by rw [HC.out, if_neg (fun e => e.elim h34 h92)]; rfl, hB⟩
            case measure => simp [intOf]; omega
      · have HQ := Lib.hid (show cntQ s.data.toList = cntQ (s.data.toList.take k) by rw [List.take_of_length_le (by omega)])
        generalize cntQ (s.data.toList.take k) = q at *
        clear K34 K92 n34 n92 EQ
        rcases q with _ | q
        · have e0 : decide ((0 : Nat) ≠ 0) = false := rfl
          rw [e0]
          have Z := Lib.hid (show quo s.data.toList = s.data.toList from quo_none (by have := HQ.out; unfold cntQ at this; omega) (by have := HQ.out; unfold cntQ at this; omega))
          go_wp2_with fail
          go_ret
          exact ⟨by rw [Z.out, bytesOf_of]; rfl, hB.out⟩
        · have e0 : decide (q + 1 ≠ 0) = true := decide_eq_true (by omega)
          rw [e0]
          have hn : (quo s.data.toList).length = s.size + (q + 1) := by rw [quo_count, hl]; have := HQ.out; unfold cntQ at this; omega
          generalize s.size + (q + 1) = n at *
          have hn2 := (quo_length s.data.toList).2
          rw [hn, hl] at hn2
          have hn120 : n ≤ 120 := by omega
          have HN := Lib.hid hn
          have hsz := hB.out.size
          clear hn hn2 e0
          go_wp2_with (at_make; refine wpList_make_full _ rfl _ _ 142 rfl w.heap.size 5 i0 (.int .u8 0) 1 Tryz.underlying142 hi hz0 hz1 .i64 .i64 _ _ n rfl rfl rfl rfl (by rw [hz2]; omega) (by unfold maxLen; omega) hsz ?_; intro w0 hown0 hgrow0)
          obtain ⟨cur0, BF0, hcl0⟩ := buf_new hown0
          have B0 := Lib.hid (hB.out.trans ((grown_none hgrow0).mono hsz))
          have GB := Lib.hid (show w.heap.size ≤ wr.heap.size from hsz)
          generalize wr.heap.size = g at *
          clear hown0 hgrow0 hsz hB
          go_wp2_with fail
          go_loopw [13, 14, 15] (fun j i _ wr => ∃ (k m : Nat) (cur : List Value), k ≤ s.size ∧ i = .int .i64 k ∧ j = .int .i64 m ∧ Hid (m = (quo (s.data.toList.take k)).length) ∧ Hid (BufAt wr g cur) ∧ cur.length = n ∧ Hid (cur.take m = bvals (quo (s.data.toList.take k))) ∧ Hid (Below w.heap.size w wr)) (fun _ i _ _ => s.size - (intOf i).toNat)
          case atStart => exact ⟨0, 0, cur0, Nat.zero_le _, rfl, rfl, rfl, BF0, hcl0, rfl, B0⟩
          case round =>
            obtain ⟨k, m, cur, hk, rfl, rfl, hm, hBF, hcl, hcv, hB⟩ := hrel
            by_cases hlt : k < s.size
            · have hst := quo_step s hlt
              have hle := quo_take_le s.data.toList (k + 1)
              rw [HN.out] at hle
              have hb : s[k].toNat < 256 := UInt8.toNat_lt _
              have R1 := Lib.hid (HR.out.keep hB.out)
              have p34 := cell_keep hB.out P34.out
              have p92 := cell_keep hB.out P92.out
              have nq := run_neq_slice_nil'
              by_cases h34 : s[k].toNat = 34
              · rw [if_pos (.inl h34)] at hst
                have HST := Lib.hid hst
                rw [hst, List.length_append, ← hm.out] at hle
                simp only [List.length_cons, List.length_nil] at hle
                clear hst
                go_wp2_with fail
                have hs2 := src_two hB.out QP.out
                have e1 : m ≤ n := by omega
                have e2 : ¬ n = m := by omega
                have e3 : (m : Int) ≤ (n : Int) := by omega
                go_region_law (refine step_copy_splice rfl (.tmp 105) (.tmp 111) 142 142 rfl 5 Tryz.underlying142 (by kernel_rfl) (some ⟨g, m, none⟩) (some ⟨P, 0, none⟩) (n - m) (n - m) 2 d (by simp [Act.eval]) (by simp [Act.eval]) g m cur 5 hBF.out [.int .u8 92, .int .u8 34] (by simp [Nat.min_def]; omega) (fun _ => ⟨rfl, _, rfl, hs2⟩) (by simp; omega) (by intro v hv; simp at hv; rcases hv with rfl | rfl <;> rfl) w.heap.size w hB.out.drew GB.out ?_; intro w4 hg4 hb4)
                go_wp2_with fail
                go_roundw
                case rel => exact ⟨k + 1, m + 2, _, by omega, by go_num, by go_num, Lib.hid (by rw [HST.out, List.length_append, ← hm.out]; rfl), hg4, (length_splice _ _ _ (by simp; omega)).trans hcl, Lib.hid ((splice_take cur m [.int .u8 92, .int .u8 34] (by simp; omega)).trans (by rw [HST.out, bvals_append, hcv.out]; simp [bvals, h34])), hb4⟩
                case measure => simp [intOf]; omega
              · by_cases h92 : s[k].toNat = 92
                · rw [if_pos (.inr h92)] at hst
                  have HST := Lib.hid hst
                  rw [hst, List.length_append, ← hm.out] at hle
                  simp only [List.length_cons, List.length_nil] at hle
                  clear hst
                  go_wp2_with fail
                  have hs2 := src_two hB.out QQ.out
                  have e1 : m ≤ n := by omega
                  have e2 : ¬ n = m := by omega
                  have e3 : (m : Int) ≤ (n : Int) := by omega
                  go_region_law (refine step_copy_splice rfl (.tmp 105) (.tmp 111) 142 142 rfl 5 Tryz.underlying142 (by kernel_rfl) (some ⟨g, m, none⟩) (some ⟨Q, 0, none⟩) (n - m) (n - m) 2 d' (by simp [Act.eval]) (by simp [Act.eval]) g m cur 5 hBF.out [.int .u8 92, .int .u8 92] (by simp [Nat.min_def]; omega) (fun _ => ⟨rfl, _, rfl, hs2⟩) (by simp; omega) (by intro v hv; simp at hv; rcases hv with rfl | rfl <;> rfl) w.heap.size w hB.out.drew GB.out ?_; intro w4 hg4 hb4)
                  go_wp2_with fail
                  go_roundw
                  case rel => exact ⟨k + 1, m + 2, _, by omega, by go_num, by go_num, Lib.hid (by rw [HST.out, List.length_append, ← hm.out]; rfl), hg4, (length_splice _ _ _ (by simp; omega)).trans hcl, Lib.hid ((splice_take cur m [.int .u8 92, .int .u8 92] (by simp; omega)).trans (by rw [HST.out, bvals_append, hcv.out]; simp [bvals, h92])), hb4⟩
                  case measure => simp [intOf]; omega
                · rw [if_neg (fun e => e.elim h34 h92)] at hst
                  have HST := Lib.hid hst
                  rw [hst, List.length_append, ← hm.out] at hle
                  simp only [List.length_cons, List.length_nil] at hle
                  have pn := R1.out.tab.at_ s[k].toNat hb
                  rw [R1.out.o _ h34 h92] at pn
                  have e1 : m < n := by omega
                  have e3 : (m : Int) < (n : Int) := by omega
                  have hml : m < cur.length := by omega
                  have d0 := hBF.out.cell (List.getElem?_eq_getElem hml)
                  have d1 := hBF.out.thaw m
                  clear hst
                  go_wp2_with fail
                  go_roundw
                  case rel => exact ⟨k + 1, m + 1, _, by omega, by go_num, by go_num, Lib.hid (by rw [HST.out, List.length_append, ← hm.out]; rfl), Lib.hid (hBF.out.set m _), by simpa using hcl, Lib.hid ((set_take hml _).trans (by rw [HST.out, bvals_append, hcv.out]; rfl)), hB.out.setCell (p := ⟨g, m, none⟩) GB.out _⟩
                  case measure => simp [intOf]; omega
            · have ek : s.data.toList.take k = s.data.toList := List.take_of_length_le (by omega)
              rw [ek] at hm hcv
              have hlm : cur.length ≤ m := by rw [hcl, hm.out, HN.out]; exact Nat.le_refl _
              have hcv2 : cur = bvals (quo s.data.toList) := by
                have := hcv.out
                rwa [List.take_of_length_le hlm] at this
              have hcvt := buf_string wr g s (hcv2 ▸ hBF.out)
              rw [HN.out] at hcvt
              clear ek hm hcv hcl hcv2
              go_wp2_with fail
              go_ret
              exact ⟨rfl, hB.out⟩
end Go.Proofs.YtcdpoamiejompaaGreatDoor
namespace Go.Proofs.YtcdpoamiejompaaGreatDoor
open Go.RowKit Go.Wk
set_option maxRecDepth 100000

/-- (*Replacer).Replace at a replacer that has not been built. -/
theorem repl_replace (b G C : Nat) (s : ByteArray) (w : World) (h : NewRep w b G C) (hbG : b ≠ G) (hs : s.size ≤ 60) :
    Calls Tryz.prog 105 #[.pointer (some ⟨b, 0, none⟩), .string s] w fun e w' => e = .returned (.string (bytesOf (quo s.data.toList))) ∧ ∃ w1, w.grownBy w1 (some b) ∧ Below w1.heap.size w1 w' := by
  have K := Lib.hid (repl_do b G C w h hbG)
  clear h
  go_enter Tryz.func105, Tryz.ntmps105
  go_wp2_with fail
  refine (K.out).mono ?_
  rintro e w1 ⟨X, f, T, c, rfl, hX, R, h3, hg⟩
  have KR := Lib.hid (repl_at X T c f s w1 R hs)
  have HG := Lib.hid hg
  clear R hg K
  go_wp2_with fail
  refine (KR.out).mono ?_
  rintro e w2 ⟨rfl, b2⟩
  go_wp2_with fail
  go_ret
  exact ⟨rfl, w1, HG.out, b2⟩

theorem quoted_sum (s : ByteArray) : (⟨#[34]⟩ : ByteArray) ++ bytesOf (quo s.data.toList) ++ ⟨#[34]⟩ = Wk.quoted s := by
  refine bytes_ext ?_
  rw [quoted_data]
  simp [ByteArray.data_append, bytesOf]
theorem name_Quote (s : ByteArray) (w : World) (hs : s.size ≤ maxLen) :
    Calls Tryz.prog 60 #[.string s] w fun e w' => e = .returned (.tuple #[.string (quoV s), errV (textFault s)]) ∧ Below w.heap.size w w' := by
  have K := Lib.hid (name_Plain s w hs)
  by_cases h0 : textFault s = 0
  · rw [h0, errV_zero] at K
    have h60 : s.size ≤ 60 := by
      unfold textFault at h0
      by_cases h : 60 < s.size
      · rw [if_pos h] at h0; cases h0
      · omega
    have HV := Lib.hid (show quoV s = Wk.quoted s from if_pos h0)
    rw [h0, errV_zero, HV.out]
    clear h0
    go_enter Tryz.func60, Tryz.ntmps60
    go_wp2_with fail
    refine (K.out).mono ?_
    rintro e w1 ⟨rfl, b1⟩
    have B1 := Lib.hid b1
    clear b1 K
    go_wp2_with fail
    have T2 := Lib.hid (cells_new w1 [.string ⟨#[92]⟩, .string ⟨#[92, 92]⟩, .string ⟨#[34]⟩, .string ⟨#[92, 34]⟩] 9)
    have B2 := bh B1 (below_box w1 (.cells #[.string ⟨#[92]⟩, .string ⟨#[92, 92]⟩, .string ⟨#[34]⟩, .string ⟨#[92, 34]⟩] 9))
    obtain ⟨w2, hw2⟩ : ∃ w2, w1.alloc (.cells #[.string ⟨#[92]⟩, .string ⟨#[92, 92]⟩, .string ⟨#[34]⟩, .string ⟨#[92, 34]⟩] 9) = w2 := ⟨_, rfl⟩
    have e2 : w1.alloc (.cells [Value.string ⟨#[92]⟩, .string ⟨#[92, 92]⟩, .string ⟨#[34]⟩, .string ⟨#[92, 34]⟩].toArray 9) = w2 := hw2
    rw [e2] at T2
    rw [hw2] at B2 ⊢
    clear hw2 e2
    refine (repl_new w1.heap.size w2 (by simpa [Addr.add] using T2.out 0 _ rfl) (by simpa [Addr.add] using T2.out 1 _ rfl) (by simpa [Addr.add] using T2.out 2 _ rfl) (by simpa [Addr.add] using T2.out 3 _ rfl)).mono ?_
    rintro e w3 ⟨b, G, C, rfl, hN, hbG, hb, b3⟩
    have B3 := bh B2 b3
    have KR := Lib.hid (repl_replace b G C s w3 hN hbG h60)
    have HB := Lib.hid (show w.heap.size ≤ b from Nat.le_trans B2.out.size hb)
    clear T2 hN b3 B2 hb hbG B1
    go_wp2_with fail
    refine (KR.out).mono ?_
    rintro e w4 ⟨rfl, w5, hg, b4⟩
    have B4 := Lib.hid ((B3.out.trans (below_of_grown hg HB.out B3.out.size)).trans (b4.mono (Nat.le_trans B3.out.size hg.size)))
    clear KR hg b4
    have hz : (bytesOf (quo s.data.toList)).size ≤ 120 := by
      rw [bytesOf_size]
      have := (quo_length s.data.toList).2
      rw [size_toList] at this
      omega
    have HS := Lib.hid (quoted_sum s)
    generalize bytesOf (quo s.data.toList) = q at *
    go_wp2_with fail
    go_ret2
    exact ⟨by rw [← HS.out]; rfl, B4.out⟩
  · have HE := Lib.hid (errV_ne h0)
    have HV := Lib.hid (show quoV s = ⟨#[]⟩ from if_neg h0)
    rw [HE.out] at K
    rw [HE.out, HV.out]
    clear h0
    go_enter Tryz.func60, Tryz.ntmps60
    go_wp2_with fail
    refine (K.out).mono ?_
    rintro e w1 ⟨rfl, b1⟩
    have B1 := Lib.hid b1
    clear b1 K
    go_wp2_with fail
    go_ret2
    exact ⟨rfl, B1.out⟩
end Go.Proofs.YtcdpoamiejompaaGreatDoor
namespace Go.Proofs.YtcdpoamiejompaaGreatDoor
open Go.RowKit Go.Shelf
set_option maxRecDepth 100000

/-- Block b is a builder that holds these bytes. -/
def Bld (B b : Nat) (l : List UInt8) (w : World) : Prop := Lib.IsBuilderF 346 5 B b (Lib.byteCells l) w
theorem Bld.keep {B b : Nat} {l : List UInt8} {w w' : World} (h : Bld B b l w) (hb : Below w.heap.size w w') : Bld B b l w' := by
  have go : ∀ p, Lib.BuilderAtF 346 5 B b p (Lib.byteCells l) w → Lib.BuilderAtF 346 5 B b p (Lib.byteCells l) w' := by
    rintro p ⟨h1, v, h2, h3, h4⟩
    have hlt := (Array.getElem?_eq_some_iff.1 h2).1
    refine ⟨h1, v, ?_, h3.kept (row := none) ⟨hb.os, hb.tape, hb.output, hb.size, fun k hk _ => hb.block k hk⟩ (by cases hv : v.ownBlock <;> simp), h4⟩
    rw [hb.block b hlt]; exact h2
  exact h.imp (go _) (go _)
theorem Bld.lt {B b : Nat} {l : List UInt8} {w : World} (h : Bld B b l w) : b < w.heap.size := by
  rcases h with ⟨_, v, q, _⟩ | ⟨_, v, q, _⟩ <;> exact (Array.getElem?_eq_some_iff.1 q).1
end Go.Proofs.YtcdpoamiejompaaGreatDoor
namespace Go.Proofs.YtcdpoamiejompaaGreatDoor
open Go.RowKit Go.Wk
set_option maxRecDepth 100000

end Go.Proofs.YtcdpoamiejompaaGreatDoor
namespace Go.Proofs.YtcdpoamiejompaaGreatDoor
open Go.RowKit

/-- internal/bytealg.MaxLen holds some number. -/
def Max (w : World) : Prop := ∃ m : Int, w.cell? ⟨1, 0, none⟩ = some (.int .i64 m)
theorem Max.keep {w w' : World} (h : Max w) (hb : Below w.heap.size w w') : Max w' := let ⟨m, hm⟩ := h; ⟨m, cell_keep hb hm⟩
end Go.Proofs.YtcdpoamiejompaaGreatDoor
namespace Go.Proofs.YtcdpoamiejompaaGreatDoor
open Go.RowKit Go.Wk
set_option maxRecDepth 100000

theorem two_cells (w : World) (x y : Value) (t : TypeId) : (w.alloc (.cells #[x, y] t)).cell? ⟨w.heap.size, 0, none⟩ = some x ∧ (w.alloc (.cells #[x, y] t)).cell? ⟨w.heap.size, 1, none⟩ = some y :=
  ⟨cell_row (heap_alloc_last w _) rfl, cell_row (heap_alloc_last w _) rfl⟩
set_option maxHeartbeats 1000000 in
theorem name_Write (a b : ByteArray) (w : World) (ha : a.size ≤ maxLen) (hb : b.size ≤ maxLen) :
    Calls Tryz.prog 35 #[.agg #[.string a, .string b]] w fun e w' => e = .returned (.tuple #[.string (wrtV (a, b)), errV (uidFault (a, b))]) ∧ Below w.heap.size w w' := by
  have KC := Lib.hid (fun w => name_Check a w ha)
  have KQ := Lib.hid (fun w => name_Quote b w hb)
  have CC := Lib.hid (two_cells w (.string a) (.string b) 24)
  have B0 := Lib.hid (below_box w (.cells #[.string a, .string b] 24))
  by_cases h1 : nameFault a = 0
  · have HE := Lib.hid (show uidFault (a, b) = textFault b from if_pos h1)
    rw [h1, errV_zero] at KC
    have hna := name_le h1
    by_cases h2 : textFault b = 0
    · have HV := Lib.hid (show wrtV (a, b) = wrt (a, b) from if_pos (uidFault_zero.2 ⟨h1, h2⟩))
      have hq := quo_length b.data.toList
      have htb := text_le h2
      have hqs : (Wk.quoted b).size ≤ 122 := by rw [quoted_size]; rw [size_toList] at hq; omega
      have HS := Lib.hid (wrt_sum (a, b))
      unfold quoV at KQ
      rw [h2, errV_zero, if_pos rfl] at KQ
      rw [HE.out, HV.out, h2, errV_zero]
      clear h1 h2 hq
      go_enter Tryz.func35, Tryz.ntmps35
      go_wp2_with fail
      obtain ⟨w0, hw0⟩ : ∃ w0, w.alloc (.cells #[.string a, .string b] 24) = w0 := ⟨_, rfl⟩
      rw [hw0] at CC B0 ⊢
      clear hw0
      refine (KC.out w0).mono ?_
      rintro e w1 ⟨rfl, b1⟩
      have B1 := bh B0 b1
      have c0 := cell_keep b1 CC.out.1
      have c1 := cell_keep b1 CC.out.2
      clear KC B0 CC
      go_wp2_with fail
      refine (KQ.out w1).mono ?_
      rintro e w2 ⟨rfl, b2⟩
      have B2 := bh B1 b2
      have d0 := cell_keep b2 c0
      have d1 := cell_keep b2 c1
      clear KQ B1 c0 c1 b1 b2
      generalize Wk.quoted b = q at *
      go_wp2_with fail
      go_ret2
      exact ⟨by rw [← HS.out]; rfl, B2.out⟩
    · have HV := Lib.hid (show wrtV (a, b) = ⟨#[]⟩ from if_neg (fun h => h2 (uidFault_zero.1 h).2))
      rw [errV_ne h2] at KQ
      rw [HE.out, HV.out, errV_ne h2]
      clear h1 h2
      go_enter Tryz.func35, Tryz.ntmps35
      go_wp2_with fail
      obtain ⟨w0, hw0⟩ : ∃ w0, w.alloc (.cells #[.string a, .string b] 24) = w0 := ⟨_, rfl⟩
      rw [hw0] at CC B0 ⊢
      clear hw0
      refine (KC.out w0).mono ?_
      rintro e w1 ⟨rfl, b1⟩
      have B1 := bh B0 b1
      have c0 := cell_keep b1 CC.out.1
      have c1 := cell_keep b1 CC.out.2
      clear KC B0 CC
      go_wp2_with fail
      refine (KQ.out w1).mono ?_
      rintro e w2 ⟨rfl, b2⟩
      have B2 := bh B1 b2
      clear KQ B1 c0 c1 b1 b2
      go_wp2_with fail
      go_ret2
      exact ⟨rfl, B2.out⟩
  · have HE := Lib.hid (show uidFault (a, b) = nameFault a from if_neg h1)
    have HV := Lib.hid (show wrtV (a, b) = ⟨#[]⟩ from if_neg (fun h => h1 (uidFault_zero.1 h).1))
    rw [errV_ne h1] at KC
    rw [HE.out, HV.out, errV_ne h1]
    clear h1
    go_enter Tryz.func35, Tryz.ntmps35
    go_wp2_with fail
    obtain ⟨w0, hw0⟩ : ∃ w0, w.alloc (.cells #[.string a, .string b] 24) = w0 := ⟨_, rfl⟩
    rw [hw0] at CC B0 ⊢
    clear hw0
    refine (KC.out w0).mono ?_
    rintro e w1 ⟨rfl, b1⟩
    have B1 := bh B0 b1
    clear KC B0 CC b1
    go_wp2_with fail
    go_ret2
    exact ⟨rfl, B1.out⟩

/-- A variable of two cells of the call's own. -/
structure Vr2 (w : World) (b : Nat) (x y : Value) : Prop where
  c0 : w.cell? ⟨b, 0, none⟩ = some x
  c1 : w.cell? ⟨b, 1, none⟩ = some y
  z0 : w.frozen? ⟨b, 0, none⟩ = false
  z1 : w.frozen? ⟨b, 1, none⟩ = false
theorem Vr2.keep {w w' : World} {b : Nat} {x y : Value} (h : Vr2 w b x y) (hb : Below w.heap.size w w') : Vr2 w' b x y :=
  have hl := block_lt_of_cell h.c0
  ⟨cell_keep hb h.c0, cell_keep hb h.c1, by rw [(bcell hb).2 b 0 hl]; exact h.z0, by rw [(bcell hb).2 b 1 hl]; exact h.z1⟩
theorem vr2_new (w : World) (x y : Value) (t : TypeId) : Vr2 (w.alloc (.cells #[x, y] t)) w.heap.size x y :=
  ⟨(two_cells w x y t).1, (two_cells w x y t).2, by simp, by simp⟩
theorem Vr2.set {w : World} {b : Nat} {x y : Value} (h : Vr2 w b x y) (x' y' : Value) : Vr2 ((w.setCell ⟨b, 0, none⟩ x').setCell ⟨b, 1, none⟩ y') b x' y' := by
  have h1 : (w.setCell ⟨b, 0, none⟩ x').cell? ⟨b, 1, none⟩ = some y := (World.cell?_setCell_other _ ⟨b, 0, none⟩ ⟨b, 1, none⟩ _ (by intro e; injection e with _ e; cases e)).trans h.c1
  refine ⟨(World.cell?_setCell_other _ ⟨b, 1, none⟩ ⟨b, 0, none⟩ _ (by intro e; injection e with _ e; cases e)).trans (World.cell?_setCell_same _ _ _ h.c0), World.cell?_setCell_same _ _ _ h1, ?_, ?_⟩
  · rw [World.frozen?_setCell, World.frozen?_setCell]; exact h.z0
  · rw [World.frozen?_setCell, World.frozen?_setCell]; exact h.z1
end Go.Proofs.YtcdpoamiejompaaGreatDoor
namespace Go.Proofs.YtcdpoamiejompaaGreatDoor
open Go.RowKit Go.Wk
set_option maxRecDepth 100000

theorem strings_Compare (a b : ByteArray) (w : World) :
    Calls Tryz.prog 147 #[.string a, .string b] w fun e w' => e = .returned (.int .i64 (cmpB a b)) ∧ w' = w := Tryz.strings_Compare a b w

theorem ref_Numbers (a b : Int) (w : World) :
    Calls Tryz.prog 153 #[.int .i64 a, .int .i64 b] w fun e w' => e = .returned (.int .i64 (cmpI a b)) ∧ w = w' := by
  by_cases h1 : a < b
  · go_enter Tryz.func153, Tryz.ntmps153
    go_wp2
    go_ret
    exact ⟨ret_i64 (by unfold cmpI; split <;> (try split) <;> omega), rfl⟩
  · by_cases h2 : b < a
    · go_enter Tryz.func153, Tryz.ntmps153
      go_wp2
      go_ret
      exact ⟨ret_i64 (by unfold cmpI; split <;> (try split) <;> omega), rfl⟩
    · go_enter Tryz.func153, Tryz.ntmps153
      go_wp2
      go_ret
      exact ⟨ret_i64 (by unfold cmpI; split <;> (try split) <;> omega), rfl⟩

theorem cmpB_at (a b : ByteArray) : cmpB a b = Lib.compareBytes (a.data.toList.drop 0) (b.data.toList.drop 0) := rfl
theorem cmpB_less {a b : ByteArray} {k : Nat} (h1 : k < a.size) (h2 : k < b.size) (hc : cmpB a b = Lib.compareBytes (a.data.toList.drop k) (b.data.toList.drop k)) (h : (a[k].toNat : Int) < b[k].toNat) : cmpB a b = -1 :=
  hc.trans (compareBytes_less (by simpa using h1) (by simpa using h2) (UInt8.lt_iff_toNat_lt.2 (show a[k].toNat < b[k].toNat by omega)))
theorem cmpB_more {a b : ByteArray} {k : Nat} (h1 : k < a.size) (h2 : k < b.size) (hc : cmpB a b = Lib.compareBytes (a.data.toList.drop k) (b.data.toList.drop k)) (h : (b[k].toNat : Int) < a[k].toNat) : cmpB a b = 1 :=
  hc.trans (compareBytes_more (by simpa using h1) (by simpa using h2) (UInt8.lt_iff_toNat_lt.2 (show b[k].toNat < a[k].toNat by omega)))
theorem cmpB_step {a b : ByteArray} {k : Nat} (h1 : k < a.size) (h2 : k < b.size) (hc : cmpB a b = Lib.compareBytes (a.data.toList.drop k) (b.data.toList.drop k)) (h : (a[k].toNat : Int) = b[k].toNat) :
    cmpB a b = Lib.compareBytes (a.data.toList.drop (k + 1)) (b.data.toList.drop (k + 1)) :=
  hc.trans (compareBytes_step (by simpa using h1) (by simpa using h2) (UInt8.toNat_inj.1 (show a[k].toNat = b[k].toNat by omega)))
theorem cmpB_end {a b : ByteArray} {k : Nat} (h : a.size ≤ k ∨ b.size ≤ k) (ha : k ≤ a.size) (hb : k ≤ b.size) (hc : cmpB a b = Lib.compareBytes (a.data.toList.drop k) (b.data.toList.drop k)) : cmpB a b = cmpI a.size b.size :=
  hc.trans ((compareBytes_end (by simpa using h) (by simpa using ha) (by simpa using hb)).trans (by simp))

set_option maxHeartbeats 400000 in
theorem ref_Texts (a b : ByteArray) (w : World) (ha : a.size ≤ maxLen) (_hb : b.size ≤ maxLen) :
    Calls Tryz.prog 113 #[.string a, .string b] w fun e w' => e = .returned (.int .i64 (cmpB a b)) ∧ Below w.heap.size w w' := by
  unfold maxLen at ha _hb
  go_enter Tryz.func113, Tryz.ntmps113
  go_wp2
  go_loopw [4, 5] (fun r i wr => ∃ k : Nat, k ≤ a.size ∧ k ≤ b.size ∧ i = .int .i64 k ∧ r = .int .i64 0 ∧ Hid (cmpB a b = Lib.compareBytes (a.data.toList.drop k) (b.data.toList.drop k)) ∧ Below w.heap.size w wr) (fun _ i _ => a.size - (intOf i).toNat)
  case atStart => exact ⟨0, Nat.zero_le _, Nat.zero_le _, rfl, rfl, cmpB_at a b, Below.refl _ _⟩
  case round =>
    obtain ⟨k, hka, hkb, rfl, rfl, hc, hbel⟩ := hrel
    by_cases h1 : k < a.size
    · by_cases h2 : k < b.size
      · by_cases e1 : (a[k].toNat : Int) < b[k].toNat
        · have H := Lib.hid (cmpB_less h1 h2 hc.out e1); clear hc
          go_wp2
          go_quiet (fail)
          go_wp2
          go_ret
          exact ⟨ret_i64 H.out.symm, by first | exact hbel.drewN _ | exact (hbel.drewN _).drewN _⟩
        · by_cases e2 : (b[k].toNat : Int) < a[k].toNat
          · have H := Lib.hid (cmpB_more h1 h2 hc.out e2); clear hc
            go_wp2
            go_quiet (fail)
            go_wp2
            go_quiet (fail)
            go_wp2
            go_ret
            exact ⟨ret_i64 H.out.symm, by first | exact hbel.drewN _ | exact (hbel.drewN _).drewN _⟩
          · have H := Lib.hid (cmpB_step h1 h2 hc.out (by omega)); clear hc
            go_wp2
            go_quiet (fail)
            go_wp2
            go_quiet (fail)
            go_wp2
            go_roundw
            case rel => exact ⟨k + 1, by omega, by omega, by go_num, rfl, H, by first | exact hbel.drewN _ | exact (hbel.drewN _).drewN _⟩
            case measure => simp [intOf]; omega
      · have H := Lib.hid (cmpB_end (.inr (by omega)) hka hkb hc.out); clear hc
        go_wp2_with (go_at_call 153; refine (ref_Numbers _ _ _).mono ?_; rintro e w' ⟨rfl, rfl⟩)
        go_ret
        exact ⟨ret_i64 H.out.symm, hbel⟩
    · have H := Lib.hid (cmpB_end (.inl (by omega)) hka hkb hc.out); clear hc
      go_wp2_with (go_at_call 153; refine (ref_Numbers _ _ _).mono ?_; rintro e w' ⟨rfl, rfl⟩)
      go_ret
      exact ⟨ret_i64 H.out.symm, hbel⟩

end Go.Proofs.YtcdpoamiejompaaGreatDoor
namespace Go.Proofs.YtcdpoamiejompaaGreatDoor
open Go.RowKit Go.Wk
set_option maxRecDepth 100000

/-- The value of a node. -/
def ndV (x : Nd) : Value := .agg #[.int .i64 x.op, .int .i64 x.n, .string x.s, .string x.t]
/-- A slice that holds nodes. -/
def NdsAt (w : World) (A : Option Addr) (P : List Nd) : Prop :=
  ∀ (k : Nat) (x : Nd), P[k]? = some x → ∃ a, A = some a ∧ w.cell? (a.add (k * 4)) = some (.int .i64 x.op) ∧
    w.cell? ⟨(a.add (k * 4)).block, (a.add (k * 4)).off + 1, none⟩ = some (.int .i64 x.n) ∧
    w.cell? ⟨(a.add (k * 4)).block, (a.add (k * 4)).off + 2, none⟩ = some (.string x.s) ∧
    w.cell? ⟨(a.add (k * 4)).block, (a.add (k * 4)).off + 3, none⟩ = some (.string x.t)
theorem NdsAt.keep {w w' : World} {A : Option Addr} {P : List Nd} (h : NdsAt w A P) (hb : Below w.heap.size w w') : NdsAt w' A P :=
  fun k x hx => let ⟨a, h1, h2, h3, h4, h5⟩ := h k x hx; ⟨a, h1, cell_keep hb h2, cell_keep hb h3, cell_keep hb h4, cell_keep hb h5⟩

theorem cmp_Compare_int (x y : Int) (w : World) : Calls Tryz.prog 146 #[.int .i64 x, .int .i64 y] w fun e w' => e = .returned (.int .i64 (cmpI x y)) ∧ w' = w :=
  (Tryz.cmp_Compare_int x y w).mono fun _ _ h => h

set_option maxHeartbeats 400000 in
theorem cmp_Or4 (x y z u : Int) (ad : Addr) (w : World) (h0 : w.cell? ad = some (.int .i64 x)) (h1 : w.cell? ⟨ad.block, ad.off + 1, none⟩ = some (.int .i64 y))
    (h2 : w.cell? ⟨ad.block, ad.off + 2, none⟩ = some (.int .i64 z)) (h3 : w.cell? ⟨ad.block, ad.off + 3, none⟩ = some (.int .i64 u)) :
    Calls Tryz.prog 145 #[.slice (some ad) 4 4] w fun e w' => e = .returned (.int .i64 (or4 x y z u)) ∧ w = w' := by
  go_enter Tryz.func145, Tryz.ntmps145
  go_wp2
  go_loop [5, 8] (fun s i => ∃ k : Nat, k ≤ 4 ∧ i = .int .i64 k ∧ (1 ≤ k → x = 0) ∧ (2 ≤ k → y = 0) ∧ (3 ≤ k → z = 0) ∧ (4 ≤ k → u = 0)) (fun _ i => 4 - (intOf i).toNat)
  case atStart => exact ⟨0, by omega, rfl, by omega, by omega, by omega, by omega⟩
  case round =>
    obtain ⟨k, hk, rfl, hx, hy, hz, hu⟩ := hrel
    have hk3 : k = 0 ∨ k = 1 ∨ k = 2 ∨ k = 3 ∨ k = 4 := by omega
    rcases hk3 with rfl | rfl | rfl | rfl | rfl
    · clear hx hy hz hu
      by_cases hx0 : x = 0
      · subst hx0
        go_wp2
        go_round
        case rel => exact ⟨1, by omega, by go_num, by simp, by omega, by omega, by omega⟩
        case measure => simp [intOf]
      · go_wp2
        go_ret
        exact ⟨ret_i64 (by simp [or4, or2, hx0]), rfl⟩
    · have hx0 := hx (by omega)
      clear hx hy hz hu
      subst hx0
      by_cases hy0 : y = 0
      · subst hy0
        go_wp2
        go_round
        case rel => exact ⟨2, by omega, by go_num, by simp, by simp, by omega, by omega⟩
        case measure => simp [intOf]
      · go_wp2
        go_ret
        exact ⟨ret_i64 (by simp [or4, or2, hy0]), rfl⟩
    · have hx0 := hx (by omega)
      have hy0 := hy (by omega)
      clear hx hy hz hu
      subst hx0 hy0
      by_cases hz0 : z = 0
      · subst hz0
        go_wp2
        go_round
        case rel => exact ⟨3, by omega, by go_num, by simp, by simp, by simp, by omega⟩
        case measure => simp [intOf]
      · go_wp2
        go_ret
        exact ⟨ret_i64 (by simp [or4, or2, hz0]), rfl⟩
    · have hx0 := hx (by omega)
      have hy0 := hy (by omega)
      have hz0 := hz (by omega)
      clear hx hy hz hu
      subst hx0 hy0 hz0
      by_cases hu0 : u = 0
      · subst hu0
        go_wp2
        go_round
        case rel => exact ⟨4, by omega, by go_num, by simp, by simp, by simp, by simp⟩
        case measure => simp [intOf]
      · go_wp2
        go_ret
        exact ⟨ret_i64 (by simp [or4, or2]), rfl⟩
    · have hx0 := hx (by omega)
      have hy0 := hy (by omega)
      have hz0 := hz (by omega)
      have hu0 := hu (by omega)
      clear hx hy hz hu
      subst hx0 hy0 hz0 hu0
      go_wp2
      go_ret
      exact ⟨ret_i64 (by simp [or4, or2]), rfl⟩

set_option maxHeartbeats 800000 in
theorem val_compare (x y : Nd) (w : World) :
    Calls Tryz.prog 101 #[ndV x, ndV y] w fun e w' => e = .returned (.int .i64 (cmpNd x y)) ∧ Below w.heap.size w w' := by
  unfold ndV
  go_enter Tryz.func101, Tryz.ntmps101
  go_wp2
  refine still_tail 20 (by kernel_rfl) (by kernel_rfl) ?_
  simp only [List.take_succ_cons, List.take_zero, List.drop_succ_cons, List.drop_zero]
  iterate 4 still_step
  still_call (cmp_Compare_int _ _ _)
  iterate 4 still_step
  still_call (cmp_Compare_int _ _ _)
  iterate 4 still_step
  still_call (strings_Compare _ _ _)
  iterate 4 still_step
  still_call (strings_Compare _ _ _)
  refine wpStill_nil ?_
  go_wp2_with (go_at_call 145; refine (cmp_Or4 (cmpI x.op y.op) (cmpI x.n y.n) (cmpB x.s y.s) (cmpB x.t y.t) _ _ (by go_simp) (by go_simp) (by go_simp) (by go_simp)).mono ?_; rintro e w' ⟨rfl, rfl⟩)
  go_ret
  exact ⟨rfl, ((((Below.refl _ _).alloc (Nat.le_refl _) _).alloc (by simp) _).alloc (by simp; omega) _).drew⟩

theorem cmpNds_at {P Q : List Nd} {k : Nat} (h1 : k < P.length) (h2 : k < Q.length) : cmpNds (P.drop k) (Q.drop k) = or2 (cmpNd P[k] Q[k]) (cmpNds (P.drop (k + 1)) (Q.drop (k + 1))) := by
  rw [List.drop_eq_getElem_cons h1, List.drop_eq_getElem_cons h2]; rfl
theorem cmpNds_end1 {P Q : List Nd} {k : Nat} (h1 : P.length ≤ k) (h2 : k < Q.length) : cmpNds (P.drop k) (Q.drop k) = -1 := by
  rw [List.drop_of_length_le h1, List.drop_eq_getElem_cons h2]; rfl
theorem cmpNds_end2 {P Q : List Nd} {k : Nat} (h1 : k < P.length) (h2 : Q.length ≤ k) : cmpNds (P.drop k) (Q.drop k) = 1 := by
  rw [List.drop_of_length_le h2, List.drop_eq_getElem_cons h1]; rfl
theorem cmpNds_end0 {P Q : List Nd} {k : Nat} (h1 : P.length ≤ k) (h2 : Q.length ≤ k) : cmpNds (P.drop k) (Q.drop k) = 0 := by
  rw [List.drop_of_length_le h1, List.drop_of_length_le h2]; rfl

set_option maxHeartbeats 1000000 in
theorem val_CompareFunc (A B : Option Addr) (n m c d : Nat) (P Q : List Nd) (w : World) (hn : n = P.length) (hm : m = Q.length) (hln : n ≤ maxLen) (_hlm : m ≤ maxLen) (hP : NdsAt w A P) (hQ : NdsAt w B Q) :
    Calls Tryz.prog 100 #[.slice A n c, .slice B m d, .func (.func 101) #[] #[]] w fun e w' => e = .returned (.int .i64 (cmpNds P Q)) ∧ Below w.heap.size w w' := by
  unfold maxLen at hln _hlm
  have HP := Lib.hid hP
  have HQ := Lib.hid hQ
  have HN := Lib.hid hn
  have HM := Lib.hid hm
  clear hP hQ hn hm
  go_enter Tryz.func100, Tryz.ntmps100
  go_wp2
  go_loopw [7, 8, 9, 10, 13] (fun _ _ _ _ i wr => ∃ k : Nat, k ≤ n ∧ k ≤ m ∧ i = .int .i64 k ∧ Hid (cmpNds P Q = cmpNds (P.drop k) (Q.drop k)) ∧ Below w.heap.size w wr) (fun _ _ _ _ i _ => n - (intOf i).toNat)
  case atStart => exact ⟨0, Nat.zero_le _, Nat.zero_le _, rfl, rfl, Below.refl _ _⟩
  case round =>
    obtain ⟨k, hkn, hkm, rfl, hc, hbel⟩ := hrel
    obtain ⟨wo, rfl⟩ : ∃ wo : World, wo = wr := ⟨_, rfl⟩
    by_cases h1 : k < n
    · have h1' : k < P.length := by rw [← HN.out]; exact h1
      obtain ⟨a, rfl, a1, a2, a3, a4⟩ := (HP.out.keep hbel) k P[k] (List.getElem?_eq_getElem h1')
      by_cases h2 : k < m
      · have h2' : k < Q.length := by rw [← HM.out]; exact h2
        obtain ⟨b, rfl, b1, b2, b3, b4⟩ := (HQ.out.keep hbel) k Q[k] (List.getElem?_eq_getElem h2')
        have HA := Lib.hid (hc.out.trans (cmpNds_at h1' h2'))
        have g : ∀ (o : Obj) (x : Addr) (v : Value), wo.cell? x = some v → (wo.alloc o).cell? x = some v := fun o x v h => cell_keep ((Below.refl _ _).alloc (Nat.le_refl _) o) h
        replace b1 := fun o => g o _ _ b1
        replace b2 := fun o => g o _ _ b2
        replace b3 := fun o => g o _ _ b3
        replace b4 := fun o => g o _ _ b4
        clear hc g
        go_wp2_with fail
        refine (val_compare P[k] Q[k] _).mono ?_
        rintro e w1 ⟨rfl, hb1⟩
        have hbw := Lib.hid ((hbel.alloc (by have := hbel.size; omega) _).alloc (by have := hbel.size; simp; omega) _ |>.trans (hb1.mono (by have := hbel.size; simp; omega)))
        clear hb1 b1 b2 b3 b4 a1 a2 a3 a4
        by_cases h0 : cmpNd P[k] Q[k] = 0
        · have HC := Lib.hid (HA.out.trans (by rw [h0]; rfl : _ = cmpNds (P.drop (k + 1)) (Q.drop (k + 1))))
          rw [h0]
          clear h0 HA
          go_wp2
          go_roundw
          case rel => exact ⟨k + 1, by omega, by omega, by go_num, HC, hbw.out⟩
          case measure => simp [intOf]; omega
        · have HC := Lib.hid (HA.out.trans (or2_ne h0 _))
          have h0' : (cmpNd P[k] Q[k] == 0) = false := beq_eq_false_iff_ne.2 h0
          clear HA
          go_wp2
          go_ret
          exact ⟨ret_i64 HC.out.symm, hbw.out⟩
      · have HA := Lib.hid (hc.out.trans (cmpNds_end2 h1' (by rw [← HM.out]; omega)))
        clear hc
        go_wp2
        go_ret
        exact ⟨ret_i64 HA.out.symm, hbel.alloc (by have := hbel.size; omega) _⟩
    · obtain rfl : k = n := by omega
      by_cases h2 : k < m
      · have HA := Lib.hid (hc.out.trans (cmpNds_end1 (by rw [← HN.out]; omega) (by rw [← HM.out]; exact h2)))
        clear hc
        go_wp2
        go_ret
        exact ⟨ret_i64 HA.out.symm, hbel⟩
      · have HA := Lib.hid (hc.out.trans (cmpNds_end0 (by rw [← HN.out]; omega) (by rw [← HM.out]; omega)))
        clear hc
        go_wp2
        go_ret
        exact ⟨ret_i64 HA.out.symm, hbel⟩

theorem val_order (A B : Option Addr) (n m c d : Nat) (P Q : List Nd) (w : World) (hn : n = P.length) (hm : m = Q.length) (hln : n ≤ maxLen) (hlm : m ≤ maxLen) (hP : NdsAt w A P) (hQ : NdsAt w B Q) :
    Calls Tryz.prog 58 #[.slice A n c, .slice B m d] w fun e w' => e = .returned (.int .i64 (cmpNds P Q)) ∧ Below w.heap.size w w' := by
  have H := val_CompareFunc A B n m c d P Q w hn hm hln hlm hP hQ
  clear hn hm hP hQ
  go_enter Tryz.func58, Tryz.ntmps58
  go_wp2_with fail
  refine H.mono ?_
  rintro e w1 ⟨rfl, hb1⟩
  go_wp2
  go_ret
  exact ⟨rfl, hb1⟩
end Go.Proofs.YtcdpoamiejompaaGreatDoor
namespace Go.Proofs.YtcdpoamiejompaaGreatDoor
open Go.RowKit Go.Wk
set_option maxRecDepth 100000

theorem empty_or (s : ByteArray) : s = ⟨#[]⟩ ∨ (s.toList.isEmpty = false ∧ (¬ s.toList = []) ∧ noB s = false) := by
  by_cases h : 0 < s.size
  · exact .inr ⟨by rw [List.isEmpty_eq_false_iff]; exact fun q => (not_empty h).1 q, fun q => (not_empty h).1 q, by unfold noB; rw [decide_eq_false_iff_not]; omega⟩
  · exact .inl (bytes_ext (List.eq_nil_of_length_eq_zero (by rw [Array.length_toList]; exact (by omega : s.size = 0))))
theorem noB_empty : noB ⟨#[]⟩ = true := rfl
theorem below_box2 {w w1 : World} {o : Obj} (h : Below (w.alloc o).heap.size (w.alloc o) w1) : Below w.heap.size w w1 := (below_box w o).trans (h.mono (by simp))

theorem shaped_bool (n : Int) (s t : ByteArray) (w : World) :
    Calls Tryz.prog 57 #[.agg #[.int .i64 1, .int .i64 n, .string s, .string t]] w fun e w' => e = .returned (.bool ((decide (n = 0) || decide (n = 1)) && noB s && noB t)) ∧ Below w.heap.size w w' := by
  by_cases h0 : n = 0
  · subst h0
    rcases empty_or s with rfl | ⟨s1, s2, s3⟩ <;> rcases empty_or t with rfl | ⟨t1, t2, t3⟩
    all_goals
      go_enter Tryz.func57, Tryz.ntmps57
      go_wp2
      go_ret
      exact ⟨ret_bool (by simp [*, noB_empty]), below_box _ _⟩
  · by_cases h1 : n = 1
    · subst h1
      clear h0
      rcases empty_or s with rfl | ⟨s1, s2, s3⟩ <;> rcases empty_or t with rfl | ⟨t1, t2, t3⟩
      all_goals
        go_enter Tryz.func57, Tryz.ntmps57
        go_wp2
        go_ret
        exact ⟨ret_bool (by simp [*, noB_empty]), below_box _ _⟩
    · have e0 : (n == 0) = false := beq_eq_false_iff_ne.2 h0
      have e1 : (n == 1) = false := beq_eq_false_iff_ne.2 h1
      go_enter Tryz.func57, Tryz.ntmps57
      go_wp2
      go_ret
      exact ⟨ret_bool (by simp [h0, h1]), below_box _ _⟩
theorem shaped_num (n : Int) (s t : ByteArray) (w : World) :
    Calls Tryz.prog 57 #[.agg #[.int .i64 2, .int .i64 n, .string s, .string t]] w fun e w' => e = .returned (.bool (noB s && noB t)) ∧ Below w.heap.size w w' := by
  rcases empty_or s with rfl | ⟨s1, s2, s3⟩ <;> rcases empty_or t with rfl | ⟨t1, t2, t3⟩
  all_goals
    go_enter Tryz.func57, Tryz.ntmps57
    go_wp2
    go_ret
    exact ⟨ret_bool (by simp [*, noB_empty]), below_box _ _⟩

theorem keep_alloc {w w1 : World} {o : Obj} (hb : Below (w.alloc o).heap.size (w.alloc o) w1) (k : Nat) (v : Value) (h : (w.alloc o).cell? ⟨w.heap.size, k, none⟩ = some v) : w1.cell? ⟨w.heap.size, k, none⟩ = some v :=
  (hb.cell (by simp)).trans h

theorem shaped_text (n : Int) (s t : ByteArray) (w : World) (hs : s.size ≤ maxLen) :
    Calls Tryz.prog 57 #[.agg #[.int .i64 3, .int .i64 n, .string s, .string t]] w fun e w' => e = .returned (.bool (decide (n = 0) && noB t && decide (textFault s = 0))) ∧ Below w.heap.size w w' := by
  have P := Lib.hid (fun w => name_Plain s w hs)
  by_cases h0 : n = 0
  · subst h0
    rcases empty_or t with rfl | ⟨t1, t2, t3⟩
    · by_cases h1 : textFault s = 0
      · rw [h1, errV_zero] at P
        go_enter Tryz.func57, Tryz.ntmps57
        go_wp2_with fail
        refine (P.out _).mono ?_
        rintro e w1 ⟨rfl, hb⟩
        go_wp2
        go_ret
        exact ⟨ret_bool (by simp [h1, noB_empty]), below_box2 hb⟩
      · rw [errV_ne h1] at P
        go_enter Tryz.func57, Tryz.ntmps57
        go_wp2_with fail
        refine (P.out _).mono ?_
        rintro e w1 ⟨rfl, hb⟩
        go_wp2
        go_ret
        exact ⟨ret_bool (by simp [h1]), below_box2 hb⟩
    · go_enter Tryz.func57, Tryz.ntmps57
      go_wp2
      go_ret
      exact ⟨ret_bool (by simp [t3]), below_box _ _⟩
  · have e0 : (n == 0) = false := beq_eq_false_iff_ne.2 h0
    go_enter Tryz.func57, Tryz.ntmps57
    go_wp2
    go_ret
    exact ⟨ret_bool (by simp [h0]), below_box _ _⟩
theorem shaped_field (n : Int) (s t : ByteArray) (w : World) (hs : s.size ≤ maxLen) :
    Calls Tryz.prog 57 #[.agg #[.int .i64 7, .int .i64 n, .string s, .string t]] w fun e w' => e = .returned (.bool (decide (n = 0) && noB t && decide (nameFault s = 0))) ∧ Below w.heap.size w w' := by
  have P := Lib.hid (fun w => name_Check s w hs)
  by_cases h0 : n = 0
  · subst h0
    rcases empty_or t with rfl | ⟨t1, t2, t3⟩
    · by_cases h1 : nameFault s = 0
      · rw [h1, errV_zero] at P
        go_enter Tryz.func57, Tryz.ntmps57
        go_wp2_with fail
        refine (P.out _).mono ?_
        rintro e w1 ⟨rfl, hb⟩
        go_wp2
        go_ret
        exact ⟨ret_bool (by simp [h1, noB_empty]), below_box2 hb⟩
      · rw [errV_ne h1] at P
        go_enter Tryz.func57, Tryz.ntmps57
        go_wp2_with fail
        refine (P.out _).mono ?_
        rintro e w1 ⟨rfl, hb⟩
        go_wp2
        go_ret
        exact ⟨ret_bool (by simp [h1]), below_box2 hb⟩
    · go_enter Tryz.func57, Tryz.ntmps57
      go_wp2
      go_ret
      exact ⟨ret_bool (by simp [t3]), below_box _ _⟩
  · have e0 : (n == 0) = false := beq_eq_false_iff_ne.2 h0
    go_enter Tryz.func57, Tryz.ntmps57
    go_wp2
    go_ret
    exact ⟨ret_bool (by simp [h0]), below_box _ _⟩
theorem shaped_ent (n : Int) (s t : ByteArray) (w : World) (hs : s.size ≤ maxLen) (ht : t.size ≤ maxLen) :
    Calls Tryz.prog 57 #[.agg #[.int .i64 4, .int .i64 n, .string s, .string t]] w fun e w' => e = .returned (.bool (decide (n = 0) && decide (nameFault s = 0) && decide (textFault t = 0))) ∧ Below w.heap.size w w' := by
  have P := Lib.hid (fun w => name_Check s w hs)
  have T := Lib.hid (fun w => name_Plain t w ht)
  by_cases h0 : n = 0
  · subst h0
    by_cases h1 : nameFault s = 0
    · rw [h1, errV_zero] at P
      by_cases h2 : textFault t = 0
      · rw [h2, errV_zero] at T
        go_enter Tryz.func57, Tryz.ntmps57
        go_wp2_with fail
        refine (P.out _).mono ?_
        rintro e w1 ⟨rfl, hb⟩
        have c3 := keep_alloc hb 3 (.string t) (by simp)
        have HB := Lib.hid (below_box2 hb)
        clear hb
        go_wp2_with fail
        refine (T.out _).mono ?_
        rintro e w2 ⟨rfl, hb2⟩
        go_wp2
        go_ret
        exact ⟨ret_bool (by simp [h1, h2]), HB.out.trans (hb2.mono HB.out.size)⟩
      · rw [errV_ne h2] at T
        go_enter Tryz.func57, Tryz.ntmps57
        go_wp2_with fail
        refine (P.out _).mono ?_
        rintro e w1 ⟨rfl, hb⟩
        have c3 := keep_alloc hb 3 (.string t) (by simp)
        have HB := Lib.hid (below_box2 hb)
        clear hb
        go_wp2_with fail
        refine (T.out _).mono ?_
        rintro e w2 ⟨rfl, hb2⟩
        go_wp2
        go_ret
        exact ⟨ret_bool (by simp [h1, h2]), HB.out.trans (hb2.mono HB.out.size)⟩
    · rw [errV_ne h1] at P
      go_enter Tryz.func57, Tryz.ntmps57
      go_wp2_with fail
      refine (P.out _).mono ?_
      rintro e w1 ⟨rfl, hb⟩
      go_wp2
      go_ret
      exact ⟨ret_bool (by simp [h1]), below_box2 hb⟩
  · have e0 : (n == 0) = false := beq_eq_false_iff_ne.2 h0
    go_enter Tryz.func57, Tryz.ntmps57
    go_wp2
    go_ret
    exact ⟨ret_bool (by simp [h0]), below_box _ _⟩
theorem shaped_many (o n : Int) (s t : ByteArray) (w : World) (ho : o = 5 ∨ o = 6) :
    Calls Tryz.prog 57 #[.agg #[.int .i64 o, .int .i64 n, .string s, .string t]] w fun e w' => e = .returned (.bool (decide (0 ≤ n) && noB s && noB t)) ∧ Below w.heap.size w w' := by
  by_cases h0 : 0 ≤ n
  · rcases ho with rfl | rfl <;> rcases empty_or s with rfl | ⟨s1, s2, s3⟩ <;> rcases empty_or t with rfl | ⟨t1, t2, t3⟩
    all_goals
      go_enter Tryz.func57, Tryz.ntmps57
      go_wp2
      go_ret
      exact ⟨ret_bool (by simp [*, noB_empty]), below_box _ _⟩
  · rcases ho with rfl | rfl
    all_goals
      go_enter Tryz.func57, Tryz.ntmps57
      go_wp2
      go_ret
      exact ⟨ret_bool (by rw [decide_eq_false (by omega)]; rfl), below_box _ _⟩
theorem shaped_other (o n : Int) (s t : ByteArray) (w : World) (h1 : (o == 1) = false) (h2 : (o == 2) = false) (h3 : (o == 3) = false) (h4 : (o == 4) = false) (h5 : (o == 5) = false) (h6 : (o == 6) = false) (h7 : (o == 7) = false) :
    Calls Tryz.prog 57 #[.agg #[.int .i64 o, .int .i64 n, .string s, .string t]] w fun e w' => e = .returned (.bool false) ∧ Below w.heap.size w w' := by
  go_enter Tryz.func57, Tryz.ntmps57
  go_wp2
  go_ret
  exact ⟨rfl, below_box _ _⟩
theorem val_shaped (x : Nd) (w : World) (hs : x.s.size ≤ maxLen) (ht : x.t.size ≤ maxLen) :
    Calls Tryz.prog 57 #[ndV x] w fun e w' => e = .returned (.bool (shapedN x)) ∧ Below w.heap.size w w' := by
  obtain ⟨o, n, s, t⟩ := x
  unfold ndV shapedN
  simp only at hs ht ⊢
  by_cases h1 : o = 1
  · subst h1; rw [if_pos rfl]; exact shaped_bool n s t w
  rw [if_neg h1]
  by_cases h2 : o = 2
  · subst h2; rw [if_pos rfl]; exact shaped_num n s t w
  rw [if_neg h2]
  by_cases h3 : o = 3
  · subst h3; rw [if_pos rfl]; exact shaped_text n s t w hs
  rw [if_neg h3]
  by_cases h4 : o = 4
  · subst h4; rw [if_pos rfl]; exact shaped_ent n s t w hs ht
  rw [if_neg h4]
  by_cases h5 : o = 5 ∨ o = 6
  · rw [if_pos h5]; exact shaped_many o n s t w h5
  rw [if_neg h5]
  by_cases h7 : o = 7
  · subst h7; rw [if_pos rfl]; exact shaped_field n s t w hs
  rw [if_neg h7]
  exact shaped_other o n s t w (beq_eq_false_iff_ne.2 h1) (beq_eq_false_iff_ne.2 h2) (beq_eq_false_iff_ne.2 h3) (beq_eq_false_iff_ne.2 h4) (beq_eq_false_iff_ne.2 fun q => h5 (.inl q)) (beq_eq_false_iff_ne.2 fun q => h5 (.inr q)) (beq_eq_false_iff_ne.2 h7)
end Go.Proofs.YtcdpoamiejompaaGreatDoor
