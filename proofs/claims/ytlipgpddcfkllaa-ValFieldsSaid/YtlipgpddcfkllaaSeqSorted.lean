/-
  slices.Sorted(slices.Values(names)): a new slice of the names in their order.
-/
import Derived.RangeFuncBound
import Derived.Sort.OwnSorted
import Derived.Test.YtlipgpddcfkllaaSeqVals
import Derived.Test.YtlipgpddcfkllaaShelf
import Derived.Test.YtlipgpddcfkllaaSplitRec
namespace Go.Proofs.Ytlipgpddcfkllaa
open Go.RowKit Go.Shelf Go.Wk Go.Sort
attribute [local go_sem] Oper.semAt_some

set_option maxRecDepth 100000 in
set_option maxHeartbeats 2000000 in
/-- slices.AppendSeq(nil, seq). -/
theorem appendSeq_in (F : Fence) (n : Nat) (h3 : F.fn 45) (hro : F.round = none) (hn : 3 ≤ n) (gf : Nat) (lb : Array Value) (hFg : F.fn gf) (eg : ∀ args w, (callFunc gf args).run Try.prog w = .ok (.enter gf args) w)
    (n₀ : Nat) (N : List ByteArray) (hreach : N.length * 16 ≤ 140737488351232) (w : World) (hn₀ : n₀ ≤ w.heap.size) (hseq : SeqStopsK F (n - 1) Try.prog gf lb (fun x : ByteArray => #[Value.string x]) (Below n₀) (fun ys => ys = N) (fun pre => pre <+: N) N.length w) :
    CallsIn F n Try.prog 45 #[.slice none 0 0, .func (.func gf) #[] lb] w fun e w' => ∃ v, e = .returned v ∧ w'.ownsRow w.heap.size 9 1 v N.length (N.map Value.string) ∧ (v = .slice none 0 0 ↔ N = []) ∧ Below w.heap.size w w' := by
  have h1 : 1 ≤ n := by omega
  obtain ⟨i0, hi, hz0, hz1, hz2⟩ := info_parts strInfo
  refine callsIn_of_wp_marks Try.func45 rfl h3 ?_ hro
  simp only [Try.ntmps45, List.size_toArray, List.length_cons, List.length_nil, Nat.reduceAdd, Nat.reduceSub, Array.replicate_succ, Array.replicate_zero, List.push_toArray, List.append_toArray, List.nil_append, List.cons_append]
  gi_wp2
  have bO := Boxed.new w 33 (.slice none 0 0)
  have hB0 : Below w.heap.size w (w.alloc (.cells #[.slice none 0 0] 33)) := (Below.refl _ w).alloc (Nat.le_refl _) _
  refine wpIn_rangeFunc_ownG hro h1 (gf := gf) (lb := lb) rfl hFg eg hseq belowK_t (belowK_b (by simp; omega)) hB0 (fun _ => rfl)
    (fun pre W => (∃ v, Boxed W w.heap.size 33 v ∧ W.ownsRow w.heap.size 9 1 v pre.length (pre.map Value.string) ∧ (v = .slice none 0 0 ↔ pre = [])) ∧ Below w.heap.size w W)
    (fun _ _ _ => False)
    (OwnFrom.and (Own.from (holdsRow_own w.heap.size w.heap.size 33 9 1 (fun pre : List ByteArray => pre.length) (fun pre => pre.map Value.string) (fun pre v => v = .slice none 0 0 ↔ pre = [])) _) (ownFrom_below (Nat.le_refl _) (by simp)))
    (fun _ _ _ _ _ hs _ _ => hs)
    ⟨⟨_, bO, World.ownsRow_nil _ _ _ _, by simp⟩, hB0⟩
    (fun x => { tmps := #[.slice none 0 0, .func (.func gf) #[] lb, .pointer (some ⟨w.heap.size, 0, none⟩), undef, .slice none 0 0, .string x, .func (.func gf) #[] lb, .string x, undef, undef, undef, undef, undef], defers := [] }) ?assign ?body ?done ?stop
  case assign =>
    intro l x W K hK
    gi_wp2
    exact hK
  case body =>
    rintro l pre x W ⟨⟨v, hv, hrow, hnil⟩, hB⟩ hlt
    have hc := hv.cell
    gi_wp2_with (gi_at_builtin; refine wpListIn_append_own _ rfl _ _ 33 rfl w.heap.size 9 i0 (.string ⟨#[]⟩) 1 16 Try.underlying33 hi hz0 hz1 hz2 rfl (by decide) _ _ _ rfl (hrow.alloc _) ⟨W.heap.size, 0, none⟩ 1 1 [.string x] rfl rfl (cell_one_new _ _ _) (by simp [Value.oneCell']) (by unfold maxLen; omega) (by omega) (by have := hB.size; simp; omega) ?_; intro v' w1 hown' hgrow _; obtain ⟨g', cap', rfl⟩ := ownsRow_succ hown'; obtain ⟨hv1, hv2, hr2, hk2, hb2⟩ := hv.appended (by decide) hrow hB.size (Nat.le_refl _) hown' hgrow; have hc1 := hv1.cell; have hf1 := hv1.frozen)
    exact ⟨hk2.from _, hb2.mono hn₀, ⟨_, hv2, by simpa using hr2, by simp⟩, hB.trans hb2⟩
  case done =>
    rintro D ys W hD rfl ⟨⟨v, hv, hrow, hnil⟩, hB⟩ hK
    have hc := hv.cell
    gi_wp2
    refine ⟨by simp, .inl ⟨_, _, rfl, run_takeDeferred hK, ?_⟩⟩
    exact ⟨_, results_tmp rfl _ _ _, v, rfl, ownsRow_putObj hrow _ hK rfl, hnil, hB.trans (belowK_b (w := w) (Nat.le_refl _) W D _ _ (by simp at hD; omega) hK rfl rfl)⟩
  case stop =>
    rintro D c pre W _ _ h _
    exact h.elim

set_option maxRecDepth 100000 in
set_option maxHeartbeats 1000000 in
theorem collect_in (F : Fence) (n : Nat) (h8 : F.fn 34) (h3 : F.fn 45) (hro : F.round = none) (hn : 4 ≤ n) (gf : Nat) (lb : Array Value) (hFg : F.fn gf) (eg : ∀ args w, (callFunc gf args).run Try.prog w = .ok (.enter gf args) w)
    (n₀ : Nat) (N : List ByteArray) (hreach : N.length * 16 ≤ 140737488351232) (w : World) (hn₀ : n₀ ≤ w.heap.size) (hseq : SeqStopsK F (n - 1 - 1) Try.prog gf lb (fun x : ByteArray => #[Value.string x]) (Below n₀) (fun ys => ys = N) (fun pre => pre <+: N) N.length w) :
    CallsIn F n Try.prog 34 #[.func (.func gf) #[] lb] w fun e w' => ∃ v, e = .returned v ∧ w'.ownsRow w.heap.size 9 1 v N.length (N.map Value.string) ∧ (v = .slice none 0 0 ↔ N = []) ∧ Below w.heap.size w w' := by
  have h1 : 1 ≤ n := by omega
  refine callsIn_of_wp Try.func34 rfl h8 ?_ hro
  simp only [Try.ntmps34, List.size_toArray, List.length_cons, List.length_nil, Nat.reduceAdd, Nat.reduceSub, Array.replicate_succ, Array.replicate_zero, List.push_toArray, List.append_toArray, List.nil_append, List.cons_append]
  gi_wp2_with (gi_at_call 45; refine (appendSeq_in F (n - 1) h3 hro (by omega) gf lb hFg eg n₀ N hreach _ hn₀ hseq).mono ?_; rintro e w1 ⟨v, rfl, hrow, hnil, hb⟩)
  go_ret
  exact ⟨v, rfl, hrow, hnil, hb⟩

/-- The names in their order, as slices.Sort puts them. -/
def sortT (N : List ByteArray) : List (List UInt8) := (N.map fun x => x.data.toList).mergeSort fun x y => decide (x ≤ y)
theorem sortT_length (N : List ByteArray) : (sortT N).length = N.length := by simp [sortT]
theorem enc_names (N : List ByteArray) : (N.map fun x => x.data.toList).map encStr = N.map Value.string := by
  rw [List.map_map]; apply List.map_congr_left; intro x _; simp [encStr]

set_option maxRecDepth 100000 in
set_option maxHeartbeats 2000000 in
/-- slices.Sorted(slices.Values(names)): the iterator lies boxed in Bs. -/
theorem sorted_call (Bs n₀ : Nat) (A : Option Addr) (cap : Nat) (N : List ByteArray) (hreach : N.length * 16 ≤ 140737488351232) (w : World) (hBs : Bs < w.heap.size) (hn₀ : n₀ ≤ w.heap.size)
    (hc : w.cell? ⟨Bs, 0, none⟩ = some (.slice A N.length cap)) (hI : TxAt w A N) (hA : ∀ a, A = some a → 0 < N.length → a.block < n₀) :
    Calls Try.prog 22 #[.func (.func 36) #[] #[.pointer (some ⟨Bs, 0, none⟩)]] w fun e w' => ∃ v, e = .returned v ∧ w'.ownsRow w.heap.size 9 1 v N.length ((sortT N).map encStr) ∧ Below w.heap.size w w' := by
  have hC := callsIn_wide.1 (collect_in Fence.wide 9 trivial trivial rfl (by omega) 36 #[.pointer (some ⟨Bs, 0, none⟩)] trivial (enters_of Try.func36 (by kernel_rfl) rfl) n₀ N hreach w hn₀ (values_stops Fence.wide 7 trivial rfl (by omega) Bs n₀ A cap N hreach w hBs hc hI hA))
  have HC := Lib.hid hC
  have HR := Lib.hid hreach
  clear hC hI hA hc hreach
  go_enter Try.func22, Try.ntmps22
  go_wp2_with fail
  refine (HC.out).mono ?_
  rintro e w1 ⟨v, rfl, hrow, hnil, hb⟩
  rcases hrow.2 with ⟨rfl, hz⟩ | ⟨gb, cp, cur, rfl, hbase, hgb, r1, r2, r3, r4⟩
  · have hss : N = [] := List.eq_nil_of_length_eq_zero hz
    subst hss
    go_wp2_with fail
    refine (Try.slices_Sort_string_none none 0 w1).mono ?_
    rintro e w2 ⟨rfl, rfl⟩
    go_wp2_with fail
    go_ret
    exact ⟨_, rfl, by simpa [sortT] using hrow, hb⟩
  · have r5 := r4
    rw [← enc_names] at r5
    have hlen : (N.map fun x => x.data.toList).length = N.length := List.length_map _
    have hH : Holds encStr w1 gb 0 (N.map fun x => x.data.toList).toArray := holds_of_block hgb (by rw [hlen]; simpa using r5)
    have hgl : gb < w1.heap.size := (Array.getElem?_eq_some_iff.1 hgb).1
    have cS := Lib.hid (Try.slices_Sort_string gb 0 cp _ w1 hH hgl (by rw [hlen]; have := HR.out; omega))
    rw [hlen] at cS
    go_wp2_with fail
    refine (cS.out).mono ?_
    rintro e w2 ⟨rfl, nn, os, rfl⟩
    go_wp2_with fail
    go_ret
    refine ⟨_, rfl, ?_, hb.grown (grownBy_sorted _) hb.size (fun j hj => by cases hj; exact hbase)⟩
    have := ownsRow_sorted (w := w1) (n := nn) (os := os) (ss := N.map fun x => x.data.toList) (ts := sortT N) (by rw [sortT_length, hlen]) hbase hgb (by rw [hlen]; exact r1) r2 r3
    rw [hlen] at this
    exact this
end Go.Proofs.Ytlipgpddcfkllaa
