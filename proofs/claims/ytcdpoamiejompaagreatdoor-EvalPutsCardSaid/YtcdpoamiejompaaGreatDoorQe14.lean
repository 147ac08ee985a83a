/-
  The frame of every law: a law that returns true and leaves what was there as it was meets its row.
  sync.Once's slow road, one goroutine: the lock, the two deferred calls.
  The contracts of the checks of names and texts, of the program and of the reference.
  strings.NewReplacer at four texts of one byte or two, and its Replace: the table is built once.
  sync.Once's Do at a replacer that has not been built; the replacer that NewReplacer makes.
-/
import Derived.WalkKit
import Derived.WalkSpells
import Derived.WalkLawsBesides
import Derived.BigQuiet
import Derived.Deep.QuietTactic
import Derived.ProofKit
import Derived.OpenShut
import Derived.Carry
import Derived.StillTailTactics
import Derived.Lib.QuietBelow
import Derived.Lib.Hide
import Derived.Defers
import Derived.Laws.Pointers
import Derived.Laws.LoneSync
import Derived.RegionCalls
import Derived.Deep.WholeRow
import Derived.Test.YtcdpoamiejompaaGreatDoorRows
import Derived.Test.YtcdpoamiejompaaGreatDoorQe13
namespace Go.Proofs.YtcdpoamiejompaaGreatDoor
open Go.ChangeShapes Go.WideShapes Go.ChangeAt Go.RowKit

theorem own : ownKnob Tryz.prog.godebug = none := by kernel_rfl
theorem laidOut : laidOutB Tryz.prog = true := by kernel_rfl

theorem trodAll_below {H : Type} {enc : TypeId × Value → H} {P : Program} (hl : laidOutB P = true) {W W' : World} (hb : Below W.heap.size W W') :
    ∀ (ts : List TypeId) (vs : List Value) (ds : List (DataW H)) (ps : List MemPlace), (∀ t ∈ ts, P.readableRec t = true ∧ t < P.types.size) →
      (∀ x ∈ ps, x.block < W.heap.size) → DataW.TrodAll enc P W 0 (fun _ => true) true ts vs ds ps → DataW.TrodAll enc P W' 0 (fun b => decide (b < W.heap.size)) true ts vs ds ps := by
  intro ts
  induction ts with
  | nil =>
    intro vs ds ps _ _ h
    cases vs <;> cases ds <;> simp_all [DataW.TrodAll]
  | cons t ts ih =>
    intro vs ds ps hr hlt h
    match vs, ds, h with
    | v :: vs, d :: ds, h =>
      obtain ⟨p, q, h1, h2, rfl⟩ := h
      have ht := hr t (by simp)
      exact ⟨p, q, Below.trod hl ht.1 ht.2 h1 hb (fun x hx => hlt x (by simp [hx])),
        ih vs ds q (fun t' h' => hr t' (by simp [h'])) (fun x hx => hlt x (by simp [hx])) h2, rfl⟩

theorem trodAll_length {H : Type} {enc : TypeId × Value → H} {P : Program} {W : World} {b : Nat} {sp : Nat → Bool} {hd : Bool} :
    ∀ (ts : List TypeId) (vs : List Value) (ds : List (DataW H)) (ps : List MemPlace), DataW.TrodAll enc P W b sp hd ts vs ds ps → ds.length = ts.length := by
  intro ts
  induction ts with
  | nil => intro vs ds ps h; cases vs <;> cases ds <;> simp_all [DataW.TrodAll]
  | cons t ts ih =>
    intro vs ds ps h
    match vs, ds, h with
    | v :: vs, d :: ds, h =>
      obtain ⟨p, q, _, h2, _⟩ := h
      simp [ih vs ds q h2]

/-- A law's call: true, and nothing that was there has turned: the row's own post. -/
theorem law_post {H : Type} {enc : TypeId × Value → H} {P : Program} {f : Func} {s : ChangeSpec} {W W' : World} {args : Array Value} {ds gs : List (DataW H)} {before : List MemPlace} {tb : TypeId}
    (hl : laidOutB P = true) (hr0 : (f.params.toList.all fun t => P.readableRec t && decide (t < P.types.size)) = true) (hres : f.resultTypes = #[tb]) (hbool : P.underlying tb = some .bool)
    (hv : s.vars = []) (hs : ∀ ds : List (DataW H), ds.length = f.params.toList.length → s.fn H ds = { results := [.lit (.bool true)], args := ds })
    (hW : DataW.Whole enc P f.params.toList s.vars false W args.toList ds gs before) (hb : Below W.heap.size W W') :
    s.post enc P f false true false false W args (.bool true) W' := by
  have hlt := hW.lt
  have hW0 := hW
  have hr : ∀ t ∈ f.params.toList, P.readableRec t = true ∧ t < P.types.size := fun t ht => by simpa using List.all_eq_true.1 hr0 t ht
  obtain ⟨p, q, hA, hV, rfl, hfz, _⟩ := hW
  rw [hv] at hV
  obtain ⟨rfl, rfl⟩ : gs = [] ∧ q = [] := by
    cases gs with
    | nil => exact ⟨rfl, hV⟩
    | cons g r => exact absurd hV (by intro h; cases h)
  have hlen := trodAll_length _ _ _ _ hA
  have he : s.fn H (ds ++ []) = { results := [.lit (.bool true)], args := ds } := by rw [List.append_nil]; exact hs ds hlen
  simp only [List.append_nil] at hlt hW0
  refine ⟨ds, [], p, [], p, [], hW0, ?_, ?_, ?_, hb.frame _, fun h => by cases h⟩
  · rw [he, hres]; exact trodAll_mk1 (shut_bool hbool true)
  · rw [he]; exact trodAll_below hl hb _ _ _ _ hr hlt hA
  · rw [he, hv]; rfl

/-- A region that draws: a still head, then a forced tail; the draw written as such. -/
theorem still_tail {P : Program} {id : Nat} {Q : Exit → Act → World → Prop} {a : Act} {w : World} {l : List Oper} (n : Nat) (hm : P.follows .mixedOrders = true) (hB : Region.lexTailB .any l.toArray n = true)
    (h : wpStill P l.toArray w.drew (fun a' => wpList P l.toArray Q (l.drop n) a' w.drew) (l.take n) a) : (Code.region id l.toArray true).wp P Q a w :=
  wp_region_still_tail n hm hB h

theorem _root_.Go.RowKit.Below.drewN {B : Nat} {a w : World} (h : Below B a w) (n : Nat) : Below B a (w.drewN n) := ⟨h.os, h.tape, h.output, h.size, h.block⟩
/-- A cell that is there is there behind what leaves all that was there. -/
theorem cell_keep {w w' : World} (hb : Below w.heap.size w w') {a : Addr} {v : Value} (h : w.cell? a = some v) : w'.cell? a = some v :=
  (hb.cell (block_lt_of_cell h)).trans h
theorem toList_inj {a b : ByteArray} (h : a.toList = b.toList) : a = b := by
  rw [ByteArray.toList_eq, ByteArray.toList_eq] at h
  cases a; cases b; simp at h; simp [h]
/-- Behind a contract that ends in 'Below': what was there reads as it did. -/
theorem bcell {W w1 : World} (hb : Below W.heap.size W w1) : (∀ b o, b < W.heap.size → w1.cell? ⟨b, o, none⟩ = W.cell? ⟨b, o, none⟩) ∧ (∀ b o, b < W.heap.size → w1.frozen? ⟨b, o, none⟩ = W.frozen? ⟨b, o, none⟩) :=
  ⟨fun b o h => hb.cell (p := ⟨b, o, none⟩) h, fun b o h => hb.frozen (p := ⟨b, o, none⟩) h⟩
@[simp] theorem size_drewN (w : World) (n : Nat) : (w.drewN n).heap.size = w.heap.size := rfl
/-- The cells of a new block. -/
theorem cells_new (w : World) (l : List Value) (t : TypeId) : ∀ j u, l[j]? = some u → (w.alloc (.cells l.toArray t)).cell? ((⟨w.heap.size, 0, none⟩ : Addr).add j) = some u := by
  intro j u h
  have e : (⟨w.heap.size, 0, none⟩ : Addr).add j = ⟨w.heap.size, j, none⟩ := by
    unfold Addr.add; split
    · rename_i h0; subst h0; rfl
    · simp
  rw [e, World.cell?_alloc_at _ _ _ _ rfl]
  simpa using h
theorem own_base {w : World} {B : Nat} {e : TypeId} {size n : Nat} {v : Value} {xs : List Value} (h : w.ownsRow B e size v n xs) : ∀ g, v.ownBlock = some g → B ≤ g := by
  intro g hg
  rcases h.2 with ⟨rfl, _⟩ | ⟨g', cap, cur, rfl, hb, _⟩
  · simp [Value.ownBlock] at hg
  · simp [Value.ownBlock] at hg; omega
/-- An append onto a row of the call's own, behind a new block. -/
theorem below_append {w wr w1 : World} {B : Nat} {e : TypeId} {size n : Nat} {v : Value} {xs : List Value} (hb : Below B w wr) (hB : B ≤ w.heap.size) (hown : wr.ownsRow B e size v n xs) (o : Obj)
    (hg : (wr.alloc o).grownBy w1 v.ownBlock) : Below B w w1 := by
  have h1 : B ≤ wr.heap.size := Nat.le_trans hB hb.size
  exact (hb.alloc h1 o).grown hg (by simp; omega) (own_base hown)

/-- The error of a number; of 0 nil. -/
def errV (n : Int) : Value := if n = 0 then .nilIface else .iface 39 (.int .i64 n)
theorem errV_zero : errV 0 = .nilIface := rfl
theorem errV_ne {n : Int} (h : n ≠ 0) : errV n = .iface 39 (.int .i64 n) := if_neg h

theorem ret_i64 {a b : Int} (h : a = b) : Ending.returned (.int .i64 a) = .returned (.int .i64 b) := by rw [h]
theorem ret_bool {a b : Bool} (h : a = b) : Ending.returned (.bool a) = .returned (.bool b) := by rw [h]
theorem bhid {B : Nat} {a b c : World} (h : Hid (Below B a b)) (k : Hid (Below b.heap.size b c)) (hB : B ≤ a.heap.size) : Hid (Below B a c) :=
  Go.Lib.hid (h.out.trans (k.out.mono (Nat.le_trans hB h.out.size)))
theorem bh {a b c : World} (h : Hid (Below a.heap.size a b)) (k : Below b.heap.size b c) : Hid (Below a.heap.size a c) :=
  Go.Lib.hid (h.out.trans (k.mono h.out.size))
theorem grown_none {w w' : World} (hg : w.grownBy w' none) : Below w.heap.size w w' := ⟨hg.os, hg.tape, hg.output, hg.size, fun k hk => hg.block k hk (by simp)⟩
theorem own_lt {w : World} {B n : Nat} {e : TypeId} {size : Nat} {v : Value} {xs : List Value} (h : w.ownsRow B e size v n xs) : ∀ g, v.ownBlock = some g → g < w.heap.size := by
  intro g hg
  rcases h.2 with ⟨rfl, _⟩ | ⟨g', cap, cur, rfl, _, hh, _⟩
  · simp [Value.ownBlock] at hg
  · simp [Value.ownBlock] at hg
    subst hg
    exact (Array.getElem?_eq_some_iff.1 hh).1
theorem below_box (w : World) (o : Obj) : Below w.heap.size w (w.alloc o) := (Below.refl _ _).alloc (Nat.le_refl _) o
theorem grown_of_below {w w' : World} (h : Below w.heap.size w w') (r : Option Nat) : w.grownBy w' r := ⟨h.os, h.tape, h.output, h.size, fun k hk _ => h.block k hk⟩
theorem below_of_grown {w w' : World} {R B : Nat} (h : w.grownBy w' (some R)) (hB : B ≤ R) (hB2 : B ≤ w.heap.size) : Below B w w' :=
  ⟨h.os, h.tape, h.output, h.size, fun k hk => h.block k (by omega) (by intro e; cases e; omega)⟩
theorem grown_setCell (w : World) (p : Addr) (u : Value) : w.grownBy (w.setCell p u) (some p.block) :=
  ⟨rfl, rfl, rfl, by simp [World.setCell], fun k _ hn => Below.heap_setCell _ _ _ _ (fun e => hn (by rw [e]))⟩
theorem own_kept_below {w w' : World} {B n : Nat} {e : TypeId} {size : Nat} {v : Value} {xs : List Value} (h : w.ownsRow B e size v n xs) (hb : Below w.heap.size w w') : w'.ownsRow B e size v n xs :=
  h.kept (grown_of_below hb none) (by cases hv : v.ownBlock <;> simp)
end Go.Proofs.YtcdpoamiejompaaGreatDoor
namespace Go.Proofs.YtcdpoamiejompaaGreatDoor
open Go.RowKit
set_option maxRecDepth 100000

theorem race_disable (w : World) : (callFunc 223 #[]).run Tryz.prog w = .ok (.value (.tuple #[])) w := run_call_mark0 Tryz.func223 (by kernel_rfl) (by kernel_rfl) (by kernel_rfl) .disable (by kernel_rfl) w
theorem race_enable (w : World) : (callFunc 225 #[]).run Tryz.prog w = .ok (.value (.tuple #[])) w := run_call_mark0 Tryz.func225 (by kernel_rfl) (by kernel_rfl) (by kernel_rfl) .enable (by kernel_rfl) w
theorem race_acquire (a : Addr) (w : World) : (callFunc 226 #[.pointer (some a)]).run Tryz.prog w = .ok (.value (.tuple #[])) w := run_call_marked Tryz.func226 (by kernel_rfl) (by kernel_rfl) (by kernel_rfl) .acquire (by kernel_rfl) a w
theorem race_releaseMerge (a : Addr) (w : World) : (callFunc 228 #[.pointer (some a)]).run Tryz.prog w = .ok (.value (.tuple #[])) w := run_call_marked Tryz.func228 (by kernel_rfl) (by kernel_rfl) (by kernel_rfl) .releaseMerge (by kernel_rfl) a w

theorem store_deferred (a : Addr) (x : Value) (u : FrameMode) (w : World) (hc : w.cell? a = some x) (hz : w.frozen? a = false) :
    CallsD Tryz.prog 188 #[.pointer (some a), .bool true] u w fun e u' w' => u' = u ∧ (e = .returned (.tuple #[]) ∧ w' = w.drew.setCell a (.int .u32 1)) := by
  have hc' : w.drew.cell? a = some x := by go_simp
  have hz' : w.drew.frozen? a = false := by go_simp
  have hst := run_call_store (P := Tryz.prog) Tryz.func205 (by kernel_rfl) (by kernel_rfl) (by kernel_rfl) (by kernel_rfl) (k := .u32) (y := 1) hc' hz'
  go_enter_d Tryz.func188, Tryz.ntmps188
  go_wp2
  go_region_calls
  all_goals (go_end0; exact ⟨rfl, rfl⟩)

theorem unlock_deferred (a : Addr) (u : FrameMode) (w : World) (hc : w.cell? a = some (.int .i32 1)) (hz : w.frozen? a = false) :
    CallsD Tryz.prog 187 #[.pointer (some a)] u w fun e u' w' => u' = u ∧ (e = .returned (.tuple #[]) ∧ w' = w.setCell a (.int .i32 0)) := by
  have hd := race_disable
  have he := race_enable
  have hr := race_releaseMerge
  have hadd := run_call_add (P := Tryz.prog) Tryz.func229 (by kernel_rfl) (by kernel_rfl) (by kernel_rfl) .i32 (by kernel_rfl) (y := -1) (s := 0) hc hz (by simp [go_sem]; rfl)
  have hcv := run_convert_to_unsafe (P := Tryz.prog) (src := 306) (dst := 147) Tryz.underlying306 Tryz.underlying147 (by kernel_rfl) hc
  go_enter_d Tryz.func187, Tryz.ntmps187
  go_wp2
  go_end0
  go_wp2
  go_end0
  exact ⟨rfl, rfl⟩

theorem lock_free (a : Addr) (w : World) (hc : w.cell? a = some (.int .i32 0)) (hz : w.frozen? a = false) :
    Calls Tryz.prog 186 #[.pointer (some a)] w fun e w' => e = .returned (.tuple #[]) ∧ w' = w.setCell a (.int .i32 1) := by
  have hd := race_disable
  have he := race_enable
  have ha := race_acquire
  have hcas := run_call_cas_hit (P := Tryz.prog) Tryz.func224 (by kernel_rfl) (by kernel_rfl) (by kernel_rfl) .i32 (by kernel_rfl) (y := 1) hc hz
  have hc' : (w.setCell a (.int .i32 1)).cell? a = some (.int .i32 1) := World.cell?_setCell_same w a _ hc
  have hcv := run_convert_to_unsafe (P := Tryz.prog) (src := 306) (dst := 147) Tryz.underlying306 Tryz.underlying147 (by kernel_rfl) hc'
  go_enter Tryz.func186, Tryz.ntmps186
  go_wp2
  first | go_end0 | (simp only [Exit.inBlock, Exit.then]; refine bodyPost_ret (results_none rfl _ _ _) rfl ?_) | refine bodyPost_ret (results_none rfl _ _ _) rfl ?_
  go_wp2
  go_end0
  exact ⟨rfl, rfl⟩
end Go.Proofs.YtcdpoamiejompaaGreatDoor
namespace Go.Proofs.YtcdpoamiejompaaGreatDoor
open Go.RowKit Go.Wk

theorem name_letter (n : Int) (w : World) (h0 : 0 ≤ n) (h1 : n ≤ 255) : Calls Tryz.prog 102 #[.int .u8 n] w fun e w' => e = .returned (.bool (isLet n)) ∧ w = w' := by
  go_enter Tryz.func102, Tryz.ntmps102
  go_wp2
  all_goals (go_ret; exact ⟨ret_bool (by unfold isLet; rw [Bool.eq_iff_iff]; simp; omega), rfl⟩)
theorem name_digit (n : Int) (w : World) (h0 : 0 ≤ n) (h1 : n ≤ 255) : Calls Tryz.prog 103 #[.int .u8 n] w fun e w' => e = .returned (.bool (isDig n)) ∧ w = w' := by
  go_enter Tryz.func103, Tryz.ntmps103
  go_wp2
  all_goals (go_ret; exact ⟨ret_bool (by unfold isDig; rw [Bool.eq_iff_iff]; simp; omega), rfl⟩)
/-- '[]byte(s)': a new row with the text's bytes. -/
theorem run_bytes (s : ByteArray) (w : World) : ∃ (c : Nat) (w1 : World), (convert 9 142 (.string s)).run Tryz.prog w = .ok (.slice (some ⟨w.heap.size, 0, none⟩) s.size c) w1 ∧ Below w.heap.size w w1 ∧
    ∀ (k : Nat) (h : k < s.size), w1.cell? ⟨w.heap.size, k, none⟩ = some (.int .u8 (s[k].toNat : Int)) := by
  have h := run_bytes_of_string (P := Tryz.prog) w 9 142 5 s Tryz.underlying9 Tryz.underlying142 Tryz.underlying5
  refine ⟨_, _, h, ((Below.refl _ _).drew).alloc (by simp) _, fun k hk => ?_⟩
  have e : w.heap.size = w.drew.heap.size := rfl
  rw [e, World.cell?_alloc_mark, bytesRow_at s _ k hk]
  rfl

set_option maxHeartbeats 400000 in
theorem name_Plain_full (s : ByteArray) (w : World) (h : 60 < s.size) (hs : s.size ≤ maxLen) : Calls Tryz.prog 99 #[.string s] w fun e w' => e = .returned (errV (textFault s)) ∧ Below w.heap.size w w' := by
  have H := Lib.hid (show textFault s = 4 by unfold textFault; rw [if_pos h])
  unfold maxLen at hs
  go_enter Tryz.func99, Tryz.ntmps99
  go_wp2
  go_ret
  exact ⟨by rw [H.out]; rfl, Below.refl _ _⟩

set_option maxRecDepth 100000 in
set_option maxHeartbeats 400000 in
theorem name_Plain_short (s : ByteArray) (w : World) (hs : s.size ≤ 60) : Calls Tryz.prog 99 #[.string s] w fun e w' => e = .returned (errV (textFault s)) ∧ Below w.heap.size w w' := by
  have H := Lib.hid (show textFault s = if s.data.toList.all isPrtB then 0 else 1 by unfold textFault; rw [if_neg (by omega)])
  obtain ⟨c, w1, hrun, hb, hcell⟩ := run_bytes s w
  have HC := Lib.hid hcell
  clear hcell
  go_enter Tryz.func99, Tryz.ntmps99
  go_wp2
  clear hrun
  go_loop [2, 4, 12] (fun r _ i => ∃ k : Nat, k ≤ s.size ∧ i = .int .i64 k ∧ r = .nilIface ∧ Hid ((s.data.toList.take k).all isPrtB = true)) (fun _ _ i => s.size - (intOf i).toNat)
  case atStart => exact ⟨0, Nat.zero_le _, rfl, rfl, by simp [Hid]⟩
  case round =>
    obtain ⟨k, hk, rfl, rfl, hall⟩ := hrel
    by_cases hlt : k < s.size
    · have hc := HC.out k hlt
      by_cases hp : 32 ≤ (s[k].toNat : Int) ∧ (s[k].toNat : Int) ≤ 126
      · have H2 := Lib.hid (show (s.data.toList.take (k + 1)).all isPrtB = true by
          rw [all_succ s isPrtB hlt, hall.out, Bool.true_and]; unfold isPrtB isPrt; simp; omega)
        obtain ⟨hp1, hp2⟩ := hp
        go_wp2
        go_round
        case rel => exact ⟨k + 1, by omega, by go_num, rfl, H2⟩
        case measure => simp [intOf]; omega
      · have H2 := Lib.hid (show s.data.toList.all isPrtB = false from all_stop hlt (by unfold isPrtB isPrt; rw [Bool.eq_false_iff]; simp; omega))
        by_cases hq : (s[k].toNat : Int) < 32
        · clear hp
          go_wp2
          go_ret
          exact ⟨by rw [H.out, H2.out]; rfl, hb⟩
        · have hq2 : 126 < (s[k].toNat : Int) := by omega
          clear hp
          go_wp2
          go_ret
          exact ⟨by rw [H.out, H2.out]; rfl, hb⟩
    · have H2 := Lib.hid (show s.data.toList.all isPrtB = true from (all_end (k := k) (by omega)).symm.trans hall.out)
      clear hall
      go_wp2
      go_ret
      exact ⟨by rw [H.out, H2.out]; rfl, hb⟩
theorem name_Plain (s : ByteArray) (w : World) (hs : s.size ≤ maxLen) : Calls Tryz.prog 99 #[.string s] w fun e w' => e = .returned (errV (textFault s)) ∧ Below w.heap.size w w' := by
  by_cases h : 60 < s.size
  · exact name_Plain_full s w h hs
  · exact name_Plain_short s w (by omega)

set_option maxHeartbeats 400000 in
theorem name_Check_empty (s : ByteArray) (w : World) (h : s.size = 0) : Calls Tryz.prog 59 #[.string s] w fun e w' => e = .returned (errV (nameFault s)) ∧ Below w.heap.size w w' := by
  have H := Lib.hid (show nameFault s = 1 by unfold nameFault; rw [nameOk_empty h]; rfl)
  have h1 : s = ⟨#[]⟩ := bytes_ext (List.eq_nil_of_length_eq_zero (by rw [Array.length_toList]; exact h))
  clear h
  subst h1
  go_enter Tryz.func59, Tryz.ntmps59
  go_wp2
  go_ret
  exact ⟨by rw [H.out]; rfl, Below.refl _ _⟩

theorem not_empty {s : ByteArray} (h : 0 < s.size) : s.toList = [] ↔ False := by
  rw [ByteArray.toList_eq]
  constructor
  · intro h'
    have : s.data.toList.length = 0 := by rw [h']; rfl
    rw [Array.length_toList] at this
    exact absurd (show s.size = 0 from this) (by omega)
  · exact False.elim

set_option maxHeartbeats 400000 in
theorem name_Check_first (s : ByteArray) (w : World) (h : 0 < s.size) (hl : isLet (s[0].toNat : Int) = false) : Calls Tryz.prog 59 #[.string s] w fun e w' => e = .returned (errV (nameFault s)) ∧ Below w.heap.size w w' := by
  have H := Lib.hid (show nameFault s = 1 by unfold nameFault; rw [nameOk_first h hl]; rfl)
  have he : s.toList.isEmpty = false := by rw [List.isEmpty_eq_false_iff]; exact fun q => (not_empty h).1 q
  have he2 : ¬ s.toList = [] := fun q => (not_empty h).1 q
  have C1 := Lib.hid (fun w => name_letter (s[0].toNat : Int) w (by omega) (by have := s[0].toNat_lt; omega))
  rw [hl] at C1
  clear hl
  go_enter Tryz.func59, Tryz.ntmps59
  go_wp2_with (go_at_call 102; refine (C1.out _).mono ?_; rintro e w' ⟨rfl, rfl⟩)
  go_ret
  exact ⟨by rw [H.out]; rfl, Below.refl _ _⟩

set_option maxRecDepth 100000 in
set_option maxHeartbeats 1000000 in
theorem name_Check_rest (s : ByteArray) (w : World) (h : 0 < s.size) (hs : s.size ≤ maxLen) (hl : isLet (s[0].toNat : Int) = true) : Calls Tryz.prog 59 #[.string s] w fun e w' => e = .returned (errV (nameFault s)) ∧ Below w.heap.size w w' := by
  have H := Lib.hid (show nameFault s = if s.data.toList.all isWrd then (if 20 < s.size then 4 else 0) else 1 by unfold nameFault; rw [nameOk_all h hl])
  have he : s.toList.isEmpty = false := by rw [List.isEmpty_eq_false_iff]; exact fun q => (not_empty h).1 q
  have he2 : ¬ s.toList = [] := fun q => (not_empty h).1 q
  have C1 := Lib.hid (fun w => name_letter (s[0].toNat : Int) w (by omega) (by have := s[0].toNat_lt; omega))
  rw [hl] at C1
  clear hl
  unfold maxLen at hs
  obtain ⟨c, w1, hrun, hb, hcell⟩ := run_bytes s w
  have HC := Lib.hid hcell
  clear hcell
  go_enter Tryz.func59, Tryz.ntmps59
  go_wp2_with (go_at_call 102; refine (C1.out _).mono ?_; rintro e w' ⟨rfl, rfl⟩)
  clear hrun C1
  go_loop [2, 4, 17] (fun r _ i => ∃ k : Nat, k ≤ s.size ∧ i = .int .i64 k ∧ r = .nilIface ∧ Hid ((s.data.toList.take k).all isWrd = true)) (fun _ _ i => s.size - (intOf i).toNat)
  case atStart => exact ⟨0, Nat.zero_le _, rfl, rfl, by simp [Hid]⟩
  case round =>
    obtain ⟨k, hk, rfl, rfl, hall⟩ := hrel
    by_cases hlt : k < s.size
    · have hc := HC.out k hlt
      have C1 := Lib.hid (fun w => name_letter (s[k].toNat : Int) w (by omega) (by have := s[k].toNat_lt; omega))
      have C2 := Lib.hid (fun w => name_digit (s[k].toNat : Int) w (by omega) (by have := s[k].toNat_lt; omega))
      have hst : isWrd s[k] = (isLet (s[k].toNat : Int) || isDig (s[k].toNat : Int)) := rfl
      have G1 := Lib.hid (fun q : isWrd s[k] = true => (show (s.data.toList.take (k + 1)).all isWrd = true by rw [all_succ s isWrd hlt, hall.out, Bool.true_and, q]))
      have G2 := Lib.hid (fun q : isWrd s[k] = false => (all_stop hlt q : s.data.toList.all isWrd = false))
      rw [hst] at G1 G2
      clear hst hall
      rcases hx : isLet (s[k].toNat : Int) with _ | _ <;> rcases hy : isDig (s[k].toNat : Int) with _ | _ <;> rw [hx] at C1 G1 G2 <;> rw [hy] at C2 G1 G2 <;> clear hx hy
      all_goals go_wp2_with (first | (go_at_call 102; refine (C1.out _).mono ?_; rintro e w' ⟨rfl, rfl⟩) | (go_at_call 103; refine (C2.out _).mono ?_; rintro e w' ⟨rfl, rfl⟩))
      · go_ret
        exact ⟨by rw [H.out, G2.out rfl]; rfl, hb⟩
      all_goals
        go_round
        case rel => exact ⟨k + 1, by omega, by go_num, rfl, G1.out rfl⟩
        case measure => simp [intOf]; omega
    · have H2 := Lib.hid (show s.data.toList.all isWrd = true from (all_end (k := k) (by omega)).symm.trans hall.out)
      clear hall
      by_cases h20 : 20 < s.size
      · have H3 := Lib.hid (show nameFault s = 4 by rw [H.out, H2.out, if_pos rfl, if_pos h20])
        clear H H2
        go_wp2
        go_ret
        exact ⟨by rw [H3.out]; rfl, hb⟩
      · have H3 := Lib.hid (show nameFault s = 0 by rw [H.out, H2.out, if_pos rfl, if_neg h20])
        clear H H2
        go_wp2
        go_ret
        exact ⟨by rw [H3.out]; rfl, hb⟩
theorem name_Check (s : ByteArray) (w : World) (hs : s.size ≤ maxLen) : Calls Tryz.prog 59 #[.string s] w fun e w' => e = .returned (errV (nameFault s)) ∧ Below w.heap.size w w' := by
  by_cases h : s.size = 0
  · exact name_Check_empty s w h
  · rcases hl : isLet ((s[0]'(by omega)).toNat : Int) with _ | _
    · exact name_Check_first s w (by omega) hl
    · exact name_Check_rest s w (by omega) hs hl

end Go.Proofs.YtcdpoamiejompaaGreatDoor
namespace Go.Proofs.YtcdpoamiejompaaGreatDoor
open Go.RowKit Go.Wk
set_option maxRecDepth 100000

theorem txInfo : (Tryz.prog.info? 9).map (fun i => (i.zero, i.size, i.bytes)) = some (some (.string ⟨#[]⟩), 1, 16) := by kernel_rfl
/-- The table as the literal lays it: no byte has another text. -/
noncomputable def tabZ (v : Value) : Array Value := Tryz.zeroCells266.setIfInBounds 256 v
theorem tab_zero : Tryz.zeroCells266 = Array.replicate 257 (.slice none 0 0) := by kernel_rfl
theorem tabZ_eq (v : Value) : tabZ v = (Array.replicate 257 (.slice none 0 0)).setIfInBounds 256 v := by unfold tabZ; rw [tab_zero]
theorem tabZ_size (v : Value) : (tabZ v).size = 257 := by rw [tabZ_eq]; simp
theorem tabZ_at (v : Value) (k : Nat) (h : k < 256) : (tabZ v)[k]? = some (.slice none 0 0) := by
  rw [tabZ_eq, Array.getElem?_setIfInBounds]
  rw [if_neg (by omega), Array.getElem?_replicate, if_pos (by omega)]
theorem tabZ_last (v : Value) : (tabZ v)[256]? = some v := by rw [tabZ_eq]; simp
/-- The table at a block: what stands at each byte, and the row of the bytes. -/
structure Tab (w : World) (X : Nat) (f : Nat → Value) (z : Value) : Prop where
  at_ : ∀ k, k < 256 → w.cell? ⟨X, k, none⟩ = some (f k)
  last : w.cell? ⟨X, 256, none⟩ = some z
  thaw : ∀ k, k ≤ 256 → w.frozen? ⟨X, k, none⟩ = false
theorem cell_row {w : World} {b k : Nat} {arr : Array Value} {t : TypeId} {fz : Nat × Nat} {u : Value} (h : w.heap[b]? = some (.cells arr t fz)) (hu : arr[k]? = some u) : w.cell? ⟨b, k, none⟩ = some u := by
  rw [cell_of_row _ _ k arr t fz h]; exact hu
theorem tab_new (w : World) (v : Value) : Tab (w.alloc (.cells (tabZ v) 266)) w.heap.size (fun _ => .slice none 0 0) v :=
  ⟨fun k h => cell_row (heap_alloc_last w _) (tabZ_at v k h), cell_row (heap_alloc_last w _) (tabZ_last v), fun k _ => by simp⟩
theorem Tab.lt {w : World} {X : Nat} {f : Nat → Value} {z : Value} (h : Tab w X f z) : X < w.heap.size := block_lt_of_cell h.last
theorem Tab.keep {w w' : World} {X : Nat} {f : Nat → Value} {z : Value} (h : Tab w X f z) (hb : Below w.heap.size w w') : Tab w' X f z :=
  ⟨fun k hk => cell_keep hb (h.at_ k hk), cell_keep hb h.last, fun k hk => by rw [(bcell hb).2 X k h.lt]; exact h.thaw k hk⟩
theorem Tab.set {w : World} {X : Nat} {f : Nat → Value} {z : Value} (h : Tab w X f z) (j : Nat) (hj : j < 256) (v : Value) : Tab (w.setCell ⟨X, j, none⟩ v) X (fun k => if k = j then v else f k) z :=
  ⟨fun k hk => by
    by_cases e : k = j
    · subst e; rw [if_pos rfl]; exact World.cell?_setCell_same _ _ _ (h.at_ k hk)
    · rw [if_neg e, World.cell?_setCell_other _ ⟨X, j, none⟩ ⟨X, k, none⟩ _ (by intro e; injection e; omega)]; exact h.at_ k hk,
   by rw [World.cell?_setCell_other _ ⟨X, j, none⟩ ⟨X, 256, none⟩ _ (by intro e; injection e; omega)]; exact h.last,
   fun k hk => by rw [World.frozen?_setCell]; exact h.thaw k hk⟩
theorem Tab.grown {w w' : World} {X : Nat} {f : Nat → Value} {z : Value} {g : Option Nat} (h : Tab w X f z) (hg : w.grownBy w' g) (hn : g ≠ some X) : Tab w' X f z := by
  have hb : w'.heap[X]? = w.heap[X]? := hg.block X h.lt (fun e => hn e.symm)
  exact ⟨fun k hk => (World.cell?_of_block (a := ⟨X, k, none⟩) hb).trans (h.at_ k hk), (World.cell?_of_block (a := ⟨X, 256, none⟩) hb).trans h.last, fun k hk => (World.frozen?_of_block (a := ⟨X, k, none⟩) hb).trans (h.thaw k hk)⟩
theorem Tab.setLast {w : World} {X : Nat} {f : Nat → Value} {z : Value} (h : Tab w X f z) (v : Value) : Tab (w.setCell ⟨X, 256, none⟩ v) X f v :=
  ⟨fun k hk => by rw [World.cell?_setCell_other _ ⟨X, 256, none⟩ ⟨X, k, none⟩ _ (by intro e; injection e; omega)]; exact h.at_ k hk,
   World.cell?_setCell_same _ _ _ h.last,
   fun k hk => by rw [World.frozen?_setCell]; exact h.thaw k hk⟩
theorem bytes_nil (w : World) : (binOp .eql 142 (.slice none 0 0) (.slice none 0 0)).run Tryz.prog w = .ok (.bool true) w := by kernel_rfl
theorem byte_str (w : World) (b : UInt8) (n : Int) (hn : n = b.toNat) : (convert 142 9 (.slice (some ⟨w.heap.size, 0, none⟩) 1 1)).run Tryz.prog (w.alloc (.cells #[.int .u8 n] 5)) = .ok (.string ⟨#[b]⟩) (w.alloc (.cells #[.int .u8 n] 5)) := by
  subst hn
  exact run_convert_bytes_back (P := Tryz.prog) _ 142 9 5 ⟨w.heap.size, 0, none⟩ 1 [b] Tryz.underlying142 Tryz.underlying5 Tryz.underlying9 (fun j hj => by
    have : j = 0 := by simpa using hj
    subst this
    exact cell_one_new w _ _ 0 _ rfl)
theorem two_new (w : World) (o : Array Value) (x : Value) (t t' : TypeId) : ∀ j u, [x][j]? = some u → ((w.alloc (.cells o t')).alloc (.cells #[x] t)).cell? ((⟨w.heap.size + 1, 0, none⟩ : Addr).add j) = some u := by
  intro j u hj
  have := cell_one_new (w.alloc (.cells o t')) x t j u hj
  simpa using this
theorem own_slice {w : World} {B n size : Nat} {e : TypeId} {v : Value} {xs : List Value} (h : w.ownsRow B e size v n xs) : ∃ A c, v = .slice A n c := by
  rcases h.2 with ⟨rfl, h0⟩ | ⟨g, cap, cur, rfl, _⟩
  · exact ⟨none, 0, by rw [h0]⟩
  · exact ⟨_, _, rfl⟩
/-- A text's bytes at a block that is neither the table's nor the one that the row of the bytes lies in. -/
def Tx (w : World) (X : Nat) (g : Option Nat) (v : Value) (l : List UInt8) : Prop := ∃ P c, v = .slice (some ⟨P, 0, none⟩) l.length c ∧ P ≠ X ∧ g ≠ some P ∧ P < w.heap.size ∧ ∀ (j : Nat) (b : UInt8), l[j]? = some b → w.cell? ⟨P, j, none⟩ = some (.int .u8 (b.toNat : Int))
theorem Tx.keep {w w' : World} {X : Nat} {g : Option Nat} {v : Value} {l : List UInt8} (h : Tx w X g v l) (hb : Below w.heap.size w w') : Tx w' X g v l :=
  let ⟨P, c, h1, h2, h3, h4, h5⟩ := h; ⟨P, c, h1, h2, h3, Nat.lt_of_lt_of_le h4 hb.size, fun j b hj => cell_keep hb (h5 j b hj)⟩
theorem Tx.grown {w w' : World} {X : Nat} {g : Option Nat} {v : Value} {l : List UInt8} (h : Tx w X g v l) (hg : w.grownBy w' g) : Tx w' X g v l :=
  let ⟨P, c, h1, h2, h3, h4, h5⟩ := h; ⟨P, c, h1, h2, h3, Nat.lt_of_lt_of_le h4 hg.size, fun j b hj => (World.cell?_of_block (a := ⟨P, j, none⟩) (hg.block P h4 (fun e => h3 e.symm))).trans (h5 j b hj)⟩
theorem Tx.setX {w : World} {X : Nat} {g : Option Nat} {v : Value} {l : List UInt8} (h : Tx w X g v l) (k : Nat) (u : Value) : Tx (w.setCell ⟨X, k, none⟩ u) X g v l :=
  let ⟨P, c, h1, h2, h3, h4, h5⟩ := h; ⟨P, c, h1, h2, h3, by simpa [World.setCell] using h4, fun j b hj => by
    rw [World.cell?_setCell_other _ ⟨X, k, none⟩ ⟨P, j, none⟩ _ (by intro e; injection e with e; exact h2 e.symm)]; exact h5 j b hj⟩
theorem Tx.regrow {w w' : World} {X : Nat} {g g' : Option Nat} {v : Value} {l : List UInt8} {o o' : Obj} (h : Tx w X g v l) (hg : ((w.alloc o).alloc o').grownBy w' g) (hat : g' = g ∨ g' = some (w.heap.size + 1 + 1)) : Tx w' X g' v l := by
  have h1 := ((h.keep (below_box w o)).keep (below_box _ o')).grown hg
  obtain ⟨P, c, h1, h2, h3, h4, h5⟩ := h1
  refine ⟨P, c, h1, h2, ?_, h4, h5⟩
  rcases hat with rfl | rfl
  · exact h3
  · obtain ⟨P', c', k1, k2, k3, k4, k5⟩ := h
    rw [h1] at k1
    injection k1 with k1
    injection k1 with k1
    injection k1 with k1
    intro e; injection e with e; omega
theorem tx_of {w : World} {X P c : Nat} {g : Option Nat} (l : List UInt8) (hX : P ≠ X) (hg : g ≠ some P) (hP : P < w.heap.size) (h : ∀ (k : Nat) (h : k < (⟨l.toArray⟩ : ByteArray).size), w.cell? ⟨P, k, none⟩ = some (.int .u8 ((⟨l.toArray⟩ : ByteArray)[k].toNat : Int))) : Tx w X g (.slice (some ⟨P, 0, none⟩) l.length c) l :=
  ⟨P, c, rfl, hX, hg, hP, fun j b hj => by
    obtain ⟨hk, e⟩ := List.getElem?_eq_some_iff.1 hj
    have := h j (by show j < l.toArray.size; rw [List.size_toArray]; exact hk)
    rw [this, ← e]; rfl⟩
/-- The rounds that fill the table. -/
def Rnd (w : World) (X : Nat) (wr : World) (i : Value) : Prop := ∃ (f : Nat → Value) (z : Value) (L : List Value),
  wr.ownsRow w.heap.size 9 1 z L.length L ∧ Tab wr X f z ∧ z.ownBlock ≠ some X ∧ Below w.heap.size w wr ∧
  ((i = .int .i64 2 ∧ L = [] ∧ f = fun _ => .slice none 0 0) ∨
   (i = .int .i64 0 ∧ L = [.string ⟨#[34]⟩] ∧ Tx wr X z.ownBlock (f 34) [92, 34] ∧ ∀ k, k ≠ 34 → f k = .slice none 0 0) ∨
   (i = .int .i64 (-2) ∧ L = [.string ⟨#[34]⟩, .string ⟨#[92]⟩] ∧ Tx wr X z.ownBlock (f 34) [92, 34] ∧ Tx wr X z.ownBlock (f 92) [92, 92] ∧ ∀ k, k ≠ 34 → k ≠ 92 → f k = .slice none 0 0))
/-- A replacer's table, whole. -/
structure RepAt (w : World) (X : Nat) (f : Nat → Value) (T c : Nat) : Prop where
  tab : Tab w X f (.slice (some ⟨T, 0, none⟩) 2 c)
  t0 : w.cell? ⟨T, 0, none⟩ = some (.string ⟨#[34]⟩)
  t1 : w.cell? ⟨T, 1, none⟩ = some (.string ⟨#[92]⟩)
  q : ∃ P d, f 34 = .slice (some ⟨P, 0, none⟩) 2 d ∧ w.cell? ⟨P, 0, none⟩ = some (.int .u8 92) ∧ w.cell? ⟨P, 1, none⟩ = some (.int .u8 34)
  s : ∃ P d, f 92 = .slice (some ⟨P, 0, none⟩) 2 d ∧ w.cell? ⟨P, 0, none⟩ = some (.int .u8 92) ∧ w.cell? ⟨P, 1, none⟩ = some (.int .u8 92)
  o : ∀ k, k ≠ 34 → k ≠ 92 → f k = .slice none 0 0
theorem RepAt.keep {w w' : World} {X : Nat} {f : Nat → Value} {T c : Nat} (h : RepAt w X f T c) (hb : Below w.heap.size w w') : RepAt w' X f T c :=
  ⟨h.tab.keep hb, cell_keep hb h.t0, cell_keep hb h.t1, let ⟨P, d, h1, h2, h3⟩ := h.q; ⟨P, d, h1, cell_keep hb h2, cell_keep hb h3⟩, let ⟨P, d, h1, h2, h3⟩ := h.s; ⟨P, d, h1, cell_keep hb h2, cell_keep hb h3⟩, h.o⟩
theorem rep_of {w : World} {X B : Nat} {f : Nat → Value} {z : Value} (hO : w.ownsRow B 9 1 z 2 [.string ⟨#[34]⟩, .string ⟨#[92]⟩]) (hT : Tab w X f z)
    (h34 : Tx w X z.ownBlock (f 34) [92, 34]) (h92 : Tx w X z.ownBlock (f 92) [92, 92]) (hk : ∀ k, k ≠ 34 → k ≠ 92 → f k = .slice none 0 0) : ∃ T c, RepAt w X f T c := by
  have hc := fun g (e : z.ownBlock = some g) => hO.cells (g := g) e
  obtain ⟨P, d, p1, -, -, -, p2⟩ := h34
  obtain ⟨Q, d', q1, -, -, -, q2⟩ := h92
  rcases hO.2 with ⟨rfl, h0⟩ | ⟨g, cap, cur, rfl, _⟩
  · omega
  · exact ⟨g, cap, hT, hc g rfl 0 _ rfl, hc g rfl 1 _ rfl, ⟨P, d, p1, p2 0 92 rfl, p2 1 34 rfl⟩, ⟨Q, d', q1, q2 0 92 rfl, q2 1 92 rfl⟩, hk⟩
theorem repl_lit (w0 : World) (A : Option Addr) (n c : Nat) :
    Sem.run Tryz.prog (storeCells ⟨w0.heap.size, 0, none⟩ (Tryz.zeroCells266.toList.set 256 (.slice A n c))) (w0.alloc (.cells Tryz.zeroCells266 266)) = .ok () (w0.alloc (.cells (tabZ (.slice A n c)) 266)) := by
  have hs := tabZ_size (.slice A n c)
  have hz : Tryz.zeroCells266.size = 257 := by rw [tab_zero]; simp
  have h1 : (tabZ (.slice A n c)).all (·.oneCell') = true := by
    rw [Array.all_eq_true]
    intro i hi
    have := Array.getElem?_eq_getElem hi
    rcases Nat.lt_or_ge i 256 with h | h
    · rw [tabZ_at _ i h] at this; injection this with this; rw [← this]; rfl
    · have e : i = 256 := by omega
      subst e
      rw [tabZ_last] at this; injection this with this; rw [← this]; rfl
  have := run_storeCells_new (P := Tryz.prog) w0 266 Tryz.zeroCells266 (tabZ (.slice A n c)) (by rw [hs]; kernel_rfl) (by omega) h1
  have e : (tabZ (.slice A n c)).toList = Tryz.zeroCells266.toList.set 256 (.slice A n c) := by unfold tabZ; simp
  rw [e] at this
  exact this
set_option maxHeartbeats 4000000 in
theorem repl_build (b G C : Nat) (w : World) (h4 : w.cell? ⟨b, 4, none⟩ = some (.slice (some ⟨G, 0, none⟩) 4 C))
    (t0 : w.cell? ⟨G, 0, none⟩ = some (.string ⟨#[92]⟩)) (t1 : w.cell? ⟨G, 1, none⟩ = some (.string ⟨#[92, 92]⟩)) (t2 : w.cell? ⟨G, 2, none⟩ = some (.string ⟨#[34]⟩)) (t3 : w.cell? ⟨G, 3, none⟩ = some (.string ⟨#[92, 34]⟩)) :
    Calls Tryz.prog 178 #[.pointer (some ⟨b, 0, none⟩)] w fun e w' => ∃ X f T c, e = .returned (.iface 267 (.pointer (some ⟨X, 0, none⟩))) ∧ w.heap.size ≤ X ∧ RepAt w' X f T c ∧ Below w.heap.size w w' := by
  obtain ⟨j0, hj, jz0, jz1, jz2⟩ := info_parts txInfo
  have T0 := Lib.hid t0
  have T1 := Lib.hid t1
  have T2 := Lib.hid t2
  have T3 := Lib.hid t3
  clear t0 t1 t2 t3
  go_enter Tryz.func178, Tryz.ntmps178
  go_wp2_with fail
  go_loopw [4, 5] (fun f i wr => ((i = .int .i64 0 ∧ f = .bool true) ∨ (i = .int .i64 2 ∧ f = .bool false) ∨ (i = .int .i64 4 ∧ f = .bool false)) ∧ Hid (Below w.heap.size w wr)) (fun _ i _ => 4 - (intOf i).toNat)
  case atStart => exact ⟨.inl ⟨rfl, rfl⟩, Below.refl _ _⟩
  case round =>
    obtain ⟨hk, hB⟩ := hrel
    have e0 := cell_keep hB.out T0.out
    have e1 := cell_keep hB.out T1.out
    have e2 := cell_keep hB.out T2.out
    have e3 := cell_keep hB.out T3.out
    rcases hk with ⟨rfl, rfl⟩ | ⟨rfl, rfl⟩ | ⟨rfl, rfl⟩
    · go_wp2_with fail
      go_roundw
      case rel => exact ⟨.inr (.inl ⟨rfl, rfl⟩), hB⟩
      case measure => simp [intOf]
    · go_wp2_with fail
      go_roundw
      case rel => exact ⟨.inr (.inr ⟨rfl, rfl⟩), hB⟩
      case measure => simp [intOf]
    · have hsz := hB.out.size
      go_wp2_with (at_make; refine wpList_make_own _ rfl _ _ 58 rfl w.heap.size 9 j0 (.string ⟨#[]⟩) 1 Tryz.underlying58 hj jz0 jz1 .i64 .i64 _ 2 rfl rfl (by simp) (by rw [jz2]; omega) (by unfold maxLen; omega) hsz ?_; intro w0 hown0 hgrow0)
      have hst := repl_lit w0 (some ⟨wr.heap.size, 0, none⟩) 0 2
      rw [hst]
      clear hst
      have hX := hgrow0.size
      have hYX := own_lt hown0 wr.heap.size rfl
      have TB := Lib.hid (tab_new w0 (.slice (some ⟨wr.heap.size, 0, none⟩) 0 2))
      have OW := Lib.hid (hown0.alloc (.cells (tabZ (.slice (some ⟨wr.heap.size, 0, none⟩) 0 2)) 266))
      have B1 := bh hB (((grown_none hgrow0)).alloc hX (.cells (tabZ (.slice (some ⟨wr.heap.size, 0, none⟩) 0 2)) 266))
      obtain ⟨w1, hw1⟩ : ∃ w1, w0.alloc (.cells (tabZ (.slice (some ⟨wr.heap.size, 0, none⟩) 0 2)) 266) = w1 := ⟨_, rfl⟩
      rw [hw1] at TB OW B1 ⊢
      clear hw1 hown0 hgrow0 hB e0 e1 e2 e3
      have hXB : w.heap.size ≤ w0.heap.size := by omega
      go_wp2_with fail
      generalize w0.heap.size = X at *
      generalize wr.heap.size = Y at *
      go_loopw [12, 13, 14] (fun i _ _ wr => Hid (Rnd w X wr i)) (fun i _ _ _ => (intOf i + 2).toNat)
      case atStart => exact ⟨_, _, _, OW.out, TB.out, by simp [Value.ownBlock]; omega, B1.out, .inl ⟨rfl, rfl, rfl⟩⟩
      case round =>
        obtain ⟨f, z, L, hO, hT, hN, hB, hk⟩ := hrel.out
        have e0 := cell_keep hB T0.out
        have e1 := cell_keep hB T1.out
        have e2 := cell_keep hB T2.out
        have e3 := cell_keep hB T3.out
        have HO := Lib.hid hO
        have HT := Lib.hid hT
        have HN := Lib.hid hN
        have HB := Lib.hid hB
        clear hO hT hN hB hrel
        have qnil := bytes_nil
        have q34 : ((⟨#[34]⟩ : ByteArray)[0]'(by decide)).toNat = 34 := rfl
        have q92 : ((⟨#[92]⟩ : ByteArray)[0]'(by decide)).toNat = 92 := rfl
        rcases hk with ⟨rfl, rfl, rfl⟩ | ⟨rfl, rfl, h34, hk⟩ | ⟨rfl, rfl, h34, h92, hk⟩
        · have c0 := HT.out.at_ 34 (by omega)
          have c1 := HT.out.last
          have qs := byte_str wr 34 34 rfl
          have hsz2 := HB.out.size
          go_wp2_with (at_builtin; refine wpList_append_own_at _ rfl _ _ 58 rfl w.heap.size 9 j0 _ 1 16 Tryz.underlying58 hj jz0 jz1 jz2 rfl (by decide) _ 0 [] rfl ((HO.out.alloc _).alloc _) ⟨wr.heap.size + 1, 0, none⟩ 1 1 [.string ⟨#[34]⟩] rfl rfl (two_new wr _ _ _ _) (by intro u hu; simp only [List.mem_cons, List.not_mem_nil, or_false] at hu; subst hu; rfl) ?d1 ?d2 ?d3 ?_)
          case d1 => unfold maxLen; omega
          case d2 => omega
          case d3 => simp; omega
          intro v2 w3 hown hgrow _ hat
          have T3' := Lib.hid (((HT.out.keep (below_box wr _)).keep (below_box _ _)).grown hgrow HN.out)
          obtain ⟨A2, n2, rfl⟩ := own_slice hown
          have O3 := Lib.hid hown
          have B3 := Lib.hid ((((HB.out.alloc hsz2 _).alloc (by simp; omega) _)).grown hgrow (by simp; omega) (fun g hg => own_base HO.out g hg))
          have N3 := Lib.hid (show (Value.slice A2 1 n2).ownBlock ≠ some X by
            rcases hat with q | q
            · rw [q]; exact HN.out
            · rw [q]; intro e; injection e with e; have := HT.out.lt; omega)
          have d1 := T3'.out.last
          have d2 := T3'.out.thaw 256 (by omega)
          clear hown hgrow hat HT HO HB HN c0 c1 e0 e1 e2 e3 qs hsz2
          go_wp2_with fail
          have O4 := Lib.hid (ownsRow_setCell_other O3.out (a := ⟨X, 256, none⟩) N3.out (.slice A2 1 n2))
          have T4 := Lib.hid (T3'.out.setLast (.slice A2 1 n2))
          have B4 := Lib.hid (B3.out.setCell (p := ⟨X, 256, none⟩) hXB (.slice A2 1 n2))
          obtain ⟨w4, hw4⟩ : ∃ w4, w3.setCell ⟨X, 256, none⟩ (.slice A2 1 n2) = w4 := ⟨_, rfl⟩
          rw [hw4] at O4 T4 B4 ⊢
          clear hw4 d1 d2 O3 T3' B3
          obtain ⟨c5, w5, hrun, hb5, hcell⟩ := run_bytes ⟨#[92, 34]⟩ w4
          rw [hrun]
          clear hrun
          have hc0 := hcell 0 (by decide)
          have X5 := Lib.hid (tx_of (w := w5) (X := X) (P := w4.heap.size) (c := c5) (g := (Value.slice A2 1 n2).ownBlock) [92, 34] (by have := T4.out.lt; omega) (by intro e; have := own_lt O4.out _ e; omega) (block_lt_of_cell hc0) hcell)
          have T5 := Lib.hid (T4.out.keep hb5)
          have B5 := bh B4 hb5
          have O5 := Lib.hid (own_kept_below O4.out hb5)
          have e1 := T5.out.at_ 34 (by omega)
          have e2 := T5.out.thaw 34 (by omega)
          clear hcell hb5 O4 T4 B4 hc0
          go_wp2_with fail
          go_roundw
          case rel =>
            refine Lib.hid ⟨_, _, [.string ⟨#[34]⟩], ownsRow_setCell_other O5.out (a := ⟨X, 34, none⟩) N3.out _, T5.out.set 34 (by omega) _, N3.out, B5.out.setCell (p := ⟨X, 34, none⟩) hXB _, .inr (.inl ⟨rfl, rfl, by rw [if_pos rfl]; exact X5.out.setX 34 _, fun k hk => by rw [if_neg hk]⟩)⟩
          case measure => simp [intOf]
        · have c0 := HT.out.at_ 92 (by omega)
          have c1 := HT.out.last
          have qs := byte_str wr 92 92 rfl
          have hsz2 := HB.out.size
          have H34 := Lib.hid h34
          have HK := Lib.hid hk
          have ek : f 92 = .slice none 0 0 := hk 92 (by decide)
          rw [ek] at c0
          clear h34 hk ek
          go_wp2_with (at_builtin; refine wpList_append_own_at _ rfl _ _ 58 rfl w.heap.size 9 j0 _ 1 16 Tryz.underlying58 hj jz0 jz1 jz2 rfl (by decide) _ 1 [.string ⟨#[34]⟩] rfl ((HO.out.alloc _).alloc _) ⟨wr.heap.size + 1, 0, none⟩ 1 1 [.string ⟨#[92]⟩] rfl rfl (two_new wr _ _ _ _) (by intro u hu; simp only [List.mem_cons, List.not_mem_nil, or_false] at hu; subst hu; rfl) ?d1 ?d2 ?d3 ?_)
          case d1 => unfold maxLen; omega
          case d2 => omega
          case d3 => simp; omega
          intro v2 w3 hown hgrow _ hat
          have T3' := Lib.hid (((HT.out.keep (below_box wr _)).keep (below_box _ _)).grown hgrow HN.out)
          obtain ⟨A2, n2, rfl⟩ := own_slice hown
          have O3 := Lib.hid hown
          have B3 := Lib.hid ((((HB.out.alloc hsz2 _).alloc (by simp; omega) _)).grown hgrow (by simp; omega) (fun g hg => own_base HO.out g hg))
          have N3 := Lib.hid (show (Value.slice A2 2 n2).ownBlock ≠ some X by
            rcases hat with q | q
            · rw [q]; exact HN.out
            · rw [q]; intro e; injection e with e; have := HT.out.lt; omega)
          have K3 := Lib.hid (H34.out.regrow hgrow hat)
          have d1 := T3'.out.last
          have d2 := T3'.out.thaw 256 (by omega)
          clear hown hgrow hat HT HO HB HN c0 c1 e0 e1 e2 e3 qs hsz2 H34
          go_wp2_with fail
          have O4 := Lib.hid (ownsRow_setCell_other O3.out (a := ⟨X, 256, none⟩) N3.out (.slice A2 2 n2))
          have T4 := Lib.hid (T3'.out.setLast (.slice A2 2 n2))
          have B4 := Lib.hid (B3.out.setCell (p := ⟨X, 256, none⟩) hXB (.slice A2 2 n2))
          have K4 := Lib.hid (K3.out.setX 256 (.slice A2 2 n2))
          obtain ⟨w4, hw4⟩ : ∃ w4, w3.setCell ⟨X, 256, none⟩ (.slice A2 2 n2) = w4 := ⟨_, rfl⟩
          rw [hw4] at O4 T4 B4 K4 ⊢
          clear hw4 d1 d2 O3 T3' B3 K3
          obtain ⟨c5, w5, hrun, hb5, hcell⟩ := run_bytes ⟨#[92, 92]⟩ w4
          rw [hrun]
          clear hrun
          have hc0 := hcell 0 (by decide)
          have X5 := Lib.hid (tx_of (w := w5) (X := X) (P := w4.heap.size) (c := c5) (g := (Value.slice A2 2 n2).ownBlock) [92, 92] (by have := T4.out.lt; omega) (by intro e; have := own_lt O4.out _ e; omega) (block_lt_of_cell hc0) hcell)
          have T5 := Lib.hid (T4.out.keep hb5)
          have B5 := bh B4 hb5
          have O5 := Lib.hid (own_kept_below O4.out hb5)
          have K5 := Lib.hid (K4.out.keep hb5)
          have e1 := T5.out.at_ 92 (by omega)
          have e2 := T5.out.thaw 92 (by omega)
          clear hcell hb5 O4 T4 B4 K4 hc0
          go_wp2_with fail
          go_roundw
          case rel =>
            refine Lib.hid ⟨_, _, [.string ⟨#[34]⟩, .string ⟨#[92]⟩], ownsRow_setCell_other O5.out (a := ⟨X, 92, none⟩) N3.out _, T5.out.set 92 (by omega) _, N3.out, B5.out.setCell (p := ⟨X, 92, none⟩) hXB _, .inr (.inr ⟨rfl, rfl, by rw [if_neg (by decide)]; exact K5.out.setX 92 _, by rw [if_pos rfl]; exact X5.out.setX 92 _, fun k hk1 hk2 => by rw [if_neg hk2]; exact HK.out k hk1⟩)⟩
          case measure => simp [intOf]
        · have R := Lib.hid (rep_of HO.out HT.out h34 h92 hk)
          clear h34 h92 hk HO HT HN e0 e1 e2 e3
          go_wp2_with fail
          go_ret
          obtain ⟨T, c, R⟩ := R.out
          exact ⟨X, f, T, c, rfl, hXB, R, HB.out⟩
set_option maxHeartbeats 1000000 in
theorem repl_buildOnce (b G C : Nat) (w : World) (h3 : w.cell? ⟨b, 3, none⟩ = some .nilIface) (z3 : w.frozen? ⟨b, 3, none⟩ = false) (z4 : w.frozen? ⟨b, 4, none⟩ = false) (h4 : w.cell? ⟨b, 4, none⟩ = some (.slice (some ⟨G, 0, none⟩) 4 C))
    (t0 : w.cell? ⟨G, 0, none⟩ = some (.string ⟨#[92]⟩)) (t1 : w.cell? ⟨G, 1, none⟩ = some (.string ⟨#[92, 92]⟩)) (t2 : w.cell? ⟨G, 2, none⟩ = some (.string ⟨#[34]⟩)) (t3 : w.cell? ⟨G, 3, none⟩ = some (.string ⟨#[92, 34]⟩)) :
    Calls Tryz.prog 149 #[.pointer (some ⟨b, 0, none⟩)] w fun e w' => ∃ w1 X f T c, e = .returned (.tuple #[]) ∧ w.heap.size ≤ X ∧ RepAt w1 X f T c ∧ Below w.heap.size w w1 ∧
      w' = (w1.setCell ⟨b, 3, none⟩ (.iface 267 (.pointer (some ⟨X, 0, none⟩)))).setCell ⟨b, 4, none⟩ (.slice none 0 0) := by
  have K := Lib.hid (repl_build b G C w h4 t0 t1 t2 t3)
  have H3 := Lib.hid h3
  have H4 := Lib.hid h4
  have Z3 := Lib.hid z3
  have Z4 := Lib.hid z4
  have hb3 := block_lt_of_cell h3
  clear h3 h4 z3 z4 t0 t1 t2 t3
  go_enter Tryz.func149, Tryz.ntmps149
  go_wp2_with fail
  refine (K.out).mono ?_
  rintro e w1 ⟨X, f, T, c, rfl, hX, R, b1⟩
  have R1 := Lib.hid R
  have B1 := Lib.hid b1
  have c3 := cell_keep b1 H3.out
  have c4 := cell_keep b1 H4.out
  have y3 := (bcell b1).2 b 3 hb3
  have y4 := (bcell b1).2 b 4 hb3
  rw [Z3.out] at y3
  rw [Z4.out] at y4
  clear R b1 K
  go_wp2_with fail
  go_end0
  exact ⟨w1, X, f, T, c, rfl, hX, R1.out, B1.out, rfl⟩
end Go.Proofs.YtcdpoamiejompaaGreatDoor
namespace Go.Proofs.YtcdpoamiejompaaGreatDoor
open Go.RowKit Go.Wk
set_option maxRecDepth 100000

/-- A replacer that has not been built. -/
structure NewRep (w : World) (b G C : Nat) : Prop where
  c0 : w.cell? ⟨b, 0, none⟩ = some (.int .u32 0)
  c1 : w.cell? ⟨b, 1, none⟩ = some (.int .i32 0)
  c3 : w.cell? ⟨b, 3, none⟩ = some .nilIface
  c4 : w.cell? ⟨b, 4, none⟩ = some (.slice (some ⟨G, 0, none⟩) 4 C)
  z : ∀ k, w.frozen? ⟨b, k, none⟩ = false
  t0 : w.cell? ⟨G, 0, none⟩ = some (.string ⟨#[92]⟩)
  t1 : w.cell? ⟨G, 1, none⟩ = some (.string ⟨#[92, 92]⟩)
  t2 : w.cell? ⟨G, 2, none⟩ = some (.string ⟨#[34]⟩)
  t3 : w.cell? ⟨G, 3, none⟩ = some (.string ⟨#[92, 34]⟩)

theorem RepAt.other {w : World} {X : Nat} {f : Nat → Value} {T c b : Nat} {n : Int} (h : RepAt w X f T c) (hb : w.cell? ⟨b, 0, none⟩ = some (.int .u32 n)) (k : Nat) (u : Value) : RepAt (w.setCell ⟨b, k, none⟩ u) X f T c := by
  have ne : ∀ (Y : Nat) (v : Value), w.cell? ⟨Y, 0, none⟩ = some v → v ≠ .int .u32 n → ∀ j, (w.setCell ⟨b, k, none⟩ u).cell? ⟨Y, j, none⟩ = w.cell? ⟨Y, j, none⟩ := fun Y v hv hn j =>
    World.cell?_setCell_other _ ⟨b, k, none⟩ ⟨Y, j, none⟩ _ (by
      intro e; injection e with e; subst e
      rw [hb] at hv; injection hv with hv; exact hn hv.symm)
  have eX := ne X _ (h.tab.at_ 0 (by decide)) (by rw [h.o 0 (by decide) (by decide)]; simp)
  have eT := ne T _ h.t0 (by simp)
  refine ⟨⟨fun j hj => (eX j).trans (h.tab.at_ j hj), (eX 256).trans h.tab.last, fun j hj => by rw [World.frozen?_setCell]; exact h.tab.thaw j hj⟩, (eT 0).trans h.t0, (eT 1).trans h.t1, ?_, ?_, h.o⟩
  · obtain ⟨P, d, h1, h2, h3⟩ := h.q
    have e := ne P _ h2 (by simp)
    exact ⟨P, d, h1, (e 0).trans h2, (e 1).trans h3⟩
  · obtain ⟨P, d, h1, h2, h3⟩ := h.s
    have e := ne P _ h2 (by simp)
    exact ⟨P, d, h1, (e 0).trans h2, (e 1).trans h3⟩
set_option maxHeartbeats 2000000 in
theorem repl_slow (b G C : Nat) (w : World) (h : NewRep w b G C) (hbG : b ≠ G) :
    Calls Tryz.prog 177 #[.pointer (some ⟨b, 0, none⟩), .func (.func 149) #[.pointer (some ⟨b, 0, none⟩)] #[]] w fun e w' => ∃ X f T c, e = .returned (.tuple #[]) ∧ w.heap.size ≤ X ∧ RepAt w' X f T c ∧
      w'.cell? ⟨b, 3, none⟩ = some (.iface 267 (.pointer (some ⟨X, 0, none⟩))) ∧ w.grownBy w' (some b) := by
  have oth : ∀ (u : World) (i k : Nat) (v : Value), i ≠ k → (u.setCell ⟨b, i, none⟩ v).cell? ⟨b, k, none⟩ = u.cell? ⟨b, k, none⟩ := fun u i k v hik => World.cell?_setCell_other _ ⟨b, i, none⟩ ⟨b, k, none⟩ _ (by intro e; injection e with _ e; exact hik e)
  have othG : ∀ (u : World) (i k : Nat) (v : Value), (u.setCell ⟨b, i, none⟩ v).cell? ⟨G, k, none⟩ = u.cell? ⟨G, k, none⟩ := fun u i k v => World.cell?_setCell_other _ ⟨b, i, none⟩ ⟨G, k, none⟩ _ (by intro e; injection e with e; exact hbG e)
  have hl := run_call_load (P := Tryz.prog) Tryz.func185 (by kernel_rfl) (by kernel_rfl) (by kernel_rfl) .u32 (by kernel_rfl) (w := w.setCell ⟨b, 1, none⟩ (.int .i32 1)) (a := ⟨b, 0, none⟩) (x := 0) ((oth _ _ _ _ (by decide)).trans h.c0)
  have hnot : ∀ (x : Bool) (w : World), (Op.unary .not (.bool x)).run Tryz.prog w = .ok (.bool (!x)) w := fun _ _ => rfl
  have OTH := Lib.hid oth
  have KB := Lib.hid (repl_buildOnce b G C (w.setCell ⟨b, 1, none⟩ (.int .i32 1)) ((oth _ _ _ _ (by decide)).trans h.c3) (by simp [h.z]) (by simp [h.z]) ((oth _ _ _ _ (by decide)).trans h.c4) ((othG _ _ _ _).trans h.t0) ((othG _ _ _ _).trans h.t1) ((othG _ _ _ _).trans h.t2) ((othG _ _ _ _).trans h.t3))
  have K := Lib.hid (lock_free ⟨b, 1, none⟩ w h.c1 (h.z 1))
  have H := Lib.hid h
  clear h oth othG
  go_enter_defers Tryz.func177, Tryz.ntmps177
  go_wp2_with fail
  refine (K.out).mono ?_
  rintro e w1 ⟨rfl, rfl⟩
  clear K
  go_wp2_with (first | (go_at_call 149; refine (KB.out).mono ?_; rintro e w2 ⟨w1, X, f, T, c, rfl, hX, R, hb, rfl⟩) | (go_at_call 176; go_in))
  have hbl := block_lt_of_cell H.out.c0
  have q0 : w1.cell? ⟨b, 0, none⟩ = some (.int .u32 0) := cell_keep hb ((OTH.out _ _ _ _ (by decide)).trans H.out.c0)
  have q1 : w1.cell? ⟨b, 1, none⟩ = some (.int .i32 1) := cell_keep hb (World.cell?_setCell_same w ⟨b, 1, none⟩ _ H.out.c1)
  have q3 : w1.cell? ⟨b, 3, none⟩ = some .nilIface := cell_keep hb ((OTH.out _ _ _ _ (by decide)).trans H.out.c3)
  have qz : ∀ k, w1.frozen? ⟨b, k, none⟩ = false := fun k => ((bcell hb).2 b k (by simpa [World.setCell] using hbl)).trans (by simp [H.out.z])
  have R1 := R.other q0 3 (.iface 267 (.pointer (some ⟨X, 0, none⟩)))
  have p0 := (OTH.out w1 3 0 (.iface 267 (.pointer (some ⟨X, 0, none⟩))) (by decide)).trans q0
  have p1 := (OTH.out w1 3 1 (.iface 267 (.pointer (some ⟨X, 0, none⟩))) (by decide)).trans q1
  have p3 := World.cell?_setCell_same w1 ⟨b, 3, none⟩ (.iface 267 (.pointer (some ⟨X, 0, none⟩))) q3
  have pz : ∀ k, (w1.setCell ⟨b, 3, none⟩ (.iface 267 (.pointer (some ⟨X, 0, none⟩)))).frozen? ⟨b, k, none⟩ = false := fun k => by rw [World.frozen?_setCell]; exact qz k
  have G1 := ((grown_setCell w ⟨b, 1, none⟩ (.int .i32 1)).trans (grown_of_below hb (some b))).trans (grown_setCell w1 ⟨b, 3, none⟩ (.iface 267 (.pointer (some ⟨X, 0, none⟩))))
  generalize w1.setCell ⟨b, 3, none⟩ (.iface 267 (.pointer (some ⟨X, 0, none⟩))) = w3 at *
  have R2 := R1.other p0 4 (.slice none 0 0)
  have s0 := (OTH.out w3 4 0 (.slice none 0 0) (by decide)).trans p0
  have s1 := (OTH.out w3 4 1 (.slice none 0 0) (by decide)).trans p1
  have s3 := (OTH.out w3 4 3 (.slice none 0 0) (by decide)).trans p3
  have sz : ∀ k, (w3.setCell ⟨b, 4, none⟩ (.slice none 0 0)).frozen? ⟨b, k, none⟩ = false := fun k => by rw [World.frozen?_setCell]; exact pz k
  have G2 := G1.trans (grown_setCell w3 ⟨b, 4, none⟩ (.slice none 0 0))
  generalize w3.setCell ⟨b, 4, none⟩ (.slice none 0 0) = w4 at *
  refine leaves_cons (f := 188) (args := #[.pointer (some ⟨b, 0, none⟩), .bool true]) (by simp) (by simp [go_sem]) ?_
  refine (store_deferred ⟨b, 0, none⟩ (.int .u32 0) .returning _ s0 (sz 0)).mono ?_
  rintro e u' w'' ⟨rfl, rfl, rfl⟩
  have R3 := (R2.keep ((Below.refl _ _).drew)).other (b := b) (n := 0) (by rw [World.cell?_drew]; exact s0) 0 (.int .u32 1)
  have v0 := World.cell?_setCell_same w4.drew ⟨b, 0, none⟩ (.int .u32 1) (by rw [World.cell?_drew]; exact s0)
  have v1 := (OTH.out w4.drew 0 1 (.int .u32 1) (by decide)).trans s1
  have v3 := (OTH.out w4.drew 0 3 (.int .u32 1) (by decide)).trans s3
  have vz : ∀ k, (w4.drew.setCell ⟨b, 0, none⟩ (.int .u32 1)).frozen? ⟨b, k, none⟩ = false := fun k => by rw [World.frozen?_setCell, World.frozen?_drew]; exact sz k
  have G3 := (G2.trans (grown_of_below ((Below.refl w4.heap.size w4).drew) (some b))).trans (grown_setCell w4.drew ⟨b, 0, none⟩ (.int .u32 1))
  generalize w4.drew.setCell ⟨b, 0, none⟩ (.int .u32 1) = w5 at *
  refine leaves_cons (f := 187) (args := #[.pointer (some ⟨b, 1, none⟩)]) (by simp [settle]) (by simp [go_sem]) ?_
  refine (unlock_deferred ⟨b, 1, none⟩ _ _ v1 (vz 1)).mono ?_
  rintro e u' w'' ⟨rfl, rfl, rfl⟩
  have R4 := R3.other v0 1 (.int .i32 0)
  have y3 := (OTH.out w5 1 3 (.int .i32 0) (by decide)).trans v3
  have G4 := G3.trans (grown_setCell w5 ⟨b, 1, none⟩ (.int .i32 0))
  simp [Leaves, settle, results, Tryz.results177]
  exact ⟨X, by simpa [World.setCell] using hX, ⟨f, T, c, R4⟩, y3, G4⟩
set_option maxHeartbeats 1000000 in
theorem repl_do (b G C : Nat) (w : World) (h : NewRep w b G C) (hbG : b ≠ G) :
    Calls Tryz.prog 148 #[.pointer (some ⟨b, 0, none⟩), .func (.func 149) #[.pointer (some ⟨b, 0, none⟩)] #[]] w fun e w' => ∃ X f T c, e = .returned (.tuple #[]) ∧ w.heap.size ≤ X ∧ RepAt w' X f T c ∧
      w'.cell? ⟨b, 3, none⟩ = some (.iface 267 (.pointer (some ⟨X, 0, none⟩))) ∧ w.grownBy w' (some b) := by
  have hl := run_call_load (P := Tryz.prog) Tryz.func185 (by kernel_rfl) (by kernel_rfl) (by kernel_rfl) .u32 (by kernel_rfl) h.c0
  have hnot : ∀ (x : Bool) (w : World), (Op.unary .not (.bool x)).run Tryz.prog w = .ok (.bool (!x)) w := fun _ _ => rfl
  have KS := Lib.hid (repl_slow b G C w h hbG)
  clear h
  go_enter Tryz.func148, Tryz.ntmps148
  go_wp2_with (first | (go_at_call 177; refine (KS.out).mono ?_; rintro e w1 ⟨X, f, T, c, rfl, hX, R, h3, hg⟩) | (go_at_call 176; go_in))
  go_end0
  exact ⟨X, f, T, c, rfl, hX, R, h3, hg⟩

set_option maxHeartbeats 1000000 in
/-- NewReplacer at the four texts. -/
theorem repl_new (g : Nat) (w : World) (t0 : w.cell? ⟨g, 0, none⟩ = some (.string ⟨#[92]⟩)) (t1 : w.cell? ⟨g, 1, none⟩ = some (.string ⟨#[92, 92]⟩)) (t2 : w.cell? ⟨g, 2, none⟩ = some (.string ⟨#[34]⟩)) (t3 : w.cell? ⟨g, 3, none⟩ = some (.string ⟨#[92, 34]⟩)) :
    Calls Tryz.prog 104 #[.slice (some ⟨g, 0, none⟩) 4 4] w fun e w' => ∃ b G C, e = .returned (.pointer (some ⟨b, 0, none⟩)) ∧ NewRep w' b G C ∧ b ≠ G ∧ w.heap.size ≤ b ∧ Below w.heap.size w w' := by
  obtain ⟨j0, hj, jz0, jz1, jz2⟩ := info_parts txInfo
  go_enter Tryz.func104, Tryz.ntmps104
  go_wp2_with fail
  go_ret
  generalize (Question.appendCap 4 0 9).cut (w.tape w.drawn (Question.appendCap 4 0 9)) = C
  have hs : ∀ (k : Nat) (v : Value), [Value.string ⟨#[92]⟩, .string ⟨#[92, 92]⟩, .string ⟨#[34]⟩, .string ⟨#[92, 34]⟩][k]? = some v → ∀ (o : Obj), ((w.alloc (.cells (#[.string ⟨#[92]⟩, .string ⟨#[92, 92]⟩, .string ⟨#[34]⟩, .string ⟨#[92, 34]⟩] ++ Builtin.zeroCells #[.string ⟨#[]⟩] (C - 4)) 9)).alloc o).drew.cell? ⟨w.heap.size, k, none⟩ = some v := fun k v hk o => by
    rw [World.cell?_drew]
    refine cell_keep (below_box _ o) (cell_row (heap_alloc_last w _) ?_)
    rw [Array.getElem?_append, if_pos (by have := (List.getElem?_eq_some_iff.1 hk).1; simpa using this)]
    simpa using hk
  refine ⟨w.heap.size + 1, w.heap.size, C, rfl, ?_, by omega, by omega, (((Below.refl _ _).alloc (Nat.le_refl _) _).alloc (by simp) _).drew⟩
  have hn : ∀ (k : Nat) (v : Value), [Value.int .u32 0, .int .i32 0, .int .u32 0, .nilIface, .slice (some ⟨w.heap.size, 0, none⟩) 4 C][k]? = some v → ((w.alloc (.cells (#[.string ⟨#[92]⟩, .string ⟨#[92, 92]⟩, .string ⟨#[34]⟩, .string ⟨#[92, 34]⟩] ++ Builtin.zeroCells #[.string ⟨#[]⟩] (C - 4)) 9)).alloc (.cells #[.int .u32 0, .int .i32 0, .int .u32 0, .nilIface, .slice (some ⟨w.heap.size, 0, none⟩) 4 C] 211)).drew.cell? ⟨w.heap.size + 1, k, none⟩ = some v := fun k v hk => by
    rw [World.cell?_drew]
    have := cell_row (heap_alloc_last (w.alloc (.cells (#[.string ⟨#[92]⟩, .string ⟨#[92, 92]⟩, .string ⟨#[34]⟩, .string ⟨#[92, 34]⟩] ++ Builtin.zeroCells #[.string ⟨#[]⟩] (C - 4)) 9)) (.cells #[.int .u32 0, .int .i32 0, .int .u32 0, .nilIface, .slice (some ⟨w.heap.size, 0, none⟩) 4 C] 211)) (k := k) (u := v) (by simpa using hk)
    simpa using this
  exact ⟨hn 0 _ rfl, hn 1 _ rfl, hn 3 _ rfl, hn 4 _ rfl, fun k => by simp, hs 0 _ rfl _, hs 1 _ rfl _, hs 2 _ rfl _, hs 3 _ rfl _⟩
end Go.Proofs.YtcdpoamiejompaaGreatDoor
