/-
  The frame of every law: a law that returns true and leaves what was there as it was meets its row.
  What a readable argument is made of: plain facts on its cells, type by type.
  DERIVED: THE SHELF's CONTRACTS AT THIS DUMP, IN PLAIN WORDS (tools/lay-plain.mjs out of 'TrydShelf.lean', which tools/lay-shelf.mjs wrote): THE SAME DECLARATIONS UNDER THE SAME NAMES: 'import', 'namespace', 'open', 'def', 'theorem' AND NOTHING ELSE: no command of the shelf's: FOR A HAND-IN. Each laying: the table of numbers ('.._ren') and one theorem, a field a fact of the dump's own or the kernel's comparison; each contract: ONE APPLICATION.
  The contracts of the comparisons of texts and uids, of the program and of the reference.
  The order of nodes: val.compare, slices.CompareFunc, val.order.
  The contracts of the checks of names and texts, of the program and of the reference.
  val.shaped: has a node just the fields that a value's may have?
  val's reader: part tells where a value ends, or panics.
  val's reader: part at a record; part outright.
  val.Check: nodes that are a value.
  val.first, val.Compare.
  What slices that come in are made of: nodes.
  The contracts of the reference's checks of names and texts.
  ref KindEnd: the place behind a type; ref KindFault.
-/
import Derived.WalkKit
import Derived.WalkSpells
import Derived.WalkLawsBesides
import Derived.BigQuiet
import Derived.Deep.QuietTactic
import Derived.ProofKit
import Derived.OpenShut
import Derived.Carry
import Derived.StillTailTactics
import Derived.Lib.QuietBelow
import Derived.Lib.Hide
import Derived.Shelf.Small.Bits
import Derived.Shelf.Small.Strs
import Derived.Shelf.Strconv.Itoa0
import Derived.Defers
import Derived.Recover
import Derived.Deep.Slices
import Derived.Test.YtmekockjgldndaaDoorRows
import Derived.Test.YtmekockjgldndaaDoorProg
import Derived.Test.YtmekockjgldndaaDoorQj6
namespace Go.Proofs.YtmekockjgldndaaDoor
open Go.ChangeShapes Go.WideShapes Go.ChangeAt Go.RowKit

theorem own : ownKnob Tryd.prog.godebug = none := by kernel_rfl
theorem laidOut : laidOutB Tryd.prog = true := by kernel_rfl

theorem trodAll_below {H : Type} {enc : TypeId × Value → H} {P : Program} (hl : laidOutB P = true) {W W' : World} (hb : Below W.heap.size W W') :
    ∀ (ts : List TypeId) (vs : List Value) (ds : List (DataW H)) (ps : List MemPlace), (∀ t ∈ ts, P.readableRec t = true ∧ t < P.types.size) →
      (∀ x ∈ ps, x.block < W.heap.size) → DataW.TrodAll enc P W 0 (fun _ => true) true ts vs ds ps → DataW.TrodAll enc P W' 0 (fun b => decide (b < W.heap.size)) true ts vs ds ps := by
  intro ts
  induction ts with
  | nil =>
    intro vs ds ps _ _ h
    cases vs <;> cases ds <;> simp_all [DataW.TrodAll]
  | cons t ts ih =>
    intro vs ds ps hr hlt h
    match vs, ds, h with
    | v :: vs, d :: ds, h =>
      obtain ⟨p, q, h1, h2, rfl⟩ := h
      have ht := hr t (by simp)
      exact ⟨p, q, Below.trod hl ht.1 ht.2 h1 hb (fun x hx => hlt x (by simp [hx])),
        ih vs ds q (fun t' h' => hr t' (by simp [h'])) (fun x hx => hlt x (by simp [hx])) h2, rfl⟩

theorem trodAll_length {H : Type} {enc : TypeId × Value → H} {P : Program} {W : World} {b : Nat} {sp : Nat → Bool} {hd : Bool} :
    ∀ (ts : List TypeId) (vs : List Value) (ds : List (DataW H)) (ps : List MemPlace), DataW.TrodAll enc P W b sp hd ts vs ds ps → ds.length = ts.length := by
  intro ts
  induction ts with
  | nil => intro vs ds ps h; cases vs <;> cases ds <;> simp_all [DataW.TrodAll]
  | cons t ts ih =>
    intro vs ds ps h
    match vs, ds, h with
    | v :: vs, d :: ds, h =>
      obtain ⟨p, q, _, h2, _⟩ := h
      simp [ih vs ds q h2]

/-- A law's call: true, and nothing that was there has turned: the row's own post. -/
theorem law_post {H : Type} {enc : TypeId × Value → H} {P : Program} {f : Func} {s : ChangeSpec} {W W' : World} {args : Array Value} {ds gs : List (DataW H)} {before : List MemPlace} {tb : TypeId}
    (hl : laidOutB P = true) (hr0 : (f.params.toList.all fun t => P.readableRec t && decide (t < P.types.size)) = true) (hres : f.resultTypes = #[tb]) (hbool : P.underlying tb = some .bool)
    (hv : s.vars = []) (hs : ∀ ds : List (DataW H), ds.length = f.params.toList.length → s.fn H ds = { results := [.lit (.bool true)], args := ds })
    (hW : DataW.Whole enc P f.params.toList s.vars false W args.toList ds gs before) (hb : Below W.heap.size W W') :
    s.post enc P f false true false false W args (.bool true) W' := by
  have hlt := hW.lt
  have hW0 := hW
  have hr : ∀ t ∈ f.params.toList, P.readableRec t = true ∧ t < P.types.size := fun t ht => by simpa using List.all_eq_true.1 hr0 t ht
  obtain ⟨p, q, hA, hV, rfl, hfz, _⟩ := hW
  rw [hv] at hV
  obtain ⟨rfl, rfl⟩ : gs = [] ∧ q = [] := by
    cases gs with
    | nil => exact ⟨rfl, hV⟩
    | cons g r => exact absurd hV (by intro h; cases h)
  have hlen := trodAll_length _ _ _ _ hA
  have he : s.fn H (ds ++ []) = { results := [.lit (.bool true)], args := ds } := by rw [List.append_nil]; exact hs ds hlen
  simp only [List.append_nil] at hlt hW0
  refine ⟨ds, [], p, [], p, [], hW0, ?_, ?_, ?_, hb.frame _, fun h => by cases h⟩
  · rw [he, hres]; exact trodAll_mk1 (shut_bool hbool true)
  · rw [he]; exact trodAll_below hl hb _ _ _ _ hr hlt hA
  · rw [he, hv]; rfl

/-- A region that draws: a still head, then a forced tail; the draw written as such. -/
theorem still_tail {P : Program} {id : Nat} {Q : Exit → Act → World → Prop} {a : Act} {w : World} {l : List Oper} (n : Nat) (hm : P.follows .mixedOrders = true) (hB : Region.lexTailB .any l.toArray n = true)
    (h : wpStill P l.toArray w.drew (fun a' => wpList P l.toArray Q (l.drop n) a' w.drew) (l.take n) a) : (Code.region id l.toArray true).wp P Q a w :=
  wp_region_still_tail n hm hB h

theorem _root_.Go.RowKit.Below.drewN {B : Nat} {a w : World} (h : Below B a w) (n : Nat) : Below B a (w.drewN n) := ⟨h.os, h.tape, h.output, h.size, h.block⟩
/-- A cell that is there is there behind what leaves all that was there. -/
theorem cell_keep {w w' : World} (hb : Below w.heap.size w w') {a : Addr} {v : Value} (h : w.cell? a = some v) : w'.cell? a = some v :=
  (hb.cell (block_lt_of_cell h)).trans h
theorem toList_inj {a b : ByteArray} (h : a.toList = b.toList) : a = b := by
  rw [ByteArray.toList_eq, ByteArray.toList_eq] at h
  cases a; cases b; simp at h; simp [h]
/-- Behind a contract that ends in 'Below': what was there reads as it did. -/
theorem bcell {W w1 : World} (hb : Below W.heap.size W w1) : (∀ b o, b < W.heap.size → w1.cell? ⟨b, o, none⟩ = W.cell? ⟨b, o, none⟩) ∧ (∀ b o, b < W.heap.size → w1.frozen? ⟨b, o, none⟩ = W.frozen? ⟨b, o, none⟩) :=
  ⟨fun b o h => hb.cell (p := ⟨b, o, none⟩) h, fun b o h => hb.frozen (p := ⟨b, o, none⟩) h⟩
@[simp] theorem size_drewN (w : World) (n : Nat) : (w.drewN n).heap.size = w.heap.size := rfl
/-- The cells of a new block. -/
theorem cells_new (w : World) (l : List Value) (t : TypeId) : ∀ j u, l[j]? = some u → (w.alloc (.cells l.toArray t)).cell? ((⟨w.heap.size, 0, none⟩ : Addr).add j) = some u := by
  intro j u h
  have e : (⟨w.heap.size, 0, none⟩ : Addr).add j = ⟨w.heap.size, j, none⟩ := by
    unfold Addr.add; split
    · rename_i h0; subst h0; rfl
    · simp
  rw [e, World.cell?_alloc_at _ _ _ _ rfl]
  simpa using h
theorem own_base {w : World} {B : Nat} {e : TypeId} {size n : Nat} {v : Value} {xs : List Value} (h : w.ownsRow B e size v n xs) : ∀ g, v.ownBlock = some g → B ≤ g := by
  intro g hg
  rcases h.2 with ⟨rfl, _⟩ | ⟨g', cap, cur, rfl, hb, _⟩
  · simp [Value.ownBlock] at hg
  · simp [Value.ownBlock] at hg; omega
/-- An append onto a row of the call's own, behind a new block. -/
theorem below_append {w wr w1 : World} {B : Nat} {e : TypeId} {size n : Nat} {v : Value} {xs : List Value} (hb : Below B w wr) (hB : B ≤ w.heap.size) (hown : wr.ownsRow B e size v n xs) (o : Obj)
    (hg : (wr.alloc o).grownBy w1 v.ownBlock) : Below B w w1 := by
  have h1 : B ≤ wr.heap.size := Nat.le_trans hB hb.size
  exact (hb.alloc h1 o).grown hg (by simp; omega) (own_base hown)

/-- The error of a number; of 0 nil. -/
def errV (n : Int) : Value := if n = 0 then .nilIface else .iface 23 (.int .i64 n)
theorem errV_zero : errV 0 = .nilIface := rfl
theorem errV_ne {n : Int} (h : n ≠ 0) : errV n = .iface 23 (.int .i64 n) := if_neg h

theorem ret_i64 {a b : Int} (h : a = b) : Ending.returned (.int .i64 a) = .returned (.int .i64 b) := by rw [h]
theorem ret_bool {a b : Bool} (h : a = b) : Ending.returned (.bool a) = .returned (.bool b) := by rw [h]
theorem bhid {B : Nat} {a b c : World} (h : Hid (Below B a b)) (k : Hid (Below b.heap.size b c)) (hB : B ≤ a.heap.size) : Hid (Below B a c) :=
  Go.Lib.hid (h.out.trans (k.out.mono (Nat.le_trans hB h.out.size)))
theorem bh {a b c : World} (h : Hid (Below a.heap.size a b)) (k : Below b.heap.size b c) : Hid (Below a.heap.size a c) :=
  Go.Lib.hid (h.out.trans (k.mono h.out.size))
theorem grown_none {w w' : World} (hg : w.grownBy w' none) : Below w.heap.size w w' := ⟨hg.os, hg.tape, hg.output, hg.size, fun k hk => hg.block k hk (by simp)⟩
theorem own_lt {w : World} {B n : Nat} {e : TypeId} {size : Nat} {v : Value} {xs : List Value} (h : w.ownsRow B e size v n xs) : ∀ g, v.ownBlock = some g → g < w.heap.size := by
  intro g hg
  rcases h.2 with ⟨rfl, _⟩ | ⟨g', cap, cur, rfl, _, hh, _⟩
  · simp [Value.ownBlock] at hg
  · simp [Value.ownBlock] at hg
    subst hg
    exact (Array.getElem?_eq_some_iff.1 hh).1
theorem below_box (w : World) (o : Obj) : Below w.heap.size w (w.alloc o) := (Below.refl _ _).alloc (Nat.le_refl _) o
theorem grown_of_below {w w' : World} (h : Below w.heap.size w w') (r : Option Nat) : w.grownBy w' r := ⟨h.os, h.tape, h.output, h.size, fun k hk _ => h.block k hk⟩
theorem below_of_grown {w w' : World} {R B : Nat} (h : w.grownBy w' (some R)) (hB : B ≤ R) (hB2 : B ≤ w.heap.size) : Below B w w' :=
  ⟨h.os, h.tape, h.output, h.size, fun k hk => h.block k (by omega) (by intro e; cases e; omega)⟩
theorem grown_setCell (w : World) (p : Addr) (u : Value) : w.grownBy (w.setCell p u) (some p.block) :=
  ⟨rfl, rfl, rfl, by simp [World.setCell], fun k _ hn => Below.heap_setCell _ _ _ _ (fun e => hn (by rw [e]))⟩
theorem own_kept_below {w w' : World} {B n : Nat} {e : TypeId} {size : Nat} {v : Value} {xs : List Value} (h : w.ownsRow B e size v n xs) (hb : Below w.heap.size w w') : w'.ownsRow B e size v n xs :=
  h.kept (grown_of_below hb none) (by cases hv : v.ownBlock <;> simp)
end Go.Proofs.YtmekockjgldndaaDoor
namespace Go.Wk
open Go.ChangeShapes Go.WideShapes Go.RowKit

/-- These cells read as data of this type. -/
def Rd (P : Program) (w : World) (t : TypeId) (cs : List Value) : Prop :=
  ∃ (H : Type) (enc : TypeId × Value → H) (base : Nat) (sp : Nat → Bool) (held : Bool) (fuel : Nat) (x : DataW H × List MemPlace), DataW.trod enc P w base sp held fuel t cs = some x

section
variable {P : Program} {w : World} {t : TypeId} {cs : List Value}
theorem rd_of_trod {H : Type} {enc : TypeId × Value → H} {b : Nat} {sp : Nat → Bool} {hd : Bool} {v : Value} {d : DataW H} {ps : List MemPlace} (h : DataW.Trod enc P w b sp hd t v d ps) : Rd P w t v.cells.toList :=
  let ⟨f, hf⟩ := h; ⟨H, enc, b, sp, hd, f, _, hf⟩
theorem rd_string (ht : P.underlying t = some .string) (h : Rd P w t cs) : ∃ s : ByteArray, cs = [.string s] ∧ s.size ≤ maxLen := by
  obtain ⟨H, enc, b, sp, hd, f, x, hx⟩ := h
  obtain ⟨s, h1, _, h2⟩ := DataW.trod_string ht hx
  exact ⟨s, h1, h2⟩
theorem rd_int {k : IntKind} (ht : P.underlying t = some (.int k)) (h : Rd P w t cs) : ∃ n : Int, cs = [.int k n] ∧ (Lit.int k n).wf = true := by
  obtain ⟨H, enc, b, sp, hd, f, x, hx⟩ := h
  obtain ⟨s, h1, _, h2⟩ := DataW.trod_int ht hx
  exact ⟨s, h1, h2⟩
theorem rd_i64 (ht : P.underlying t = some (.int .i64)) (h : Rd P w t cs) : ∃ n : Int, cs = [.int .i64 n] ∧ -9223372036854775808 ≤ n ∧ n ≤ 9223372036854775807 := by
  obtain ⟨n, h1, h2⟩ := rd_int ht h
  refine ⟨n, h1, ?_⟩
  simpa [Lit.wf, IntKind.min, IntKind.max, IntKind.bits, IntKind.signed] using h2
theorem rd_struct {fs : Array Field} (ht : P.underlying t = some (.struct fs)) (h : Rd P w t cs) :
    cs.length = P.cellsOf t ∧ ∀ (i : Nat) (f : Field), fs[i]? = some f → Rd P w f.type ((cs.drop f.offset).take (P.cellsOf f.type)) := by
  obtain ⟨H, enc, b, sp, hd, f, x, hx⟩ := h
  obtain ⟨xs, n, _, _, h1, h2, h3⟩ := DataW.trod_struct ht hx
  refine ⟨h1, fun i f hf => ?_⟩
  have hi : i < xs.length := by rw [h2]; exact (Array.getElem?_eq_some_iff.1 hf).1
  exact ⟨H, enc, b, sp, hd, n, xs[i], (h3 i f hf).trans (List.getElem?_eq_getElem hi)⟩
theorem rd_field {fs : Array Field} (ht : P.underlying t = some (.struct fs)) (h : Rd P w t cs) (i T o n : Nat) (hf : (fs[i]?).map (fun f => (f.type, f.offset)) = some (T, o)) (hn : P.cellsOf T = n) :
    Rd P w T ((cs.drop o).take n) := by
  rcases hi : fs[i]? with _ | f
  · rw [hi] at hf; cases hf
  · rw [hi] at hf
    simp only [Option.map_some, Option.some.injEq, Prod.mk.injEq] at hf
    obtain ⟨rfl, rfl⟩ := hf
    subst hn
    exact (rd_struct ht h).2 i f hi
end
end Go.Wk
namespace Go.Proofs.YtmekockjgldndaaDoor
open Go.Wk Go.ChangeShapes Go.WideShapes Go.RowKit

set_option maxRecDepth 100000
theorem open_i64 {H : Type} {enc : TypeId × Value → H} {w : World} {b b0 : Nat} {sp : Nat → Bool} {hd : Bool} {v : Value} {d : DataW H} {ps : List MemPlace} {r : Reach}
    (hv : Value.okWide Tryd.prog w r b0 3 v) (h : DataW.Trod enc Tryd.prog w b sp hd 3 v d ps) :
    ∃ n : Int, v = .int .i64 n ∧ -9223372036854775808 ≤ n ∧ n ≤ 9223372036854775807 := by
  obtain ⟨n, rfl⟩ := okWide_int Tryd.underlying3 hv
  obtain ⟨m, e, h1, h2⟩ := rd_i64 Tryd.underlying3 (rd_of_trod h)
  have e' : (Value.int .i64 n) = .int .i64 m := by simpa [Value.cells] using e
  injection e' with _ e'
  subst e'
  exact ⟨n, rfl, h1, h2⟩

theorem cells_string : Tryd.prog.cellsOf 9 = 1 := by kernel_rfl
end Go.Proofs.YtmekockjgldndaaDoor
namespace Go.Proofs
open Go.Shelf
def Tryd.lays128_ren : Go.Shelf.Ren := ⟨fun | 128 => 58 | n => n, fun | 51 => 117 | 3 => 3 | 4 => 4 | 46 => 92 | 5 => 5 | 9 => 9 | n => n, fun | n => n⟩
theorem Tryd.lays128 : Go.Proofs.Lays.n128 Tryd.prog Tryd.lays128_ren := {
  mixed := by kernel_rfl
  f128 := Tryd.func58.trans (congrArg some (by kernel_rfl))
  t3 := Tryd.underlying3
  a3 := Tryd.isAgg3
  z3 := Tryd.sizeOf3
  v3 := Tryd.zeroValue3
  t4 := Tryd.underlying4
  a4 := Tryd.isAgg4
  z4 := Tryd.sizeOf4
  v4 := Tryd.zeroValue4
  t5 := Tryd.underlying5
  a5 := Tryd.isAgg5
  z5 := Tryd.sizeOf5
  v5 := Tryd.zeroValue5
  t9 := Tryd.underlying9
  a9 := Tryd.isAgg9
  z9 := Tryd.sizeOf9
  v9 := Tryd.zeroValue9
  t46 := Tryd.underlying92
  a46 := Tryd.isAgg92
  z46 := Tryd.sizeOf92
  v46 := Tryd.zeroValue92
  t51 := Tryd.underlying117
  a51 := Tryd.isAgg117
  z51 := Tryd.sizeOf117
  v51 := Tryd.zeroValue117 }
/-- bits.Len32: "Len32 returns the minimum number of bits required to represent x; the result is 0 for x == 0.": IT RETURNS 'Lib.bitLen x'; the world is as it was. ('h0', 'h1': x is a uint32.) (LAID: no walk: one application.) -/
theorem Tryd.bits_Len32 (x : Int) (w : World) (h0 : 0 ≤ x) (h1 : x ≤ 4294967295) :
    Calls Tryd.prog 58 #[.int .u32 x] w fun e w' => e = .returned (.int .i64 (Lib.bitLen x.toNat)) ∧ w' = w := Any.bits_Len32 Tryd.lays128 x w h0 h1
def Tryd.lays125_ren : Go.Shelf.Ren := ⟨fun | 125 => 42 | 128 => 58 | 129 => 59 | n => n, fun | 46 => 92 | 3 => 3 | 51 => 117 | 53 => 119 | 4 => 4 | 5 => 5 | 9 => 9 | n => n, fun | n => n⟩
theorem Tryd.lays125 : Go.Proofs.Lays.n125 Tryd.prog Tryd.lays125_ren := {
  mixed := by kernel_rfl
  f125 := Tryd.func42.trans (congrArg some (by kernel_rfl))
  f128 := Tryd.func58.trans (congrArg some (by kernel_rfl))
  f129 := Tryd.func59.trans (congrArg some (by kernel_rfl))
  t3 := Tryd.underlying3
  a3 := Tryd.isAgg3
  z3 := Tryd.sizeOf3
  v3 := Tryd.zeroValue3
  t4 := Tryd.underlying4
  a4 := Tryd.isAgg4
  z4 := Tryd.sizeOf4
  v4 := Tryd.zeroValue4
  t5 := Tryd.underlying5
  a5 := Tryd.isAgg5
  z5 := Tryd.sizeOf5
  v5 := Tryd.zeroValue5
  t9 := Tryd.underlying9
  a9 := Tryd.isAgg9
  z9 := Tryd.sizeOf9
  v9 := Tryd.zeroValue9
  t46 := Tryd.underlying92
  a46 := Tryd.isAgg92
  z46 := Tryd.sizeOf92
  v46 := Tryd.zeroValue92
  t51 := Tryd.underlying117
  a51 := Tryd.isAgg117
  z51 := Tryd.sizeOf117
  v51 := Tryd.zeroValue117
  t53 := Tryd.underlying119
  a53 := Tryd.isAgg119
  z53 := Tryd.sizeOf119
  v53 := Tryd.zeroValue119 }
/-- bits.Len: "Len returns the minimum number of bits required to represent x; the result is 0 for x == 0.": IT RETURNS 'Lib.bitLen x'; the world is as it was. (A uint has 64 bits in the model.) ITS CALLEE bits.Len64 IS MET BY ITS OWN CONTRACT OFF THE SHELF (lay that first). (LAID: no walk: one application.) -/
theorem Tryd.bits_Len (x : Int) (w : World) (h0 : 0 ≤ x) (h1 : x ≤ 18446744073709551615) :
    Calls Tryd.prog 42 #[.int .u64 x] w fun e w' => e = .returned (.int .i64 (Lib.bitLen x.toNat)) ∧ w' = w := Any.bits_Len Tryd.lays125 x w h0 h1
def Tryd.lays213_ren : Go.Shelf.Ren := ⟨fun | 213 => 43 | 265 => 60 | n => n, fun | 9 => 9 | 3 => 3 | n => n, fun | n => n⟩
theorem Tryd.lays213 : Go.Proofs.Lays.n213 Tryd.prog Tryd.lays213_ren := {
  mixed := by kernel_rfl
  f213 := Tryd.func43.trans (congrArg some (by kernel_rfl))
  f265 := Tryd.func60.trans (congrArg some (by kernel_rfl))
  t3 := Tryd.underlying3
  a3 := Tryd.isAgg3
  z3 := Tryd.sizeOf3
  v3 := Tryd.zeroValue3
  t9 := Tryd.underlying9
  a9 := Tryd.isAgg9
  z9 := Tryd.sizeOf9
  v9 := Tryd.zeroValue9 }
open Go.RowKit in
/-- internal/bytealg.CompareString (what strings.Compare calls): IT RETURNS 'Lib.compareBytes a b'; the world is as it was. (LAID: no walk: one application.) -/
theorem Tryd.bytealg_CompareString (a b : ByteArray) (w : World) :
    Calls Tryd.prog 43 #[.string a, .string b] w fun e w' => e = .returned (.int .i64 (Lib.compareBytes a.data.toList b.data.toList)) ∧ w' = w := Any.bytealg_CompareString Tryd.lays213 a b w
def Tryd.lays106_ren : Go.Shelf.Ren := ⟨fun | 106 => 29 | 213 => 43 | 265 => 60 | n => n, fun | 9 => 9 | 3 => 3 | n => n, fun | n => n⟩
theorem Tryd.lays106 : Go.Proofs.Lays.n106 Tryd.prog Tryd.lays106_ren := {
  mixed := by kernel_rfl
  f106 := Tryd.func29.trans (congrArg some (by kernel_rfl))
  f213 := Tryd.func43.trans (congrArg some (by kernel_rfl))
  f265 := Tryd.func60.trans (congrArg some (by kernel_rfl))
  t3 := Tryd.underlying3
  a3 := Tryd.isAgg3
  z3 := Tryd.sizeOf3
  v3 := Tryd.zeroValue3
  t9 := Tryd.underlying9
  a9 := Tryd.isAgg9
  z9 := Tryd.sizeOf9
  v9 := Tryd.zeroValue9 }
open Go.RowKit in
/-- strings.Compare: "Compare returns an integer comparing two strings lexicographically. The result will be 0 if a == b, -1 if a < b, and +1 if a > b.": IT RETURNS 'Lib.compareBytes a b'; the world is as it was. (LAID: no walk: one application.) -/
theorem Tryd.strings_Compare (a b : ByteArray) (w : World) :
    Calls Tryd.prog 29 #[.string a, .string b] w fun e w' => e = .returned (.int .i64 (Lib.compareBytes a.data.toList b.data.toList)) ∧ w' = w := Any.strings_Compare Tryd.lays106 a b w
def Tryd.lays129_ren : Go.Shelf.Ren := ⟨fun | 129 => 59 | n => n, fun | 53 => 119 | 3 => 3 | 4 => 4 | 46 => 92 | 5 => 5 | 9 => 9 | n => n, fun | n => n⟩
theorem Tryd.lays129 : Go.Proofs.Lays.n129 Tryd.prog Tryd.lays129_ren := {
  mixed := by kernel_rfl
  f129 := Tryd.func59.trans (congrArg some (by kernel_rfl))
  t3 := Tryd.underlying3
  a3 := Tryd.isAgg3
  z3 := Tryd.sizeOf3
  v3 := Tryd.zeroValue3
  t4 := Tryd.underlying4
  a4 := Tryd.isAgg4
  z4 := Tryd.sizeOf4
  v4 := Tryd.zeroValue4
  t5 := Tryd.underlying5
  a5 := Tryd.isAgg5
  z5 := Tryd.sizeOf5
  v5 := Tryd.zeroValue5
  t9 := Tryd.underlying9
  a9 := Tryd.isAgg9
  z9 := Tryd.sizeOf9
  v9 := Tryd.zeroValue9
  t46 := Tryd.underlying92
  a46 := Tryd.isAgg92
  z46 := Tryd.sizeOf92
  v46 := Tryd.zeroValue92
  t53 := Tryd.underlying119
  a53 := Tryd.isAgg119
  z53 := Tryd.sizeOf119
  v53 := Tryd.zeroValue119 }
/-- bits.Len64: "Len64 returns the minimum number of bits required to represent x; the result is 0 for x == 0.": IT RETURNS 'Lib.bitLen x'; the world is as it was. ('h0', 'h1': x is a uint64.) (LAID: no walk: one application.) -/
theorem Tryd.bits_Len64 (x : Int) (w : World) (h0 : 0 ≤ x) (h1 : x ≤ 18446744073709551615) :
    Calls Tryd.prog 59 #[.int .u64 x] w fun e w' => e = .returned (.int .i64 (Lib.bitLen x.toNat)) ∧ w' = w := Any.bits_Len64 Tryd.lays129 x w h0 h1
end Go.Proofs
namespace Go.Proofs.YtmekockjgldndaaDoor
open Go.RowKit Go.Wk
set_option maxRecDepth 100000

theorem strings_Compare (a b : ByteArray) (w : World) :
    Calls Tryd.prog 29 #[.string a, .string b] w fun e w' => e = .returned (.int .i64 (cmpB a b)) ∧ w' = w := Tryd.strings_Compare a b w

theorem ref_Numbers (a b : Int) (w : World) :
    Calls Tryd.prog 32 #[.int .i64 a, .int .i64 b] w fun e w' => e = .returned (.int .i64 (cmpI a b)) ∧ w = w' := by
  by_cases h1 : a < b
  · go_enter Tryd.func32, Tryd.ntmps32
    go_wp2
    go_ret
    exact ⟨ret_i64 (by unfold cmpI; split <;> (try split) <;> omega), rfl⟩
  · by_cases h2 : b < a
    · go_enter Tryd.func32, Tryd.ntmps32
      go_wp2
      go_ret
      exact ⟨ret_i64 (by unfold cmpI; split <;> (try split) <;> omega), rfl⟩
    · go_enter Tryd.func32, Tryd.ntmps32
      go_wp2
      go_ret
      exact ⟨ret_i64 (by unfold cmpI; split <;> (try split) <;> omega), rfl⟩

theorem cmpB_at (a b : ByteArray) : cmpB a b = Lib.compareBytes (a.data.toList.drop 0) (b.data.toList.drop 0) := rfl
theorem cmpB_less {a b : ByteArray} {k : Nat} (h1 : k < a.size) (h2 : k < b.size) (hc : cmpB a b = Lib.compareBytes (a.data.toList.drop k) (b.data.toList.drop k)) (h : (a[k].toNat : Int) < b[k].toNat) : cmpB a b = -1 :=
  hc.trans (compareBytes_less (by simpa using h1) (by simpa using h2) (UInt8.lt_iff_toNat_lt.2 (show a[k].toNat < b[k].toNat by omega)))
theorem cmpB_more {a b : ByteArray} {k : Nat} (h1 : k < a.size) (h2 : k < b.size) (hc : cmpB a b = Lib.compareBytes (a.data.toList.drop k) (b.data.toList.drop k)) (h : (b[k].toNat : Int) < a[k].toNat) : cmpB a b = 1 :=
  hc.trans (compareBytes_more (by simpa using h1) (by simpa using h2) (UInt8.lt_iff_toNat_lt.2 (show b[k].toNat < a[k].toNat by omega)))
theorem cmpB_step {a b : ByteArray} {k : Nat} (h1 : k < a.size) (h2 : k < b.size) (hc : cmpB a b = Lib.compareBytes (a.data.toList.drop k) (b.data.toList.drop k)) (h : (a[k].toNat : Int) = b[k].toNat) :
    cmpB a b = Lib.compareBytes (a.data.toList.drop (k + 1)) (b.data.toList.drop (k + 1)) :=
  hc.trans (compareBytes_step (by simpa using h1) (by simpa using h2) (UInt8.toNat_inj.1 (show a[k].toNat = b[k].toNat by omega)))
theorem cmpB_end {a b : ByteArray} {k : Nat} (h : a.size ≤ k ∨ b.size ≤ k) (ha : k ≤ a.size) (hb : k ≤ b.size) (hc : cmpB a b = Lib.compareBytes (a.data.toList.drop k) (b.data.toList.drop k)) : cmpB a b = cmpI a.size b.size :=
  hc.trans ((compareBytes_end (by simpa using h) (by simpa using ha) (by simpa using hb)).trans (by simp))

set_option maxHeartbeats 400000 in
theorem ref_Texts (a b : ByteArray) (w : World) (ha : a.size ≤ maxLen) (_hb : b.size ≤ maxLen) :
    Calls Tryd.prog 22 #[.string a, .string b] w fun e w' => e = .returned (.int .i64 (cmpB a b)) ∧ Below w.heap.size w w' := by
  unfold maxLen at ha _hb
  go_enter Tryd.func22, Tryd.ntmps22
  go_wp2
  go_loopw [4, 5] (fun r i wr => ∃ k : Nat, k ≤ a.size ∧ k ≤ b.size ∧ i = .int .i64 k ∧ r = .int .i64 0 ∧ Hid (cmpB a b = Lib.compareBytes (a.data.toList.drop k) (b.data.toList.drop k)) ∧ Below w.heap.size w wr) (fun _ i _ => a.size - (intOf i).toNat)
  case atStart => exact ⟨0, Nat.zero_le _, Nat.zero_le _, rfl, rfl, cmpB_at a b, Below.refl _ _⟩
  case round =>
    obtain ⟨k, hka, hkb, rfl, rfl, hc, hbel⟩ := hrel
    by_cases h1 : k < a.size
    · by_cases h2 : k < b.size
      · by_cases e1 : (a[k].toNat : Int) < b[k].toNat
        · have H := Lib.hid (cmpB_less h1 h2 hc.out e1); clear hc
          go_wp2
          go_quiet (fail)
          go_wp2
          go_ret
          exact ⟨ret_i64 H.out.symm, by first | exact hbel.drewN _ | exact (hbel.drewN _).drewN _⟩
        · by_cases e2 : (b[k].toNat : Int) < a[k].toNat
          · have H := Lib.hid (cmpB_more h1 h2 hc.out e2); clear hc
            go_wp2
            go_quiet (fail)
            go_wp2
            go_quiet (fail)
            go_wp2
            go_ret
            exact ⟨ret_i64 H.out.symm, by first | exact hbel.drewN _ | exact (hbel.drewN _).drewN _⟩
          · have H := Lib.hid (cmpB_step h1 h2 hc.out (by omega)); clear hc
            go_wp2
            go_quiet (fail)
            go_wp2
            go_quiet (fail)
            go_wp2
            go_roundw
            case rel => exact ⟨k + 1, by omega, by omega, by go_num, rfl, H, by first | exact hbel.drewN _ | exact (hbel.drewN _).drewN _⟩
            case measure => simp [intOf]; omega
      · have H := Lib.hid (cmpB_end (.inr (by omega)) hka hkb hc.out); clear hc
        go_wp2_with (go_at_call 32; refine (ref_Numbers _ _ _).mono ?_; rintro e w' ⟨rfl, rfl⟩)
        go_ret
        exact ⟨ret_i64 H.out.symm, hbel⟩
    · have H := Lib.hid (cmpB_end (.inl (by omega)) hka hkb hc.out); clear hc
      go_wp2_with (go_at_call 32; refine (ref_Numbers _ _ _).mono ?_; rintro e w' ⟨rfl, rfl⟩)
      go_ret
      exact ⟨ret_i64 H.out.symm, hbel⟩

end Go.Proofs.YtmekockjgldndaaDoor
namespace Go.Proofs.YtmekockjgldndaaDoor
open Go.RowKit Go.Wk
set_option maxRecDepth 100000

/-- The value of a node. -/
def ndV (x : Nd) : Value := .agg #[.int .i64 x.op, .int .i64 x.n, .string x.s, .string x.t]
/-- A slice that holds nodes. -/
def NdsAt (w : World) (A : Option Addr) (P : List Nd) : Prop :=
  ∀ (k : Nat) (x : Nd), P[k]? = some x → ∃ a, A = some a ∧ w.cell? (a.add (k * 4)) = some (.int .i64 x.op) ∧
    w.cell? ⟨(a.add (k * 4)).block, (a.add (k * 4)).off + 1, none⟩ = some (.int .i64 x.n) ∧
    w.cell? ⟨(a.add (k * 4)).block, (a.add (k * 4)).off + 2, none⟩ = some (.string x.s) ∧
    w.cell? ⟨(a.add (k * 4)).block, (a.add (k * 4)).off + 3, none⟩ = some (.string x.t)
theorem NdsAt.keep {w w' : World} {A : Option Addr} {P : List Nd} (h : NdsAt w A P) (hb : Below w.heap.size w w') : NdsAt w' A P :=
  fun k x hx => let ⟨a, h1, h2, h3, h4, h5⟩ := h k x hx; ⟨a, h1, cell_keep hb h2, cell_keep hb h3, cell_keep hb h4, cell_keep hb h5⟩

theorem cmpNds_at {P Q : List Nd} {k : Nat} (h1 : k < P.length) (h2 : k < Q.length) : cmpNds (P.drop k) (Q.drop k) = or2 (cmpNd P[k] Q[k]) (cmpNds (P.drop (k + 1)) (Q.drop (k + 1))) := by
  rw [List.drop_eq_getElem_cons h1, List.drop_eq_getElem_cons h2]; rfl
theorem cmpNds_end1 {P Q : List Nd} {k : Nat} (h1 : P.length ≤ k) (h2 : k < Q.length) : cmpNds (P.drop k) (Q.drop k) = -1 := by
  rw [List.drop_of_length_le h1, List.drop_eq_getElem_cons h2]; rfl
theorem cmpNds_end2 {P Q : List Nd} {k : Nat} (h1 : k < P.length) (h2 : Q.length ≤ k) : cmpNds (P.drop k) (Q.drop k) = 1 := by
  rw [List.drop_of_length_le h2, List.drop_eq_getElem_cons h1]; rfl
theorem cmpNds_end0 {P Q : List Nd} {k : Nat} (h1 : P.length ≤ k) (h2 : Q.length ≤ k) : cmpNds (P.drop k) (Q.drop k) = 0 := by
  rw [List.drop_of_length_le h1, List.drop_of_length_le h2]; rfl

end Go.Proofs.YtmekockjgldndaaDoor
namespace Go.Proofs.YtmekockjgldndaaDoor
open Go.RowKit Go.Wk

theorem name_letter (n : Int) (w : World) (h0 : 0 ≤ n) (h1 : n ≤ 255) : Calls Tryd.prog 61 #[.int .u8 n] w fun e w' => e = .returned (.bool (isLet n)) ∧ w = w' := by
  go_enter Tryd.func61, Tryd.ntmps61
  go_wp2
  all_goals (go_ret; exact ⟨ret_bool (by unfold isLet; rw [Bool.eq_iff_iff]; simp; omega), rfl⟩)
theorem name_digit (n : Int) (w : World) (h0 : 0 ≤ n) (h1 : n ≤ 255) : Calls Tryd.prog 62 #[.int .u8 n] w fun e w' => e = .returned (.bool (isDig n)) ∧ w = w' := by
  go_enter Tryd.func62, Tryd.ntmps62
  go_wp2
  all_goals (go_ret; exact ⟨ret_bool (by unfold isDig; rw [Bool.eq_iff_iff]; simp; omega), rfl⟩)
/-- '[]byte(s)': a new row with the text's bytes. -/
theorem run_bytes (s : ByteArray) (w : World) : ∃ (c : Nat) (w1 : World), (convert 9 120 (.string s)).run Tryd.prog w = .ok (.slice (some ⟨w.heap.size, 0, none⟩) s.size c) w1 ∧ Below w.heap.size w w1 ∧
    ∀ (k : Nat) (h : k < s.size), w1.cell? ⟨w.heap.size, k, none⟩ = some (.int .u8 (s[k].toNat : Int)) := by
  have h := run_bytes_of_string (P := Tryd.prog) w 9 120 5 s Tryd.underlying9 Tryd.underlying120 Tryd.underlying5
  refine ⟨_, _, h, ((Below.refl _ _).drew).alloc (by simp) _, fun k hk => ?_⟩
  have e : w.heap.size = w.drew.heap.size := rfl
  rw [e, World.cell?_alloc_mark, bytesRow_at s _ k hk]
  rfl

set_option maxHeartbeats 400000 in
theorem name_Check_empty (s : ByteArray) (w : World) (h : s.size = 0) : Calls Tryd.prog 45 #[.string s] w fun e w' => e = .returned (errV (nameFault s)) ∧ Below w.heap.size w w' := by
  have H := Lib.hid (show nameFault s = 1 by unfold nameFault; rw [nameOk_empty h]; rfl)
  have h1 : s = ⟨#[]⟩ := bytes_ext (List.eq_nil_of_length_eq_zero (by rw [Array.length_toList]; exact h))
  clear h
  subst h1
  go_enter Tryd.func45, Tryd.ntmps45
  go_wp2
  go_ret
  exact ⟨by rw [H.out]; rfl, Below.refl _ _⟩

theorem not_empty {s : ByteArray} (h : 0 < s.size) : s.toList = [] ↔ False := by
  rw [ByteArray.toList_eq]
  constructor
  · intro h'
    have : s.data.toList.length = 0 := by rw [h']; rfl
    rw [Array.length_toList] at this
    exact absurd (show s.size = 0 from this) (by omega)
  · exact False.elim

set_option maxHeartbeats 400000 in
theorem name_Check_first (s : ByteArray) (w : World) (h : 0 < s.size) (hl : isLet (s[0].toNat : Int) = false) : Calls Tryd.prog 45 #[.string s] w fun e w' => e = .returned (errV (nameFault s)) ∧ Below w.heap.size w w' := by
  have H := Lib.hid (show nameFault s = 1 by unfold nameFault; rw [nameOk_first h hl]; rfl)
  have he : s.toList.isEmpty = false := by rw [List.isEmpty_eq_false_iff]; exact fun q => (not_empty h).1 q
  have he2 : ¬ s.toList = [] := fun q => (not_empty h).1 q
  have C1 := Lib.hid (fun w => name_letter (s[0].toNat : Int) w (by omega) (by have := s[0].toNat_lt; omega))
  rw [hl] at C1
  clear hl
  go_enter Tryd.func45, Tryd.ntmps45
  go_wp2_with (go_at_call 61; refine (C1.out _).mono ?_; rintro e w' ⟨rfl, rfl⟩)
  go_ret
  exact ⟨by rw [H.out]; rfl, Below.refl _ _⟩

set_option maxRecDepth 100000 in
set_option maxHeartbeats 1000000 in
theorem name_Check_rest (s : ByteArray) (w : World) (h : 0 < s.size) (hs : s.size ≤ maxLen) (hl : isLet (s[0].toNat : Int) = true) : Calls Tryd.prog 45 #[.string s] w fun e w' => e = .returned (errV (nameFault s)) ∧ Below w.heap.size w w' := by
  have H := Lib.hid (show nameFault s = if s.data.toList.all isWrd then (if 20 < s.size then 4 else 0) else 1 by unfold nameFault; rw [nameOk_all h hl])
  have he : s.toList.isEmpty = false := by rw [List.isEmpty_eq_false_iff]; exact fun q => (not_empty h).1 q
  have he2 : ¬ s.toList = [] := fun q => (not_empty h).1 q
  have C1 := Lib.hid (fun w => name_letter (s[0].toNat : Int) w (by omega) (by have := s[0].toNat_lt; omega))
  rw [hl] at C1
  clear hl
  unfold maxLen at hs
  obtain ⟨c, w1, hrun, hb, hcell⟩ := run_bytes s w
  have HC := Lib.hid hcell
  clear hcell
  go_enter Tryd.func45, Tryd.ntmps45
  go_wp2_with (go_at_call 61; refine (C1.out _).mono ?_; rintro e w' ⟨rfl, rfl⟩)
  clear hrun C1
  go_loop [2, 4, 17] (fun r _ i => ∃ k : Nat, k ≤ s.size ∧ i = .int .i64 k ∧ r = .nilIface ∧ Hid ((s.data.toList.take k).all isWrd = true)) (fun _ _ i => s.size - (intOf i).toNat)
  case atStart => exact ⟨0, Nat.zero_le _, rfl, rfl, by simp [Hid]⟩
  case round =>
    obtain ⟨k, hk, rfl, rfl, hall⟩ := hrel
    by_cases hlt : k < s.size
    · have hc := HC.out k hlt
      have C1 := Lib.hid (fun w => name_letter (s[k].toNat : Int) w (by omega) (by have := s[k].toNat_lt; omega))
      have C2 := Lib.hid (fun w => name_digit (s[k].toNat : Int) w (by omega) (by have := s[k].toNat_lt; omega))
      have hst : isWrd s[k] = (isLet (s[k].toNat : Int) || isDig (s[k].toNat : Int)) := rfl
      have G1 := Lib.hid (fun q : isWrd s[k] = true => (show (s.data.toList.take (k + 1)).all isWrd = true by rw [all_succ s isWrd hlt, hall.out, Bool.true_and, q]))
      have G2 := Lib.hid (fun q : isWrd s[k] = false => (all_stop hlt q : s.data.toList.all isWrd = false))
      rw [hst] at G1 G2
      clear hst hall
      rcases hx : isLet (s[k].toNat : Int) with _ | _ <;> rcases hy : isDig (s[k].toNat : Int) with _ | _ <;> rw [hx] at C1 G1 G2 <;> rw [hy] at C2 G1 G2 <;> clear hx hy
      all_goals go_wp2_with (first | (go_at_call 61; refine (C1.out _).mono ?_; rintro e w' ⟨rfl, rfl⟩) | (go_at_call 62; refine (C2.out _).mono ?_; rintro e w' ⟨rfl, rfl⟩))
      · go_ret
        exact ⟨by rw [H.out, G2.out rfl]; rfl, hb⟩
      all_goals
        go_round
        case rel => exact ⟨k + 1, by omega, by go_num, rfl, G1.out rfl⟩
        case measure => simp [intOf]; omega
    · have H2 := Lib.hid (show s.data.toList.all isWrd = true from (all_end (k := k) (by omega)).symm.trans hall.out)
      clear hall
      by_cases h20 : 20 < s.size
      · have H3 := Lib.hid (show nameFault s = 4 by rw [H.out, H2.out, if_pos rfl, if_pos h20])
        clear H H2
        go_wp2
        go_ret
        exact ⟨by rw [H3.out]; rfl, hb⟩
      · have H3 := Lib.hid (show nameFault s = 0 by rw [H.out, H2.out, if_pos rfl, if_neg h20])
        clear H H2
        go_wp2
        go_ret
        exact ⟨by rw [H3.out]; rfl, hb⟩
theorem name_Check (s : ByteArray) (w : World) (hs : s.size ≤ maxLen) : Calls Tryd.prog 45 #[.string s] w fun e w' => e = .returned (errV (nameFault s)) ∧ Below w.heap.size w w' := by
  by_cases h : s.size = 0
  · exact name_Check_empty s w h
  · rcases hl : isLet ((s[0]'(by omega)).toNat : Int) with _ | _
    · exact name_Check_first s w (by omega) hl
    · exact name_Check_rest s w (by omega) hs hl

end Go.Proofs.YtmekockjgldndaaDoor
namespace Go.Proofs.YtmekockjgldndaaDoor
open Go.RowKit Go.Wk
set_option maxRecDepth 100000

theorem empty_or (s : ByteArray) : s = ⟨#[]⟩ ∨ (s.toList.isEmpty = false ∧ (¬ s.toList = []) ∧ noB s = false) := by
  by_cases h : 0 < s.size
  · exact .inr ⟨by rw [List.isEmpty_eq_false_iff]; exact fun q => (not_empty h).1 q, fun q => (not_empty h).1 q, by unfold noB; rw [decide_eq_false_iff_not]; omega⟩
  · exact .inl (bytes_ext (List.eq_nil_of_length_eq_zero (by rw [Array.length_toList]; exact (by omega : s.size = 0))))
theorem noB_empty : noB ⟨#[]⟩ = true := rfl
theorem below_box2 {w w1 : World} {o : Obj} (h : Below (w.alloc o).heap.size (w.alloc o) w1) : Below w.heap.size w w1 := (below_box w o).trans (h.mono (by simp))

theorem keep_alloc {w w1 : World} {o : Obj} (hb : Below (w.alloc o).heap.size (w.alloc o) w1) (k : Nat) (v : Value) (h : (w.alloc o).cell? ⟨w.heap.size, k, none⟩ = some v) : w1.cell? ⟨w.heap.size, k, none⟩ = some v :=
  (hb.cell (by simp)).trans h

end Go.Proofs.YtmekockjgldndaaDoor
namespace Go.Proofs.YtmekockjgldndaaDoor
open Go.RowKit Go.Wk Go.Sort
set_option maxRecDepth 100000

theorem add_add (a : Addr) (x y : Nat) : (a.add x).add y = a.add (x + y) := by
  unfold Addr.add
  by_cases hx : x = 0 <;> by_cases hy : y = 0 <;> simp [hx, hy, Nat.add_assoc]
theorem add_block (a : Addr) (x : Nat) : (a.add x).block = a.block := by unfold Addr.add; split <;> rfl
theorem grown_refl (w : World) (r : Option Nat) : w.grownBy w r := ⟨rfl, rfl, rfl, Nat.le_refl _, fun _ _ _ => rfl⟩
theorem grown_trans {a b c : World} {r : Option Nat} (h : a.grownBy b r) (k : b.grownBy c r) : a.grownBy c r :=
  ⟨k.os.trans h.os, k.tape.trans h.tape, k.output.trans h.output, Nat.le_trans h.size k.size, fun i hi hn => (k.block i (Nat.lt_of_lt_of_le hi h.size) hn).trans (h.block i hi hn)⟩
/-- The nodes are read as before: their block is none of the one that turned. -/
theorem NdsAt.but {w w' : World} {A : Option Addr} {P : List Nd} {R : Nat} (h : NdsAt w A P) (hg : w.grownBy w' (some R)) (hR : ∀ a, A = some a → a.block ≠ R) : NdsAt w' A P := by
  intro k x hx
  obtain ⟨a, h1, h2, h3, h4, h5⟩ := h k x hx
  have hn : some a.block ≠ some R := fun e => hR a h1 (by injection e)
  have hb := add_block a (k * 4)
  exact ⟨a, h1, hg.cell h2 (by rw [hb]; exact hn), hg.cell h3 (by rw [hb]; exact hn), hg.cell h4 (by rw [hb]; exact hn), hg.cell h5 (by rw [hb]; exact hn)⟩
/-- A part of nodes. -/
theorem NdsAt.seg {w : World} {a : Addr} {P : List Nd} (h : NdsAt w (some a) P) (i j : Nat) : NdsAt w (some (a.add (i * 4))) (seg P i j) := by
  intro k x hx
  have hx' : P[i + k]? = some x := by
    unfold Wk.seg at hx
    rw [List.getElem?_take] at hx
    split at hx
    · rw [List.getElem?_drop] at hx; exact hx
    · cases hx
  obtain ⟨b, h1, h2, h3, h4, h5⟩ := h (i + k) x hx'
  injection h1 with h1
  subst h1
  have e : (a.add (i * 4)).add (k * 4) = a.add ((i + k) * 4) := by rw [add_add, Nat.add_mul]
  exact ⟨_, rfl, by rw [e]; exact h2, by rw [e]; exact h3, by rw [e]; exact h4, by rw [e]; exact h5⟩

/-- The numbers and texts of nodes are such as Go has. -/
structure NdOk (x : Nd) : Prop where
  s : x.s.size ≤ maxLen
  t : x.t.size ≤ maxLen
  lo : -9223372036854775808 ≤ x.n
  hi : x.n ≤ 9223372036854775807
def NdsOk (P : List Nd) : Prop := ∀ x ∈ P, NdOk x
theorem NdsOk.at {P : List Nd} (h : NdsOk P) {k : Nat} (hk : k < P.length) : NdOk P[k] := h _ (List.getElem_mem hk)

/-- val's reader: its nodes and its place. -/
structure RdAt (w : World) (R : Nat) (v : Value) (p : Nat) : Prop where
  c0 : w.cell? ⟨R, 0, none⟩ = some v
  c1 : w.cell? ⟨R, 1, none⟩ = some (.int .i64 p)
  f1 : w.frozen? ⟨R, 1, none⟩ = false
theorem RdAt.keep {w w' : World} {R p : Nat} {v : Value} (h : RdAt w R v p) (hb : Below w.heap.size w w') : RdAt w' R v p :=
  ⟨cell_keep hb h.c0, cell_keep hb h.c1, (hb.frozen (p := ⟨R, 1, none⟩) (block_lt_of_cell h.c1)).trans h.f1⟩
theorem RdAt.lt {w : World} {R p : Nat} {v : Value} (h : RdAt w R v p) : R < w.heap.size := block_lt_of_cell h.c0
theorem RdAt.put {w : World} {R p : Nat} {v : Value} (h : RdAt w R v p) (q : Nat) : RdAt (w.setCell ⟨R, 1, none⟩ (.int .i64 q)) R v q := by
  refine ⟨?_, ?_, ?_⟩
  · exact (World.cell?_setCell_other _ _ _ _ (by simp)).trans h.c0
  · exact World.cell?_setCell_same _ _ _ h.c1
  · rw [World.frozen?_setCell]; exact h.f1

theorem RdAt.drewN {w : World} {R p : Nat} {v : Value} (h : RdAt w R v p) (k : Nat) : RdAt (w.drewN k) R v p := ⟨h.c0, h.c1, h.f1⟩
theorem grown_drewN {w w1 : World} {r : Option Nat} (h : w.grownBy w1 r) (k : Nat) : w.grownBy (w1.drewN k) r := ⟨h.os, h.tape, h.output, h.size, h.block⟩
theorem grown_alloc {w w1 : World} {r : Option Nat} (h : w.grownBy w1 r) (o : Obj) : w.grownBy (w1.alloc o) r := grown_trans h (grown_of_below ((Below.refl _ _).alloc (Nat.le_refl _) o) _)
/-- Behind the box of a node and the place's step. -/
theorem rd_step {w w1 : World} {A : Option Addr} {R n c p : Nat} (hr : RdAt w R (.slice A n c) p) (hb : Below w.heap.size w w1) (o : Obj) :
    RdAt ((w1.setCell ⟨R, 1, none⟩ (.int .i64 ((p : Int) + 1))).alloc o) R (.slice A n c) (p + 1) ∧ w.grownBy ((w1.setCell ⟨R, 1, none⟩ (.int .i64 ((p : Int) + 1))).alloc o) (some R) := by
  have h1 := ((hr.keep hb).put (p + 1)).keep ((Below.refl _ _).alloc (Nat.le_refl _) o)
  exact ⟨h1, grown_alloc (grown_trans (grown_of_below hb _) (grown_setCell _ ⟨R, 1, none⟩ _)) o⟩

/-- The part before. -/
def lastV (a : Addr) (c q : Nat) : Option Nat → Value
  | none => .slice none 0 0
  | some l => .slice (some (a.add (l * 4))) (q - l) (c - l)
theorem setLoop_stop {v : List Nd} {f : Nat → Option Nat} {N k : Nat} {last : Option Nat} {q : Nat} (hk : k < N) (h : f q = none) : setLoop v f (N - k) last q = none := by
  obtain ⟨j, hj⟩ : ∃ j, N - k = j + 1 := ⟨N - k - 1, by omega⟩
  rw [hj]; simp only [setLoop, h]
theorem setLoop_fall {v : List Nd} {f : Nat → Option Nat} {N k : Nat} {last : Option Nat} {q e : Nat} (hk : k < N) (h : f q = some e) (hr : rises v last q e = false) : setLoop v f (N - k) last q = none := by
  obtain ⟨j, hj⟩ : ∃ j, N - k = j + 1 := ⟨N - k - 1, by omega⟩
  rw [hj]; simp only [setLoop, h, hr, Bool.false_eq_true, if_false]
theorem setLoop_next {v : List Nd} {f : Nat → Option Nat} {N k : Nat} {last : Option Nat} {q e : Nat} (hk : k < N) (h : f q = some e) (hr : rises v last q e = true) : setLoop v f (N - k) last q = setLoop v f (N - (k + 1)) (some q) e := by
  obtain ⟨j, hj⟩ : ∃ j, N - k = j + 1 := ⟨N - k - 1, by omega⟩
  rw [hj, show N - (k + 1) = j by omega]; simp only [setLoop, h, hr, if_true]

end Go.Proofs.YtmekockjgldndaaDoor
namespace Go.Wk
theorem less_cmp (a b : List UInt8) : Op.bytesLess a b = decide (Lib.compareBytes a b < 0) := by
  induction a generalizing b with
  | nil => cases b <;> simp [Op.bytesLess, Lib.compareBytes]
  | cons x a ih =>
    cases b with
    | nil => simp [Op.bytesLess, Lib.compareBytes]
    | cons y b =>
      simp only [Op.bytesLess, Lib.compareBytes, ih]
      by_cases h1 : x < y
      · simp [h1]
      · by_cases h2 : y < x
        · have : (x == y) = false := by
            rw [beq_eq_false_iff_ne]; intro e; subst e; exact h1 h2
          simp [h1, h2, this]
        · have : x = y := by
            have a1 : ¬ x.toNat < y.toNat := h1
            have a2 : ¬ y.toNat < x.toNat := h2
            exact UInt8.toNat_inj.1 (by omega)
          subst this
          simp [h1]
/-- Texts one not ahead of the other, as the machine asks it. -/
theorem leq_ways (a b : ByteArray) : (cmpB b a < 0 ∧ Op.bytesLess a.toList b.toList = false ∧ (a.toList == b.toList) = false) ∨ (¬ cmpB b a < 0 ∧ Op.bytesLess a.toList b.toList = true) ∨ (¬ cmpB b a < 0 ∧ Op.bytesLess a.toList b.toList = false ∧ (a.toList == b.toList) = true) := by
  rw [less_cmp]
  have e : Lib.compareBytes a.toList b.toList = cmpB a b := by unfold cmpB; rw [ByteArray.toList_eq, ByteArray.toList_eq]
  rw [e]
  have h1 := cmpB_cmp.anti a b
  have h2 := cmpB_cmp.zero a b
  by_cases h : cmpB a b < 0
  · exact .inr (.inl ⟨by omega, by simpa using h⟩)
  · by_cases h0 : cmpB a b = 0
    · exact .inr (.inr ⟨by omega, by simpa using h, by rw [h2.1 h0]; simp⟩)
    · refine .inl ⟨by omega, by simpa using h, ?_⟩
      rw [beq_eq_false_iff_ne]
      intro q
      rw [ByteArray.toList_eq, ByteArray.toList_eq] at q
      exact h0 (h2.2 (bytes_ext q))
theorem recLoop_bad {v : List Nd} {f : Nat → Option Nat} {N k : Nat} {last : ByteArray} {q : Nat} (hk : k < N) (h : fieldOk v last q = none) : recLoop v f (N - k) last q = none := by
  obtain ⟨j, hj⟩ : ∃ j, N - k = j + 1 := ⟨N - k - 1, by omega⟩
  rw [hj]; simp only [recLoop, h]
theorem recLoop_stop {v : List Nd} {f : Nat → Option Nat} {N k : Nat} {last s : ByteArray} {q : Nat} (hk : k < N) (h : fieldOk v last q = some s) (hf : f (q + 1) = none) : recLoop v f (N - k) last q = none := by
  obtain ⟨j, hj⟩ : ∃ j, N - k = j + 1 := ⟨N - k - 1, by omega⟩
  rw [hj]; simp only [recLoop, h, hf]
theorem recLoop_next {v : List Nd} {f : Nat → Option Nat} {N k : Nat} {last s : ByteArray} {q e : Nat} (hk : k < N) (h : fieldOk v last q = some s) (hf : f (q + 1) = some e) : recLoop v f (N - k) last q = recLoop v f (N - (k + 1)) s e := by
  obtain ⟨j, hj⟩ : ∃ j, N - k = j + 1 := ⟨N - k - 1, by omega⟩
  rw [hj, show N - (k + 1) = j by omega]; simp only [recLoop, h, hf]
theorem fieldOk_out {v : List Nd} {last : ByteArray} {p : Nat} (h : v.length ≤ p) : fieldOk v last p = none := by
  unfold fieldOk; rw [List.getElem?_eq_none h]
theorem fieldOk_no {v : List Nd} {last : ByteArray} {p : Nat} (h : p < v.length) (hq : (decide (v[p].op = 7) && shapedN v[p] && decide (cmpB last v[p].s < 0)) = false) : fieldOk v last p = none := by
  unfold fieldOk; rw [List.getElem?_eq_getElem h]; simp only [hq, Bool.false_eq_true, if_false]
theorem fieldOk_yes {v : List Nd} {last : ByteArray} {p : Nat} (h : p < v.length) (hq : (decide (v[p].op = 7) && shapedN v[p] && decide (cmpB last v[p].s < 0)) = true) : fieldOk v last p = some v[p].s := by
  unfold fieldOk; rw [List.getElem?_eq_getElem h]; simp only [hq, if_true]
end Go.Wk
namespace Go.Proofs.YtmekockjgldndaaDoor
open Go.RowKit Go.Wk Go.Sort
set_option maxRecDepth 100000

end Go.Proofs.YtmekockjgldndaaDoor
namespace Go.Proofs.YtmekockjgldndaaDoor
open Go.RowKit Go.Wk Go.Sort
set_option maxRecDepth 100000

theorem NdsAt.lt {w : World} {A : Option Addr} {P : List Nd} (h : NdsAt w A P) (h0 : 0 < P.length) (a : Addr) (e : A = some a) : a.block < w.heap.size := by
  obtain ⟨b, hb, q, -⟩ := h 0 P[0] (List.getElem?_eq_getElem h0)
  rw [e] at hb
  injection hb with hb
  subst hb
  have := block_lt_of_cell q
  rw [add_block] at this
  exact this
/-- Behind part: the two new blocks lie there, and what was there is as it was. -/
theorem check_worlds {w w1 : World} (o1 o2 : Obj) (h : ((w.alloc o1).alloc o2).grownBy w1 (some (w.heap.size + 1))) :
    Below w.heap.size w w1 ∧ w1.cell? ⟨w.heap.size, 0, none⟩ = (w.alloc o1).cell? ⟨w.heap.size, 0, none⟩ ∧ w1.frozen? ⟨w.heap.size, 0, none⟩ = (w.alloc o1).frozen? ⟨w.heap.size, 0, none⟩ ∧ w.heap.size + 2 ≤ w1.heap.size := by
  have hb : Below (w.heap.size + 1) ((w.alloc o1).alloc o2) w1 := below_of_grown h (Nat.le_refl _) (by simp)
  have hb2 : Below (w.heap.size + 1) (w.alloc o1) w1 := ((Below.refl _ _).alloc (by simp) o2).trans hb
  refine ⟨(below_box w o1).trans (hb2.mono (by omega)), hb2.cell (by simp), hb2.frozen (by simp), ?_⟩
  have := h.size
  simp at this
  omega
end Go.Proofs.YtmekockjgldndaaDoor
namespace Go.Wk
def cmpE (P Q : List Nd) : Int := or2 (valFault P) (valFault Q)
def cmpV (P Q : List Nd) : Int := if cmpE P Q = 0 then cmpNds P Q else 0
end Go.Wk
namespace Go.Proofs.YtmekockjgldndaaDoor
open Go.RowKit Go.Wk Go.Sort
set_option maxRecDepth 100000

theorem errV_ways (x : Int) : (x = 0 ∧ errV x = .nilIface) ∨ (x ≠ 0 ∧ errV x = .iface 23 (.int .i64 x)) := by
  by_cases h : x = 0
  · exact .inl ⟨h, by rw [h]; rfl⟩
  · exact .inr ⟨h, errV_ne h⟩
theorem cmpNd_eq {x y : Nd} (h : x = y) : cmpNd x y = 0 := (cmpNd_cmp.zero x y).2 h
theorem nd_neq {x y : Nd} (h : x ≠ y) (w : World) : (binOp .neq 36 (.agg #[.int .i64 x.op, .int .i64 x.n, .string x.s, .string x.t]) (.agg #[.int .i64 y.op, .int .i64 y.n, .string y.s, .string y.t])).run Tryd.prog w = .ok (.bool true) w := by
  simp [go_sem]
  exact fun h1 h2 h3 h4 => h (Nd.ext4 h1 h2 (toList_inj h3) (toList_inj h4))
theorem cmpNds_zero_at {P Q : List Nd} {k : Nat} (h1 : k < P.length) (h2 : k < Q.length) (h : P[k] ≠ Q[k]) (hc : cmpNds P Q = cmpNds (P.drop k) (Q.drop k)) : cmpNds P Q ≠ 0 := by
  rw [hc, cmpNds_at h1 h2, or2_ne (fun e => h ((cmpNd_cmp.zero _ _).1 e))]
  exact fun e => h ((cmpNd_cmp.zero _ _).1 e)
set_option maxHeartbeats 1000000 in
theorem same_Nodes (A B : Option Addr) (n m c d : Nat) (P Q : List Nd) (w : World) (hn : n = P.length) (hm : m = Q.length) (hln : n ≤ maxLen) (hlm : m ≤ maxLen) (hP : NdsAt w A P) (hQ : NdsAt w B Q) :
    Calls Tryd.prog 10 #[.slice A n c, .slice B m d] w fun e w' => e = .returned (.bool (decide (cmpNds P Q = 0))) ∧ Below w.heap.size w w' := by
  unfold maxLen at hln hlm
  have HN := Lib.hid hn
  have HM := Lib.hid hm
  have HP := Lib.hid hP
  have HQ := Lib.hid hQ
  clear hn hm hP hQ
  by_cases hl : n = m
  · subst hl
    go_enter Tryd.func10, Tryd.ntmps10
    go_wp2_with fail
    go_loopw [5] (fun i wr => ∃ k : Nat, k ≤ n ∧ i = .int .i64 k ∧ Hid (cmpNds P Q = cmpNds (P.drop k) (Q.drop k)) ∧ Hid (Below w.heap.size w wr)) (fun i _ => n - (intOf i).toNat)
    case atStart => exact ⟨0, Nat.zero_le _, rfl, rfl, Below.refl _ _⟩
    case round =>
      obtain ⟨k, hk, rfl, hE, hB⟩ := hrel
      by_cases hlt : k < n
      · have h1 : k < P.length := by rw [← HN.out]; exact hlt
        have h2 : k < Q.length := by rw [← HM.out]; exact hlt
        obtain ⟨a, rfl, a1, a2, a3, a4⟩ := (HP.out.keep hB.out) k P[k] (List.getElem?_eq_getElem h1)
        obtain ⟨b, rfl, b1, b2, b3, b4⟩ := (HQ.out.keep hB.out) k Q[k] (List.getElem?_eq_getElem h2)
        by_cases he : P[k] = Q[k]
        · have HE := Lib.hid (hE.out.trans ((cmpNds_at h1 h2).trans (by rw [cmpNd_eq he, or2_zero])))
          rw [he] at a1 a2 a3 a4
          generalize Q[k] = y at *
          clear he hE
          go_wp2_with fail
          go_quiet (fail)
          go_wp2_with fail
          go_roundw
          case rel => exact ⟨k + 1, by omega, by go_num, HE, hB.out.drewN _⟩
          case measure => simp [intOf]; omega
        · have HE := Lib.hid (cmpNds_zero_at h1 h2 he hE.out)
          have hne := fun w => nd_neq he w
          generalize P[k] = x at *
          generalize Q[k] = y at *
          clear he hE
          go_wp2_with fail
          go_quiet (fail)
          go_wp2_with fail
          go_ret
          exact ⟨ret_bool (decide_eq_false HE.out).symm, hB.out.drewN _⟩
      · have HE := Lib.hid (hE.out.trans (cmpNds_end0 (by rw [← HN.out]; omega) (by rw [← HM.out]; omega)))
        clear hE
        go_wp2_with fail
        go_ret
        exact ⟨ret_bool (decide_eq_true HE.out).symm, hB.out⟩
  · have HE := Lib.hid (show cmpNds P Q ≠ 0 from fun h => hl (by rw [HN.out, HM.out, (cmpNds_cmp.zero _ _).1 h]))
    have h3 : (n != m) = true := by rw [bne_iff_ne]; exact hl
    clear hl
    go_enter Tryd.func10, Tryd.ntmps10
    go_wp2_with fail
    go_ret
    exact ⟨ret_bool (decide_eq_false HE.out).symm, Below.refl _ _⟩

def ndCells : List Nd → List Value
  | [] => []
  | x :: r => .int .i64 x.op :: .int .i64 x.n :: .string x.s :: .string x.t :: ndCells r
theorem ndCells_append (P Q : List Nd) : ndCells (P ++ Q) = ndCells P ++ ndCells Q := by
  induction P with
  | nil => rfl
  | cons x P ih => simp [ndCells, ih]
theorem ndCells_length (P : List Nd) : (ndCells P).length = P.length * 4 := by
  induction P with
  | nil => rfl
  | cons x P ih => simp only [ndCells, List.length_cons, ih]; omega
theorem ndCells_at (P : List Nd) (k : Nat) (x : Nd) (h : P[k]? = some x) : (ndCells P)[k * 4]? = some (.int .i64 x.op) ∧ (ndCells P)[k * 4 + 1]? = some (.int .i64 x.n) ∧ (ndCells P)[k * 4 + 2]? = some (.string x.s) ∧ (ndCells P)[k * 4 + 3]? = some (.string x.t) := by
  induction P generalizing k with
  | nil => simp at h
  | cons y P ih =>
    cases k with
    | zero => simp only [List.getElem?_cons_zero, Option.some.injEq] at h; subst h; exact ⟨rfl, rfl, rfl, rfl⟩
    | succ k =>
      have := ih k (by simpa using h)
      rw [show (k + 1) * 4 = k * 4 + 1 + 1 + 1 + 1 by omega]
      simp only [ndCells, List.getElem?_cons_succ]
      exact this
theorem addr_add (g o k : Nat) : (⟨g, o, none⟩ : Addr).add k = ⟨g, o + k, none⟩ := by
  unfold Addr.add; split
  · rename_i h0; subst h0; rfl
  · simp
/-- Cells that are those of nodes. -/
theorem nds_of_cells {w : World} {b o : Nat} {P : List Nd} (h : ∀ (j : Nat) u, (ndCells P)[j]? = some u → w.cell? ((⟨b, o, none⟩ : Addr).add j) = some u) : NdsAt w (some ⟨b, o, none⟩) P := by
  intro k x hx
  obtain ⟨h1, h2, h3, h4⟩ := ndCells_at P k x hx
  have g1 := h _ _ h1
  have g2 := h _ _ h2
  have g3 := h _ _ h3
  have g4 := h _ _ h4
  simp only [addr_add] at g1 g2 g3 g4
  exact ⟨_, rfl, by simp only [addr_add]; exact g1, by simp only [addr_add]; exact g2, by simp only [addr_add]; exact g3, by simp only [addr_add]; exact g4⟩
theorem nds_new (w : World) (P : List Nd) (t : TypeId) : NdsAt (w.alloc (.cells (ndCells P).toArray t)) (some ⟨w.heap.size, 0, none⟩) P := nds_of_cells (cells_new w _ t)
end Go.Proofs.YtmekockjgldndaaDoor
namespace Go.Wk
open Go.ChangeShapes Go.WideShapes Go.RowKit Go.Deep
section
variable {P : Program} {w : World} {t : TypeId} {cs : List Value}
theorem list_of {α : Type} (n : Nat) (R : Nat → α → Prop) (h : ∀ i, i < n → ∃ x, R i x) : ∃ l : List α, l.length = n ∧ ∀ k x, l[k]? = some x → R k x := by
  induction n with
  | zero => exact ⟨[], rfl, fun k x hx => by simp at hx⟩
  | succ n ih =>
    obtain ⟨l, hl, hr⟩ := ih (fun i hi => h i (by omega))
    obtain ⟨y, hy⟩ := h n (by omega)
    refine ⟨l ++ [y], by simp [hl], fun k x hx => ?_⟩
    by_cases hk : k < n
    · rw [List.getElem?_append_left (by omega)] at hx; exact hr k x hx
    · rw [List.getElem?_append_right (by omega)] at hx
      by_cases hk2 : k = n
      · subst hk2
        rw [hl, Nat.sub_self] at hx
        simp only [List.getElem?_cons_zero, Option.some.injEq] at hx
        subst hx; exact hy
      · have : k - l.length ≠ 0 := by omega
        obtain ⟨j, hj⟩ : ∃ j, k - l.length = j + 1 := ⟨k - l.length - 1, by omega⟩
        rw [hj] at hx; simp at hx
theorem rd_slice {e : TypeId} (ht : P.underlying t = some (.slice e)) (h : Rd P w t cs) :
    ∃ (A : Option Addr) (n c : Nat), cs = [.slice A n c] ∧ n ≤ c ∧ c ≤ maxLen ∧ ∀ i, i < n → ∃ a, A = some a ∧ ∃ cs' : List Value, cs'.length = P.cellsOf e ∧ (∀ j, j < P.cellsOf e → w.cell? (a.add (i * P.cellsOf e + j)) = cs'[j]?) ∧ Rd P w e cs' := by
  obtain ⟨H, enc, b, sp, hd, f, x, hx⟩ := h
  rcases open_slice ht hx with ⟨h0, _⟩ | ⟨a, len, cap, m, n, D, Pl, hcs, hb, hl, hm, hmm, hx, hi⟩
  · exact ⟨none, 0, 0, h0, Nat.le_refl _, by unfold maxLen; omega, fun i hi => by omega⟩
  · refine ⟨some a, len, cap, hcs, hl, hm, fun i hil => ⟨a, rfl, ?_⟩⟩
    obtain ⟨cs', hc, ht'⟩ := hi i (by rw [hmm]; split <;> omega)
    obtain ⟨_, hcl, hat⟩ := World.cells?_some hc
    refine ⟨cs', hcl, fun j hj => ?_, ⟨H, enc, b, sp, hd, n, _, ht'⟩⟩
    have := hat j hj
    rw [← Go.Deep.add_add]
    exact this
end
end Go.Wk
namespace Go.Proofs.YtmekockjgldndaaDoor
open Go.Wk Go.ChangeShapes Go.WideShapes Go.RowKit
set_option maxRecDepth 100000

/-- A slice of nodes that came in. -/
structure Ns (w : World) (A : Option Addr) (n c : Nat) (P : List Nd) : Prop where
  len : n = P.length
  cap : n ≤ c
  max : n ≤ maxLen
  at_ : NdsAt w A P
  ok : NdsOk P
theorem Ns.keep {w w' : World} {A : Option Addr} {n c : Nat} {P : List Nd} (h : Ns w A n c P) (hb : Below w.heap.size w w') : Ns w' A n c P := ⟨h.len, h.cap, h.max, h.at_.keep hb, h.ok⟩
theorem Ns.same {w : World} {A B : Option Addr} {n c m d : Nat} {P Q : List Nd} (h : Ns w A n c P) (k : Ns w B m d Q) :
    Calls Tryd.prog 10 #[.slice A n c, .slice B m d] w fun e w' => e = .returned (.bool (decide (cmpNds P Q = 0))) ∧ Below w.heap.size w w' :=
  same_Nodes A B n m c d P Q w h.len k.len h.max k.max h.at_ k.at_

theorem cells_node : Tryd.prog.cellsOf 36 = 4 := by kernel_rfl
theorem cells_int : Tryd.prog.cellsOf 3 = 1 := by kernel_rfl
theorem rd_node {w : World} {cs : List Value} (h : Rd Tryd.prog w 36 cs) : ∃ x : Nd, cs = [.int .i64 x.op, .int .i64 x.n, .string x.s, .string x.t] ∧ NdOk x := by
  have hl := (rd_struct Tryd.underlying36 h).1
  rw [cells_node] at hl
  match cs, hl with
  | [c0, c1, c2, c3], _ =>
    have h0 : Rd Tryd.prog w 3 [c0] := rd_field Tryd.underlying36 h 0 3 0 1 rfl cells_int
    have h1 : Rd Tryd.prog w 3 [c1] := rd_field Tryd.underlying36 h 1 3 1 1 rfl cells_int
    have h2 : Rd Tryd.prog w 9 [c2] := rd_field Tryd.underlying36 h 2 9 2 1 rfl cells_string
    have h3 : Rd Tryd.prog w 9 [c3] := rd_field Tryd.underlying36 h 3 9 3 1 rfl cells_string
    obtain ⟨o, e0, o1, o2⟩ := rd_i64 Tryd.underlying3 h0
    obtain ⟨n, e1, n1, n2⟩ := rd_i64 Tryd.underlying3 h1
    obtain ⟨a, e2, s2⟩ := rd_string Tryd.underlying9 h2
    obtain ⟨b, e3, s3⟩ := rd_string Tryd.underlying9 h3
    simp only [List.cons.injEq, and_true] at e0 e1 e2 e3
    exact ⟨⟨o, n, a, b⟩, by rw [e0, e1, e2, e3], s2, s3, n1, n2⟩
theorem rd_nodes {w : World} {cs : List Value} (h : Rd Tryd.prog w 22 cs) :
    ∃ (A : Option Addr) (n c : Nat) (P : List Nd), cs = [.slice A n c] ∧ n = P.length ∧ n ≤ c ∧ n ≤ maxLen ∧ NdsAt w A P ∧ NdsOk P := by
  obtain ⟨A, n, c, rfl, h1, h2, h3⟩ := rd_slice Tryd.underlying22 h
  rw [cells_node] at h3
  obtain ⟨P, hl, hr⟩ := list_of n (fun k x => (∃ a, A = some a ∧ w.cell? (a.add (k * 4)) = some (.int .i64 x.op) ∧ w.cell? (a.add (k * 4 + 1)) = some (.int .i64 x.n) ∧ w.cell? (a.add (k * 4 + 2)) = some (.string x.s) ∧ w.cell? (a.add (k * 4 + 3)) = some (.string x.t)) ∧ NdOk x) (fun i hi => by
    obtain ⟨a, rfl, cs', hl, hc, hr⟩ := h3 i hi
    obtain ⟨x, rfl, hx⟩ := rd_node hr
    exact ⟨x, ⟨a, rfl, hc 0 (by omega), hc 1 (by omega), hc 2 (by omega), hc 3 (by omega)⟩, hx⟩)
  refine ⟨A, n, c, P, rfl, hl.symm, h1, by omega, fun k x hx => ?_, fun x hx => ?_⟩
  · obtain ⟨⟨a, e, q1, q2, q3, q4⟩, -⟩ := hr k x hx
    refine ⟨a, e, q1, ?_, ?_, ?_⟩
    all_goals
      rw [← add_add] at q2 q3 q4
      unfold Addr.add at q2 q3 q4 ⊢
      first | (simpa using q2) | (simpa using q3) | (simpa using q4)
  · obtain ⟨k, hk, rfl⟩ := List.getElem_of_mem hx
    exact (hr k _ (List.getElem?_eq_getElem hk)).2
theorem open_nodes {H : Type} {enc : TypeId × Value → H} {w : World} {b b0 : Nat} {sp : Nat → Bool} {hd : Bool} {v : Value} {d : DataW H} {ps : List MemPlace} {r : Reach}
    (hv : Value.okWide Tryd.prog w r b0 22 v) (h : DataW.Trod enc Tryd.prog w b sp hd 22 v d ps) :
    ∃ (A : Option Addr) (n c : Nat) (P : List Nd), v = .slice A n c ∧ Ns w A n c P := by
  obtain ⟨A', n', c', rfl⟩ := okWide_slice Tryd.underlying22 hv
  obtain ⟨A, n, c, P, e, h1, h2, h3, h4, h5⟩ := rd_nodes (rd_of_trod h)
  have e' : (Value.slice A' n' c') = .slice A n c := by simpa [Value.cells] using e
  exact ⟨A, n, c, P, e', h1, h2, h3, h4, h5⟩
end Go.Proofs.YtmekockjgldndaaDoor
namespace Go.Proofs.YtmekockjgldndaaDoor
open Go.RowKit Go.Wk

theorem ref_isLetter (n : Int) (w : World) (h0 : 0 ≤ n) (h1 : n ≤ 255) : Calls Tryd.prog 30 #[.int .u8 n] w fun e w' => e = .returned (.bool (isLet n)) ∧ w = w' := by
  go_enter Tryd.func30, Tryd.ntmps30
  go_wp2
  all_goals (go_ret; exact ⟨ret_bool (by unfold isLet; rw [Bool.eq_iff_iff]; simp; omega), rfl⟩)
theorem ref_isDigit (n : Int) (w : World) (h0 : 0 ≤ n) (h1 : n ≤ 255) : Calls Tryd.prog 31 #[.int .u8 n] w fun e w' => e = .returned (.bool (isDig n)) ∧ w = w' := by
  go_enter Tryd.func31, Tryd.ntmps31
  go_wp2
  all_goals (go_ret; exact ⟨ret_bool (by unfold isDig; rw [Bool.eq_iff_iff]; simp; omega), rfl⟩)

set_option maxHeartbeats 1000000 in
theorem ref_NameFault (s : ByteArray) (w : World) (hs : s.size ≤ maxLen) : Calls Tryd.prog 21 #[.string s] w fun e w' => e = .returned (.int .i64 (nameFault s)) ∧ w = w' := by
  unfold maxLen at hs
  go_enter Tryd.func21, Tryd.ntmps21
  go_wp2
  go_loop [2, 3] (fun r i => ∃ k : Nat, k ≤ s.size ∧ i = .int .i64 k ∧ r = .int .i64 0 ∧ Hid (0 < k → nameOk (s.data.toList.take k) = true)) (fun _ i => s.size - (intOf i).toNat)
  case atStart => exact ⟨0, Nat.zero_le _, rfl, rfl, fun h => absurd h (by omega)⟩
  case round =>
    obtain ⟨k, hk, rfl, rfl, hall⟩ := hrel
    by_cases hlt : k < s.size
    · have C1 := Lib.hid (fun w => ref_isLetter (s[k].toNat : Int) w (by omega) (by have := s[k].toNat_lt; omega))
      have C2 := Lib.hid (fun w => ref_isDigit (s[k].toNat : Int) w (by omega) (by have := s[k].toNat_lt; omega))
      by_cases hk0 : k = 0
      · subst hk0
        have G1 := Lib.hid (fun q : isLet (s[0].toNat : Int) = true => (show nameOk (s.data.toList.take 1) = true from nameOk_take_one hlt q))
        have G2 := Lib.hid (fun q : isLet (s[0].toNat : Int) = false => (show nameFault s = 1 by unfold nameFault; rw [nameOk_first hlt q]; rfl))
        clear hall
        rcases hx : isLet (s[0].toNat : Int) with _ | _ <;> rw [hx] at C1 G1 G2 <;> clear hx
        · go_wp2_with (go_at_call 30; refine (C1.out _).mono ?_; rintro e w' ⟨rfl, rfl⟩)
          go_ret
          exact ⟨by rw [G2.out (by simp)]; rfl, rfl⟩
        · go_wp2_with (go_at_call 30; refine (C1.out _).mono ?_; rintro e w' ⟨rfl, rfl⟩)
          go_round
          case rel => exact ⟨1, by omega, by go_num, rfl, fun _ => G1.out (by simp)⟩
          case measure => simp [intOf]; omega
      · have hst : isWrd s[k] = (isLet (s[k].toNat : Int) || isDig (s[k].toNat : Int)) := rfl
        have G1 := Lib.hid (fun q : isWrd s[k] = true => (show nameOk (s.data.toList.take (k + 1)) = true from nameOk_take_succ (by omega) hlt (hall.out (by omega)) q))
        have G2 := Lib.hid (fun q : isWrd s[k] = false => (show nameFault s = 1 by unfold nameFault; rw [nameOk_stop (by omega) hlt q]; rfl))
        rw [hst] at G1 G2
        have hk1 : ((k : Int) == 0) = false := by rw [beq_eq_false_iff_ne]; omega
        clear hst hall hk0
        rcases hx : isLet (s[k].toNat : Int) with _ | _ <;> rcases hy : isDig (s[k].toNat : Int) with _ | _ <;> rw [hx] at C1 G1 G2 <;> rw [hy] at C2 G1 G2 <;> clear hx hy
        all_goals go_wp2_with (first | (go_at_call 30; refine (C1.out _).mono ?_; rintro e w' ⟨rfl, rfl⟩) | (go_at_call 31; refine (C2.out _).mono ?_; rintro e w' ⟨rfl, rfl⟩))
        · go_ret
          exact ⟨by rw [G2.out (by simp)]; rfl, rfl⟩
        all_goals
          go_round
          case rel => exact ⟨k + 1, by omega, by go_num, rfl, fun _ => G1.out rfl⟩
          case measure => simp [intOf]; omega
    · by_cases h0 : s.size = 0
      · have H3 := Lib.hid (show nameFault s = 1 by unfold nameFault; rw [nameOk_empty h0]; rfl)
        have h1 : ((s.size : Int) == 0) = true := by rw [beq_iff_eq]; omega
        clear hall
        go_wp2
        go_ret
        exact ⟨by rw [H3.out]; rfl, rfl⟩
      · have H2 := Lib.hid (show nameOk s.data.toList = true from nameOk_end (by omega) (hall.out (by omega)))
        have h1 : ((s.size : Int) == 0) = false := by rw [beq_eq_false_iff_ne]; omega
        clear hall h0
        by_cases h20 : 20 < s.size
        · have H3 := Lib.hid (show nameFault s = 4 by unfold nameFault; rw [H2.out, if_pos rfl, if_pos h20])
          clear H2
          go_wp2
          go_ret
          exact ⟨by rw [H3.out]; rfl, rfl⟩
        · have H3 := Lib.hid (show nameFault s = 0 by unfold nameFault; rw [H2.out, if_pos rfl, if_neg h20])
          clear H2
          go_wp2
          go_ret
          exact ⟨by rw [H3.out]; rfl, rfl⟩

end Go.Proofs.YtmekockjgldndaaDoor
namespace Go.Proofs.YtmekockjgldndaaDoor
open Go.RowKit Go.Wk Go.Sort
set_option maxRecDepth 100000

theorem emp_or' (s : ByteArray) : s = ⟨#[]⟩ ∨ s ≠ emp ∧ (s.toList == []) = false ∧ (s.toList != []) = true := by
  rcases empty_or s with h | ⟨h1, h2, h3⟩
  · exact .inl h
  · exact .inr ⟨fun e => h2 (by rw [e, show emp.toList = [] by rw [ByteArray.toList_eq]; rfl]), beq_eq_false_iff_ne.2 h2, by rw [bne_iff_ne]; exact h2⟩
theorem bx4_new' (w : World) (x0 x1 x2 x3 : Value) (t : TypeId) : (w.alloc (.cells #[x0, x1, x2, x3] t)).cell? ⟨w.heap.size, 1, none⟩ = some x1 := by
  rw [World.cell?_alloc_at _ _ _ _ rfl]; rfl
/-- The contract of KindEnd, with so much fuel. -/
def KeC (P : List Nd) (A : Option Addr) (n c : Nat) (m : Nat) : Prop :=
  ∀ (q : Nat) (w : World), Ns w A n c P → n - q ≤ m → Calls Tryd.prog 11 #[.slice A n c, .int .i64 q] w fun e w' => e = .returned (.int .i64 (kEnd P q)) ∧ Below w.heap.size w w'
set_option maxHeartbeats 1000000 in
theorem ke_out (P : List Nd) (A : Option Addr) (n c q : Nat) (w : World) (hn : n = P.length) (h : n ≤ q) :
    Calls Tryd.prog 11 #[.slice A n c, .int .i64 q] w fun e w' => e = .returned (.int .i64 (kEnd P q)) ∧ Below w.heap.size w w' := by
  have HE := Lib.hid (kEnd_out (t := P) (p := q) (by omega))
  clear hn
  go_enter Tryd.func11, Tryd.ntmps11
  go_wp2_with fail
  go_ret
  exact ⟨by rw [HE.out]; rfl, Below.refl _ _⟩
section
variable (a : Addr) (n c q : Nat) (xo xn : Int) (xs xt : ByteArray) (w : World) (hm : n ≤ maxLen) (hq : q < n) (d0 : w.cell? (a.add (q * 4)) = some (.int .i64 xo)) (d1 : w.cell? ⟨(a.add (q * 4)).block, (a.add (q * 4)).off + 1, none⟩ = some (.int .i64 xn)) (d2 : w.cell? ⟨(a.add (q * 4)).block, (a.add (q * 4)).off + 2, none⟩ = some (.string xs)) (d3 : w.cell? ⟨(a.add (q * 4)).block, (a.add (q * 4)).off + 3, none⟩ = some (.string xt))
include hm hq d0 d1 d2 d3
set_option maxHeartbeats 1000000 in
/-- A head that is none. -/
theorem ke_bad (h : xt ≠ emp ∨ (xo ≠ 44 ∧ xs ≠ emp) ∨ (xo ≠ 46 ∧ xn ≠ 0) ∨ xn < 0) :
    Calls Tryd.prog 11 #[.slice (some a) n c, .int .i64 q] w fun e w' => e = .returned (.int .i64 (-1)) ∧ Below w.heap.size w w' := by
  unfold maxLen at hm
  have hl : (a.add (q * 4)).block < w.heap.size := block_lt_of_cell d0
  have HB := Lib.hid (fun o => below_box w o)
  rcases emp_or' xt with rfl | ⟨ht, t1, t2⟩
  · have h := h.resolve_left (fun e => e rfl)
    by_cases h44 : xo = 44
    · subst h44
      have h := h.resolve_left (fun e => e.1 rfl)
      by_cases hn : xn = 0
      · have h := h.resolve_left (fun e => e.2 hn)
        omega
      · have e1 : (xn == 0) = false := beq_eq_false_iff_ne.2 hn
        have e2 : (xn != 0) = true := by rw [bne_iff_ne]; exact hn
        clear h
        go_enter Tryd.func11, Tryd.ntmps11
        go_wp2_with fail
        go_ret
        exact ⟨rfl, HB.out _⟩
    · have f1 : (xo == 44) = false := beq_eq_false_iff_ne.2 h44
      have f2 : (xo != 44) = true := by rw [bne_iff_ne]; exact h44
      rcases emp_or' xs with rfl | ⟨hs, s1, s2⟩
      · have h := h.resolve_left (fun e => e.2 rfl)
        by_cases h46 : xo = 46
        · subst h46
          have h := h.resolve_left (fun e => e.1 rfl)
          have e1 : decide (xn < 0) = true := decide_eq_true h
          clear h44
          go_enter Tryd.func11, Tryd.ntmps11
          go_wp2_with fail
          go_ret
          exact ⟨rfl, HB.out _⟩
        · have g1 : (xo == 46) = false := beq_eq_false_iff_ne.2 h46
          have g2 : (xo != 46) = true := by rw [bne_iff_ne]; exact h46
          have hn : xn ≠ 0 := by rcases h with h | h <;> omega
          have e1 : (xn == 0) = false := beq_eq_false_iff_ne.2 hn
          have e2 : (xn != 0) = true := by rw [bne_iff_ne]; exact hn
          clear h hn h44 h46
          go_enter Tryd.func11, Tryd.ntmps11
          go_wp2_with fail
          go_ret
          exact ⟨rfl, HB.out _⟩
      · clear h hs h44
        go_enter Tryd.func11, Tryd.ntmps11
        go_wp2_with fail
        go_ret
        exact ⟨rfl, HB.out _⟩
  · clear h ht
    go_enter Tryd.func11, Tryd.ntmps11
    go_wp2_with fail
    go_ret
    exact ⟨rfl, HB.out _⟩
set_option maxHeartbeats 1000000 in
/-- An entity. -/
theorem ke_ent (hs : xs.size ≤ maxLen) (h1 : xo = 44) (h2 : xn = 0) (h3 : xt = emp) :
    Calls Tryd.prog 11 #[.slice (some a) n c, .int .i64 q] w fun e w' => e = .returned (.int .i64 (if nameFault xs = 0 then ((q + 1 : Nat) : Int) else -1)) ∧ Below w.heap.size w w' := by
  unfold maxLen at hm
  have hl : (a.add (q * 4)).block < w.heap.size := block_lt_of_cell d0
  have HB := Lib.hid (fun o => below_box w o)
  have V := Lib.hid (fun w => ref_NameFault xs w hs)
  have h3' : xt = ⟨#[]⟩ := h3
  subst h1 h2 h3'
  clear h3 hs
  by_cases hf : nameFault xs = 0
  · rw [hf] at V
    rw [if_pos hf]
    clear hf
    go_enter Tryd.func11, Tryd.ntmps11
    go_wp2_with fail
    refine (V.out _).mono ?_
    rintro e w1 ⟨rfl, rfl⟩
    go_wp2_with fail
    go_ret
    exact ⟨by go_num, HB.out _⟩
  · have f1 : (nameFault xs == 0) = false := beq_eq_false_iff_ne.2 hf
    have f2 : (nameFault xs != 0) = true := by rw [bne_iff_ne]; exact hf
    rw [if_neg hf]
    clear hf
    generalize nameFault xs = nf at *
    go_enter Tryd.func11, Tryd.ntmps11
    go_wp2_with fail
    refine (V.out _).mono ?_
    rintro e w1 ⟨rfl, rfl⟩
    go_wp2_with fail
    go_ret
    exact ⟨rfl, HB.out _⟩
set_option maxHeartbeats 1000000 in
/-- One of those without parts. -/
theorem ke_base (h1 : baseOp xo) (h2 : xn = 0) (h3 : xs = emp) (h4 : xt = emp) :
    Calls Tryd.prog 11 #[.slice (some a) n c, .int .i64 q] w fun e w' => e = .returned (.int .i64 ((q + 1 : Nat) : Int)) ∧ Below w.heap.size w w' := by
  unfold maxLen at hm
  have hl : (a.add (q * 4)).block < w.heap.size := block_lt_of_cell d0
  have HB := Lib.hid (fun o => below_box w o)
  have h3' : xs = ⟨#[]⟩ := h3
  have h4' : xt = ⟨#[]⟩ := h4
  subst h2 h3' h4'
  clear h3 h4
  rcases h1 with rfl | rfl | rfl | rfl | rfl
  all_goals
    go_enter Tryd.func11, Tryd.ntmps11
    go_wp2_with fail
    go_ret
    exact ⟨by go_num, HB.out _⟩
set_option maxHeartbeats 1000000 in
/-- None of those that there are. -/
theorem ke_else (h0 : ¬ baseOp xo) (h1 : xo ≠ 44) (h2 : xo ≠ 45) (h3 : xo ≠ 46) :
    Calls Tryd.prog 11 #[.slice (some a) n c, .int .i64 q] w fun e w' => e = .returned (.int .i64 (-1)) ∧ Below w.heap.size w w' := by
  by_cases hb : xt ≠ emp ∨ (xo ≠ 44 ∧ xs ≠ emp) ∨ (xo ≠ 46 ∧ xn ≠ 0) ∨ xn < 0
  · exact ke_bad a n c q xo xn xs xt w hm hq d0 d1 d2 d3 hb
  · have ht : xt = ⟨#[]⟩ := Decidable.byContradiction fun e => hb (.inl e)
    have hs : xs = ⟨#[]⟩ := Decidable.byContradiction fun e => hb (.inr (.inl ⟨h1, e⟩))
    have hn : xn = 0 := Decidable.byContradiction fun e => hb (.inr (.inr (.inl ⟨h3, e⟩)))
    clear hb
    subst ht hs hn
    unfold maxLen at hm
    have hl : (a.add (q * 4)).block < w.heap.size := block_lt_of_cell d0
    have HB := Lib.hid (fun o => below_box w o)
    have f1 : (xo == 44) = false := beq_eq_false_iff_ne.2 h1
    have f2 : (xo != 44) = true := by rw [bne_iff_ne]; exact h1
    have f3 : (xo == 45) = false := beq_eq_false_iff_ne.2 h2
    have f4 : (xo == 46) = false := beq_eq_false_iff_ne.2 h3
    have f5 : (xo != 46) = true := by rw [bne_iff_ne]; exact h3
    have f6 : (xo == 48) = false := beq_eq_false_iff_ne.2 (fun e => h0 (.inr (.inr (.inr (.inl e)))))
    have f7 : (xo == 49) = false := beq_eq_false_iff_ne.2 (fun e => h0 (.inr (.inr (.inr (.inr e)))))
    by_cases h41 : 41 ≤ xo
    · have g1 : decide (41 ≤ xo) = true := decide_eq_true h41
      have g2 : decide (xo ≤ 43) = false := decide_eq_false (fun e => h0 (by unfold baseOp; omega))
      clear h0 h1 h2 h3 h41
      go_enter Tryd.func11, Tryd.ntmps11
      go_wp2_with fail
      go_ret
      exact ⟨rfl, HB.out _⟩
    · have g1 : decide (41 ≤ xo) = false := decide_eq_false h41
      clear h0 h1 h2 h3 h41
      go_enter Tryd.func11, Tryd.ntmps11
      go_wp2_with fail
      go_ret
      exact ⟨rfl, HB.out _⟩
end
set_option maxHeartbeats 1000000 in
/-- Of sets. -/
theorem ke_set (P : List Nd) (m : Nat) (a : Addr) (n c q : Nat) (w : World) (ih : KeC P (some a) n c m) (hns : Ns w (some a) n c P) (hq : q < n) (hf : n - q ≤ m + 1) (x : Nd) (hx : P[q]? = some x) (h1 : x.op = 45) (h2 : x.n = 0) (h3 : x.s = emp) (h4 : x.t = emp) :
    Calls Tryd.prog 11 #[.slice (some a) n c, .int .i64 q] w fun e w' => e = .returned (.int .i64 (kEnd P q)) ∧ Below w.heap.size w w' := by
  have HE := Lib.hid (show kEnd P q = kEnd P (q + 1) by rw [kEnd_set hx h1, if_pos ⟨h2, h3, h4⟩])
  have hm := hns.max
  unfold maxLen at hm
  have IH := Lib.hid (fun w' hb => ih (q + 1) w' (hns.keep (w' := w') hb) (by omega))
  obtain ⟨a', ea, d0, d1, d2, d3⟩ := hns.at_ q x hx
  injection ea with ea
  subst ea
  have hl : (a.add (q * 4)).block < w.heap.size := block_lt_of_cell d0
  have HB := Lib.hid (below_box w (.cells #[.int .i64 45, .int .i64 0, .string ⟨#[]⟩, .string ⟨#[]⟩] 36))
  rw [h1] at d0
  rw [h2] at d1
  rw [show x.s = ⟨#[]⟩ from h3] at d2
  rw [show x.t = ⟨#[]⟩ from h4] at d3
  clear hns hx h1 h2 h3 h4 ih
  generalize kEnd P (q + 1) = r at *
  go_enter Tryd.func11, Tryd.ntmps11
  go_wp2_with fail
  refine (IH.out _ HB.out).mono ?_
  rintro e w1 ⟨rfl, b1⟩
  have B1 := Lib.hid (HB.out.trans (b1.mono (by simp)))
  clear b1
  go_wp2_with fail
  go_ret
  exact ⟨by rw [HE.out]; rfl, B1.out⟩
end Go.Proofs.YtmekockjgldndaaDoor
