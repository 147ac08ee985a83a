/-
  errors.As at the target '*api.Errno': the contracts of plain.Told, and of the statements' Error and Told: the number of an error.
  plain.Told, and the statements' Error and Told: the number of an error, nil's is 0.
  What the laws of schemas ask for first: a store with an entity of a kind that a schema has not.
  A request in a variable.
  ref AskFault: what is wrong with a request.
  slices.IndexFunc over acts; schema.Act (written by gen_schact.py).
  eval.Ask.
  schema.Asks.
  ent.In: is one another one, or above it.
  Entities in a row of the call's own: their cells.
-/
import Derived.LaidEql
import Derived.Stop.Asserts
import Derived.RowKitTokens
import Derived.Laws.AppendOwnNone
import Derived.Test.YtnolmlhcikcceaaGreatDoorQt29
namespace Go.Proofs.YtnolmlhcikcceaaGreatDoor
open Go.RowKit Go.Extern.Stop Go.Stop Go.Extern

/-! ### Closed facts on the model's entries for internal/reflectlite, at this program's types -/
theorem valueOfT (t : Addr) (w : World) : (ReflectliteValue.unpack (.iface 116 (.pointer (some t)))).run Tryz.prog w
    = .ok (.agg #[.pointer (some ⟨2, 116, none⟩), .pointer (some ⟨w.heap.size, 0, none⟩), .int .u64 150]) (w.alloc (.cells #[.pointer (some t)] 116)) := by kernel_rfl
theorem typeT (a : Addr) (w : World) : (ReflectliteValue.methodAny (ReflectliteValue.valueError "reflectlite.Value.Type" 0) (fun t _ _ _ => ReflectliteType.toType t) #[.agg #[.pointer (some ⟨2, 116, none⟩), .pointer (some a), .int .u64 150]]).run Tryz.prog w
    = .ok (.iface 241 (.agg #[.pointer (some ⟨2, 116, none⟩)])) w := by kernel_rfl
theorem methodKind (h : Value) (w : World) : (Go.method 485 241 (.agg #[h]) "Kind").run Tryz.prog w = .ok (236, h) w := by kernel_rfl
theorem kindT (w : World) : ((ReflectliteType.abiMethod fun t => (fun a : Nat => Value.int IntKind.u8 (a : Int)) <$> Rtype.kind t) #[.pointer (some ⟨2, 116, none⟩)]).run Tryz.prog w = .ok (.int .u8 22) w := by kernel_rfl
theorem kindE (w : World) : ((ReflectliteType.abiMethod fun t => (fun a : Nat => Value.int IntKind.u8 (a : Int)) <$> Rtype.kind t) #[.pointer (some ⟨2, 39, none⟩)]).run Tryz.prog w = .ok (.int .u8 2) w := by kernel_rfl
theorem rlm (z : Sem Value) (f : TypeId → Addr → Nat → Nat → Sem Value) (v : Value) :
    ReflectliteValue.method z f #[v] = (do match ← ReflectliteValue.parts v with | none => z | some (t, a, fl) => f t a fl (fl % 32)) := rfl
theorem partsT (a : Addr) (w : World) : (ReflectliteValue.parts (.agg #[.pointer (some ⟨2, 116, none⟩), .pointer (some a), .int .u64 150])).run Tryz.prog w = .ok (some (116, a, 150)) w := by kernel_rfl
theorem isNilT (a p : Addr) (W : World) (ha : W.cell? a = some (.pointer (some p))) :
    (ReflectliteValue.method (ReflectliteValue.valueError "reflectlite.Value.IsNil" 0) ReflectliteValue.isNil #[.agg #[.pointer (some ⟨2, 116, none⟩), .pointer (some a), .int .u64 150]]).run Tryz.prog W = .ok (.bool false) W := by
  rw [rlm]
  simp only [Sem.run_bind, partsT, Result.andThen]
  simp [ReflectliteValue.isNil, loadVar, isAgg, underlying, Tryz.underlying116, ha, Result.andThen]
theorem methodElem (h : Value) (w : World) : (Go.method 485 241 (.agg #[h]) "Elem").run Tryz.prog w = .ok (247, .agg #[h]) w := by kernel_rfl
theorem methodImplements (h : Value) (w : World) : (Go.method 485 241 (.agg #[h]) "Implements").run Tryz.prog w = .ok (248, .agg #[h]) w := by kernel_rfl
theorem methodAssignableTo (h : Value) (w : World) : (Go.method 485 241 (.agg #[h]) "AssignableTo").run Tryz.prog w = .ok (245, .agg #[h]) w := by kernel_rfl
theorem elemT (w : World) : (ReflectliteType.method ReflectliteType.elem #[.agg #[.pointer (some ⟨2, 116, none⟩)]]).run Tryz.prog w = .ok (.iface 241 (.agg #[.pointer (some ⟨2, 39, none⟩)])) w := by kernel_rfl
theorem implementsE (w : World) : (ReflectliteType.relation "Implements" ReflectliteType.implements_ #[.agg #[.pointer (some ⟨2, 39, none⟩)], .iface 241 (.agg #[.pointer (some ⟨2, 30, none⟩)])]).run Tryz.prog w = .ok (.bool true) w := by kernel_rfl
theorem typeOfE (v : Value) (w : World) : (ReflectliteType.typeOf #[.iface 39 v]).run Tryz.prog w = .ok (.iface 241 (.agg #[.pointer (some ⟨2, 39, none⟩)])) w := by kernel_rfl
theorem assignableE (w : World) : (ReflectliteType.relation "AssignableTo" ReflectliteType.assignableTo #[.agg #[.pointer (some ⟨2, 39, none⟩)], .iface 241 (.agg #[.pointer (some ⟨2, 39, none⟩)])]).run Tryz.prog w = .ok (.bool true) w := by kernel_rfl
theorem valueOfE (n : Int) (w : World) : (ReflectliteValue.unpack (.iface 39 (.int .i64 n))).run Tryz.prog w
    = .ok (.agg #[.pointer (some ⟨2, 39, none⟩), .pointer (some ⟨w.heap.size, 0, none⟩), .int .u64 130]) (w.alloc (.cells #[.int .i64 n] 39)) := by kernel_rfl
theorem elemOfT (w : World) : (Rtype.elem? 116).run Tryz.prog w = .ok (some 39) w := by kernel_rfl
theorem mkE (p : Addr) (w : World) : (ReflectliteValue.mk 39 p ReflectliteValue.flagAddr).run Tryz.prog w = .ok (.agg #[.pointer (some ⟨2, 39, none⟩), .pointer (some p), .int .u64 386]) w := by kernel_rfl
theorem elemVT (a p : Addr) (W : World) (ha : W.cell? a = some (.pointer (some p))) :
    (ReflectliteValue.method (ReflectliteValue.valueError "reflectlite.Value.Elem" 0) ReflectliteValue.elem #[.agg #[.pointer (some ⟨2, 116, none⟩), .pointer (some a), .int .u64 150]]).run Tryz.prog W
      = .ok (.agg #[.pointer (some ⟨2, 39, none⟩), .pointer (some p), .int .u64 386]) W := by
  rw [rlm]
  simp only [Sem.run_bind, partsT, Result.andThen]
  simp [ReflectliteValue.elem, loadVar, isAgg, underlying, Tryz.underlying116, ha, Result.andThen, elemOfT, mkE]
theorem rls (v x : Value) : ReflectliteValue.set #[v, x] = (do
    let (some (dst, a, fl), some (src, b, _)) := (← ReflectliteValue.parts v, ← ReflectliteValue.parts x)
      | unsupported (.noEntry "extern/(internal/reflectlite.Value).Set.zeroValue")
    if fl / ReflectliteValue.flagAddr % 2 == 0 then unsupported (.noEntry "extern/(internal/reflectlite.Value).Set.unaddressable")
    let val ← loadVar src b
    if ← Rtype.directlyAssignable dst src then storeVar dst a val
    else if ← Rtype.implements dst src then
      if (← Rtype.kind src) == 20 then
        match val with
        | .nilIface => unsupported (.noEntry "extern/reflectlite: a nil value of one interface type handed on as a value of another")
        | _ => storeVar dst a val
      else storeVar dst a (.iface src val)
    else panicString ("reflectlite.Set: value of type " ++ (← Rtype.spelt src) ++ " is not assignable to type " ++ (← Rtype.spelt dst))
    pure (.tuple #[])) := rfl
theorem partsEa (a : Addr) (w : World) : (ReflectliteValue.parts (.agg #[.pointer (some ⟨2, 39, none⟩), .pointer (some a), .int .u64 386])).run Tryz.prog w = .ok (some (39, a, 386)) w := by kernel_rfl
theorem partsE (a : Addr) (w : World) : (ReflectliteValue.parts (.agg #[.pointer (some ⟨2, 39, none⟩), .pointer (some a), .int .u64 130])).run Tryz.prog w = .ok (some (39, a, 130)) w := by kernel_rfl
theorem directE (w : World) : (Rtype.directlyAssignable 39 39).run Tryz.prog w = .ok true w := by kernel_rfl
theorem setE (ta b : Addr) (n : Int) (old : Value) (W : World) (hb : W.cell? b = some (.int .i64 n)) (ht : W.cell? ta = some old) (hf : W.frozen? ta = false) :
    (ReflectliteValue.set #[.agg #[.pointer (some ⟨2, 39, none⟩), .pointer (some ta), .int .u64 386], .agg #[.pointer (some ⟨2, 39, none⟩), .pointer (some b), .int .u64 130]]).run Tryz.prog W
      = .ok (.tuple #[]) (W.setCell ta (.int .i64 n)) := by
  rw [rls]
  simp only [Sem.run_bind, partsEa, partsE, Result.andThen]
  simp [ReflectliteValue.flagAddr, loadVar, isAgg, underlying, Tryz.underlying39, hb, Result.andThen, directE, storeVar, Value.cells, storeCells, Addr.add]
  rw [run_store Tryz.prog W ta _ _ (by rfl)]
  simp [ht, hf]

set_option maxHeartbeats 4000000 in
theorem as_hit (n : Int) (t : Addr) (old : Value) (w : World) (hg : w.cell? ⟨0, 0, none⟩ = some (.iface 241 (.agg #[.pointer (some ⟨2, 30, none⟩)]))) (ht0 : w.cell? t = some old) (hf0 : w.frozen? t = false) :
    Calls Tryz.prog 59 #[.iface 39 (.int .i64 n), .iface 116 (.pointer (some t))] w fun ev w' => ev = .returned (.bool true) ∧ w' = (((((w.alloc (.cells #[.pointer (some t)] 116)).alloc (.cells #[.pointer (some ⟨2, 116, none⟩), .pointer (some ⟨w.heap.size, 0, none⟩), .int .u64 150] 189)).alloc (.cells #[.pointer (some ⟨2, 116, none⟩), .pointer (some ⟨w.heap.size, 0, none⟩), .int .u64 150] 189)).alloc (.cells #[.int .i64 n] 39)).setCell t (.int .i64 n)) := by
  have h6 := @run_callFunc_extern Tryz.prog 115 _ (fun args => ReflectliteValue.unpack (args.getD 0 (.tuple #[]))) Tryz.func115 (by kernel_rfl) (by kernel_rfl) (by kernel_rfl) (by kernel_rfl)
  have h7 := @run_callFunc_extern Tryz.prog 116 _ (ReflectliteValue.methodAny (ReflectliteValue.valueError "reflectlite.Value.Type" 0) (fun t _ _ _ => ReflectliteType.toType t)) Tryz.func116 (by kernel_rfl) (by kernel_rfl) (by kernel_rfl) (by kernel_rfl)
  have h8 := @run_callFunc_extern Tryz.prog 117 _ (ReflectliteValue.method (ReflectliteValue.valueError "reflectlite.Value.IsNil" 0) ReflectliteValue.isNil) Tryz.func117 (by kernel_rfl) (by kernel_rfl) (by kernel_rfl) (by kernel_rfl)
  have h27 := @run_callFunc_extern Tryz.prog 236 _ (ReflectliteType.abiMethod fun t => do pure (.int .u8 (← Rtype.kind t))) Tryz.func236 (by kernel_rfl) (by kernel_rfl) (by kernel_rfl) (by kernel_rfl)
  have h37 := @run_callFunc_extern Tryz.prog 247 _ (ReflectliteType.method ReflectliteType.elem) Tryz.func247 (by kernel_rfl) (by kernel_rfl) (by kernel_rfl) (by kernel_rfl)
  have h38 := @run_callFunc_extern Tryz.prog 248 _ (ReflectliteType.relation "Implements" ReflectliteType.implements_) Tryz.func248 (by kernel_rfl) (by kernel_rfl) (by kernel_rfl) (by kernel_rfl)
  have h10 := @run_callFunc_extern Tryz.prog 151 _ (ReflectliteType.typeOf) Tryz.func151 (by kernel_rfl) (by kernel_rfl) (by kernel_rfl) (by kernel_rfl)
  have h35 := @run_callFunc_extern Tryz.prog 245 _ (ReflectliteType.relation "AssignableTo" ReflectliteType.assignableTo) Tryz.func245 (by kernel_rfl) (by kernel_rfl) (by kernel_rfl) (by kernel_rfl)
  have h11 := @run_callFunc_extern Tryz.prog 152 _ (ReflectliteValue.method (ReflectliteValue.valueError "reflectlite.Value.Elem" 0) ReflectliteValue.elem) Tryz.func152 (by kernel_rfl) (by kernel_rfl) (by kernel_rfl) (by kernel_rfl)
  have h12 := @run_callFunc_extern Tryz.prog 153 _ (ReflectliteValue.set) Tryz.func153 (by kernel_rfl) (by kernel_rfl) (by kernel_rfl) (by kernel_rfl)
  have tO := typeOfE
  have mA := methodAssignableTo
  have a25 := assignableE
  have v25 := valueOfE
  have f6 := valueOfT
  have f7 := typeT
  have mK := methodKind
  have mE := methodElem
  have mI := methodImplements
  have k27 := kindT
  have k25 := kindE
  have e27 := elemT
  have i25 := implementsE
  have n8 := isNilT ⟨w.heap.size, 0, none⟩ t ((w.alloc (.cells #[.pointer (some t)] 116)).alloc (.cells #[.pointer (some ⟨2, 116, none⟩), .pointer (some ⟨w.heap.size, 0, none⟩), .int .u64 150] 189)) (by simp)
  have hlt : 0 < w.heap.size := by
    rcases Nat.eq_zero_or_pos w.heap.size with h0 | h
    · simp [World.cell?, h0] at hg
    · exact h
  have hg2 : ((w.alloc (.cells #[.pointer (some t)] 116)).alloc (.cells #[.pointer (some ⟨2, 116, none⟩), .pointer (some ⟨w.heap.size, 0, none⟩), .int .u64 150] 189)).cell? ⟨0, 0, none⟩ = some (.iface 241 (.agg #[.pointer (some ⟨2, 30, none⟩)])) := by
    rw [World.cell?_alloc_lt _ _ ⟨0, 0, none⟩ (by simp), World.cell?_alloc_lt _ _ ⟨0, 0, none⟩ hlt]; exact hg
  have htl : t.block < w.heap.size := by
    rcases Nat.lt_or_ge t.block w.heap.size with h | h
    · exact h
    · simp [World.cell?, Array.getElem?_eq_none h] at ht0
  have el := elemVT ⟨w.heap.size, 0, none⟩ t (((w.alloc (.cells #[.pointer (some t)] 116)).alloc (.cells #[.pointer (some ⟨2, 116, none⟩), .pointer (some ⟨w.heap.size, 0, none⟩), .int .u64 150] 189)).alloc (.cells #[.pointer (some ⟨2, 116, none⟩), .pointer (some ⟨w.heap.size, 0, none⟩), .int .u64 150] 189)) (by rw [World.cell?_alloc_lt _ _ ⟨w.heap.size, 0, none⟩ (by simp; omega)]; simp)
  have st := setE t ⟨w.heap.size + 1 + 1 + 1, 0, none⟩ n old ((((w.alloc (.cells #[.pointer (some t)] 116)).alloc (.cells #[.pointer (some ⟨2, 116, none⟩), .pointer (some ⟨w.heap.size, 0, none⟩), .int .u64 150] 189)).alloc (.cells #[.pointer (some ⟨2, 116, none⟩), .pointer (some ⟨w.heap.size, 0, none⟩), .int .u64 150] 189)).alloc (.cells #[.int .i64 n] 39))
    (by rw [World.cell?_alloc_at _ _ _ _ (by simp)]; rfl)
    (by rw [World.cell?_alloc_lt _ _ t (by simp; omega), World.cell?_alloc_lt _ _ t (by simp; omega), World.cell?_alloc_lt _ _ t (by simp; omega), World.cell?_alloc_lt _ _ t htl]; exact ht0)
    (by rw [World.frozen?_alloc_old _ _ t (by simp; omega), World.frozen?_alloc_old _ _ t (by simp; omega), World.frozen?_alloc_old _ _ t (by simp; omega), World.frozen?_alloc_old _ _ t (Nat.ne_of_lt htl)]; exact hf0)
  go_enter Tryz.func59, Tryz.ntmps59
  go_wp2
  refine wp_loop_rounds 1 ?_
  rw [rounds_succ]
  go_wp2
  go_ret
  exact ⟨rfl, rfl⟩
end Go.Proofs.YtnolmlhcikcceaaGreatDoor
namespace Go.Proofs.YtnolmlhcikcceaaGreatDoor
open Go.RowKit

/-- The one package-level variable that errors.As reads, as the program's text lays it. -/
def Door (w : World) : Prop := w.cell? ⟨0, 0, none⟩ = some (.iface 241 (.agg #[.pointer (some ⟨2, 30, none⟩)]))
theorem Door.keep {w w' : World} (h : Door w) (hb : Below w.heap.size w w') : Door w' := cell_keep hb h
theorem Door.pos {w : World} (h : Door w) : 0 < w.heap.size := block_lt_of_cell h
theorem Door.alloc {w : World} (h : Door w) (o : Obj) : Door (w.alloc o) := h.keep ((Below.refl _ _).alloc (Nat.le_refl _) _)
theorem Door.drewN {w : World} (h : Door w) (n : Nat) : Door (w.drewN n) := h
theorem Door.drew {w : World} (h : Door w) : Door w.drew := h

theorem Told_nil (w : World) : Calls Tryz.prog 22 #[.nilIface] w fun e w' => e = .returned (.int .i64 0) ∧ Below w.heap.size w w' := by
  go_enter Tryz.func22, Tryz.ntmps22
  go_wp2
  go_ret
  exact ⟨rfl, Below.refl _ _⟩

set_option maxHeartbeats 1000000 in
theorem Told_err (n : Int) (w : World) (hg : Door w) : Calls Tryz.prog 22 #[.iface 39 (.int .i64 n)] w fun e w' => e = .returned (.int .i64 n) ∧ Below w.heap.size w w' := by
  have h1 := hg.alloc (.cells #[.int .i64 0] 39)
  have c1 := as_hit n ⟨w.heap.size, 0, none⟩ (.int .i64 0) (w.alloc (.cells #[.int .i64 0] 39)) h1 (by simp) (by simp)
  have C1 := Lib.hid c1
  clear c1 h1
  go_enter Tryz.func22, Tryz.ntmps22
  go_wp2_with (go_at_call 59; refine C1.out.mono ?_; rintro e w' ⟨rfl, rfl⟩)
  go_ret
  refine ⟨rfl, ?_⟩
  exact (by (repeat' (first | exact Below.refl _ _ | refine Below.alloc ?_ ?_ _ | refine Below.setCell ?_ ?_ _ | refine Below.drew ?_ | refine Below.drewN ?_ _)) <;> (try simp) <;> omega)

theorem plain_Told (n : Int) (w : World) (hg : Door w) : Calls Tryz.prog 22 #[errV n] w fun e w' => e = .returned (.int .i64 n) ∧ Below w.heap.size w w' := by
  by_cases h : n = 0
  · subst h; exact Told_nil w
  · rw [errV_ne h]; exact Told_err n w hg

theorem same_Error (n k : Int) (w : World) (hg : Door w) : Calls Tryz.prog 8 #[errV n, .int .i64 k] w fun e w' => e = .returned (.bool (n == k)) ∧ Below w.heap.size w w' := by
  have C1 := Lib.hid (plain_Told n w hg)
  go_enter Tryz.func8, Tryz.ntmps8
  go_wp2_with (go_at_call 22; refine C1.out.mono ?_; rintro e w' ⟨rfl, hb⟩)
  go_ret
  exact ⟨rfl, hb⟩

end Go.Proofs.YtnolmlhcikcceaaGreatDoor
namespace Go.Proofs.YtnolmlhcikcceaaGreatDoor
open Go.RowKit Go.Wk Go.Sort
set_option maxRecDepth 100000

def recN : List Nd := [⟨6, 0, ⟨#[]⟩, ⟨#[]⟩⟩]
/-- "A". -/
def aT : ByteArray := ⟨#[0x41]⟩
/-- The entity that the laws ask about first. -/
def lostE (b : Nat) : En := ⟨(aT, ⟨#[]⟩), none, 0, 0, [], some ⟨b, 0, none⟩, 1, 1, recN⟩
theorem lost_storeF (b : Nat) : storeF [lostE b] = 0 := by
  rw [storeF_zero]
  refine ⟨by simp, ?_, ?_⟩
  · unfold entsFault
    have h1 : uidFault (lostE b).u = 0 := by
      show uidFault (aT, ⟨#[]⟩) = 0
      decide
    have h2 : entF (lostE b) = 0 := by
      show entF ⟨(aT, ⟨#[]⟩), none, 0, 0, [], some ⟨b, 0, none⟩, 1, 1, recN⟩ = 0
      unfold entF
      have hv : valFault recN = 0 := by decide
      have ho : headOp recN = 6 := rfl
      simp only [List.length_nil, upsFault]
      rw [if_neg (by omega), if_pos trivial, if_pos hv, if_pos ho]
    rw [if_pos h1, if_neg (by unfold hadE; simp), if_pos h2]
    rfl
  · rintro ⟨y, hy, ha⟩
    simp only [List.mem_cons, List.not_mem_nil, or_false] at hy
    subst hy
    obtain ⟨p, ⟨e, he, e1, e2⟩, -⟩ := ha.split
    simp only [graphE, List.map_cons, List.map_nil, List.mem_cons, List.not_mem_nil, or_false] at he
    subst he
    exact absurd e2 (by simp [lostE])
theorem lost_stoF (b : Nat) : stoF [] [] [lostE b] = 3 := by
  unfold stoF
  have h1 : schF [] [] = 0 := by decide
  rw [h1, lost_storeF, or2_zero, or2_zero]
  rfl
def noSc : Sc := ⟨none, 0, 0, [], none, 0, 0, []⟩
theorem noSc_ok (w : World) : ScOk w noSc := ⟨⟨rfl, Nat.le_refl _, Nat.zero_le _, fun k x h => by simp [noSc] at h⟩, ⟨rfl, Nat.le_refl _, Nat.zero_le _, fun k x h => by simp [noSc] at h⟩⟩
/-- The world in which that is asked. -/
def lostW (w : World) : World := (w.alloc (.cells #[.int .i64 6, .int .i64 0, .string ⟨#[]⟩, .string ⟨#[]⟩] 35)).alloc (.cells #[.string aT, .string ⟨#[]⟩, .slice none 0 0, .slice (some ⟨w.heap.size, 0, none⟩) 1 1] 38)
theorem lost_below (w : World) : Below w.heap.size w (lostW w) :=
  (below_box w (.cells #[.int .i64 6, .int .i64 0, .string ⟨#[]⟩, .string ⟨#[]⟩] 35)).trans ((below_box (w.alloc (.cells #[.int .i64 6, .int .i64 0, .string ⟨#[]⟩, .string ⟨#[]⟩] 35)) _).mono (by simp))
theorem lost_es (w : World) : Es (lostW w) (some ⟨w.heap.size + 1, 0, none⟩) 1 1 [lostE w.heap.size] := by
  have hz : (w.alloc (.cells #[.int .i64 6, .int .i64 0, .string ⟨#[]⟩, .string ⟨#[]⟩] 35)).heap.size = w.heap.size + 1 := by simp
  have N := (kns_lit w ⟨6, 0, ⟨#[]⟩, ⟨#[]⟩⟩ (kop_ok 6)).keep (below_box _ (.cells #[.string aT, .string ⟨#[]⟩, .slice none 0 0, .slice (some ⟨w.heap.size, 0, none⟩) 1 1] 38))
  refine ⟨rfl, Nat.le_refl _, by unfold maxLen; omega, fun k x hx => ?_⟩
  match k, hx with
  | 0, hx =>
    simp only [List.getElem?_cons_zero, Option.some.injEq] at hx
    subst hx
    have V := vr4_new (w.alloc (.cells #[.int .i64 6, .int .i64 0, .string ⟨#[]⟩, .string ⟨#[]⟩] 35)) (lostE w.heap.size) 38
    rw [hz] at V
    exact ⟨_, rfl, V.c0, V.c1, V.c2, V.c3, ⟨(show aT.size ≤ maxLen by decide), (show (⟨#[]⟩ : ByteArray).size ≤ maxLen by decide), ⟨rfl, Nat.le_refl _, Nat.zero_le _, fun k x h => by simp [lostE] at h, fun x h => by simp [lostE] at h⟩, N⟩⟩
  | k + 1, hx => simp at hx
theorem law_lost (w : World) :
    Calls Tryz.prog 9 #[.agg #[.slice none 0 0, .slice none 0 0], .slice (some ⟨w.heap.size + 1, 0, none⟩) 1 1] (lostW w) fun e w' => e = .returned (errV 3) ∧ Below w.heap.size w w' := by
  have := schema_Store noSc _ 1 1 _ _ (noSc_ok _) (lost_es w)
  rw [show stoF noSc.k noSc.a [lostE w.heap.size] = 3 from lost_stoF _] at this
  exact this.mono fun e w' ⟨h1, h2⟩ => ⟨h1, (lost_below w).trans (h2.mono (lost_below w).size)⟩
/-- The same, in a world whose size is known. -/
theorem law_lostN (w : World) (N : Nat) (hz : w.heap.size = N) :
    Calls Tryz.prog 9 #[.agg #[.slice none 0 0, .slice none 0 0], .slice (some ⟨N + 1, 0, none⟩) 1 1] ((w.alloc (.cells #[.int .i64 6, .int .i64 0, .string ⟨#[]⟩, .string ⟨#[]⟩] 35)).alloc (.cells #[.string ⟨#[0x41]⟩, .string ⟨#[]⟩, .slice none 0 0, .slice (some ⟨N, 0, none⟩) 1 1] 38)) fun e w' => e = .returned (errV 3) ∧ Below w.heap.size w w' := by
  subst hz
  exact law_lost w
end Go.Proofs.YtnolmlhcikcceaaGreatDoor
namespace Go.Proofs.YtnolmlhcikcceaaGreatDoor
open Go.RowKit Go.Wk Go.Sort
set_option maxRecDepth 100000

/-- The seven cells of a request in a variable. -/
structure Vq (w : World) (b : Nat) (q : Rq) : Prop where
  c0 : w.cell? ⟨b, 0, none⟩ = some (.string q.who.1)
  c1 : w.cell? ⟨b, 1, none⟩ = some (.string q.who.2)
  c2 : w.cell? ⟨b, 2, none⟩ = some (.string q.act.1)
  c3 : w.cell? ⟨b, 3, none⟩ = some (.string q.act.2)
  c4 : w.cell? ⟨b, 4, none⟩ = some (.string q.what.1)
  c5 : w.cell? ⟨b, 5, none⟩ = some (.string q.what.2)
  c6 : w.cell? ⟨b, 6, none⟩ = some (.slice q.NA q.nn q.nc)
theorem Vq.keep {w w' : World} {b : Nat} {x : Rq} (h : Vq w b x) (hb : Below w.heap.size w w') : Vq w' b x := ⟨cell_keep hb h.c0, cell_keep hb h.c1, cell_keep hb h.c2, cell_keep hb h.c3, cell_keep hb h.c4, cell_keep hb h.c5, cell_keep hb h.c6⟩
theorem vq_new (w : World) (q : Rq) (t : TypeId) : Vq (w.alloc (.cells #[.string q.who.1, .string q.who.2, .string q.act.1, .string q.act.2, .string q.what.1, .string q.what.2, .slice q.NA q.nn q.nc] t)) w.heap.size q :=
  ⟨cell_row (heap_alloc_last w _) rfl, cell_row (heap_alloc_last w _) rfl, cell_row (heap_alloc_last w _) rfl, cell_row (heap_alloc_last w _) rfl, cell_row (heap_alloc_last w _) rfl, cell_row (heap_alloc_last w _) rfl, cell_row (heap_alloc_last w _) rfl⟩
/-- "Action". -/
def actionT : ByteArray := ⟨#[0x41, 0x63, 0x74, 0x69, 0x6f, 0x6e]⟩
theorem actionT_list : actionT.toList = [65, 99, 116, 105, 111, 110] := by kernel_rfl
end Go.Proofs.YtnolmlhcikcceaaGreatDoor
namespace Go.Proofs.YtnolmlhcikcceaaGreatDoor
open Go.RowKit Go.Wk Go.Sort
set_option maxRecDepth 100000

end Go.Proofs.YtnolmlhcikcceaaGreatDoor
namespace Go.Proofs.YtnolmlhcikcceaaGreatDoor
open Go.RowKit Go.Wk Go.Sort
set_option maxRecDepth 100000

set_option maxHeartbeats 1000000 in
theorem act_fn (x : An) (t : ByteArray) (b : Nat) (w : World) (hv : w.cell? ⟨b, 0, none⟩ = some (.string t)) :
    Calls Tryz.prog 85 #[.agg #[.string x.d.id, .slice x.WA x.wn x.wc, .slice x.TA x.tn x.tc, .slice x.NA x.nn x.nc], .pointer (some ⟨b, 0, none⟩)] w fun r w' => r = .returned (.bool (decide (x.d.id = t))) ∧ Below w.heap.size w w' := by
  have B0 := Lib.hid (below_box w (.cells #[.string x.d.id, .slice x.WA x.wn x.wc, .slice x.TA x.tn x.tc, .slice x.NA x.nn x.nc] 55))
  have c0 := cell_keep B0.out hv
  rw [dec_str]
  clear hv
  generalize x.d.id = y at *
  go_enter Tryz.func85, Tryz.ntmps85
  go_wp2_with fail
  go_ret
  exact ⟨rfl, B0.out⟩
set_option maxHeartbeats 2000000 in
theorem acts_IndexFunc (s : Sc) (t : ByteArray) (b : Nat) (w : World) (h : ScOk w s) (hv : w.cell? ⟨b, 0, none⟩ = some (.string t)) :
    Calls Tryz.prog 84 #[.slice s.AA s.an s.ac, .func (.func 85) #[] #[.pointer (some ⟨b, 0, none⟩)]] w (AoPost w s t) := by
  have eg : ∀ args w, (callFunc 85 args).run Tryz.prog w = .ok (.enter 85 args) w := enters_of Tryz.func85 (by kernel_rfl) rfl
  have K := Lib.hid (fun x w' hb => act_fn x t b w' (cell_keep (w' := w') hb hv))
  have HL := Lib.hid h.a.len
  have HM := h.a.max
  unfold maxLen at HM
  have HA := Lib.hid h.a
  clear h hv
  go_enter Tryz.func84, Tryz.ntmps84
  go_wp2_with fail
  go_loopw [5, 8] (fun _ i wr => ∃ k : Nat, k ≤ s.an ∧ i = .int .i64 k ∧ Hid (∀ y ∈ s.L.take k, y.d.id ≠ t) ∧ Hid (Below w.heap.size w wr)) (fun _ i _ => s.an - (intOf i).toNat)
  case atStart => exact ⟨0, Nat.zero_le _, rfl, Lib.hid (by intro y hy; simp at hy), Lib.hid (Below.refl _ _)⟩
  case round =>
    obtain ⟨k, hk, rfl, hN, hB⟩ := hrel
    by_cases hlt : k < s.an
    · have hkl : k < s.L.length := by rw [← HL.out]; exact hlt
      obtain ⟨a, ea, q0, q1, q2, q3, -⟩ := (HA.out.keep hB.out).at_ k _ (List.getElem?_eq_getElem hkl)
      rw [ea]
      have KX := Lib.hid (K.out s.L[k] wr hB.out)
      by_cases hs : s.L[k].d.id = t
      · have HP := Lib.hid (fun w' (hb : Below w.heap.size w w') => (⟨.inr ⟨k, hkl, by
          unfold actOf Sc.a
          rw [List.find?_map]
          rw [find_at_first (i := k) hkl (by simp [hs]) (fun y hy => by simpa using hN.out y hy)]
          rfl, rfl⟩, hb⟩ : AoPost w s t (.returned (.int .i64 k)) w'))
        rw [decide_eq_true hs] at KX
        generalize s.L[k] = x at *
        clear hN hs
        go_wp2_with (go_at_fn 85; refine KX.out.mono ?_; rintro e w1 ⟨rfl, b1⟩)
        have B1 := bh hB b1
        clear q0 q1 q2 q3 hB b1 KX
        go_wp2_with fail
        go_ret
        exact HP.out _ B1.out
      · have HN2 := Lib.hid (show ∀ y ∈ s.L.take (k + 1), y.d.id ≠ t from fun y hy => by
          rw [List.take_succ_eq_append_getElem hkl, List.mem_append] at hy
          rcases hy with hy | hy
          · exact hN.out y hy
          · simp only [List.mem_cons, List.not_mem_nil, or_false] at hy
            subst hy; exact hs)
        rw [decide_eq_false hs] at KX
        generalize s.L[k] = x at *
        clear hN hs
        go_wp2_with (go_at_fn 85; refine KX.out.mono ?_; rintro e w1 ⟨rfl, b1⟩)
        have B1 := bh hB b1
        clear q0 q1 q2 q3 hB b1 KX
        go_wp2_with fail
        go_roundw
        case rel => exact ⟨k + 1, hlt, by go_num, HN2, B1⟩
        case measure => simp [intOf]; omega
    · have HP := Lib.hid (show AoPost w s t (.returned (.int .i64 (-1))) wr from ⟨.inl ⟨by
        unfold actOf Sc.a
        rw [List.find?_eq_none]
        intro y hy
        obtain ⟨z, hz, rfl⟩ := List.mem_map.1 hy
        simpa using hN.out z (by rw [List.take_of_length_le (by rw [← HL.out]; omega)]; exact hz), rfl⟩, hB.out⟩)
      clear hN hB
      go_wp2_with fail
      go_ret
      exact HP.out
/-- What Act tells. -/
def AtPost (w : World) (s : Sc) (x : ByteArray) (e : Ending) (w' : World) : Prop :=
  ((actOf s.a x = none ∧ e = .returned (.tuple #[.agg #[.string ⟨#[]⟩, .slice none 0 0, .slice none 0 0, .slice none 0 0], .bool false])) ∨
    ∃ i, ∃ h : i < s.L.length, actOf s.a x = some s.L[i].d ∧ e = .returned (.tuple #[.agg #[.string s.L[i].d.id, .slice s.L[i].WA s.L[i].wn s.L[i].wc, .slice s.L[i].TA s.L[i].tn s.L[i].tc, .slice s.L[i].NA s.L[i].nn s.L[i].nc], .bool true])) ∧ Below w.heap.size w w'
set_option maxHeartbeats 2000000 in
theorem schema_Act (s : Sc) (t : ByteArray) (w : World) (h : ScOk w s) :
    Calls Tryz.prog 39 #[s.v, .string t] w (AtPost w s t) := by
  have V0 := Lib.hid (vs_new w s 25)
  have B0 := Lib.hid (below_box w (.cells #[.slice s.KA s.kn s.kc, .slice s.AA s.an s.ac] 25))
  have HV := Lib.hid (show s.v = .agg #[.slice s.KA s.kn s.kc, .slice s.AA s.an s.ac] from rfl)
  rw [HV.out]
  have HS := Lib.hid h
  have HM := h.a.max
  unfold maxLen at HM
  have HL := Lib.hid h.a.len
  clear h
  go_enter Tryz.func39, Tryz.ntmps39
  go_wp2_with fail
  have hsz : (w.alloc (.cells #[.slice s.KA s.kn s.kc, .slice s.AA s.an s.ac] 25)).heap.size = w.heap.size + 1 := by simp
  obtain ⟨w1, hw1⟩ : ∃ w1, w.alloc (.cells #[.slice s.KA s.kn s.kc, .slice s.AA s.an s.ac] 25) = w1 := ⟨_, rfl⟩
  rw [hw1] at V0 B0 hsz ⊢
  rw [← hsz]
  clear hw1
  have T2 := cell_new w1 #[.string t] 9 0 (v := .string t) rfl
  have B2 := Lib.hid (B0.out.trans ((below_box w1 (.cells #[.string t] 9)).mono B0.out.size))
  have V2 := Lib.hid (V0.out.keep (below_box w1 (.cells #[.string t] 9)))
  have hsz2 : (w1.alloc (.cells #[.string t] 9)).heap.size = w1.heap.size + 1 := by simp
  obtain ⟨w2, hw2⟩ : ∃ w2, w1.alloc (.cells #[.string t] 9) = w2 := ⟨_, rfl⟩
  rw [hw2] at V2 B2 T2 hsz2 ⊢
  rw [← hsz2]
  clear hw2 B0 V0
  have R3 := Lib.hid (bx4_new w2 (.string ⟨#[]⟩) (.slice none 0 0) (.slice none 0 0) (.slice none 0 0) 55)
  have BB := below_box w2 (.cells #[.string ⟨#[]⟩, .slice none 0 0, .slice none 0 0, .slice none 0 0] 55)
  have B3 := Lib.hid (B2.out.trans (BB.mono B2.out.size))
  have V3 := Lib.hid (V2.out.keep BB)
  have T3 := cell_keep BB T2
  have HW := Lib.hid B2.out.size
  have KI := Lib.hid (acts_IndexFunc s t _ _ (HS.out.keep B3.out) T3)
  clear BB B2 V2 T2 T3 hsz hsz2
  refine KI.out.mono ?_
  rintro e w4 ⟨hc, b4⟩
  have B4 := Lib.hid (B3.out.trans (b4.mono B3.out.size))
  have V4 := Lib.hid (V3.out.keep b4)
  have R4 := Lib.hid (R3.out.keep b4)
  clear b4 B3 V3 R3 KI
  obtain ⟨v0, v1⟩ := V4.out
  obtain ⟨d0, d1, d2, d3, z0, z1, z2, z3⟩ := R4.out
  rcases hc with ⟨hN, rfl⟩ | ⟨i, hi, hN, rfl⟩
  · have Y4 := R4.out.set (.string ⟨#[]⟩) (.slice none 0 0) (.slice none 0 0) (.slice none 0 0)
    obtain ⟨g0, g1, g2, g3, -, -, -, -⟩ := Y4
    go_wp2_with fail
    refine bodyPost_ret (v := .tuple #[.agg #[.string ⟨#[]⟩, .slice none 0 0, .slice none 0 0, .slice none 0 0], .bool false]) (by simp [results, Tryz.results39, go_sem, g0, g1, g2, g3]) rfl ⟨.inl ⟨hN, rfl⟩, ?_⟩
    exact below_set4 B4.out HW.out _ _ _ _
  · have hin : i < s.an := by rw [HL.out]; exact hi
    obtain ⟨a, ea, q0, q1, q2, q3, -⟩ := (HS.out.keep B4.out).a.at_ i _ (List.getElem?_eq_getElem hi)
    have BF : ∀ w', Below w.heap.size w w' → AtPost w s t (.returned (.tuple #[.agg #[.string s.L[i].d.id, .slice s.L[i].WA s.L[i].wn s.L[i].wc, .slice s.L[i].TA s.L[i].tn s.L[i].tc, .slice s.L[i].NA s.L[i].nn s.L[i].nc], .bool true])) w' := fun w' hb => ⟨.inr ⟨i, hi, hN, rfl⟩, hb⟩
    have f0 : decide ((i : Int) < 0) = false := decide_eq_false (by omega)
    rw [ea] at v1
    generalize s.L[i] = x at *
    have Y4 := R4.out.set (.string x.d.id) (.slice x.WA x.wn x.wc) (.slice x.TA x.tn x.tc) (.slice x.NA x.nn x.nc)
    obtain ⟨g0, g1, g2, g3, -, -, -, -⟩ := Y4
    go_wp2_with fail
    refine bodyPost_ret (v := .tuple #[.agg #[.string x.d.id, .slice x.WA x.wn x.wc, .slice x.TA x.tn x.tc, .slice x.NA x.nn x.nc], .bool true]) (by simp [results, Tryz.results39, go_sem, g0, g1, g2, g3]) rfl (BF _ ?_)
    exact below_set4 B4.out HW.out _ _ _ _
end Go.Proofs.YtnolmlhcikcceaaGreatDoor
namespace Go.Proofs.YtnolmlhcikcceaaGreatDoor
open Go.RowKit Go.Wk Go.Sort
set_option maxRecDepth 100000

theorem ask_idx0 (s1 t1 s2 t2 s3 t3 : ByteArray) (w : World) : (Instr.index 147 (.agg #[.string s1, .string t1, .string s2, .string t2, .string s3, .string t3]) (.int .i64 0)).run Tryz.prog w = .ok (.agg #[.string s1, .string t1]) w := by kernel_rfl
theorem ask_idx1 (s1 t1 s2 t2 s3 t3 : ByteArray) (w : World) : (Instr.index 147 (.agg #[.string s1, .string t1, .string s2, .string t2, .string s3, .string t3]) (.int .i64 1)).run Tryz.prog w = .ok (.agg #[.string s2, .string t2]) w := by kernel_rfl
theorem ask_idx2 (s1 t1 s2 t2 s3 t3 : ByteArray) (w : World) : (Instr.index 147 (.agg #[.string s1, .string t1, .string s2, .string t2, .string s3, .string t3]) (.int .i64 2)).run Tryz.prog w = .ok (.agg #[.string s3, .string t3]) w := by kernel_rfl
/-- What is left to ask behind k of the three. -/
def askR (r1 r2 r3 R : Int) (k : Nat) : Int := if k = 0 then or2 r1 (or2 r2 (or2 r3 R)) else if k = 1 then or2 r2 (or2 r3 R) else if k = 2 then or2 r3 R else R
set_option maxHeartbeats 4000000 in
theorem eval_Ask (q : Rq) (w : World) (h : RqOk w q) :
    Calls Tryz.prog 38 #[q.v] w fun e w' => e = .returned (errV (askF q.who q.act q.what q.P)) ∧ Below w.heap.size w w' := by
  obtain ⟨⟨s1, t1⟩, ⟨s2, t2⟩, ⟨s3, t3⟩, NA, nn, nc, P⟩ := q
  have V0 := Lib.hid (vq_new w ⟨(s1, t1), (s2, t2), (s3, t3), NA, nn, nc, P⟩ 48)
  have B0 := Lib.hid (below_box w (.cells #[.string s1, .string t1, .string s2, .string t2, .string s3, .string t3, .slice NA nn nc] 48))
  have C1 := Lib.hid (fun w => name_Write s1 t1 w h.w1 h.w2)
  have C2 := Lib.hid (fun w => name_Write s2 t2 w h.a1 h.a2)
  have C3 := Lib.hid (fun w => name_Write s3 t3 w h.t1 h.t2)
  have HN := Lib.hid h.ns
  have KV := Lib.hid (fun w' hb => val_Check_ns (h.ns.keep (w' := w') hb))
  dsimp only at HN KV
  have HR := Lib.hid (show askF (s1, t1) (s2, t2) (s3, t3) P = askR (uidFault (s1, t1)) (uidFault (s2, t2)) (uidFault (s3, t3)) (or2 (valFault P) (if headOp P = 6 then 0 else 2)) 0 from rfl)
  unfold Rq.v
  dsimp only
  generalize askF (s1, t1) (s2, t2) (s3, t3) P = F at *
  generalize uidFault (s1, t1) = r1 at *
  generalize uidFault (s2, t2) = r2 at *
  generalize uidFault (s3, t3) = r3 at *
  generalize wrtV (s1, t1) = u1 at *
  generalize wrtV (s2, t2) = u2 at *
  generalize wrtV (s3, t3) = u3 at *
  have hnx := h.ns.max
  have hnc := h.ns.cap
  unfold maxLen at hnx
  dsimp only at hnx hnc
  clear h
  go_enter Tryz.func38, Tryz.ntmps38
  go_wp2_with fail
  go_loopw [15] (fun i wr => ∃ k : Nat, i = .int .i64 k ∧ k ≤ 3 ∧ Hid (F = askR r1 r2 r3 (or2 (valFault P) (if headOp P = 6 then 0 else 2)) k) ∧ Hid (Below w.heap.size w wr) ∧ Hid (Vq wr w.heap.size ⟨(s1, t1), (s2, t2), (s3, t3), NA, nn, nc, P⟩)) (fun i _ => 3 - (intOf i).toNat)
  case atStart => exact ⟨0, rfl, by omega, HR, B0, V0⟩
  case round =>
    obtain ⟨k, rfl, hk, hF, hB, hV⟩ := hrel
    clear HR B0 V0
    have hcase : k = 0 ∨ k = 1 ∨ k = 2 ∨ k = 3 := by omega
    rcases hcase with rfl | rfl | rfl | rfl
    · have hix := ask_idx0 s1 t1 s2 t2 s3 t3
      have HF := Lib.hid (show F = or2 r1 (or2 r2 (or2 r3 (or2 (valFault P) (if headOp P = 6 then 0 else 2)))) from hF.out)
      have BB := Lib.hid (below_box wr (.cells #[.string s1, .string t1] 33))
      clear hF
      go_wp2_with fail
      refine (C1.out _).mono ?_
      rintro e w1 ⟨rfl, b1⟩
      have BW := Lib.hid (BB.out.trans (b1.mono BB.out.size))
      have B1 := Lib.hid (hB.out.trans (BW.out.mono hB.out.size))
      have V1 := Lib.hid (hV.out.keep BW.out)
      clear b1 BB BW hB hV
      by_cases g : r1 = 0
      · have HF2 := Lib.hid (show F = askR r1 r2 r3 (or2 (valFault P) (if headOp P = 6 then 0 else 2)) 1 by rw [HF.out, g, or2_zero]; rfl)
        rw [g, errV_zero]
        clear HF g
        go_wp2_with fail
        go_roundw
        case rel => exact ⟨1, by go_num, by omega, HF2, B1, V1⟩
        case measure => simp [intOf]
      · have HEV := Lib.hid (errV_ne g)
        have HE := Lib.hid (show F = r1 by rw [HF.out, or2_ne g])
        rw [HEV.out]
        clear g
        go_wp2_with fail
        go_ret
        exact ⟨by rw [HE.out, HEV.out]; rfl, B1.out⟩
    · have hix := ask_idx1 s1 t1 s2 t2 s3 t3
      have HF := Lib.hid (show F = or2 r2 (or2 r3 (or2 (valFault P) (if headOp P = 6 then 0 else 2))) from hF.out)
      have BB := Lib.hid (below_box wr (.cells #[.string s2, .string t2] 33))
      clear hF
      go_wp2_with fail
      refine (C2.out _).mono ?_
      rintro e w1 ⟨rfl, b1⟩
      have BW := Lib.hid (BB.out.trans (b1.mono BB.out.size))
      have B1 := Lib.hid (hB.out.trans (BW.out.mono hB.out.size))
      have V1 := Lib.hid (hV.out.keep BW.out)
      clear b1 BB BW hB hV
      by_cases g : r2 = 0
      · have HF2 := Lib.hid (show F = askR r1 r2 r3 (or2 (valFault P) (if headOp P = 6 then 0 else 2)) 2 by rw [HF.out, g, or2_zero]; rfl)
        rw [g, errV_zero]
        clear HF g
        go_wp2_with fail
        go_roundw
        case rel => exact ⟨2, by go_num, by omega, HF2, B1, V1⟩
        case measure => simp [intOf]
      · have HEV := Lib.hid (errV_ne g)
        have HE := Lib.hid (show F = r2 by rw [HF.out, or2_ne g])
        rw [HEV.out]
        clear g
        go_wp2_with fail
        go_ret
        exact ⟨by rw [HE.out, HEV.out]; rfl, B1.out⟩
    · have hix := ask_idx2 s1 t1 s2 t2 s3 t3
      have HF := Lib.hid (show F = or2 r3 (or2 (valFault P) (if headOp P = 6 then 0 else 2)) from hF.out)
      have BB := Lib.hid (below_box wr (.cells #[.string s3, .string t3] 33))
      clear hF
      go_wp2_with fail
      refine (C3.out _).mono ?_
      rintro e w1 ⟨rfl, b1⟩
      have BW := Lib.hid (BB.out.trans (b1.mono BB.out.size))
      have B1 := Lib.hid (hB.out.trans (BW.out.mono hB.out.size))
      have V1 := Lib.hid (hV.out.keep BW.out)
      clear b1 BB BW hB hV
      by_cases g : r3 = 0
      · have HF2 := Lib.hid (show F = askR r1 r2 r3 (or2 (valFault P) (if headOp P = 6 then 0 else 2)) 3 by rw [HF.out, g, or2_zero]; rfl)
        rw [g, errV_zero]
        clear HF g
        go_wp2_with fail
        go_roundw
        case rel => exact ⟨3, by go_num, by omega, HF2, B1, V1⟩
        case measure => simp [intOf]
      · have HEV := Lib.hid (errV_ne g)
        have HE := Lib.hid (show F = r3 by rw [HF.out, or2_ne g])
        rw [HEV.out]
        clear g
        go_wp2_with fail
        go_ret
        exact ⟨by rw [HE.out, HEV.out]; rfl, B1.out⟩
    · have HF := Lib.hid (show F = or2 (valFault P) (if headOp P = 6 then 0 else 2) from hF.out)
      obtain ⟨c0, c1, c2, c3, c4, c5, c6⟩ := hV.out
      dsimp only at c0 c1 c2 c3 c4 c5 c6
      clear hF
      go_wp2_with fail
      refine (KV.out _ hB.out).mono ?_
      rintro e w4 ⟨rfl, b4⟩
      have B4 := Lib.hid (hB.out.trans (b4.mono hB.out.size))
      have V4 := Lib.hid (hV.out.keep b4)
      clear b4 hB hV c0 c1 c2 c3 c4 c5 c6
      obtain ⟨c0, c1, c2, c3, c4, c5, c6⟩ := V4.out
      dsimp only at c0 c1 c2 c3 c4 c5 c6
      by_cases g4 : valFault P = 0
      · obtain ⟨a, rfl, hn1, d0, -⟩ := val_head (HN.out.keep B4.out) (isV_zero.1 g4).2.pos
        rw [g4, or2_zero] at HF
        rw [g4, errV_zero]
        by_cases g5 : headOp P = 6
        · rw [if_pos g5] at HF
          rw [g5] at d0
          clear g5 g4
          go_wp2_with fail
          go_ret
          exact ⟨by rw [HF.out]; rfl, B4.out⟩
        · rw [if_neg g5] at HF
          have f1 : (headOp P != 6) = true := by rw [bne_iff_ne]; exact g5
          generalize headOp P = o at *
          clear g5 g4
          go_wp2_with fail
          go_ret
          exact ⟨by rw [HF.out]; rfl, B4.out⟩
      · rw [or2_ne g4] at HF
        have HEV := Lib.hid (errV_ne g4)
        rw [HEV.out]
        generalize valFault P = r4 at *
        clear g4
        go_wp2_with fail
        go_ret
        exact ⟨by rw [HF.out, HEV.out]; rfl, B4.out⟩
end Go.Proofs.YtnolmlhcikcceaaGreatDoor
namespace Go.Proofs.YtnolmlhcikcceaaGreatDoor
open Go.RowKit Go.Wk Go.Sort
set_option maxRecDepth 100000

set_option maxHeartbeats 4000000 in
theorem schema_Asks (s : Sc) (q : Rq) (w : World) (h : ScOk w s) (hq : RqOk w q) :
    Calls Tryz.prog 14 #[s.v, q.v] w fun e w' => e = .returned (errV (asksF actionT s.k s.a q.who q.act q.what q.P)) ∧ Below w.heap.size w w' := by
  obtain ⟨⟨s1, t1⟩, ⟨s2, t2⟩, ⟨s3, t3⟩, NA, nn, nc, P⟩ := q
  have V0 := Lib.hid (vs_new w s 25)
  have B0 := Lib.hid (below_box w (.cells #[.slice s.KA s.kn s.kc, .slice s.AA s.an s.ac] 25))
  have HV := Lib.hid (show s.v = .agg #[.slice s.KA s.kn s.kc, .slice s.AA s.an s.ac] from rfl)
  have C1 := Lib.hid (fun w' (hb : Below w.heap.size w w') => schema_Check s w' (h.keep hb))
  have C2 := Lib.hid (fun w' (hb : Below w.heap.size w w') => eval_Ask _ w' (hq.keep hb))
  have C3 := Lib.hid (fun w' (hb : Below w.heap.size w w') => schema_Act s t2 w' (h.keep hb))
  have CK := Lib.hid (fun i (hi : i < s.L.length) w' (hb : Below w.heap.size w w') => (let ⟨_, _, _, _, _, _, h⟩ := (h.keep hb).a.at_ i _ (List.getElem?_eq_getElem hi); h : AnOk w' s.L[i]))
  have HN := Lib.hid hq.ns
  dsimp only at C2 HN
  unfold Rq.v at C2 ⊢
  dsimp only at C2 ⊢
  have W0 := Lib.hid (vq_new (w.alloc (.cells #[.slice s.KA s.kn s.kc, .slice s.AA s.an s.ac] 25)) ⟨(s1, t1), (s2, t2), (s3, t3), NA, nn, nc, P⟩ 48)
  have B1 := Lib.hid (B0.out.trans ((below_box (w.alloc (.cells #[.slice s.KA s.kn s.kc, .slice s.AA s.an s.ac] 25)) (.cells #[.string s1, .string t1, .string s2, .string t2, .string s3, .string t3, .slice NA nn nc] 48)).mono (by simp)))
  have V1 := Lib.hid (V0.out.keep (below_box (w.alloc (.cells #[.slice s.KA s.kn s.kc, .slice s.AA s.an s.ac] 25)) (.cells #[.string s1, .string t1, .string s2, .string t2, .string s3, .string t3, .slice NA nn nc] 48)))
  dsimp only at W0
  rw [HV.out] at C1 C3 ⊢
  have HR := Lib.hid (show asksF actionT s.k s.a (s1, t1) (s2, t2) (s3, t3) P = or2 (schF s.k s.a) (or2 (askF (s1, t1) (s2, t2) (s3, t3) P) (fitA actionT s.a (s1, t1) (s2, t2) (s3, t3) P)) from rfl)
  generalize asksF actionT s.k s.a (s1, t1) (s2, t2) (s3, t3) P = F at *
  clear h hq V0 B0
  go_enter Tryz.func14, Tryz.ntmps14
  go_wp2_with fail
  refine (C1.out _ B1.out).mono ?_
  rintro e w1 ⟨rfl, b1⟩
  have hsz : (w.alloc (.cells #[.slice s.KA s.kn s.kc, .slice s.AA s.an s.ac] 25)).heap.size = w.heap.size + 1 := by simp
  have W0' := W0.out
  rw [hsz] at W0'
  have V2 := Lib.hid (V1.out.keep b1)
  have W2 := Lib.hid (W0'.keep b1)
  have B2 := Lib.hid (B1.out.trans (b1.mono B1.out.size))
  clear b1 B1 V1 W0 W0' hsz
  by_cases g1 : schF s.k s.a = 0
  · rw [g1, or2_zero] at HR
    rw [g1, errV_zero]
    have HKA := Lib.hid (fun i (hi : i < s.L.length) => recF_zero (adsF_all _ _ (schF_zero.1 g1).2.2.2 _ (List.mem_map.2 ⟨s.L[i], List.getElem_mem hi, rfl⟩)))
    clear g1
    obtain ⟨c0, c1, c2, c3, c4, c5, c6⟩ := W2.out
    dsimp only at c0 c1 c2 c3 c4 c5 c6
    go_wp2_with fail
    refine (C2.out _ B2.out).mono ?_
    rintro e w2 ⟨rfl, b2⟩
    have V3 := Lib.hid (V2.out.keep b2)
    have W3 := Lib.hid (W2.out.keep b2)
    have B3 := Lib.hid (B2.out.trans (b2.mono B2.out.size))
    clear b2 B2 V2 W2 c0 c1 c2 c3 c4 c5 c6
    by_cases g2 : askF (s1, t1) (s2, t2) (s3, t3) P = 0
    · rw [g2, or2_zero] at HR
      rw [g2, errV_zero]
      have HV0 : Hid (valFault P = 0) := Lib.hid (by unfold askF at g2; simp only [or2_zero_iff] at g2; exact g2.2.2.2.1)
      clear g2
      obtain ⟨c0, c1, c2, c3, c4, c5, c6⟩ := W3.out
      dsimp only at c0 c1 c2 c3 c4 c5 c6
      have v0 := V3.out.c0
      have v1 := V3.out.c1
      go_wp2_with fail
      refine (C3.out _ B3.out).mono ?_
      rintro e w3 ⟨hc, b3⟩
      have W4 := Lib.hid (W3.out.keep b3)
      have B4 := Lib.hid (B3.out.trans (b3.mono B3.out.size))
      clear b3 B3 V3 W3 c0 c1 c2 c3 c4 c5 c6 v0 v1 C1 C2 C3
      obtain ⟨c0, c1, c2, c3, c4, c5, c6⟩ := W4.out
      dsimp only at c0 c1 c2 c3 c4 c5 c6
      rcases hc with ⟨ha, rfl⟩ | ⟨i, hi, ha, rfl⟩
      · have HE := Lib.hid (show F = 3 by rw [HR.out]; unfold fitA; dsimp only; rw [ha])
        clear HR
        go_wp2_with fail
        go_ret
        exact ⟨by rw [HE.out]; rfl, B4.out.trans ((below_box _ _).mono B4.out.size)⟩
      · by_cases hT : s2 = actionT
        · subst hT
          have f3 : (actionT.toList == [65, 99, 116, 105, 111, 110]) = true := beq_iff_eq.2 actionT_list
          obtain ⟨f, hk⟩ := HKA.out i hi
          have HR2 := Lib.hid (show F = if hadB s.L[i].d.who s1 && hadB s.L[i].d.what s3 && kHasB s.L[i].d.P P then 0 else 2 by
            rw [HR.out]; unfold fitA; dsimp only; rw [ha]; dsimp only; rw [if_pos rfl]; rfl)
          have hok := CK.out i hi
          clear HR ha HKA CK
          generalize s.L[i] = x at *
          have BB := Lib.hid (below_box w3 (.cells #[.string x.d.id, .slice x.WA x.wn x.wc, .slice x.TA x.tn x.tc, .slice x.NA x.nn x.nc] 55))
          have X5 := Lib.hid (va_new w3 x 55)
          have W5 := Lib.hid (W4.out.keep BB.out)
          have B5 := Lib.hid (B4.out.trans (BB.out.mono B4.out.size))
          clear c0 c1 c2 c3 c4 c5 c6
          obtain ⟨c0, c1, c2, c3, c4, c5, c6⟩ := W5.out
          dsimp only at c0 c1 c2 c3 c4 c5 c6
          obtain ⟨x0, x1, x2, x3⟩ := X5.out
          have e0 : kHasE x.d.P P = 0 := by unfold kHasE; rw [if_pos hk.zero]; exact HV0.out
          clear hk
          go_wp2_with fail
          refine (strs_Contains _ _ _ _ s1 _ (hok _ B5.out).ws).mono ?_
          rintro e w5 ⟨rfl, b5⟩
          have W6 := Lib.hid (W5.out.keep b5)
          have X6 := Lib.hid (X5.out.keep b5)
          have B6 := Lib.hid (B5.out.trans (b5.mono B5.out.size))
          clear b5 W5 X5 B5 BB W4 B4 c0 c1 c2 c3 c4 c5 c6 x0 x1 x2 x3
          obtain ⟨c0, c1, c2, c3, c4, c5, c6⟩ := W6.out
          dsimp only at c0 c1 c2 c3 c4 c5 c6
          obtain ⟨x0, x1, x2, x3⟩ := X6.out
          generalize hadB x.d.who s1 = g1 at *
          cases g1
          · go_wp2_with fail
            go_ret
            exact ⟨by rw [HR2.out]; rfl, B6.out⟩
          · go_wp2_with fail
            refine (strs_Contains _ _ _ _ s3 _ (hok _ B6.out).ts).mono ?_
            rintro e w6 ⟨rfl, b6⟩
            have W7 := Lib.hid (W6.out.keep b6)
            have X7 := Lib.hid (X6.out.keep b6)
            have B7 := Lib.hid (B6.out.trans (b6.mono B6.out.size))
            clear b6 W6 X6 B6 c0 c1 c2 c3 c4 c5 c6 x0 x1 x2 x3
            obtain ⟨c0, c1, c2, c3, c4, c5, c6⟩ := W7.out
            dsimp only at c0 c1 c2 c3 c4 c5 c6
            obtain ⟨x0, x1, x2, x3⟩ := X7.out
            generalize hadB x.d.what s3 = g2 at *
            cases g2
            · go_wp2_with fail
              go_ret
              exact ⟨by rw [HR2.out]; rfl, B7.out⟩
            · go_wp2_with fail
              refine ((hok _ B7.out).ns.kinds_Has (HN.out.keep B7.out)).mono ?_
              rintro e w7 ⟨rfl, b7⟩
              have B8 := Lib.hid (B7.out.trans (b7.mono B7.out.size))
              clear b7 W7 X7 B7 c0 c1 c2 c3 c4 c5 c6 x0 x1 x2 x3
              rw [e0, errV_zero]
              generalize kHasB x.d.P P = g3 at *
              cases g3
              · go_wp2_with fail
                go_ret
                exact ⟨by rw [HR2.out]; rfl, B8.out⟩
              · go_wp2_with fail
                go_ret
                exact ⟨by rw [HR2.out]; rfl, B8.out⟩
        · have HE := Lib.hid (show F = 3 by rw [HR.out]; unfold fitA; dsimp only; rw [ha]; dsimp only; rw [if_neg hT])
          have f1 : (s2.toList == [65, 99, 116, 105, 111, 110]) = false := beq_eq_false_iff_ne.2 (fun q => hT (toList_inj (q.trans actionT_list.symm)))
          clear HR
          generalize s.L[i] = x at *
          have W5 := Lib.hid (W4.out.keep (below_box w3 (.cells #[.string x.d.id, .slice x.WA x.wn x.wc, .slice x.TA x.tn x.tc, .slice x.NA x.nn x.nc] 55)))
          clear c0 c1 c2 c3 c4 c5 c6
          obtain ⟨c0, c1, c2, c3, c4, c5, c6⟩ := W5.out
          dsimp only at c0 c1 c2 c3 c4 c5 c6
          go_wp2_with fail
          go_ret
          exact ⟨by rw [HE.out]; rfl, B4.out.trans ((below_box _ _).mono B4.out.size)⟩
    · rw [or2_ne g2] at HR
      have HEV := Lib.hid (errV_ne g2)
      rw [HEV.out]
      generalize askF (s1, t1) (s2, t2) (s3, t3) P = r at *
      clear g2
      go_wp2_with fail
      go_ret
      exact ⟨by rw [HR.out, HEV.out]; rfl, B3.out⟩
  · rw [or2_ne g1] at HR
    have HEV := Lib.hid (errV_ne g1)
    rw [HEV.out]
    generalize schF s.k s.a = r at *
    clear g1
    go_wp2_with fail
    go_ret
    exact ⟨by rw [HR.out, HEV.out]; rfl, B2.out⟩
end Go.Proofs.YtnolmlhcikcceaaGreatDoor
namespace Go.Proofs.YtnolmlhcikcceaaGreatDoor
open Go.RowKit Go.Wk Go.Maps
set_option maxRecDepth 100000

open Classical in
theorem Vr2.but {w w' : World} {b : Nat} {x y : Value} {g : Option Nat} (h : Vr2 w b x y) (hg : w.grownBy w' g) (hn : some b ≠ g) : Vr2 w' b x y :=
  have hl := block_lt_of_cell h.c0
  have hb := hg.block b hl hn
  ⟨(World.cell?_of_block (a := ⟨b, 0, none⟩) hb).trans h.c0, (World.cell?_of_block (a := ⟨b, 1, none⟩) hb).trans h.c1, (World.frozen?_of_block (a := ⟨b, 0, none⟩) hb).trans h.z0, (World.frozen?_of_block (a := ⟨b, 1, none⟩) hb).trans h.z1⟩
end Go.Proofs.YtnolmlhcikcceaaGreatDoor
namespace Go.Proofs.YtnolmlhcikcceaaGreatDoor
open Go.RowKit Go.Wk
set_option maxRecDepth 100000

def enCells : List En → List Value
  | [] => []
  | x :: E => .string x.u.1 :: .string x.u.2 :: .slice x.UA x.un x.uc :: .slice x.NA x.nn x.nc :: enCells E
@[simp] theorem enCells_length (E : List En) : (enCells E).length = E.length * 4 := by
  induction E with
  | nil => rfl
  | cons x E ih => simp only [enCells, List.length_cons, ih]; omega
theorem enCells_append (U V : List En) : enCells (U ++ V) = enCells U ++ enCells V := by
  induction U with
  | nil => rfl
  | cons u U ih => simp only [List.cons_append, enCells, ih]
theorem enCells_at : ∀ (E : List En) (k : Nat) (x : En), E[k]? = some x → (enCells E)[k * 4]? = some (.string x.u.1) ∧ (enCells E)[k * 4 + 1]? = some (.string x.u.2) ∧ (enCells E)[k * 4 + 2]? = some (.slice x.UA x.un x.uc) ∧ (enCells E)[k * 4 + 3]? = some (.slice x.NA x.nn x.nc)
  | [], k, x, h => by simp at h
  | y :: E, 0, x, h => by
    simp at h; subst h; exact ⟨rfl, rfl, rfl, rfl⟩
  | y :: E, k + 1, x, h => by
    have := enCells_at E k x (by simpa using h)
    rw [show (k + 1) * 4 = k * 4 + 1 + 1 + 1 + 1 by omega]
    simpa [enCells] using this
theorem nx_add (a : Addr) (x d : Nat) (hd : 0 < d) : (⟨(a.add x).block, (a.add x).off + d, none⟩ : Addr) = a.add (x + d) := by
  unfold Addr.add
  by_cases hx : x = 0
  · subst hx; simp; omega
  · simp [hx, Nat.add_assoc]
theorem EnsAt.cells {w : World} {a : Addr} {E : List En} (h : EnsAt w (some a) E) : ∀ j u, (enCells E)[j]? = some u → w.cell? (a.add j) = some u := by
  intro j u hu
  have hl := enCells_length E
  have hj : j < (enCells E).length := (List.getElem?_eq_some_iff.1 hu).1
  have hk : j / 4 < E.length := by omega
  obtain ⟨h1, h2, h3, h4⟩ := enCells_at E (j / 4) E[j / 4] (List.getElem?_eq_getElem hk)
  obtain ⟨b, e, q1, q2, q3, q4, -⟩ := h (j / 4) E[j / 4] (List.getElem?_eq_getElem hk)
  injection e with e
  subst e
  have hr : j % 4 = 0 ∨ j % 4 = 1 ∨ j % 4 = 2 ∨ j % 4 = 3 := by omega
  rcases hr with hr | hr | hr | hr
  · have e : j = j / 4 * 4 := by omega
    rw [← e] at h1 q1
    rw [hu] at h1; rw [h1]; exact q1
  · have e : j = j / 4 * 4 + 1 := by omega
    rw [nx_add _ _ _ (by omega), ← e] at q2
    rw [← e] at h2
    rw [hu] at h2; rw [h2]; exact q2
  · have e : j = j / 4 * 4 + 2 := by omega
    rw [nx_add _ _ _ (by omega), ← e] at q3
    rw [← e] at h3
    rw [hu] at h3; rw [h3]; exact q3
  · have e : j = j / 4 * 4 + 3 := by omega
    rw [nx_add _ _ _ (by omega), ← e] at q4
    rw [← e] at h4
    rw [hu] at h4; rw [h4]; exact q4
end Go.Proofs.YtnolmlhcikcceaaGreatDoor
