/-
  Maps by uids, made by the call: what they hold, by the list of what was put.
-/
import Derived.DeepKeys4
import Derived.Maps.Own
import Derived.Maps.OwnOps
import Derived.Maps.OwnSet
import Derived.Maps.Views
import Derived.Test.YtbjbimabgfpdoaaGreatDoorRecMap
import Derived.Test.YtbjbimabgfpdoaaGreatDoorEntOne
namespace Go.Proofs.YtbjbimabgfpdoaaGreatDoor
open Go.RowKit Go.Wk Go.Maps
set_option maxRecDepth 100000

def udV (u : Ud) : Value := .agg #[.string u.1, .string u.2]
def UOk (u : Ud) : Prop := u.1.size ≤ maxLen ∧ u.2.size ≤ maxLen
def keyU (u : Ud) : Lit := .string (keyBytes [.string u.1.data.toList, .string u.2.data.toList])
theorem uidKeyed : Keyed Tryz.prog 30 :=
  Keyed.of_law (deep_law_laid laidOut (m := 4) (by decide) (of_decide_eq_true (by kernel_rfl)) (by kernel_rfl) (by kernel_rfl))
theorem keyLits_ud (D : Nat) (u : Ud) (h : UOk u) : Tryz.prog.keyLits (D + 2) 30 (udV u).cells.toList = some [.string u.1.data.toList, .string u.2.data.toList] := by
  obtain ⟨h1, h2⟩ := h
  simp [udV, Value.cells, Program.keyLits, Tryz.underlying30, Tryz.underlying9, cells_uid, cells_string, h1, h2]
theorem types_pos : 0 < Tryz.prog.types.size := of_decide_eq_true (by kernel_rfl)
theorem keyOf_ud (u : Ud) (h : UOk u) : keyOf Tryz.prog 30 (udV u) = some (keyU u) := by
  have hk : Tryz.prog.keyType 30 = true := by kernel_rfl
  have hf : (udV u).formed Tryz.prog 30 = true := by
    unfold udV Value.formed
    rw [Tryz.underlying30, cells_uid]; rfl
  obtain ⟨D, hD⟩ : ∃ D, Tryz.prog.types.size + 1 = D + 2 := ⟨Tryz.prog.types.size - 1, by have := types_pos; omega⟩
  unfold keyOf
  rw [Tryz.underlying30, hk, hf, hD, keyLits_ud D u h]
  rfl
theorem keyU_inj {u v : Ud} (hu : UOk u) (hv : UOk v) (h : keyU u = keyU v) : u = v := by
  have := uidKeyed.inj (keyOf_ud u hu) (h ▸ keyOf_ud v hv)
  unfold udV at this
  injection this with this
  have h1 := congrArg (fun a : Array Value => a.toList) this
  simp only [List.cons.injEq, Value.string.injEq, and_true] at h1
  exact Prod.ext h1.1 h1.2
theorem keyU_lit (u : Ud) : WideAt.IsKeyLit (keyU u) := trivial
/-- What was put, in its order. -/
def mapU (L : List (Ud × Value)) : DataW Value := L.foldl (fun D p => D.put (keyU p.1) (.held p.2)) (.map [])
theorem mapU_snoc (L : List (Ud × Value)) (p : Ud × Value) : mapU (L ++ [p]) = (mapU L).put (keyU p.1) (.held p.2) := by simp [mapU]
theorem isMap_mapU (L : List (Ud × Value)) : IsMap (mapU L) := by
  refine snoc_ind (C := fun L => IsMap (mapU L)) isMap_empty (fun L p ih => ?_) L
  rw [mapU_snoc]; exact ih.put _ _
/-- What was put last at a uid. -/
def lastU : List (Ud × Value) → Ud → Option Value
  | [], _ => none
  | x :: r, p => match lastU r p with
    | some v => some v
    | none => if x.1 = p then some x.2 else none
theorem lastU_snoc (L : List (Ud × Value)) (x : Ud × Value) (p : Ud) : lastU (L ++ [x]) p = if x.1 = p then some x.2 else lastU L p := by
  induction L with
  | nil => rfl
  | cons y r ih =>
    simp only [List.cons_append, lastU, ih]
    by_cases h : x.1 = p
    · rw [if_pos h, if_pos h]
    · rw [if_neg h, if_neg h]
theorem at_mapU (L : List (Ud × Value)) (p : Ud) (hp : UOk p) (z : Value) (hL : ∀ x ∈ L, UOk x.1) : (mapU L).atKey (keyU p) (.held z) = .held ((lastU L p).getD z) := by
  revert hL
  refine snoc_ind (C := fun L => (∀ x ∈ L, UOk x.1) → (mapU L).atKey (keyU p) (.held z) = .held ((lastU L p).getD z)) (fun _ => rfl) (fun L x ih hL => ?_) L
  rw [mapU_snoc, lastU_snoc]
  by_cases h : x.1 = p
  · subst h
    rw [if_pos rfl, atKey_put_same (isMap_mapU L) (keyU_lit _)]; rfl
  · rw [if_neg h, atKey_put_other (fun e => h (keyU_inj (hL x (by simp)) hp e.symm))]
    exact ih (fun y hy => hL y (by simp [hy]))
theorem lastU_none {L : List (Ud × Value)} {p : Ud} (h : ∀ x ∈ L, x.1 ≠ p) : lastU L p = none := by
  induction L with
  | nil => rfl
  | cons y r ih => simp only [lastU]; rw [ih (fun x hx => h x (by simp [hx]))]; exact if_neg (h y (by simp))
theorem lastU_some {L : List (Ud × Value)} (hn : (L.map (·.1)).Nodup) {x : Ud × Value} (hx : x ∈ L) : lastU L x.1 = some x.2 := by
  induction L with
  | nil => cases hx
  | cons y r ih =>
    rw [List.map_cons, List.nodup_cons] at hn
    simp only [lastU]
    rcases List.mem_cons.1 hx with rfl | hx
    · rw [lastU_none (fun z hz e => hn.1 (List.mem_map.2 ⟨z, hz, e⟩))]; exact if_pos rfl
    · rw [ih hn.2 hx]
theorem ownsMap_block {H : Type} {P : Program} {k : TypeId} {R : Value → Option (DataW H × List MemPlace)} {w w' : World} {b n : Nat} {D : DataW H} (h : w.ownsMap P k R b n D) (hb : w'.heap[b]? = w.heap[b]?) : w'.ownsMap P k R b n D :=
  let ⟨es, clock, h1, r⟩ := h
  ⟨es, clock, hb.trans h1, r⟩
/-- m[k], whatever stands there. -/
theorem wpList_lookup_at {P : Program} (w : World) {ops : Array Oper} {rest : List Oper} {o : Oper} {a : Act} {Q : Exit → Act → World → Prop}
    (hg : o.guard = none) (m x : Operand) (t : TypeId) (hop : o.op = Op.lookup t m x false)
    (k e : TypeId) (K : Keyed P k) (ht : P.underlying t = some (.map k e)) {z : Value} (hz : (zeroValue e).run P w = .ok z w) (b n : Nat) (D : DataW Value)
    (hm : a.eval m = .map (some b)) (hown : w.ownsMap P k heldR b n D) (key : Value) (kl : Lit) (hx : a.eval x = key) (hkey : keyOf P k key = some kl) (u : Value) (hu : D.atKey kl (.held z) = .held u)
    (hK : wpList P ops Q rest (a.put o.dst u) w) :
    wpList P ops Q (o :: rest) a w := by
  refine wpList_plain hg fun K' hK' => ?_
  obtain ⟨v, ps, hrun, hv⟩ := hown.lookup K ht hz (zd := .held z) (zp := []) rfl hkey
  have : v = u := by
    unfold heldR at hv
    rw [hu] at hv
    simp at hv
    exact hv.1
  subst this
  unfold Oper.wp
  simp [execOp, hop, hm, hx, hrun, Result.andThen]
  exact hK' _ _ hK
end Go.Proofs.YtbjbimabgfpdoaaGreatDoor
