/-
  Plain: nodes, their order, the end of a value. No program in sight.
-/
import Derived.Test.YtocchkmhnneiiaaTextLaw
import Derived.Test.YtocchkmhnneiiaaNameLaw
namespace Go.Wk

structure Nd where
  op : Int
  n : Int
  s : ByteArray
  t : ByteArray
theorem Nd.ext4 {x y : Nd} (h1 : x.op = y.op) (h2 : x.n = y.n) (h3 : x.s = y.s) (h4 : x.t = y.t) : x = y := by
  cases x; cases y; simp_all

def or4 (x y z u : Int) : Int := or2 x (or2 y (or2 z u))
def cmpNd (x y : Nd) : Int := or4 (cmpI x.op y.op) (cmpI x.n y.n) (cmpB x.s y.s) (cmpB x.t y.t)
theorem cmpNd_cmp : Cmp cmpNd :=
  (cmpI_cmp.pair (cmpI_cmp.pair (cmpB_cmp.pair cmpB_cmp))).on (fun x : Nd => (x.op, x.n, x.s, x.t)) (fun a b h => by
    simp only [Prod.mk.injEq] at h
    exact Nd.ext4 h.1 h.2.1 h.2.2.1 h.2.2.2)
def cmpNds : List Nd → List Nd → Int := cmpList cmpNd
theorem cmpNds_cmp : Cmp cmpNds := cmpNd_cmp.list

def noB (s : ByteArray) : Bool := decide (s.size = 0)
def shapedN (x : Nd) : Bool :=
  if x.op = 1 then (decide (x.n = 0) || decide (x.n = 1)) && noB x.s && noB x.t
  else if x.op = 2 then noB x.s && noB x.t
  else if x.op = 3 then decide (x.n = 0) && noB x.t && decide (textFault x.s = 0)
  else if x.op = 4 then decide (x.n = 0) && decide (nameFault x.s = 0) && decide (textFault x.t = 0)
  else if x.op = 5 ∨ x.op = 6 then decide (0 ≤ x.n) && noB x.s && noB x.t
  else if x.op = 7 then decide (x.n = 0) && noB x.t && decide (nameFault x.s = 0)
  else false

/-- The nodes from one place up to another one. -/
def seg (v : List Nd) (i j : Nat) : List Nd := (v.drop i).take (j - i)
theorem seg_length {v : List Nd} {i j : Nat} (h : j ≤ v.length) : (seg v i j).length = j - i := by
  simp [seg]; omega

/-- Is the part from one place up to another one ahead of that behind it? -/
def rises (v : List Nd) (last : Option Nat) (p e : Nat) : Bool :=
  match last with
  | none => true
  | some l => decide (cmpNds (seg v l p) (seg v p e) < 0)
def setLoop (v : List Nd) (f : Nat → Option Nat) : Nat → Option Nat → Nat → Option Nat
  | 0, _, p => some p
  | k + 1, last, p =>
    match f p with
    | none => none
    | some e => if rises v last p e then setLoop v f k (some p) e else none
/-- May this be the next field? -/
def fieldOk (v : List Nd) (last : ByteArray) (p : Nat) : Option ByteArray :=
  match v[p]? with
  | none => none
  | some x => if decide (x.op = 7) && shapedN x && decide (cmpB last x.s < 0) then some x.s else none
def recLoop (v : List Nd) (f : Nat → Option Nat) : Nat → ByteArray → Nat → Option Nat
  | 0, _, p => some p
  | k + 1, last, p =>
    match fieldOk v last p with
    | none => none
    | some s =>
      match f (p + 1) with
      | none => none
      | some e => recLoop v f k s e
def partEnd (v : List Nd) : Nat → Nat → Option Nat
  | 0, _ => none
  | m + 1, p =>
    match v[p]? with
    | none => none
    | some x =>
      if shapedN x then
        if x.op = 5 then setLoop v (partEnd v m) x.n.toNat none (p + 1)
        else if x.op = 6 then recLoop v (partEnd v m) x.n.toNat .empty (p + 1)
        else if x.op = 7 then none
        else some (p + 1)
      else none
/-- The error of nodes as a value. -/
def valFault (v : List Nd) : Int :=
  if 200 < v.length then 4 else if partEnd v (v.length + 1) 0 = some v.length then 0 else 1

theorem setLoop_le {v : List Nd} {f : Nat → Option Nat} (hf : ∀ p e, f p = some e → p < e ∧ e ≤ v.length) :
    ∀ k last p e, p ≤ v.length → setLoop v f k last p = some e → p ≤ e ∧ e ≤ v.length := by
  intro k
  induction k with
  | zero => intro last p e hp h; simp only [setLoop, Option.some.injEq] at h; omega
  | succ k ih =>
    intro last p e hp h
    simp only [setLoop] at h
    split at h
    · cases h
    · rename_i q hq
      have := hf p q hq
      split at h
      · have := ih _ _ _ (by omega) h; omega
      · cases h
theorem recLoop_le {v : List Nd} {f : Nat → Option Nat} (hf : ∀ p e, f p = some e → p < e ∧ e ≤ v.length) :
    ∀ k last p e, p ≤ v.length → recLoop v f k last p = some e → p ≤ e ∧ e ≤ v.length := by
  intro k
  induction k with
  | zero => intro last p e hp h; simp only [recLoop, Option.some.injEq] at h; omega
  | succ k ih =>
    intro last p e hp h
    simp only [recLoop] at h
    split at h
    · cases h
    · split at h
      · cases h
      · rename_i q hq
        have := hf _ q hq
        have := ih _ _ _ (by omega) h; omega
theorem partEnd_le {v : List Nd} : ∀ m p e, partEnd v m p = some e → p < e ∧ e ≤ v.length := by
  intro m
  induction m with
  | zero => intro p e h; cases h
  | succ m ih =>
    intro p e h
    simp only [partEnd] at h
    split at h
    · cases h
    · rename_i x hx
      have hp : p < v.length := (List.getElem?_eq_some_iff.1 hx).1
      split at h
      · split at h
        · have := setLoop_le ih _ _ _ _ (by omega) h; omega
        · split at h
          · have := recLoop_le ih _ _ _ _ (by omega) h; omega
          · split at h
            · cases h
            · simp only [Option.some.injEq] at h; omega
      · cases h
end Go.Wk
