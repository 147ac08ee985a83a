/-
  Plain: three-way comparisons, of numbers, texts, pairs and lists. No program in sight.
  Plain: names and texts, byte by byte. No program in sight.
  Plain: nodes, their order, the end of a value. No program in sight.
  Plain: types, which are below which, and the least above two. No program in sight.
  Plain: types as nodes, there and back. No program in sight.
  Plain: expressions as trees, and as nodes; where one ends. No program in sight.
  Plain: where the parts of an expression stand; going over a part. No program in sight.
-/
import Derived.Lib.Bytealg
namespace Go.Wk

/-- A three-way comparison of a linear order. -/
structure Cmp {α : Type} (f : α → α → Int) : Prop where
  rng : ∀ a b, f a b = -1 ∨ f a b = 0 ∨ f a b = 1
  anti : ∀ a b, f b a = - f a b
  zero : ∀ a b, f a b = 0 ↔ a = b
  trans : ∀ a b c, f a b ≤ 0 → f b c ≤ 0 → f a c ≤ 0

theorem Cmp.self {α : Type} {f : α → α → Int} (h : Cmp f) (a : α) : f a a = 0 := (h.zero a a).2 rfl
theorem Cmp.lt_le {α : Type} {f : α → α → Int} (h : Cmp f) {a b c : α} (h1 : f a b < 0) (h2 : f b c ≤ 0) : f a c < 0 := by
  have h3 := h.trans a b c (by omega) h2
  rcases Int.lt_or_eq_of_le h3 with h4 | h4
  · exact h4
  · have e := (h.zero a c).1 h4
    subst e
    have := h.anti b a
    omega
theorem Cmp.on {α β : Type} {f : α → α → Int} (h : Cmp f) (g : β → α) (hg : ∀ a b, g a = g b → a = b) : Cmp (fun a b => f (g a) (g b)) :=
  ⟨fun a b => h.rng _ _, fun a b => h.anti _ _, fun a b => (h.zero _ _).trans ⟨hg a b, fun e => by rw [e]⟩, fun a b c => h.trans _ _ _⟩

/-- The first one that differs. -/
def or2 (x y : Int) : Int := if x = 0 then y else x
theorem or2_zero (y : Int) : or2 0 y = y := rfl
theorem or2_ne {x : Int} (h : x ≠ 0) (y : Int) : or2 x y = x := by unfold or2; rw [if_neg h]

theorem Cmp.pair {α β : Type} {f : α → α → Int} {g : β → β → Int} (hf : Cmp f) (hg : Cmp g) : Cmp (fun (x y : α × β) => or2 (f x.1 y.1) (g x.2 y.2)) := by
  refine ⟨fun a b => ?_, fun a b => ?_, fun a b => ?_, fun a b c h1 h2 => ?_⟩
  · unfold or2; split
    · exact hg.rng _ _
    · exact hf.rng _ _
  · have h1 := hf.anti a.1 b.1
    have h2 := hg.anti a.2 b.2
    unfold or2; split <;> split <;> omega
  · have h1 := hf.zero a.1 b.1
    have h2 := hg.zero a.2 b.2
    unfold or2
    rw [Prod.ext_iff]
    split
    · rename_i h; rw [h2]; exact ⟨fun e => ⟨h1.1 h, e⟩, fun e => e.2⟩
    · rename_i h; exact ⟨fun e => absurd e h, fun e => absurd (h1.2 e.1) h⟩
  · by_cases e1 : f a.1 b.1 = 0
    · have q1 := (hf.zero _ _).1 e1
      simp only [e1, or2_zero] at h1
      by_cases e2 : f b.1 c.1 = 0
      · have q2 := (hf.zero _ _).1 e2
        simp only [e2, or2_zero] at h2
        have e3 : f a.1 c.1 = 0 := (hf.zero _ _).2 (q1.trans q2)
        simp only [e3, or2_zero]
        exact hg.trans _ _ _ h1 h2
      · simp only [or2_ne e2] at h2
        rw [q1]
        simp only [or2_ne e2]
        exact h2
    · simp only [or2_ne e1] at h1
      have hlt : f a.1 b.1 < 0 := by omega
      have h2' : f b.1 c.1 ≤ 0 := by
        by_cases e2 : f b.1 c.1 = 0
        · omega
        · simp only [or2_ne e2] at h2; exact h2
      have h3 := hf.lt_le hlt h2'
      simp only [or2_ne (show f a.1 c.1 ≠ 0 by omega)]
      omega

/-- Lists, by the first one that differs; the shorter one is ahead. -/
def cmpList {α : Type} (f : α → α → Int) : List α → List α → Int
  | [], [] => 0
  | [], _ :: _ => -1
  | _ :: _, [] => 1
  | a :: as, b :: bs => or2 (f a b) (cmpList f as bs)

theorem Cmp.list {α : Type} {f : α → α → Int} (hf : Cmp f) : Cmp (cmpList f) := by
  refine ⟨?_, ?_, ?_, ?_⟩
  · intro a
    induction a with
    | nil => intro b; cases b <;> simp [cmpList]
    | cons x a ih =>
      intro b
      cases b with
      | nil => simp [cmpList]
      | cons y b =>
        simp only [cmpList]; unfold or2; split
        · exact ih b
        · exact hf.rng _ _
  · intro a
    induction a with
    | nil => intro b; cases b <;> simp [cmpList]
    | cons x a ih =>
      intro b
      cases b with
      | nil => simp [cmpList]
      | cons y b =>
        have h1 := hf.anti x y
        have h2 := ih b
        simp only [cmpList]; unfold or2; split <;> split <;> omega
  · intro a
    induction a with
    | nil => intro b; cases b <;> simp [cmpList]
    | cons x a ih =>
      intro b
      cases b with
      | nil => simp [cmpList]
      | cons y b =>
        simp only [cmpList]
        rw [List.cons.injEq]
        by_cases e : f x y = 0
        · simp only [e, or2_zero]; rw [ih]; exact ⟨fun h => ⟨(hf.zero _ _).1 e, h⟩, fun h => h.2⟩
        · simp only [or2_ne e]; exact ⟨fun h => absurd h e, fun h => absurd ((hf.zero _ _).2 h.1) e⟩
  · intro a
    induction a with
    | nil => intro b c; cases c <;> simp [cmpList]
    | cons x a ih =>
      intro b c h1 h2
      cases b with
      | nil => simp [cmpList] at h1
      | cons y b =>
        cases c with
        | nil => simp [cmpList] at h2
        | cons z c =>
          simp only [cmpList] at *
          by_cases e1 : f x y = 0
          · have q1 := (hf.zero _ _).1 e1
            subst q1
            simp only [e1, or2_zero] at h1
            by_cases e2 : f x z = 0
            · simp only [e2, or2_zero] at *; exact ih b c h1 h2
            · simp only [or2_ne e2] at *; exact h2
          · simp only [or2_ne e1] at h1
            have h2' : f y z ≤ 0 := by
              by_cases e2 : f y z = 0
              · omega
              · simp only [or2_ne e2] at h2; exact h2
            have h3 := hf.lt_le (show f x y < 0 by omega) h2'
            simp only [or2_ne (show f x z ≠ 0 by omega)]
            omega

/-- Numbers. -/
def cmpI (a b : Int) : Int := if a < b then -1 else if b < a then 1 else 0
theorem cmpI_cmp : Cmp cmpI :=
  ⟨fun a b => by unfold cmpI; split <;> (try split) <;> simp, fun a b => by unfold cmpI; split <;> split <;> (try split) <;> omega,
   fun a b => by unfold cmpI; split <;> (try split) <;> omega, fun a b c => by unfold cmpI; split <;> split <;> (try split) <;> (try split) <;> (try split) <;> omega⟩

/-- Texts. -/
def cmpByte (a b : UInt8) : Int := cmpI a.toNat b.toNat
theorem cmpByte_cmp : Cmp cmpByte := cmpI_cmp.on (fun a : UInt8 => (a.toNat : Int)) (fun a b h => by
  have h' : a.toNat = b.toNat := by omega
  exact UInt8.toNat_inj.1 h')
theorem compareBytes_eq : ∀ a b : List UInt8, Lib.compareBytes a b = cmpList cmpByte a b
  | [], [] => rfl
  | [], _ :: _ => rfl
  | _ :: _, [] => rfl
  | a :: as, b :: bs => by
    simp only [Lib.compareBytes, cmpList, compareBytes_eq as bs]
    have e1 : (a < b) ↔ ((a.toNat : Int) < b.toNat) := by rw [UInt8.lt_iff_toNat_lt]; omega
    have e2 : (b < a) ↔ ((b.toNat : Int) < a.toNat) := by rw [UInt8.lt_iff_toNat_lt]; omega
    have h : cmpByte a b = if a < b then -1 else if b < a then 1 else 0 := by
      simp only [cmpByte, cmpI, e1, e2]
    rw [h]
    unfold or2
    by_cases h1 : a < b
    · simp [h1]
    · by_cases h2 : b < a <;> simp [h1, h2]

def cmpB (a b : ByteArray) : Int := Lib.compareBytes a.data.toList b.data.toList
theorem bytes_ext {a b : ByteArray} (h : a.data.toList = b.data.toList) : a = b := by
  cases a; cases b; simp at h; simp [h]
theorem cmpB_cmp : Cmp cmpB := by
  have h := cmpByte_cmp.list.on (fun a : ByteArray => a.data.toList) (fun a b h => bytes_ext h)
  have e : cmpB = fun a b : ByteArray => cmpList cmpByte a.data.toList b.data.toList := by
    funext a b; exact compareBytes_eq _ _
  rw [e]; exact h

/-- A common head of a byte more says nothing. -/
theorem compareBytes_step {a b : List UInt8} {k : Nat} (ha : k < a.length) (hb : k < b.length) (he : a[k] = b[k]) :
    Lib.compareBytes (a.drop k) (b.drop k) = Lib.compareBytes (a.drop (k + 1)) (b.drop (k + 1)) := by
  rw [List.drop_eq_getElem_cons ha, List.drop_eq_getElem_cons hb, he]
  simp [Lib.compareBytes]
theorem compareBytes_less {a b : List UInt8} {k : Nat} (ha : k < a.length) (hb : k < b.length) (he : a[k] < b[k]) :
    Lib.compareBytes (a.drop k) (b.drop k) = -1 := by
  rw [List.drop_eq_getElem_cons ha, List.drop_eq_getElem_cons hb]
  simp [Lib.compareBytes, he]
theorem compareBytes_more {a b : List UInt8} {k : Nat} (ha : k < a.length) (hb : k < b.length) (he : b[k] < a[k]) :
    Lib.compareBytes (a.drop k) (b.drop k) = 1 := by
  rw [List.drop_eq_getElem_cons ha, List.drop_eq_getElem_cons hb]
  have : ¬ a[k] < b[k] := fun h => by have h1 : a[k].toNat < b[k].toNat := h; have h2 : b[k].toNat < a[k].toNat := he; omega
  simp [Lib.compareBytes, he, this]
theorem compareBytes_end {a b : List UInt8} {k : Nat} (h : a.length ≤ k ∨ b.length ≤ k) (ha : k ≤ a.length) (hb : k ≤ b.length) :
    Lib.compareBytes (a.drop k) (b.drop k) = cmpI a.length b.length := by
  by_cases h1 : a.length ≤ k
  · rw [List.drop_of_length_le h1]
    by_cases h2 : b.length ≤ k
    · rw [List.drop_of_length_le h2]
      have : a.length = b.length := by omega
      simp [Lib.compareBytes, cmpI, this]
    · rw [List.drop_eq_getElem_cons (by omega)]
      have : a.length < b.length := by omega
      simp [Lib.compareBytes, cmpI, this]
  · have h2 : b.length ≤ k := by omega
    rw [List.drop_of_length_le h2, List.drop_eq_getElem_cons (by omega)]
    have h3 : ¬ a.length < b.length := by omega
    have h4 : b.length < a.length := by omega
    simp [Lib.compareBytes, cmpI, h3, h4]
end Go.Wk
namespace Go.Wk

def isLet (n : Int) : Bool := (decide (97 ≤ n) && decide (n ≤ 122)) || (decide (65 ≤ n) && decide (n ≤ 90)) || (n == 95)
def isDig (n : Int) : Bool := decide (48 ≤ n) && decide (n ≤ 57)
def isPrt (n : Int) : Bool := decide (32 ≤ n) && decide (n ≤ 126)
def isWrd (b : UInt8) : Bool := isLet b.toNat || isDig b.toNat
def isLetB (b : UInt8) : Bool := isLet b.toNat
def isPrtB (b : UInt8) : Bool := isPrt b.toNat
def nameOk : List UInt8 → Bool
  | [] => false
  | b :: r => isLetB b && r.all isWrd
/-- What is wrong with a name: 0 nothing, 1 its form, 4 its length. -/
def nameFault (s : ByteArray) : Int := if nameOk s.data.toList then (if 20 < s.size then 4 else 0) else 1
/-- What is wrong with a text. -/
def textFault (s : ByteArray) : Int := if 60 < s.size then 4 else if s.data.toList.all isPrtB then 0 else 1

theorem all_succ (s : ByteArray) (p : UInt8 → Bool) {k : Nat} (h : k < s.size) : (s.data.toList.take (k + 1)).all p = ((s.data.toList.take k).all p && p s[k]) := by
  have h' : k < s.data.toList.length := by simpa using h
  rw [List.take_succ_eq_append_getElem h', List.all_append]
  simp only [List.all_cons, List.all_nil, Bool.and_true]
  rfl
theorem all_stop {s : ByteArray} {p : UInt8 → Bool} {k : Nat} (h : k < s.size) (hp : p s[k] = false) : s.data.toList.all p = false := by
  have h' : k < s.data.toList.length := by simpa using h
  rw [List.all_eq_false]
  exact ⟨s.data.toList[k], List.getElem_mem h', by rw [show p s.data.toList[k] = false from hp]; decide⟩
theorem all_end {s : ByteArray} {p : UInt8 → Bool} {k : Nat} (h : s.size ≤ k) : (s.data.toList.take k).all p = s.data.toList.all p := by
  rw [List.take_of_length_le (by simpa using h)]

theorem nameOk_all {s : ByteArray} (h : 0 < s.size) (hl : isLetB s[0] = true) : nameOk s.data.toList = s.data.toList.all isWrd := by
  have h' : 0 < s.data.toList.length := by simpa using h
  have e : s.data.toList = s[0] :: s.data.toList.drop 1 := List.drop_eq_getElem_cons h'
  rw [e]
  simp only [nameOk, List.all_cons, hl, Bool.true_and]
  have : isWrd s[0] = true := by unfold isWrd; unfold isLetB at hl; rw [hl]; rfl
  rw [this, Bool.true_and]
theorem nameOk_first {s : ByteArray} (h : 0 < s.size) (hl : isLetB s[0] = false) : nameOk s.data.toList = false := by
  have h' : 0 < s.data.toList.length := by simpa using h
  have e : s.data.toList = s[0] :: s.data.toList.drop 1 := List.drop_eq_getElem_cons h'
  rw [e]
  simp only [nameOk, hl, Bool.false_and]
theorem nameOk_empty {s : ByteArray} (h : s.size = 0) : nameOk s.data.toList = false := by
  have : s.data.toList = [] := List.eq_nil_of_length_eq_zero (by simpa using h)
  rw [this]; rfl
theorem nameOk_take_one {s : ByteArray} (h : 0 < s.size) (hl : isLetB s[0] = true) : nameOk (s.data.toList.take 1) = true := by
  have h' : 0 < s.data.toList.length := by simpa using h
  have e : s.data.toList = s[0] :: s.data.toList.drop 1 := List.drop_eq_getElem_cons h'
  rw [e]
  simp [nameOk, hl]
theorem nameOk_take_succ {s : ByteArray} {k : Nat} (hk : 0 < k) (h : k < s.size) (h1 : nameOk (s.data.toList.take k) = true) (h2 : isWrd s[k] = true) : nameOk (s.data.toList.take (k + 1)) = true := by
  have h' : k < s.data.toList.length := by simpa using h
  rw [List.take_succ_eq_append_getElem h']
  have h0 : 0 < s.data.toList.length := by omega
  have e : s.data.toList.take k = s.data.toList[0] :: (s.data.toList.take k).drop 1 := by
    have hk' : 0 < (s.data.toList.take k).length := by rw [List.length_take]; omega
    have := List.drop_eq_getElem_cons hk'
    rw [List.getElem_take] at this
    exact this
  rw [e] at h1 ⊢
  simp only [nameOk, List.cons_append, List.all_append, List.all_cons, List.all_nil, Bool.and_true, Bool.and_eq_true] at h1 ⊢
  exact ⟨h1.1, h1.2, h2⟩
theorem nameOk_stop {s : ByteArray} {k : Nat} (hk : 0 < k) (h : k < s.size) (h2 : isWrd s[k] = false) : nameOk s.data.toList = false := by
  have h0 : 0 < s.size := by omega
  rcases hl : isLetB s[0] with _ | _
  · exact nameOk_first h0 hl
  · rw [nameOk_all h0 hl]; exact all_stop h h2
theorem nameOk_end {s : ByteArray} {k : Nat} (h : s.size ≤ k) (h1 : nameOk (s.data.toList.take k) = true) : nameOk s.data.toList = true := by
  rwa [List.take_of_length_le (by simpa using h)] at h1
end Go.Wk
namespace Go.Wk

structure Nd where
  op : Int
  n : Int
  s : ByteArray
  t : ByteArray
theorem Nd.ext4 {x y : Nd} (h1 : x.op = y.op) (h2 : x.n = y.n) (h3 : x.s = y.s) (h4 : x.t = y.t) : x = y := by
  cases x; cases y; simp_all

def or4 (x y z u : Int) : Int := or2 x (or2 y (or2 z u))
def cmpNd (x y : Nd) : Int := or4 (cmpI x.op y.op) (cmpI x.n y.n) (cmpB x.s y.s) (cmpB x.t y.t)
theorem cmpNd_cmp : Cmp cmpNd :=
  (cmpI_cmp.pair (cmpI_cmp.pair (cmpB_cmp.pair cmpB_cmp))).on (fun x : Nd => (x.op, x.n, x.s, x.t)) (fun a b h => by
    simp only [Prod.mk.injEq] at h
    exact Nd.ext4 h.1 h.2.1 h.2.2.1 h.2.2.2)
def cmpNds : List Nd → List Nd → Int := cmpList cmpNd
theorem cmpNds_cmp : Cmp cmpNds := cmpNd_cmp.list

def noB (s : ByteArray) : Bool := decide (s.size = 0)
def shapedN (x : Nd) : Bool :=
  if x.op = 1 then (decide (x.n = 0) || decide (x.n = 1)) && noB x.s && noB x.t
  else if x.op = 2 then noB x.s && noB x.t
  else if x.op = 3 then decide (x.n = 0) && noB x.t && decide (textFault x.s = 0)
  else if x.op = 4 then decide (x.n = 0) && decide (nameFault x.s = 0) && decide (textFault x.t = 0)
  else if x.op = 5 ∨ x.op = 6 then decide (0 ≤ x.n) && noB x.s && noB x.t
  else if x.op = 7 then decide (x.n = 0) && noB x.t && decide (nameFault x.s = 0)
  else false

/-- The nodes from one place up to another one. -/
def seg (v : List Nd) (i j : Nat) : List Nd := (v.drop i).take (j - i)
theorem seg_length {v : List Nd} {i j : Nat} (h : j ≤ v.length) : (seg v i j).length = j - i := by
  simp [seg]; omega

/-- Is the part from one place up to another one ahead of that behind it? -/
def rises (v : List Nd) (last : Option Nat) (p e : Nat) : Bool :=
  match last with
  | none => true
  | some l => decide (cmpNds (seg v l p) (seg v p e) < 0)
def setLoop (v : List Nd) (f : Nat → Option Nat) : Nat → Option Nat → Nat → Option Nat
  | 0, _, p => some p
  | k + 1, last, p =>
    match f p with
    | none => none
    | some e => if rises v last p e then setLoop v f k (some p) e else none
/-- May this be the next field? -/
def fieldOk (v : List Nd) (last : ByteArray) (p : Nat) : Option ByteArray :=
  match v[p]? with
  | none => none
  | some x => if decide (x.op = 7) && shapedN x && decide (cmpB last x.s < 0) then some x.s else none
def recLoop (v : List Nd) (f : Nat → Option Nat) : Nat → ByteArray → Nat → Option Nat
  | 0, _, p => some p
  | k + 1, last, p =>
    match fieldOk v last p with
    | none => none
    | some s =>
      match f (p + 1) with
      | none => none
      | some e => recLoop v f k s e
def partEnd (v : List Nd) : Nat → Nat → Option Nat
  | 0, _ => none
  | m + 1, p =>
    match v[p]? with
    | none => none
    | some x =>
      if shapedN x then
        if x.op = 5 then setLoop v (partEnd v m) x.n.toNat none (p + 1)
        else if x.op = 6 then recLoop v (partEnd v m) x.n.toNat .empty (p + 1)
        else if x.op = 7 then none
        else some (p + 1)
      else none
/-- The error of nodes as a value. -/
def valFault (v : List Nd) : Int :=
  if 200 < v.length then 4 else if partEnd v (v.length + 1) 0 = some v.length then 0 else 1

theorem setLoop_le {v : List Nd} {f : Nat → Option Nat} (hf : ∀ p e, f p = some e → p < e ∧ e ≤ v.length) :
    ∀ k last p e, p ≤ v.length → setLoop v f k last p = some e → p ≤ e ∧ e ≤ v.length := by
  intro k
  induction k with
  | zero => intro last p e hp h; simp only [setLoop, Option.some.injEq] at h; omega
  | succ k ih =>
    intro last p e hp h
    simp only [setLoop] at h
    split at h
    · cases h
    · rename_i q hq
      have := hf p q hq
      split at h
      · have := ih _ _ _ (by omega) h; omega
      · cases h
theorem recLoop_le {v : List Nd} {f : Nat → Option Nat} (hf : ∀ p e, f p = some e → p < e ∧ e ≤ v.length) :
    ∀ k last p e, p ≤ v.length → recLoop v f k last p = some e → p ≤ e ∧ e ≤ v.length := by
  intro k
  induction k with
  | zero => intro last p e hp h; simp only [recLoop, Option.some.injEq] at h; omega
  | succ k ih =>
    intro last p e hp h
    simp only [recLoop] at h
    split at h
    · cases h
    · split at h
      · cases h
      · rename_i q hq
        have := hf _ q hq
        have := ih _ _ _ (by omega) h; omega
theorem partEnd_le {v : List Nd} : ∀ m p e, partEnd v m p = some e → p < e ∧ e ≤ v.length := by
  intro m
  induction m with
  | zero => intro p e h; cases h
  | succ m ih =>
    intro p e h
    simp only [partEnd] at h
    split at h
    · cases h
    · rename_i x hx
      have hp : p < v.length := (List.getElem?_eq_some_iff.1 hx).1
      split at h
      · split at h
        · have := setLoop_le ih _ _ _ _ (by omega) h; omega
        · split at h
          · have := recLoop_le ih _ _ _ _ (by omega) h; omega
          · split at h
            · cases h
            · simp only [Option.some.injEq] at h; omega
      · cases h
end Go.Wk
namespace Go.Wk

mutual
/-- A type: one without parts, of entities, of sets, of records. -/
inductive Kd
  | base (op : Int)
  | ent (s : ByteArray)
  | set (p : Kd)
  | fs (f : Fl)
/-- The fields of a record's type: a name, must it be there, its type. -/
inductive Fl
  | nil
  | cons (s : ByteArray) (m : Bool) (k : Kd) (r : Fl)
end
mutual
def Kd.sz : Kd → Nat
  | .base _ => 1
  | .ent _ => 1
  | .set p => p.sz + 1
  | .fs f => f.sz + 1
def Fl.sz : Fl → Nat
  | .nil => 0
  | .cons _ _ k r => k.sz + r.sz + 1
end
def Fl.find : Fl → ByteArray → Option (Bool × Kd)
  | .nil, _ => none
  | .cons s m k r, x => if s = x then some (m, k) else r.find x
def isAny : Kd → Bool
  | .base x => x == 48
  | _ => false
def isNone : Kd → Bool
  | .base x => x == 49
  | _ => false
/-- All that must be there by g are in f. -/
def mustF : Fl → Fl → Bool
  | .nil, _ => true
  | .cons s m _ r, f => (!m || (f.find s).isSome) && mustF r f
mutual
def belowK : Kd → Kd → Bool
  | .base x, b => x == 49 || isAny b || (match b with | .base y => x == y | _ => false)
  | .ent s, b => isAny b || (match b with | .ent t => decide (s = t) | _ => false)
  | .set p, b => isAny b || (match b with | .set q => belowK p q | _ => false)
  | .fs f, b => isAny b || (match b with | .fs g => belowF f g && mustF g f | _ => false)
def belowF : Fl → Fl → Bool
  | .nil, _ => true
  | .cons s m k r, g => (match g.find s with | none => false | some (m', k') => (!m' || m) && belowK k k') && belowF r g
end
/-- The names ascend, behind x. -/
def Fl.ascFrom : ByteArray → Fl → Prop
  | _, .nil => True
  | x, .cons s _ _ r => cmpB x s < 0 ∧ r.ascFrom s
def Fl.asc : Fl → Prop
  | .nil => True
  | .cons s _ _ r => r.ascFrom s
mutual
def Kd.ok : Kd → Prop
  | .base _ => True
  | .ent _ => True
  | .set p => p.ok
  | .fs f => f.asc ∧ f.ok
def Fl.ok : Fl → Prop
  | .nil => True
  | .cons _ _ k r => k.ok ∧ r.ok
end
theorem asc_tail {x : ByteArray} {f : Fl} (h : f.ascFrom x) : f.asc := by
  cases f with
  | nil => trivial
  | cons s m k r => exact h.2
end Go.Wk
namespace Go.Wk

def emp : ByteArray := ⟨#[]⟩
mutual
/-- A type's nodes. -/
def Kd.flat : Kd → List Nd
  | .base x => [⟨x, 0, emp, emp⟩]
  | .ent s => [⟨44, 0, s, emp⟩]
  | .set p => ⟨45, 0, emp, emp⟩ :: p.flat
  | .fs f => ⟨46, f.len, emp, emp⟩ :: f.flat
def Fl.len : Fl → Nat
  | .nil => 0
  | .cons _ _ _ r => r.len + 1
def Fl.flat : Fl → List Nd
  | .nil => []
  | .cons s m k r => ⟨47, if m = true then 1 else 0, s, emp⟩ :: (k.flat ++ r.flat)
end
def baseOp (x : Int) : Prop := x = 41 ∨ x = 42 ∨ x = 43 ∨ x = 48 ∨ x = 49
instance (x : Int) : Decidable (baseOp x) := by unfold baseOp; infer_instance
mutual
/-- A type as it may be handed in. -/
def Kd.valid : Kd → Prop
  | .base x => baseOp x
  | .ent s => nameFault s = 0
  | .set p => p.valid
  | .fs f => f.validFrom emp
def Fl.validFrom : Fl → ByteArray → Prop
  | .nil, _ => True
  | .cons s _ k r, x => cmpB x s < 0 ∧ nameFault s = 0 ∧ k.valid ∧ r.validFrom s
end
def kfOk (x : ByteArray) (y : Nd) : Prop := y.op = 47 ∧ (y.n = 0 ∨ y.n = 1) ∧ y.t = emp ∧ nameFault y.s = 0 ∧ cmpB x y.s < 0
instance (x : ByteArray) (y : Nd) : Decidable (kfOk x y) := by unfold kfOk; infer_instance
mutual
/-- The type at the head of nodes, and what is behind it. -/
def parseK : Nat → List Nd → Option (Kd × List Nd)
  | 0, _ => none
  | _ + 1, [] => none
  | n + 1, x :: r =>
    if baseOp x.op then (if x.n = 0 ∧ x.s = emp ∧ x.t = emp then some (.base x.op, r) else none)
    else if x.op = 44 then (if x.n = 0 ∧ nameFault x.s = 0 ∧ x.t = emp then some (.ent x.s, r) else none)
    else if x.op = 45 then (match parseK n r with
      | none => none
      | some (p, r') => if x.n = 0 ∧ x.s = emp ∧ x.t = emp then some (.set p, r') else none)
    else if x.op = 46 then (match parseF n x.n.toNat emp r with
      | none => none
      | some (f, r') => if 0 ≤ x.n ∧ x.s = emp ∧ x.t = emp then some (.fs f, r') else none)
    else none
def parseF : Nat → Nat → ByteArray → List Nd → Option (Fl × List Nd)
  | _, 0, _, r => some (.nil, r)
  | 0, _ + 1, _, _ => none
  | _ + 1, _ + 1, _, [] => none
  | n + 1, c + 1, x, y :: r =>
    if kfOk x y then (match parseK n r with
      | none => none
      | some (k, r') => match parseF n c y.s r' with
        | none => none
        | some (f, r'') => some (.cons y.s (y.n == 1) k f, r''))
    else none
end
theorem nd_eq {y : Nd} {a b : Int} {c d : ByteArray} (h1 : y.op = a) (h2 : y.n = b) (h3 : y.s = c) (h4 : y.t = d) : y = ⟨a, b, c, d⟩ := by cases y; simp_all
theorem parse_sound : ∀ n : Nat, (∀ P k r, parseK n P = some (k, r) → k.valid ∧ P = k.flat ++ r) ∧ (∀ c x P f r, parseF n c x P = some (f, r) → f.validFrom x ∧ f.len = c ∧ P = f.flat ++ r)
  | 0 => by
    refine ⟨fun P k r h => by simp [parseK] at h, fun c x P f r h => ?_⟩
    cases c with
    | zero =>
      simp only [parseF, Option.some.injEq, Prod.mk.injEq] at h
      obtain ⟨rfl, rfl⟩ := h
      exact ⟨trivial, rfl, rfl⟩
    | succ c => simp [parseF] at h
  | n + 1 => by
    obtain ⟨ihK, ihF⟩ := parse_sound n
    refine ⟨fun P k r h => ?_, fun c x P f r h => ?_⟩
    · cases P with
      | nil => simp [parseK] at h
      | cons y P =>
        simp only [parseK] at h
        split at h
        · rename_i hb
          split at h
          · rename_i hc
            simp only [Option.some.injEq, Prod.mk.injEq] at h
            obtain ⟨rfl, rfl⟩ := h
            exact ⟨hb, by simp only [Kd.flat]; rw [nd_eq rfl hc.1 hc.2.1 hc.2.2]; rfl⟩
          · cases h
        · split at h
          · rename_i ho
            split at h
            · rename_i hc
              simp only [Option.some.injEq, Prod.mk.injEq] at h
              obtain ⟨rfl, rfl⟩ := h
              exact ⟨hc.2.1, by simp only [Kd.flat]; rw [nd_eq ho hc.1 rfl hc.2.2]; rfl⟩
            · cases h
          · split at h
            · rename_i ho
              rcases hp : parseK n P with _ | ⟨p, r'⟩
              · rw [hp] at h; cases h
              · rw [hp] at h
                simp only at h
                split at h
                · rename_i hc
                  simp only [Option.some.injEq, Prod.mk.injEq] at h
                  obtain ⟨rfl, rfl⟩ := h
                  obtain ⟨v, e⟩ := ihK _ _ _ hp
                  exact ⟨v, by simp only [Kd.flat]; rw [nd_eq ho hc.1 hc.2.1 hc.2.2, e]; rfl⟩
                · cases h
            · split at h
              · rename_i ho
                rcases hp : parseF n y.n.toNat emp P with _ | ⟨f, r'⟩
                · rw [hp] at h; cases h
                · rw [hp] at h
                  simp only at h
                  split at h
                  · rename_i hc
                    simp only [Option.some.injEq, Prod.mk.injEq] at h
                    obtain ⟨rfl, rfl⟩ := h
                    obtain ⟨v, el, e⟩ := ihF _ _ _ _ _ hp
                    have en : y.n = (f.len : Int) := by rw [el]; omega
                    exact ⟨v, by simp only [Kd.flat]; rw [nd_eq ho en hc.2.1 hc.2.2, e]; rfl⟩
                  · cases h
              · cases h
    · cases c with
      | zero =>
        simp only [parseF, Option.some.injEq, Prod.mk.injEq] at h
        obtain ⟨rfl, rfl⟩ := h
        exact ⟨trivial, rfl, rfl⟩
      | succ c =>
        cases P with
        | nil => simp [parseF] at h
        | cons y P =>
          simp only [parseF] at h
          split at h
          · rename_i hf
            rcases hp : parseK n P with _ | ⟨p, r'⟩
            · rw [hp] at h; cases h
            · rw [hp] at h
              simp only at h
              rcases hq : parseF n c y.s r' with _ | ⟨g, r''⟩
              · rw [hq] at h; cases h
              · rw [hq] at h
                simp only [Option.some.injEq, Prod.mk.injEq] at h
                obtain ⟨rfl, rfl⟩ := h
                obtain ⟨v1, e1⟩ := ihK _ _ _ hp
                obtain ⟨v2, el, e2⟩ := ihF _ _ _ _ _ hq
                refine ⟨⟨hf.2.2.2.2, hf.2.2.2.1, v1, v2⟩, by simp [Fl.len, el], ?_⟩
                have en : y.n = if (y.n == 1) = true then 1 else 0 := by
                  rcases hf.2.1 with q | q <;> simp [q]
                simp only [Fl.flat, List.cons_append, List.append_assoc]
                rw [← e2, ← e1]
                congr 1
                exact nd_eq hf.1 en rfl hf.2.2.1
          · cases h
theorem parse_full : ∀ n : Nat, (∀ k r, k.valid → k.flat.length ≤ n → parseK n (k.flat ++ r) = some (k, r)) ∧ (∀ f x r, f.validFrom x → f.flat.length ≤ n → parseF n f.len x (f.flat ++ r) = some (f, r))
  | 0 => by
    refine ⟨fun k r _ h => by cases k <;> simp [Kd.flat] at h, fun f x r _ h => ?_⟩
    cases f with
    | nil => simp [Fl.len, parseF, Fl.flat]
    | cons s m k q => simp [Fl.flat] at h
  | n + 1 => by
    obtain ⟨ihK, ihF⟩ := parse_full n
    refine ⟨fun k r hv hl => ?_, fun f x r hv hl => ?_⟩
    · cases k with
      | base y =>
        have hb : baseOp y := hv
        simp [Kd.flat, parseK, hb]
      | ent s =>
        have h1 : ¬ baseOp 44 := by decide
        have h2 : nameFault s = 0 := hv
        simp [Kd.flat, parseK, h1, h2]
      | set p =>
        have h1 : ¬ baseOp 45 := by decide
        simp only [Kd.flat, List.length_cons] at hl
        simp [Kd.flat, parseK, h1, ihK p r hv (by omega)]
      | fs f =>
        have h1 : ¬ baseOp 46 := by decide
        simp only [Kd.flat, List.length_cons] at hl
        simp [Kd.flat, parseK, h1, ihF f emp r hv (by omega)]
    · cases f with
      | nil => cases n <;> simp [Fl.len, parseF, Fl.flat]
      | cons s m k q =>
        obtain ⟨v1, v2, v3, v4⟩ := hv
        simp only [Fl.flat, List.length_cons, List.length_append] at hl
        have hf : kfOk x ⟨47, if m = true then 1 else 0, s, emp⟩ := ⟨rfl, by cases m <;> simp, rfl, v2, v1⟩
        have hm : (((if m = true then 1 else 0 : Int)) == 1) = m := by cases m <;> rfl
        simp only [Fl.flat, Fl.len, List.cons_append, List.append_assoc, parseF, if_pos hf, ihK k (q.flat ++ r) v3 (by omega), ihF q s r v4 (by omega), hm]
/-- The type that nodes are. -/
def readK (P : List Nd) : Option Kd := match parseK P.length P with
  | some (k, []) => some k
  | _ => none
theorem readK_iff {P : List Nd} {k : Kd} : readK P = some k ↔ k.valid ∧ P = k.flat := by
  unfold readK
  constructor
  · intro h
    rcases hp : parseK P.length P with _ | ⟨k', r⟩
    · rw [hp] at h; cases h
    · rw [hp] at h
      cases r with
      | cons a r => cases h
      | nil =>
        simp only [Option.some.injEq] at h
        subst h
        obtain ⟨v, e⟩ := (parse_sound _).1 _ _ _ hp
        exact ⟨v, by simpa using e⟩
  · rintro ⟨v, rfl⟩
    have := (parse_full k.flat.length).1 k [] v (Nat.le_refl _)
    rw [List.append_nil] at this
    rw [this]
theorem flat_inj {a b : Kd} (ha : a.valid) (hb : b.valid) (h : a.flat = b.flat) : a = b := by
  have h1 := readK_iff.2 ⟨ha, rfl⟩
  have h2 := readK_iff.2 ⟨hb, rfl⟩
  rw [h, h2] at h1
  injection h1 with h1
  exact h1.symm
end Go.Wk
namespace Go.Wk

mutual
/-- An expression: a node and its parts; those of a record are fields, each with one part. -/
inductive Ex
  | node (n : Nd) (ps : Exs)
inductive Exs
  | nil
  | cons (x : Ex) (r : Exs)
end
mutual
def Ex.flat : Ex → List Nd
  | .node n ps => n :: ps.flat
def Exs.flat : Exs → List Nd
  | .nil => []
  | .cons x r => x.flat ++ r.flat
end
def Exs.len : Exs → Nat
  | .nil => 0
  | .cons _ r => r.len + 1
def Ex.head : Ex → Nd
  | .node n _ => n
def Ex.parts : Ex → Exs
  | .node _ ps => ps
/-- How many parts a node has; below 0: it is none of an expression. -/
def partsN (x : Nd) : Int :=
  if x.op = 5 ∨ x.op = 6 then x.n
  else if 1 ≤ x.op ∧ x.op ≤ 4 ∨ x.op = 8 then 0
  else if x.op = 7 ∨ x.op = 9 ∨ x.op = 10 ∨ 21 ≤ x.op ∧ x.op ≤ 24 then 1
  else if x.op = 13 then 3
  else if 11 ≤ x.op ∧ x.op ≤ 20 ∨ 25 ≤ x.op ∧ x.op ≤ 27 then 2
  else -1
/-- The words of the language. -/
def resW : List (List UInt8) := [[105, 102], [116, 104, 101, 110], [101, 108, 115, 101], [116, 114, 117, 101], [102, 97, 108, 115, 101], [105, 110], [104, 97, 115], [108, 105, 107, 101], [105, 115]]
def reserved (s : ByteArray) : Bool := resW.contains s.data.toList
/-- May a name stand for something? -/
def varOk (s : ByteArray) : Bool :=
  if s.data.toList.head? = some 63 then decide (nameFault (s.extract 1 s.size) = 0) else decide (nameFault s = 0) && !reserved s
/-- Has a node just the fields that it may have? -/
def fieldsN (x : Nd) : Bool :=
  if 1 ≤ x.op ∧ x.op ≤ 7 then shapedN x
  else if partsN x < 0 ∨ x.n ≠ 0 ∨ x.t ≠ emp then false
  else if x.op = 8 then varOk x.s
  else if x.op = 21 ∨ x.op = 22 ∨ x.op = 24 then decide (nameFault x.s = 0)
  else if x.op = 23 then decide (textFault x.s = 0)
  else decide (x.s = emp)
/-- May it be the head, of a field or of something else? -/
def headX (f : Bool) (x : Nd) : Bool := fieldsN x && (decide (x.op = 7) == f)
def isRec (x : Nd) : Bool := decide (x.op = 6)
mutual
def Ex.valid : Ex → Bool → Prop
  | .node n ps, f => headX f n = true ∧ (ps.len : Int) = partsN n ∧ ps.valid (isRec n) emp
def Exs.valid : Exs → Bool → ByteArray → Prop
  | .nil, _, _ => True
  | .cons x r, c, s => (c = true → cmpB s x.head.s < 0) ∧ x.valid c ∧ r.valid c x.head.s
end
mutual
/-- The expression at the head of nodes, and what is behind it. -/
def parseX : Nat → Bool → List Nd → Option (Ex × List Nd)
  | 0, _, _ => none
  | _ + 1, _, [] => none
  | m + 1, f, x :: r =>
    if headX f x = true then (match parseXs m (partsN x).toNat (isRec x) emp r with
      | none => none
      | some (ps, r') => some (.node x ps, r')) else none
def parseXs : Nat → Nat → Bool → ByteArray → List Nd → Option (Exs × List Nd)
  | _, 0, _, _, r => some (.nil, r)
  | 0, _ + 1, _, _, _ => none
  | _ + 1, _ + 1, _, _, [] => none
  | m + 1, c + 1, k, s, y :: r =>
    if k = true ∧ ¬ cmpB s y.s < 0 then none
    else (match parseX m k (y :: r) with
      | none => none
      | some (x, r') => match parseXs m c k y.s r' with
        | none => none
        | some (ps, r'') => some (.cons x ps, r''))
end
theorem shapedN_n {x : Nd} (h : shapedN x = true) (h5 : x.op = 5 ∨ x.op = 6) : 0 ≤ x.n := by
  unfold shapedN at h
  rw [if_neg (by omega), if_neg (by omega), if_neg (by omega), if_neg (by omega), if_pos h5] at h
  simp only [Bool.and_eq_true, decide_eq_true_eq] at h
  exact h.1.1
theorem partsN_pos {x : Nd} (h : fieldsN x = true) : 0 ≤ partsN x := by
  unfold fieldsN at h
  by_cases h7 : 1 ≤ x.op ∧ x.op ≤ 7
  · rw [if_pos h7] at h
    unfold partsN
    by_cases h5 : x.op = 5 ∨ x.op = 6
    · rw [if_pos h5]; exact shapedN_n h h5
    · rw [if_neg h5]
      by_cases h14 : 1 ≤ x.op ∧ x.op ≤ 4 ∨ x.op = 8
      · rw [if_pos h14]; decide
      · rw [if_neg h14, if_pos (by omega)]; decide
  · rw [if_neg h7] at h
    split at h
    · cases h
    · omega
theorem headX_parts {f : Bool} {x : Nd} (h : headX f x = true) : 0 ≤ partsN x := by
  unfold headX at h
  rw [Bool.and_eq_true] at h
  exact partsN_pos h.1
theorem flatX_pos (x : Ex) : 1 ≤ x.flat.length := by cases x; simp [Ex.flat]
theorem flatX_head (x : Ex) : ∃ r, x.flat = x.head :: r := by cases x; exact ⟨_, rfl⟩
theorem parseX_sound : ∀ m : Nat, (∀ f P x r, parseX m f P = some (x, r) → x.valid f ∧ P = x.flat ++ r) ∧ (∀ c k s P ps r, parseXs m c k s P = some (ps, r) → ps.valid k s ∧ ps.len = c ∧ P = ps.flat ++ r)
  | 0 => by
    refine ⟨fun f P x r h => by simp [parseX] at h, fun c k s P ps r h => ?_⟩
    cases c with
    | zero =>
      simp only [parseXs, Option.some.injEq, Prod.mk.injEq] at h
      obtain ⟨rfl, rfl⟩ := h
      exact ⟨trivial, rfl, rfl⟩
    | succ c => simp [parseXs] at h
  | m + 1 => by
    obtain ⟨ihX, ihS⟩ := parseX_sound m
    refine ⟨fun f P x r h => ?_, fun c k s P ps r h => ?_⟩
    · cases P with
      | nil => simp [parseX] at h
      | cons y P =>
        simp only [parseX] at h
        split at h
        · rename_i hh
          rcases hp : parseXs m (partsN y).toNat (isRec y) emp P with _ | ⟨ps, r'⟩
          · rw [hp] at h; cases h
          · rw [hp] at h
            simp only [Option.some.injEq, Prod.mk.injEq] at h
            obtain ⟨rfl, rfl⟩ := h
            obtain ⟨v, el, e⟩ := ihS _ _ _ _ _ _ hp
            have := headX_parts hh
            exact ⟨⟨hh, by rw [el]; omega, v⟩, by rw [e]; rfl⟩
        · cases h
    · cases c with
      | zero =>
        simp only [parseXs, Option.some.injEq, Prod.mk.injEq] at h
        obtain ⟨rfl, rfl⟩ := h
        exact ⟨trivial, rfl, rfl⟩
      | succ c =>
        cases P with
        | nil => simp [parseXs] at h
        | cons y P =>
          simp only [parseXs] at h
          split at h
          · cases h
          · rename_i hc
            rcases hp : parseX m k (y :: P) with _ | ⟨x, r'⟩
            · rw [hp] at h; cases h
            · rw [hp] at h
              simp only at h
              rcases hq : parseXs m c k y.s r' with _ | ⟨qs, r''⟩
              · rw [hq] at h; cases h
              · rw [hq] at h
                simp only [Option.some.injEq, Prod.mk.injEq] at h
                obtain ⟨rfl, rfl⟩ := h
                obtain ⟨v1, e1⟩ := ihX _ _ _ _ hp
                obtain ⟨v2, el, e2⟩ := ihS _ _ _ _ _ _ hq
                have hy : x.head = y := by
                  obtain ⟨u, hu⟩ := flatX_head x
                  rw [hu, List.cons_append] at e1
                  injection e1 with e1 _
                  exact e1.symm
                refine ⟨⟨fun hk => ?_, v1, by rw [hy]; exact v2⟩, by simp [Exs.len, el], by simp only [Exs.flat, List.append_assoc]; rw [← e2, ← e1]⟩
                rw [hy]
                exact Decidable.byContradiction fun e => hc ⟨hk, e⟩
theorem parseX_full : ∀ m : Nat, (∀ f x r, x.valid f → 2 * x.flat.length ≤ m → parseX m f (x.flat ++ r) = some (x, r)) ∧ (∀ k s ps r, ps.valid k s → 2 * ps.flat.length + 1 ≤ m → parseXs m ps.len k s (ps.flat ++ r) = some (ps, r))
  | 0 => by
    refine ⟨fun f x r _ h => by have := flatX_pos x; omega, fun k s ps r _ h => by omega⟩
  | m + 1 => by
    obtain ⟨ihX, ihS⟩ := parseX_full m
    refine ⟨fun f x r hv hl => ?_, fun k s ps r hv hl => ?_⟩
    · obtain ⟨n, ps⟩ := x
      obtain ⟨v1, v2, v3⟩ := hv
      simp only [Ex.flat, List.length_cons] at hl
      have e : (partsN n).toNat = ps.len := by rw [← v2]; rfl
      simp only [Ex.flat, List.cons_append, parseX, if_pos v1, e, ihS _ _ ps r v3 (by omega)]
    · cases ps with
      | nil => cases m <;> simp [Exs.len, parseXs, Exs.flat]
      | cons x q =>
        obtain ⟨v1, v2, v3⟩ := hv
        simp only [Exs.flat, List.length_append] at hl
        have hp := flatX_pos x
        obtain ⟨u, hu⟩ := flatX_head x
        have h1 := ihX k x (q.flat ++ r) v2 (by omega)
        have h2 := ihS k x.head.s q r v3 (by omega)
        simp only [Exs.flat, Exs.len, List.append_assoc]
        rw [hu, List.cons_append] at h1 ⊢
        simp only [parseXs]
        rw [if_neg (fun h => h.2 (v1 h.1)), h1]
        simp only [h2]
/-- The fuel is of no account. -/
theorem parseX_more {m m' : Nat} {f : Bool} {P r : List Nd} {x : Ex} (h : parseX m f P = some (x, r)) (h' : 2 * P.length ≤ m') : parseX m' f P = some (x, r) := by
  obtain ⟨v, e⟩ := (parseX_sound m).1 f P x r h
  have hl : x.flat.length ≤ P.length := by rw [e, List.length_append]; omega
  have := (parseX_full m').1 f x r v (by omega)
  rwa [← e] at this
theorem parseXs_more {m m' c : Nat} {k : Bool} {s : ByteArray} {P r : List Nd} {ps : Exs} (h : parseXs m c k s P = some (ps, r)) (h' : 2 * P.length + 1 ≤ m') : parseXs m' c k s P = some (ps, r) := by
  obtain ⟨v, el, e⟩ := (parseX_sound m).2 c k s P ps r h
  have hl : ps.flat.length ≤ P.length := by rw [e, List.length_append]; omega
  have := (parseX_full m').2 k s ps r v (by omega)
  rwa [← e, el] at this
theorem parseX_fuel {m m' : Nat} {f : Bool} {P : List Nd} (h : 2 * P.length ≤ m) (h' : 2 * P.length ≤ m') : parseX m f P = parseX m' f P := by
  rcases e : parseX m f P with _ | ⟨x, r⟩
  · rcases e' : parseX m' f P with _ | ⟨x, r⟩
    · rfl
    · rw [parseX_more e' h] at e; cases e
  · exact (parseX_more e h').symm
theorem parseXs_fuel {m m' c : Nat} {k : Bool} {s : ByteArray} {P : List Nd} (h : 2 * P.length + 1 ≤ m) (h' : 2 * P.length + 1 ≤ m') : parseXs m c k s P = parseXs m' c k s P := by
  rcases e : parseXs m c k s P with _ | ⟨x, r⟩
  · rcases e' : parseXs m' c k s P with _ | ⟨x, r⟩
    · rfl
    · rw [parseXs_more e' h] at e; cases e
  · exact (parseXs_more e h').symm
/-- The expression that nodes are. -/
def readX (P : List Nd) : Option Ex := match parseX (2 * P.length + 2) false P with
  | some (x, []) => some x
  | _ => none
theorem readX_iff {P : List Nd} {x : Ex} : readX P = some x ↔ x.valid false ∧ P = x.flat := by
  unfold readX
  constructor
  · intro h
    rcases hp : parseX (2 * P.length + 2) false P with _ | ⟨y, r⟩
    · rw [hp] at h; cases h
    · rw [hp] at h
      cases r with
      | nil =>
        simp only [Option.some.injEq] at h
        subst h
        obtain ⟨v, e⟩ := (parseX_sound _).1 _ _ _ _ hp
        exact ⟨v, by rw [e, List.append_nil]⟩
      | cons a r => cases h
  · rintro ⟨v, rfl⟩
    have := (parseX_full (2 * x.flat.length + 2)).1 false x [] v (by omega)
    rw [List.append_nil] at this
    rw [this]
/-- The place behind the expression that begins at one; below 0: there is none. -/
def xEnd (t : List Nd) (p : Nat) (f : Bool) : Int := match parseX (2 * t.length + 2) f (t.drop p) with
  | some (_, r) => ((t.length - r.length : Nat) : Int)
  | none => -1
/-- The place behind so many parts; below 0: they are none. -/
def xsEnd (t : List Nd) (c : Nat) (k : Bool) (s : ByteArray) (p : Nat) : Int := match parseXs (2 * t.length + 2) c k s (t.drop p) with
  | some (_, r) => ((t.length - r.length : Nat) : Int)
  | none => -1
theorem drop_atX {t : List Nd} {p : Nat} {x : Nd} (h : t[p]? = some x) : t.drop p = x :: t.drop (p + 1) := by
  obtain ⟨hp, e⟩ := List.getElem?_eq_some_iff.1 h
  rw [← e]
  exact List.drop_eq_getElem_cons hp
theorem xEnd_out {t : List Nd} {p : Nat} {f : Bool} (h : t.length ≤ p) : xEnd t p f = -1 := by
  unfold xEnd
  rw [List.drop_eq_nil_of_le h]
  rfl
theorem xEnd_bad {t : List Nd} {p : Nat} {f : Bool} {x : Nd} (h : t[p]? = some x) (hx : headX f x = false) : xEnd t p f = -1 := by
  unfold xEnd
  rw [drop_atX h]
  simp [parseX, hx]
theorem xEnd_head {t : List Nd} {p : Nat} {f : Bool} {x : Nd} (h : t[p]? = some x) (hx : headX f x = true) : xEnd t p f = xsEnd t (partsN x).toNat (isRec x) emp (p + 1) := by
  have hp := (List.getElem?_eq_some_iff.1 h).1
  unfold xEnd xsEnd
  rw [drop_atX h]
  simp only [parseX, if_pos hx]
  rw [parseXs_fuel (m := 2 * t.length + 1) (m' := 2 * t.length + 2) (by simp; omega) (by simp; omega)]
  rcases parseXs (2 * t.length + 2) (partsN x).toNat (isRec x) emp (t.drop (p + 1)) with _ | ⟨ps, r⟩ <;> rfl
theorem xsEnd_zero {t : List Nd} {p : Nat} {k : Bool} {s : ByteArray} (h : p ≤ t.length) : xsEnd t 0 k s p = (p : Int) := by
  unfold xsEnd
  simp only [parseXs, List.length_drop]
  congr 1; omega
theorem xsEnd_out {t : List Nd} {p c : Nat} {k : Bool} {s : ByteArray} (h : t.length ≤ p) : xsEnd t (c + 1) k s p = -1 := by
  unfold xsEnd
  rw [List.drop_eq_nil_of_le h]
  rfl
theorem xEnd_lt {t : List Nd} {p : Nat} {f : Bool} (h : 0 ≤ xEnd t p f) : ∃ e : Nat, xEnd t p f = (e : Int) ∧ p < e ∧ e ≤ t.length := by
  unfold xEnd at *
  rcases hp : parseX (2 * t.length + 2) f (t.drop p) with _ | ⟨k, r⟩
  · rw [hp] at h; simp at h
  · rw [hp] at h
    simp only at h ⊢
    obtain ⟨v, e⟩ := (parseX_sound _).1 _ _ _ _ hp
    have h1 : (t.drop p).length = k.flat.length + r.length := by rw [e, List.length_append]
    rw [List.length_drop] at h1
    have h2 := flatX_pos k
    exact ⟨_, rfl, by omega, by omega⟩
theorem xEnd_neg {t : List Nd} {p : Nat} {f : Bool} (h : ¬ 0 ≤ xEnd t p f) : xEnd t p f = -1 := by
  unfold xEnd at *
  rcases hp : parseX (2 * t.length + 2) f (t.drop p) with _ | ⟨k, r⟩
  · rfl
  · rw [hp] at h; simp only at h; omega
theorem xsEnd_succ {t : List Nd} {p c : Nat} {k : Bool} {s : ByteArray} {y : Nd} (h : t[p]? = some y) : xsEnd t (c + 1) k s p = if k = true ∧ ¬ cmpB s y.s < 0 then -1 else if 0 ≤ xEnd t p k then xsEnd t c k y.s (xEnd t p k).toNat else -1 := by
  have hp := (List.getElem?_eq_some_iff.1 h).1
  unfold xsEnd
  have hd := drop_atX h
  rw [hd]
  simp only [parseXs]
  by_cases hk : k = true ∧ ¬ cmpB s y.s < 0
  · rw [if_pos hk, if_pos hk]
  · rw [if_neg hk, if_neg hk]
    rw [← hd]
    unfold xEnd
    rw [parseX_fuel (m := 2 * t.length + 1) (m' := 2 * t.length + 2) (by simp; omega) (by simp; omega)]
    rcases hq : parseX (2 * t.length + 2) k (t.drop p) with _ | ⟨x, r⟩
    · simp
    · simp only
      obtain ⟨v, e⟩ := (parseX_sound _).1 _ _ _ _ hq
      have h1 : (t.drop p).length = x.flat.length + r.length := by rw [e, List.length_append]
      rw [List.length_drop] at h1
      have h0 := flatX_pos x
      rw [if_pos (by omega)]
      have h3 : ((t.length - r.length : Nat) : Int).toNat = t.length - r.length := rfl
      rw [h3]
      have h2 : t.drop (t.length - r.length) = r := by
        have : t.drop (t.length - r.length) = (t.drop p).drop x.flat.length := by rw [List.drop_drop]; congr 1; omega
        rw [this, e, List.drop_left]
      rw [h2, parseXs_fuel (m := 2 * t.length + 1) (m' := 2 * t.length + 2) (by omega) (by omega)]
      rcases parseXs (2 * t.length + 2) c k y.s r with _ | ⟨f, r'⟩ <;> rfl
/-- The error of nodes as an expression. -/
def exFault (t : List Nd) : Int := if 200 < t.length then 4 else if (readX t).isSome then 0 else 1
theorem xEnd_all {t : List Nd} : xEnd t 0 false = (t.length : Int) ↔ (readX t).isSome = true := by
  unfold xEnd readX
  rw [List.drop_zero]
  rcases hp : parseX (2 * t.length + 2) false t with _ | ⟨k, r⟩
  · simp
  · simp only
    obtain ⟨v, e⟩ := (parseX_sound _).1 _ _ _ _ hp
    have h1 : t.length = k.flat.length + r.length := by rw [← List.length_append, ← e]
    have h2 := flatX_pos k
    cases r with
    | nil => simp
    | cons a r =>
      simp only [List.length_cons] at h1 ⊢
      simp
      omega
theorem exFault_zero {t : List Nd} : exFault t = 0 ↔ t.length ≤ 200 ∧ ∃ x : Ex, x.valid false ∧ t = x.flat := by
  unfold exFault
  by_cases h : 200 < t.length
  · rw [if_pos h]; omega
  · rw [if_neg h]
    rcases hr : readX t with _ | k
    · simp only [Option.isSome_none, Bool.false_eq_true, if_false]
      constructor
      · intro q; omega
      · rintro ⟨-, k, v, e⟩
        rw [readX_iff.2 ⟨v, e⟩] at hr; cases hr
    · simp only [Option.isSome_some, if_true, true_iff]
      exact ⟨by omega, k, readX_iff.1 hr⟩
end Go.Wk
namespace Go.Wk

def Exs.app : Exs → Exs → Exs
  | .nil, q => q
  | .cons x r, q => .cons x (r.app q)
theorem app_flat : ∀ (a b : Exs), (a.app b).flat = a.flat ++ b.flat
  | .nil, b => rfl
  | .cons x r, b => by simp [Exs.app, Exs.flat, app_flat r b]
theorem app_len : ∀ (a b : Exs), (a.app b).len = a.len + b.len
  | .nil, b => by simp [Exs.app, Exs.len]
  | .cons x r, b => by simp only [Exs.app, Exs.len, app_len r b]; omega
mutual
/-- Each node has as many parts as it says. -/
def Ex.cnt : Ex → Prop
  | .node n ps => (ps.len : Int) = partsN n ∧ ps.cnt
def Exs.cnt : Exs → Prop
  | .nil => True
  | .cons x r => x.cnt ∧ r.cnt
end
theorem app_cnt : ∀ (a b : Exs), (a.app b).cnt ↔ a.cnt ∧ b.cnt
  | .nil, b => by simp [Exs.app, Exs.cnt]
  | .cons x r, b => by simp only [Exs.app, Exs.cnt, app_cnt r b, and_assoc]
mutual
theorem Ex.valid.cnt : ∀ {x : Ex} {f : Bool}, x.valid f → x.cnt
  | .node _ _, _, h => ⟨h.2.1, h.2.2.cnts⟩
theorem Exs.valid.cnts : ∀ {r : Exs} {c : Bool} {s : ByteArray}, r.valid c s → r.cnt
  | .nil, _, _, _ => trivial
  | .cons _ _, _, _, h => ⟨h.2.1.cnt, h.2.2.cnts⟩
end
/-- On the way over parts: those that are left begin here. -/
structure Over (t : List Nd) (p : Nat) (L : Exs) : Prop where
  cnt : L.cnt
  drop : ∃ r, t.drop p = L.flat ++ r
theorem Over.start {t : List Nd} {p : Nat} {f : Bool} {x : Ex} {r : List Nd} (hx : x.valid f) (h : t.drop p = x.flat ++ r) : Over t p (.cons x .nil) :=
  ⟨⟨hx.cnt, trivial⟩, r, by simp [Exs.flat, h]⟩
/-- A step: the node at hand, its parts ahead of what is left. -/
theorem Over.step {t : List Nd} {p : Nat} {n : Nd} {ps q : Exs} (h : Over t p (.cons (.node n ps) q)) : t[p]? = some n ∧ Over t (p + 1) (ps.app q) ∧ ((ps.app q).len : Int) = q.len + partsN n ∧ p + 1 + (ps.app q).flat.length = p + (Exs.cons (.node n ps) q).flat.length := by
  obtain ⟨⟨⟨h1, h2⟩, h3⟩, r, e⟩ := h
  simp only [Exs.flat, Ex.flat, List.cons_append, List.append_assoc] at e
  refine ⟨?_, ⟨(app_cnt _ _).2 ⟨h2, h3⟩, r, ?_⟩, ?_, ?_⟩
  · have := congrArg (fun l => l[0]?) e
    simpa using this
  · have := congrArg (List.drop 1) e
    rw [List.drop_drop] at this
    rw [app_flat, List.append_assoc]
    simpa using this
  · rw [app_len, ← h1]; omega
  · rw [app_flat]; simp only [Exs.flat, Ex.flat, List.length_cons, List.length_append]; omega
theorem Over.left {t : List Nd} {p : Nat} {L : Exs} (h : Over t p L) (hl : 0 < L.len) : ∃ n ps q, L = .cons (.node n ps) q := by
  cases L with
  | nil => simp [Exs.len] at hl
  | cons x q => obtain ⟨n, ps⟩ := x; exact ⟨n, ps, q, rfl⟩
theorem flatXs_len : ∀ r : Exs, r.len ≤ r.flat.length
  | .nil => Nat.le_refl _
  | .cons x r => by have := flatX_pos x; have := flatXs_len r; simp only [Exs.len, Exs.flat, List.length_append]; omega
theorem Over.le {t : List Nd} {p : Nat} {L : Exs} (h : Over t p L) (hl : 0 < L.len) : p + L.flat.length ≤ t.length := by
  obtain ⟨r, e⟩ := h.drop
  have h1 := congrArg List.length e
  rw [List.length_drop, List.length_append] at h1
  have := flatXs_len L
  omega
/-- An expression stands at a place. -/
structure XAt (t : List Nd) (p : Nat) (f : Bool) (x : Ex) : Prop where
  valid : x.valid f
  drop : ∃ r, t.drop p = x.flat ++ r
/-- Parts stand at a place. -/
structure XsAt (t : List Nd) (p : Nat) (c : Bool) (r : Exs) : Prop where
  valid : ∃ s, r.valid c s
  drop : ∃ u, t.drop p = r.flat ++ u
theorem XAt.all {x : Ex} {f : Bool} (h : x.valid f) : XAt x.flat 0 f x := ⟨h, [], by simp⟩
theorem XAt.head {t : List Nd} {p : Nat} {f : Bool} {x : Ex} (h : XAt t p f x) : t[p]? = some x.head := by
  obtain ⟨r, e⟩ := h.drop
  obtain ⟨u, hu⟩ := flatX_head x
  rw [hu] at e
  have := congrArg (fun l => l[0]?) e
  simpa using this
theorem XAt.le {t : List Nd} {p : Nat} {f : Bool} {x : Ex} (h : XAt t p f x) : p + x.flat.length ≤ t.length := by
  obtain ⟨r, e⟩ := h.drop
  have h1 := congrArg List.length e
  rw [List.length_drop, List.length_append] at h1
  have := flatX_pos x
  omega
theorem XAt.seg {t : List Nd} {p : Nat} {f : Bool} {x : Ex} (h : XAt t p f x) : Go.Wk.seg t p (p + x.flat.length) = x.flat := by
  obtain ⟨r, e⟩ := h.drop
  unfold Go.Wk.seg
  rw [e, show p + x.flat.length - p = x.flat.length by omega, List.take_left]
theorem XAt.parts {t : List Nd} {p : Nat} {f : Bool} {x : Ex} (h : XAt t p f x) : XsAt t (p + 1) (isRec x.head) x.parts := by
  obtain ⟨n, ps⟩ := x
  obtain ⟨r, e⟩ := h.drop
  refine ⟨⟨_, h.valid.2.2⟩, r, ?_⟩
  simp only [Ex.flat, List.cons_append] at e
  have := congrArg (List.drop 1) e
  rw [List.drop_drop] at this
  simpa [Ex.parts] using this
theorem XsAt.head {t : List Nd} {p : Nat} {c : Bool} {x : Ex} {r : Exs} (h : XsAt t p c (.cons x r)) : XAt t p c x ∧ XsAt t (p + x.flat.length) c r := by
  obtain ⟨⟨s, v⟩, u, e⟩ := h
  simp only [Exs.flat, List.append_assoc] at e
  refine ⟨⟨v.2.1, _, e⟩, ⟨_, v.2.2⟩, u, ?_⟩
  have := congrArg (List.drop x.flat.length) e
  rw [List.drop_drop, List.drop_left] at this
  exact this
/-- A field, and its part. -/
theorem XAt.field {t : List Nd} {p : Nat} {x : Ex} (h : XAt t p true x) : ∃ n y, x = .node n (.cons y .nil) ∧ n.op = 7 ∧ nameFault n.s = 0 ∧ XAt t (p + 1) false y ∧ x.flat.length = y.flat.length + 1 := by
  obtain ⟨n, ps⟩ := x
  have hv := h.valid
  obtain ⟨v1, v2, v3⟩ := hv
  unfold headX at v1
  rw [Bool.and_eq_true] at v1
  have h7 : n.op = 7 := by simpa using v1.2
  have e1 : partsN n = 1 := by unfold partsN; rw [if_neg (by omega), if_neg (by omega), if_pos (by omega)]
  have e2 : isRec n = false := by unfold isRec; rw [decide_eq_false]; omega
  have hnf : nameFault n.s = 0 := by
    have h0 := v1.1
    unfold fieldsN at h0
    rw [if_pos (by omega)] at h0
    unfold shapedN at h0
    rw [if_neg (by omega), if_neg (by omega), if_neg (by omega), if_neg (by omega), if_neg (by omega), if_pos h7] at h0
    simp only [Bool.and_eq_true, decide_eq_true_eq] at h0
    exact h0.2
  rw [e1] at v2
  cases ps with
  | nil => simp [Exs.len] at v2
  | cons y q =>
    cases q with
    | cons z q => simp only [Exs.len] at v2; omega
    | nil =>
      have hp := h.parts
      rw [show (Ex.node n (Exs.cons y Exs.nil)).head = n from rfl, e2] at hp
      exact ⟨n, y, rfl, h7, hnf, hp.head.1, by simp [Ex.flat, Exs.flat]⟩
def Exs.list : Exs → List Ex
  | .nil => []
  | .cons x r => x :: r.list
/-- Where the parts of a node begin (of a record: behind their fields' names), and the end of the last one. -/
def posX (c : Bool) : Nat → Exs → List Nat
  | p, .nil => [p]
  | p, .cons x r => (if c = true then p + 1 else p) :: posX c (p + x.flat.length) r
/-- What stands as the part itself: of a record, what is behind the field's name. -/
def part1 (c : Bool) (x : Ex) : Ex := match c, x with
  | true, .node _ (.cons y _) => y
  | _, x => x
theorem XsAt.at {t : List Nd} {c : Bool} : ∀ {r : Exs} {p : Nat}, XsAt t p c r → ∀ (i : Nat) (x : Ex), r.list[i]? = some x → ∃ q : Nat, (posX c p r)[i]? = some q ∧ XAt t q false (part1 c x) ∧ (c = true → 0 < q ∧ t[q - 1]? = some x.head) ∧ ((posX c p r)[i + 1]? = some (q + (part1 c x).flat.length + (if c = true ∧ i + 1 < r.len then 1 else 0)))
  | .nil, _, _, i, x, h => by simp [Exs.list] at h
  | .cons y r, p, hA, i, x, h => by
    obtain ⟨h1, h2⟩ := hA.head
    cases i with
    | zero =>
      simp only [Exs.list, List.getElem?_cons_zero, Option.some.injEq] at h
      subst h
      have hr : (posX c (p + y.flat.length) r)[0]? = some (p + y.flat.length + if c = true ∧ 0 < r.len then 1 else 0) := by
        cases r with
        | nil => simp [posX, Exs.len]
        | cons z r => simp only [posX, List.getElem?_cons_zero, Exs.len]; cases c <;> simp
      cases c with
      | false =>
        refine ⟨p, by simp [posX], h1, (fun e => nomatch e), ?_⟩
        simp only [posX, List.getElem?_cons_succ]
        rw [hr]
        simp [part1]
      | true =>
        have hh := h1.head
        obtain ⟨n, z, rfl, h7, -, hz, hl⟩ := h1.field
        refine ⟨p + 1, by simp [posX], hz, fun _ => ⟨by omega, by simpa using hh⟩, ?_⟩
        simp only [posX, List.getElem?_cons_succ]
        rw [hr, hl]
        simp only [part1, Exs.len, true_and]
        congr 1
        by_cases hr0 : 0 < r.len
        · rw [if_pos hr0, if_pos (by omega)]; omega
        · rw [if_neg hr0, if_neg (by omega)]; omega
    | succ i =>
      simp only [Exs.list, List.getElem?_cons_succ] at h
      obtain ⟨q, e1, e2, e3, e4⟩ := h2.at i x h
      refine ⟨q, by simpa [posX] using e1, e2, e3, ?_⟩
      simp only [posX, List.getElem?_cons_succ]
      rw [e4]
      simp [Exs.len]
end Go.Wk
