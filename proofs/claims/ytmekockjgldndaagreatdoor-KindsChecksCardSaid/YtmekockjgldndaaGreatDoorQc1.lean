/-
  Plain: three-way comparisons, of numbers, texts, pairs and lists. No program in sight.
  Plain: names and texts, byte by byte. No program in sight.
  Plain: nodes, their order, the end of a value. No program in sight.
  Plain: types, which are below which, and the least above two. No program in sight.
  Plain: types as nodes, there and back. No program in sight.
  Plain: where types end among nodes, and where the fields of a record's type stand. No program in sight.
  Plain: below is an order of types. No program in sight.
  Plain: the least type above two. No program in sight.
-/
import Derived.Lib.Bytealg
namespace Go.Wk

/-- A three-way comparison of a linear order. -/
structure Cmp {α : Type} (f : α → α → Int) : Prop where
  rng : ∀ a b, f a b = -1 ∨ f a b = 0 ∨ f a b = 1
  anti : ∀ a b, f b a = - f a b
  zero : ∀ a b, f a b = 0 ↔ a = b
  trans : ∀ a b c, f a b ≤ 0 → f b c ≤ 0 → f a c ≤ 0

theorem Cmp.self {α : Type} {f : α → α → Int} (h : Cmp f) (a : α) : f a a = 0 := (h.zero a a).2 rfl
theorem Cmp.lt_le {α : Type} {f : α → α → Int} (h : Cmp f) {a b c : α} (h1 : f a b < 0) (h2 : f b c ≤ 0) : f a c < 0 := by
  have h3 := h.trans a b c (by omega) h2
  rcases Int.lt_or_eq_of_le h3 with h4 | h4
  · exact h4
  · have e := (h.zero a c).1 h4
    subst e
    have := h.anti b a
    omega
theorem Cmp.le_lt {α : Type} {f : α → α → Int} (h : Cmp f) {a b c : α} (h1 : f a b ≤ 0) (h2 : f b c < 0) : f a c < 0 := by
  have h3 := h.trans a b c h1 (by omega)
  rcases Int.lt_or_eq_of_le h3 with h4 | h4
  · exact h4
  · have e := (h.zero a c).1 h4
    subst e
    have := h.anti b a
    omega
theorem Cmp.gt_iff {α : Type} {f : α → α → Int} (h : Cmp f) (a b : α) : 0 < f a b ↔ f b a < 0 := by
  have := h.anti a b
  omega
theorem Cmp.on {α β : Type} {f : α → α → Int} (h : Cmp f) (g : β → α) (hg : ∀ a b, g a = g b → a = b) : Cmp (fun a b => f (g a) (g b)) :=
  ⟨fun a b => h.rng _ _, fun a b => h.anti _ _, fun a b => (h.zero _ _).trans ⟨hg a b, fun e => by rw [e]⟩, fun a b c => h.trans _ _ _⟩

/-- The first one that differs. -/
def or2 (x y : Int) : Int := if x = 0 then y else x
theorem or2_zero (y : Int) : or2 0 y = y := rfl
theorem or2_ne {x : Int} (h : x ≠ 0) (y : Int) : or2 x y = x := by unfold or2; rw [if_neg h]

theorem Cmp.pair {α β : Type} {f : α → α → Int} {g : β → β → Int} (hf : Cmp f) (hg : Cmp g) : Cmp (fun (x y : α × β) => or2 (f x.1 y.1) (g x.2 y.2)) := by
  refine ⟨fun a b => ?_, fun a b => ?_, fun a b => ?_, fun a b c h1 h2 => ?_⟩
  · unfold or2; split
    · exact hg.rng _ _
    · exact hf.rng _ _
  · have h1 := hf.anti a.1 b.1
    have h2 := hg.anti a.2 b.2
    unfold or2; split <;> split <;> omega
  · have h1 := hf.zero a.1 b.1
    have h2 := hg.zero a.2 b.2
    unfold or2
    rw [Prod.ext_iff]
    split
    · rename_i h; rw [h2]; exact ⟨fun e => ⟨h1.1 h, e⟩, fun e => e.2⟩
    · rename_i h; exact ⟨fun e => absurd e h, fun e => absurd (h1.2 e.1) h⟩
  · by_cases e1 : f a.1 b.1 = 0
    · have q1 := (hf.zero _ _).1 e1
      simp only [e1, or2_zero] at h1
      by_cases e2 : f b.1 c.1 = 0
      · have q2 := (hf.zero _ _).1 e2
        simp only [e2, or2_zero] at h2
        have e3 : f a.1 c.1 = 0 := (hf.zero _ _).2 (q1.trans q2)
        simp only [e3, or2_zero]
        exact hg.trans _ _ _ h1 h2
      · simp only [or2_ne e2] at h2
        rw [q1]
        simp only [or2_ne e2]
        exact h2
    · simp only [or2_ne e1] at h1
      have hlt : f a.1 b.1 < 0 := by omega
      have h2' : f b.1 c.1 ≤ 0 := by
        by_cases e2 : f b.1 c.1 = 0
        · omega
        · simp only [or2_ne e2] at h2; exact h2
      have h3 := hf.lt_le hlt h2'
      simp only [or2_ne (show f a.1 c.1 ≠ 0 by omega)]
      omega

/-- Lists, by the first one that differs; the shorter one is ahead. -/
def cmpList {α : Type} (f : α → α → Int) : List α → List α → Int
  | [], [] => 0
  | [], _ :: _ => -1
  | _ :: _, [] => 1
  | a :: as, b :: bs => or2 (f a b) (cmpList f as bs)

theorem Cmp.list {α : Type} {f : α → α → Int} (hf : Cmp f) : Cmp (cmpList f) := by
  refine ⟨?_, ?_, ?_, ?_⟩
  · intro a
    induction a with
    | nil => intro b; cases b <;> simp [cmpList]
    | cons x a ih =>
      intro b
      cases b with
      | nil => simp [cmpList]
      | cons y b =>
        simp only [cmpList]; unfold or2; split
        · exact ih b
        · exact hf.rng _ _
  · intro a
    induction a with
    | nil => intro b; cases b <;> simp [cmpList]
    | cons x a ih =>
      intro b
      cases b with
      | nil => simp [cmpList]
      | cons y b =>
        have h1 := hf.anti x y
        have h2 := ih b
        simp only [cmpList]; unfold or2; split <;> split <;> omega
  · intro a
    induction a with
    | nil => intro b; cases b <;> simp [cmpList]
    | cons x a ih =>
      intro b
      cases b with
      | nil => simp [cmpList]
      | cons y b =>
        simp only [cmpList]
        rw [List.cons.injEq]
        by_cases e : f x y = 0
        · simp only [e, or2_zero]; rw [ih]; exact ⟨fun h => ⟨(hf.zero _ _).1 e, h⟩, fun h => h.2⟩
        · simp only [or2_ne e]; exact ⟨fun h => absurd h e, fun h => absurd ((hf.zero _ _).2 h.1) e⟩
  · intro a
    induction a with
    | nil => intro b c; cases c <;> simp [cmpList]
    | cons x a ih =>
      intro b c h1 h2
      cases b with
      | nil => simp [cmpList] at h1
      | cons y b =>
        cases c with
        | nil => simp [cmpList] at h2
        | cons z c =>
          simp only [cmpList] at *
          by_cases e1 : f x y = 0
          · have q1 := (hf.zero _ _).1 e1
            subst q1
            simp only [e1, or2_zero] at h1
            by_cases e2 : f x z = 0
            · simp only [e2, or2_zero] at *; exact ih b c h1 h2
            · simp only [or2_ne e2] at *; exact h2
          · simp only [or2_ne e1] at h1
            have h2' : f y z ≤ 0 := by
              by_cases e2 : f y z = 0
              · omega
              · simp only [or2_ne e2] at h2; exact h2
            have h3 := hf.lt_le (show f x y < 0 by omega) h2'
            simp only [or2_ne (show f x z ≠ 0 by omega)]
            omega

/-- Numbers. -/
def cmpI (a b : Int) : Int := if a < b then -1 else if b < a then 1 else 0
theorem cmpI_cmp : Cmp cmpI :=
  ⟨fun a b => by unfold cmpI; split <;> (try split) <;> simp, fun a b => by unfold cmpI; split <;> split <;> (try split) <;> omega,
   fun a b => by unfold cmpI; split <;> (try split) <;> omega, fun a b c => by unfold cmpI; split <;> split <;> (try split) <;> (try split) <;> (try split) <;> omega⟩

/-- Texts. -/
def cmpByte (a b : UInt8) : Int := cmpI a.toNat b.toNat
theorem cmpByte_cmp : Cmp cmpByte := cmpI_cmp.on (fun a : UInt8 => (a.toNat : Int)) (fun a b h => by
  have h' : a.toNat = b.toNat := by omega
  exact UInt8.toNat_inj.1 h')
theorem compareBytes_eq : ∀ a b : List UInt8, Lib.compareBytes a b = cmpList cmpByte a b
  | [], [] => rfl
  | [], _ :: _ => rfl
  | _ :: _, [] => rfl
  | a :: as, b :: bs => by
    simp only [Lib.compareBytes, cmpList, compareBytes_eq as bs]
    have e1 : (a < b) ↔ ((a.toNat : Int) < b.toNat) := by rw [UInt8.lt_iff_toNat_lt]; omega
    have e2 : (b < a) ↔ ((b.toNat : Int) < a.toNat) := by rw [UInt8.lt_iff_toNat_lt]; omega
    have h : cmpByte a b = if a < b then -1 else if b < a then 1 else 0 := by
      simp only [cmpByte, cmpI, e1, e2]
    rw [h]
    unfold or2
    by_cases h1 : a < b
    · simp [h1]
    · by_cases h2 : b < a <;> simp [h1, h2]

def cmpB (a b : ByteArray) : Int := Lib.compareBytes a.data.toList b.data.toList
theorem bytes_ext {a b : ByteArray} (h : a.data.toList = b.data.toList) : a = b := by
  cases a; cases b; simp at h; simp [h]
theorem cmpB_cmp : Cmp cmpB := by
  have h := cmpByte_cmp.list.on (fun a : ByteArray => a.data.toList) (fun a b h => bytes_ext h)
  have e : cmpB = fun a b : ByteArray => cmpList cmpByte a.data.toList b.data.toList := by
    funext a b; exact compareBytes_eq _ _
  rw [e]; exact h

/-- Uids. -/
def cmpUid (a b c d : ByteArray) : Int := or2 (cmpB a c) (cmpB b d)
theorem cmpUid_cmp : Cmp (fun x y : ByteArray × ByteArray => cmpUid x.1 x.2 y.1 y.2) := cmpB_cmp.pair cmpB_cmp

/-- A common head of a byte more says nothing. -/
theorem compareBytes_step {a b : List UInt8} {k : Nat} (ha : k < a.length) (hb : k < b.length) (he : a[k] = b[k]) :
    Lib.compareBytes (a.drop k) (b.drop k) = Lib.compareBytes (a.drop (k + 1)) (b.drop (k + 1)) := by
  rw [List.drop_eq_getElem_cons ha, List.drop_eq_getElem_cons hb, he]
  simp [Lib.compareBytes]
theorem compareBytes_less {a b : List UInt8} {k : Nat} (ha : k < a.length) (hb : k < b.length) (he : a[k] < b[k]) :
    Lib.compareBytes (a.drop k) (b.drop k) = -1 := by
  rw [List.drop_eq_getElem_cons ha, List.drop_eq_getElem_cons hb]
  simp [Lib.compareBytes, he]
theorem compareBytes_more {a b : List UInt8} {k : Nat} (ha : k < a.length) (hb : k < b.length) (he : b[k] < a[k]) :
    Lib.compareBytes (a.drop k) (b.drop k) = 1 := by
  rw [List.drop_eq_getElem_cons ha, List.drop_eq_getElem_cons hb]
  have : ¬ a[k] < b[k] := fun h => by have h1 : a[k].toNat < b[k].toNat := h; have h2 : b[k].toNat < a[k].toNat := he; omega
  simp [Lib.compareBytes, he, this]
theorem compareBytes_end {a b : List UInt8} {k : Nat} (h : a.length ≤ k ∨ b.length ≤ k) (ha : k ≤ a.length) (hb : k ≤ b.length) :
    Lib.compareBytes (a.drop k) (b.drop k) = cmpI a.length b.length := by
  by_cases h1 : a.length ≤ k
  · rw [List.drop_of_length_le h1]
    by_cases h2 : b.length ≤ k
    · rw [List.drop_of_length_le h2]
      have : a.length = b.length := by omega
      simp [Lib.compareBytes, cmpI, this]
    · rw [List.drop_eq_getElem_cons (by omega)]
      have : a.length < b.length := by omega
      simp [Lib.compareBytes, cmpI, this]
  · have h2 : b.length ≤ k := by omega
    rw [List.drop_of_length_le h2, List.drop_eq_getElem_cons (by omega)]
    have h3 : ¬ a.length < b.length := by omega
    have h4 : b.length < a.length := by omega
    simp [Lib.compareBytes, cmpI, h3, h4]
end Go.Wk
namespace Go.Wk

def isLet (n : Int) : Bool := (decide (97 ≤ n) && decide (n ≤ 122)) || (decide (65 ≤ n) && decide (n ≤ 90)) || (n == 95)
def isDig (n : Int) : Bool := decide (48 ≤ n) && decide (n ≤ 57)
def isPrt (n : Int) : Bool := decide (32 ≤ n) && decide (n ≤ 126)
def isWrd (b : UInt8) : Bool := isLet b.toNat || isDig b.toNat
def isLetB (b : UInt8) : Bool := isLet b.toNat
def isPrtB (b : UInt8) : Bool := isPrt b.toNat
def nameOk : List UInt8 → Bool
  | [] => false
  | b :: r => isLetB b && r.all isWrd
/-- What is wrong with a name: 0 nothing, 1 its form, 4 its length. -/
def nameFault (s : ByteArray) : Int := if nameOk s.data.toList then (if 20 < s.size then 4 else 0) else 1
/-- What is wrong with a text. -/
def textFault (s : ByteArray) : Int := if 60 < s.size then 4 else if s.data.toList.all isPrtB then 0 else 1

theorem all_succ (s : ByteArray) (p : UInt8 → Bool) {k : Nat} (h : k < s.size) : (s.data.toList.take (k + 1)).all p = ((s.data.toList.take k).all p && p s[k]) := by
  have h' : k < s.data.toList.length := by simpa using h
  rw [List.take_succ_eq_append_getElem h', List.all_append]
  simp only [List.all_cons, List.all_nil, Bool.and_true]
  rfl
theorem all_stop {s : ByteArray} {p : UInt8 → Bool} {k : Nat} (h : k < s.size) (hp : p s[k] = false) : s.data.toList.all p = false := by
  have h' : k < s.data.toList.length := by simpa using h
  rw [List.all_eq_false]
  exact ⟨s.data.toList[k], List.getElem_mem h', by rw [show p s.data.toList[k] = false from hp]; decide⟩
theorem all_end {s : ByteArray} {p : UInt8 → Bool} {k : Nat} (h : s.size ≤ k) : (s.data.toList.take k).all p = s.data.toList.all p := by
  rw [List.take_of_length_le (by simpa using h)]

theorem nameOk_all {s : ByteArray} (h : 0 < s.size) (hl : isLetB s[0] = true) : nameOk s.data.toList = s.data.toList.all isWrd := by
  have h' : 0 < s.data.toList.length := by simpa using h
  have e : s.data.toList = s[0] :: s.data.toList.drop 1 := List.drop_eq_getElem_cons h'
  rw [e]
  simp only [nameOk, List.all_cons, hl, Bool.true_and]
  have : isWrd s[0] = true := by unfold isWrd; unfold isLetB at hl; rw [hl]; rfl
  rw [this, Bool.true_and]
theorem nameOk_first {s : ByteArray} (h : 0 < s.size) (hl : isLetB s[0] = false) : nameOk s.data.toList = false := by
  have h' : 0 < s.data.toList.length := by simpa using h
  have e : s.data.toList = s[0] :: s.data.toList.drop 1 := List.drop_eq_getElem_cons h'
  rw [e]
  simp only [nameOk, hl, Bool.false_and]
theorem nameOk_empty {s : ByteArray} (h : s.size = 0) : nameOk s.data.toList = false := by
  have : s.data.toList = [] := List.eq_nil_of_length_eq_zero (by simpa using h)
  rw [this]; rfl
theorem nameOk_take_one {s : ByteArray} (h : 0 < s.size) (hl : isLetB s[0] = true) : nameOk (s.data.toList.take 1) = true := by
  have h' : 0 < s.data.toList.length := by simpa using h
  have e : s.data.toList = s[0] :: s.data.toList.drop 1 := List.drop_eq_getElem_cons h'
  rw [e]
  simp [nameOk, hl]
theorem nameOk_take_succ {s : ByteArray} {k : Nat} (hk : 0 < k) (h : k < s.size) (h1 : nameOk (s.data.toList.take k) = true) (h2 : isWrd s[k] = true) : nameOk (s.data.toList.take (k + 1)) = true := by
  have h' : k < s.data.toList.length := by simpa using h
  rw [List.take_succ_eq_append_getElem h']
  have h0 : 0 < s.data.toList.length := by omega
  have e : s.data.toList.take k = s.data.toList[0] :: (s.data.toList.take k).drop 1 := by
    have hk' : 0 < (s.data.toList.take k).length := by rw [List.length_take]; omega
    have := List.drop_eq_getElem_cons hk'
    rw [List.getElem_take] at this
    exact this
  rw [e] at h1 ⊢
  simp only [nameOk, List.cons_append, List.all_append, List.all_cons, List.all_nil, Bool.and_true, Bool.and_eq_true] at h1 ⊢
  exact ⟨h1.1, h1.2, h2⟩
theorem nameOk_stop {s : ByteArray} {k : Nat} (hk : 0 < k) (h : k < s.size) (h2 : isWrd s[k] = false) : nameOk s.data.toList = false := by
  have h0 : 0 < s.size := by omega
  rcases hl : isLetB s[0] with _ | _
  · exact nameOk_first h0 hl
  · rw [nameOk_all h0 hl]; exact all_stop h h2
theorem nameOk_end {s : ByteArray} {k : Nat} (h : s.size ≤ k) (h1 : nameOk (s.data.toList.take k) = true) : nameOk s.data.toList = true := by
  rwa [List.take_of_length_le (by simpa using h)] at h1
end Go.Wk
namespace Go.Wk

structure Nd where
  op : Int
  n : Int
  s : ByteArray
  t : ByteArray
theorem Nd.ext4 {x y : Nd} (h1 : x.op = y.op) (h2 : x.n = y.n) (h3 : x.s = y.s) (h4 : x.t = y.t) : x = y := by
  cases x; cases y; simp_all

def or4 (x y z u : Int) : Int := or2 x (or2 y (or2 z u))
def cmpNd (x y : Nd) : Int := or4 (cmpI x.op y.op) (cmpI x.n y.n) (cmpB x.s y.s) (cmpB x.t y.t)
theorem cmpNd_cmp : Cmp cmpNd :=
  (cmpI_cmp.pair (cmpI_cmp.pair (cmpB_cmp.pair cmpB_cmp))).on (fun x : Nd => (x.op, x.n, x.s, x.t)) (fun a b h => by
    simp only [Prod.mk.injEq] at h
    exact Nd.ext4 h.1 h.2.1 h.2.2.1 h.2.2.2)
def cmpNds : List Nd → List Nd → Int := cmpList cmpNd
theorem cmpNds_cmp : Cmp cmpNds := cmpNd_cmp.list

def noB (s : ByteArray) : Bool := decide (s.size = 0)
def shapedN (x : Nd) : Bool :=
  if x.op = 1 then (decide (x.n = 0) || decide (x.n = 1)) && noB x.s && noB x.t
  else if x.op = 2 then noB x.s && noB x.t
  else if x.op = 3 then decide (x.n = 0) && noB x.t && decide (textFault x.s = 0)
  else if x.op = 4 then decide (x.n = 0) && decide (nameFault x.s = 0) && decide (textFault x.t = 0)
  else if x.op = 5 ∨ x.op = 6 then decide (0 ≤ x.n) && noB x.s && noB x.t
  else if x.op = 7 then decide (x.n = 0) && noB x.t && decide (nameFault x.s = 0)
  else false

/-- The nodes from one place up to another one. -/
def seg (v : List Nd) (i j : Nat) : List Nd := (v.drop i).take (j - i)
theorem seg_length {v : List Nd} {i j : Nat} (h : j ≤ v.length) : (seg v i j).length = j - i := by
  simp [seg]; omega

/-- Is the part from one place up to another one ahead of that behind it? -/
def rises (v : List Nd) (last : Option Nat) (p e : Nat) : Bool :=
  match last with
  | none => true
  | some l => decide (cmpNds (seg v l p) (seg v p e) < 0)
def setLoop (v : List Nd) (f : Nat → Option Nat) : Nat → Option Nat → Nat → Option Nat
  | 0, _, p => some p
  | k + 1, last, p =>
    match f p with
    | none => none
    | some e => if rises v last p e then setLoop v f k (some p) e else none
/-- May this be the next field? -/
def fieldOk (v : List Nd) (last : ByteArray) (p : Nat) : Option ByteArray :=
  match v[p]? with
  | none => none
  | some x => if decide (x.op = 7) && shapedN x && decide (cmpB last x.s < 0) then some x.s else none
def recLoop (v : List Nd) (f : Nat → Option Nat) : Nat → ByteArray → Nat → Option Nat
  | 0, _, p => some p
  | k + 1, last, p =>
    match fieldOk v last p with
    | none => none
    | some s =>
      match f (p + 1) with
      | none => none
      | some e => recLoop v f k s e
def partEnd (v : List Nd) : Nat → Nat → Option Nat
  | 0, _ => none
  | m + 1, p =>
    match v[p]? with
    | none => none
    | some x =>
      if shapedN x then
        if x.op = 5 then setLoop v (partEnd v m) x.n.toNat none (p + 1)
        else if x.op = 6 then recLoop v (partEnd v m) x.n.toNat .empty (p + 1)
        else if x.op = 7 then none
        else some (p + 1)
      else none
/-- The error of nodes as a value. -/
def valFault (v : List Nd) : Int :=
  if 200 < v.length then 4 else if partEnd v (v.length + 1) 0 = some v.length then 0 else 1

theorem setLoop_le {v : List Nd} {f : Nat → Option Nat} (hf : ∀ p e, f p = some e → p < e ∧ e ≤ v.length) :
    ∀ k last p e, p ≤ v.length → setLoop v f k last p = some e → p ≤ e ∧ e ≤ v.length := by
  intro k
  induction k with
  | zero => intro last p e hp h; simp only [setLoop, Option.some.injEq] at h; omega
  | succ k ih =>
    intro last p e hp h
    simp only [setLoop] at h
    split at h
    · cases h
    · rename_i q hq
      have := hf p q hq
      split at h
      · have := ih _ _ _ (by omega) h; omega
      · cases h
theorem recLoop_le {v : List Nd} {f : Nat → Option Nat} (hf : ∀ p e, f p = some e → p < e ∧ e ≤ v.length) :
    ∀ k last p e, p ≤ v.length → recLoop v f k last p = some e → p ≤ e ∧ e ≤ v.length := by
  intro k
  induction k with
  | zero => intro last p e hp h; simp only [recLoop, Option.some.injEq] at h; omega
  | succ k ih =>
    intro last p e hp h
    simp only [recLoop] at h
    split at h
    · cases h
    · split at h
      · cases h
      · rename_i q hq
        have := hf _ q hq
        have := ih _ _ _ (by omega) h; omega
theorem partEnd_le {v : List Nd} : ∀ m p e, partEnd v m p = some e → p < e ∧ e ≤ v.length := by
  intro m
  induction m with
  | zero => intro p e h; cases h
  | succ m ih =>
    intro p e h
    simp only [partEnd] at h
    split at h
    · cases h
    · rename_i x hx
      have hp : p < v.length := (List.getElem?_eq_some_iff.1 hx).1
      split at h
      · split at h
        · have := setLoop_le ih _ _ _ _ (by omega) h; omega
        · split at h
          · have := recLoop_le ih _ _ _ _ (by omega) h; omega
          · split at h
            · cases h
            · simp only [Option.some.injEq] at h; omega
      · cases h
end Go.Wk
namespace Go.Wk

mutual
/-- A type: one without parts, of entities, of sets, of records. -/
inductive Kd
  | base (op : Int)
  | ent (s : ByteArray)
  | set (p : Kd)
  | fs (f : Fl)
/-- The fields of a record's type: a name, must it be there, its type. -/
inductive Fl
  | nil
  | cons (s : ByteArray) (m : Bool) (k : Kd) (r : Fl)
end
mutual
def Kd.sz : Kd → Nat
  | .base _ => 1
  | .ent _ => 1
  | .set p => p.sz + 1
  | .fs f => f.sz + 1
def Fl.sz : Fl → Nat
  | .nil => 0
  | .cons _ _ k r => k.sz + r.sz + 1
end
def Fl.find : Fl → ByteArray → Option (Bool × Kd)
  | .nil, _ => none
  | .cons s m k r, x => if s = x then some (m, k) else r.find x
def isAny : Kd → Bool
  | .base x => x == 48
  | _ => false
def isNone : Kd → Bool
  | .base x => x == 49
  | _ => false
/-- All that must be there by g are in f. -/
def mustF : Fl → Fl → Bool
  | .nil, _ => true
  | .cons s m _ r, f => (!m || (f.find s).isSome) && mustF r f
mutual
def belowK : Kd → Kd → Bool
  | .base x, b => x == 49 || isAny b || (match b with | .base y => x == y | _ => false)
  | .ent s, b => isAny b || (match b with | .ent t => decide (s = t) | _ => false)
  | .set p, b => isAny b || (match b with | .set q => belowK p q | _ => false)
  | .fs f, b => isAny b || (match b with | .fs g => belowF f g && mustF g f | _ => false)
def belowF : Fl → Fl → Bool
  | .nil, _ => true
  | .cons s m k r, g => (match g.find s with | none => false | some (m', k') => (!m' || m) && belowK k k') && belowF r g
end
/-- The names ascend, behind x. -/
def Fl.ascFrom : ByteArray → Fl → Prop
  | _, .nil => True
  | x, .cons s _ _ r => cmpB x s < 0 ∧ r.ascFrom s
def Fl.asc : Fl → Prop
  | .nil => True
  | .cons s _ _ r => r.ascFrom s
mutual
def Kd.ok : Kd → Prop
  | .base _ => True
  | .ent _ => True
  | .set p => p.ok
  | .fs f => f.asc ∧ f.ok
def Fl.ok : Fl → Prop
  | .nil => True
  | .cons _ _ k r => k.ok ∧ r.ok
end
theorem asc_tail {x : ByteArray} {f : Fl} (h : f.ascFrom x) : f.asc := by
  cases f with
  | nil => trivial
  | cons s m k r => exact h.2
theorem find_lt {x : ByteArray} {f : Fl} (h : f.ascFrom x) {s : ByteArray} {v : Bool × Kd} (hf : f.find s = some v) : cmpB x s < 0 := by
  induction f using Fl.rec (motive_1 := fun _ => True) generalizing x with
  | nil => cases hf
  | cons t m k r _ ih =>
    simp only [Fl.find] at hf
    split at hf
    · rename_i e; subst e; exact h.1
    · exact cmpB_cmp.lt_le h.1 (by have := ih h.2 hf; omega)
  | _ => trivial
theorem find_sz {f : Fl} {s : ByteArray} {m : Bool} {k : Kd} (hf : f.find s = some (m, k)) : k.sz < f.sz := by
  induction f using Fl.rec (motive_1 := fun _ => True) with
  | nil => cases hf
  | cons t m' k' r _ ih =>
    simp only [Fl.find] at hf
    simp only [Fl.sz]
    split at hf
    · injection hf with hf; injection hf with h1 h2; subst h2; omega
    · have := ih hf; omega
  | _ => trivial
theorem find_ok {f : Fl} (h : f.ok) {s : ByteArray} {m : Bool} {k : Kd} (hf : f.find s = some (m, k)) : k.ok := by
  induction f using Fl.rec (motive_1 := fun _ => True) with
  | nil => cases hf
  | cons t m' k' r _ ih =>
    simp only [Fl.find] at hf
    simp only [Fl.ok] at h
    split at hf
    · injection hf with hf; injection hf with h1 h2; subst h2; exact h.1
    · exact ih h.2 hf
  | _ => trivial
/-- Below, by what is found. -/
theorem belowF_iff {f g : Fl} (h : f.asc) : belowF f g = true ↔ ∀ s m k, f.find s = some (m, k) → ∃ m' k', g.find s = some (m', k') ∧ (m' = true → m = true) ∧ belowK k k' = true := by
  induction f using Fl.rec (motive_1 := fun _ => True) with
  | nil => simp [belowF, Fl.find]
  | cons t m k r _ ih =>
    have ih := ih (asc_tail h)
    simp only [belowF, Bool.and_eq_true, ih]
    constructor
    · rintro ⟨h1, h2⟩ s m0 k0 hf
      simp only [Fl.find] at hf
      split at hf
      · rename_i e; subst e
        injection hf with hf; injection hf with e1 e2; subst e1 e2
        rcases hg : g.find t with _ | ⟨m', k'⟩
        · rw [hg] at h1; cases h1
        · rw [hg] at h1
          simp only [Bool.and_eq_true, Bool.or_eq_true, Bool.not_eq_true'] at h1
          exact ⟨m', k', rfl, fun e => by rcases h1.1 with h | h; · rw [e] at h; cases h
                                          · exact h, h1.2⟩
      · exact h2 s m0 k0 hf
    · intro hall
      constructor
      · obtain ⟨m', k', hg, h1, h2⟩ := hall t m k (by simp [Fl.find])
        rw [hg]
        simp only [Bool.and_eq_true, Bool.or_eq_true, Bool.not_eq_true']
        exact ⟨by cases m' with
          | false => exact .inl rfl
          | true => exact .inr (h1 rfl), h2⟩
      · intro s m0 k0 hf
        refine hall s m0 k0 ?_
        have hlt := find_lt h hf
        simp only [Fl.find]
        rw [if_neg (fun e => by subst e; rw [cmpB_cmp.self] at hlt; omega)]
        exact hf
  | _ => trivial
theorem mustF_iff {g f : Fl} (h : g.asc) : mustF g f = true ↔ ∀ s k, g.find s = some (true, k) → (f.find s).isSome = true := by
  induction g using Fl.rec (motive_1 := fun _ => True) with
  | nil => simp [mustF, Fl.find]
  | cons t m k r _ ih =>
    have ih := ih (asc_tail h)
    simp only [mustF, Bool.and_eq_true, ih, Bool.or_eq_true, Bool.not_eq_true']
    constructor
    · rintro ⟨h1, h2⟩ s k0 hf
      simp only [Fl.find] at hf
      split at hf
      · rename_i e; subst e
        injection hf with hf; injection hf with e1 e2; subst e1 e2
        rcases h1 with h1 | h1
        · cases h1
        · exact h1
      · exact h2 s k0 hf
    · intro hall
      constructor
      · cases m with
        | false => exact .inl rfl
        | true => exact .inr (hall t k (by simp [Fl.find]))
      · intro s k0 hf
        refine hall s k0 ?_
        have hlt := find_lt h hf
        simp only [Fl.find]
        rw [if_neg (fun e => by subst e; rw [cmpB_cmp.self] at hlt; omega)]
        exact hf
  | _ => trivial
theorem below_any (a b : Kd) (h : isAny b = true) : belowK a b = true := by cases a <;> simp [belowK, h]
theorem none_below (a b : Kd) (h : isNone a = true) : belowK a b = true := by
  cases a with
  | base x => simp only [isNone] at h; simp [belowK, h]
  | _ => cases h
/-- Each is below itself. -/
theorem below_refl : ∀ (n : Nat) (a : Kd), a.sz ≤ n → a.ok → belowK a a = true
  | 0, a, h, _ => by cases a <;> simp [Kd.sz] at h
  | n + 1, a, h, hok => by
    cases a with
    | base x => simp [belowK]
    | ent s => simp [belowK]
    | set p =>
      simp only [Kd.sz] at h
      simp [belowK, below_refl n p (by omega) hok]
    | fs f =>
      simp only [Kd.sz] at h
      simp only [belowK, Bool.or_eq_true, Bool.and_eq_true]
      refine .inr ⟨(belowF_iff hok.1).2 fun s m k hf => ⟨m, k, hf, id, below_refl n k (by have := find_sz hf; omega) (find_ok hok.2 hf)⟩, (mustF_iff hok.1).2 fun s k hf => by rw [hf]; rfl⟩
end Go.Wk
namespace Go.Wk

def emp : ByteArray := ⟨#[]⟩
mutual
/-- A type's nodes. -/
def Kd.flat : Kd → List Nd
  | .base x => [⟨x, 0, emp, emp⟩]
  | .ent s => [⟨44, 0, s, emp⟩]
  | .set p => ⟨45, 0, emp, emp⟩ :: p.flat
  | .fs f => ⟨46, f.len, emp, emp⟩ :: f.flat
def Fl.len : Fl → Nat
  | .nil => 0
  | .cons _ _ _ r => r.len + 1
def Fl.flat : Fl → List Nd
  | .nil => []
  | .cons s m k r => ⟨47, if m = true then 1 else 0, s, emp⟩ :: (k.flat ++ r.flat)
end
def baseOp (x : Int) : Prop := x = 41 ∨ x = 42 ∨ x = 43 ∨ x = 48 ∨ x = 49
instance (x : Int) : Decidable (baseOp x) := by unfold baseOp; infer_instance
mutual
/-- A type as it may be handed in. -/
def Kd.valid : Kd → Prop
  | .base x => baseOp x
  | .ent s => nameFault s = 0
  | .set p => p.valid
  | .fs f => f.validFrom emp
def Fl.validFrom : Fl → ByteArray → Prop
  | .nil, _ => True
  | .cons s _ k r, x => cmpB x s < 0 ∧ nameFault s = 0 ∧ k.valid ∧ r.validFrom s
end
def kfOk (x : ByteArray) (y : Nd) : Prop := y.op = 47 ∧ (y.n = 0 ∨ y.n = 1) ∧ y.t = emp ∧ nameFault y.s = 0 ∧ cmpB x y.s < 0
instance (x : ByteArray) (y : Nd) : Decidable (kfOk x y) := by unfold kfOk; infer_instance
mutual
/-- The type at the head of nodes, and what is behind it. -/
def parseK : Nat → List Nd → Option (Kd × List Nd)
  | 0, _ => none
  | _ + 1, [] => none
  | n + 1, x :: r =>
    if baseOp x.op then (if x.n = 0 ∧ x.s = emp ∧ x.t = emp then some (.base x.op, r) else none)
    else if x.op = 44 then (if x.n = 0 ∧ nameFault x.s = 0 ∧ x.t = emp then some (.ent x.s, r) else none)
    else if x.op = 45 then (match parseK n r with
      | none => none
      | some (p, r') => if x.n = 0 ∧ x.s = emp ∧ x.t = emp then some (.set p, r') else none)
    else if x.op = 46 then (match parseF n x.n.toNat emp r with
      | none => none
      | some (f, r') => if 0 ≤ x.n ∧ x.s = emp ∧ x.t = emp then some (.fs f, r') else none)
    else none
def parseF : Nat → Nat → ByteArray → List Nd → Option (Fl × List Nd)
  | _, 0, _, r => some (.nil, r)
  | 0, _ + 1, _, _ => none
  | _ + 1, _ + 1, _, [] => none
  | n + 1, c + 1, x, y :: r =>
    if kfOk x y then (match parseK n r with
      | none => none
      | some (k, r') => match parseF n c y.s r' with
        | none => none
        | some (f, r'') => some (.cons y.s (y.n == 1) k f, r''))
    else none
end
theorem nd_eq {y : Nd} {a b : Int} {c d : ByteArray} (h1 : y.op = a) (h2 : y.n = b) (h3 : y.s = c) (h4 : y.t = d) : y = ⟨a, b, c, d⟩ := by cases y; simp_all
theorem parse_sound : ∀ n : Nat, (∀ P k r, parseK n P = some (k, r) → k.valid ∧ P = k.flat ++ r) ∧ (∀ c x P f r, parseF n c x P = some (f, r) → f.validFrom x ∧ f.len = c ∧ P = f.flat ++ r)
  | 0 => by
    refine ⟨fun P k r h => by simp [parseK] at h, fun c x P f r h => ?_⟩
    cases c with
    | zero =>
      simp only [parseF, Option.some.injEq, Prod.mk.injEq] at h
      obtain ⟨rfl, rfl⟩ := h
      exact ⟨trivial, rfl, rfl⟩
    | succ c => simp [parseF] at h
  | n + 1 => by
    obtain ⟨ihK, ihF⟩ := parse_sound n
    refine ⟨fun P k r h => ?_, fun c x P f r h => ?_⟩
    · cases P with
      | nil => simp [parseK] at h
      | cons y P =>
        simp only [parseK] at h
        split at h
        · rename_i hb
          split at h
          · rename_i hc
            simp only [Option.some.injEq, Prod.mk.injEq] at h
            obtain ⟨rfl, rfl⟩ := h
            exact ⟨hb, by simp only [Kd.flat]; rw [nd_eq rfl hc.1 hc.2.1 hc.2.2]; rfl⟩
          · cases h
        · split at h
          · rename_i ho
            split at h
            · rename_i hc
              simp only [Option.some.injEq, Prod.mk.injEq] at h
              obtain ⟨rfl, rfl⟩ := h
              exact ⟨hc.2.1, by simp only [Kd.flat]; rw [nd_eq ho hc.1 rfl hc.2.2]; rfl⟩
            · cases h
          · split at h
            · rename_i ho
              rcases hp : parseK n P with _ | ⟨p, r'⟩
              · rw [hp] at h; cases h
              · rw [hp] at h
                simp only at h
                split at h
                · rename_i hc
                  simp only [Option.some.injEq, Prod.mk.injEq] at h
                  obtain ⟨rfl, rfl⟩ := h
                  obtain ⟨v, e⟩ := ihK _ _ _ hp
                  exact ⟨v, by simp only [Kd.flat]; rw [nd_eq ho hc.1 hc.2.1 hc.2.2, e]; rfl⟩
                · cases h
            · split at h
              · rename_i ho
                rcases hp : parseF n y.n.toNat emp P with _ | ⟨f, r'⟩
                · rw [hp] at h; cases h
                · rw [hp] at h
                  simp only at h
                  split at h
                  · rename_i hc
                    simp only [Option.some.injEq, Prod.mk.injEq] at h
                    obtain ⟨rfl, rfl⟩ := h
                    obtain ⟨v, el, e⟩ := ihF _ _ _ _ _ hp
                    have en : y.n = (f.len : Int) := by rw [el]; omega
                    exact ⟨v, by simp only [Kd.flat]; rw [nd_eq ho en hc.2.1 hc.2.2, e]; rfl⟩
                  · cases h
              · cases h
    · cases c with
      | zero =>
        simp only [parseF, Option.some.injEq, Prod.mk.injEq] at h
        obtain ⟨rfl, rfl⟩ := h
        exact ⟨trivial, rfl, rfl⟩
      | succ c =>
        cases P with
        | nil => simp [parseF] at h
        | cons y P =>
          simp only [parseF] at h
          split at h
          · rename_i hf
            rcases hp : parseK n P with _ | ⟨p, r'⟩
            · rw [hp] at h; cases h
            · rw [hp] at h
              simp only at h
              rcases hq : parseF n c y.s r' with _ | ⟨g, r''⟩
              · rw [hq] at h; cases h
              · rw [hq] at h
                simp only [Option.some.injEq, Prod.mk.injEq] at h
                obtain ⟨rfl, rfl⟩ := h
                obtain ⟨v1, e1⟩ := ihK _ _ _ hp
                obtain ⟨v2, el, e2⟩ := ihF _ _ _ _ _ hq
                refine ⟨⟨hf.2.2.2.2, hf.2.2.2.1, v1, v2⟩, by simp [Fl.len, el], ?_⟩
                have en : y.n = if (y.n == 1) = true then 1 else 0 := by
                  rcases hf.2.1 with q | q <;> simp [q]
                simp only [Fl.flat, List.cons_append, List.append_assoc]
                rw [← e2, ← e1]
                congr 1
                exact nd_eq hf.1 en rfl hf.2.2.1
          · cases h
theorem parse_full : ∀ n : Nat, (∀ k r, k.valid → k.flat.length ≤ n → parseK n (k.flat ++ r) = some (k, r)) ∧ (∀ f x r, f.validFrom x → f.flat.length ≤ n → parseF n f.len x (f.flat ++ r) = some (f, r))
  | 0 => by
    refine ⟨fun k r _ h => by cases k <;> simp [Kd.flat] at h, fun f x r _ h => ?_⟩
    cases f with
    | nil => simp [Fl.len, parseF, Fl.flat]
    | cons s m k q => simp [Fl.flat] at h
  | n + 1 => by
    obtain ⟨ihK, ihF⟩ := parse_full n
    refine ⟨fun k r hv hl => ?_, fun f x r hv hl => ?_⟩
    · cases k with
      | base y =>
        have hb : baseOp y := hv
        simp [Kd.flat, parseK, hb]
      | ent s =>
        have h1 : ¬ baseOp 44 := by decide
        have h2 : nameFault s = 0 := hv
        simp [Kd.flat, parseK, h1, h2]
      | set p =>
        have h1 : ¬ baseOp 45 := by decide
        simp only [Kd.flat, List.length_cons] at hl
        simp [Kd.flat, parseK, h1, ihK p r hv (by omega)]
      | fs f =>
        have h1 : ¬ baseOp 46 := by decide
        simp only [Kd.flat, List.length_cons] at hl
        simp [Kd.flat, parseK, h1, ihF f emp r hv (by omega)]
    · cases f with
      | nil => cases n <;> simp [Fl.len, parseF, Fl.flat]
      | cons s m k q =>
        obtain ⟨v1, v2, v3, v4⟩ := hv
        simp only [Fl.flat, List.length_cons, List.length_append] at hl
        have hf : kfOk x ⟨47, if m = true then 1 else 0, s, emp⟩ := ⟨rfl, by cases m <;> simp, rfl, v2, v1⟩
        have hm : (((if m = true then 1 else 0 : Int)) == 1) = m := by cases m <;> rfl
        simp only [Fl.flat, Fl.len, List.cons_append, List.append_assoc, parseF, if_pos hf, ihK k (q.flat ++ r) v3 (by omega), ihF q s r v4 (by omega), hm]
/-- The type that nodes are. -/
def readK (P : List Nd) : Option Kd := match parseK P.length P with
  | some (k, []) => some k
  | _ => none
theorem readK_iff {P : List Nd} {k : Kd} : readK P = some k ↔ k.valid ∧ P = k.flat := by
  unfold readK
  constructor
  · intro h
    rcases hp : parseK P.length P with _ | ⟨k', r⟩
    · rw [hp] at h; cases h
    · rw [hp] at h
      cases r with
      | cons a r => cases h
      | nil =>
        simp only [Option.some.injEq] at h
        subst h
        obtain ⟨v, e⟩ := (parse_sound _).1 _ _ _ hp
        exact ⟨v, by simpa using e⟩
  · rintro ⟨v, rfl⟩
    have := (parse_full k.flat.length).1 k [] v (Nat.le_refl _)
    rw [List.append_nil] at this
    rw [this]
theorem flat_inj {a b : Kd} (ha : a.valid) (hb : b.valid) (h : a.flat = b.flat) : a = b := by
  have h1 := readK_iff.2 ⟨ha, rfl⟩
  have h2 := readK_iff.2 ⟨hb, rfl⟩
  rw [h, h2] at h1
  injection h1 with h1
  exact h1.symm
end Go.Wk
namespace Go.Wk

theorem parse_more {n n' : Nat} {P r : List Nd} {k : Kd} (h : parseK n P = some (k, r)) (h' : P.length ≤ n') : parseK n' P = some (k, r) := by
  obtain ⟨v, e⟩ := (parse_sound n).1 P k r h
  have hl : k.flat.length ≤ n' := by rw [e, List.length_append] at h'; omega
  have := (parse_full n').1 k r v hl
  rwa [← e] at this
theorem parseF_more {n n' c : Nat} {x : ByteArray} {P r : List Nd} {f : Fl} (h : parseF n c x P = some (f, r)) (h' : P.length ≤ n') : parseF n' c x P = some (f, r) := by
  obtain ⟨v, e1, e⟩ := (parse_sound n).2 c x P f r h
  have hl : f.flat.length ≤ n' := by rw [e, List.length_append] at h'; omega
  have := (parse_full n').2 f x r v hl
  rwa [← e, e1] at this
theorem parse_fuel {n n' : Nat} {P : List Nd} (h : P.length ≤ n) (h' : P.length ≤ n') : parseK n P = parseK n' P := by
  rcases e : parseK n P with _ | ⟨k, r⟩
  · rcases e' : parseK n' P with _ | ⟨k, r⟩
    · rfl
    · rw [parse_more e' h] at e; cases e
  · exact (parse_more e h').symm
theorem parseF_fuel {n n' c : Nat} {x : ByteArray} {P : List Nd} (h : P.length ≤ n) (h' : P.length ≤ n') : parseF n c x P = parseF n' c x P := by
  rcases e : parseF n c x P with _ | ⟨k, r⟩
  · rcases e' : parseF n' c x P with _ | ⟨k, r⟩
    · rfl
    · rw [parseF_more e' h] at e; cases e
  · exact (parseF_more e h').symm
/-- One field at the head of nodes. -/
def parse1 (m : Nat) (x : ByteArray) : List Nd → Option (ByteArray × Bool × Kd × List Nd)
  | [] => none
  | y :: r => if kfOk x y then (match parseK m r with
    | none => none
    | some (k, r') => some (y.s, y.n == 1, k, r')) else none
theorem parse_shorter {n : Nat} {P r : List Nd} {k : Kd} (h : parseK n P = some (k, r)) : r.length < P.length := by
  obtain ⟨v, e⟩ := (parse_sound n).1 P k r h
  have h2 : 0 < k.flat.length := by cases k <;> simp [Kd.flat]
  rw [e, List.length_append]
  omega
theorem parse1_shorter {m : Nat} {x s : ByteArray} {b : Bool} {k : Kd} {Q r : List Nd} (h : parse1 m x Q = some (s, b, k, r)) : r.length + 2 ≤ Q.length := by
  cases Q with
  | nil => cases h
  | cons y Q =>
    simp only [parse1] at h
    split at h
    · rcases hp : parseK m Q with _ | ⟨k', r'⟩
      · rw [hp] at h; cases h
      · rw [hp] at h
        simp only [Option.some.injEq, Prod.mk.injEq] at h
        have := parse_shorter hp
        rw [← h.2.2.2, List.length_cons]
        omega
    · cases h
theorem parseF_step {m c : Nat} {x : ByteArray} {Q : List Nd} (h : Q.length ≤ m) : parseF m (c + 1) x Q = (match parse1 m x Q with
    | none => none
    | some (s, b, k, r') => match parseF m c s r' with
      | none => none
      | some (f, r'') => some (.cons s b k f, r'')) := by
  cases Q with
  | nil => cases m <;> rfl
  | cons y r =>
    rw [List.length_cons] at h
    cases m with
    | zero => omega
    | succ m =>
      simp only [parseF, parse1]
      by_cases hk : kfOk x y
      · simp only [if_pos hk]
        rw [parse_fuel (n := m) (n' := m + 1) (by omega) (by omega)]
        rcases hp : parseK (m + 1) r with _ | ⟨k, r'⟩
        · rfl
        · have := parse_shorter hp
          simp only
          rw [parseF_fuel (n := m) (n' := m + 1) (by omega) (by omega)]
          try (rcases parseF (m + 1) c y.s r' with _ | ⟨f, r''⟩ <;> rfl)
      · simp only [if_neg hk]
/-- The place behind the type that begins at one; below 0: there is none. -/
def kEnd (t : List Nd) (p : Nat) : Int := match parseK (t.length + 1) (t.drop p) with
  | some (_, r) => ((t.length - r.length : Nat) : Int)
  | none => -1
/-- The place behind so many fields; below 0: they are none. -/
def fEnd (t : List Nd) (c : Nat) (x : ByteArray) (p : Nat) : Int := match parseF (t.length + 1) c x (t.drop p) with
  | some (_, r) => ((t.length - r.length : Nat) : Int)
  | none => -1
theorem drop_at {t : List Nd} {p : Nat} {x : Nd} (h : t[p]? = some x) : t.drop p = x :: t.drop (p + 1) := by
  obtain ⟨hp, e⟩ := List.getElem?_eq_some_iff.1 h
  rw [← e]
  exact List.drop_eq_getElem_cons hp
theorem kEnd_out {t : List Nd} {p : Nat} (h : t.length ≤ p) : kEnd t p = -1 := by
  unfold kEnd
  rw [List.drop_eq_nil_of_le h]
  rfl
theorem kEnd_base {t : List Nd} {p : Nat} {x : Nd} (h : t[p]? = some x) (hb : baseOp x.op) : kEnd t p = if x.n = 0 ∧ x.s = emp ∧ x.t = emp then ((p + 1 : Nat) : Int) else -1 := by
  have hp := (List.getElem?_eq_some_iff.1 h).1
  unfold kEnd
  rw [drop_at h]
  simp only [parseK, if_pos hb]
  by_cases hc : x.n = 0 ∧ x.s = emp ∧ x.t = emp
  · rw [if_pos hc, if_pos hc]
    simp only [List.length_drop]
    congr 1; omega
  · rw [if_neg hc, if_neg hc]
theorem not_base {x : Int} (h : x = 44 ∨ x = 45 ∨ x = 46) : ¬ baseOp x := by unfold baseOp; omega
theorem kEnd_ent {t : List Nd} {p : Nat} {x : Nd} (h : t[p]? = some x) (hb : x.op = 44) : kEnd t p = if x.n = 0 ∧ nameFault x.s = 0 ∧ x.t = emp then ((p + 1 : Nat) : Int) else -1 := by
  have hp := (List.getElem?_eq_some_iff.1 h).1
  unfold kEnd
  rw [drop_at h]
  simp only [parseK, if_neg (not_base (.inl hb)), if_pos hb]
  by_cases hc : x.n = 0 ∧ nameFault x.s = 0 ∧ x.t = emp
  · rw [if_pos hc, if_pos hc]
    simp only [List.length_drop]
    congr 1; omega
  · rw [if_neg hc, if_neg hc]
theorem kEnd_set {t : List Nd} {p : Nat} {x : Nd} (h : t[p]? = some x) (hb : x.op = 45) : kEnd t p = if x.n = 0 ∧ x.s = emp ∧ x.t = emp then kEnd t (p + 1) else -1 := by
  unfold kEnd
  rw [drop_at h]
  simp only [parseK, if_neg (not_base (.inr (.inl hb))), if_neg (show ¬ x.op = 44 by omega), if_pos hb]
  rw [parse_fuel (n := t.length) (n' := t.length + 1) (by simp) (by simp; omega)]
  rcases parseK (t.length + 1) (t.drop (p + 1)) with _ | ⟨k, r⟩
  · simp
  · by_cases hc : x.n = 0 ∧ x.s = emp ∧ x.t = emp
    · simp only [if_pos hc]
    · simp only [if_neg hc]
theorem kEnd_rec {t : List Nd} {p : Nat} {x : Nd} (h : t[p]? = some x) (hb : x.op = 46) : kEnd t p = if 0 ≤ x.n ∧ x.s = emp ∧ x.t = emp then fEnd t x.n.toNat emp (p + 1) else -1 := by
  unfold kEnd fEnd
  rw [drop_at h]
  simp only [parseK, if_neg (not_base (.inr (.inr hb))), if_neg (show ¬ x.op = 44 by omega), if_neg (show ¬ x.op = 45 by omega), if_pos hb]
  rw [parseF_fuel (n := t.length) (n' := t.length + 1) (by simp) (by simp; omega)]
  rcases parseF (t.length + 1) x.n.toNat emp (t.drop (p + 1)) with _ | ⟨k, r⟩
  · simp
  · by_cases hc : 0 ≤ x.n ∧ x.s = emp ∧ x.t = emp
    · simp only [if_pos hc]
    · simp only [if_neg hc]
theorem kEnd_else {t : List Nd} {p : Nat} {x : Nd} (h : t[p]? = some x) (h1 : ¬ baseOp x.op) (h2 : x.op ≠ 44) (h3 : x.op ≠ 45) (h4 : x.op ≠ 46) : kEnd t p = -1 := by
  unfold kEnd
  rw [drop_at h]
  simp only [parseK, if_neg h1, if_neg h2, if_neg h3, if_neg h4]
theorem fEnd_zero {t : List Nd} {p : Nat} {x : ByteArray} (h : p ≤ t.length) : fEnd t 0 x p = (p : Int) := by
  unfold fEnd
  simp only [parseF, List.length_drop]
  congr 1; omega
theorem fEnd_out {t : List Nd} {p c : Nat} {x : ByteArray} (h : t.length ≤ p) : fEnd t (c + 1) x p = -1 := by
  unfold fEnd
  rw [List.drop_eq_nil_of_le h]
  rfl
/-- It ends behind where it begins. -/
theorem kEnd_lt {t : List Nd} {p : Nat} (h : 0 ≤ kEnd t p) : ∃ e : Nat, kEnd t p = (e : Int) ∧ p < e ∧ e ≤ t.length := by
  unfold kEnd at *
  rcases hp : parseK (t.length + 1) (t.drop p) with _ | ⟨k, r⟩
  · rw [hp] at h; simp at h
  · rw [hp] at h
    simp only at h ⊢
    obtain ⟨v, e⟩ := (parse_sound _).1 _ _ _ hp
    have h1 : (t.drop p).length = k.flat.length + r.length := by rw [e, List.length_append]
    rw [List.length_drop] at h1
    have h2 : 0 < k.flat.length := by cases k <;> simp [Kd.flat]
    exact ⟨_, rfl, by omega, by omega⟩
theorem kEnd_neg {t : List Nd} {p : Nat} (h : ¬ 0 ≤ kEnd t p) : kEnd t p = -1 := by
  unfold kEnd at *
  rcases hp : parseK (t.length + 1) (t.drop p) with _ | ⟨k, r⟩
  · rfl
  · rw [hp] at h; simp only at h; omega
theorem fEnd_succ {t : List Nd} {p c : Nat} {x : ByteArray} {y : Nd} (h : t[p]? = some y) : fEnd t (c + 1) x p = if kfOk x y then (if 0 ≤ kEnd t (p + 1) then fEnd t c y.s (kEnd t (p + 1)).toNat else -1) else -1 := by
  have hp := (List.getElem?_eq_some_iff.1 h).1
  unfold fEnd
  rw [drop_at h]
  simp only [parseF]
  by_cases hk : kfOk x y
  · simp only [if_pos hk]
    unfold kEnd
    rw [parse_fuel (n := t.length) (n' := t.length + 1) (by simp) (by simp; omega)]
    rcases hq : parseK (t.length + 1) (t.drop (p + 1)) with _ | ⟨k, r⟩
    · simp
    · simp only
      obtain ⟨v, e⟩ := (parse_sound _).1 _ _ _ hq
      have h1 : (t.drop (p + 1)).length = k.flat.length + r.length := by rw [e, List.length_append]
      rw [List.length_drop] at h1
      rw [if_pos (by omega)]
      have h3 : ((t.length - r.length : Nat) : Int).toNat = t.length - r.length := rfl
      rw [h3]
      have h2 : t.drop (t.length - r.length) = r := by
        have : t.drop (t.length - r.length) = (t.drop (p + 1)).drop k.flat.length := by rw [List.drop_drop]; congr 1; omega
        rw [this, e, List.drop_left]
      rw [h2, parseF_fuel (n := t.length) (n' := t.length + 1) (by omega) (by omega)]
      rcases parseF (t.length + 1) c y.s r with _ | ⟨f, r'⟩ <;> rfl
  · simp only [if_neg hk]
/-- The error of nodes as a type. -/
def kindFault (t : List Nd) : Int := if 200 < t.length then 4 else if (readK t).isSome then 0 else 1
theorem kEnd_all {t : List Nd} : kEnd t 0 = (t.length : Int) ↔ (readK t).isSome = true := by
  unfold kEnd readK
  rw [List.drop_zero, parse_fuel (n := t.length + 1) (n' := t.length) (by omega) (by omega)]
  rcases hp : parseK t.length t with _ | ⟨k, r⟩
  · simp
  · simp only
    obtain ⟨v, e⟩ := (parse_sound _).1 _ _ _ hp
    have h1 : t.length = k.flat.length + r.length := by rw [← List.length_append, ← e]
    have h2 : 0 < k.flat.length := by cases k <;> simp [Kd.flat]
    cases r with
    | nil => simp
    | cons a r =>
      simp only [List.length_cons] at h1 ⊢
      simp
      omega
theorem kindFault_zero {t : List Nd} : kindFault t = 0 ↔ t.length ≤ 200 ∧ ∃ k : Kd, k.valid ∧ t = k.flat := by
  unfold kindFault
  by_cases h : 200 < t.length
  · rw [if_pos h]; omega
  · rw [if_neg h]
    rcases hr : readK t with _ | k
    · simp only [Option.isSome_none, Bool.false_eq_true, if_false]
      constructor
      · intro q; omega
      · rintro ⟨-, k, v, e⟩
        rw [readK_iff.2 ⟨v, e⟩] at hr; cases hr
    · simp only [Option.isSome_some, if_true, true_iff]
      exact ⟨by omega, k, readK_iff.1 hr⟩

/-- Where the fields stand. -/
def posF : Nat → Fl → List Nat
  | _, .nil => []
  | p, .cons _ _ k r => p :: posF (p + 1 + k.flat.length) r
theorem kEnd_flat {t : List Nd} {p : Nat} {k : Kd} {r : List Nd} (hk : k.valid) (h : t.drop p = k.flat ++ r) : kEnd t p = ((p + k.flat.length : Nat) : Int) := by
  have h1 : (t.drop p).length = k.flat.length + r.length := by rw [h, List.length_append]
  rw [List.length_drop] at h1
  have h2 : 0 < k.flat.length := by cases k <;> simp [Kd.flat]
  have h3 := (parse_full (t.length + 1)).1 k r hk (by omega)
  unfold kEnd
  rw [h, h3]
  simp only
  congr 1; omega
end Go.Wk
namespace Go.Wk

theorem isAny_iff {a : Kd} : isAny a = true ↔ a = .base 48 := by
  cases a with
  | base x => simp [isAny]
  | _ => simp [isAny]
theorem isNone_iff {a : Kd} : isNone a = true ↔ a = .base 49 := by
  cases a with
  | base x => simp [isNone]
  | _ => simp [isNone]
theorem below_base {x : Int} {b : Kd} : belowK (.base x) b = true ↔ x = 49 ∨ b = .base 48 ∨ b = .base x := by
  simp only [belowK, Bool.or_eq_true, beq_iff_eq, isAny_iff, or_assoc]
  cases b with
  | base y =>
    have e : x = y ↔ y = x := eq_comm
    simp [e]
  | _ => simp
theorem below_ent {s : ByteArray} {b : Kd} : belowK (.ent s) b = true ↔ b = .base 48 ∨ b = .ent s := by
  simp only [belowK, Bool.or_eq_true, isAny_iff]
  cases b with
  | ent t =>
    have e : s = t ↔ t = s := eq_comm
    simp [e]
  | _ => simp
theorem below_set {p : Kd} {b : Kd} : belowK (.set p) b = true ↔ b = .base 48 ∨ ∃ q, b = .set q ∧ belowK p q = true := by
  simp only [belowK, Bool.or_eq_true, isAny_iff]
  cases b with
  | set q => simp
  | _ => simp
theorem below_fs {f : Fl} {b : Kd} : belowK (.fs f) b = true ↔ b = .base 48 ∨ ∃ g, b = .fs g ∧ belowF f g = true ∧ mustF g f = true := by
  simp only [belowK, Bool.or_eq_true, isAny_iff]
  cases b with
  | fs g => simp
  | _ => simp
/-- A record's type below another one, by what is found. -/
def BelR (f g : Fl) : Prop := (∀ s m k, f.find s = some (m, k) → ∃ m' k', g.find s = some (m', k') ∧ (m' = true → m = true) ∧ belowK k k' = true) ∧ (∀ s k, g.find s = some (true, k) → (f.find s).isSome = true)
theorem belR_iff {f g : Fl} (hf : f.asc) (hg : g.asc) : belowF f g = true ∧ mustF g f = true ↔ BelR f g := by
  rw [belowF_iff hf, mustF_iff hg]; rfl
theorem below_trans : ∀ (n : Nat) (a b c : Kd), a.sz ≤ n → a.ok → b.ok → c.ok → belowK a b = true → belowK b c = true → belowK a c = true
  | 0, a, _, _, h, _, _, _, _, _ => by cases a <;> simp [Kd.sz] at h
  | n + 1, a, b, c, h, ha, hb, hc, h1, h2 => by
    have hany : b = .base 48 → c = .base 48 := fun e => by
      subst e
      rcases below_base.1 h2 with h3 | h3 | h3
      · cases h3
      · exact h3
      · exact h3
    cases a with
    | base x =>
      rcases below_base.1 h1 with rfl | h3 | h3
      · exact below_base.2 (.inl rfl)
      · exact below_base.2 (.inr (.inl (hany h3)))
      · subst h3; exact h2
    | ent s =>
      rcases below_ent.1 h1 with h3 | h3
      · exact below_ent.2 (.inl (hany h3))
      · subst h3; exact h2
    | set p =>
      simp only [Kd.sz] at h
      rcases below_set.1 h1 with h3 | ⟨q, rfl, h3⟩
      · exact below_set.2 (.inl (hany h3))
      · rcases below_set.1 h2 with h4 | ⟨r, rfl, h4⟩
        · exact below_set.2 (.inl h4)
        · exact below_set.2 (.inr ⟨r, rfl, below_trans n p q r (by omega) ha hb hc h3 h4⟩)
    | fs f =>
      simp only [Kd.sz] at h
      rcases below_fs.1 h1 with h3 | ⟨g, rfl, h3⟩
      · exact below_fs.2 (.inl (hany h3))
      · rcases below_fs.1 h2 with h4 | ⟨e, rfl, h4⟩
        · exact below_fs.2 (.inl h4)
        · obtain ⟨p1, p2⟩ := (belR_iff ha.1 hb.1).1 h3
          obtain ⟨q1, q2⟩ := (belR_iff hb.1 hc.1).1 h4
          refine below_fs.2 (.inr ⟨e, rfl, (belR_iff ha.1 hc.1).2 ⟨fun s m k hf => ?_, fun s k hf => ?_⟩⟩)
          · obtain ⟨m', k', hg, e1, e2⟩ := p1 s m k hf
            obtain ⟨m'', k'', he, e3, e4⟩ := q1 s m' k' hg
            exact ⟨m'', k'', he, fun e => e1 (e3 e), below_trans n k k' k'' (by have := find_sz hf; omega) (find_ok ha.2 hf) (find_ok hb.2 hg) (find_ok hc.2 he) e2 e4⟩
          · have h5 := q2 s k hf
            rcases hg : g.find s with _ | ⟨m', k'⟩
            · rw [hg] at h5; cases h5
            · obtain ⟨m'', k'', he, e3, -⟩ := q1 s m' k' hg
              rw [hf] at he
              injection he with he
              injection he with he1 he2
              have := e3 he1.symm
              subst this
              exact p2 s k' hg
/-- Ascending fields that find the same are one. -/
theorem fl_ext : ∀ (f g : Fl), f.asc → g.asc → (∀ s, f.find s = g.find s) → f = g
  | .nil, .nil, _, _, _ => rfl
  | .nil, .cons s m k r, _, _, h => by have := h s; simp [Fl.find] at this
  | .cons s m k r, .nil, _, _, h => by have := h s; simp [Fl.find] at this
  | .cons s m k r, .cons t m' k' r', h1, h2, h => by
    have hs := h s
    have ht := h t
    have e : s = t := by
      simp only [Fl.find, if_pos] at hs ht
      by_cases e : t = s
      · exact e.symm
      · rw [if_neg e] at hs
        have l1 := find_lt h2 hs.symm
        rw [if_neg (fun q => e q.symm)] at ht
        have l2 := find_lt h1 ht
        have := cmpB_cmp.anti s t
        omega
    subst e
    simp only [Fl.find, if_pos, Option.some.injEq, Prod.mk.injEq] at hs
    obtain ⟨e1, e2⟩ := hs
    have hr : r = r' := fl_ext r r' (asc_tail h1) (asc_tail h2) fun x => by
      have hx := h x
      simp only [Fl.find] at hx
      by_cases e : s = x
      · subst e
        rcases hg : r.find s with _ | v
        · rcases hg' : r'.find s with _ | v'
          · rfl
          · have := find_lt h2 hg'; rw [cmpB_cmp.self] at this; omega
        · have := find_lt h1 hg; rw [cmpB_cmp.self] at this; omega
      · rwa [if_neg e, if_neg e] at hx
    rw [e1, e2, hr]
theorem below_anti : ∀ (n : Nat) (a b : Kd), a.sz ≤ n → a.ok → b.ok → belowK a b = true → belowK b a = true → a = b
  | 0, a, _, h, _, _, _, _ => by cases a <;> simp [Kd.sz] at h
  | n + 1, a, b, h, ha, hb, h1, h2 => by
    cases a with
    | base x =>
      rcases below_base.1 h1 with rfl | h3 | h3
      · cases b with
        | base y =>
          rcases below_base.1 h2 with h4 | h4 | h4
          · rw [h4]
          · cases h4
          · exact h4
        | ent t => rcases below_ent.1 h2 with h4 | h4 <;> cases h4
        | set t => rcases below_set.1 h2 with h4 | ⟨q, h4, _⟩ <;> cases h4
        | fs t => rcases below_fs.1 h2 with h4 | ⟨q, h4, _⟩ <;> cases h4
      · subst h3
        rcases below_base.1 h2 with h4 | h4 | h4
        · cases h4
        · exact h4
        · exact h4
      · exact h3.symm
    | ent s =>
      rcases below_ent.1 h1 with h3 | h3
      · subst h3
        rcases below_base.1 h2 with h4 | h4 | h4 <;> cases h4
      · exact h3.symm
    | set p =>
      simp only [Kd.sz] at h
      rcases below_set.1 h1 with h3 | ⟨q, rfl, h3⟩
      · subst h3
        rcases below_base.1 h2 with h4 | h4 | h4 <;> cases h4
      · rcases below_set.1 h2 with h4 | ⟨r, h4, h5⟩
        · cases h4
        · injection h4 with h4
          subst h4
          rw [below_anti n p q (by omega) ha hb h3 h5]
    | fs f =>
      simp only [Kd.sz] at h
      rcases below_fs.1 h1 with h3 | ⟨g, rfl, h3⟩
      · subst h3
        rcases below_base.1 h2 with h4 | h4 | h4 <;> cases h4
      · rcases below_fs.1 h2 with h4 | ⟨e, h4, h5⟩
        · cases h4
        · injection h4 with h4
          subst h4
          obtain ⟨p1, -⟩ := (belR_iff ha.1 hb.1).1 h3
          obtain ⟨q1, -⟩ := (belR_iff hb.1 ha.1).1 h5
          congr 1
          refine fl_ext f g ha.1 hb.1 fun s => ?_
          rcases hf : f.find s with _ | ⟨m, k⟩
          · rcases hg : g.find s with _ | ⟨m', k'⟩
            · rfl
            · obtain ⟨_, _, e, _⟩ := q1 s m' k' hg
              rw [hf] at e; cases e
          · obtain ⟨m', k', hg, e1, e2⟩ := p1 s m k hf
            obtain ⟨m2, k2, hf2, e3, e4⟩ := q1 s m' k' hg
            rw [hf] at hf2
            injection hf2 with hf2
            injection hf2 with f1 f2
            subst f1 f2
            rw [hg, below_anti n k k' (by have := find_sz hf; omega) (find_ok ha.2 hf) (find_ok hb.2 hg) e2 e4]
            have : m = m' := by cases m <;> cases m' <;> simp_all
            rw [this]
end Go.Wk
namespace Go.Wk

/-- Fields, and one more in its place. -/
def insF (s : ByteArray) (m : Bool) (k : Kd) : Fl → Fl
  | .nil => .cons s m k .nil
  | .cons t m' k' r => if cmpB s t < 0 then .cons s m k (.cons t m' k' r) else .cons t m' k' (insF s m k r)
/-- Those of g that f has not. -/
def restF : Fl → Fl → Fl
  | .nil, _ => .nil
  | .cons s _ k r, f => if (f.find s).isSome then restF r f else .cons s false k (restF r f)
mutual
/-- The least above two. -/
def joinK : Kd → Kd → Kd
  | .base x, b => if x = 49 then b else if isAny b then b else if isNone b then .base x else if x = 48 then .base 48 else (match b with | .base y => if x = y then .base x else .base 48 | _ => .base 48)
  | .ent s, b => if isAny b then b else if isNone b then .ent s else (match b with | .ent t => if s = t then .ent s else .base 48 | _ => .base 48)
  | .set p, b => if isAny b then b else if isNone b then .set p else (match b with | .set q => .set (joinK p q) | _ => .base 48)
  | .fs f, b => if isAny b then b else if isNone b then .fs f else (match b with | .fs g => .fs (joinF f g (restF g f)) | _ => .base 48)
def joinF : Fl → Fl → Fl → Fl
  | .nil, _, acc => acc
  | .cons s m k r, g, acc => match g.find s with
    | none => insF s false k (joinF r g acc)
    | some (m', k') => insF s (m && m') (joinK k k') (joinF r g acc)
end
theorem insF_other (s : ByteArray) (m : Bool) (k : Kd) {t : ByteArray} (h : s ≠ t) : ∀ f : Fl, (insF s m k f).find t = f.find t
  | .nil => by simp [insF, Fl.find, h]
  | .cons u m' k' r => by
    simp only [insF]
    split
    · simp [Fl.find, h]
    · simp only [Fl.find, insF_other s m k h r]
theorem insF_same (s : ByteArray) (m : Bool) (k : Kd) : ∀ f : Fl, f.find s = none → (insF s m k f).find s = some (m, k)
  | .nil, _ => by simp [insF, Fl.find]
  | .cons u m' k' r, h => by
    simp only [Fl.find] at h
    simp only [insF]
    split
    · simp [Fl.find]
    · by_cases e : u = s
      · rw [if_pos e] at h; cases h
      · rw [if_neg e] at h
        simp only [Fl.find, if_neg e]
        exact insF_same s m k r h
theorem insF_asc (s : ByteArray) (m : Bool) (k : Kd) : ∀ (f : Fl) (x : ByteArray), f.ascFrom x → cmpB x s < 0 → f.find s = none → (insF s m k f).ascFrom x
  | .nil, _, _, h, _ => ⟨h, trivial⟩
  | .cons u m' k' r, x, h1, h2, h3 => by
    simp only [Fl.find] at h3
    simp only [insF]
    split
    · rename_i hlt; exact ⟨h2, hlt, h1.2⟩
    · rename_i hlt
      by_cases e : u = s
      · rw [if_pos e] at h3; cases h3
      · rw [if_neg e] at h3
        refine ⟨h1.1, insF_asc s m k r u h1.2 ?_ h3⟩
        have a := cmpB_cmp.anti s u
        have z : cmpB s u ≠ 0 := fun q => e ((cmpB_cmp.zero _ _).1 q).symm
        omega
theorem insF_asc0 (s : ByteArray) (m : Bool) (k : Kd) (f : Fl) (h : f.asc) (hn : f.find s = none) : (insF s m k f).asc := by
  cases f with
  | nil => exact trivial
  | cons u m' k' r =>
    simp only [Fl.find] at hn
    simp only [insF]
    split
    · rename_i hlt; exact ⟨hlt, h⟩
    · rename_i hlt
      by_cases e : u = s
      · rw [if_pos e] at hn; cases hn
      · rw [if_neg e] at hn
        refine insF_asc s m k r u h ?_ hn
        have a := cmpB_cmp.anti s u
        have z : cmpB s u ≠ 0 := fun q => e ((cmpB_cmp.zero _ _).1 q).symm
        omega
theorem insF_ok (s : ByteArray) (m : Bool) (k : Kd) (hk : k.ok) : ∀ f : Fl, f.ok → (insF s m k f).ok
  | .nil, _ => ⟨hk, trivial⟩
  | .cons u m' k' r, h => by
    simp only [insF]
    split
    · exact ⟨hk, h⟩
    · exact ⟨h.1, insF_ok s m k hk r h.2⟩
theorem asc_weak {x y : ByteArray} {f : Fl} (h : f.ascFrom y) (hl : cmpB x y < 0) : f.ascFrom x := by
  cases f with
  | nil => trivial
  | cons s m k r => exact ⟨cmpB_cmp.lt_le hl (by have := h.1; omega), h.2⟩
theorem restF_find (f : Fl) (s : ByteArray) : ∀ g : Fl, (restF g f).find s = if (f.find s).isSome = true then none else (g.find s).map fun v => (false, v.2)
  | .nil => by simp [restF, Fl.find]
  | .cons t m k r => by
    simp only [restF]
    split
    · rename_i ht
      rw [restF_find f s r]
      simp only [Fl.find]
      by_cases e : t = s
      · subst e; rw [if_pos ht, if_pos ht]
      · rw [if_neg e]
    · rename_i ht
      simp only [Fl.find]
      by_cases e : t = s
      · subst e; rw [if_pos rfl, if_neg ht, if_pos rfl]; rfl
      · rw [if_neg e, if_neg e, restF_find f s r]
theorem restF_asc (f : Fl) : ∀ (g : Fl) (x : ByteArray), g.ascFrom x → (restF g f).ascFrom x
  | .nil, _, _ => trivial
  | .cons t m k r, x, h => by
    simp only [restF]
    split
    · exact restF_asc f r x (asc_weak h.2 h.1)
    · exact ⟨h.1, restF_asc f r t h.2⟩
theorem restF_asc0 (f g : Fl) (h : g.asc) : (restF g f).asc := by
  cases g with
  | nil => trivial
  | cons t m k r =>
    simp only [restF]
    split
    · exact asc_tail (restF_asc f r t h)
    · exact restF_asc f r t h
theorem restF_ok (f : Fl) : ∀ g : Fl, g.ok → (restF g f).ok
  | .nil, _ => trivial
  | .cons t m k r, h => by
    simp only [restF]
    split
    · exact restF_ok f r h.2
    · exact ⟨h.1, restF_ok f r h.2⟩
theorem tail_none {s : ByteArray} {r : Fl} (h : r.ascFrom s) : r.find s = none := by
  rcases hf : r.find s with _ | v
  · rfl
  · have := find_lt h hf; rw [cmpB_cmp.self] at this; omega
theorem joinF_find (g : Fl) (s : ByteArray) : ∀ (f acc : Fl), f.asc → (∀ t, (f.find t).isSome = true → acc.find t = none) →
    (joinF f g acc).find s = match f.find s with | none => acc.find s | some (m, k) => (match g.find s with | none => some (false, k) | some (m', k') => some (m && m', joinK k k'))
  | .nil, acc, _, _ => by simp [joinF, Fl.find]
  | .cons t m k r, acc, h1, h2 => by
    have ih := joinF_find g s r acc (asc_tail h1) (fun u hu => h2 u (by simp only [Fl.find]; split <;> simp_all))
    have ht : r.find t = none := tail_none h1
    have hat : acc.find t = none := h2 t (by simp [Fl.find])
    by_cases e : t = s
    · subst e
      rw [ht] at ih
      have ih' : (joinF r g acc).find t = none := ih.trans hat
      simp only [joinF, Fl.find, if_pos]
      rcases hg : g.find t with _ | ⟨m', k'⟩
      · exact insF_same t false k _ ih'
      · exact insF_same t (m && m') (joinK k k') _ ih'
    · simp only [joinF, Fl.find, if_neg e]
      rw [← ih]
      rcases hg : g.find t with _ | ⟨m', k'⟩
      · exact insF_other t false k e _
      · exact insF_other t _ _ e _
theorem joinF_asc (g : Fl) : ∀ (f acc : Fl), f.asc → acc.asc → (∀ t, (f.find t).isSome = true → acc.find t = none) → (joinF f g acc).asc
  | .nil, _, _, h, _ => by simpa [joinF] using h
  | .cons t m k r, acc, h1, h0, h2 => by
    have hsub : ∀ u, (r.find u).isSome = true → acc.find u = none := fun u hu => h2 u (by simp only [Fl.find]; split <;> simp_all)
    have ih := joinF_asc g r acc (asc_tail h1) h0 hsub
    have hf := joinF_find g t r acc (asc_tail h1) hsub
    rw [tail_none h1] at hf
    have hn : (joinF r g acc).find t = none := hf.trans (h2 t (by simp [Fl.find]))
    simp only [joinF]
    rcases hg : g.find t with _ | ⟨m', k'⟩
    · exact insF_asc0 t false k _ ih hn
    · exact insF_asc0 t _ _ _ ih hn
/-- What the least above two records' types has. -/
def jn (a b : Option (Bool × Kd)) : Option (Bool × Kd) := match a, b with
  | some (m, k), some (m', k') => some (m && m', joinK k k')
  | some (_, k), none => some (false, k)
  | none, some (_, k') => some (false, k')
  | none, none => none
theorem join_find {f g : Fl} (hf : f.asc) (s : ByteArray) : (joinF f g (restF g f)).find s = jn (f.find s) (g.find s) := by
  have h2 : ∀ t, (f.find t).isSome = true → (restF g f).find t = none := fun t ht => by rw [restF_find, if_pos ht]
  rw [joinF_find g s f _ hf h2]
  rcases h : f.find s with _ | ⟨m, k⟩
  · rw [restF_find, h]
    rcases hg : g.find s with _ | ⟨m', k'⟩ <;> simp [jn]
  · rcases hg : g.find s with _ | ⟨m', k'⟩ <;> simp [jn]
theorem join_asc {f g : Fl} (hf : f.asc) (hg : g.asc) : (joinF f g (restF g f)).asc :=
  joinF_asc g f _ hf (restF_asc0 f g hg) fun t ht => by rw [restF_find, if_pos ht]
end Go.Wk
