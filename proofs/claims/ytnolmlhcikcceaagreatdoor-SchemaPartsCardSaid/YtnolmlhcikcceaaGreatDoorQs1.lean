/-
  Plain: three-way comparisons, of numbers, texts, pairs and lists. No program in sight.
  Plain: names and texts, byte by byte. No program in sight.
  Plain: nodes, their order, the end of a value. No program in sight.
-/
import Derived.Lib.Bytealg
namespace Go.Wk

/-- A three-way comparison of a linear order. -/
structure Cmp {α : Type} (f : α → α → Int) : Prop where
  rng : ∀ a b, f a b = -1 ∨ f a b = 0 ∨ f a b = 1
  anti : ∀ a b, f b a = - f a b
  zero : ∀ a b, f a b = 0 ↔ a = b
  trans : ∀ a b c, f a b ≤ 0 → f b c ≤ 0 → f a c ≤ 0

theorem Cmp.self {α : Type} {f : α → α → Int} (h : Cmp f) (a : α) : f a a = 0 := (h.zero a a).2 rfl
theorem Cmp.lt_le {α : Type} {f : α → α → Int} (h : Cmp f) {a b c : α} (h1 : f a b < 0) (h2 : f b c ≤ 0) : f a c < 0 := by
  have h3 := h.trans a b c (by omega) h2
  rcases Int.lt_or_eq_of_le h3 with h4 | h4
  · exact h4
  · have e := (h.zero a c).1 h4
    subst e
    have := h.anti b a
    omega
theorem Cmp.le_lt {α : Type} {f : α → α → Int} (h : Cmp f) {a b c : α} (h1 : f a b ≤ 0) (h2 : f b c < 0) : f a c < 0 := by
  have h3 := h.trans a b c h1 (by omega)
  rcases Int.lt_or_eq_of_le h3 with h4 | h4
  · exact h4
  · have e := (h.zero a c).1 h4
    subst e
    have := h.anti b a
    omega
theorem Cmp.gt_iff {α : Type} {f : α → α → Int} (h : Cmp f) (a b : α) : 0 < f a b ↔ f b a < 0 := by
  have := h.anti a b
  omega
theorem Cmp.on {α β : Type} {f : α → α → Int} (h : Cmp f) (g : β → α) (hg : ∀ a b, g a = g b → a = b) : Cmp (fun a b => f (g a) (g b)) :=
  ⟨fun a b => h.rng _ _, fun a b => h.anti _ _, fun a b => (h.zero _ _).trans ⟨hg a b, fun e => by rw [e]⟩, fun a b c => h.trans _ _ _⟩

/-- The first one that differs. -/
def or2 (x y : Int) : Int := if x = 0 then y else x
theorem or2_zero (y : Int) : or2 0 y = y := rfl
theorem or2_ne {x : Int} (h : x ≠ 0) (y : Int) : or2 x y = x := by unfold or2; rw [if_neg h]

theorem Cmp.pair {α β : Type} {f : α → α → Int} {g : β → β → Int} (hf : Cmp f) (hg : Cmp g) : Cmp (fun (x y : α × β) => or2 (f x.1 y.1) (g x.2 y.2)) := by
  refine ⟨fun a b => ?_, fun a b => ?_, fun a b => ?_, fun a b c h1 h2 => ?_⟩
  · unfold or2; split
    · exact hg.rng _ _
    · exact hf.rng _ _
  · have h1 := hf.anti a.1 b.1
    have h2 := hg.anti a.2 b.2
    unfold or2; split <;> split <;> omega
  · have h1 := hf.zero a.1 b.1
    have h2 := hg.zero a.2 b.2
    unfold or2
    rw [Prod.ext_iff]
    split
    · rename_i h; rw [h2]; exact ⟨fun e => ⟨h1.1 h, e⟩, fun e => e.2⟩
    · rename_i h; exact ⟨fun e => absurd e h, fun e => absurd (h1.2 e.1) h⟩
  · by_cases e1 : f a.1 b.1 = 0
    · have q1 := (hf.zero _ _).1 e1
      simp only [e1, or2_zero] at h1
      by_cases e2 : f b.1 c.1 = 0
      · have q2 := (hf.zero _ _).1 e2
        simp only [e2, or2_zero] at h2
        have e3 : f a.1 c.1 = 0 := (hf.zero _ _).2 (q1.trans q2)
        simp only [e3, or2_zero]
        exact hg.trans _ _ _ h1 h2
      · simp only [or2_ne e2] at h2
        rw [q1]
        simp only [or2_ne e2]
        exact h2
    · simp only [or2_ne e1] at h1
      have hlt : f a.1 b.1 < 0 := by omega
      have h2' : f b.1 c.1 ≤ 0 := by
        by_cases e2 : f b.1 c.1 = 0
        · omega
        · simp only [or2_ne e2] at h2; exact h2
      have h3 := hf.lt_le hlt h2'
      simp only [or2_ne (show f a.1 c.1 ≠ 0 by omega)]
      omega

/-- Lists, by the first one that differs; the shorter one is ahead. -/
def cmpList {α : Type} (f : α → α → Int) : List α → List α → Int
  | [], [] => 0
  | [], _ :: _ => -1
  | _ :: _, [] => 1
  | a :: as, b :: bs => or2 (f a b) (cmpList f as bs)

theorem Cmp.list {α : Type} {f : α → α → Int} (hf : Cmp f) : Cmp (cmpList f) := by
  refine ⟨?_, ?_, ?_, ?_⟩
  · intro a
    induction a with
    | nil => intro b; cases b <;> simp [cmpList]
    | cons x a ih =>
      intro b
      cases b with
      | nil => simp [cmpList]
      | cons y b =>
        simp only [cmpList]; unfold or2; split
        · exact ih b
        · exact hf.rng _ _
  · intro a
    induction a with
    | nil => intro b; cases b <;> simp [cmpList]
    | cons x a ih =>
      intro b
      cases b with
      | nil => simp [cmpList]
      | cons y b =>
        have h1 := hf.anti x y
        have h2 := ih b
        simp only [cmpList]; unfold or2; split <;> split <;> omega
  · intro a
    induction a with
    | nil => intro b; cases b <;> simp [cmpList]
    | cons x a ih =>
      intro b
      cases b with
      | nil => simp [cmpList]
      | cons y b =>
        simp only [cmpList]
        rw [List.cons.injEq]
        by_cases e : f x y = 0
        · simp only [e, or2_zero]; rw [ih]; exact ⟨fun h => ⟨(hf.zero _ _).1 e, h⟩, fun h => h.2⟩
        · simp only [or2_ne e]; exact ⟨fun h => absurd h e, fun h => absurd ((hf.zero _ _).2 h.1) e⟩
  · intro a
    induction a with
    | nil => intro b c; cases c <;> simp [cmpList]
    | cons x a ih =>
      intro b c h1 h2
      cases b with
      | nil => simp [cmpList] at h1
      | cons y b =>
        cases c with
        | nil => simp [cmpList] at h2
        | cons z c =>
          simp only [cmpList] at *
          by_cases e1 : f x y = 0
          · have q1 := (hf.zero _ _).1 e1
            subst q1
            simp only [e1, or2_zero] at h1
            by_cases e2 : f x z = 0
            · simp only [e2, or2_zero] at *; exact ih b c h1 h2
            · simp only [or2_ne e2] at *; exact h2
          · simp only [or2_ne e1] at h1
            have h2' : f y z ≤ 0 := by
              by_cases e2 : f y z = 0
              · omega
              · simp only [or2_ne e2] at h2; exact h2
            have h3 := hf.lt_le (show f x y < 0 by omega) h2'
            simp only [or2_ne (show f x z ≠ 0 by omega)]
            omega

/-- Numbers. -/
def cmpI (a b : Int) : Int := if a < b then -1 else if b < a then 1 else 0
theorem cmpI_cmp : Cmp cmpI :=
  ⟨fun a b => by unfold cmpI; split <;> (try split) <;> simp, fun a b => by unfold cmpI; split <;> split <;> (try split) <;> omega,
   fun a b => by unfold cmpI; split <;> (try split) <;> omega, fun a b c => by unfold cmpI; split <;> split <;> (try split) <;> (try split) <;> (try split) <;> omega⟩

/-- Texts. -/
def cmpByte (a b : UInt8) : Int := cmpI a.toNat b.toNat
theorem cmpByte_cmp : Cmp cmpByte := cmpI_cmp.on (fun a : UInt8 => (a.toNat : Int)) (fun a b h => by
  have h' : a.toNat = b.toNat := by omega
  exact UInt8.toNat_inj.1 h')
theorem compareBytes_eq : ∀ a b : List UInt8, Lib.compareBytes a b = cmpList cmpByte a b
  | [], [] => rfl
  | [], _ :: _ => rfl
  | _ :: _, [] => rfl
  | a :: as, b :: bs => by
    simp only [Lib.compareBytes, cmpList, compareBytes_eq as bs]
    have e1 : (a < b) ↔ ((a.toNat : Int) < b.toNat) := by rw [UInt8.lt_iff_toNat_lt]; omega
    have e2 : (b < a) ↔ ((b.toNat : Int) < a.toNat) := by rw [UInt8.lt_iff_toNat_lt]; omega
    have h : cmpByte a b = if a < b then -1 else if b < a then 1 else 0 := by
      simp only [cmpByte, cmpI, e1, e2]
    rw [h]
    unfold or2
    by_cases h1 : a < b
    · simp [h1]
    · by_cases h2 : b < a <;> simp [h1, h2]

def cmpB (a b : ByteArray) : Int := Lib.compareBytes a.data.toList b.data.toList
theorem bytes_ext {a b : ByteArray} (h : a.data.toList = b.data.toList) : a = b := by
  cases a; cases b; simp at h; simp [h]
theorem cmpB_cmp : Cmp cmpB := by
  have h := cmpByte_cmp.list.on (fun a : ByteArray => a.data.toList) (fun a b h => bytes_ext h)
  have e : cmpB = fun a b : ByteArray => cmpList cmpByte a.data.toList b.data.toList := by
    funext a b; exact compareBytes_eq _ _
  rw [e]; exact h

/-- Uids. -/
def cmpUid (a b c d : ByteArray) : Int := or2 (cmpB a c) (cmpB b d)
theorem cmpUid_cmp : Cmp (fun x y : ByteArray × ByteArray => cmpUid x.1 x.2 y.1 y.2) := cmpB_cmp.pair cmpB_cmp

/-- A common head of a byte more says nothing. -/
theorem compareBytes_step {a b : List UInt8} {k : Nat} (ha : k < a.length) (hb : k < b.length) (he : a[k] = b[k]) :
    Lib.compareBytes (a.drop k) (b.drop k) = Lib.compareBytes (a.drop (k + 1)) (b.drop (k + 1)) := by
  rw [List.drop_eq_getElem_cons ha, List.drop_eq_getElem_cons hb, he]
  simp [Lib.compareBytes]
theorem compareBytes_less {a b : List UInt8} {k : Nat} (ha : k < a.length) (hb : k < b.length) (he : a[k] < b[k]) :
    Lib.compareBytes (a.drop k) (b.drop k) = -1 := by
  rw [List.drop_eq_getElem_cons ha, List.drop_eq_getElem_cons hb]
  simp [Lib.compareBytes, he]
theorem compareBytes_more {a b : List UInt8} {k : Nat} (ha : k < a.length) (hb : k < b.length) (he : b[k] < a[k]) :
    Lib.compareBytes (a.drop k) (b.drop k) = 1 := by
  rw [List.drop_eq_getElem_cons ha, List.drop_eq_getElem_cons hb]
  have : ¬ a[k] < b[k] := fun h => by have h1 : a[k].toNat < b[k].toNat := h; have h2 : b[k].toNat < a[k].toNat := he; omega
  simp [Lib.compareBytes, he, this]
theorem compareBytes_end {a b : List UInt8} {k : Nat} (h : a.length ≤ k ∨ b.length ≤ k) (ha : k ≤ a.length) (hb : k ≤ b.length) :
    Lib.compareBytes (a.drop k) (b.drop k) = cmpI a.length b.length := by
  by_cases h1 : a.length ≤ k
  · rw [List.drop_of_length_le h1]
    by_cases h2 : b.length ≤ k
    · rw [List.drop_of_length_le h2]
      have : a.length = b.length := by omega
      simp [Lib.compareBytes, cmpI, this]
    · rw [List.drop_eq_getElem_cons (by omega)]
      have : a.length < b.length := by omega
      simp [Lib.compareBytes, cmpI, this]
  · have h2 : b.length ≤ k := by omega
    rw [List.drop_of_length_le h2, List.drop_eq_getElem_cons (by omega)]
    have h3 : ¬ a.length < b.length := by omega
    have h4 : b.length < a.length := by omega
    simp [Lib.compareBytes, cmpI, h3, h4]
end Go.Wk
namespace Go.Wk

def isLet (n : Int) : Bool := (decide (97 ≤ n) && decide (n ≤ 122)) || (decide (65 ≤ n) && decide (n ≤ 90)) || (n == 95)
def isDig (n : Int) : Bool := decide (48 ≤ n) && decide (n ≤ 57)
def isPrt (n : Int) : Bool := decide (32 ≤ n) && decide (n ≤ 126)
def isWrd (b : UInt8) : Bool := isLet b.toNat || isDig b.toNat
def isLetB (b : UInt8) : Bool := isLet b.toNat
def isPrtB (b : UInt8) : Bool := isPrt b.toNat
def nameOk : List UInt8 → Bool
  | [] => false
  | b :: r => isLetB b && r.all isWrd
/-- What is wrong with a name: 0 nothing, 1 its form, 4 its length. -/
def nameFault (s : ByteArray) : Int := if nameOk s.data.toList then (if 20 < s.size then 4 else 0) else 1
/-- What is wrong with a text. -/
def textFault (s : ByteArray) : Int := if 60 < s.size then 4 else if s.data.toList.all isPrtB then 0 else 1

theorem all_succ (s : ByteArray) (p : UInt8 → Bool) {k : Nat} (h : k < s.size) : (s.data.toList.take (k + 1)).all p = ((s.data.toList.take k).all p && p s[k]) := by
  have h' : k < s.data.toList.length := by simpa using h
  rw [List.take_succ_eq_append_getElem h', List.all_append]
  simp only [List.all_cons, List.all_nil, Bool.and_true]
  rfl
theorem all_stop {s : ByteArray} {p : UInt8 → Bool} {k : Nat} (h : k < s.size) (hp : p s[k] = false) : s.data.toList.all p = false := by
  have h' : k < s.data.toList.length := by simpa using h
  rw [List.all_eq_false]
  exact ⟨s.data.toList[k], List.getElem_mem h', by rw [show p s.data.toList[k] = false from hp]; decide⟩
theorem all_end {s : ByteArray} {p : UInt8 → Bool} {k : Nat} (h : s.size ≤ k) : (s.data.toList.take k).all p = s.data.toList.all p := by
  rw [List.take_of_length_le (by simpa using h)]

theorem nameOk_all {s : ByteArray} (h : 0 < s.size) (hl : isLetB s[0] = true) : nameOk s.data.toList = s.data.toList.all isWrd := by
  have h' : 0 < s.data.toList.length := by simpa using h
  have e : s.data.toList = s[0] :: s.data.toList.drop 1 := List.drop_eq_getElem_cons h'
  rw [e]
  simp only [nameOk, List.all_cons, hl, Bool.true_and]
  have : isWrd s[0] = true := by unfold isWrd; unfold isLetB at hl; rw [hl]; rfl
  rw [this, Bool.true_and]
theorem nameOk_first {s : ByteArray} (h : 0 < s.size) (hl : isLetB s[0] = false) : nameOk s.data.toList = false := by
  have h' : 0 < s.data.toList.length := by simpa using h
  have e : s.data.toList = s[0] :: s.data.toList.drop 1 := List.drop_eq_getElem_cons h'
  rw [e]
  simp only [nameOk, hl, Bool.false_and]
theorem nameOk_empty {s : ByteArray} (h : s.size = 0) : nameOk s.data.toList = false := by
  have : s.data.toList = [] := List.eq_nil_of_length_eq_zero (by simpa using h)
  rw [this]; rfl
theorem nameOk_take_one {s : ByteArray} (h : 0 < s.size) (hl : isLetB s[0] = true) : nameOk (s.data.toList.take 1) = true := by
  have h' : 0 < s.data.toList.length := by simpa using h
  have e : s.data.toList = s[0] :: s.data.toList.drop 1 := List.drop_eq_getElem_cons h'
  rw [e]
  simp [nameOk, hl]
theorem nameOk_take_succ {s : ByteArray} {k : Nat} (hk : 0 < k) (h : k < s.size) (h1 : nameOk (s.data.toList.take k) = true) (h2 : isWrd s[k] = true) : nameOk (s.data.toList.take (k + 1)) = true := by
  have h' : k < s.data.toList.length := by simpa using h
  rw [List.take_succ_eq_append_getElem h']
  have h0 : 0 < s.data.toList.length := by omega
  have e : s.data.toList.take k = s.data.toList[0] :: (s.data.toList.take k).drop 1 := by
    have hk' : 0 < (s.data.toList.take k).length := by rw [List.length_take]; omega
    have := List.drop_eq_getElem_cons hk'
    rw [List.getElem_take] at this
    exact this
  rw [e] at h1 ⊢
  simp only [nameOk, List.cons_append, List.all_append, List.all_cons, List.all_nil, Bool.and_true, Bool.and_eq_true] at h1 ⊢
  exact ⟨h1.1, h1.2, h2⟩
theorem nameOk_stop {s : ByteArray} {k : Nat} (hk : 0 < k) (h : k < s.size) (h2 : isWrd s[k] = false) : nameOk s.data.toList = false := by
  have h0 : 0 < s.size := by omega
  rcases hl : isLetB s[0] with _ | _
  · exact nameOk_first h0 hl
  · rw [nameOk_all h0 hl]; exact all_stop h h2
theorem nameOk_end {s : ByteArray} {k : Nat} (h : s.size ≤ k) (h1 : nameOk (s.data.toList.take k) = true) : nameOk s.data.toList = true := by
  rwa [List.take_of_length_le (by simpa using h)] at h1
end Go.Wk
namespace Go.Wk

structure Nd where
  op : Int
  n : Int
  s : ByteArray
  t : ByteArray
theorem Nd.ext4 {x y : Nd} (h1 : x.op = y.op) (h2 : x.n = y.n) (h3 : x.s = y.s) (h4 : x.t = y.t) : x = y := by
  cases x; cases y; simp_all

def or4 (x y z u : Int) : Int := or2 x (or2 y (or2 z u))
def cmpNd (x y : Nd) : Int := or4 (cmpI x.op y.op) (cmpI x.n y.n) (cmpB x.s y.s) (cmpB x.t y.t)
theorem cmpNd_cmp : Cmp cmpNd :=
  (cmpI_cmp.pair (cmpI_cmp.pair (cmpB_cmp.pair cmpB_cmp))).on (fun x : Nd => (x.op, x.n, x.s, x.t)) (fun a b h => by
    simp only [Prod.mk.injEq] at h
    exact Nd.ext4 h.1 h.2.1 h.2.2.1 h.2.2.2)
def cmpNds : List Nd → List Nd → Int := cmpList cmpNd
theorem cmpNds_cmp : Cmp cmpNds := cmpNd_cmp.list

def noB (s : ByteArray) : Bool := decide (s.size = 0)
def shapedN (x : Nd) : Bool :=
  if x.op = 1 then (decide (x.n = 0) || decide (x.n = 1)) && noB x.s && noB x.t
  else if x.op = 2 then noB x.s && noB x.t
  else if x.op = 3 then decide (x.n = 0) && noB x.t && decide (textFault x.s = 0)
  else if x.op = 4 then decide (x.n = 0) && decide (nameFault x.s = 0) && decide (textFault x.t = 0)
  else if x.op = 5 ∨ x.op = 6 then decide (0 ≤ x.n) && noB x.s && noB x.t
  else if x.op = 7 then decide (x.n = 0) && noB x.t && decide (nameFault x.s = 0)
  else false

/-- The nodes from one place up to another one. -/
def seg (v : List Nd) (i j : Nat) : List Nd := (v.drop i).take (j - i)
theorem seg_length {v : List Nd} {i j : Nat} (h : j ≤ v.length) : (seg v i j).length = j - i := by
  simp [seg]; omega

/-- Is the part from one place up to another one ahead of that behind it? -/
def rises (v : List Nd) (last : Option Nat) (p e : Nat) : Bool :=
  match last with
  | none => true
  | some l => decide (cmpNds (seg v l p) (seg v p e) < 0)
def setLoop (v : List Nd) (f : Nat → Option Nat) : Nat → Option Nat → Nat → Option Nat
  | 0, _, p => some p
  | k + 1, last, p =>
    match f p with
    | none => none
    | some e => if rises v last p e then setLoop v f k (some p) e else none
/-- May this be the next field? -/
def fieldOk (v : List Nd) (last : ByteArray) (p : Nat) : Option ByteArray :=
  match v[p]? with
  | none => none
  | some x => if decide (x.op = 7) && shapedN x && decide (cmpB last x.s < 0) then some x.s else none
def recLoop (v : List Nd) (f : Nat → Option Nat) : Nat → ByteArray → Nat → Option Nat
  | 0, _, p => some p
  | k + 1, last, p =>
    match fieldOk v last p with
    | none => none
    | some s =>
      match f (p + 1) with
      | none => none
      | some e => recLoop v f k s e
def partEnd (v : List Nd) : Nat → Nat → Option Nat
  | 0, _ => none
  | m + 1, p =>
    match v[p]? with
    | none => none
    | some x =>
      if shapedN x then
        if x.op = 5 then setLoop v (partEnd v m) x.n.toNat none (p + 1)
        else if x.op = 6 then recLoop v (partEnd v m) x.n.toNat .empty (p + 1)
        else if x.op = 7 then none
        else some (p + 1)
      else none
/-- The error of nodes as a value. -/
def valFault (v : List Nd) : Int :=
  if 200 < v.length then 4 else if partEnd v (v.length + 1) 0 = some v.length then 0 else 1

theorem setLoop_le {v : List Nd} {f : Nat → Option Nat} (hf : ∀ p e, f p = some e → p < e ∧ e ≤ v.length) :
    ∀ k last p e, p ≤ v.length → setLoop v f k last p = some e → p ≤ e ∧ e ≤ v.length := by
  intro k
  induction k with
  | zero => intro last p e hp h; simp only [setLoop, Option.some.injEq] at h; omega
  | succ k ih =>
    intro last p e hp h
    simp only [setLoop] at h
    split at h
    · cases h
    · rename_i q hq
      have := hf p q hq
      split at h
      · have := ih _ _ _ (by omega) h; omega
      · cases h
theorem recLoop_le {v : List Nd} {f : Nat → Option Nat} (hf : ∀ p e, f p = some e → p < e ∧ e ≤ v.length) :
    ∀ k last p e, p ≤ v.length → recLoop v f k last p = some e → p ≤ e ∧ e ≤ v.length := by
  intro k
  induction k with
  | zero => intro last p e hp h; simp only [recLoop, Option.some.injEq] at h; omega
  | succ k ih =>
    intro last p e hp h
    simp only [recLoop] at h
    split at h
    · cases h
    · split at h
      · cases h
      · rename_i q hq
        have := hf _ q hq
        have := ih _ _ _ (by omega) h; omega
theorem partEnd_le {v : List Nd} : ∀ m p e, partEnd v m p = some e → p < e ∧ e ≤ v.length := by
  intro m
  induction m with
  | zero => intro p e h; cases h
  | succ m ih =>
    intro p e h
    simp only [partEnd] at h
    split at h
    · cases h
    · rename_i x hx
      have hp : p < v.length := (List.getElem?_eq_some_iff.1 hx).1
      split at h
      · split at h
        · have := setLoop_le ih _ _ _ _ (by omega) h; omega
        · split at h
          · have := recLoop_le ih _ _ _ _ (by omega) h; omega
          · split at h
            · cases h
            · simp only [Option.some.injEq] at h; omega
      · cases h
end Go.Wk
