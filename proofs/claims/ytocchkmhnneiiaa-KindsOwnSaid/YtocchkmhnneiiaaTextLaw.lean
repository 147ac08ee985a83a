/-
  Plain: three-way comparisons, of numbers, texts, pairs and lists. No program in sight.
-/
import Derived.Lib.Bytealg
namespace Go.Wk

/-- A three-way comparison of a linear order. -/
structure Cmp {α : Type} (f : α → α → Int) : Prop where
  rng : ∀ a b, f a b = -1 ∨ f a b = 0 ∨ f a b = 1
  anti : ∀ a b, f b a = - f a b
  zero : ∀ a b, f a b = 0 ↔ a = b
  trans : ∀ a b c, f a b ≤ 0 → f b c ≤ 0 → f a c ≤ 0

theorem Cmp.self {α : Type} {f : α → α → Int} (h : Cmp f) (a : α) : f a a = 0 := (h.zero a a).2 rfl
theorem Cmp.lt_le {α : Type} {f : α → α → Int} (h : Cmp f) {a b c : α} (h1 : f a b < 0) (h2 : f b c ≤ 0) : f a c < 0 := by
  have h3 := h.trans a b c (by omega) h2
  rcases Int.lt_or_eq_of_le h3 with h4 | h4
  · exact h4
  · have e := (h.zero a c).1 h4
    subst e
    have := h.anti b a
    omega
theorem Cmp.le_lt {α : Type} {f : α → α → Int} (h : Cmp f) {a b c : α} (h1 : f a b ≤ 0) (h2 : f b c < 0) : f a c < 0 := by
  have h3 := h.trans a b c h1 (by omega)
  rcases Int.lt_or_eq_of_le h3 with h4 | h4
  · exact h4
  · have e := (h.zero a c).1 h4
    subst e
    have := h.anti b a
    omega
theorem Cmp.gt_iff {α : Type} {f : α → α → Int} (h : Cmp f) (a b : α) : 0 < f a b ↔ f b a < 0 := by
  have := h.anti a b
  omega
theorem Cmp.on {α β : Type} {f : α → α → Int} (h : Cmp f) (g : β → α) (hg : ∀ a b, g a = g b → a = b) : Cmp (fun a b => f (g a) (g b)) :=
  ⟨fun a b => h.rng _ _, fun a b => h.anti _ _, fun a b => (h.zero _ _).trans ⟨hg a b, fun e => by rw [e]⟩, fun a b c => h.trans _ _ _⟩

/-- The first one that differs. -/
def or2 (x y : Int) : Int := if x = 0 then y else x
theorem or2_zero (y : Int) : or2 0 y = y := rfl
theorem or2_ne {x : Int} (h : x ≠ 0) (y : Int) : or2 x y = x := by unfold or2; rw [if_neg h]

theorem Cmp.pair {α β : Type} {f : α → α → Int} {g : β → β → Int} (hf : Cmp f) (hg : Cmp g) : Cmp (fun (x y : α × β) => or2 (f x.1 y.1) (g x.2 y.2)) := by
  refine ⟨fun a b => ?_, fun a b => ?_, fun a b => ?_, fun a b c h1 h2 => ?_⟩
  · unfold or2; split
    · exact hg.rng _ _
    · exact hf.rng _ _
  · have h1 := hf.anti a.1 b.1
    have h2 := hg.anti a.2 b.2
    unfold or2; split <;> split <;> omega
  · have h1 := hf.zero a.1 b.1
    have h2 := hg.zero a.2 b.2
    unfold or2
    rw [Prod.ext_iff]
    split
    · rename_i h; rw [h2]; exact ⟨fun e => ⟨h1.1 h, e⟩, fun e => e.2⟩
    · rename_i h; exact ⟨fun e => absurd e h, fun e => absurd (h1.2 e.1) h⟩
  · by_cases e1 : f a.1 b.1 = 0
    · have q1 := (hf.zero _ _).1 e1
      simp only [e1, or2_zero] at h1
      by_cases e2 : f b.1 c.1 = 0
      · have q2 := (hf.zero _ _).1 e2
        simp only [e2, or2_zero] at h2
        have e3 : f a.1 c.1 = 0 := (hf.zero _ _).2 (q1.trans q2)
        simp only [e3, or2_zero]
        exact hg.trans _ _ _ h1 h2
      · simp only [or2_ne e2] at h2
        rw [q1]
        simp only [or2_ne e2]
        exact h2
    · simp only [or2_ne e1] at h1
      have hlt : f a.1 b.1 < 0 := by omega
      have h2' : f b.1 c.1 ≤ 0 := by
        by_cases e2 : f b.1 c.1 = 0
        · omega
        · simp only [or2_ne e2] at h2; exact h2
      have h3 := hf.lt_le hlt h2'
      simp only [or2_ne (show f a.1 c.1 ≠ 0 by omega)]
      omega

/-- Lists, by the first one that differs; the shorter one is ahead. -/
def cmpList {α : Type} (f : α → α → Int) : List α → List α → Int
  | [], [] => 0
  | [], _ :: _ => -1
  | _ :: _, [] => 1
  | a :: as, b :: bs => or2 (f a b) (cmpList f as bs)

theorem Cmp.list {α : Type} {f : α → α → Int} (hf : Cmp f) : Cmp (cmpList f) := by
  refine ⟨?_, ?_, ?_, ?_⟩
  · intro a
    induction a with
    | nil => intro b; cases b <;> simp [cmpList]
    | cons x a ih =>
      intro b
      cases b with
      | nil => simp [cmpList]
      | cons y b =>
        simp only [cmpList]; unfold or2; split
        · exact ih b
        · exact hf.rng _ _
  · intro a
    induction a with
    | nil => intro b; cases b <;> simp [cmpList]
    | cons x a ih =>
      intro b
      cases b with
      | nil => simp [cmpList]
      | cons y b =>
        have h1 := hf.anti x y
        have h2 := ih b
        simp only [cmpList]; unfold or2; split <;> split <;> omega
  · intro a
    induction a with
    | nil => intro b; cases b <;> simp [cmpList]
    | cons x a ih =>
      intro b
      cases b with
      | nil => simp [cmpList]
      | cons y b =>
        simp only [cmpList]
        rw [List.cons.injEq]
        by_cases e : f x y = 0
        · simp only [e, or2_zero]; rw [ih]; exact ⟨fun h => ⟨(hf.zero _ _).1 e, h⟩, fun h => h.2⟩
        · simp only [or2_ne e]; exact ⟨fun h => absurd h e, fun h => absurd ((hf.zero _ _).2 h.1) e⟩
  · intro a
    induction a with
    | nil => intro b c; cases c <;> simp [cmpList]
    | cons x a ih =>
      intro b c h1 h2
      cases b with
      | nil => simp [cmpList] at h1
      | cons y b =>
        cases c with
        | nil => simp [cmpList] at h2
        | cons z c =>
          simp only [cmpList] at *
          by_cases e1 : f x y = 0
          · have q1 := (hf.zero _ _).1 e1
            subst q1
            simp only [e1, or2_zero] at h1
            by_cases e2 : f x z = 0
            · simp only [e2, or2_zero] at *; exact ih b c h1 h2
            · simp only [or2_ne e2] at *; exact h2
          · simp only [or2_ne e1] at h1
            have h2' : f y z ≤ 0 := by
              by_cases e2 : f y z = 0
              · omega
              · simp only [or2_ne e2] at h2; exact h2
            have h3 := hf.lt_le (show f x y < 0 by omega) h2'
            simp only [or2_ne (show f x z ≠ 0 by omega)]
            omega

/-- Numbers. -/
def cmpI (a b : Int) : Int := if a < b then -1 else if b < a then 1 else 0
theorem cmpI_cmp : Cmp cmpI :=
  ⟨fun a b => by unfold cmpI; split <;> (try split) <;> simp, fun a b => by unfold cmpI; split <;> split <;> (try split) <;> omega,
   fun a b => by unfold cmpI; split <;> (try split) <;> omega, fun a b c => by unfold cmpI; split <;> split <;> (try split) <;> (try split) <;> (try split) <;> omega⟩

/-- Texts. -/
def cmpByte (a b : UInt8) : Int := cmpI a.toNat b.toNat
theorem cmpByte_cmp : Cmp cmpByte := cmpI_cmp.on (fun a : UInt8 => (a.toNat : Int)) (fun a b h => by
  have h' : a.toNat = b.toNat := by omega
  exact UInt8.toNat_inj.1 h')
theorem compareBytes_eq : ∀ a b : List UInt8, Lib.compareBytes a b = cmpList cmpByte a b
  | [], [] => rfl
  | [], _ :: _ => rfl
  | _ :: _, [] => rfl
  | a :: as, b :: bs => by
    simp only [Lib.compareBytes, cmpList, compareBytes_eq as bs]
    have e1 : (a < b) ↔ ((a.toNat : Int) < b.toNat) := by rw [UInt8.lt_iff_toNat_lt]; omega
    have e2 : (b < a) ↔ ((b.toNat : Int) < a.toNat) := by rw [UInt8.lt_iff_toNat_lt]; omega
    have h : cmpByte a b = if a < b then -1 else if b < a then 1 else 0 := by
      simp only [cmpByte, cmpI, e1, e2]
    rw [h]
    unfold or2
    by_cases h1 : a < b
    · simp [h1]
    · by_cases h2 : b < a <;> simp [h1, h2]

def cmpB (a b : ByteArray) : Int := Lib.compareBytes a.data.toList b.data.toList
theorem bytes_ext {a b : ByteArray} (h : a.data.toList = b.data.toList) : a = b := by
  cases a; cases b; simp at h; simp [h]
theorem cmpB_cmp : Cmp cmpB := by
  have h := cmpByte_cmp.list.on (fun a : ByteArray => a.data.toList) (fun a b h => bytes_ext h)
  have e : cmpB = fun a b : ByteArray => cmpList cmpByte a.data.toList b.data.toList := by
    funext a b; exact compareBytes_eq _ _
  rw [e]; exact h

/-- Uids. -/
def cmpUid (a b c d : ByteArray) : Int := or2 (cmpB a c) (cmpB b d)
theorem cmpUid_cmp : Cmp (fun x y : ByteArray × ByteArray => cmpUid x.1 x.2 y.1 y.2) := cmpB_cmp.pair cmpB_cmp

/-- A common head of a byte more says nothing. -/
theorem compareBytes_step {a b : List UInt8} {k : Nat} (ha : k < a.length) (hb : k < b.length) (he : a[k] = b[k]) :
    Lib.compareBytes (a.drop k) (b.drop k) = Lib.compareBytes (a.drop (k + 1)) (b.drop (k + 1)) := by
  rw [List.drop_eq_getElem_cons ha, List.drop_eq_getElem_cons hb, he]
  simp [Lib.compareBytes]
theorem compareBytes_less {a b : List UInt8} {k : Nat} (ha : k < a.length) (hb : k < b.length) (he : a[k] < b[k]) :
    Lib.compareBytes (a.drop k) (b.drop k) = -1 := by
  rw [List.drop_eq_getElem_cons ha, List.drop_eq_getElem_cons hb]
  simp [Lib.compareBytes, he]
theorem compareBytes_more {a b : List UInt8} {k : Nat} (ha : k < a.length) (hb : k < b.length) (he : b[k] < a[k]) :
    Lib.compareBytes (a.drop k) (b.drop k) = 1 := by
  rw [List.drop_eq_getElem_cons ha, List.drop_eq_getElem_cons hb]
  have : ¬ a[k] < b[k] := fun h => by have h1 : a[k].toNat < b[k].toNat := h; have h2 : b[k].toNat < a[k].toNat := he; omega
  simp [Lib.compareBytes, he, this]
theorem compareBytes_end {a b : List UInt8} {k : Nat} (h : a.length ≤ k ∨ b.length ≤ k) (ha : k ≤ a.length) (hb : k ≤ b.length) :
    Lib.compareBytes (a.drop k) (b.drop k) = cmpI a.length b.length := by
  by_cases h1 : a.length ≤ k
  · rw [List.drop_of_length_le h1]
    by_cases h2 : b.length ≤ k
    · rw [List.drop_of_length_le h2]
      have : a.length = b.length := by omega
      simp [Lib.compareBytes, cmpI, this]
    · rw [List.drop_eq_getElem_cons (by omega)]
      have : a.length < b.length := by omega
      simp [Lib.compareBytes, cmpI, this]
  · have h2 : b.length ≤ k := by omega
    rw [List.drop_of_length_le h2, List.drop_eq_getElem_cons (by omega)]
    have h3 : ¬ a.length < b.length := by omega
    have h4 : b.length < a.length := by omega
    simp [Lib.compareBytes, cmpI, h3, h4]
end Go.Wk
