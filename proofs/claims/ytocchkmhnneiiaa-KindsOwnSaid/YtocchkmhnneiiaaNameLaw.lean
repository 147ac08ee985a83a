/-
  Plain: names and texts, byte by byte. No program in sight.
-/
import Derived.Test.YtocchkmhnneiiaaTextLaw
namespace Go.Wk

def isLet (n : Int) : Bool := (decide (97 ≤ n) && decide (n ≤ 122)) || (decide (65 ≤ n) && decide (n ≤ 90)) || (n == 95)
def isDig (n : Int) : Bool := decide (48 ≤ n) && decide (n ≤ 57)
def isPrt (n : Int) : Bool := decide (32 ≤ n) && decide (n ≤ 126)
def isWrd (b : UInt8) : Bool := isLet b.toNat || isDig b.toNat
def isLetB (b : UInt8) : Bool := isLet b.toNat
def isPrtB (b : UInt8) : Bool := isPrt b.toNat
def nameOk : List UInt8 → Bool
  | [] => false
  | b :: r => isLetB b && r.all isWrd
/-- What is wrong with a name: 0 nothing, 1 its form, 4 its length. -/
def nameFault (s : ByteArray) : Int := if nameOk s.data.toList then (if 20 < s.size then 4 else 0) else 1
/-- What is wrong with a text. -/
def textFault (s : ByteArray) : Int := if 60 < s.size then 4 else if s.data.toList.all isPrtB then 0 else 1

theorem all_succ (s : ByteArray) (p : UInt8 → Bool) {k : Nat} (h : k < s.size) : (s.data.toList.take (k + 1)).all p = ((s.data.toList.take k).all p && p s[k]) := by
  have h' : k < s.data.toList.length := by simpa using h
  rw [List.take_succ_eq_append_getElem h', List.all_append]
  simp only [List.all_cons, List.all_nil, Bool.and_true]
  rfl
theorem all_stop {s : ByteArray} {p : UInt8 → Bool} {k : Nat} (h : k < s.size) (hp : p s[k] = false) : s.data.toList.all p = false := by
  have h' : k < s.data.toList.length := by simpa using h
  rw [List.all_eq_false]
  exact ⟨s.data.toList[k], List.getElem_mem h', by rw [show p s.data.toList[k] = false from hp]; decide⟩
theorem all_end {s : ByteArray} {p : UInt8 → Bool} {k : Nat} (h : s.size ≤ k) : (s.data.toList.take k).all p = s.data.toList.all p := by
  rw [List.take_of_length_le (by simpa using h)]

theorem nameOk_all {s : ByteArray} (h : 0 < s.size) (hl : isLetB s[0] = true) : nameOk s.data.toList = s.data.toList.all isWrd := by
  have h' : 0 < s.data.toList.length := by simpa using h
  have e : s.data.toList = s[0] :: s.data.toList.drop 1 := List.drop_eq_getElem_cons h'
  rw [e]
  simp only [nameOk, List.all_cons, hl, Bool.true_and]
  have : isWrd s[0] = true := by unfold isWrd; unfold isLetB at hl; rw [hl]; rfl
  rw [this, Bool.true_and]
theorem nameOk_first {s : ByteArray} (h : 0 < s.size) (hl : isLetB s[0] = false) : nameOk s.data.toList = false := by
  have h' : 0 < s.data.toList.length := by simpa using h
  have e : s.data.toList = s[0] :: s.data.toList.drop 1 := List.drop_eq_getElem_cons h'
  rw [e]
  simp only [nameOk, hl, Bool.false_and]
theorem nameOk_empty {s : ByteArray} (h : s.size = 0) : nameOk s.data.toList = false := by
  have : s.data.toList = [] := List.eq_nil_of_length_eq_zero (by simpa using h)
  rw [this]; rfl
theorem nameOk_take_one {s : ByteArray} (h : 0 < s.size) (hl : isLetB s[0] = true) : nameOk (s.data.toList.take 1) = true := by
  have h' : 0 < s.data.toList.length := by simpa using h
  have e : s.data.toList = s[0] :: s.data.toList.drop 1 := List.drop_eq_getElem_cons h'
  rw [e]
  simp [nameOk, hl]
theorem nameOk_take_succ {s : ByteArray} {k : Nat} (hk : 0 < k) (h : k < s.size) (h1 : nameOk (s.data.toList.take k) = true) (h2 : isWrd s[k] = true) : nameOk (s.data.toList.take (k + 1)) = true := by
  have h' : k < s.data.toList.length := by simpa using h
  rw [List.take_succ_eq_append_getElem h']
  have h0 : 0 < s.data.toList.length := by omega
  have e : s.data.toList.take k = s.data.toList[0] :: (s.data.toList.take k).drop 1 := by
    have hk' : 0 < (s.data.toList.take k).length := by rw [List.length_take]; omega
    have := List.drop_eq_getElem_cons hk'
    rw [List.getElem_take] at this
    exact this
  rw [e] at h1 ⊢
  simp only [nameOk, List.cons_append, List.all_append, List.all_cons, List.all_nil, Bool.and_true, Bool.and_eq_true] at h1 ⊢
  exact ⟨h1.1, h1.2, h2⟩
theorem nameOk_stop {s : ByteArray} {k : Nat} (hk : 0 < k) (h : k < s.size) (h2 : isWrd s[k] = false) : nameOk s.data.toList = false := by
  have h0 : 0 < s.size := by omega
  rcases hl : isLetB s[0] with _ | _
  · exact nameOk_first h0 hl
  · rw [nameOk_all h0 hl]; exact all_stop h h2
theorem nameOk_end {s : ByteArray} {k : Nat} (h : s.size ≤ k) (h1 : nameOk (s.data.toList.take k) = true) : nameOk s.data.toList = true := by
  rwa [List.take_of_length_le (by simpa using h)] at h1
end Go.Wk
