/-
  Plain: the least type above two is above both, and below whatever is. No program in sight.
  Plain: what two types that may be handed in join to may be, but for its length. No program in sight.
  Plain: the least of several types. No program in sight.
  Plain: the fields of a record's type as a list. No program in sight.
  Plain: how great the least above two is; the fields as they come out of join's loops, and sorted. No program in sight.
  Plain: the type that a value has of its own. No program in sight.
  Plain: below, field by field; which types a value has. No program in sight.
  Plain: types and values as nodes that are handed in: below, joined, had, own. No program in sight.
  Plain: schemas: what is wrong with one, with a store by one, with a request by one. No program in sight.
-/
import Derived.Test.YtcdpoamiejompaaGreatDoorQe8
namespace Go.Wk

end Go.Wk
namespace Go.Wk

/-- All names and types are as they may be. -/
def Fl.av : Fl → Prop
  | .nil => True
  | .cons s _ k r => nameFault s = 0 ∧ k.valid ∧ r.av
theorem emp_lt {s : ByteArray} (h : nameFault s = 0) : cmpB emp s < 0 := by
  have hne : s ≠ emp := fun e => by subst e; exact absurd h (by decide)
  rcases cmpB_cmp.rng emp s with e | e | e
  · omega
  · exact absurd ((cmpB_cmp.zero _ _).1 e).symm hne
  · exfalso
    unfold cmpB at e
    have : emp.data.toList = [] := rfl
    rw [this] at e
    cases hs : s.data.toList with
    | nil => exact hne (bytes_ext (by rw [hs]; rfl))
    | cons a l => rw [hs] at e; simp [Lib.compareBytes] at e
theorem validFrom_iff : ∀ (f : Fl) (x : ByteArray), f.validFrom x ↔ f.ascFrom x ∧ f.av
  | .nil, _ => by simp [Fl.validFrom, Fl.ascFrom, Fl.av]
  | .cons s m k r, x => by
    simp only [Fl.validFrom, Fl.ascFrom, Fl.av, validFrom_iff r s]
    constructor
    · rintro ⟨a, b, c, d, e⟩; exact ⟨⟨a, d⟩, b, c, e⟩
    · rintro ⟨⟨a, d⟩, b, c, e⟩; exact ⟨a, b, c, d, e⟩
theorem asc_emp : ∀ f : Fl, f.asc → f.av → f.ascFrom emp
  | .nil, _, _ => trivial
  | .cons _ _ _ _, h, hv => ⟨emp_lt hv.1, h⟩
theorem valid_fs {f : Fl} : (Kd.fs f).valid ↔ f.asc ∧ f.av := by
  simp only [Kd.valid, validFrom_iff]
  exact ⟨fun ⟨a, b⟩ => ⟨asc_tail a, b⟩, fun ⟨a, b⟩ => ⟨asc_emp f a b, b⟩⟩
theorem valid_ok : ∀ (n : Nat) (a : Kd), a.sz ≤ n → a.valid → a.ok
  | 0, a, h, _ => by cases a <;> simp [Kd.sz] at h
  | n + 1, a, h, hv => by
    cases a with
    | base x => trivial
    | ent s => trivial
    | set p => simp only [Kd.sz] at h; exact valid_ok n p (by omega) hv
    | fs f =>
      simp only [Kd.sz] at h
      obtain ⟨h1, h2⟩ := valid_fs.1 hv
      refine ⟨h1, ?_⟩
      have key : ∀ g : Fl, g.sz ≤ n → g.av → g.ok := by
        intro g hs hg
        induction g using Fl.rec (motive_1 := fun _ => True) with
        | nil => trivial
        | cons s m k r _ ih =>
          simp only [Fl.sz] at hs
          exact ⟨valid_ok n k (by omega) hg.2.1, ih (by omega) hg.2.2⟩
        | _ => trivial
      exact key f (by omega) h2
theorem Kd.valid.ok {a : Kd} (h : a.valid) : a.ok := valid_ok _ a (Nat.le_refl _) h
end Go.Wk
namespace Go.Wk
end Go.Wk
namespace Go.Wk

abbrev Kfd := ByteArray × Bool × Kd
def Fl.list : Fl → List Kfd
  | .nil => []
  | .cons s m k r => (s, m, k) :: r.list
/-- Half-way: the names ahead of lo are below s, those from hi on are not. -/
structure Half (L : List Kfd) (s : ByteArray) (lo hi : Nat) : Prop where
  le : lo ≤ hi
  hi_ : hi ≤ L.length
  low : ∀ i (h : i < L.length), i < lo → cmpB L[i].1 s < 0
  high : ∀ i (h : i < L.length), hi ≤ i → ¬ cmpB L[i].1 s < 0
theorem Half.start (L : List Kfd) (s : ByteArray) : Half L s 0 L.length := ⟨Nat.zero_le _, Nat.le_refl _, fun i _ h => by omega, fun i h h2 => by omega⟩
theorem Half.up {L : List Kfd} {s : ByteArray} {lo hi m : Nat} (h : Half L s lo hi) (hp : L.Pairwise fun a b => cmpB a.1 b.1 < 0) (h1 : lo ≤ m) (h2 : m < hi) (hm : m < L.length) (hl : cmpB L[m].1 s < 0) : Half L s (m + 1) hi :=
  ⟨by omega, h.hi_, fun i hi' hlt => by
    rcases Nat.lt_or_ge i m with q | q
    · have := List.pairwise_iff_getElem.1 hp i m hi' hm q
      exact cmpB_cmp.lt_le this (by omega)
    · have : i = m := by omega
      subst this; exact hl, h.high⟩
end Go.Wk
namespace Go.Wk

/-- Fields of a list. -/
def ofL : List Kfd → Fl
  | [] => .nil
  | y :: r => .cons y.1 y.2.1 y.2.2 (ofL r)
end Go.Wk
namespace Go.Wk

def headS : List Nd → ByteArray
  | [] => emp
  | x :: _ => x.s
/-- The least above these. -/
def joinAll (L : List Kd) : Kd := L.foldl joinK (.base 49)
/-- The type of a value's own (m: more than its nodes). -/
def ownK : Nat → List Nd → Kd
  | 0, _ => .base 49
  | m + 1, P =>
    if headOp P = 1 then .base 41 else if headOp P = 2 then .base 42 else if headOp P = 3 then .base 43 else if headOp P = 4 then .ent (headS P)
    else if headOp P = 5 then .set (joinAll ((setParts P).map (ownK m)))
    else .fs (ofL ((recParts P).map fun x => (x.1, true, ownK m x.2)))
def ownV (P : List Nd) : Kd := ownK (P.length + 1) P

theorem mem_flat {L : List (List Nd)} {Q : List Nd} (h : Q ∈ L) : Q.length ≤ L.flatten.length := by
  induction L with
  | nil => cases h
  | cons a r ih =>
    rw [List.flatten_cons, List.length_append]
    rcases List.mem_cons.1 h with rfl | h
    · omega
    · have := ih h; omega
theorem mem_flatR {L : List (ByteArray × List Nd)} {x : ByteArray × List Nd} (h : x ∈ L) : x.2.length < (flatR L).length := by
  induction L with
  | nil => cases h
  | cons a r ih =>
    simp only [flatR, List.length_cons, List.length_append]
    rcases List.mem_cons.1 h with rfl | h
    · omega
    · have := ih h; omega
theorem set_smaller {P : List Nd} (h : IsV P) (h5 : headOp P = 5) {Q : List Nd} (hQ : Q ∈ setParts P) : Q.length < P.length := by
  obtain ⟨e, -, -, -⟩ := isV_set h h5
  have := mem_flat hQ
  rw [e, List.length_cons]
  omega
theorem rec_smaller {P : List Nd} (h : IsV P) (h6 : headOp P = 6) {x : ByteArray × List Nd} (hx : x ∈ recParts P) : x.2.length < P.length := by
  obtain ⟨e, -, -, -⟩ := isV_rec h h6
  have := mem_flatR hx
  rw [e, List.length_cons]
  omega
/-- A value begins with a node that is shaped, and is no field. -/
theorem isV_head {P : List Nd} (h : IsV P) : ∃ x r, P = x :: r ∧ shapedN x = true ∧ x.op ≠ 7 := by
  have hp := h.pos
  unfold IsV at h
  rcases P with _ | ⟨x, r⟩
  · simp at hp
  refine ⟨x, r, rfl, ?_⟩
  simp only [partEnd, List.getElem?_cons_zero] at h
  by_cases hs : shapedN x = true
  · refine ⟨hs, fun h7 => ?_⟩
    rw [if_pos hs, h7, if_neg (by decide), if_neg (by decide), if_pos rfl] at h
    cases h
  · rw [if_neg hs] at h; cases h
/-- A leaf is one node. -/
theorem isV_leaf {P : List Nd} (h : IsV P) (h5 : headOp P ≠ 5) (h6 : headOp P ≠ 6) : P.length = 1 := by
  obtain ⟨x, r, rfl, hs, h7⟩ := isV_head h
  rw [headOp_cons] at h5 h6
  unfold IsV at h
  simp only [partEnd, List.getElem?_cons_zero] at h
  rw [if_pos hs, if_neg h5, if_neg h6, if_neg h7] at h
  simpa using h.symm
/-- A proof over all values. -/
theorem val_ind (M : List Nd → Prop) (h1 : ∀ P, IsV P → headOp P ≠ 5 → headOp P ≠ 6 → M P) (h5 : ∀ P, IsV P → headOp P = 5 → (∀ Q ∈ setParts P, M Q) → M P) (h6 : ∀ P, IsV P → headOp P = 6 → (∀ x ∈ recParts P, M x.2) → M P) :
    ∀ (n : Nat) (P : List Nd), P.length ≤ n → IsV P → M P
  | 0, P, h, hP => by have := hP.pos; omega
  | n + 1, P, h, hP => by
    by_cases e5 : headOp P = 5
    · exact h5 P hP e5 fun Q hQ => val_ind M h1 h5 h6 n Q (by have := set_smaller hP e5 hQ; omega) ((isV_set hP e5).2.2.1 Q hQ)
    · by_cases e6 : headOp P = 6
      · exact h6 P hP e6 fun x hx => val_ind M h1 h5 h6 n x.2 (by have := rec_smaller hP e6 hx; omega) ((isV_rec hP e6).2.2.1 x hx).1
      · exact h1 P hP e5 e6
theorem valInd {M : List Nd → Prop} {P : List Nd} (hP : IsV P) (h1 : ∀ P, IsV P → headOp P ≠ 5 → headOp P ≠ 6 → M P) (h5 : ∀ P, IsV P → headOp P = 5 → (∀ Q ∈ setParts P, M Q) → M P) (h6 : ∀ P, IsV P → headOp P = 6 → (∀ x ∈ recParts P, M x.2) → M P) : M P :=
  val_ind M h1 h5 h6 _ P (Nat.le_refl _) hP
end Go.Wk
namespace Go.Wk

end Go.Wk
namespace Go.Wk

/-- What a type and a value tell. -/
def kHasE (T V : List Nd) : Int := if kindFault T = 0 then valFault V else kindFault T
def kHasB (T V : List Nd) : Bool := decide (kHasE T V = 0) && (match readK T with
  | some k => belowK (ownV V) k
  | none => false)
/-- A type that may be handed in. -/
structure Kin (P : List Nd) (k : Kd) : Prop where
  v : k.valid
  e : P = k.flat
  l : P.length ≤ 200
theorem Kin.zero {P : List Nd} {k : Kd} (h : Kin P k) : kindFault P = 0 := kindFault_zero.2 ⟨h.l, k, h.v, h.e⟩
theorem Kin.read {P : List Nd} {k : Kd} (h : Kin P k) : readK P = some k := readK_iff.2 ⟨h.v, h.e⟩
theorem Kin.eq {P Q : List Nd} {a b : Kd} (h : Kin P a) (k : Kin Q b) : P = Q ↔ a = b := by
  constructor
  · intro e
    refine flat_inj h.v k.v ?_
    rw [← h.e, ← k.e, e]
  · intro e
    rw [h.e, k.e, e]
theorem has_zero {T V : List Nd} : kHasE T V = 0 ↔ kindFault T = 0 ∧ valFault V = 0 := by
  unfold kHasE
  split
  · rename_i h; simp [h]
  · rename_i h; simp [h]
theorem Kin.has {T V : List Nd} {k : Kd} (h : Kin T k) (hv : valFault V = 0) : kHasB T V = belowK (ownV V) k := by
  unfold kHasB
  rw [has_zero.2 ⟨h.zero, hv⟩, h.read]
  rfl
end Go.Wk
namespace Go.Wk

/-- A kind of entities. -/
structure KD where
  nm : ByteArray
  up : List ByteArray
  P : List Nd
/-- An act. -/
structure AD where
  id : ByteArray
  who : List ByteArray
  what : List ByteArray
  P : List Nd
theorem or2_zero_iff {x y : Int} : or2 x y = 0 ↔ x = 0 ∧ y = 0 := by
  unfold or2
  split
  · rename_i h; simp [h]
  · rename_i h; simp [h]
end Go.Wk
