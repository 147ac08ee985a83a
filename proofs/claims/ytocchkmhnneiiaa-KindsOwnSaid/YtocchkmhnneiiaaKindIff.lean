/-
  Plain: the least of several types. No program in sight.
-/
import Derived.Test.YtocchkmhnneiiaaKindValid
namespace Go.Wk
theorem below_join_iff {a b c : Kd} (ha : a.ok) (hb : b.ok) (hc : c.ok) : belowK (joinK a b) c = true ↔ belowK a c = true ∧ belowK b c = true := by
  obtain ⟨u1, u2⟩ := join_up _ a b (Nat.le_refl _) ha hb
  have o := join_ok _ a b (Nat.le_refl _) ha hb
  constructor
  · intro h
    exact ⟨below_trans _ a _ c (Nat.le_refl _) ha o hc u1 h, below_trans _ b _ c (Nat.le_refl _) hb o hc u2 h⟩
  · rintro ⟨h1, h2⟩
    exact join_least _ a b c (Nat.le_refl _) ha hb hc h1 h2
theorem join_self {a : Kd} (ha : a.ok) : joinK a a = a := (join_iff ha ha).2 (below_refl _ a (Nat.le_refl _) ha)
theorem below_both {a b : Kd} (ha : a.ok) (hb : b.ok) : (belowK a b = true ∧ belowK b a = true) ↔ a = b := by
  constructor
  · rintro ⟨h1, h2⟩; exact below_anti _ a b (Nat.le_refl _) ha hb h1 h2
  · rintro rfl; exact ⟨below_refl _ a (Nat.le_refl _) ha, below_refl _ a (Nat.le_refl _) ha⟩
end Go.Wk
