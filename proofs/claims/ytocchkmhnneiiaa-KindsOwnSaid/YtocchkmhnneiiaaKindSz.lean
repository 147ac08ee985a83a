/-
  Plain: how great the least above two is; the fields as they come out of join's loops, and sorted. No program in sight.
-/
import Derived.Test.YtocchkmhnneiiaaKindIff
import Derived.Test.YtocchkmhnneiiaaKindList
namespace Go.Wk

/-- What f's names have in g. -/
def overF : Fl → Fl → Nat
  | .nil, _ => 0
  | .cons s _ _ r, g => (match g.find s with | none => 0 | some (_, k) => k.sz) + overF r g
theorem insF_sz (s : ByteArray) (m : Bool) (k : Kd) : ∀ f : Fl, (insF s m k f).sz = f.sz + k.sz + 1
  | .nil => by simp [insF, Fl.sz]
  | .cons t m' k' r => by
    simp only [insF]
    split
    · simp only [Fl.sz]; omega
    · simp only [Fl.sz, insF_sz s m k r]; omega
theorem over_nil : ∀ f : Fl, overF f .nil = 0
  | .nil => rfl
  | .cons s m k r => by simp [overF, Fl.find, over_nil r]
theorem over_cons (t : ByteArray) (m : Bool) (k : Kd) (r : Fl) : ∀ f : Fl, f.asc → overF f (.cons t m k r) ≤ overF f r + (if (f.find t).isSome then k.sz else 0)
  | .nil, _ => by simp [overF]
  | .cons s m' k' f, h => by
    have ih := over_cons t m k r f (asc_tail h)
    by_cases e : s = t
    · subst e
      have hn : f.find s = none := tail_none h
      rw [hn] at ih
      simp only [overF, Fl.find, if_true, Option.isSome_some]
      simp only [Option.isSome_none, Bool.false_eq_true, if_false] at ih
      omega
    · have e2 : ¬ t = s := fun q => e q.symm
      simp only [overF, Fl.find, if_neg e, if_neg e2]
      omega
theorem rest_over (f : Fl) (hf : f.asc) : ∀ g : Fl, (restF g f).sz + overF f g ≤ g.sz
  | .nil => by simp [restF, Fl.sz, over_nil]
  | .cons t m k r => by
    have ih := rest_over f hf r
    have h := over_cons t m k r f hf
    simp only [restF, Fl.sz]
    split
    · rename_i hs
      rw [if_pos hs] at h
      omega
    · rename_i hs
      rw [if_neg hs] at h
      simp only [Fl.sz]
      omega
theorem sz_pos (k : Kd) : 1 ≤ k.sz := by cases k <;> simp [Kd.sz]
theorem find_sz_le {f : Fl} {s : ByteArray} {m : Bool} {k : Kd} (hf : f.find s = some (m, k)) : k.sz ≤ f.sz := Nat.le_of_lt (find_sz hf)
theorem join_sz : ∀ n : Nat, (∀ a b : Kd, a.sz ≤ n → a.ok → b.ok → (joinK a b).sz ≤ a.sz + b.sz) ∧ (∀ f g acc : Fl, f.sz ≤ n → f.asc → f.ok → g.ok → (joinF f g acc).sz ≤ f.sz + acc.sz + overF f g)
  | 0 => by
    refine ⟨fun a b h => by cases a <;> simp [Kd.sz] at h, fun f g acc h _ _ _ => ?_⟩
    cases f with
    | nil => simp [joinF, Fl.sz, overF]
    | cons s m k r => simp [Fl.sz] at h
  | n + 1 => by
    obtain ⟨ihK, ihF⟩ := join_sz n
    refine ⟨fun a b h ha hb => ?_, fun f g acc h hf hok hg => ?_⟩
    · have hpa := sz_pos a
      by_cases h1 : b = .base 48
      · rw [join_any h1]; simp only [Kd.sz]; omega
      by_cases h2 : b = .base 49
      · rw [join_none h2]; omega
      have hp := sz_pos b
      cases a with
      | base x =>
        rw [join_base h1 h2]
        split
        · omega
        · split <;> simp only [Kd.sz] <;> omega
      | ent s =>
        rw [join_ent h1 h2]
        split <;> simp only [Kd.sz] <;> omega
      | set p =>
        simp only [Kd.sz] at h
        rcases join_set (p := p) h1 h2 with ⟨q, rfl, e⟩ | ⟨-, e⟩
        · rw [e]
          have := ihK p q (by omega) ha hb
          simp only [Kd.sz]; omega
        · rw [e]; simp only [Kd.sz]; omega
      | fs f =>
        simp only [Kd.sz] at h
        rcases join_fs (f := f) h1 h2 with ⟨g, rfl, e⟩ | ⟨-, e⟩
        · rw [e]
          have := ihF f g (restF g f) (by omega) ha.1 ha.2 hb.2
          have := rest_over f ha.1 g
          simp only [Kd.sz]; omega
        · rw [e]; simp only [Kd.sz]; omega
    · cases f with
      | nil => simp only [joinF, Fl.sz, overF]; omega
      | cons s m k r =>
        simp only [Fl.sz] at h
        have ih := ihF r g acc (by omega) (asc_tail hf) hok.2 hg
        rcases hs : g.find s with _ | ⟨m', k'⟩
        · simp only [joinF, hs, overF, insF_sz, Fl.sz]; omega
        · have := ihK k k' (by omega) hok.1 (find_ok hg hs)
          simp only [joinF, hs, overF, insF_sz, Fl.sz]; omega
theorem joinK_sz {a b : Kd} (ha : a.ok) (hb : b.ok) : (joinK a b).sz ≤ a.sz + b.sz := (join_sz _).1 a b (Nat.le_refl _) ha hb

/-- Fields of a list. -/
def ofL : List Kfd → Fl
  | [] => .nil
  | y :: r => .cons y.1 y.2.1 y.2.2 (ofL r)
theorem ofL_list : ∀ L : List Kfd, (ofL L).list = L
  | [] => rfl
  | y :: r => by simp [ofL, Fl.list, ofL_list r]
theorem list_ofL : ∀ f : Fl, ofL f.list = f
  | .nil => rfl
  | .cons s m k r => by simp [Fl.list, ofL, list_ofL r]
theorem ofL_asc : ∀ L : List Kfd, (L.Pairwise fun a b => cmpB a.1 b.1 < 0) → (ofL L).asc ∧ ∀ x, (∀ y ∈ L, cmpB x y.1 < 0) → (ofL L).ascFrom x
  | [], _ => ⟨trivial, fun _ _ => trivial⟩
  | y :: r, h => by
    rw [List.pairwise_cons] at h
    obtain ⟨h1, h2⟩ := h
    obtain ⟨-, ih⟩ := ofL_asc r h2
    exact ⟨ih y.1 h1, fun x hx => ⟨hx y (by simp), ih y.1 h1⟩⟩
/-- Fields ahead of fields. -/
def catF (L : List Kfd) (f : Fl) : Fl := ofL (L ++ f.list)
theorem catF_nil (f : Fl) : catF [] f = f := by unfold catF; rw [List.nil_append, list_ofL]
theorem catF_snoc (L : List Kfd) (s : ByteArray) (b : Bool) (k : Kd) (f : Fl) : catF (L ++ [(s, b, k)]) f = catF L (.cons s b k f) := by
  unfold catF
  rw [List.append_assoc]
  rfl
theorem catF_end (L : List Kfd) : catF L .nil = ofL L := by unfold catF; rw [Fl.list, List.append_nil]
/-- What becomes of a field of the first one. -/
def mixO (g : Fl) (y : Kfd) : Kfd := match g.find y.1 with
  | none => (y.1, false, y.2.2)
  | some (m', k') => (y.1, y.2.1 && m', joinK y.2.2 k')
/-- The fields as join's loops lay them: the first one's, then those that the second one alone has. -/
def mixL (f g : Fl) : List Kfd := f.list.map (mixO g) ++ (g.list.filter fun y => (f.find y.1).isNone).map fun y => (y.1, false, y.2.2)
theorem mixO_name (g : Fl) (y : Kfd) : (mixO g y).1 = y.1 := by unfold mixO; split <;> rfl
theorem mixL_mem {f g : Fl} (hf : f.asc) (hg : g.asc) (s : ByteArray) (m : Bool) (k : Kd) : (s, m, k) ∈ mixL f g ↔ (joinF f g (restF g f)).find s = some (m, k) := by
  rw [join_find hf]
  unfold mixL
  rw [List.mem_append, List.mem_map, List.mem_map]
  constructor
  · rintro (⟨⟨s', m', k'⟩, h1, h2⟩ | ⟨⟨s', m', k'⟩, h1, h2⟩)
    · have h3 := (find_list hf).2 h1
      have hs : s' = s := by have := mixO_name g (s', m', k'); rw [h2] at this; exact this.symm
      subst hs
      rw [h3]
      unfold mixO at h2
      simp only at h2
      rcases hg2 : g.find s' with _ | ⟨m2, k2⟩
      · rw [hg2] at h2; simp only [Prod.mk.injEq, true_and] at h2; simp [jn, h2]
      · rw [hg2] at h2; simp only [Prod.mk.injEq, true_and] at h2; simp [jn, h2]
    · rw [List.mem_filter] at h1
      obtain ⟨h1, h4⟩ := h1
      have h3 := (find_list hg).2 h1
      simp only [Prod.mk.injEq] at h2
      obtain ⟨rfl, rfl, rfl⟩ := h2
      simp only [Option.isNone_iff_eq_none] at h4
      rw [h3, h4]
      rfl
  · intro h
    rcases hf2 : f.find s with _ | ⟨m1, k1⟩
    · rcases hg2 : g.find s with _ | ⟨m2, k2⟩
      · rw [hf2, hg2] at h; cases h
      · rw [hf2, hg2] at h
        simp only [jn, Option.some.injEq, Prod.mk.injEq] at h
        refine .inr ⟨(s, m2, k2), List.mem_filter.2 ⟨(find_list hg).1 hg2, by simp [hf2]⟩, by simp [h]⟩
    · refine .inl ⟨(s, m1, k1), (find_list hf).1 hf2, ?_⟩
      unfold mixO
      simp only
      rcases hg2 : g.find s with _ | ⟨m2, k2⟩
      · rw [hf2, hg2] at h
        simp only [jn, Option.some.injEq, Prod.mk.injEq] at h
        simp [h]
      · rw [hf2, hg2] at h
        simp only [jn, Option.some.injEq, Prod.mk.injEq] at h
        simp [h]
theorem mixL_sz {f g : Fl} : (mixL f g).length ≤ f.len + g.len := by
  unfold mixL
  rw [List.length_append, List.length_map, List.length_map]
  have h := List.length_filter_le (fun y : Kfd => (f.find y.1).isNone) g.list
  have h1 : ∀ x : Fl, x.list.length = x.len := fun x => by
    induction x using Fl.rec (motive_1 := fun _ => True) with
    | nil => rfl
    | cons s m k r _ ih => simp [Fl.len, Fl.list, ih]
    | _ => trivial
  have e1 := h1 f
  have e2 := h1 g
  omega
/-- Sorted by their names, they are the fields of the least above both. -/
theorem mixL_sorted {f g : Fl} (hf : f.asc) (hg : g.asc) {L : List Kfd} (hp : L.Perm (mixL f g)) (hs : L.Pairwise fun a b => cmpB a.1 b.1 ≤ 0) : ofL L = joinF f g (restF g f) := by
  have hnd : L.Pairwise fun a b => cmpB a.1 b.1 < 0 := by
    have hn : (mixL f g).Pairwise fun a b => a.1 ≠ b.1 := by
      unfold mixL
      rw [List.pairwise_append]
      refine ⟨?_, ?_, ?_⟩
      · rw [List.pairwise_map]
        refine (list_asc hf).imp fun {a b} h e => ?_
        rw [mixO_name, mixO_name] at e
        rw [e, cmpB_cmp.self] at h
        omega
      · rw [List.pairwise_map]
        refine ((list_asc hg).filter _).imp fun {a b} h e => ?_
        simp only at e
        rw [e, cmpB_cmp.self] at h
        omega
      · intro a ha b hb e
        rw [List.mem_map] at ha hb
        obtain ⟨x, hx, rfl⟩ := ha
        obtain ⟨y, hy, rfl⟩ := hb
        rw [mixO_name] at e
        simp only at e
        rw [List.mem_filter] at hy
        have h1 : f.find y.1 = none := by simpa using hy.2
        have h2 := (find_list hf (s := x.1) (m := x.2.1) (k := x.2.2)).2 hx
        rw [e, h1] at h2
        cases h2
    have hnL : L.Pairwise fun a b => a.1 ≠ b.1 := hp.symm.pairwise hn (fun {a b} h => fun e => h e.symm)
    refine (List.Pairwise.and hs hnL).imp fun {a b} ⟨h1, h2⟩ => ?_
    have : cmpB a.1 b.1 ≠ 0 := fun e => h2 ((cmpB_cmp.zero _ _).1 e)
    omega
  have ho := (ofL_asc L hnd).1
  refine fl_ext _ _ ho (join_asc hf hg) fun s => ?_
  rcases h : (joinF f g (restF g f)).find s with _ | ⟨m, k⟩
  · rw [find_none, ofL_list]
    intro y hy e
    have h2 := (mixL_mem hf hg y.1 y.2.1 y.2.2).1 (hp.mem_iff.1 hy)
    rw [e, h] at h2
    cases h2
  · rw [find_list ho, ofL_list]
    exact hp.mem_iff.2 ((mixL_mem hf hg s m k).2 h)
end Go.Wk
