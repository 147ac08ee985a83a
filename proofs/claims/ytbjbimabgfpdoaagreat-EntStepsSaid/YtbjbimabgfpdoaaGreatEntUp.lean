/-
  ent.Above: those that are above one, ascending.
-/
import Derived.Test.YtbjbimabgfpdoaaGreatEntSort
import Derived.Test.YtbjbimabgfpdoaaGreatEntIn
import Derived.Test.YtbjbimabgfpdoaaGreatUdRow
namespace Go.Proofs.YtbjbimabgfpdoaaGreat
open Go.RowKit Go.Wk Go.Maps Go.Sort
set_option maxRecDepth 100000

/-- Those that are above one, ascending. -/
structure UpOf (E : List En) (u : Ud) (U : List Ud) : Prop where
  mem : ∀ x, x ∈ U ↔ Abv (graphE E) u x
  asc : U.Pairwise fun x y => cfU x y < 0
theorem sortU_asc {K : List Ud} (h : K.Nodup) : (sortU K).Pairwise fun x y => cfU x y < 0 := by
  have h1 : (sortU K).Pairwise fun x y => (!ltOf cfU y x) = true := List.pairwise_mergeSort
    (fun a b c h1 h2 => by
      simp only [Bool.not_eq_true'] at *
      exact cfU_swo.ntrans _ _ _ h2 h1)
    (fun a b => by
      rcases h1 : ltOf cfU b a with _ | _
      · simp
      · rcases h2 : ltOf cfU a b with _ | _
        · simp
        · have := cfU_swo.trans _ _ _ h1 h2
          rw [cfU_swo.irrefl] at this; cases this) K
  have h2 : (sortU K).Nodup := (sortU_perm K).nodup_iff.2 h
  refine (List.Pairwise.and h1 h2).imp fun {x y} ⟨h3, h4⟩ => ?_
  simp only [Bool.not_eq_true', ltOf, decide_eq_false_iff_not] at h3
  have a1 := cfU_cmp.anti x y
  have a2 := cfU_cmp.zero x y
  rcases Int.lt_trichotomy (cfU x y) 0 with h5 | h5 | h5
  · exact h5
  · exact absurd (a2.1 h5) h4
  · omega
/-- What the range over the map of those met has collected. -/
structure ColAt (w wr : World) (M K : List Ud) (B bm r n : Nat) (v : Value) (left : Lit → Bool) (cnt N : Nat) : Prop where
  rg : wr.ranges Tryz.prog 24 heldR bm r n (mapU (metM M)) left cnt
  has : ∀ kl, left kl = true → ∃ x ∈ M, kl = keyU x
  seen : ∀ x ∈ M, left (keyU x) = !hadU K x
  sub : ∀ x ∈ K, x ∈ M
  nd : K.Nodup
  len : K.length + cnt ≤ N
  own : wr.ownsRow B 24 2 v K.length (udCells K)
  below : Below w.heap.size w wr
theorem hadU_snoc (K : List Ud) (y x : Ud) : hadU (K ++ [y]) x = (hadU K x || decide (y = x)) := by
  unfold hadU
  rw [List.any_append]
  simp
theorem ColAt.start {w wr : World} {M : List Ud} {B bm r n cnt N : Nat} (h : wr.ranges Tryz.prog 24 heldR bm r n (mapU (metM M)) (Maps.has (mapU (metM M))) cnt) (hN : cnt ≤ N) (hb : Below w.heap.size w wr) :
    ColAt w wr M [] B bm r n (.slice none 0 0) (Maps.has (mapU (metM M))) cnt N where
  rg := h
  has kl hk := by
    obtain ⟨y, hy, e⟩ := (has_mapU _ _).1 hk
    obtain ⟨x, hx, rfl⟩ := List.mem_map.1 hy
    exact ⟨x, hx, e⟩
  seen x hx := by
    have : Maps.has (mapU (metM M)) (keyU x) = true := (has_mapU _ _).2 ⟨(x, .int .i64 1), List.mem_map.2 ⟨x, hx, rfl⟩, rfl⟩
    rw [this]; rfl
  sub x hx := nomatch hx
  nd := List.nodup_nil
  len := by simpa using hN
  own := World.ownsRow_nil _ _ _ _
  below := hb
theorem ColAt.step {w wr w' : World} {M K : List Ud} {B bm r n cnt cnt' N : Nat} {v v' : Value} {left : Lit → Bool} (h : ColAt w wr M K B bm r n v left cnt N) (hok : ∀ x ∈ M, UOk x) {y : Ud} (hy : y ∈ M) (hl : left (keyU y) = true)
    (hr : w'.ranges Tryz.prog 24 heldR bm r n (mapU (metM M)) (fun z => left z && !z.sameKey (keyU y)) cnt') (hc : cnt' < cnt)
    (hown : w'.ownsRow B 24 2 v' (K.length + 1) (udCells K ++ [.string y.1, .string y.2])) (hb : Below w.heap.size w w') :
    ColAt w w' M (K ++ [y]) B bm r n v' (fun z => left z && !z.sameKey (keyU y)) cnt' N where
  rg := hr
  has kl hk := h.has kl (by
    have : (left kl && !kl.sameKey (keyU y)) = true := hk
    rw [Bool.and_eq_true] at this
    exact this.1)
  seen x hx := by
    show (left (keyU x) && !(keyU x).sameKey (keyU y)) = _
    rw [h.seen x hx, hadU_snoc, Bool.not_or]
    congr 2
    by_cases e : y = x
    · subst e; rw [WideAt.sameKey_self (keyU_lit _)]; simp
    · rw [sameKey_ne (fun q => e (keyU_inj (hok x hx) (hok y hy) q).symm)]; simp [e]
  sub x hx := by
    rcases List.mem_append.1 hx with hx | hx
    · exact h.sub x hx
    · simp only [List.mem_cons, List.not_mem_nil, or_false] at hx; subst hx; exact hy
  nd := by
    have hn : y ∉ K := by
      have := h.seen y hy
      rw [hl] at this
      have h2 : hadU K y = false := by simpa using this.symm
      exact hadU_not.1 h2
    rw [List.nodup_append]
    refine ⟨h.nd, by simp, fun a ha b hb e => ?_⟩
    simp only [List.mem_cons, List.not_mem_nil, or_false] at hb
    subst hb; subst e; exact hn ha
  len := by have := h.len; simp only [List.length_append, List.length_cons, List.length_nil]; omega
  own := by
    rw [udCells_append, List.length_append]; exact hown
  below := hb
theorem ColAt.done {w wr : World} {M K : List Ud} {B bm r n cnt N : Nat} {v : Value} {left : Lit → Bool} (h : ColAt w wr M K B bm r n v left cnt N) (hl : ∀ kl, left kl = false) (x : Ud) : x ∈ K ↔ x ∈ M :=
  ⟨h.sub x, fun hx => by
    have := h.seen x hx
    rw [hl] at this
    exact hadU_iff.1 (by simpa using this.symm)⟩
theorem tidy_mapU (L : List (Ud × Value)) : Maps.Tidy (mapU L) := by
  refine snoc_ind (C := fun L => Maps.Tidy (mapU L)) tidy_empty (fun L p ih => ?_) L
  rw [mapU_snoc]; exact ih.put (keyU_lit _) _
theorem size_met (M : List Ud) : Maps.size (mapU (metM M)) ≤ M.length := by
  have key : ∀ L : List (Ud × Value), Maps.size (mapU L) ≤ L.length := fun L => by
    refine snoc_ind (C := fun L => Maps.size (mapU L) ≤ L.length) (Nat.le_refl _) (fun L p ih => ?_) L
    rw [mapU_snoc, size_put (tidy_mapU L), List.length_append]
    split <;> simp <;> omega
  simpa [metM] using key (metM M)
theorem usort_none (w : World) (p : Option Addr) (cap : Nat) (fv : Value) :
    Calls Tryz.prog 13 #[.slice p 0 cap, fv] w fun e w' => e = .returned (.tuple #[]) ∧ w' = w := by
  have hcon := AnyF.slices_SortFunc_none { Tryz.sortK with } p cap fv w
  change Calls Tryz.prog 13 _ _ _ at hcon
  exact hcon
theorem uids_sort (w : World) (B : Nat) (v : Value) (U : List Ud) (h : w.ownsRow B 24 2 v U.length (udCells U)) (hs : U.length ≤ 1000000) :
    Calls Tryz.prog 13 #[v, .func (.func 14) #[] #[]] w fun e w' =>
      e = .returned (.tuple #[]) ∧ w'.ownsRow B 24 2 v U.length (udCells (sortU U)) ∧ w.grownBy w' v.ownBlock := by
  rcases h.2 with ⟨rfl, h0⟩ | ⟨g, cap, cur, rfl, _⟩
  · have : U = [] := List.eq_nil_of_length_eq_zero h0
    subst this
    exact (usort_none w none 0 _).mono fun e w' ⟨h1, h2⟩ => ⟨h1, by rw [h2, List.eq_nil_of_length_eq_zero (sortU_perm []).length_eq]; exact h, by rw [h2]; exact World.grownBy.refl _ _⟩
  · exact uids_SortFunc w B g cap U h hs
/-- What ent.Above tells. -/
def UpPost (w : World) (E : List En) (u : Ud) (e : Ending) (w' : World) : Prop :=
  ∃ (A : Option Addr) (n c : Nat) (U : List Ud), e = .returned (.tuple #[.slice A n c, errV (storeF E)]) ∧ Us w' A n c U ∧ (storeF E ≠ 0 → U = []) ∧ (storeF E = 0 → UpOf E u U) ∧ Below w.heap.size w w'
set_option maxHeartbeats 4000000 in
theorem ent_Above (A : Option Addr) (n c : Nat) (E : List En) (a : Ud) (w : World) (h : Es w A n c E) (ha : UOk a) :
    Calls Tryz.prog 6 #[.slice A n c, udV a] w (UpPost w E a) := by
  obtain ⟨i0, hi, hz0, hz1, hz2⟩ := info_parts udInfo
  have hmm := @run_makeMap Tryz.prog
  have HH := Lib.hid h
  have HUO := Lib.hid h.uok
  have HL := Lib.hid h.len
  have HA := Lib.hid ha
  clear h ha
  unfold udV
  go_enter Tryz.func6, Tryz.ntmps6
  go_wp2_with fail
  have P1 := Lib.hid (vr2_new w (.string a.1) (.string a.2) 24)
  have B1 := Lib.hid (below_box w (.cells #[.string a.1, .string a.2] 24))
  obtain ⟨w1, hw1⟩ : ∃ w1, w.alloc (.cells #[.string a.1, .string a.2] 24) = w1 := ⟨_, rfl⟩
  have HZ1 := Lib.hid (show w.heap.size < w1.heap.size by rw [← hw1]; simp)
  rw [hw1] at P1 B1 ⊢
  clear hw1
  generalize w.heap.size = ba at P1 HZ1 ⊢
  have K1 := Lib.hid (ent_Check A n c E w1 (HH.out.keep B1.out))
  refine K1.out.mono ?_
  rintro e w2 ⟨rfl, b2⟩
  have P2 := Lib.hid (P1.out.keep b2)
  have B2 := bh B1 b2
  have HZ2 := Lib.hid (show ba < w2.heap.size by have := HZ1.out; have := b2.size; omega)
  clear K1 P1 B1 b2
  by_cases hs : storeF E = 0
  · obtain ⟨hs1, hs2, -⟩ := store_ok hs
    obtain ⟨ho1, -, ho2⟩ := ents_ok E [] hs2
    have HO1 := Lib.hid ho1
    have HO2 := Lib.hid ho2
    have H16 := Lib.hid hs1
    have HSE := Lib.hid hs
    rw [hs, errV_zero]
    clear hs hs1 hs2 ho1 ho2
    obtain ⟨c0, c1, -, -⟩ := P2.out.keep (below_box w2 (.map #[] 0))
    have M3 := Lib.hid (show MetAt (w2.alloc (.map #[] 0)) w2.heap.size [] from World.ownsMap_made _ _ _ _)
    have P3 := Lib.hid (P2.out.keep (below_box w2 (.map #[] 0)))
    have B3 := bh B2 (below_box w2 (.map #[] 0))
    have HBM := Lib.hid (show w.heap.size ≤ w2.heap.size from B2.out.size)
    clear P2 B2
    go_wp2_with fail
    generalize w2.alloc (.map #[] 0) = w4 at *
    generalize w2.heap.size = bm at *
    have hun := Nat.le_trans (unmet_le (allUps E) []) (allUps_len E (fun x hx => (HO1.out x hx).2))
    have KA := Lib.hid (fun (bs : Nat) (w' : World) (hS : StoreAt w' bs bm E) (hM : MetAt w' bm []) => ent_above E bs bm HO2.out HUO.out 101 w' a [] HA.out (fun x hx => nomatch hx) (by have := H16.out; omega) (by have := H16.out; simp only [List.length_nil]; omega) hS hM)
    have HUN := Lib.hid (show unmet (allUps E) [] ≤ 96 from Nat.le_trans hun (by have := H16.out; omega))
    unfold udV at KA
    have PD := Lib.hid (P3.out.keep (below_drew w4))
    have MD := Lib.hid (show MetAt w4.drew bm [] from M3.out)
    have BD := Lib.hid (show Below w.heap.size w w4.drew from B3.out.trans ((below_drew w4).mono B3.out.size))
    have K2 := Lib.hid (fun w' (hb : Below w.heap.size w w') => ent_stored A n c E w' (HH.out.keep hb) (by have := HL.out; have := H16.out; omega))
    clear c0 c1
    obtain ⟨c0, c1, -, -⟩ := PD.out
    have HLM := Lib.hid (show bm < w4.drew.heap.size from MD.out.lt)
    clear hun P3 M3 B3
    go_region_with (first
      | (go_at_call 11; (refine (K2.out _ BD.out).mono ?_); rintro e w5 ⟨bs, rfl, hbs, hO, b5⟩; (obtain ⟨d0, d1, -, -⟩ := PD.out.keep b5); (have B5 := Lib.hid (BD.out.trans (b5.mono BD.out.size))); (have KA5 := Lib.hid (KA.out bs w5 (HH.out.store B5.out (by rw [← HL.out]; exact hO) (Nat.ne_of_gt (Nat.lt_of_lt_of_le HLM.out hbs)) HBM.out) (ownsMap_keep MD.out b5))); clear hbs hO b5)
      | (go_at_call 12; (refine KA5.out.mono ?_); rintro e2 w6 ⟨rfl, M', hA, hok', hc', hm', hg'⟩))
    all_goals
      have M6 := Lib.hid hm'
      have B6 := Lib.hid (B5.out.grown hg' B5.out.size (fun g hg => by cases hg; exact HBM.out))
      have HAA := Lib.hid (adds_all hA)
      have HOK := Lib.hid hok'
      have HML := Lib.hid (show M'.length ≤ 96 from by have := HUN.out; simp only [List.length_nil] at hc'; omega)
      clear hA hok' hc' hm' hg' d0 d1 KA5 KA PD c0 c1 B5 BD MD K2
    all_goals
      go_wp2_with (at_range; refine wpList_range_own _ rfl _ 43 rfl 24 3 uidKeyed Tryz.underlying43 heldR bm M'.length (mapU (metM M')) rfl M6.out ?_; intro w7 hrg hg hs)
      go_frame
      have B7 := Lib.hid (B6.out.grown hg B6.out.size (fun g hg => by cases hg))
      have R7 := Lib.hid (ColAt.start (B := w7.heap.size) (N := Maps.size (mapU (metM M'))) hrg (Nat.le_refl _) B7.out)
      have HBR := Lib.hid M6.out.lt
      have HR7 := Lib.hid (show w.heap.size ≤ w6.heap.size from B6.out.size)
      have HN7 := Lib.hid (size_met M')
      have H67 := Lib.hid hs
      clear hrg hg hs B7 M6 B6
      generalize w6.heap.size = r at *
      generalize Maps.has (mapU (metM M')) = left0 at *
      generalize Maps.size (mapU (metM M')) = N at *
    all_goals
      go_loopw [8, 9] (fun v _ wr => ∃ K left cnt, Hid (ColAt w wr M' K w7.heap.size bm r M'.length v left cnt N)) (fun _ _ wr => wr.rangeLeft bm r)
      case atStart => exact ⟨[], _, _, R7⟩
      case round =>
        clear R7
        obtain ⟨K, left, cnt, hR⟩ := hrel
        go_wp2_with (at_next; refine wpList_next_ranges _ rfl _ rfl 24 uidKeyed heldR (fun v : Value => v) (fun v : Value => v) (fun key kl _ => ⟨key, rfl⟩) (fun v y _ => ⟨v, rfl⟩) bm r M'.length (mapU (metM M')) left cnt rfl hR.out.rg ?_ ?_)
        · intro hc0 hl0
          have HD := Lib.hid (hR.out.done hl0)
          have hkl := hR.out.len
          have KS := Lib.hid (uids_sort _ w7.heap.size _ K hR.out.own (by have := HN7.out; have := HML.out; omega))
          clear hc0 hl0 hkl
          go_wp2_with fail
          refine KS.out.mono ?_
          rintro e3 w9 ⟨rfl, hown, hgr⟩
          have HB9 := Lib.hid (hR.out.below.grown hgr hR.out.below.size (fun g hg => by
            have q1 := own_base hR.out.own g hg
            have q2 := HR7.out
            have q3 := H67.out
            omega))
          have hlk : (sortU K).length = K.length := (sortU_perm K).length_eq
          have hmk : ∀ x, x ∈ sortU K ↔ x ∈ M' := fun x => ((sortU_perm K).mem_iff).trans (HD.out x)
          have hkl := hR.out.len
          rw [← hlk] at hown hkl
          obtain ⟨A', c', hv', hus⟩ := us_of_own hown (fun x hx => HOK.out x ((hmk x).1 hx)) (by have := HN7.out; have := HML.out; omega)
          have HUS := Lib.hid hus
          have HUP := Lib.hid (show UpOf E a (sortU K) from ⟨fun x => (hmk x).trans (HAA.out x), sortU_asc hR.out.nd⟩)
          clear hown hgr hkl hlk hmk hus HD KS hR
          subst hv'
          go_wp2_with fail
          go_ret2
          exact ⟨A', _, c', sortU K, by rw [HSE.out]; rfl, HUS.out, fun h => absurd HSE.out h, fun _ => HUP.out, HB9.out⟩
        · intro x v2 kl y yp w8 cnt' hkey hlk hv hat hrg hlt' hgr hsz hen
          obtain ⟨e, he, rfl⟩ := hR.out.has kl hlk
          have hxe : x = udV e := uidKeyed.inj hkey (keyOf_ud e (HOK.out e he))
          subst hxe
          have HY := Lib.hid he
          have HLK := Lib.hid hlk
          clear hkey hlk hv hat
          unfold udV at hen
          have R8 := Lib.hid hrg
          have B8 := Lib.hid (hR.out.below.grown hgr hR.out.below.size (fun g hg => by cases hg; exact HR7.out))
          have O8 := Lib.hid (hR.out.own.kept hgr (by
            rcases hv : u8.ownBlock with _ | g
            · exact .inl rfl
            · right; intro h; injection h with h; have := own_base hR.out.own g hv; have := H67.out; omega))
          have HLT := Lib.hid hlt'
          have HKL := Lib.hid hR.out.len
          clear hrg hlt' hgr hsz he
          have R10 := Lib.hid ((R8.out.alloc (.cells #[.string e.1, .string e.2] 24)).alloc (.cells #[.string e.1, .string e.2] 24))
          have B9 := bh B8 (below_box w8 (.cells #[.string e.1, .string e.2] 24))
          have B10 := bh B9 (below_box (w8.alloc (.cells #[.string e.1, .string e.2] 24)) (.cells #[.string e.1, .string e.2] 24))
          have HC := Lib.hid (show ∀ j u, (udCells [e])[j]? = some u → ((w8.alloc (.cells #[.string e.1, .string e.2] 24)).alloc (.cells #[.string e.1, .string e.2] 24)).cell? ((⟨w8.heap.size + 1, 0, none⟩ : Addr).add j) = some u by
            have := cells_new (w8.alloc (.cells #[.string e.1, .string e.2] 24)) (udCells [e]) 24
            rw [show (w8.alloc (.cells #[.string e.1, .string e.2] 24)).heap.size = w8.heap.size + 1 by simp] at this
            exact this)
          have hkl := HKL.out
          have hnm := HN7.out
          have hml := HML.out
          have h67 := H67.out
          have hr8 := R8.out.lt
          go_wp2_with (at_builtin; go_loud (refine wpList_append_own _ rfl _ _ 26 rfl w7.heap.size 24 i0 _ 2 32 Tryz.underlying26 hi hz0 hz1 hz2 rfl (by decide) _ K.length (udCells K) rfl ((O8.out.alloc _).alloc _) ⟨_, 0, none⟩ 1 1 (udCells [e]) rfl rfl HC.out (udCells_one _) ?c1 ?c2 ?c3 ?_))
          case c1 => unfold maxLen; omega
          case c2 => omega
          case c3 => simp; omega
          intro v1 w11 hown hgrow _
          have B11 := Lib.hid (B10.out.grown hgrow B10.out.size (fun g hg => by
            have q1 := own_base O8.out g hg
            have q2 := HR7.out
            omega))
          have R11 := Lib.hid (R10.out.kept hgrow (by
            intro h
            have q1 := own_base O8.out bm h.symm
            have q2 := HBR.out
            omega) (by
            intro h
            have q1 := own_base O8.out r h.symm
            omega))
          have OW := Lib.hid hown
          clear hown hgrow R10 B9 B10 hkl hnm hml h67 hr8 R8 B8 O8
          go_wp2_with fail
          go_roundw
          case rel => exact ⟨K ++ [e], _, _, Lib.hid (hR.out.step HOK.out HY.out HLK.out R11.out HLT.out (by rw [H67.out]; exact OW.out) B11.out)⟩
          case measure => rw [R11.out.left_eq, hR.out.rg.left_eq]; exact HLT.out
  · have hse := Lib.hid hs
    rw [errV_ne hs]
    clear hs
    go_wp2_with fail
    go_ret2
    exact ⟨none, 0, 0, [], by rw [errV_ne hse.out]; rfl, ⟨rfl, Nat.le_refl _, Nat.zero_le _, fun k x hx => by simp at hx, fun x hx => nomatch hx⟩, fun _ => rfl, fun h => absurd h hse.out, B2.out⟩
end Go.Proofs.YtbjbimabgfpdoaaGreat
