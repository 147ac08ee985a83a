/-
  ref FieldsOf, FieldKind, PartKind: where the fields of a record's type stand, and their types; ref KindEnd, KindFault.
  Types as they lie.
  Variables of several cells of the call's own.
  kinds.find: the field of a name, by halves.
  kinds.below: is a type below another one.
-/
import Derived.Test.YtmekockjgldndaaGreatDoorQc10
namespace Go.Proofs.YtmekockjgldndaaGreatDoor
open Go.RowKit Go.Wk Go.Sort
set_option maxRecDepth 100000

/-- KindEnd. -/
theorem ref_KindEnd (P : List Nd) (A : Option Addr) (n c : Nat) : ∀ m, KeC P A n c m
  | 0 => fun q w h hm => ke_out P A n c q w h.len (by omega)
  | m + 1 => fun q w h hm => by
    by_cases hq : q < n
    · have ih := ref_KindEnd P A n c m
      have hp : q < P.length := by rw [← h.len]; exact hq
      have hx := List.getElem?_eq_getElem hp
      obtain ⟨a, rfl, d0, d1, d2, d3⟩ := h.at_ q _ hx
      have hok := h.ok _ (List.getElem_mem hp)
      generalize P[q] = x at *
      by_cases hb : x.t ≠ emp ∨ (x.op ≠ 44 ∧ x.s ≠ emp) ∨ (x.op ≠ 46 ∧ x.n ≠ 0) ∨ x.n < 0
      · have e : kEnd P q = -1 := by
          by_cases b1 : baseOp x.op
          · rw [kEnd_base hx b1, if_neg]
            rintro ⟨q1, q2, q3⟩
            rcases hb with hb | ⟨-, hb⟩ | ⟨-, hb⟩ | hb
            · exact hb q3
            · exact hb q2
            · exact hb q1
            · omega
          by_cases b2 : x.op = 44
          · rw [kEnd_ent hx b2, if_neg]
            rintro ⟨q1, q2, q3⟩
            rcases hb with hb | ⟨hb, -⟩ | ⟨-, hb⟩ | hb
            · exact hb q3
            · exact hb b2
            · exact hb q1
            · omega
          by_cases b3 : x.op = 45
          · rw [kEnd_set hx b3, if_neg]
            rintro ⟨q1, q2, q3⟩
            rcases hb with hb | ⟨-, hb⟩ | ⟨-, hb⟩ | hb
            · exact hb q3
            · exact hb q2
            · exact hb q1
            · omega
          by_cases b4 : x.op = 46
          · rw [kEnd_rec hx b4, if_neg]
            rintro ⟨q1, q2, q3⟩
            rcases hb with hb | ⟨-, hb⟩ | ⟨hb, -⟩ | hb
            · exact hb q3
            · exact hb q2
            · exact hb b4
            · omega
          exact kEnd_else hx b1 b2 b3 b4
        rw [e]
        exact ke_bad a n c q x.op x.n x.s x.t w h.max hq d0 d1 d2 d3 hb
      · have ht : x.t = emp := Decidable.byContradiction fun e => hb (.inl e)
        have hs : x.op ≠ 44 → x.s = emp := fun e0 => Decidable.byContradiction fun e => hb (.inr (.inl ⟨e0, e⟩))
        have hn : x.op ≠ 46 → x.n = 0 := fun e0 => Decidable.byContradiction fun e => hb (.inr (.inr (.inl ⟨e0, e⟩)))
        have hn0 : 0 ≤ x.n := Decidable.byContradiction fun e => hb (.inr (.inr (.inr (by omega))))
        by_cases b1 : baseOp x.op
        · have h44 : x.op ≠ 44 := fun e => by rw [e] at b1; revert b1; decide
          have h46 : x.op ≠ 46 := fun e => by rw [e] at b1; revert b1; decide
          rw [kEnd_base hx b1, if_pos ⟨hn h46, hs h44, ht⟩]
          exact ke_base a n c q x.op x.n x.s x.t w h.max hq d0 d1 d2 d3 b1 (hn h46) (hs h44) ht
        by_cases b2 : x.op = 44
        · have h46 : x.op ≠ 46 := by omega
          have e : kEnd P q = if nameFault x.s = 0 then ((q + 1 : Nat) : Int) else -1 := by
            rw [kEnd_ent hx b2]
            by_cases hf : nameFault x.s = 0
            · rw [if_pos hf, if_pos ⟨hn h46, hf, ht⟩]
            · rw [if_neg hf, if_neg (fun q => hf q.2.1)]
          rw [e]
          exact ke_ent a n c q x.op x.n x.s x.t w h.max hq d0 d1 d2 d3 hok.s b2 (hn h46) ht
        by_cases b3 : x.op = 45
        · exact ke_set P m a n c q w ih h hq hm x hx b3 (hn (by omega)) (hs (by omega)) ht
        by_cases b4 : x.op = 46
        · exact ke_rec P m a n c q w ih h hq hm x hx b4 hn0 (hs (by omega)) ht
        rw [kEnd_else hx b1 b2 b3 b4]
        exact ke_else a n c q x.op x.n x.s x.t w h.max hq d0 d1 d2 d3 b1 b2 b3 b4
    · exact ke_out P A n c q w h.len (by omega)
theorem ref_End {P : List Nd} {A : Option Addr} {n c : Nat} {w : World} (h : Ns w A n c P) (q : Nat) : Calls Tryz.prog 43 #[.slice A n c, .int .i64 q] w fun e w' => e = .returned (.int .i64 (kEnd P q)) ∧ Below w.heap.size w w' :=
  ref_KindEnd P A n c n q w h (Nat.sub_le _ _)
theorem ref_KindFault (A : Option Addr) (n c : Nat) (P : List Nd) (w : World) (h : Ns w A n c P) :
    Calls Tryz.prog 14 #[.slice A n c] w fun e w' => e = .returned (.int .i64 (kindFault P)) ∧ Below w.heap.size w w' := by
  have HL := Lib.hid h.len
  have hm := h.max
  unfold maxLen at hm
  have K := Lib.hid (ref_End h 0)
  by_cases h200 : 200 < n
  · have HF := Lib.hid (show kindFault P = 4 by unfold kindFault; rw [if_pos (by rw [← HL.out]; exact h200)])
    have f1 : decide (200 < (n : Int)) = true := decide_eq_true (by omega)
    clear h K h200
    go_enter Tryz.func14, Tryz.ntmps14
    go_wp2_with fail
    go_ret
    exact ⟨by rw [HF.out]; rfl, Below.refl _ _⟩
  · have f1 : decide (200 < (n : Int)) = false := decide_eq_false (by omega)
    by_cases hk : kEnd P 0 = (P.length : Int)
    · have HF := Lib.hid (show kindFault P = 0 by unfold kindFault; rw [if_neg (by rw [← HL.out]; exact h200), if_pos (kEnd_all.1 hk)])
      rw [hk, ← HL.out] at K
      clear h h200 hk
      go_enter Tryz.func14, Tryz.ntmps14
      go_wp2_with fail
      refine (K.out).mono ?_
      rintro e w1 ⟨rfl, b1⟩
      have B1 := Lib.hid b1
      clear b1
      go_wp2_with fail
      go_ret
      exact ⟨by rw [HF.out]; rfl, B1.out⟩
    · have HF := Lib.hid (show kindFault P = 1 by unfold kindFault; rw [if_neg (by rw [← HL.out]; exact h200), if_neg (fun q => hk (kEnd_all.2 q))])
      have f2 : (kEnd P 0 == (n : Int)) = false := beq_eq_false_iff_ne.2 (by rw [HL.out]; exact hk)
      have f3 : (kEnd P 0 != (n : Int)) = true := by rw [bne_iff_ne, HL.out]; exact hk
      generalize kEnd P 0 = r at *
      clear h h200 hk
      go_enter Tryz.func14, Tryz.ntmps14
      go_wp2_with fail
      refine (K.out).mono ?_
      rintro e w1 ⟨rfl, b1⟩
      have B1 := Lib.hid b1
      clear b1
      go_wp2_with fail
      go_ret
      exact ⟨by rw [HF.out]; rfl, B1.out⟩

/-- A slice that holds numbers. -/
def IntsIn (w : World) (A : Option Addr) (E : List Nat) : Prop := ∀ (k e : Nat), E[k]? = some e → ∃ a, A = some a ∧ w.cell? (a.add k) = some (.int .i64 (e : Int))
theorem IntsIn.keep {w w' : World} {A : Option Addr} {E : List Nat} (h : IntsIn w A E) (hb : Below w.heap.size w w') : IntsIn w' A E := fun k e he => by
  obtain ⟨a, q1, q2⟩ := h k e he
  exact ⟨a, q1, cell_keep hb q2⟩
def intCs (E : List Nat) : List Value := E.map fun e : Nat => Value.int .i64 (e : Int)
theorem ints_in_own {w : World} {B : Nat} {v : Value} {E : List Nat} (h : w.ownsRow B 3 1 v E.length (intCs E)) : ∃ A c, v = .slice A E.length c ∧ E.length ≤ c ∧ IntsIn w A E := by
  rcases h.2 with ⟨rfl, h0⟩ | ⟨g, cap, cur, rfl, _, _, hc, _⟩
  · have : E = [] := List.eq_nil_of_length_eq_zero h0
    subst this
    exact ⟨none, 0, rfl, Nat.le_refl _, fun k x hx => by simp at hx⟩
  · refine ⟨some ⟨g, 0, none⟩, cap, rfl, hc, fun k x hx => ⟨_, rfl, h.cells (g := g) rfl _ _ ?_⟩⟩
    unfold intCs; rw [List.getElem?_map, hx]; rfl
theorem intInf : (Tryz.prog.info? 3).map (fun i => (i.zero, i.size, i.bytes)) = some (some (.int .i64 0), 1, 8) := by kernel_rfl
theorem own_int1 {w1 : World} {B : Nat} {v' : Value} {E : List Nat} {x : Nat} (h : w1.ownsRow B 3 1 v' (E.length + 1) (intCs E ++ [.int .i64 (x : Int)])) :
    w1.ownsRow B 3 1 v' (E ++ [x]).length (intCs (E ++ [x])) := by
  rw [show intCs (E ++ [x]) = intCs E ++ [.int .i64 (x : Int)] by simp [intCs], List.length_append]
  exact h
theorem one_int (n : Int) : ∀ u ∈ [Value.int .i64 n], u.oneCell' = true := by
  intro u hu; simp only [List.mem_cons, List.not_mem_nil, or_false] at hu; subst hu; rfl
set_option maxHeartbeats 1000000 in
theorem ref_FieldsOf (f : Fl) (hv : f.validFrom emp) (A : Option Addr) (n c : Nat) (w : World) (h : Ns w A n c (Kd.fs f).flat) (hl : n ≤ 4000) :
    Calls Tryz.prog 50 #[.slice A n c] w fun e w' => ∃ A' c', e = .returned (.slice A' f.len c') ∧ f.len ≤ c' ∧ IntsIn w' A' (posF 1 f) ∧ Below w.heap.size w w' := by
  obtain ⟨i0, hi, hz0, hz1, hz2⟩ := info_parts intInf
  obtain ⟨a, rfl, d0, d1, d2, d3⟩ := h.at_ 0 ⟨46, f.len, emp, emp⟩ rfl
  rw [show a.add (0 * 4) = a from rfl] at d0 d1 d2 d3
  simp only at d0 d1 d2 d3
  have hn1 : 1 ≤ n := by rw [h.len]; simp [Kd.flat]
  have hfl : f.len ≤ n := by
    rw [h.len, Kd.flat, List.length_cons]
    have : ∀ g : Fl, g.len ≤ g.flat.length := fun g => by
      induction g using Fl.rec (motive_1 := fun _ => True) with
      | nil => exact Nat.zero_le _
      | cons s m k r _ ih => simp only [Fl.len, Fl.flat, List.length_cons, List.length_append]; omega
      | _ => trivial
    have := this f
    omega
  have K := Lib.hid (fun (q : Nat) w' (hb : Below w.heap.size w w') => ref_End (h.keep hb) q)
  have HLn := Lib.hid h.len
  have HS := Lib.hid (KLeft.start hv)
  have HPL := Lib.hid (posF_len f 1)
  generalize (Kd.fs f).flat = t at *
  clear h hv d0 d2 d3
  go_enter Tryz.func50, Tryz.ntmps50
  go_wp2_with fail
  go_loopw [3, 4, 5] (fun v at_ i wr => ∃ (k p : Nat) (E : List Nat) (g : Fl), at_ = .int .i64 p ∧ i = .int .i64 k ∧ k + g.len = f.len ∧ E.length = k ∧ p ≤ n ∧ Hid (posF 1 f = E ++ posF p g) ∧ Hid (KLeft t p g) ∧ Hid (wr.ownsRow w.heap.size 3 1 v E.length (intCs E)) ∧ Hid (Below w.heap.size w wr)) (fun _ _ i _ => f.len - (intOf i).toNat)
  case atStart => exact ⟨0, 1, [], f, rfl, rfl, by omega, rfl, hn1, rfl, HS.out, World.ownsRow_nil _ _ _ _, Below.refl _ _⟩
  case round =>
    obtain ⟨k, p, E, g, rfl, rfl, hk, hE, hp, hP, hL, hown, hB⟩ := hrel
    have e1 := cell_keep hB.out d1
    by_cases hlt : k < f.len
    · obtain ⟨s, m, kk, r, rfl⟩ : ∃ s m kk r, g = .cons s m kk r := by
        cases g with
        | nil => simp [Fl.len] at hk; omega
        | cons s m kk r => exact ⟨s, m, kk, r, rfl⟩
      obtain ⟨hf, hL2⟩ := hL.out.head
      have hle := hf.le
      rw [← HLn.out] at hle
      have HE := Lib.hid hf.end_
      have HL2 := Lib.hid hL2
      have HP2 := Lib.hid (show posF 1 f = (E ++ [p]) ++ posF (p + 1 + kk.flat.length) r by rw [hP.out]; simp [posF])
      have hk2 : k + 1 + r.len = f.len := by simp only [Fl.len] at hk; omega
      generalize kk.flat.length = ln at *
      clear hf hL hL2 hP hk
      go_wp2_with (at_builtin; refine wpList_append_own _ rfl _ _ 94 rfl w.heap.size 3 i0 _ 1 8 Tryz.underlying94 hi hz0 hz1 hz2 rfl (by decide) _ E.length (intCs E) rfl (hown.out.alloc _) ⟨_, 0, none⟩ 1 1 [.int .i64 (p : Int)] rfl rfl (cells_new _ _ _) (one_int _) (by unfold maxLen; omega) (by omega) ?c5 ?_)
      case c5 => have := hB.out.size; simp; omega
      intro v1 w1 hown1 hgrow1 _
      have B1 := Lib.hid (below_append hB.out (Nat.le_refl _) hown.out _ hgrow1)
      have O1 := Lib.hid (own_int1 (E := E) (x := p) (by rw [hE]; exact hown1))
      clear hown hB hown1 hgrow1 e1
      have CK := Lib.hid (K.out (p + 1) w1 B1.out)
      rw [HE.out] at CK
      go_wp2_with fail
      refine (CK.out).mono ?_
      rintro e w2 ⟨rfl, b2⟩
      have B2 := Lib.hid (B1.out.trans (b2.mono B1.out.size))
      have O2 := Lib.hid (own_kept_below O1.out b2)
      clear b2 B1 O1 HE CK
      go_wp2_with fail
      go_roundw
      case rel => exact ⟨k + 1, p + 1 + ln, E ++ [p], r, rfl, by go_num, by omega, by simp; omega, by omega, HP2, HL2, O2, B2⟩
      case measure => simp [intOf]; omega
    · obtain rfl : g = .nil := by
        cases g with
        | nil => rfl
        | cons s m kk r => simp [Fl.len] at hk; omega
      have HPE := Lib.hid (show posF 1 f = E by rw [hP.out]; simp [posF])
      have hkf : k = f.len := by omega
      obtain ⟨A', c', hv', hc', hint⟩ := ints_in_own hown.out
      subst hv'
      have HI := Lib.hid hint
      have hEl : E.length = f.len := by omega
      rw [hEl] at *
      clear hL hP hown hint
      go_wp2_with fail
      go_ret
      exact ⟨A', c', rfl, by omega, by rw [HPE.out]; exact HI.out, hB.out⟩
set_option maxHeartbeats 1000000 in
theorem ref_FieldKind (f : Fl) (hv : f.validFrom emp) (A : Option Addr) (n c : Nat) (s : ByteArray) (w : World) (h : Ns w A n c (Kd.fs f).flat) (hl : n ≤ 4000) (hs : s.size ≤ maxLen) :
    Calls Tryz.prog 48 #[.slice A n c, .string s] w fun e w' => e = .returned (.int .i64 (posOf 1 f s)) ∧ Below w.heap.size w w' := by
  have FO := Lib.hid (ref_FieldsOf f hv A n c w h hl)
  have HN := Lib.hid h
  have HS := Lib.hid (KLeft.start hv)
  have hfn : f.len < n := by
    rw [h.len, Kd.flat, List.length_cons]
    have : ∀ g : Fl, g.len ≤ g.flat.length := fun g => by
      induction g using Fl.rec (motive_1 := fun _ => True) with
      | nil => exact Nat.zero_le _
      | cons s m k r _ ih => simp only [Fl.len, Fl.flat, List.length_cons, List.length_append]; omega
      | _ => trivial
    have := this f
    omega
  have HPL := Lib.hid (posF_len f 1)
  generalize (Kd.fs f).flat = t at *
  clear h hv
  go_enter Tryz.func48, Tryz.ntmps48
  go_wp2_with fail
  refine (FO.out).mono ?_
  rintro e w1 ⟨A', c', rfl, hc', hI, b1⟩
  have B1 := Lib.hid b1
  have HI := Lib.hid hI
  clear b1 hI FO
  go_wp2_with fail
  go_loopw [6] (fun i wr => ∃ (k p : Nat) (g : Fl), i = .int .i64 k ∧ k + g.len = f.len ∧ Hid (posF p g = (posF 1 f).drop k) ∧ Hid (posOf 1 f s = posOf p g s) ∧ Hid (KLeft t p g) ∧ Hid (Below w1.heap.size w1 wr)) (fun i _ => f.len - (intOf i).toNat)
  case atStart => exact ⟨0, 1, f, rfl, by omega, rfl, rfl, HS.out, Below.refl _ _⟩
  case round =>
    obtain ⟨k, p, g, rfl, hk, hP, hQ, hL, hB⟩ := hrel
    have BW := Lib.hid (B1.out.trans (hB.out.mono B1.out.size))
    by_cases hlt : k < f.len
    · obtain ⟨u, m, kk, r, rfl⟩ : ∃ s m kk r, g = .cons s m kk r := by
        cases g with
        | nil => simp [Fl.len] at hk; omega
        | cons s m kk r => exact ⟨s, m, kk, r, rfl⟩
      obtain ⟨hf, hL2⟩ := hL.out.head
      have hle := hf.le
      rw [← HN.out.len] at hle
      have hpe : (posF 1 f)[k]? = some p := by
        have := congrArg (fun l => l[0]?) hP.out
        simp only [posF, List.getElem?_cons_zero, List.getElem?_drop, Nat.add_zero] at this
        exact this.symm
      obtain ⟨ai, rfl, hci⟩ := (HI.out.keep hB.out) k p hpe
      obtain ⟨a, rfl, d0, d1, d2, d3⟩ := (HN.out.keep BW.out).at_ p _ hf.nd
      have HP2 := Lib.hid (show posF (p + 1 + kk.flat.length) r = (posF 1 f).drop (k + 1) by
        have := congrArg (List.drop 1) hP.out
        rw [List.drop_drop] at this
        simpa [posF] using this)
      have HL2 := Lib.hid hL2
      have hk2 : k + 1 + r.len = f.len := by simp only [Fl.len] at hk; omega
      simp only [fldNd] at d0 d1 d2 d3
      have hpn : p < n := by omega
      clear hf hL hL2 hP hk hpe d0 d1 d3
      by_cases hus : u = s
      · subst hus
        have HR := Lib.hid (show posOf 1 f u = (p : Int) by rw [hQ.out]; simp [posOf])
        clear hQ
        go_wp2_with fail
        go_ret
        exact ⟨by rw [HR.out]; rfl, BW.out⟩
      · have HR := Lib.hid (show posOf 1 f s = posOf (p + 1 + kk.flat.length) r s by rw [hQ.out]; simp [posOf, hus])
        have f2 : (u.toList == s.toList) = false := beq_eq_false_iff_ne.2 (fun e => hus (toList_inj e))
        clear hQ hus
        go_wp2_with fail
        go_roundw
        case rel => exact ⟨k + 1, _, r, by go_num, hk2, HP2, HR, HL2, hB⟩
        case measure => simp [intOf]; omega
    · obtain rfl : g = .nil := by
        cases g with
        | nil => rfl
        | cons s m kk r => simp [Fl.len] at hk; omega
      have HR := Lib.hid (show posOf 1 f s = -1 by rw [hQ.out]; rfl)
      clear hQ hP hL
      go_wp2_with fail
      go_ret
      exact ⟨by rw [HR.out]; rfl, BW.out⟩
/-- What PartKind tells of the field at q. -/
theorem ref_PartKind (t : List Nd) (q : Nat) (s : ByteArray) (m : Bool) (k : Kd) (hf : KFld t q s m k) (a : Addr) (n c : Nat) (w : World) (h : Ns w (some a) n c t) :
    Calls Tryz.prog 49 #[.slice (some a) n c, .int .i64 q] w fun e w' => e = .returned (.slice (some (a.add ((q + 1) * 4))) k.flat.length (c - (q + 1))) ∧ Below w.heap.size w w' := by
  have K := Lib.hid (ref_End h (q + 1))
  rw [hf.end_] at K
  have hle := hf.le
  rw [← h.len] at hle
  have hc := h.cap
  have hm := h.max
  unfold maxLen at hm
  have hpos := flat_pos k
  generalize k.flat.length = ln at *
  have hq1 : q + 1 < c := by omega
  clear h hf
  go_enter Tryz.func49, Tryz.ntmps49
  go_wp2_with fail
  refine (K.out).mono ?_
  rintro e w1 ⟨rfl, b1⟩
  have B1 := Lib.hid b1
  clear b1
  go_wp2_with fail
  all_goals first
    | (exfalso; omega)
    | (go_ret; exact ⟨by show Ending.returned (Value.slice _ (q + 1 + ln - (q + 1)) _) = _; rw [show q + 1 + ln - (q + 1) = ln by omega], B1.out⟩)
theorem part_ns {t : List Nd} {q : Nat} {s : ByteArray} {m : Bool} {k : Kd} (hf : KFld t q s m k) {a : Addr} {n c : Nat} {w : World} (h : Ns w (some a) n c t) : Ns w (some (a.add ((q + 1) * 4))) k.flat.length (c - (q + 1)) k.flat := by
  have hle := hf.le
  have := ns_seg h (i := q + 1) (j := q + 1 + k.flat.length) (by omega) (by rw [h.len]; exact hle)
  rw [hf.seg, show q + 1 + k.flat.length - (q + 1) = k.flat.length by omega] at this
  exact this
end Go.Proofs.YtmekockjgldndaaGreatDoor
namespace Go.Proofs.YtmekockjgldndaaGreatDoor
open Go.RowKit Go.Wk Go.Sort
set_option maxRecDepth 100000

/-- These cells stand from an address on. -/
def Row0 (w : World) (a : Addr) (u : List Value) : Prop := ∀ (j : Nat) (x : Value), u[j]? = some x → w.cell? (a.add j) = some x
mutual
/-- The cells of a type; what they lead to lies in blocks of B. -/
def KAt (w : World) (B : Nat → Prop) : Kd → List Value → Prop
  | .base x, v => ∃ n : Int, v = [.int .i64 x, .int .i64 n, .string emp, .string emp, .pointer none, .slice none 0 0]
  | .ent s, v => ∃ n : Int, v = [.int .i64 44, .int .i64 n, .string s, .string emp, .pointer none, .slice none 0 0]
  | .set q, v => ∃ (n : Int) (b : Nat) (u : List Value), v = [.int .i64 45, .int .i64 n, .string emp, .string emp, .pointer (some ⟨b, 0, none⟩), .slice none 0 0] ∧ B b ∧ Row0 w ⟨b, 0, none⟩ u ∧ KAt w B q u
  | .fs f, v => ∃ (n : Int) (A : Option Addr) (c : Nat), v = [.int .i64 46, .int .i64 n, .string emp, .string emp, .pointer none, .slice A f.len c] ∧ f.len ≤ c ∧ c ≤ maxLen ∧ FAt w B A 0 f
/-- The fields of a record's type, from the i-th place of a row on. -/
def FAt (w : World) (B : Nat → Prop) : Option Addr → Nat → Fl → Prop
  | _, _, .nil => True
  | A, i, .cons s m k r => (∃ (a : Addr) (u : List Value), A = some a ∧ B a.block ∧ Row0 w (a.add (i * 8)) (.string s :: .bool m :: u) ∧ KAt w B k u) ∧ FAt w B A (i + 1) r
end
theorem Row0.cong {w w' : World} {a : Addr} {u : List Value} (h : Row0 w a u) (hb : w'.heap[a.block]? = w.heap[a.block]?) : Row0 w' a u := fun j x hx => by
  have := h j x hx
  rw [← this]
  exact World.cell?_of_block (by rw [add_block]; exact hb)
theorem kat_cong {w w' : World} {B : Nat → Prop} (hB : ∀ b, B b → w'.heap[b]? = w.heap[b]?) : ∀ (n : Nat), (∀ k v, k.sz ≤ n → KAt w B k v → KAt w' B k v) ∧ (∀ f A i, f.sz ≤ n → FAt w B A i f → FAt w' B A i f)
  | 0 => by
    refine ⟨fun k v h => by cases k <;> simp [Kd.sz] at h, fun f A i h hf => ?_⟩
    cases f with
    | nil => trivial
    | cons s m k r => simp [Fl.sz] at h
  | n + 1 => by
    obtain ⟨ihK, ihF⟩ := kat_cong hB n
    refine ⟨fun k v h hk => ?_, fun f A i h hf => ?_⟩
    · cases k with
      | base x => exact hk
      | ent s => exact hk
      | set q =>
        simp only [Kd.sz] at h
        obtain ⟨m, b, u, e, h1, h2, h3⟩ := hk
        exact ⟨m, b, u, e, h1, h2.cong (hB b h1), ihK q u (by omega) h3⟩
      | fs f =>
        simp only [Kd.sz] at h
        obtain ⟨m, A, c, e, h1, h2, h3⟩ := hk
        exact ⟨m, A, c, e, h1, h2, ihF f A 0 (by omega) h3⟩
    · cases f with
      | nil => trivial
      | cons s m k r =>
        simp only [Fl.sz] at h
        obtain ⟨⟨a, u, e, h1, h2, h3⟩, h4⟩ := hf
        exact ⟨⟨a, u, e, h1, h2.cong (by rw [add_block]; exact hB _ h1), ihK k u (by omega) h3⟩, ihF r A (i + 1) (by omega) h4⟩
theorem kat_mono {w : World} {B B' : Nat → Prop} (hB : ∀ b, B b → b < w.heap.size → B' b) : ∀ (n : Nat), (∀ k v, k.sz ≤ n → KAt w B k v → KAt w B' k v) ∧ (∀ f A i, f.sz ≤ n → FAt w B A i f → FAt w B' A i f)
  | 0 => by
    refine ⟨fun k v h => by cases k <;> simp [Kd.sz] at h, fun f A i h hf => ?_⟩
    cases f with
    | nil => trivial
    | cons s m k r => simp [Fl.sz] at h
  | n + 1 => by
    obtain ⟨ihK, ihF⟩ := kat_mono hB n
    refine ⟨fun k v h hk => ?_, fun f A i h hf => ?_⟩
    · cases k with
      | base x => exact hk
      | ent s => exact hk
      | set q =>
        simp only [Kd.sz] at h
        obtain ⟨m, b, u, e, h1, h2, h3⟩ := hk
        have hlt : b < w.heap.size := by
          have hu : ∃ x, u[0]? = some x := by
            cases q with
            | base x => obtain ⟨_, rfl⟩ := h3; exact ⟨_, rfl⟩
            | ent s => obtain ⟨_, rfl⟩ := h3; exact ⟨_, rfl⟩
            | set q => obtain ⟨_, _, _, rfl, _⟩ := h3; exact ⟨_, rfl⟩
            | fs f => obtain ⟨_, _, _, rfl, _⟩ := h3; exact ⟨_, rfl⟩
          obtain ⟨x, hx⟩ := hu
          exact block_lt_of_cell (h2 0 x hx)
        exact ⟨m, b, u, e, hB b h1 hlt, h2, ihK q u (by omega) h3⟩
      | fs f =>
        simp only [Kd.sz] at h
        obtain ⟨m, A, c, e, h1, h2, h3⟩ := hk
        exact ⟨m, A, c, e, h1, h2, ihF f A 0 (by omega) h3⟩
    · cases f with
      | nil => trivial
      | cons s m k r =>
        simp only [Fl.sz] at h
        obtain ⟨⟨a, u, e, h1, h2, h3⟩, h4⟩ := hf
        have hlt : a.block < w.heap.size := by
          have := block_lt_of_cell (h2 0 _ rfl)
          rwa [add_block, add_block] at this
        exact ⟨⟨a, u, e, hB _ h1 hlt, h2, ihK k u (by omega) h3⟩, ihF r A (i + 1) (by omega) h4⟩
theorem KAt.cong {w w' : World} {B : Nat → Prop} {k : Kd} {v : List Value} (h : KAt w B k v) (hB : ∀ b, B b → w'.heap[b]? = w.heap[b]?) : KAt w' B k v := (kat_cong hB _).1 k v (Nat.le_refl _) h
theorem KAt.mono {w : World} {B B' : Nat → Prop} {k : Kd} {v : List Value} (h : KAt w B k v) (hB : ∀ b, B b → b < w.heap.size → B' b) : KAt w B' k v := (kat_mono hB _).1 k v (Nat.le_refl _) h
theorem FAt.cong {w w' : World} {B : Nat → Prop} {A : Option Addr} {i : Nat} {f : Fl} (h : FAt w B A i f) (hB : ∀ b, B b → w'.heap[b]? = w.heap[b]?) : FAt w' B A i f := (kat_cong hB _).2 f A i (Nat.le_refl _) h
theorem FAt.mono {w : World} {B B' : Nat → Prop} {A : Option Addr} {i : Nat} {f : Fl} (h : FAt w B A i f) (hB : ∀ b, B b → b < w.heap.size → B' b) : FAt w B' A i f := (kat_mono hB _).2 f A i (Nat.le_refl _) h

/-- kinds' reader: the nodes that are left. -/
structure RdK (w : World) (R : Nat) (Q : List Nd) : Prop where
  c0 : ∃ (A : Option Addr) (n c : Nat), w.cell? ⟨R, 0, none⟩ = some (.slice A n c) ∧ Ns w A n c Q ∧ (0 < Q.length → ∀ a, A = some a → a.block < R)
  f0 : w.frozen? ⟨R, 0, none⟩ = false
theorem RdK.keep {w w' : World} {R : Nat} {Q : List Nd} (h : RdK w R Q) (hb : Below w.heap.size w w') : RdK w' R Q := by
  obtain ⟨⟨A, n, c, h1, h2, h3⟩, h4⟩ := h
  exact ⟨⟨A, n, c, cell_keep hb h1, h2.keep hb, h3⟩, (hb.frozen (p := ⟨R, 0, none⟩) (block_lt_of_cell h1)).trans h4⟩
abbrev kwrong : List PanicEntry := [{ v := .iface 159 (.agg #[]), recovered := false }]
/-- What node tells. -/
def NodePost (w : World) (R : Nat) : List Nd → Ending → World → Prop
  | [], e, w' => e = .panicked kwrong ∧ w.grownBy w' (some R)
  | x :: r, e, w' => e = .returned (ndV x) ∧ RdK w' R r ∧ w.grownBy w' (some R)
theorem ns_tail {w : World} {a : Addr} {n c : Nat} {x : Nd} {r : List Nd} (h : Ns w (some a) n c (x :: r)) : Ns w (some (a.add 4)) (n - 1) (c - 1) r := by
  have hl := h.len
  have hc := h.cap
  have hm := h.max
  rw [List.length_cons] at hl
  refine ⟨by omega, by omega, by omega, fun k y hy => ?_, fun y hy => h.ok y (by simp [hy])⟩
  obtain ⟨b, e, q0, q1, q2, q3⟩ := h.at_ (k + 1) y (by simpa using hy)
  injection e with e
  subst e
  refine ⟨_, rfl, ?_⟩
  rw [add_add, show 4 + k * 4 = (k + 1) * 4 by omega]
  exact ⟨q0, q1, q2, q3⟩
theorem kind_node (R : Nat) (Q : List Nd) (w : World) (h : RdK w R Q) :
    Calls Tryz.prog 166 #[.pointer (some ⟨R, 0, none⟩)] w (NodePost w R Q) := by
  obtain ⟨⟨A, n, c, e0, hns0, hap⟩, g0⟩ := h
  have hlt : R < w.heap.size := block_lt_of_cell e0
  have hb := below_box w (.cells #[.int .i64 0, .int .i64 0, .string ⟨#[]⟩, .string ⟨#[]⟩] 44)
  have c0 := cell_keep hb e0
  have f0 := (hb.frozen (p := ⟨R, 0, none⟩) hlt).trans g0
  have hns := hns0.keep hb
  have hne : R ≠ w.heap.size := by omega
  have hne2 : w.heap.size ≠ R := by omega
  clear hb
  cases Q with
  | nil =>
    have hn : n = 0 := hns.len
    subst hn
    clear hns hns0 hap
    go_enter Tryz.func166, Tryz.ntmps166
    go_wp2_with fail
    exact ⟨rfl, rfl, grown_of_below (below_box w _) _⟩
  | cons x r =>
    have HN := Lib.hid hns.len
    have hc := hns.cap
    have hm := hns.max
    unfold maxLen at hm
    have hn1 : 1 ≤ n := by rw [hns.len, List.length_cons]; omega
    obtain ⟨a, rfl, q0, q1, q2, q3⟩ := hns.at_ 0 x rfl
    rw [show a.add (0 * 4) = a from rfl] at q0 q1 q2 q3
    have HNS0 := Lib.hid hns0
    have HAL := Lib.hid (hap (by simp) a rfl)
    have HAP := Lib.hid (Nat.ne_of_lt HAL.out)
    clear hns hns0 hap
    go_enter Tryz.func166, Tryz.ntmps166
    go_wp2_with fail
    all_goals
      rename_i h1
      have hg : ∀ v o1 o2, w.grownBy (((w.setCell ⟨R, 0, none⟩ v).alloc o1).alloc o2) (some R) := fun v o1 o2 => grown_alloc (grown_alloc (grown_setCell w ⟨R, 0, none⟩ v) o1) o2
      have hc0 : ∀ v o1 o2, (((w.setCell ⟨R, 0, none⟩ v).alloc o1).alloc o2).cell? ⟨R, 0, none⟩ = some v := fun v o1 o2 => cell_keep (below_box _ _) (cell_keep (below_box _ _) (World.cell?_setCell_same _ _ _ e0))
      have hf0 : ∀ v o1 o2, (((w.setCell ⟨R, 0, none⟩ v).alloc o1).alloc o2).frozen? ⟨R, 0, none⟩ = false := fun v o1 o2 => by
        rw [((below_box _ _).frozen (p := ⟨R, 0, none⟩) (by simp [World.setCell]; omega)), ((below_box _ _).frozen (p := ⟨R, 0, none⟩) (by simp [World.setCell]; omega)), World.frozen?_setCell]
        exact g0
    · have hr0 : r = [] := List.eq_nil_of_length_eq_zero (by have := HN.out; rw [List.length_cons] at this; omega)
      subst hr0
      refine bodyPost_ret (v := ndV x) (by simp [results, Tryz.results166, go_sem, ndV]) rfl ⟨rfl, ⟨⟨_, _, _, hc0 _ _ _, ⟨by have := HN.out; simp at this; simp; omega, by omega, by unfold maxLen; omega, (fun k x hx => by simp at hx), (fun x hx => nomatch hx)⟩, fun h => absurd h (by simp)⟩, hf0 _ _ _⟩, hg _ _ _⟩
    · refine bodyPost_ret (v := ndV x) (by simp [results, Tryz.results166, go_sem, ndV]) rfl ⟨rfl, ⟨⟨_, _, _, hc0 _ _ _, by simpa [Addr.add] using (ns_tail HNS0.out).but (hg _ _ _) (fun _ b e => by injection e with e; subst e; exact HAP.out), fun _ b e => by injection e with e; subst e; exact HAL.out⟩, hf0 _ _ _⟩, hg _ _ _⟩
end Go.Proofs.YtmekockjgldndaaGreatDoor
namespace Go.Proofs.YtmekockjgldndaaGreatDoor
open Go.RowKit Go.Wk Go.Sort
set_option maxRecDepth 100000

theorem cell_new (w : World) (cs : Array Value) (t : TypeId) (j : Nat) {v : Value} (h : cs[j]? = some v) : (w.alloc (.cells cs t)).cell? ⟨w.heap.size, j, none⟩ = some v := by
  rw [World.cell?_alloc_at _ _ _ _ rfl]; exact h
/-- A variable of 4 cells of the call's own. -/
structure Bx4 (w : World) (b : Nat) (x0 x1 x2 x3 : Value) : Prop where
  c0 : w.cell? ⟨b, 0, none⟩ = some x0
  c1 : w.cell? ⟨b, 1, none⟩ = some x1
  c2 : w.cell? ⟨b, 2, none⟩ = some x2
  c3 : w.cell? ⟨b, 3, none⟩ = some x3
  z0 : w.frozen? ⟨b, 0, none⟩ = false
  z1 : w.frozen? ⟨b, 1, none⟩ = false
  z2 : w.frozen? ⟨b, 2, none⟩ = false
  z3 : w.frozen? ⟨b, 3, none⟩ = false
theorem bx4_new (w : World) (x0 x1 x2 x3 : Value) (t : TypeId) : Bx4 (w.alloc (.cells #[x0, x1, x2, x3] t)) w.heap.size x0 x1 x2 x3 :=
  ⟨cell_new w _ _ _ rfl, cell_new w _ _ _ rfl, cell_new w _ _ _ rfl, cell_new w _ _ _ rfl, by simp, by simp, by simp, by simp⟩
theorem Bx4.keep {w w' : World} {b : Nat} {x0 x1 x2 x3 : Value} (h : Bx4 w b x0 x1 x2 x3) (hb : Below w.heap.size w w') : Bx4 w' b x0 x1 x2 x3 :=
  have hl := block_lt_of_cell h.c0
  ⟨cell_keep hb h.c0, cell_keep hb h.c1, cell_keep hb h.c2, cell_keep hb h.c3, by rw [(bcell hb).2 b 0 hl]; exact h.z0, by rw [(bcell hb).2 b 1 hl]; exact h.z1, by rw [(bcell hb).2 b 2 hl]; exact h.z2, by rw [(bcell hb).2 b 3 hl]; exact h.z3⟩
theorem Bx4.but {w w' : World} {b : Nat} {x0 x1 x2 x3 : Value} {g : Option Nat} (h : Bx4 w b x0 x1 x2 x3) (hg : w.grownBy w' g) (hn : some b ≠ g) : Bx4 w' b x0 x1 x2 x3 :=
  have hb := hg.block b (block_lt_of_cell h.c0) hn
  ⟨(World.cell?_of_block (a := ⟨b, 0, none⟩) hb).trans h.c0, (World.cell?_of_block (a := ⟨b, 1, none⟩) hb).trans h.c1, (World.cell?_of_block (a := ⟨b, 2, none⟩) hb).trans h.c2, (World.cell?_of_block (a := ⟨b, 3, none⟩) hb).trans h.c3, (World.frozen?_of_block (a := ⟨b, 0, none⟩) hb).trans h.z0, (World.frozen?_of_block (a := ⟨b, 1, none⟩) hb).trans h.z1, (World.frozen?_of_block (a := ⟨b, 2, none⟩) hb).trans h.z2, (World.frozen?_of_block (a := ⟨b, 3, none⟩) hb).trans h.z3⟩
/-- A variable of 6 cells of the call's own. -/
structure Bx6 (w : World) (b : Nat) (x0 x1 x2 x3 x4 x5 : Value) : Prop where
  c0 : w.cell? ⟨b, 0, none⟩ = some x0
  c1 : w.cell? ⟨b, 1, none⟩ = some x1
  c2 : w.cell? ⟨b, 2, none⟩ = some x2
  c3 : w.cell? ⟨b, 3, none⟩ = some x3
  c4 : w.cell? ⟨b, 4, none⟩ = some x4
  c5 : w.cell? ⟨b, 5, none⟩ = some x5
  z0 : w.frozen? ⟨b, 0, none⟩ = false
  z1 : w.frozen? ⟨b, 1, none⟩ = false
  z2 : w.frozen? ⟨b, 2, none⟩ = false
  z3 : w.frozen? ⟨b, 3, none⟩ = false
  z4 : w.frozen? ⟨b, 4, none⟩ = false
  z5 : w.frozen? ⟨b, 5, none⟩ = false
theorem bx6_new (w : World) (x0 x1 x2 x3 x4 x5 : Value) (t : TypeId) : Bx6 (w.alloc (.cells #[x0, x1, x2, x3, x4, x5] t)) w.heap.size x0 x1 x2 x3 x4 x5 :=
  ⟨cell_new w _ _ _ rfl, cell_new w _ _ _ rfl, cell_new w _ _ _ rfl, cell_new w _ _ _ rfl, cell_new w _ _ _ rfl, cell_new w _ _ _ rfl, by simp, by simp, by simp, by simp, by simp, by simp⟩
theorem Bx6.keep {w w' : World} {b : Nat} {x0 x1 x2 x3 x4 x5 : Value} (h : Bx6 w b x0 x1 x2 x3 x4 x5) (hb : Below w.heap.size w w') : Bx6 w' b x0 x1 x2 x3 x4 x5 :=
  have hl := block_lt_of_cell h.c0
  ⟨cell_keep hb h.c0, cell_keep hb h.c1, cell_keep hb h.c2, cell_keep hb h.c3, cell_keep hb h.c4, cell_keep hb h.c5, by rw [(bcell hb).2 b 0 hl]; exact h.z0, by rw [(bcell hb).2 b 1 hl]; exact h.z1, by rw [(bcell hb).2 b 2 hl]; exact h.z2, by rw [(bcell hb).2 b 3 hl]; exact h.z3, by rw [(bcell hb).2 b 4 hl]; exact h.z4, by rw [(bcell hb).2 b 5 hl]; exact h.z5⟩
theorem Bx6.but {w w' : World} {b : Nat} {x0 x1 x2 x3 x4 x5 : Value} {g : Option Nat} (h : Bx6 w b x0 x1 x2 x3 x4 x5) (hg : w.grownBy w' g) (hn : some b ≠ g) : Bx6 w' b x0 x1 x2 x3 x4 x5 :=
  have hb := hg.block b (block_lt_of_cell h.c0) hn
  ⟨(World.cell?_of_block (a := ⟨b, 0, none⟩) hb).trans h.c0, (World.cell?_of_block (a := ⟨b, 1, none⟩) hb).trans h.c1, (World.cell?_of_block (a := ⟨b, 2, none⟩) hb).trans h.c2, (World.cell?_of_block (a := ⟨b, 3, none⟩) hb).trans h.c3, (World.cell?_of_block (a := ⟨b, 4, none⟩) hb).trans h.c4, (World.cell?_of_block (a := ⟨b, 5, none⟩) hb).trans h.c5, (World.frozen?_of_block (a := ⟨b, 0, none⟩) hb).trans h.z0, (World.frozen?_of_block (a := ⟨b, 1, none⟩) hb).trans h.z1, (World.frozen?_of_block (a := ⟨b, 2, none⟩) hb).trans h.z2, (World.frozen?_of_block (a := ⟨b, 3, none⟩) hb).trans h.z3, (World.frozen?_of_block (a := ⟨b, 4, none⟩) hb).trans h.z4, (World.frozen?_of_block (a := ⟨b, 5, none⟩) hb).trans h.z5⟩
/-- A variable of 8 cells of the call's own. -/
structure Bx8 (w : World) (b : Nat) (x0 x1 x2 x3 x4 x5 x6 x7 : Value) : Prop where
  c0 : w.cell? ⟨b, 0, none⟩ = some x0
  c1 : w.cell? ⟨b, 1, none⟩ = some x1
  c2 : w.cell? ⟨b, 2, none⟩ = some x2
  c3 : w.cell? ⟨b, 3, none⟩ = some x3
  c4 : w.cell? ⟨b, 4, none⟩ = some x4
  c5 : w.cell? ⟨b, 5, none⟩ = some x5
  c6 : w.cell? ⟨b, 6, none⟩ = some x6
  c7 : w.cell? ⟨b, 7, none⟩ = some x7
  z0 : w.frozen? ⟨b, 0, none⟩ = false
  z1 : w.frozen? ⟨b, 1, none⟩ = false
  z2 : w.frozen? ⟨b, 2, none⟩ = false
  z3 : w.frozen? ⟨b, 3, none⟩ = false
  z4 : w.frozen? ⟨b, 4, none⟩ = false
  z5 : w.frozen? ⟨b, 5, none⟩ = false
  z6 : w.frozen? ⟨b, 6, none⟩ = false
  z7 : w.frozen? ⟨b, 7, none⟩ = false
theorem bx8_new (w : World) (x0 x1 x2 x3 x4 x5 x6 x7 : Value) (t : TypeId) : Bx8 (w.alloc (.cells #[x0, x1, x2, x3, x4, x5, x6, x7] t)) w.heap.size x0 x1 x2 x3 x4 x5 x6 x7 :=
  ⟨cell_new w _ _ _ rfl, cell_new w _ _ _ rfl, cell_new w _ _ _ rfl, cell_new w _ _ _ rfl, cell_new w _ _ _ rfl, cell_new w _ _ _ rfl, cell_new w _ _ _ rfl, cell_new w _ _ _ rfl, by simp, by simp, by simp, by simp, by simp, by simp, by simp, by simp⟩
theorem Bx8.keep {w w' : World} {b : Nat} {x0 x1 x2 x3 x4 x5 x6 x7 : Value} (h : Bx8 w b x0 x1 x2 x3 x4 x5 x6 x7) (hb : Below w.heap.size w w') : Bx8 w' b x0 x1 x2 x3 x4 x5 x6 x7 :=
  have hl := block_lt_of_cell h.c0
  ⟨cell_keep hb h.c0, cell_keep hb h.c1, cell_keep hb h.c2, cell_keep hb h.c3, cell_keep hb h.c4, cell_keep hb h.c5, cell_keep hb h.c6, cell_keep hb h.c7, by rw [(bcell hb).2 b 0 hl]; exact h.z0, by rw [(bcell hb).2 b 1 hl]; exact h.z1, by rw [(bcell hb).2 b 2 hl]; exact h.z2, by rw [(bcell hb).2 b 3 hl]; exact h.z3, by rw [(bcell hb).2 b 4 hl]; exact h.z4, by rw [(bcell hb).2 b 5 hl]; exact h.z5, by rw [(bcell hb).2 b 6 hl]; exact h.z6, by rw [(bcell hb).2 b 7 hl]; exact h.z7⟩
theorem Bx8.but {w w' : World} {b : Nat} {x0 x1 x2 x3 x4 x5 x6 x7 : Value} {g : Option Nat} (h : Bx8 w b x0 x1 x2 x3 x4 x5 x6 x7) (hg : w.grownBy w' g) (hn : some b ≠ g) : Bx8 w' b x0 x1 x2 x3 x4 x5 x6 x7 :=
  have hb := hg.block b (block_lt_of_cell h.c0) hn
  ⟨(World.cell?_of_block (a := ⟨b, 0, none⟩) hb).trans h.c0, (World.cell?_of_block (a := ⟨b, 1, none⟩) hb).trans h.c1, (World.cell?_of_block (a := ⟨b, 2, none⟩) hb).trans h.c2, (World.cell?_of_block (a := ⟨b, 3, none⟩) hb).trans h.c3, (World.cell?_of_block (a := ⟨b, 4, none⟩) hb).trans h.c4, (World.cell?_of_block (a := ⟨b, 5, none⟩) hb).trans h.c5, (World.cell?_of_block (a := ⟨b, 6, none⟩) hb).trans h.c6, (World.cell?_of_block (a := ⟨b, 7, none⟩) hb).trans h.c7, (World.frozen?_of_block (a := ⟨b, 0, none⟩) hb).trans h.z0, (World.frozen?_of_block (a := ⟨b, 1, none⟩) hb).trans h.z1, (World.frozen?_of_block (a := ⟨b, 2, none⟩) hb).trans h.z2, (World.frozen?_of_block (a := ⟨b, 3, none⟩) hb).trans h.z3, (World.frozen?_of_block (a := ⟨b, 4, none⟩) hb).trans h.z4, (World.frozen?_of_block (a := ⟨b, 5, none⟩) hb).trans h.z5, (World.frozen?_of_block (a := ⟨b, 6, none⟩) hb).trans h.z6, (World.frozen?_of_block (a := ⟨b, 7, none⟩) hb).trans h.z7⟩
theorem Bx4.set {w : World} {b : Nat} {x0 x1 x2 x3 : Value} (h : Bx4 w b x0 x1 x2 x3) (y0 y1 y2 y3 : Value) : Bx4 ((((w.setCell ⟨b, 0, none⟩ y0).setCell ⟨b, 1, none⟩ y1).setCell ⟨b, 2, none⟩ y2).setCell ⟨b, 3, none⟩ y3) b y0 y1 y2 y3 := by
  obtain ⟨c0, c1, c2, c3, z0, z1, z2, z3⟩ := h
  refine ⟨?_, ?_, ?_, ?_, ?_, ?_, ?_, ?_⟩
  all_goals go_simp
theorem Bx6.set {w : World} {b : Nat} {x0 x1 x2 x3 x4 x5 : Value} (h : Bx6 w b x0 x1 x2 x3 x4 x5) (y0 y1 y2 y3 y4 y5 : Value) : Bx6 ((((((w.setCell ⟨b, 0, none⟩ y0).setCell ⟨b, 1, none⟩ y1).setCell ⟨b, 2, none⟩ y2).setCell ⟨b, 3, none⟩ y3).setCell ⟨b, 4, none⟩ y4).setCell ⟨b, 5, none⟩ y5) b y0 y1 y2 y3 y4 y5 := by
  obtain ⟨c0, c1, c2, c3, c4, c5, z0, z1, z2, z3, z4, z5⟩ := h
  refine ⟨?_, ?_, ?_, ?_, ?_, ?_, ?_, ?_, ?_, ?_, ?_, ?_⟩
  all_goals go_simp
theorem Bx8.set {w : World} {b : Nat} {x0 x1 x2 x3 x4 x5 x6 x7 : Value} (h : Bx8 w b x0 x1 x2 x3 x4 x5 x6 x7) (y0 y1 y2 y3 y4 y5 y6 y7 : Value) : Bx8 ((((((((w.setCell ⟨b, 0, none⟩ y0).setCell ⟨b, 1, none⟩ y1).setCell ⟨b, 2, none⟩ y2).setCell ⟨b, 3, none⟩ y3).setCell ⟨b, 4, none⟩ y4).setCell ⟨b, 5, none⟩ y5).setCell ⟨b, 6, none⟩ y6).setCell ⟨b, 7, none⟩ y7) b y0 y1 y2 y3 y4 y5 y6 y7 := by
  obtain ⟨c0, c1, c2, c3, c4, c5, c6, c7, z0, z1, z2, z3, z4, z5, z6, z7⟩ := h
  refine ⟨?_, ?_, ?_, ?_, ?_, ?_, ?_, ?_, ?_, ?_, ?_, ?_, ?_, ?_, ?_, ?_⟩
  all_goals go_simp
theorem below_set4 {B b : Nat} {a w : World} (h : Below B a w) (hb : B ≤ b) (y0 y1 y2 y3 : Value) : Below B a ((((w.setCell ⟨b, 0, none⟩ y0).setCell ⟨b, 1, none⟩ y1).setCell ⟨b, 2, none⟩ y2).setCell ⟨b, 3, none⟩ y3) := ((((h.setCell (p := ⟨b, 0, none⟩) hb y0).setCell (p := ⟨b, 1, none⟩) hb y1).setCell (p := ⟨b, 2, none⟩) hb y2).setCell (p := ⟨b, 3, none⟩) hb y3)
theorem below_set6 {B b : Nat} {a w : World} (h : Below B a w) (hb : B ≤ b) (y0 y1 y2 y3 y4 y5 : Value) : Below B a ((((((w.setCell ⟨b, 0, none⟩ y0).setCell ⟨b, 1, none⟩ y1).setCell ⟨b, 2, none⟩ y2).setCell ⟨b, 3, none⟩ y3).setCell ⟨b, 4, none⟩ y4).setCell ⟨b, 5, none⟩ y5) := ((((((h.setCell (p := ⟨b, 0, none⟩) hb y0).setCell (p := ⟨b, 1, none⟩) hb y1).setCell (p := ⟨b, 2, none⟩) hb y2).setCell (p := ⟨b, 3, none⟩) hb y3).setCell (p := ⟨b, 4, none⟩) hb y4).setCell (p := ⟨b, 5, none⟩) hb y5)
theorem below_set8 {B b : Nat} {a w : World} (h : Below B a w) (hb : B ≤ b) (y0 y1 y2 y3 y4 y5 y6 y7 : Value) : Below B a ((((((((w.setCell ⟨b, 0, none⟩ y0).setCell ⟨b, 1, none⟩ y1).setCell ⟨b, 2, none⟩ y2).setCell ⟨b, 3, none⟩ y3).setCell ⟨b, 4, none⟩ y4).setCell ⟨b, 5, none⟩ y5).setCell ⟨b, 6, none⟩ y6).setCell ⟨b, 7, none⟩ y7) := ((((((((h.setCell (p := ⟨b, 0, none⟩) hb y0).setCell (p := ⟨b, 1, none⟩) hb y1).setCell (p := ⟨b, 2, none⟩) hb y2).setCell (p := ⟨b, 3, none⟩) hb y3).setCell (p := ⟨b, 4, none⟩) hb y4).setCell (p := ⟨b, 5, none⟩) hb y5).setCell (p := ⟨b, 6, none⟩) hb y6).setCell (p := ⟨b, 7, none⟩) hb y7)
end Go.Proofs.YtmekockjgldndaaGreatDoor
namespace Go.Proofs.YtmekockjgldndaaGreatDoor
open Go.RowKit Go.Wk Go.Sort
set_option maxRecDepth 100000

theorem kat_six {w : World} {B : Nat → Prop} {k : Kd} {v : List Value} (h : KAt w B k v) : ∃ (o n : Int) (s t : ByteArray) (p : Option Addr) (A : Option Addr) (m c : Nat), v = [.int .i64 o, .int .i64 n, .string s, .string t, .pointer p, .slice A m c] := by
  cases k with
  | base x => obtain ⟨_, rfl⟩ := h; exact ⟨_, _, _, _, _, _, _, _, rfl⟩
  | ent s => obtain ⟨_, rfl⟩ := h; exact ⟨_, _, _, _, _, _, _, _, rfl⟩
  | set q => obtain ⟨_, _, _, rfl, _⟩ := h; exact ⟨_, _, _, _, _, _, _, _, rfl⟩
  | fs f => obtain ⟨_, _, _, rfl, _⟩ := h; exact ⟨_, _, _, _, _, _, _, _, rfl⟩
/-- A field where it lies. -/
structure FdAt (w : World) (B : Nat → Prop) (a : Addr) (y : Kfd) : Prop where
  b : B a.block
  r : ∃ u, Row0 w a (.string y.1 :: .bool y.2.1 :: u) ∧ KAt w B y.2.2 u
theorem FAt.at {w : World} {B : Nat → Prop} {A : Option Addr} {f : Fl} : ∀ {i0 : Nat}, FAt w B A i0 f → ∀ (i : Nat) (y : Kfd), f.list[i]? = some y → ∃ a, A = some a ∧ FdAt w B (a.add ((i0 + i) * 8)) y := by
  induction f using Fl.rec (motive_1 := fun _ => True) with
  | nil => intro i0 _ i y h; simp [Fl.list] at h
  | cons s m k r _ ih =>
    intro i0 h i y hy
    obtain ⟨⟨a, u, e, h1, h2, h3⟩, h4⟩ := h
    cases i with
    | zero =>
      simp only [Fl.list, List.getElem?_cons_zero, Option.some.injEq] at hy
      subst hy
      exact ⟨a, e, by rw [add_block]; exact h1, u, h2, h3⟩
    | succ i =>
      obtain ⟨b, e2, h5⟩ := ih h4 i y (by simpa [Fl.list] using hy)
      exact ⟨b, e2, by rw [show i0 + (i + 1) = i0 + 1 + i by omega]; exact h5⟩
  | _ => trivial
theorem nxa (a : Addr) (x d : Nat) (hd : 0 < d) : (⟨(a.add x).block, (a.add x).off + d, none⟩ : Addr) = (a.add x).add d := by
  unfold Addr.add
  by_cases hx : x = 0
  · subst hx; simp; omega
  · simp [hx]; omega
/-- The eight cells of a field. -/
theorem FdAt.cells {w : World} {B : Nat → Prop} {a : Addr} {x : Nat} {y : Kfd} (h : FdAt w B (a.add x) y) : ∃ (o n : Int) (s0 t0 : ByteArray) (p A : Option Addr) (m c : Nat), KAt w B y.2.2 [.int .i64 o, .int .i64 n, .string s0, .string t0, .pointer p, .slice A m c] ∧
    w.cell? (a.add x) = some (.string y.1) ∧ w.cell? ⟨(a.add x).block, (a.add x).off + 1, none⟩ = some (.bool y.2.1) ∧ w.cell? ⟨(a.add x).block, (a.add x).off + 2, none⟩ = some (.int .i64 o) ∧ w.cell? ⟨(a.add x).block, (a.add x).off + 3, none⟩ = some (.int .i64 n) ∧
    w.cell? ⟨(a.add x).block, (a.add x).off + 4, none⟩ = some (.string s0) ∧ w.cell? ⟨(a.add x).block, (a.add x).off + 5, none⟩ = some (.string t0) ∧ w.cell? ⟨(a.add x).block, (a.add x).off + 6, none⟩ = some (.pointer p) ∧ w.cell? ⟨(a.add x).block, (a.add x).off + 7, none⟩ = some (.slice A m c) := by
  obtain ⟨-, u, hr, hk⟩ := h
  obtain ⟨o, n, s0, t0, p, A, m, c, rfl⟩ := kat_six hk
  refine ⟨o, n, s0, t0, p, A, m, c, hk, ?_, ?_, ?_, ?_, ?_, ?_, ?_, ?_⟩
  · have := hr 0 _ rfl
    rwa [show (a.add x).add 0 = a.add x from rfl] at this
  all_goals rw [nxa _ _ _ (by omega)]; exact hr _ _ rfl
set_option maxHeartbeats 1000000 in
theorem find_cmp (nm : ByteArray) (b : Bool) (o n : Int) (s0 t0 : ByteArray) (p A : Option Addr) (m c : Nat) (s : ByteArray) (w : World) :
    Calls Tryz.prog 169 #[.agg #[.string nm, .bool b, .int .i64 o, .int .i64 n, .string s0, .string t0, .pointer p, .slice A m c], .string s] w fun e w' => e = .returned (.int .i64 (cmpB nm s)) ∧ Below w.heap.size w w' := by
  have B0 := Lib.hid (below_box w (.cells #[.string nm, .bool b, .int .i64 o, .int .i64 n, .string s0, .string t0, .pointer p, .slice A m c] 168))
  go_enter Tryz.func169, Tryz.ntmps169
  go_wp2_with fail
  refine (strings_Compare nm s _).mono ?_
  rintro e w1 ⟨rfl, rfl⟩
  go_wp2_with fail
  go_ret
  exact ⟨rfl, B0.out⟩
/-- Where the search ends. -/
def SrcPost (w : World) (L : List Kfd) (s : ByteArray) (e : Ending) (w' : World) : Prop :=
  ∃ (i : Nat) (h : Bool), e = .returned (.tuple #[.int .i64 i, .bool h]) ∧ (h = true → ∃ hi : i < L.length, L[i].1 = s) ∧ (h = false → ∀ y ∈ L, y.1 ≠ s) ∧ Below w.heap.size w w'
set_option maxHeartbeats 4000000 in
theorem find_search (A : Option Addr) (n c : Nat) (f : Fl) (B : Nat → Prop) (s : ByteArray) (w : World) (hf : FAt w B A 0 f) (hn : n = f.list.length) (hl : n ≤ 100000) (_ : n ≤ c) (ha : f.asc) (hb : ∀ b, B b → b < w.heap.size) :
    Calls Tryz.prog 168 #[.slice A n c, .string s, .func (.func 169) #[] #[]] w (SrcPost w f.list s) := by
  have eg : ∀ args w, (callFunc 169 args).run Tryz.prog w = .ok (.enter 169 args) w := enters_of Tryz.func169 (by kernel_rfl) rfl
  have HF := Lib.hid (fun w' (h : Below w.heap.size w w') => (hf.cong (w' := w') (fun b hB => h.block b (hb b hB))).at)
  have HP := Lib.hid (list_asc ha)
  have HN := Lib.hid hn
  have HS := Lib.hid (show Half f.list s 0 n from hn ▸ Half.start f.list s)
  clear hf hn ha hb
  generalize f.list = L at *
  go_enter Tryz.func168, Tryz.ntmps168
  go_wp2_with fail
  go_loopw [9, 10] (fun i j wr => ∃ lo hi : Nat, hi ≤ n ∧ i = .int .i64 lo ∧ j = .int .i64 hi ∧ lo ≤ hi ∧ Hid (Half L s lo hi) ∧ Hid (Below w.heap.size w wr)) (fun i j _ => (intOf j).toNat - (intOf i).toNat)
  case atStart => exact ⟨0, n, Nat.le_refl _, rfl, rfl, Nat.zero_le _, HS, Below.refl _ _⟩
  case round =>
    clear HS
    obtain ⟨lo, hi, hhi, rfl, rfl, hle, hH, hB⟩ := hrel
    by_cases hlt : lo < hi
    · obtain ⟨m, hmid, hm1, hm2⟩ : ∃ m : Nat, ((lo : Int) + (hi : Int)) / 2 = (m : Int) ∧ lo ≤ m ∧ m < hi := ⟨(lo + hi) / 2, by omega, by omega, by omega⟩
      have hmn : m < n := by omega
      have hml : m < L.length := by rw [← HN.out]; exact hmn
      obtain ⟨a, rfl, hfd⟩ := HF.out wr hB.out m _ (List.getElem?_eq_getElem hml)
      rw [Nat.zero_add] at hfd
      have HUP := Lib.hid (fun hc => hH.out.up HP.out hm1 hm2 hml hc)
      have HDN := Lib.hid (fun hc => hH.out.down HP.out hm1 hm2 hml hc)
      generalize L[m] = y at *
      obtain ⟨o, nn, s0, t0, p, A', m', c', -, q0, q1, q2, q3, q4, q5, q6, q7⟩ := hfd.cells
      have KC := Lib.hid (find_cmp y.1 y.2.1 o nn s0 t0 p A' m' c' s wr)
      clear hfd
      by_cases hc : cmpB y.1 s < 0
      · have H2 := Lib.hid (HUP.out hc)
        generalize cmpB y.1 s = cu at *
        clear HUP HDN hH
        go_wp2_with (go_at_fn 169; refine KC.out.mono ?_; rintro e w1 ⟨rfl, b1⟩)
        have B1 := bh hB b1
        clear q0 q1 q2 q3 q4 q5 q6 q7 hB b1 KC
        go_wp2_with fail
        go_roundw
        case rel => exact ⟨m + 1, hi, hhi, by go_num, rfl, by omega, H2, B1⟩
        case measure => simp [intOf]; omega
      · have H2 := Lib.hid (HDN.out hc)
        generalize cmpB y.1 s = cu at *
        clear HUP HDN hH
        go_wp2_with (go_at_fn 169; refine KC.out.mono ?_; rintro e w1 ⟨rfl, b1⟩)
        have B1 := bh hB b1
        clear q0 q1 q2 q3 q4 q5 q6 q7 hB b1 KC
        go_wp2_with fail
        go_roundw
        case rel => exact ⟨lo, m, by omega, rfl, rfl, by omega, H2, B1⟩
        case measure => simp [intOf]; omega
    · obtain rfl : lo = hi := by omega
      have HFD := Lib.hid (hH.out.found HP.out)
      by_cases hln : lo < n
      · have hml : lo < L.length := by rw [← HN.out]; exact hln
        obtain ⟨a, rfl, hfd⟩ := HF.out wr hB.out lo _ (List.getElem?_eq_getElem hml)
        rw [Nat.zero_add] at hfd
        obtain ⟨y, hy⟩ : ∃ y, y = L[lo] := ⟨_, rfl⟩
        have HY := Lib.hid hy
        rw [← hy] at hfd
        clear hy
        obtain ⟨o, nn, s0, t0, p, A', m', c', -, q0, q1, q2, q3, q4, q5, q6, q7⟩ := hfd.cells
        have KC := Lib.hid (find_cmp y.1 y.2.1 o nn s0 t0 p A' m' c' s wr)
        clear hfd
        go_wp2_with fail
        refine KC.out.mono ?_
        rintro e w1 ⟨rfl, b1⟩
        have B1 := bh hB b1
        clear q0 q1 q2 q3 q4 q5 q6 q7 b1 KC
        by_cases hc : cmpB y.1 s = 0
        · have H2 := Lib.hid (show ∃ hi : lo < L.length, L[lo].1 = s from ⟨hml, by rw [← HY.out]; exact (cmpB_cmp.zero _ _).1 hc⟩)
          rw [hc]
          clear hc
          go_wp2_with fail
          go_ret2
          exact ⟨lo, true, rfl, fun _ => H2.out, fun h => (nomatch h), B1.out⟩
        · have H2 := Lib.hid (HFD.out.2 (fun hl e => hc (by rw [HY.out, e]; exact cmpB_cmp.self s)))
          have h0 : (cmpB y.1 s == 0) = false := by simpa using hc
          generalize cmpB y.1 s = cu at *
          clear hc
          go_wp2_with fail
          go_ret2
          exact ⟨lo, false, rfl, fun h => (nomatch h), fun _ => H2.out, B1.out⟩
      · have HNO := Lib.hid (HFD.out.2 (fun hl => absurd (by rw [HN.out]; exact hl) hln))
        go_wp2_with fail
        go_ret2
        exact ⟨lo, false, rfl, fun h => (nomatch h), fun _ => HNO.out, hB.out⟩
/-- What find tells. -/
def FndPost (w : World) (B : Nat → Prop) (f : Fl) (s : ByteArray) (e : Ending) (w' : World) : Prop :=
  Below w.heap.size w w' ∧ match f.find s with
  | none => e = .returned (.tuple #[.agg #[.string ⟨#[]⟩, .bool false, .int .i64 0, .int .i64 0, .string ⟨#[]⟩, .string ⟨#[]⟩, .pointer none, .slice none 0 0], .bool false])
  | some (m, k) => ∃ u : List Value, e = .returned (.tuple #[.agg (.string s :: .bool m :: u).toArray, .bool true]) ∧ KAt w' B k u
set_option maxHeartbeats 4000000 in
theorem kind_find (A : Option Addr) (n c : Nat) (f : Fl) (B : Nat → Prop) (o nn : Int) (s0 t0 : ByteArray) (p : Option Addr) (s : ByteArray) (w : World) (hf : FAt w B A 0 f) (hn : n = f.list.length) (hl : n ≤ 100000) (hc : n ≤ c) (ha : f.asc) (hb : ∀ b, B b → b < w.heap.size) :
    Calls Tryz.prog 101 #[.agg #[.int .i64 o, .int .i64 nn, .string s0, .string t0, .pointer p, .slice A n c], .string s] w (FndPost w B f s) := by
  have hmf : ∀ (fn : Fn) (first cap : Array Value) (w : World), (Instr.makeFunc fn first cap).run Tryz.prog w = .ok (.func fn first cap) w := fun _ _ _ _ => rfl
  have HS := Lib.hid (fun w' (h : Below w.heap.size w w') => find_search A n c f B s w' (hf.cong (fun b hB => h.block b (hb b hB))) hn hl hc ha (fun b hB => Nat.lt_of_lt_of_le (hb b hB) h.size))
  have HF := Lib.hid (fun w' (h : Below w.heap.size w w') => (hf.cong (w' := w') (fun b hB => h.block b (hb b hB))).at)
  have HN := Lib.hid hn
  have HA := Lib.hid ha
  have HBB := Lib.hid hb
  clear hf hn ha hb
  go_enter Tryz.func101, Tryz.ntmps101
  have X1 := Lib.hid (bx6_new w (.int .i64 o) (.int .i64 nn) (.string s0) (.string t0) (.pointer p) (.slice A n c) 85)
  have B1 := Lib.hid (below_box w (.cells #[.int .i64 o, .int .i64 nn, .string s0, .string t0, .pointer p, .slice A n c] 85))
  go_wp2_with fail
  have hsz : (w.alloc (.cells #[.int .i64 o, .int .i64 nn, .string s0, .string t0, .pointer p, .slice A n c] 85)).heap.size = w.heap.size + 1 := by simp
  obtain ⟨w1, hw1⟩ : ∃ w1, w.alloc (.cells #[.int .i64 o, .int .i64 nn, .string s0, .string t0, .pointer p, .slice A n c] 85) = w1 := ⟨_, rfl⟩
  rw [hw1] at X1 B1 hsz ⊢
  rw [← hsz]
  clear hw1 hsz
  have X2 := Lib.hid (X1.out.keep (below_box w1 (.cells #[.string ⟨#[]⟩, .bool false, .int .i64 0, .int .i64 0, .string ⟨#[]⟩, .string ⟨#[]⟩, .pointer none, .slice none 0 0] 168)))
  have Y2 := Lib.hid (bx8_new w1 (.string ⟨#[]⟩) (.bool false) (.int .i64 0) (.int .i64 0) (.string ⟨#[]⟩) (.string ⟨#[]⟩) (.pointer none) (.slice none 0 0) 168)
  have B2 := bh B1 (below_box w1 (.cells #[.string ⟨#[]⟩, .bool false, .int .i64 0, .int .i64 0, .string ⟨#[]⟩, .string ⟨#[]⟩, .pointer none, .slice none 0 0] 168))
  obtain ⟨w2, hw2⟩ : ∃ w2, w1.alloc (.cells #[.string ⟨#[]⟩, .bool false, .int .i64 0, .int .i64 0, .string ⟨#[]⟩, .string ⟨#[]⟩, .pointer none, .slice none 0 0] 168) = w2 := ⟨_, rfl⟩
  rw [hw2] at X2 Y2 B2 ⊢
  clear hw2 X1
  have HW := Lib.hid B1.out.size
  clear B1
  refine (HS.out w2 B2.out).mono ?_
  rintro e w3 ⟨i, hh, rfl, h1, h2, b3⟩
  have X3 := Lib.hid (X2.out.keep b3)
  have Y3 := Lib.hid (Y2.out.keep b3)
  have B3 := bh B2 b3
  clear X2 Y2 B2 b3 HS
  obtain ⟨c0, c1, c2, c3, c4, c5, -, -, -, -, -, -⟩ := X3.out
  obtain ⟨d0, d1, d2, d3, d4, d5, d6, d7, z0, z1, z2, z3, z4, z5, z6, z7⟩ := Y3.out
  cases hh with
  | false =>
    have HNF := Lib.hid (find_none.2 (h2 rfl))
    clear h1 h2
    have Y4 := Y3.out.set (.string ⟨#[]⟩) (.bool false) (.int .i64 0) (.int .i64 0) (.string ⟨#[]⟩) (.string ⟨#[]⟩) (.pointer none) (.slice none 0 0)
    obtain ⟨g0, g1, g2, g3, g4, g5, g6, g7, -, -, -, -, -, -, -, -⟩ := Y4
    go_wp2_with fail
    refine bodyPost_ret (v := .tuple #[.agg #[.string ⟨#[]⟩, .bool false, .int .i64 0, .int .i64 0, .string ⟨#[]⟩, .string ⟨#[]⟩, .pointer none, .slice none 0 0], .bool false]) (by simp [results, Tryz.results101, go_sem, g0, g1, g2, g3, g4, g5, g6, g7]) rfl ⟨?_, by rw [HNF.out]⟩
    exact below_set8 B3.out HW.out _ _ _ _ _ _ _ _
  | true =>
    obtain ⟨hi, hs⟩ := h1 rfl
    clear h1 h2
    have hin : i < n := by rw [HN.out]; exact hi
    obtain ⟨a, rfl, hfd⟩ := HF.out w3 B3.out i _ (List.getElem?_eq_getElem hi)
    rw [Nat.zero_add] at hfd
    have HFF := Lib.hid (show f.find s = some (f.list[i].2.1, f.list[i].2.2) from (find_list HA.out).2 (by rw [← hs]; exact List.getElem_mem hi))
    obtain ⟨y, hy⟩ : ∃ y, y = f.list[i] := ⟨_, rfl⟩
    rw [← hy] at hfd HFF hs
    clear hy
    obtain ⟨o', n', s', t', p', A', m', c', hk, q0, q1, q2, q3, q4, q5, q6, q7⟩ := hfd.cells
    have HK := Lib.hid hk
    rw [hs] at q0
    clear hk hfd hs
    have Y4 := Y3.out.set (.string s) (.bool y.2.1) (.int .i64 o') (.int .i64 n') (.string s') (.string t') (.pointer p') (.slice A' m' c')
    obtain ⟨g0, g1, g2, g3, g4, g5, g6, g7, -, -, -, -, -, -, -, -⟩ := Y4
    go_wp2_with fail
    refine bodyPost_ret (v := .tuple #[.agg #[.string s, .bool y.2.1, .int .i64 o', .int .i64 n', .string s', .string t', .pointer p', .slice A' m' c'], .bool true]) (by simp [results, Tryz.results101, go_sem, g0, g1, g2, g3, g4, g5, g6, g7]) rfl ?_
    have BF : ∀ w', Below w.heap.size w w' → FndPost w B f s (.returned (.tuple #[.agg #[.string s, .bool y.2.1, .int .i64 o', .int .i64 n', .string s', .string t', .pointer p', .slice A' m' c'], .bool true])) w' := fun w' hb => by
      refine ⟨hb, ?_⟩
      rw [HFF.out]
      exact ⟨_, rfl, HK.out.cong fun b hB => (hb.block b (HBB.out b hB)).trans (B3.out.block b (HBB.out b hB)).symm⟩
    refine BF _ ?_
    exact below_set8 B3.out HW.out _ _ _ _ _ _ _ _
end Go.Proofs.YtmekockjgldndaaGreatDoor
namespace Go.Proofs.YtmekockjgldndaaGreatDoor
open Go.RowKit Go.Wk Go.Sort
set_option maxRecDepth 100000

theorem len_list (f : Fl) : f.len = f.list.length := by
  induction f using Fl.rec (motive_1 := fun _ => True) with
  | nil => rfl
  | cons s m k r _ ih => simp [Fl.len, Fl.list, ih]
  | _ => trivial
theorem len_sz (f : Fl) : f.len ≤ f.sz := by
  induction f using Fl.rec (motive_1 := fun _ => True) with
  | nil => exact Nat.le_refl _
  | cons s m k r _ ih => simp only [Fl.len, Fl.sz]; omega
  | _ => trivial
/-- The contract of below, for types of so much. -/
def BelC (N : Nat) : Prop := ∀ (a b : Kd) (va vb : List Value) (w : World) (B : Nat → Prop), a.sz ≤ N → a.sz ≤ 90000 → b.sz ≤ 90000 → KAt w B a va → KAt w B b vb → a.valid → b.valid → (∀ b, B b → b < w.heap.size) →
  Calls Tryz.prog 53 #[.agg va.toArray, .agg vb.toArray] w fun e w' => e = .returned (.bool (belowK a b)) ∧ Below w.heap.size w w'
/-- The op and the name of a type. -/
def opN : Kd → Int
  | .base x => x
  | .ent _ => 44
  | .set _ => 45
  | .fs _ => 46
def nmN : Kd → ByteArray
  | .ent s => s
  | _ => emp
theorem kat_head {w : World} {B : Nat → Prop} {k : Kd} {v : List Value} (h : KAt w B k v) : ∃ (n : Int) (p : Option Addr) (A : Option Addr) (m c : Nat), v = [.int .i64 (opN k), .int .i64 n, .string (nmN k), .string emp, .pointer p, .slice A m c] := by
  cases k with
  | base x => obtain ⟨_, rfl⟩ := h; exact ⟨_, _, _, _, _, rfl⟩
  | ent s => obtain ⟨_, rfl⟩ := h; exact ⟨_, _, _, _, _, rfl⟩
  | set q => obtain ⟨_, _, _, rfl, _⟩ := h; exact ⟨_, _, _, _, _, rfl⟩
  | fs f => obtain ⟨_, _, _, rfl, _⟩ := h; exact ⟨_, _, _, _, _, rfl⟩
set_option maxHeartbeats 2000000 in
/-- One of the ends. -/
theorem below_end (o1 o2 n1 n2 : Int) (s1 s2 t1 t2 : ByteArray) (p1 p2 A1 A2 : Option Addr) (m1 c1 m2 c2 : Nat) (w : World) (h : o1 = 49 ∨ o2 = 48) :
    Calls Tryz.prog 53 #[.agg #[.int .i64 o1, .int .i64 n1, .string s1, .string t1, .pointer p1, .slice A1 m1 c1], .agg #[.int .i64 o2, .int .i64 n2, .string s2, .string t2, .pointer p2, .slice A2 m2 c2]] w fun e w' => e = .returned (.bool true) ∧ Below w.heap.size w w' := by
  have HB := Lib.hid ((below_box w (.cells #[.int .i64 o1, .int .i64 n1, .string s1, .string t1, .pointer p1, .slice A1 m1 c1] 85)).trans ((below_box _ (.cells #[.int .i64 o2, .int .i64 n2, .string s2, .string t2, .pointer p2, .slice A2 m2 c2] 85)).mono (by simp)))
  by_cases h1 : o1 = 49
  · subst h1
    clear h
    go_enter Tryz.func53, Tryz.ntmps53
    go_wp2_with fail
    go_ret
    exact ⟨rfl, HB.out⟩
  · have h2 := h.resolve_left h1
    have h3 : (o1 == 49) = false := beq_eq_false_iff_ne.2 h1
    subst h2
    clear h h1
    go_enter Tryz.func53, Tryz.ntmps53
    go_wp2_with fail
    go_ret
    exact ⟨rfl, HB.out⟩
set_option maxHeartbeats 2000000 in
/-- Different ones. -/
theorem below_differ (o1 o2 n1 n2 : Int) (s1 s2 t1 t2 : ByteArray) (p1 p2 A1 A2 : Option Addr) (m1 c1 m2 c2 : Nat) (w : World) (h1 : o1 ≠ 49) (h2 : o2 ≠ 48) (h : o1 ≠ o2 ∨ s1 ≠ s2) :
    Calls Tryz.prog 53 #[.agg #[.int .i64 o1, .int .i64 n1, .string s1, .string t1, .pointer p1, .slice A1 m1 c1], .agg #[.int .i64 o2, .int .i64 n2, .string s2, .string t2, .pointer p2, .slice A2 m2 c2]] w fun e w' => e = .returned (.bool false) ∧ Below w.heap.size w w' := by
  have HB := Lib.hid ((below_box w (.cells #[.int .i64 o1, .int .i64 n1, .string s1, .string t1, .pointer p1, .slice A1 m1 c1] 85)).trans ((below_box _ (.cells #[.int .i64 o2, .int .i64 n2, .string s2, .string t2, .pointer p2, .slice A2 m2 c2] 85)).mono (by simp)))
  have e1 : (o1 == 49) = false := beq_eq_false_iff_ne.2 h1
  have e2 : (o2 == 48) = false := beq_eq_false_iff_ne.2 h2
  by_cases ho : o1 = o2
  · have hs := h.resolve_left (fun q => q ho)
    have e3 : (s1.toList == s2.toList) = false := beq_eq_false_iff_ne.2 (fun q => hs (toList_inj q))
    subst ho
    clear h hs h1 h2
    go_enter Tryz.func53, Tryz.ntmps53
    go_wp2_with fail
    go_ret
    exact ⟨rfl, HB.out⟩
  · have e3 : (o1 == o2) = false := beq_eq_false_iff_ne.2 ho
    have e4 : (o1 != o2) = true := by rw [bne_iff_ne]; exact ho
    clear h h1 h2 ho
    go_enter Tryz.func53, Tryz.ntmps53
    go_wp2_with fail
    go_ret
    exact ⟨rfl, HB.out⟩
set_option maxHeartbeats 2000000 in
/-- The same without parts. -/
theorem below_same (o n1 n2 : Int) (s1 t1 t2 : ByteArray) (p1 p2 : Option Addr) (w : World) (h1 : o ≠ 49) (h2 : o ≠ 48) (h3 : o ≠ 45) :
    Calls Tryz.prog 53 #[.agg #[.int .i64 o, .int .i64 n1, .string s1, .string t1, .pointer p1, .slice none 0 0], .agg #[.int .i64 o, .int .i64 n2, .string s1, .string t2, .pointer p2, .slice none 0 0]] w fun e w' => e = .returned (.bool true) ∧ Below w.heap.size w w' := by
  have HB := Lib.hid ((below_box w (.cells #[.int .i64 o, .int .i64 n1, .string s1, .string t1, .pointer p1, .slice none 0 0] 85)).trans ((below_box _ (.cells #[.int .i64 o, .int .i64 n2, .string s1, .string t2, .pointer p2, .slice none 0 0] 85)).mono (by simp)))
  have e1 : (o == 49) = false := beq_eq_false_iff_ne.2 h1
  have e2 : (o == 48) = false := beq_eq_false_iff_ne.2 h2
  have e3 : (o == 45) = false := beq_eq_false_iff_ne.2 h3
  clear h1 h2 h3
  go_enter Tryz.func53, Tryz.ntmps53
  go_wp2_with fail
  go_loopw [58] (fun i wr => i = .int .i64 0 ∧ Hid (wr = ((w.alloc (.cells #[.int .i64 o, .int .i64 n1, .string s1, .string t1, .pointer p1, .slice none 0 0] 85)).alloc (.cells #[.int .i64 o, .int .i64 n2, .string s1, .string t2, .pointer p2, .slice none 0 0] 85)))) (fun _ _ => 0)
  case atStart => exact ⟨rfl, Lib.hid rfl⟩
  case round =>
    obtain ⟨rfl, hw⟩ := hrel
    have X2 := bx6_new (w.alloc (.cells #[.int .i64 o, .int .i64 n1, .string s1, .string t1, .pointer p1, .slice none 0 0] 85)) (.int .i64 o) (.int .i64 n2) (.string s1) (.string t2) (.pointer p2) (.slice none 0 0) 85
    have hsz : (w.alloc (.cells #[.int .i64 o, .int .i64 n1, .string s1, .string t1, .pointer p1, .slice none 0 0] 85)).heap.size = w.heap.size + 1 := by simp
    rw [hsz, ← hw.out] at X2
    have HB1 := HB.out
    rw [← hw.out] at HB1
    have HB2 := Lib.hid HB1
    obtain ⟨c0, c1, c2, c3, c4, c5, -, -, -, -, -, -⟩ := X2
    clear hsz hw HB HB1
    go_wp2_with fail
    obtain ⟨w5, rfl⟩ : ∃ w5 : World, w5 = wr := ⟨_, rfl⟩
    go_loopw [92] (fun i wr => i = .int .i64 0 ∧ wr = w5) (fun _ _ => 0)
    case atStart => exact ⟨rfl, rfl⟩
    case round =>
      obtain ⟨rfl, rfl⟩ := hrel
      go_wp2_with fail
      go_ret
      exact ⟨rfl, HB2.out⟩
set_option maxHeartbeats 2000000 in
/-- Of sets. -/
theorem below_sets (N : Nat) (ih : BelC N) (p q : Kd) (va vb : List Value) (w : World) (B : Nat → Prop) (h : p.sz ≤ N) (hp : p.sz ≤ 90000) (hq : q.sz ≤ 90000) (ha : KAt w B (.set p) va) (hb : KAt w B (.set q) vb) (op : p.valid) (oq : q.valid) (hB : ∀ b, B b → b < w.heap.size) :
    Calls Tryz.prog 53 #[.agg va.toArray, .agg vb.toArray] w fun e w' => e = .returned (.bool (belowK p q)) ∧ Below w.heap.size w w' := by
  obtain ⟨n1, b1, u1, rfl, hb1, r1, k1⟩ := ha
  obtain ⟨n2, b2, u2, rfl, hb2, r2, k2⟩ := hb
  have IH := Lib.hid (fun w' (hw : Below w.heap.size w w') => ih p q u1 u2 w' B h hp hq (k1.cong (fun b x => hw.block b (hB b x))) (k2.cong (fun b x => hw.block b (hB b x))) op oq (fun b x => Nat.lt_of_lt_of_le (hB b x) hw.size))
  obtain ⟨o3, n3, s3, t3, p3, A3, m3, c3, rfl⟩ := kat_six k1
  obtain ⟨o4, n4, s4, t4, p4, A4, m4, c4, rfl⟩ := kat_six k2
  have L1 := hB b1 hb1
  have L2 := hB b2 hb2
  have R1 := Lib.hid (fun w' (hw : Below w.heap.size w w') => r1.cong (w' := w') (hw.block b1 L1))
  have R2 := Lib.hid (fun w' (hw : Below w.heap.size w w') => r2.cong (w' := w') (hw.block b2 L2))
  clear k1 k2 r1 r2 ih hB hb1 hb2 L1 L2
  have HB := Lib.hid ((below_box w (.cells #[.int .i64 45, .int .i64 n1, .string emp, .string emp, .pointer (some ⟨b1, 0, none⟩), .slice none 0 0] 85)).trans ((below_box _ (.cells #[.int .i64 45, .int .i64 n2, .string emp, .string emp, .pointer (some ⟨b2, 0, none⟩), .slice none 0 0] 85)).mono (by simp)))
  have hsz : (w.alloc (.cells #[.int .i64 45, .int .i64 n1, .string emp, .string emp, .pointer (some ⟨b1, 0, none⟩), .slice none 0 0] 85)).heap.size = w.heap.size + 1 := by simp
  have X1 := (bx6_new w (.int .i64 45) (.int .i64 n1) (.string emp) (.string emp) (.pointer (some ⟨b1, 0, none⟩)) (.slice none 0 0) 85).keep (below_box _ (.cells #[.int .i64 45, .int .i64 n2, .string emp, .string emp, .pointer (some ⟨b2, 0, none⟩), .slice none 0 0] 85))
  have X2 := bx6_new (w.alloc (.cells #[.int .i64 45, .int .i64 n1, .string emp, .string emp, .pointer (some ⟨b1, 0, none⟩), .slice none 0 0] 85)) (.int .i64 45) (.int .i64 n2) (.string emp) (.string emp) (.pointer (some ⟨b2, 0, none⟩)) (.slice none 0 0) 85
  rw [hsz] at X2
  generalize belowK p q = bb at *
  go_enter Tryz.func53, Tryz.ntmps53
  go_wp2_with fail
  obtain ⟨w2, hw2⟩ : ∃ w2, (w.alloc (.cells #[.int .i64 45, .int .i64 n1, .string emp, .string emp, .pointer (some ⟨b1, 0, none⟩), .slice none 0 0] 85)).alloc (.cells #[.int .i64 45, .int .i64 n2, .string emp, .string emp, .pointer (some ⟨b2, 0, none⟩), .slice none 0 0] 85) = w2 := ⟨_, rfl⟩
  rw [hw2] at X1 X2 HB ⊢
  clear hw2 hsz
  have Q1 := R1.out _ HB.out
  have Q2 := R2.out _ HB.out
  have d0 := Q1 0 _ rfl
  have d1 := Q1 1 _ rfl
  have d2 := Q1 2 _ rfl
  have d3 := Q1 3 _ rfl
  have d4 := Q1 4 _ rfl
  have d5 := Q1 5 _ rfl
  have g0 := Q2 0 _ rfl
  have g1 := Q2 1 _ rfl
  have g2 := Q2 2 _ rfl
  have g3 := Q2 3 _ rfl
  have g4 := Q2 4 _ rfl
  have g5 := Q2 5 _ rfl
  have ad : ∀ (b j : Nat), (⟨b, 0, none⟩ : Addr).add j = ⟨b, j, none⟩ := fun b j => by
    unfold Addr.add
    split
    · rename_i h0; subst h0; rfl
    · simp
  rw [ad] at d0 d1 d2 d3 d4 d5 g0 g1 g2 g3 g4 g5
  clear ad Q1 Q2
  replace d0 := cell_regrown d0
  replace d1 := cell_regrown d1
  replace d2 := cell_regrown d2
  replace d3 := cell_regrown d3
  replace d4 := cell_regrown d4
  replace d5 := cell_regrown d5
  replace g0 := cell_regrown g0
  replace g1 := cell_regrown g1
  replace g2 := cell_regrown g2
  replace g3 := cell_regrown g3
  replace g4 := cell_regrown g4
  replace g5 := cell_regrown g5
  have v1 := cell_regrown X1.c4
  have v2 := cell_regrown X2.c4
  have hq : ∀ w', Below w2.heap.size w2 w' → Below w.heap.size w w' := fun w' hb => HB.out.trans (hb.mono HB.out.size)
  have K := rq (w := w2) (v := .bool bb) (fun w' hb => IH.out w' (hq w' hb))
  clear hq R1 R2 IH X1 X2
  refine wp_region_quiet_below (by kernel_rfl) (by kernel_rfl) ?_
  repeat (first | go_big_quiet_step (exact K _ _) | quiet_step (exact K _ _))
  refine wpQuiet_nil ?_
  intro w3 hw'
  have b3 := Lib.hid (show Below w2.heap.size w2 w3 by obtain ⟨⟨d, os⟩, rfl⟩ := hw'; exact below_regrown _ _ _)
  clear hw'
  have B3 := bh HB b3.out
  clear d0 d1 d2 d3 d4 d5 g0 g1 g2 g3 g4 g5 v1 v2 K
  go_wp2_with fail
  go_ret
  exact ⟨rfl, B3.out⟩
end Go.Proofs.YtmekockjgldndaaGreatDoor
