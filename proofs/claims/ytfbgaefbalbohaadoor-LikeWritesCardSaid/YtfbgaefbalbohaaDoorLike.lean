/-
  The contracts of like.match, like.read, like.Match.
-/
import Derived.Test.YtfbgaefbalbohaaDoorName
import Derived.Test.YtfbgaefbalbohaaDoorLikeLaw
namespace Go.Proofs.YtfbgaefbalbohaaDoor
open Go.RowKit Go.Wk

/-- The byte that a sign's node bears. -/
def signByte : Option UInt8 → Int
  | none => 0
  | some b => b.toNat
/-- A slice that holds signs. -/
def SignsAt (w : World) (A : Option Addr) (P : List (Option UInt8)) : Prop :=
  ∀ (k : Nat) (x : Option UInt8), P[k]? = some x → ∃ a, A = some a ∧ w.cell? (a.add (k * 2)) = some (.int .u8 (signByte x)) ∧
    w.cell? ⟨(a.add (k * 2)).block, (a.add (k * 2)).off + 1, none⟩ = some (.bool x.isNone)
theorem SignsAt.keep {w w' : World} {A : Option Addr} {P : List (Option UInt8)} (h : SignsAt w A P) (hb : Below w.heap.size w w') : SignsAt w' A P :=
  fun k x hx => let ⟨a, h1, h2, h3⟩ := h k x hx; ⟨a, h1, cell_keep hb h2, cell_keep hb h3⟩

theorem meas {m n a b c d e f g h : Nat} (hm : left m n a b c d < left m n e f g h) {a' b' c' d' e' f' g' h' : Nat} (h1 : a' = a) (h2 : b' = b) (h3 : c' = c) (h4 : d' = d) (h5 : e' = e) (h6 : f' = f) (h7 : g' = g) (h8 : h' = h) :
    left m n a' b' c' d' < left m n e' f' g' h' := by subst h1 h2 h3 h4 h5 h6 h7 h8; exact hm
theorem bel_drew (w : World) (n : Nat) : Below w.heap.size w (w.drewN n) := (Below.refl _ _).drewN n

set_option maxHeartbeats 2000000 in
theorem like_match (A : Option Addr) (n c : Nat) (P : List (Option UInt8)) (s : ByteArray) (w : World) (hn : n = P.length) (hl : n ≤ maxLen) (hs : s.size ≤ maxLen) (hP : SignsAt w A P) :
    Calls Tryd.prog 35 #[.slice A n c, .string s] w fun e w' => e = .returned (.bool (fitsS P s.data.toList)) ∧ Below w.heap.size w w' := by
  unfold maxLen at hl hs
  have HP := Lib.hid hP
  have HN := Lib.hid hn
  have HS := Lib.hid (show s.data.toList.length = s.size from Array.length_toList)
  clear hP hn
  go_enter Tryd.func35, Tryd.ntmps35
  go_wp2
  go_loopw [4, 5, 6, 7, 8] (fun r i j st fr wr => ∃ ki kj ks kf : Nat, r = .bool false ∧ i = .int .i64 ki ∧ j = .int .i64 kj ∧ st = .int .i64 ((ks : Int) - 1) ∧ fr = .int .i64 kf ∧ ki ≤ n ∧ kj ≤ s.size ∧ ks ≤ n ∧ kf ≤ s.size ∧
      Hid (Srch P s.data.toList ki kj ks kf) ∧ Hid (∃ z, wr = w.drewN z)) (fun _ i j st fr _ => left n s.size (intOf i).toNat (intOf j).toNat (intOf st + 1).toNat (intOf fr).toNat)
  case atStart => exact ⟨0, 0, 0, 0, rfl, rfl, rfl, rfl, rfl, by omega, by omega, by omega, by omega, Srch.start _ _, 0, rfl⟩
  case round =>
    obtain ⟨i, j, st, fr, rfl, rfl, rfl, rfl, rfl, hi, hj, hst, hfr, hS, hw⟩ := hrel
    obtain ⟨z, rfl⟩ := hw.out
    clear hw
    by_cases hlt : j < s.size
    · by_cases hip : i < n
      · have hip' : i < P.length := by rw [← HN.out]; exact hip
        obtain ⟨a, rfl, q1, q2⟩ := HP.out i P[i] (List.getElem?_eq_getElem hip')
        rcases hx : P[i] with _ | b
        · have HX := Lib.hid hx
          rw [hx] at q1 q2
          simp only [Option.isNone_none, signByte] at q1 q2
          clear hx
          have HS' := Lib.hid (hS.out.star hip' HX.out)
          have hm := Lib.hid (left_star (m := n) (n := s.size) (i := i) (j := j) (star := st) (frm := fr) hip (by
            by_cases h0 : st = 0
            · omega
            · exact (hS.out.some_ (by omega)).1) (by
            by_cases h0 : st = 0
            · rw [(hS.out.none_ h0).2]; omega
            · exact (hS.out.some_ (by omega)).2.1) hj)
          go_wp2
          exact ⟨⟨i + 1, j, i + 1, j, rfl, by go_num, rfl, by go_num, rfl, by omega, by omega, by omega, by omega, HS', _, rfl⟩, meas hm.out (by simp only [intOf]; omega) (by simp only [intOf]; omega) (by simp only [intOf]; omega) (by simp only [intOf]; omega) (by simp only [intOf]; omega) (by simp only [intOf]; omega) (by simp only [intOf]; omega) (by simp only [intOf]; omega)⟩
        · have HX := Lib.hid hx
          rw [hx] at q1 q2
          simp only [Option.isNone_some, signByte] at q1 q2
          clear hx
          have hjl : j < s.data.toList.length := by rw [HS.out]; exact hlt
          by_cases hb : b = s[j]
          · have HS' := Lib.hid (hS.out.byte hip' hjl (by rw [HX.out, hb]; rfl))
            have hm := Lib.hid (left_byte (m := n) (n := s.size) (i := i) (j := j) (star := st) (frm := fr) hlt)
            rw [hb] at q1
            clear hb
            go_wp2
            go_quiet (fail)
            go_wp2
            exact ⟨⟨i + 1, j + 1, st, fr, rfl, by go_num, by go_num, rfl, rfl, by omega, by omega, by omega, by omega, HS', _, rfl⟩, meas hm.out (by simp only [intOf]; omega) (by simp only [intOf]; omega) (by simp only [intOf]; omega) (by simp only [intOf]; omega) (by simp only [intOf]; omega) (by simp only [intOf]; omega) (by simp only [intOf]; omega) (by simp only [intOf]; omega)⟩
          · have hb2 : ((b.toNat : Int) == (s[j].toNat : Int)) = false := by
              rw [beq_eq_false_iff_ne]
              intro q
              exact hb (UInt8.toNat_inj.1 (by omega))
            have HM := Lib.hid (show Miss P s.data.toList i j from ⟨hjl, .inr ⟨b, s[j], by rw [List.getElem?_eq_getElem hip', HX.out], List.getElem?_eq_getElem hjl, hb⟩⟩)
            clear hb
            by_cases h0 : st = 0
            · have HF := Lib.hid (hS.out.fail h0 HM.out)
              subst h0
              go_wp2
              go_quiet (fail)
              go_wp2
              go_ret
              exact ⟨by rw [HF.out]; rfl, bel_drew _ _⟩
            · have hs1 : 0 < st := by omega
              have HS' := Lib.hid (hS.out.again hs1 HM.out)
              have hf1 := (hS.out.some_ hs1).2.1
              have hm := Lib.hid (left_again (m := n) (n := s.size) (i := i) (j := j) (star := st) (frm := fr) hf1 hlt)
              clear h0
              have hs2 : 0 ≤ (st : Int) - 1 := by omega
              go_wp2
              go_quiet (fail)
              go_wp2
              exact ⟨⟨st, fr + 1, st, fr + 1, rfl, by go_num, by go_num, rfl, by go_num, by omega, by omega, by omega, by omega, HS', _, rfl⟩, meas hm.out (by simp only [intOf]; omega) (by simp only [intOf]; omega) (by simp only [intOf]; omega) (by simp only [intOf]; omega) (by simp only [intOf]; omega) (by simp only [intOf]; omega) (by simp only [intOf]; omega) (by simp only [intOf]; omega)⟩
      · have hjl : j < s.data.toList.length := by rw [HS.out]; exact hlt
        have HM := Lib.hid (show Miss P s.data.toList i j from ⟨hjl, .inl (by rw [← HN.out]; omega)⟩)
        by_cases h0 : st = 0
        · have HF := Lib.hid (hS.out.fail h0 HM.out)
          subst h0
          go_wp2
          go_quiet (fail)
          go_wp2
          go_ret
          exact ⟨by rw [HF.out]; rfl, bel_drew _ _⟩
        · have hs1 : 0 < st := by omega
          have HS' := Lib.hid (hS.out.again hs1 HM.out)
          have hf1 := (hS.out.some_ hs1).2.1
          have hm := Lib.hid (left_again (m := n) (n := s.size) (i := i) (j := j) (star := st) (frm := fr) hf1 hlt)
          clear h0
          have hs2 : 0 ≤ (st : Int) - 1 := by omega
          go_wp2
          go_quiet (fail)
          go_wp2
          exact ⟨⟨st, fr + 1, st, fr + 1, rfl, by go_num, by go_num, rfl, by go_num, by omega, by omega, by omega, by omega, HS', _, rfl⟩, meas hm.out (by simp only [intOf]; omega) (by simp only [intOf]; omega) (by simp only [intOf]; omega) (by simp only [intOf]; omega) (by simp only [intOf]; omega) (by simp only [intOf]; omega) (by simp only [intOf]; omega) (by simp only [intOf]; omega)⟩
    · have HD := Lib.hid (hS.out.done (by rw [HS.out]; omega))
      clear hS
      go_wp2
      go_loop [5] (fun i' => ∃ ki : Nat, i' = .int .i64 ki ∧ ki ≤ n ∧ Hid (fitsS (P.drop i) [] = fitsS (P.drop ki) [])) (fun i' => n - (intOf i').toNat)
      case atStart => exact ⟨i, rfl, hi, rfl⟩
      case round =>
        obtain ⟨ki, rfl, hki, hE⟩ := hrel
        by_cases hip : ki < n
        · have hip' : ki < P.length := by rw [← HN.out]; exact hip
          obtain ⟨a, rfl, q1, q2⟩ := HP.out ki P[ki] (List.getElem?_eq_getElem hip')
          rcases hx : P[ki] with _ | b
          · have HE := Lib.hid (hE.out.trans (fitsS_end_none hip' hx))
            rw [hx] at q2
            simp only [Option.isNone_none] at q2
            clear hx hE q1
            go_wp2
            go_round
            case rel => exact ⟨ki + 1, by go_num, by omega, HE⟩
            case measure => simp [intOf]; omega
          · have HE := Lib.hid (HD.out.trans (hE.out.trans (fitsS_end_some hip' hx)))
            rw [hx] at q2
            simp only [Option.isNone_some] at q2
            clear hx hE q1
            have hne : ((ki : Int) == (n : Int)) = false := by rw [beq_eq_false_iff_ne]; omega
            go_wp2
            go_ret
            exact ⟨by rw [HE.out]; rfl, bel_drew _ _⟩
        · have HE := Lib.hid (HD.out.trans (hE.out.trans (fitsS_end_nil (by rw [← HN.out]; omega))))
          obtain rfl : ki = n := by omega
          clear hE
          go_wp2
          go_ret
          exact ⟨by rw [HE.out]; simp, bel_drew _ _⟩

/-- The cells of a sign. -/
def signCells : List (Option UInt8) → List Value
  | [] => []
  | x :: r => .int .u8 (signByte x) :: .bool x.isNone :: signCells r
theorem signCells_append (P Q : List (Option UInt8)) : signCells (P ++ Q) = signCells P ++ signCells Q := by
  induction P with
  | nil => rfl
  | cons x P ih => simp [signCells, ih]
theorem signCells_length (P : List (Option UInt8)) : (signCells P).length = P.length * 2 := by
  induction P with
  | nil => rfl
  | cons x P ih => simp only [signCells, List.length_cons, ih]; omega
theorem signCells_at (P : List (Option UInt8)) (k : Nat) (x : Option UInt8) (h : P[k]? = some x) : (signCells P)[k * 2]? = some (.int .u8 (signByte x)) ∧ (signCells P)[k * 2 + 1]? = some (.bool x.isNone) := by
  induction P generalizing k with
  | nil => simp at h
  | cons y P ih =>
    cases k with
    | zero => simp only [List.getElem?_cons_zero, Option.some.injEq] at h; subst h; exact ⟨rfl, rfl⟩
    | succ k =>
      have := ih k (by simpa using h)
      rw [show (k + 1) * 2 = k * 2 + 1 + 1 by omega]
      simp only [signCells, List.getElem?_cons_succ]
      exact this
theorem addr_at (g k : Nat) : (⟨g, 0, none⟩ : Addr).add k = ⟨g, k, none⟩ := by
  unfold Addr.add; split
  · rename_i h0; subst h0; rfl
  · simp
/-- An owned row of signs is a slice that holds them. -/
theorem signs_of_own {w : World} {B : Nat} {v : Value} {P : List (Option UInt8)} (h : w.ownsRow B 65 2 v P.length (signCells P)) : ∃ A c, v = .slice A P.length c ∧ SignsAt w A P := by
  rcases h.2 with ⟨rfl, h0⟩ | ⟨g, cap, cur, rfl, _⟩
  · have : P = [] := List.eq_nil_of_length_eq_zero h0
    subst this
    exact ⟨none, 0, rfl, fun k x hx => by simp at hx⟩
  · refine ⟨some ⟨g, 0, none⟩, cap, rfl, fun k x hx => ?_⟩
    have hk : k < P.length := (List.getElem?_eq_some_iff.1 hx).1
    obtain ⟨e1, e2⟩ := signCells_at P k x hx
    have c1 := h.cells (g := g) rfl _ _ e1
    have c2 := h.cells (g := g) rfl _ _ e2
    refine ⟨_, rfl, c1, ?_⟩
    have e : (⟨((⟨g, 0, none⟩ : Addr).add (k * 2)).block, ((⟨g, 0, none⟩ : Addr).add (k * 2)).off + 1, none⟩ : Addr) = (⟨g, 0, none⟩ : Addr).add (k * 2 + 1) := by
      rw [addr_at, addr_at]
    rw [e]; exact c2
theorem signInfo : (Tryd.prog.info? 65).map (fun i => (i.zero, i.size, i.bytes)) = some (some (.agg #[.int .u8 0, .bool false]), 2, 2) := by kernel_rfl

/-- A sign more. -/
theorem own_sign {w1 : World} {B : Nat} {v' : Value} {P : List (Option UInt8)} {x : Option UInt8} (h : w1.ownsRow B 65 2 v' (P.length + 1) (signCells P ++ [.int .u8 (signByte x), .bool x.isNone])) :
    w1.ownsRow B 65 2 v' (P ++ [x]).length (signCells (P ++ [x])) := by
  rw [signCells_append, List.length_append]
  exact h

theorem two_cells (x : Int) (b : Bool) : ∀ u ∈ [Value.int .u8 x, .bool b], u.oneCell' = true := by
  intro u hu
  simp only [List.mem_cons, List.not_mem_nil, or_false] at hu
  rcases hu with rfl | rfl <;> rfl
theorem byte_eq {s : ByteArray} {k : Nat} (h : k < s.size) {b : UInt8} (q : (s[k].toNat : Int) = b.toNat) : s.data.toList[k]'(by simpa using h) = b :=
  UInt8.toNat_inj.1 (show s[k].toNat = b.toNat by omega)
theorem byte_of {s : ByteArray} {k : Nat} (h : k < s.size) {b : UInt8} (q : s.data.toList[k]'(by simpa using h) = b) : (s[k].toNat : Int) = b.toNat := by
  have : s[k] = b := q
  rw [this]

set_option maxRecDepth 100000 in
set_option maxHeartbeats 4000000 in
theorem like_readO (s : ByteArray) (w : World) (hs : s.size ≤ 60) :
    Calls Tryd.prog 31 #[.string s] w fun e w' => ∃ A c, e = .returned (.slice A (signs s.data.toList).length c) ∧ w'.ownsRow w.heap.size 65 2 (.slice A (signs s.data.toList).length c) (signs s.data.toList).length (signCells (signs s.data.toList)) ∧ Below w.heap.size w w' := by
  have HS := Lib.hid (show s.data.toList.length = s.size from Array.length_toList)
  obtain ⟨i0, hi, hz0, hz1, hz2⟩ := info_parts signInfo
  go_enter Tryd.func31, Tryd.ntmps31
  go_wp2
  go_loopw [3, 4] (fun v i wr => ∃ (k : Nat) (Q : List (Option UInt8)), i = .int .i64 k ∧ k ≤ s.size ∧ Q.length ≤ k ∧ Hid (signs s.data.toList = Q ++ signs (s.data.toList.drop k)) ∧ Hid (wr.ownsRow w.heap.size 65 2 v Q.length (signCells Q)) ∧ Hid (Below w.heap.size w wr)) (fun _ i _ => s.size - (intOf i).toNat)
  case atStart => exact ⟨0, [], rfl, Nat.zero_le _, Nat.le_refl _, rfl, ⟨rfl, .inl ⟨rfl, rfl⟩⟩, Below.refl _ _⟩
  case round =>
    obtain ⟨k, Q, rfl, hk, hq, hE, hown, hb⟩ := hrel
    by_cases hlt : k < s.size
    · have hlt' : k < s.data.toList.length := by rw [HS.out]; exact hlt
      by_cases h42 : (s[k].toNat : Int) = 42
      · have HE := Lib.hid (hE.out.trans (congrArg (Q ++ ·) (signs_star hlt' (byte_eq hlt h42))))
        clear hE
        go_wp2_with (at_builtin; refine wpList_append_own _ rfl _ _ 62 rfl w.heap.size 65 i0 _ 2 2 Tryd.underlying62 hi hz0 hz1 hz2 rfl (by decide) _ Q.length (signCells Q) rfl (hown.out.alloc _) ⟨_, 0, none⟩ 1 1 [.int .u8 (signByte (none : Option UInt8)), .bool (none : Option UInt8).isNone] rfl rfl (cells_new _ _ _) (two_cells _ _) (by unfold maxLen; omega) (by omega) ?c5 ?_)
        case c5 => have := hb.out.size; simp; omega
        intro v1 w1 hown1 hgrow1 _
        have B1 := Lib.hid (below_append hb.out (Nat.le_refl _) hown.out _ hgrow1)
        have O1 := Lib.hid (own_sign (x := none) hown1)
        clear hown hb hown1 hgrow1
        go_wp2
        go_roundw
        case rel => exact ⟨k + 1, Q ++ [none], by go_num, by omega, by simp; omega, by rw [Hid, List.append_assoc]; exact HE.out, O1, B1⟩
        case measure => simp [intOf]; omega
      · have h42' : ((s[k].toNat : Int) == 42) = false := beq_eq_false_iff_ne.2 h42
        by_cases h92 : (s[k].toNat : Int) = 92 ∧ ∃ h1 : k + 1 < s.size, (s[k + 1].toNat : Int) = 42
        · obtain ⟨h92, h1, hs1⟩ := h92
          have HE := Lib.hid (hE.out.trans (congrArg (Q ++ ·) (signs_two (by rw [HS.out]; exact h1) (byte_eq hlt h92) (byte_eq h1 hs1))))
          clear hE h42
          go_wp2_with (at_builtin; refine wpList_append_own _ rfl _ _ 62 rfl w.heap.size 65 i0 _ 2 2 Tryd.underlying62 hi hz0 hz1 hz2 rfl (by decide) _ Q.length (signCells Q) rfl (hown.out.alloc _) ⟨_, 0, none⟩ 1 1 [.int .u8 (signByte (some (42 : UInt8))), .bool (some (42 : UInt8)).isNone] rfl rfl (cells_new _ _ _) (two_cells _ _) (by unfold maxLen; omega) (by omega) ?c5 ?_)
          case c5 => have := hb.out.size; simp; omega
          intro v1 w1 hown1 hgrow1 _
          have B1 := Lib.hid (below_append hb.out (Nat.le_refl _) hown.out _ hgrow1)
          have O1 := Lib.hid (own_sign (x := (some 42)) hown1)
          clear hown hb hown1 hgrow1
          go_wp2
          go_roundw
          case rel => exact ⟨k + 2, Q ++ [(some 42)], by go_num, by omega, by simp; omega, by rw [Hid, List.append_assoc]; exact HE.out, O1, B1⟩
          case measure => simp [intOf]; omega
        · have hx : s.data.toList[k] = s[k] := rfl
          have HE := Lib.hid (hE.out.trans (congrArg (Q ++ ·) (signs_byte hlt' (fun q => h42 (byte_of hlt q)) (fun q => h92 ⟨byte_of hlt q.1, by rw [← HS.out]; exact q.2.1, byte_of _ q.2.2⟩))))
          rw [hx] at HE
          clear hE h42 hx
          by_cases c1 : (s[k].toNat : Int) = 92
          · rw [show s[k] = 92 from byte_eq hlt c1] at HE
            by_cases c2 : k + 1 < s.size
            · have c3 : ((s[k + 1].toNat : Int) == 42) = false := beq_eq_false_iff_ne.2 (fun q => h92 ⟨c1, c2, q⟩)
              clear h92
              go_wp2_with (at_builtin; refine wpList_append_own _ rfl _ _ 62 rfl w.heap.size 65 i0 _ 2 2 Tryd.underlying62 hi hz0 hz1 hz2 rfl (by decide) _ Q.length (signCells Q) rfl (hown.out.alloc _) ⟨_, 0, none⟩ 1 1 [.int .u8 (signByte (some (92 : UInt8))), .bool (some (92 : UInt8)).isNone] rfl rfl (cells_new _ _ _) (two_cells _ _) (by unfold maxLen; omega) (by omega) ?c5 ?_)
              case c5 => have := hb.out.size; simp; omega
              intro v1 w1 hown1 hgrow1 _
              have B1 := Lib.hid (below_append hb.out (Nat.le_refl _) hown.out _ hgrow1)
              have O1 := Lib.hid (own_sign (x := (some (92 : UInt8))) hown1)
              clear hown hb hown1 hgrow1
              go_wp2
              go_roundw
              case rel => exact ⟨k + 1, Q ++ [(some (92 : UInt8))], by go_num, by omega, by simp; omega, by rw [Hid, List.append_assoc]; exact HE.out, O1, B1⟩
              case measure => simp [intOf]; omega
            · clear h92
              go_wp2_with (at_builtin; refine wpList_append_own _ rfl _ _ 62 rfl w.heap.size 65 i0 _ 2 2 Tryd.underlying62 hi hz0 hz1 hz2 rfl (by decide) _ Q.length (signCells Q) rfl (hown.out.alloc _) ⟨_, 0, none⟩ 1 1 [.int .u8 (signByte (some (92 : UInt8))), .bool (some (92 : UInt8)).isNone] rfl rfl (cells_new _ _ _) (two_cells _ _) (by unfold maxLen; omega) (by omega) ?c5 ?_)
              case c5 => have := hb.out.size; simp; omega
              intro v1 w1 hown1 hgrow1 _
              have B1 := Lib.hid (below_append hb.out (Nat.le_refl _) hown.out _ hgrow1)
              have O1 := Lib.hid (own_sign (x := (some (92 : UInt8))) hown1)
              clear hown hb hown1 hgrow1
              go_wp2
              go_roundw
              case rel => exact ⟨k + 1, Q ++ [(some (92 : UInt8))], by go_num, by omega, by simp; omega, by rw [Hid, List.append_assoc]; exact HE.out, O1, B1⟩
              case measure => simp [intOf]; omega
          · have c1' : ((s[k].toNat : Int) == 92) = false := beq_eq_false_iff_ne.2 c1
            clear h92 c1
            go_wp2_with (at_builtin; refine wpList_append_own _ rfl _ _ 62 rfl w.heap.size 65 i0 _ 2 2 Tryd.underlying62 hi hz0 hz1 hz2 rfl (by decide) _ Q.length (signCells Q) rfl (hown.out.alloc _) ⟨_, 0, none⟩ 1 1 [.int .u8 (signByte (some s[k])), .bool (some s[k]).isNone] rfl rfl (cells_new _ _ _) (two_cells _ _) (by unfold maxLen; omega) (by omega) ?c5 ?_)
            case c5 => have := hb.out.size; simp; omega
            intro v1 w1 hown1 hgrow1 _
            have B1 := Lib.hid (below_append hb.out (Nat.le_refl _) hown.out _ hgrow1)
            have O1 := Lib.hid (own_sign (x := (some s[k])) hown1)
            clear hown hb hown1 hgrow1
            go_wp2
            go_roundw
            case rel => exact ⟨k + 1, Q ++ [(some s[k])], by go_num, by omega, by simp; omega, by rw [Hid, List.append_assoc]; exact HE.out, O1, B1⟩
            case measure => simp [intOf]; omega
    · have HE := Lib.hid (show signs s.data.toList = Q by rw [hE.out, signs_end (by rw [HS.out]; omega), List.append_nil])
      obtain ⟨A, c, hv, -⟩ := signs_of_own hown.out
      subst hv
      have HV := Lib.hid hown.out
      clear hE hown
      go_wp2
      go_ret
      exact ⟨A, c, by rw [HE.out]; rfl, by rw [HE.out]; exact HV.out, hb.out⟩

theorem textFault_zero {s : ByteArray} (h : textFault s = 0) : s.size ≤ 60 := by
  by_cases h1 : 60 < s.size
  · unfold textFault at h; rw [if_pos h1] at h; cases h
  · omega
theorem own_signs {w : World} {B n c : Nat} {A : Option Addr} {P : List (Option UInt8)} (h : w.ownsRow B 65 2 (.slice A n c) P.length (signCells P)) : n = P.length ∧ SignsAt w A P := by
  obtain ⟨A', c', e, q⟩ := signs_of_own h
  injection e with e1 e2 e3
  subst e1 e2 e3
  exact ⟨rfl, q⟩
theorem like_read (s : ByteArray) (w : World) (hs : s.size ≤ 60) :
    Calls Tryd.prog 31 #[.string s] w fun e w' => ∃ A c, e = .returned (.slice A (signs s.data.toList).length c) ∧ SignsAt w' A (signs s.data.toList) ∧ Below w.heap.size w w' :=
  (like_readO s w hs).mono fun _ _ ⟨A, c, q1, q2, q3⟩ => ⟨A, c, q1, (own_signs q2).2, q3⟩
/-- What like.Match tells. -/
def likeE (p s : ByteArray) : Int := if textFault p = 0 then textFault s else textFault p
def likeV (p s : ByteArray) : Bool := decide (likeE p s = 0) && fitsS (signs p.data.toList) s.data.toList

set_option maxHeartbeats 1000000 in
theorem like_Match (p s : ByteArray) (w : World) (hp : p.size ≤ maxLen) (hs : s.size ≤ maxLen) :
    Calls Tryd.prog 11 #[.string p, .string s] w fun e w' => e = .returned (.tuple #[.bool (likeV p s), errV (likeE p s)]) ∧ Below w.heap.size w w' := by
  have P1 := Lib.hid (fun w => name_Plain p w hp)
  have P2 := Lib.hid (fun w => name_Plain s w hs)
  by_cases h1 : textFault p = 0
  · have z := textFault_zero h1
    rw [h1] at P1
    have R := Lib.hid (fun w => like_read p w z)
    have hE := Lib.hid (show likeE p s = textFault s by unfold likeE; rw [if_pos h1])
    by_cases h2 : textFault s = 0
    · rw [h2] at P2
      have hV := Lib.hid (show likeV p s = fitsS (signs p.data.toList) s.data.toList by unfold likeV; rw [hE.out, h2]; simp)
      have hE := Lib.hid (hE.out.trans h2)
      clear h1 h2
      go_enter Tryd.func11, Tryd.ntmps11
      go_wp2_with fail
      refine (P1.out _).mono ?_
      rintro e w1 ⟨rfl, hb1⟩
      rw [errV_zero]
      go_wp2_with fail
      refine (P2.out _).mono ?_
      rintro e w2 ⟨rfl, hb2⟩
      rw [errV_zero]
      go_wp2_with fail
      refine (R.out _).mono ?_
      rintro e w3 ⟨A, c, rfl, hsg, hb3⟩
      have hl : (signs p.data.toList).length ≤ maxLen := by
        have := signs_length p.data.toList
        rw [show p.data.toList.length = p.size from Array.length_toList] at this
        unfold maxLen; omega
      have M := Lib.hid (like_match A _ c _ s w3 rfl hl hs hsg)
      clear hsg hl
      go_wp2_with fail
      refine M.out.mono ?_
      rintro e w4 ⟨rfl, hb4⟩
      go_wp2
      go_ret2
      exact ⟨by rw [hV.out, hE.out]; rfl, hb1.trans ((hb2.trans ((hb3.trans (hb4.mono hb3.size)).mono hb2.size)).mono hb1.size)⟩
    · have hV := Lib.hid (show likeV p s = false by unfold likeV; rw [hE.out]; simp [h2])
      rw [errV_ne h2] at P2
      rw [hE.out, errV_ne h2]
      clear h1 h2
      go_enter Tryd.func11, Tryd.ntmps11
      go_wp2_with fail
      refine (P1.out _).mono ?_
      rintro e w1 ⟨rfl, hb1⟩
      rw [errV_zero]
      go_wp2_with fail
      refine (P2.out _).mono ?_
      rintro e w2 ⟨rfl, hb2⟩
      go_wp2
      go_ret2
      exact ⟨by rw [hV.out]; rfl, hb1.trans (hb2.mono hb1.size)⟩
  · have hE := Lib.hid (show likeE p s = textFault p by unfold likeE; rw [if_neg h1])
    have hV := Lib.hid (show likeV p s = false by unfold likeV; rw [hE.out]; simp [h1])
    rw [errV_ne h1] at P1
    rw [hE.out, errV_ne h1]
    clear h1
    go_enter Tryd.func11, Tryd.ntmps11
    go_wp2_with fail
    refine (P1.out _).mono ?_
    rintro e w1 ⟨rfl, hb1⟩
    go_wp2
    go_ret2
    exact ⟨by rw [hV.out]; rfl, hb1⟩
end Go.Proofs.YtfbgaefbalbohaaDoor
