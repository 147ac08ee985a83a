/-
  The contracts of like.match, like.read, like.Match.
  What an expression's value is, or what is wrong: by its parts. No program in sight (but for the rows in which a store came in).
  Plain: a store by a schema: what is wrong, entity by entity; each by itself; with a type that is more. No program in sight.
  The contracts of the reference's checks of names and texts.
  The reference's ValueNode and UidFault.
  tree: parts, Reserved, variable, shaped; the reference's Reserved, Parts, Fields: one node of an expression.
-/
import Derived.Test.YtcdpoamiejompaaGreatDoorQe20
namespace Go.Proofs.YtcdpoamiejompaaGreatDoor
open Go.RowKit Go.Wk

/-- The byte that a sign's node bears. -/
def signByte : Option UInt8 → Int
  | none => 0
  | some b => b.toNat
/-- A slice that holds signs. -/
def SignsAt (w : World) (A : Option Addr) (P : List (Option UInt8)) : Prop :=
  ∀ (k : Nat) (x : Option UInt8), P[k]? = some x → ∃ a, A = some a ∧ w.cell? (a.add (k * 2)) = some (.int .u8 (signByte x)) ∧
    w.cell? ⟨(a.add (k * 2)).block, (a.add (k * 2)).off + 1, none⟩ = some (.bool x.isNone)
theorem SignsAt.keep {w w' : World} {A : Option Addr} {P : List (Option UInt8)} (h : SignsAt w A P) (hb : Below w.heap.size w w') : SignsAt w' A P :=
  fun k x hx => let ⟨a, h1, h2, h3⟩ := h k x hx; ⟨a, h1, cell_keep hb h2, cell_keep hb h3⟩

theorem meas {m n a b c d e f g h : Nat} (hm : left m n a b c d < left m n e f g h) {a' b' c' d' e' f' g' h' : Nat} (h1 : a' = a) (h2 : b' = b) (h3 : c' = c) (h4 : d' = d) (h5 : e' = e) (h6 : f' = f) (h7 : g' = g) (h8 : h' = h) :
    left m n a' b' c' d' < left m n e' f' g' h' := by subst h1 h2 h3 h4 h5 h6 h7 h8; exact hm
theorem bel_drew (w : World) (n : Nat) : Below w.heap.size w (w.drewN n) := (Below.refl _ _).drewN n

set_option maxHeartbeats 2000000 in
theorem like_match (A : Option Addr) (n c : Nat) (P : List (Option UInt8)) (s : ByteArray) (w : World) (hn : n = P.length) (hl : n ≤ maxLen) (hs : s.size ≤ maxLen) (hP : SignsAt w A P) :
    Calls Tryz.prog 130 #[.slice A n c, .string s] w fun e w' => e = .returned (.bool (fitsS P s.data.toList)) ∧ Below w.heap.size w w' := by
  unfold maxLen at hl hs
  have HP := Lib.hid hP
  have HN := Lib.hid hn
  have HS := Lib.hid (show s.data.toList.length = s.size from Array.length_toList)
  clear hP hn
  go_enter Tryz.func130, Tryz.ntmps130
  go_wp2
  go_loopw [4, 5, 6, 7, 8] (fun r i j st fr wr => ∃ ki kj ks kf : Nat, r = .bool false ∧ i = .int .i64 ki ∧ j = .int .i64 kj ∧ st = .int .i64 ((ks : Int) - 1) ∧ fr = .int .i64 kf ∧ ki ≤ n ∧ kj ≤ s.size ∧ ks ≤ n ∧ kf ≤ s.size ∧
      Hid (Srch P s.data.toList ki kj ks kf) ∧ Hid (∃ z, wr = w.drewN z)) (fun _ i j st fr _ => left n s.size (intOf i).toNat (intOf j).toNat (intOf st + 1).toNat (intOf fr).toNat)
  case atStart => exact ⟨0, 0, 0, 0, rfl, rfl, rfl, rfl, rfl, by omega, by omega, by omega, by omega, Srch.start _ _, 0, rfl⟩
  case round =>
    obtain ⟨i, j, st, fr, rfl, rfl, rfl, rfl, rfl, hi, hj, hst, hfr, hS, hw⟩ := hrel
    obtain ⟨z, rfl⟩ := hw.out
    clear hw
    by_cases hlt : j < s.size
    · by_cases hip : i < n
      · have hip' : i < P.length := by rw [← HN.out]; exact hip
        obtain ⟨a, rfl, q1, q2⟩ := HP.out i P[i] (List.getElem?_eq_getElem hip')
        rcases hx : P[i] with _ | b
        · have HX := Lib.hid hx
          rw [hx] at q1 q2
          simp only [Option.isNone_none, signByte] at q1 q2
          clear hx
          have HS' := Lib.hid (hS.out.star hip' HX.out)
          have hm := Lib.hid (left_star (m := n) (n := s.size) (i := i) (j := j) (star := st) (frm := fr) hip (by
            by_cases h0 : st = 0
            · omega
            · exact (hS.out.some_ (by omega)).1) (by
            by_cases h0 : st = 0
            · rw [(hS.out.none_ h0).2]; omega
            · exact (hS.out.some_ (by omega)).2.1) hj)
          go_wp2
          exact ⟨⟨i + 1, j, i + 1, j, rfl, by go_num, rfl, by go_num, rfl, by omega, by omega, by omega, by omega, HS', _, rfl⟩, meas hm.out (by simp only [intOf]; omega) (by simp only [intOf]; omega) (by simp only [intOf]; omega) (by simp only [intOf]; omega) (by simp only [intOf]; omega) (by simp only [intOf]; omega) (by simp only [intOf]; omega) (by simp only [intOf]; omega)⟩
        · have HX := Lib.hid hx
          rw [hx] at q1 q2
          simp only [Option.isNone_some, signByte] at q1 q2
          clear hx
          have hjl : j < s.data.toList.length := by rw [HS.out]; exact hlt
          by_cases hb : b = s[j]
          · have HS' := Lib.hid (hS.out.byte hip' hjl (by rw [HX.out, hb]; rfl))
            have hm := Lib.hid (left_byte (m := n) (n := s.size) (i := i) (j := j) (star := st) (frm := fr) hlt)
            rw [hb] at q1
            clear hb
            go_wp2
            go_quiet (fail)
            go_wp2
            exact ⟨⟨i + 1, j + 1, st, fr, rfl, by go_num, by go_num, rfl, rfl, by omega, by omega, by omega, by omega, HS', _, rfl⟩, meas hm.out (by simp only [intOf]; omega) (by simp only [intOf]; omega) (by simp only [intOf]; omega) (by simp only [intOf]; omega) (by simp only [intOf]; omega) (by simp only [intOf]; omega) (by simp only [intOf]; omega) (by simp only [intOf]; omega)⟩
          · have hb2 : ((b.toNat : Int) == (s[j].toNat : Int)) = false := by
              rw [beq_eq_false_iff_ne]
              intro q
              exact hb (UInt8.toNat_inj.1 (by omega))
            have HM := Lib.hid (show Miss P s.data.toList i j from ⟨hjl, .inr ⟨b, s[j], by rw [List.getElem?_eq_getElem hip', HX.out], List.getElem?_eq_getElem hjl, hb⟩⟩)
            clear hb
            by_cases h0 : st = 0
            · have HF := Lib.hid (hS.out.fail h0 HM.out)
              subst h0
              go_wp2
              go_quiet (fail)
              go_wp2
              go_ret
              exact ⟨by rw [HF.out]; rfl, bel_drew _ _⟩
            · have hs1 : 0 < st := by omega
              have HS' := Lib.hid (hS.out.again hs1 HM.out)
              have hf1 := (hS.out.some_ hs1).2.1
              have hm := Lib.hid (left_again (m := n) (n := s.size) (i := i) (j := j) (star := st) (frm := fr) hf1 hlt)
              clear h0
              have hs2 : 0 ≤ (st : Int) - 1 := by omega
              go_wp2
              go_quiet (fail)
              go_wp2
              exact ⟨⟨st, fr + 1, st, fr + 1, rfl, by go_num, by go_num, rfl, by go_num, by omega, by omega, by omega, by omega, HS', _, rfl⟩, meas hm.out (by simp only [intOf]; omega) (by simp only [intOf]; omega) (by simp only [intOf]; omega) (by simp only [intOf]; omega) (by simp only [intOf]; omega) (by simp only [intOf]; omega) (by simp only [intOf]; omega) (by simp only [intOf]; omega)⟩
      · have hjl : j < s.data.toList.length := by rw [HS.out]; exact hlt
        have HM := Lib.hid (show Miss P s.data.toList i j from ⟨hjl, .inl (by rw [← HN.out]; omega)⟩)
        by_cases h0 : st = 0
        · have HF := Lib.hid (hS.out.fail h0 HM.out)
          subst h0
          go_wp2
          go_quiet (fail)
          go_wp2
          go_ret
          exact ⟨by rw [HF.out]; rfl, bel_drew _ _⟩
        · have hs1 : 0 < st := by omega
          have HS' := Lib.hid (hS.out.again hs1 HM.out)
          have hf1 := (hS.out.some_ hs1).2.1
          have hm := Lib.hid (left_again (m := n) (n := s.size) (i := i) (j := j) (star := st) (frm := fr) hf1 hlt)
          clear h0
          have hs2 : 0 ≤ (st : Int) - 1 := by omega
          go_wp2
          go_quiet (fail)
          go_wp2
          exact ⟨⟨st, fr + 1, st, fr + 1, rfl, by go_num, by go_num, rfl, by go_num, by omega, by omega, by omega, by omega, HS', _, rfl⟩, meas hm.out (by simp only [intOf]; omega) (by simp only [intOf]; omega) (by simp only [intOf]; omega) (by simp only [intOf]; omega) (by simp only [intOf]; omega) (by simp only [intOf]; omega) (by simp only [intOf]; omega) (by simp only [intOf]; omega)⟩
    · have HD := Lib.hid (hS.out.done (by rw [HS.out]; omega))
      clear hS
      go_wp2
      go_loop [5] (fun i' => ∃ ki : Nat, i' = .int .i64 ki ∧ ki ≤ n ∧ Hid (fitsS (P.drop i) [] = fitsS (P.drop ki) [])) (fun i' => n - (intOf i').toNat)
      case atStart => exact ⟨i, rfl, hi, rfl⟩
      case round =>
        obtain ⟨ki, rfl, hki, hE⟩ := hrel
        by_cases hip : ki < n
        · have hip' : ki < P.length := by rw [← HN.out]; exact hip
          obtain ⟨a, rfl, q1, q2⟩ := HP.out ki P[ki] (List.getElem?_eq_getElem hip')
          rcases hx : P[ki] with _ | b
          · have HE := Lib.hid (hE.out.trans (fitsS_end_none hip' hx))
            rw [hx] at q2
            simp only [Option.isNone_none] at q2
            clear hx hE q1
            go_wp2
            go_round
            case rel => exact ⟨ki + 1, by go_num, by omega, HE⟩
            case measure => simp [intOf]; omega
          · have HE := Lib.hid (HD.out.trans (hE.out.trans (fitsS_end_some hip' hx)))
            rw [hx] at q2
            simp only [Option.isNone_some] at q2
            clear hx hE q1
            have hne : ((ki : Int) == (n : Int)) = false := by rw [beq_eq_false_iff_ne]; omega
            go_wp2
            go_ret
            exact ⟨by rw [HE.out]; rfl, bel_drew _ _⟩
        · have HE := Lib.hid (HD.out.trans (hE.out.trans (fitsS_end_nil (by rw [← HN.out]; omega))))
          obtain rfl : ki = n := by omega
          clear hE
          go_wp2
          go_ret
          exact ⟨by rw [HE.out]; simp, bel_drew _ _⟩

/-- The cells of a sign. -/
def signCells : List (Option UInt8) → List Value
  | [] => []
  | x :: r => .int .u8 (signByte x) :: .bool x.isNone :: signCells r
theorem signCells_append (P Q : List (Option UInt8)) : signCells (P ++ Q) = signCells P ++ signCells Q := by
  induction P with
  | nil => rfl
  | cons x P ih => simp [signCells, ih]
theorem signCells_at (P : List (Option UInt8)) (k : Nat) (x : Option UInt8) (h : P[k]? = some x) : (signCells P)[k * 2]? = some (.int .u8 (signByte x)) ∧ (signCells P)[k * 2 + 1]? = some (.bool x.isNone) := by
  induction P generalizing k with
  | nil => simp at h
  | cons y P ih =>
    cases k with
    | zero => simp only [List.getElem?_cons_zero, Option.some.injEq] at h; subst h; exact ⟨rfl, rfl⟩
    | succ k =>
      have := ih k (by simpa using h)
      rw [show (k + 1) * 2 = k * 2 + 1 + 1 by omega]
      simp only [signCells, List.getElem?_cons_succ]
      exact this
theorem addr_at (g k : Nat) : (⟨g, 0, none⟩ : Addr).add k = ⟨g, k, none⟩ := by
  unfold Addr.add; split
  · rename_i h0; subst h0; rfl
  · simp
/-- An owned row of signs is a slice that holds them. -/
theorem signs_of_own {w : World} {B : Nat} {v : Value} {P : List (Option UInt8)} (h : w.ownsRow B 242 2 v P.length (signCells P)) : ∃ A c, v = .slice A P.length c ∧ SignsAt w A P := by
  rcases h.2 with ⟨rfl, h0⟩ | ⟨g, cap, cur, rfl, _⟩
  · have : P = [] := List.eq_nil_of_length_eq_zero h0
    subst this
    exact ⟨none, 0, rfl, fun k x hx => by simp at hx⟩
  · refine ⟨some ⟨g, 0, none⟩, cap, rfl, fun k x hx => ?_⟩
    have hk : k < P.length := (List.getElem?_eq_some_iff.1 hx).1
    obtain ⟨e1, e2⟩ := signCells_at P k x hx
    have c1 := h.cells (g := g) rfl _ _ e1
    have c2 := h.cells (g := g) rfl _ _ e2
    refine ⟨_, rfl, c1, ?_⟩
    have e : (⟨((⟨g, 0, none⟩ : Addr).add (k * 2)).block, ((⟨g, 0, none⟩ : Addr).add (k * 2)).off + 1, none⟩ : Addr) = (⟨g, 0, none⟩ : Addr).add (k * 2 + 1) := by
      rw [addr_at, addr_at]
    rw [e]; exact c2
theorem signInfo : (Tryz.prog.info? 242).map (fun i => (i.zero, i.size, i.bytes)) = some (some (.agg #[.int .u8 0, .bool false]), 2, 2) := by kernel_rfl

/-- A sign more. -/
theorem own_sign {w1 : World} {B : Nat} {v' : Value} {P : List (Option UInt8)} {x : Option UInt8} (h : w1.ownsRow B 242 2 v' (P.length + 1) (signCells P ++ [.int .u8 (signByte x), .bool x.isNone])) :
    w1.ownsRow B 242 2 v' (P ++ [x]).length (signCells (P ++ [x])) := by
  rw [signCells_append, List.length_append]
  exact h

theorem like_two (x : Int) (b : Bool) : ∀ u ∈ [Value.int .u8 x, .bool b], u.oneCell' = true := by
  intro u hu
  simp only [List.mem_cons, List.not_mem_nil, or_false] at hu
  rcases hu with rfl | rfl <;> rfl
theorem byte_eq {s : ByteArray} {k : Nat} (h : k < s.size) {b : UInt8} (q : (s[k].toNat : Int) = b.toNat) : s.data.toList[k]'(by simpa using h) = b :=
  UInt8.toNat_inj.1 (show s[k].toNat = b.toNat by omega)
theorem byte_of {s : ByteArray} {k : Nat} (h : k < s.size) {b : UInt8} (q : s.data.toList[k]'(by simpa using h) = b) : (s[k].toNat : Int) = b.toNat := by
  have : s[k] = b := q
  rw [this]

set_option maxRecDepth 100000 in
set_option maxHeartbeats 4000000 in
theorem like_readO (s : ByteArray) (w : World) (hs : s.size ≤ 60) :
    Calls Tryz.prog 131 #[.string s] w fun e w' => ∃ A c, e = .returned (.slice A (signs s.data.toList).length c) ∧ w'.ownsRow w.heap.size 242 2 (.slice A (signs s.data.toList).length c) (signs s.data.toList).length (signCells (signs s.data.toList)) ∧ Below w.heap.size w w' := by
  have HS := Lib.hid (show s.data.toList.length = s.size from Array.length_toList)
  obtain ⟨i0, hi, hz0, hz1, hz2⟩ := info_parts signInfo
  go_enter Tryz.func131, Tryz.ntmps131
  go_wp2
  go_loopw [3, 4] (fun v i wr => ∃ (k : Nat) (Q : List (Option UInt8)), i = .int .i64 k ∧ k ≤ s.size ∧ Q.length ≤ k ∧ Hid (signs s.data.toList = Q ++ signs (s.data.toList.drop k)) ∧ Hid (wr.ownsRow w.heap.size 242 2 v Q.length (signCells Q)) ∧ Hid (Below w.heap.size w wr)) (fun _ i _ => s.size - (intOf i).toNat)
  case atStart => exact ⟨0, [], rfl, Nat.zero_le _, Nat.le_refl _, rfl, ⟨rfl, .inl ⟨rfl, rfl⟩⟩, Below.refl _ _⟩
  case round =>
    obtain ⟨k, Q, rfl, hk, hq, hE, hown, hb⟩ := hrel
    by_cases hlt : k < s.size
    · have hlt' : k < s.data.toList.length := by rw [HS.out]; exact hlt
      by_cases h42 : (s[k].toNat : Int) = 42
      · have HE := Lib.hid (hE.out.trans (congrArg (Q ++ ·) (signs_star hlt' (byte_eq hlt h42))))
        clear hE
        go_wp2_with (at_builtin; refine wpList_append_own _ rfl _ _ 175 rfl w.heap.size 242 i0 _ 2 2 Tryz.underlying175 hi hz0 hz1 hz2 rfl (by decide) _ Q.length (signCells Q) rfl (hown.out.alloc _) ⟨_, 0, none⟩ 1 1 [.int .u8 (signByte (none : Option UInt8)), .bool (none : Option UInt8).isNone] rfl rfl (cells_new _ _ _) (like_two _ _) (by unfold maxLen; omega) (by omega) ?c5 ?_)
        case c5 => have := hb.out.size; simp; omega
        intro v1 w1 hown1 hgrow1 _
        have B1 := Lib.hid (below_append hb.out (Nat.le_refl _) hown.out _ hgrow1)
        have O1 := Lib.hid (own_sign (x := none) hown1)
        clear hown hb hown1 hgrow1
        go_wp2
        go_roundw
        case rel => exact ⟨k + 1, Q ++ [none], by go_num, by omega, by simp; omega, by rw [Hid, List.append_assoc]; exact HE.out, O1, B1⟩
        case measure => simp [intOf]; omega
      · have h42' : ((s[k].toNat : Int) == 42) = false := beq_eq_false_iff_ne.2 h42
        by_cases h92 : (s[k].toNat : Int) = 92 ∧ ∃ h1 : k + 1 < s.size, (s[k + 1].toNat : Int) = 42
        · obtain ⟨h92, h1, hs1⟩ := h92
          have HE := Lib.hid (hE.out.trans (congrArg (Q ++ ·) (signs_two (by rw [HS.out]; exact h1) (byte_eq hlt h92) (byte_eq h1 hs1))))
          clear hE h42
          go_wp2_with (at_builtin; refine wpList_append_own _ rfl _ _ 175 rfl w.heap.size 242 i0 _ 2 2 Tryz.underlying175 hi hz0 hz1 hz2 rfl (by decide) _ Q.length (signCells Q) rfl (hown.out.alloc _) ⟨_, 0, none⟩ 1 1 [.int .u8 (signByte (some (42 : UInt8))), .bool (some (42 : UInt8)).isNone] rfl rfl (cells_new _ _ _) (like_two _ _) (by unfold maxLen; omega) (by omega) ?c5 ?_)
          case c5 => have := hb.out.size; simp; omega
          intro v1 w1 hown1 hgrow1 _
          have B1 := Lib.hid (below_append hb.out (Nat.le_refl _) hown.out _ hgrow1)
          have O1 := Lib.hid (own_sign (x := (some 42)) hown1)
          clear hown hb hown1 hgrow1
          go_wp2
          go_roundw
          case rel => exact ⟨k + 2, Q ++ [(some 42)], by go_num, by omega, by simp; omega, by rw [Hid, List.append_assoc]; exact HE.out, O1, B1⟩
          case measure => simp [intOf]; omega
        · have hx : s.data.toList[k] = s[k] := rfl
          have HE := Lib.hid (hE.out.trans (congrArg (Q ++ ·) (signs_byte hlt' (fun q => h42 (byte_of hlt q)) (fun q => h92 ⟨byte_of hlt q.1, by rw [← HS.out]; exact q.2.1, byte_of _ q.2.2⟩))))
          rw [hx] at HE
          clear hE h42 hx
          by_cases c1 : (s[k].toNat : Int) = 92
          · rw [show s[k] = 92 from byte_eq hlt c1] at HE
            by_cases c2 : k + 1 < s.size
            · have c3 : ((s[k + 1].toNat : Int) == 42) = false := beq_eq_false_iff_ne.2 (fun q => h92 ⟨c1, c2, q⟩)
              clear h92
              go_wp2_with (at_builtin; refine wpList_append_own _ rfl _ _ 175 rfl w.heap.size 242 i0 _ 2 2 Tryz.underlying175 hi hz0 hz1 hz2 rfl (by decide) _ Q.length (signCells Q) rfl (hown.out.alloc _) ⟨_, 0, none⟩ 1 1 [.int .u8 (signByte (some (92 : UInt8))), .bool (some (92 : UInt8)).isNone] rfl rfl (cells_new _ _ _) (like_two _ _) (by unfold maxLen; omega) (by omega) ?c5 ?_)
              case c5 => have := hb.out.size; simp; omega
              intro v1 w1 hown1 hgrow1 _
              have B1 := Lib.hid (below_append hb.out (Nat.le_refl _) hown.out _ hgrow1)
              have O1 := Lib.hid (own_sign (x := (some (92 : UInt8))) hown1)
              clear hown hb hown1 hgrow1
              go_wp2
              go_roundw
              case rel => exact ⟨k + 1, Q ++ [(some (92 : UInt8))], by go_num, by omega, by simp; omega, by rw [Hid, List.append_assoc]; exact HE.out, O1, B1⟩
              case measure => simp [intOf]; omega
            · clear h92
              go_wp2_with (at_builtin; refine wpList_append_own _ rfl _ _ 175 rfl w.heap.size 242 i0 _ 2 2 Tryz.underlying175 hi hz0 hz1 hz2 rfl (by decide) _ Q.length (signCells Q) rfl (hown.out.alloc _) ⟨_, 0, none⟩ 1 1 [.int .u8 (signByte (some (92 : UInt8))), .bool (some (92 : UInt8)).isNone] rfl rfl (cells_new _ _ _) (like_two _ _) (by unfold maxLen; omega) (by omega) ?c5 ?_)
              case c5 => have := hb.out.size; simp; omega
              intro v1 w1 hown1 hgrow1 _
              have B1 := Lib.hid (below_append hb.out (Nat.le_refl _) hown.out _ hgrow1)
              have O1 := Lib.hid (own_sign (x := (some (92 : UInt8))) hown1)
              clear hown hb hown1 hgrow1
              go_wp2
              go_roundw
              case rel => exact ⟨k + 1, Q ++ [(some (92 : UInt8))], by go_num, by omega, by simp; omega, by rw [Hid, List.append_assoc]; exact HE.out, O1, B1⟩
              case measure => simp [intOf]; omega
          · have c1' : ((s[k].toNat : Int) == 92) = false := beq_eq_false_iff_ne.2 c1
            clear h92 c1
            go_wp2_with (at_builtin; refine wpList_append_own _ rfl _ _ 175 rfl w.heap.size 242 i0 _ 2 2 Tryz.underlying175 hi hz0 hz1 hz2 rfl (by decide) _ Q.length (signCells Q) rfl (hown.out.alloc _) ⟨_, 0, none⟩ 1 1 [.int .u8 (signByte (some s[k])), .bool (some s[k]).isNone] rfl rfl (cells_new _ _ _) (like_two _ _) (by unfold maxLen; omega) (by omega) ?c5 ?_)
            case c5 => have := hb.out.size; simp; omega
            intro v1 w1 hown1 hgrow1 _
            have B1 := Lib.hid (below_append hb.out (Nat.le_refl _) hown.out _ hgrow1)
            have O1 := Lib.hid (own_sign (x := (some s[k])) hown1)
            clear hown hb hown1 hgrow1
            go_wp2
            go_roundw
            case rel => exact ⟨k + 1, Q ++ [(some s[k])], by go_num, by omega, by simp; omega, by rw [Hid, List.append_assoc]; exact HE.out, O1, B1⟩
            case measure => simp [intOf]; omega
    · have HE := Lib.hid (show signs s.data.toList = Q by rw [hE.out, signs_end (by rw [HS.out]; omega), List.append_nil])
      obtain ⟨A, c, hv, -⟩ := signs_of_own hown.out
      subst hv
      have HV := Lib.hid hown.out
      clear hE hown
      go_wp2
      go_ret
      exact ⟨A, c, by rw [HE.out]; rfl, by rw [HE.out]; exact HV.out, hb.out⟩

theorem textFault_zero {s : ByteArray} (h : textFault s = 0) : s.size ≤ 60 := by
  by_cases h1 : 60 < s.size
  · unfold textFault at h; rw [if_pos h1] at h; cases h
  · omega
theorem own_signs {w : World} {B n c : Nat} {A : Option Addr} {P : List (Option UInt8)} (h : w.ownsRow B 242 2 (.slice A n c) P.length (signCells P)) : n = P.length ∧ SignsAt w A P := by
  obtain ⟨A', c', e, q⟩ := signs_of_own h
  injection e with e1 e2 e3
  subst e1 e2 e3
  exact ⟨rfl, q⟩
theorem like_read (s : ByteArray) (w : World) (hs : s.size ≤ 60) :
    Calls Tryz.prog 131 #[.string s] w fun e w' => ∃ A c, e = .returned (.slice A (signs s.data.toList).length c) ∧ SignsAt w' A (signs s.data.toList) ∧ Below w.heap.size w w' :=
  (like_readO s w hs).mono fun _ _ ⟨A, c, q1, q2, q3⟩ => ⟨A, c, q1, (own_signs q2).2, q3⟩
/-- What like.Match tells. -/
def likeE (p s : ByteArray) : Int := if textFault p = 0 then textFault s else textFault p
def likeV (p s : ByteArray) : Bool := decide (likeE p s = 0) && fitsS (signs p.data.toList) s.data.toList

set_option maxHeartbeats 1000000 in
theorem like_Match (p s : ByteArray) (w : World) (hp : p.size ≤ maxLen) (hs : s.size ≤ maxLen) :
    Calls Tryz.prog 89 #[.string p, .string s] w fun e w' => e = .returned (.tuple #[.bool (likeV p s), errV (likeE p s)]) ∧ Below w.heap.size w w' := by
  have P1 := Lib.hid (fun w => name_Plain p w hp)
  have P2 := Lib.hid (fun w => name_Plain s w hs)
  by_cases h1 : textFault p = 0
  · have z := textFault_zero h1
    rw [h1] at P1
    have R := Lib.hid (fun w => like_read p w z)
    have hE := Lib.hid (show likeE p s = textFault s by unfold likeE; rw [if_pos h1])
    by_cases h2 : textFault s = 0
    · rw [h2] at P2
      have hV := Lib.hid (show likeV p s = fitsS (signs p.data.toList) s.data.toList by unfold likeV; rw [hE.out, h2]; simp)
      have hE := Lib.hid (hE.out.trans h2)
      clear h1 h2
      go_enter Tryz.func89, Tryz.ntmps89
      go_wp2_with fail
      refine (P1.out _).mono ?_
      rintro e w1 ⟨rfl, hb1⟩
      rw [errV_zero]
      go_wp2_with fail
      refine (P2.out _).mono ?_
      rintro e w2 ⟨rfl, hb2⟩
      rw [errV_zero]
      go_wp2_with fail
      refine (R.out _).mono ?_
      rintro e w3 ⟨A, c, rfl, hsg, hb3⟩
      have hl : (signs p.data.toList).length ≤ maxLen := by
        have := signs_length p.data.toList
        rw [show p.data.toList.length = p.size from Array.length_toList] at this
        unfold maxLen; omega
      have M := Lib.hid (like_match A _ c _ s w3 rfl hl hs hsg)
      clear hsg hl
      go_wp2_with fail
      refine M.out.mono ?_
      rintro e w4 ⟨rfl, hb4⟩
      go_wp2
      go_ret2
      exact ⟨by rw [hV.out, hE.out]; rfl, hb1.trans ((hb2.trans ((hb3.trans (hb4.mono hb3.size)).mono hb2.size)).mono hb1.size)⟩
    · have hV := Lib.hid (show likeV p s = false by unfold likeV; rw [hE.out]; simp [h2])
      rw [errV_ne h2] at P2
      rw [hE.out, errV_ne h2]
      clear h1 h2
      go_enter Tryz.func89, Tryz.ntmps89
      go_wp2_with fail
      refine (P1.out _).mono ?_
      rintro e w1 ⟨rfl, hb1⟩
      rw [errV_zero]
      go_wp2_with fail
      refine (P2.out _).mono ?_
      rintro e w2 ⟨rfl, hb2⟩
      go_wp2
      go_ret2
      exact ⟨by rw [hV.out]; rfl, hb1.trans (hb2.mono hb1.size)⟩
  · have hE := Lib.hid (show likeE p s = textFault p by unfold likeE; rw [if_neg h1])
    have hV := Lib.hid (show likeV p s = false by unfold likeV; rw [hE.out]; simp [h1])
    rw [errV_ne h1] at P1
    rw [hE.out, errV_ne h1]
    clear h1
    go_enter Tryz.func89, Tryz.ntmps89
    go_wp2_with fail
    refine (P1.out _).mono ?_
    rintro e w1 ⟨rfl, hb1⟩
    go_wp2
    go_ret2
    exact ⟨by rw [hV.out]; rfl, hb1⟩
end Go.Proofs.YtcdpoamiejompaaGreatDoor
namespace Go.Proofs.YtcdpoamiejompaaGreatDoor
open Go.RowKit Go.Wk

/-- What an expression is evaluated in: a store, a request. -/
structure Env where
  E : List En
  who : Ud
  act : Ud
  what : Ud
  ctx : List Nd
abbrev Res := Except Int (List Nd)
def hdN (V : List Nd) : Nd := V.headD ⟨0, 0, emp, emp⟩
def truthN (b : Bool) : List Nd := [⟨1, if b then 1 else 0, emp, emp⟩]
def entN (u : Ud) : List Nd := [⟨4, 0, u.1, u.2⟩]
def intN (k : Int) : List Nd := [⟨2, k, emp, emp⟩]
def uidN (V : List Nd) : Ud := ((hdN V).s, (hdN V).t)
def principalT : ByteArray := ⟨#[112, 114, 105, 110, 99, 105, 112, 97, 108]⟩
def actionL : ByteArray := ⟨#[97, 99, 116, 105, 111, 110]⟩
def resourceT : ByteArray := ⟨#[114, 101, 115, 111, 117, 114, 99, 101]⟩
def contextT : ByteArray := ⟨#[99, 111, 110, 116, 101, 120, 116]⟩
def tellB (e : Int) (b : Bool) : Res := if e = 0 then .ok (truthN b) else .error e
def tellV (e : Int) (V : List Nd) : Res := if e = 0 then .ok V else .error e
/-- What a name stands for. -/
def namedX (σ : Env) (s : ByteArray) : Res :=
  if s = principalT then .ok (entN σ.who) else if s = actionL then .ok (entN σ.act) else if s = resourceT then .ok (entN σ.what) else if s = contextT then .ok σ.ctx else .error 3
/-- The record of a value that has names; none: it is an entity that is not there. -/
def recX (E : List En) (V : List Nd) : Except Int (Option (List Nd)) :=
  if headOp V = 6 then .ok (some V) else if headOp V = 4 then .ok ((E.find? fun x => decide (x.u = uidN V)).map En.P) else .error 2
def topsX (B : List Nd) : List (List Nd) := if headOp B = 5 then setParts B else [B]
noncomputable def inX (E : List En) (A B : List Nd) : Res :=
  if headOp A = 4 ∧ (topsX B).all (fun t => decide (headOp t = 4)) then .ok (truthN ((topsX B).any fun t => inB E (uidN A) (uidN t))) else .error 2
/-- A node with one part. -/
def oneX (E : List En) (n : Nd) (V : List Nd) : Res :=
  if n.op = 9 then (if headOp V = 1 then .ok (truthN (decide ((hdN V).n = 0))) else .error 2)
  else if n.op = 10 then (if headOp V = 2 then tellV (numE 18 0 (hdN V).n) (intN (numV 18 0 (hdN V).n)) else .error 2)
  else if n.op = 23 then (if headOp V = 3 then tellB (likeE n.s (hdN V).s) (likeV n.s (hdN V).s) else .error 2)
  else if n.op = 24 then (if headOp V = 4 then .ok (truthN (decide ((hdN V).s = n.s))) else .error 2)
  else match recX E V with
    | .error e => .error e
    | .ok none => if n.op = 21 then .ok (truthN false) else .error 8
    | .ok (some r) => if n.op = 21 then .ok (truthN (decide (getE r n.s = 0))) else tellV (getE r n.s) (getV r n.s)
/-- A node with two. -/
noncomputable def twoX (E : List En) (op : Int) (A B : List Nd) : Res :=
  if op = 14 then .ok (truthN (decide (cmpNds A B = 0)))
  else if op = 20 then inX E A B
  else if op = 25 then tellB (hasE A B) (hasV A B)
  else if op = 26 then tellB (bothE A B) (allV A B)
  else if op = 27 then tellB (bothE A B) (anyV A B)
  else if headOp A = 2 ∧ headOp B = 2 then
    (if op = 15 then .ok (truthN (decide ((hdN A).n < (hdN B).n))) else if op = 16 then .ok (truthN (decide ((hdN A).n ≤ (hdN B).n)))
      else tellV (numE op (hdN A).n (hdN B).n) (intN (numV op (hdN A).n (hdN B).n)))
  else .error 2
noncomputable def applyX (E : List En) (n : Nd) : List (List Nd) → Res
  | [V] => oneX E n V
  | [A, B] => twoX E n.op A B
  | _ => .error 0
mutual
/-- The value of an expression. -/
noncomputable def evX (σ : Env) : Ex → Res
  | .node n ps =>
    if 1 ≤ n.op ∧ n.op ≤ 4 then .ok [n]
    else if n.op = 8 then namedX σ n.s
    else if n.op = 11 ∨ n.op = 12 then evEither σ (decide (n.op = 12)) ps
    else if n.op = 13 then evIf σ ps
    else if n.op = 6 then (match evF σ ps with
      | .error e => .error e
      | .ok L => tellV (recE (L.map Prod.fst) (L.map Prod.snd)) (recV (L.map Prod.fst) (L.map Prod.snd)))
    else match evS σ ps with
      | .error e => .error e
      | .ok L => if n.op = 5 then tellV (setE L) (setV L) else applyX σ.E n L
noncomputable def evEither (σ : Env) (o : Bool) : Exs → Res
  | .nil => .error 0
  | .cons a r => match evX σ a with
    | .error e => .error e
    | .ok V => if headOp V = 1 then (if decide ((hdN V).n = 1) = o then .ok V else evLast σ r) else .error 2
noncomputable def evLast (σ : Env) : Exs → Res
  | .nil => .error 0
  | .cons b _ => match evX σ b with
    | .error e => .error e
    | .ok V => if headOp V = 1 then .ok V else .error 2
noncomputable def evIf (σ : Env) : Exs → Res
  | .nil => .error 0
  | .cons c r => match evX σ c with
    | .error e => .error e
    | .ok V => if headOp V = 1 then (if (hdN V).n = 1 then evFst σ r else evSnd σ r) else .error 2
noncomputable def evFst (σ : Env) : Exs → Res
  | .nil => .error 0
  | .cons a _ => evX σ a
noncomputable def evSnd (σ : Env) : Exs → Res
  | .nil => .error 0
  | .cons _ r => evFst σ r
noncomputable def evS (σ : Env) : Exs → Except Int (List (List Nd))
  | .nil => .ok []
  | .cons x r => match evX σ x with
    | .error e => .error e
    | .ok V => match evS σ r with
      | .error e => .error e
      | .ok L => .ok (V :: L)
noncomputable def evF (σ : Env) : Exs → Except Int (List (ByteArray × List Nd))
  | .nil => .ok []
  | .cons x r => match evFld σ x with
    | .error e => .error e
    | .ok V => match evF σ r with
      | .error e => .error e
      | .ok L => .ok ((x.head.s, V) :: L)
noncomputable def evFld (σ : Env) : Ex → Res
  | .node _ ps => evFst σ ps
end
end Go.Proofs.YtcdpoamiejompaaGreatDoor
namespace Go.Proofs.YtcdpoamiejompaaGreatDoor
open Go.RowKit Go.Wk Go.Maps

theorem storeF_zero {E : List En} : storeF E = 0 ↔ E.length ≤ 16 ∧ entsFault [] E = 0 ∧ ¬ ∃ x ∈ E, Abv (graphE E) x.u x.u := by
  unfold storeF
  constructor
  · intro h
    split at h
    · cases h
    · rename_i h1
      split at h
      · rename_i h2
        split at h
        · cases h
        · rename_i h3; exact ⟨by omega, h2, h3⟩
      · rename_i h2; exact absurd h h2
  · rintro ⟨h1, h2, h3⟩
    rw [if_neg (by omega), if_pos h2, if_neg h3]
theorem entF_zero {x : En} (h : entF x = 0) : valFault x.P = 0 ∧ headOp x.P = 6 := by
  unfold entF at h
  split at h
  · cases h
  · split at h
    · split at h
      · rename_i h1
        split at h
        · rename_i h2; exact ⟨h1, h2⟩
        · cases h
      · rename_i h1; exact absurd h h1
    · rename_i h1; exact absurd h h1
/-- The record of an entity of a store. -/
theorem ent_rec {E M : List En} (h : entsFault M E = 0) {x : En} (hx : x ∈ E) : valFault x.P = 0 ∧ headOp x.P = 6 := entF_zero ((ents_ok E M h).1 x hx).2
end Go.Proofs.YtcdpoamiejompaaGreatDoor
namespace Go.Proofs.YtcdpoamiejompaaGreatDoor
open Go.RowKit Go.Wk

theorem ref_isLetter (n : Int) (w : World) (h0 : 0 ≤ n) (h1 : n ≤ 255) : Calls Tryz.prog 63 #[.int .u8 n] w fun e w' => e = .returned (.bool (isLet n)) ∧ w = w' := by
  go_enter Tryz.func63, Tryz.ntmps63
  go_wp2
  all_goals (go_ret; exact ⟨ret_bool (by unfold isLet; rw [Bool.eq_iff_iff]; simp; omega), rfl⟩)
theorem ref_isDigit (n : Int) (w : World) (h0 : 0 ≤ n) (h1 : n ≤ 255) : Calls Tryz.prog 64 #[.int .u8 n] w fun e w' => e = .returned (.bool (isDig n)) ∧ w = w' := by
  go_enter Tryz.func64, Tryz.ntmps64
  go_wp2
  all_goals (go_ret; exact ⟨ret_bool (by unfold isDig; rw [Bool.eq_iff_iff]; simp; omega), rfl⟩)

set_option maxHeartbeats 1000000 in
theorem ref_NameFault (s : ByteArray) (w : World) (hs : s.size ≤ maxLen) : Calls Tryz.prog 41 #[.string s] w fun e w' => e = .returned (.int .i64 (nameFault s)) ∧ w = w' := by
  unfold maxLen at hs
  go_enter Tryz.func41, Tryz.ntmps41
  go_wp2
  go_loop [2, 3] (fun r i => ∃ k : Nat, k ≤ s.size ∧ i = .int .i64 k ∧ r = .int .i64 0 ∧ Hid (0 < k → nameOk (s.data.toList.take k) = true)) (fun _ i => s.size - (intOf i).toNat)
  case atStart => exact ⟨0, Nat.zero_le _, rfl, rfl, fun h => absurd h (by omega)⟩
  case round =>
    obtain ⟨k, hk, rfl, rfl, hall⟩ := hrel
    by_cases hlt : k < s.size
    · have C1 := Lib.hid (fun w => ref_isLetter (s[k].toNat : Int) w (by omega) (by have := s[k].toNat_lt; omega))
      have C2 := Lib.hid (fun w => ref_isDigit (s[k].toNat : Int) w (by omega) (by have := s[k].toNat_lt; omega))
      by_cases hk0 : k = 0
      · subst hk0
        have G1 := Lib.hid (fun q : isLet (s[0].toNat : Int) = true => (show nameOk (s.data.toList.take 1) = true from nameOk_take_one hlt q))
        have G2 := Lib.hid (fun q : isLet (s[0].toNat : Int) = false => (show nameFault s = 1 by unfold nameFault; rw [nameOk_first hlt q]; rfl))
        clear hall
        rcases hx : isLet (s[0].toNat : Int) with _ | _ <;> rw [hx] at C1 G1 G2 <;> clear hx
        · go_wp2_with (go_at_call 63; refine (C1.out _).mono ?_; rintro e w' ⟨rfl, rfl⟩)
          go_ret
          exact ⟨by rw [G2.out (by simp)]; rfl, rfl⟩
        · go_wp2_with (go_at_call 63; refine (C1.out _).mono ?_; rintro e w' ⟨rfl, rfl⟩)
          go_round
          case rel => exact ⟨1, by omega, by go_num, rfl, fun _ => G1.out (by simp)⟩
          case measure => simp [intOf]; omega
      · have hst : isWrd s[k] = (isLet (s[k].toNat : Int) || isDig (s[k].toNat : Int)) := rfl
        have G1 := Lib.hid (fun q : isWrd s[k] = true => (show nameOk (s.data.toList.take (k + 1)) = true from nameOk_take_succ (by omega) hlt (hall.out (by omega)) q))
        have G2 := Lib.hid (fun q : isWrd s[k] = false => (show nameFault s = 1 by unfold nameFault; rw [nameOk_stop (by omega) hlt q]; rfl))
        rw [hst] at G1 G2
        have hk1 : ((k : Int) == 0) = false := by rw [beq_eq_false_iff_ne]; omega
        clear hst hall hk0
        rcases hx : isLet (s[k].toNat : Int) with _ | _ <;> rcases hy : isDig (s[k].toNat : Int) with _ | _ <;> rw [hx] at C1 G1 G2 <;> rw [hy] at C2 G1 G2 <;> clear hx hy
        all_goals go_wp2_with (first | (go_at_call 63; refine (C1.out _).mono ?_; rintro e w' ⟨rfl, rfl⟩) | (go_at_call 64; refine (C2.out _).mono ?_; rintro e w' ⟨rfl, rfl⟩))
        · go_ret
          exact ⟨by rw [G2.out (by simp)]; rfl, rfl⟩
        all_goals
          go_round
          case rel => exact ⟨k + 1, by omega, by go_num, rfl, fun _ => G1.out rfl⟩
          case measure => simp [intOf]; omega
    · by_cases h0 : s.size = 0
      · have H3 := Lib.hid (show nameFault s = 1 by unfold nameFault; rw [nameOk_empty h0]; rfl)
        have h1 : ((s.size : Int) == 0) = true := by rw [beq_iff_eq]; omega
        clear hall
        go_wp2
        go_ret
        exact ⟨by rw [H3.out]; rfl, rfl⟩
      · have H2 := Lib.hid (show nameOk s.data.toList = true from nameOk_end (by omega) (hall.out (by omega)))
        have h1 : ((s.size : Int) == 0) = false := by rw [beq_eq_false_iff_ne]; omega
        clear hall h0
        by_cases h20 : 20 < s.size
        · have H3 := Lib.hid (show nameFault s = 4 by unfold nameFault; rw [H2.out, if_pos rfl, if_pos h20])
          clear H2
          go_wp2
          go_ret
          exact ⟨by rw [H3.out]; rfl, rfl⟩
        · have H3 := Lib.hid (show nameFault s = 0 by unfold nameFault; rw [H2.out, if_pos rfl, if_neg h20])
          clear H2
          go_wp2
          go_ret
          exact ⟨by rw [H3.out]; rfl, rfl⟩

set_option maxHeartbeats 400000 in
theorem ref_TextFault (s : ByteArray) (w : World) (hs : s.size ≤ maxLen) : Calls Tryz.prog 42 #[.string s] w fun e w' => e = .returned (.int .i64 (textFault s)) ∧ Below w.heap.size w w' := by
  unfold maxLen at hs
  by_cases h60 : 60 < s.size
  · have H := Lib.hid (show textFault s = 4 by unfold textFault; rw [if_pos h60])
    go_enter Tryz.func42, Tryz.ntmps42
    go_wp2
    go_ret
    exact ⟨by rw [H.out]; rfl, Below.refl _ _⟩
  have H := Lib.hid (show textFault s = if s.data.toList.all isPrtB then 0 else 1 by unfold textFault; rw [if_neg (by omega)])
  go_enter Tryz.func42, Tryz.ntmps42
  go_wp2
  go_loopw [2, 3] (fun r i wr => ∃ k : Nat, k ≤ s.size ∧ i = .int .i64 k ∧ r = .int .i64 0 ∧ Hid ((s.data.toList.take k).all isPrtB = true) ∧ Below w.heap.size w wr) (fun _ i _ => s.size - (intOf i).toNat)
  case atStart => exact ⟨0, Nat.zero_le _, rfl, rfl, by simp [Hid], Below.refl _ _⟩
  case round =>
    obtain ⟨k, hk, rfl, rfl, hall, hb⟩ := hrel
    by_cases hlt : k < s.size
    · by_cases hp : 32 ≤ (s[k].toNat : Int) ∧ (s[k].toNat : Int) ≤ 126
      · have H2 := Lib.hid (show (s.data.toList.take (k + 1)).all isPrtB = true by rw [all_succ s isPrtB hlt, hall.out, Bool.true_and]; unfold isPrtB isPrt; simp; omega)
        obtain ⟨hp1, hp2⟩ := hp
        have q1 : decide ((s[k].toNat : Int) < 32) = false := by simp; omega
        clear hall
        go_wp2
        go_roundw
        case rel => exact ⟨k + 1, by omega, by go_num, rfl, H2, hb⟩
        case measure => simp [intOf]; omega
      · have H2 := Lib.hid (show s.data.toList.all isPrtB = false from all_stop hlt (by unfold isPrtB isPrt; rw [Bool.eq_false_iff]; simp; omega))
        clear hall
        by_cases hq : (s[k].toNat : Int) < 32
        · clear hp
          have q1 : decide ((s[k].toNat : Int) < 32) = true := by simp; omega
          go_wp2
          go_ret
          exact ⟨by rw [H.out, H2.out]; rfl, hb⟩
        · have hq2 : 126 < (s[k].toNat : Int) := by omega
          clear hp
          have q1 : decide ((s[k].toNat : Int) < 32) = false := by simp; omega
          go_wp2
          go_ret
          exact ⟨by rw [H.out, H2.out]; rfl, hb⟩
    · have H2 := Lib.hid (show s.data.toList.all isPrtB = true from (all_end (k := k) (by omega)).symm.trans hall.out)
      clear hall
      go_wp2
      go_ret
      exact ⟨by rw [H.out, H2.out]; rfl, hb⟩
end Go.Proofs.YtcdpoamiejompaaGreatDoor
namespace Go.Proofs.YtcdpoamiejompaaGreatDoor
open Go.RowKit Go.Wk Go.Sort
set_option maxRecDepth 100000

theorem ref_UidFault (s t : ByteArray) (w : World) (hs : s.size ≤ maxLen) (ht : t.size ≤ maxLen) :
    Calls Tryz.prog 17 #[.agg #[.string s, .string t]] w fun e w' => e = .returned (.int .i64 (or2 (nameFault s) (textFault t))) ∧ Below w.heap.size w w' := by
  have N := Lib.hid (fun w => ref_NameFault s w hs)
  have T := Lib.hid (fun w => ref_TextFault t w ht)
  by_cases h1 : nameFault s = 0
  · rw [h1] at N
    have H := Lib.hid (show or2 (nameFault s) (textFault t) = textFault t by rw [h1, or2_zero])
    clear h1
    go_enter Tryz.func17, Tryz.ntmps17
    go_wp2_with fail
    refine (N.out _).mono ?_
    rintro e w1 ⟨rfl, rfl⟩
    go_wp2_with fail
    refine (T.out _).mono ?_
    rintro e w2 ⟨rfl, b2⟩
    go_wp2_with fail
    go_ret
    exact ⟨ret_i64 H.out.symm, below_box2 b2⟩
  · have H := Lib.hid (show or2 (nameFault s) (textFault t) = nameFault s from or2_ne h1 _)
    have h2 : (nameFault s == 0) = false := beq_eq_false_iff_ne.2 h1
    clear h1
    go_enter Tryz.func17, Tryz.ntmps17
    go_wp2_with fail
    refine (N.out _).mono ?_
    rintro e w1 ⟨rfl, rfl⟩
    go_wp2_with fail
    go_ret
    exact ⟨ret_i64 H.out.symm, below_box _ _⟩

theorem refNode_bool (n : Int) (s t : ByteArray) (w : World) :
    Calls Tryz.prog 111 #[.agg #[.int .i64 1, .int .i64 n, .string s, .string t]] w fun e w' => e = .returned (.bool ((decide (n = 0) || decide (n = 1)) && noB s && noB t)) ∧ Below w.heap.size w w' := by
  rcases empty_or s with rfl | ⟨s1, s2, s3⟩ <;> rcases empty_or t with rfl | ⟨t1, t2, t3⟩
  · by_cases h0 : 0 ≤ n
    · by_cases h1 : n ≤ 1
      · go_enter Tryz.func111, Tryz.ntmps111
        go_wp2
        go_ret
        exact ⟨ret_bool (by have : n = 0 ∨ n = 1 := by omega
                            rcases this with rfl | rfl <;> rfl), below_box _ _⟩
      · go_enter Tryz.func111, Tryz.ntmps111
        go_wp2
        go_ret
        exact ⟨ret_bool (by rw [decide_eq_false (show ¬ n = 0 by omega), decide_eq_false (show ¬ n = 1 by omega)]; rfl), below_box _ _⟩
    · go_enter Tryz.func111, Tryz.ntmps111
      go_wp2
      go_ret
      exact ⟨ret_bool (by rw [decide_eq_false (show ¬ n = 0 by omega), decide_eq_false (show ¬ n = 1 by omega)]; rfl), below_box _ _⟩
  all_goals
    go_enter Tryz.func111, Tryz.ntmps111
    go_wp2
    go_ret
    exact ⟨ret_bool (by simp [*]), below_box _ _⟩
theorem refNode_num (n : Int) (s t : ByteArray) (w : World) :
    Calls Tryz.prog 111 #[.agg #[.int .i64 2, .int .i64 n, .string s, .string t]] w fun e w' => e = .returned (.bool (noB s && noB t)) ∧ Below w.heap.size w w' := by
  rcases empty_or s with rfl | ⟨s1, s2, s3⟩ <;> rcases empty_or t with rfl | ⟨t1, t2, t3⟩
  all_goals
    go_enter Tryz.func111, Tryz.ntmps111
    go_wp2
    go_ret
    exact ⟨ret_bool (by simp [*, noB_empty]), below_box _ _⟩
theorem refNode_many (o n : Int) (s t : ByteArray) (w : World) (ho : o = 5 ∨ o = 6) :
    Calls Tryz.prog 111 #[.agg #[.int .i64 o, .int .i64 n, .string s, .string t]] w fun e w' => e = .returned (.bool (decide (0 ≤ n) && noB s && noB t)) ∧ Below w.heap.size w w' := by
  by_cases h0 : 0 ≤ n
  · rcases ho with rfl | rfl <;> rcases empty_or s with rfl | ⟨s1, s2, s3⟩ <;> rcases empty_or t with rfl | ⟨t1, t2, t3⟩
    all_goals
      go_enter Tryz.func111, Tryz.ntmps111
      go_wp2
      go_ret
      exact ⟨ret_bool (by simp [*, noB_empty]), below_box _ _⟩
  · rcases ho with rfl | rfl <;> rcases empty_or s with rfl | ⟨s1, s2, s3⟩ <;> rcases empty_or t with rfl | ⟨t1, t2, t3⟩
    all_goals
      go_enter Tryz.func111, Tryz.ntmps111
      go_wp2
      go_ret
      exact ⟨ret_bool (by first | rfl | (rw [decide_eq_false (show ¬ 0 ≤ n by omega)]; rfl)), below_box _ _⟩
theorem refNode_text (n : Int) (s t : ByteArray) (w : World) (hs : s.size ≤ maxLen) :
    Calls Tryz.prog 111 #[.agg #[.int .i64 3, .int .i64 n, .string s, .string t]] w fun e w' => e = .returned (.bool (decide (n = 0) && noB t && decide (textFault s = 0))) ∧ Below w.heap.size w w' := by
  have P := Lib.hid (fun w => ref_TextFault s w hs)
  by_cases h0 : n = 0
  · subst h0
    rcases empty_or s with rfl | ⟨s1, s2, s3⟩ <;> rcases empty_or t with rfl | ⟨t1, t2, t3⟩
    · have e : textFault ⟨#[]⟩ = 0 := by decide
      rw [e] at P
      go_enter Tryz.func111, Tryz.ntmps111
      go_wp2_with fail
      refine (P.out _).mono ?_
      rintro e w1 ⟨rfl, hb⟩
      go_wp2
      go_ret
      exact ⟨ret_bool (by simp [e, noB_empty]), below_box2 hb⟩
    · go_enter Tryz.func111, Tryz.ntmps111
      go_wp2
      go_ret
      exact ⟨ret_bool (by simp [t3]), below_box _ _⟩
    · by_cases h1 : textFault s = 0
      · rw [h1] at P
        go_enter Tryz.func111, Tryz.ntmps111
        go_wp2_with fail
        refine (P.out _).mono ?_
        rintro e w1 ⟨rfl, hb⟩
        go_wp2
        go_ret
        exact ⟨ret_bool (by simp [h1, noB_empty]), below_box2 hb⟩
      · have h2 : (textFault s == 0) = false := beq_eq_false_iff_ne.2 h1
        go_enter Tryz.func111, Tryz.ntmps111
        go_wp2_with fail
        refine (P.out _).mono ?_
        rintro e w1 ⟨rfl, hb⟩
        go_wp2
        go_ret
        exact ⟨ret_bool (by simp [h1]), below_box2 hb⟩
    · go_enter Tryz.func111, Tryz.ntmps111
      go_wp2
      go_ret
      exact ⟨ret_bool (by simp [t3]), below_box _ _⟩
  · have e0 : (n != 0) = true := by rw [bne_iff_ne]; exact h0
    rcases empty_or s with rfl | ⟨s1, s2, s3⟩ <;> rcases empty_or t with rfl | ⟨t1, t2, t3⟩
    all_goals
      go_enter Tryz.func111, Tryz.ntmps111
      go_wp2
      go_ret
      exact ⟨ret_bool (by simp [h0]), below_box _ _⟩
theorem refNode_ent (n : Int) (s t : ByteArray) (w : World) (hs : s.size ≤ maxLen) (ht : t.size ≤ maxLen) :
    Calls Tryz.prog 111 #[.agg #[.int .i64 4, .int .i64 n, .string s, .string t]] w fun e w' => e = .returned (.bool (decide (n = 0) && decide (nameFault s = 0) && decide (textFault t = 0))) ∧ Below w.heap.size w w' := by
  have P := Lib.hid (fun w => ref_UidFault s t w hs ht)
  have H := Lib.hid (show (or2 (nameFault s) (textFault t) == 0) = (decide (nameFault s = 0) && decide (textFault t = 0)) by
    by_cases h : nameFault s = 0
    · rw [h, or2_zero]; simp; rfl
    · rw [or2_ne h, beq_eq_false_iff_ne.2 h]; simp [h])
  by_cases h0 : n = 0
  · subst h0
    rcases empty_or s with rfl | ⟨s1, s2, s3⟩ <;> rcases empty_or t with rfl | ⟨t1, t2, t3⟩
    all_goals
      go_enter Tryz.func111, Tryz.ntmps111
      go_wp2_with fail
      refine (P.out _).mono ?_
      rintro e w1 ⟨rfl, hb⟩
      go_wp2
      go_ret
      exact ⟨ret_bool (by rw [H.out]; simp), below_box2 hb⟩
  · have e0 : (n != 0) = true := by rw [bne_iff_ne]; exact h0
    rcases empty_or s with rfl | ⟨s1, s2, s3⟩ <;> rcases empty_or t with rfl | ⟨t1, t2, t3⟩
    all_goals
      go_enter Tryz.func111, Tryz.ntmps111
      go_wp2
      go_ret
      exact ⟨ret_bool (by simp [h0]), below_box _ _⟩
theorem refNode_field (n : Int) (s t : ByteArray) (w : World) (hs : s.size ≤ maxLen) :
    Calls Tryz.prog 111 #[.agg #[.int .i64 7, .int .i64 n, .string s, .string t]] w fun e w' => e = .returned (.bool (decide (n = 0) && noB t && decide (nameFault s = 0))) ∧ Below w.heap.size w w' := by
  have P := Lib.hid (fun w => ref_NameFault s w hs)
  have H : (nameFault s == 0) = decide (nameFault s = 0) := rfl
  by_cases h0 : n = 0
  · subst h0
    rcases empty_or s with rfl | ⟨s1, s2, s3⟩ <;> rcases empty_or t with rfl | ⟨t1, t2, t3⟩
    · have e : nameFault ⟨#[]⟩ = 1 := by decide
      rw [e] at P
      go_enter Tryz.func111, Tryz.ntmps111
      go_wp2_with fail
      refine (P.out _).mono ?_
      rintro e w1 ⟨rfl, rfl⟩
      go_wp2
      go_ret
      exact ⟨ret_bool (by simp [e]), below_box _ _⟩
    · go_enter Tryz.func111, Tryz.ntmps111
      go_wp2
      go_ret
      exact ⟨ret_bool (by simp [t3]), below_box _ _⟩
    · by_cases h1 : nameFault s = 0
      · rw [h1] at P
        go_enter Tryz.func111, Tryz.ntmps111
        go_wp2_with fail
        refine (P.out _).mono ?_
        rintro e w1 ⟨rfl, rfl⟩
        go_wp2
        go_ret
        exact ⟨ret_bool (by simp [h1, noB_empty]), below_box _ _⟩
      · have h2 : (nameFault s == 0) = false := beq_eq_false_iff_ne.2 h1
        go_enter Tryz.func111, Tryz.ntmps111
        go_wp2_with fail
        refine (P.out _).mono ?_
        rintro e w1 ⟨rfl, rfl⟩
        go_wp2
        go_ret
        exact ⟨ret_bool (by simp [h1]), below_box _ _⟩
    · go_enter Tryz.func111, Tryz.ntmps111
      go_wp2
      go_ret
      exact ⟨ret_bool (by simp [t3]), below_box _ _⟩
  · have e0 : (n != 0) = true := by rw [bne_iff_ne]; exact h0
    rcases empty_or s with rfl | ⟨s1, s2, s3⟩ <;> rcases empty_or t with rfl | ⟨t1, t2, t3⟩
    all_goals
      go_enter Tryz.func111, Tryz.ntmps111
      go_wp2
      go_ret
      exact ⟨ret_bool (by simp [h0]), below_box _ _⟩
theorem refNode_other (o n : Int) (s t : ByteArray) (w : World) (h1 : (o == 1) = false) (h2 : (o == 2) = false) (h3 : (o == 3) = false) (h4 : (o == 4) = false) (h5 : (o == 5) = false) (h6 : (o == 6) = false) (h7 : (o == 7) = false) :
    Calls Tryz.prog 111 #[.agg #[.int .i64 o, .int .i64 n, .string s, .string t]] w fun e w' => e = .returned (.bool false) ∧ Below w.heap.size w w' := by
  by_cases h0 : n = 0
  · subst h0
    rcases empty_or s with rfl | ⟨s1, s2, s3⟩ <;> rcases empty_or t with rfl | ⟨t1, t2, t3⟩
    all_goals
      go_enter Tryz.func111, Tryz.ntmps111
      go_wp2
      go_ret
      exact ⟨rfl, below_box _ _⟩
  · have e0 : (n != 0) = true := by rw [bne_iff_ne]; exact h0
    rcases empty_or s with rfl | ⟨s1, s2, s3⟩ <;> rcases empty_or t with rfl | ⟨t1, t2, t3⟩
    all_goals
      go_enter Tryz.func111, Tryz.ntmps111
      go_wp2
      go_ret
      exact ⟨rfl, below_box _ _⟩
theorem ref_ValueNode (x : Nd) (w : World) (hs : x.s.size ≤ maxLen) (ht : x.t.size ≤ maxLen) :
    Calls Tryz.prog 111 #[ndV x] w fun e w' => e = .returned (.bool (shapedN x)) ∧ Below w.heap.size w w' := by
  obtain ⟨o, n, s, t⟩ := x
  unfold ndV shapedN
  simp only at hs ht ⊢
  by_cases h1 : o = 1
  · subst h1; rw [if_pos rfl]; exact refNode_bool n s t w
  rw [if_neg h1]
  by_cases h2 : o = 2
  · subst h2; rw [if_pos rfl]; exact refNode_num n s t w
  rw [if_neg h2]
  by_cases h3 : o = 3
  · subst h3; rw [if_pos rfl]; exact refNode_text n s t w hs
  rw [if_neg h3]
  by_cases h4 : o = 4
  · subst h4; rw [if_pos rfl]; exact refNode_ent n s t w hs ht
  rw [if_neg h4]
  by_cases h5 : o = 5 ∨ o = 6
  · rw [if_pos h5]; exact refNode_many o n s t w h5
  rw [if_neg h5]
  by_cases h7 : o = 7
  · subst h7; rw [if_pos rfl]; exact refNode_field n s t w hs
  rw [if_neg h7]
  exact refNode_other o n s t w (beq_eq_false_iff_ne.2 h1) (beq_eq_false_iff_ne.2 h2) (beq_eq_false_iff_ne.2 h3) (beq_eq_false_iff_ne.2 h4) (beq_eq_false_iff_ne.2 fun q => h5 (.inl q)) (beq_eq_false_iff_ne.2 fun q => h5 (.inr q)) (beq_eq_false_iff_ne.2 h7)
end Go.Proofs.YtcdpoamiejompaaGreatDoor
namespace Go.Proofs.YtcdpoamiejompaaGreatDoor
open Go.RowKit Go.Wk Go.Sort
set_option maxRecDepth 100000

theorem op_ways (o : Int) : (o = 1 ∨ o = 2 ∨ o = 3 ∨ o = 4 ∨ o = 5 ∨ o = 6 ∨ o = 7 ∨ o = 8 ∨ o = 9 ∨ o = 10 ∨ o = 11 ∨ o = 12 ∨ o = 13 ∨ o = 14 ∨ o = 15 ∨ o = 16 ∨ o = 17 ∨ o = 18 ∨ o = 19 ∨ o = 20 ∨ o = 21 ∨ o = 22 ∨ o = 23 ∨ o = 24 ∨ o = 25 ∨ o = 26 ∨ o = 27) ∨ o ≤ 0 ∨ 28 ≤ o := by omega
theorem op_out {o : Int} (h : o ≤ 0 ∨ 28 ≤ o) : (o == 1) = false ∧ (o == 2) = false ∧ (o == 3) = false ∧ (o == 4) = false ∧ (o == 5) = false ∧ (o == 6) = false ∧ (o == 7) = false ∧ (o == 8) = false ∧ (o == 9) = false ∧ (o == 10) = false ∧ (o == 11) = false ∧ (o == 12) = false ∧ (o == 13) = false ∧ (o == 14) = false ∧ (o == 15) = false ∧ (o == 16) = false ∧ (o == 17) = false ∧ (o == 18) = false ∧ (o == 19) = false ∧ (o == 20) = false ∧ (o == 21) = false ∧ (o == 22) = false ∧ (o == 23) = false ∧ (o == 24) = false ∧ (o == 25) = false ∧ (o == 26) = false ∧ (o == 27) = false := by
  refine ⟨?_, ?_, ?_, ?_, ?_, ?_, ?_, ?_, ?_, ?_, ?_, ?_, ?_, ?_, ?_, ?_, ?_, ?_, ?_, ?_, ?_, ?_, ?_, ?_, ?_, ?_, ?_⟩ <;> (rw [beq_eq_false_iff_ne]; omega)
theorem partsN_out {o : Int} (h : o ≤ 0 ∨ 28 ≤ o) (n : Int) (s t : ByteArray) : partsN ⟨o, n, s, t⟩ = -1 := by
  unfold partsN
  dsimp only
  rw [if_neg (by omega), if_neg (by omega), if_neg (by omega), if_neg (by omega), if_neg (by omega)]
set_option maxHeartbeats 8000000 in
theorem tree_parts (x : Nd) (w : World) : Calls Tryz.prog 80 #[ndV x] w fun e w' => e = .returned (.int .i64 (partsN x)) ∧ Below w.heap.size w w' := by
  obtain ⟨o, n, s, t⟩ := x
  unfold ndV
  dsimp only
  rcases op_ways o with (rfl|rfl|rfl|rfl|rfl|rfl|rfl|rfl|rfl|rfl|rfl|rfl|rfl|rfl|rfl|rfl|rfl|rfl|rfl|rfl|rfl|rfl|rfl|rfl|rfl|rfl|rfl) | h
  all_goals try
    go_enter Tryz.func80, Tryz.ntmps80
    go_wp2_with fail
    go_ret
    exact ⟨by rfl, below_box _ _⟩
  have hp := Lib.hid (partsN_out h n s t)
  obtain ⟨g1, g2, g3, g4, g5, g6, g7, g8, g9, g10, g11, g12, g13, g14, g15, g16, g17, g18, g19, g20, g21, g22, g23, g24, g25, g26, g27⟩ := op_out h
  rcases h with h | h
  all_goals
    go_enter Tryz.func80, Tryz.ntmps80
    go_wp2_with fail
    go_ret
    exact ⟨by rw [hp.out]; rfl, below_box _ _⟩
set_option maxHeartbeats 4000000 in
theorem tree_Reserved (s : ByteArray) (w : World) : Calls Tryz.prog 162 #[.string s] w fun e w' => e = .returned (.bool (reserved s)) ∧ w = w' := by
  by_cases h0 : s.toList = [105, 102]
  · have HR := Lib.hid (show reserved s = true by rw [ByteArray.toList_eq] at h0; unfold reserved; rw [h0]; rfl)
    have f0 : (s.toList == [105, 102]) = true := beq_iff_eq.2 h0
    clear h0
    go_enter Tryz.func162, Tryz.ntmps162
    go_wp2_with fail
    go_ret
    exact ⟨by rw [HR.out]; rfl, rfl⟩
  have f0 : (s.toList == [105, 102]) = false := beq_eq_false_iff_ne.2 h0
  by_cases h1 : s.toList = [116, 104, 101, 110]
  · have HR := Lib.hid (show reserved s = true by rw [ByteArray.toList_eq] at h1; unfold reserved; rw [h1]; rfl)
    have f1 : (s.toList == [116, 104, 101, 110]) = true := beq_iff_eq.2 h1
    clear h1 h0
    go_enter Tryz.func162, Tryz.ntmps162
    go_wp2_with fail
    go_ret
    exact ⟨by rw [HR.out]; rfl, rfl⟩
  have f1 : (s.toList == [116, 104, 101, 110]) = false := beq_eq_false_iff_ne.2 h1
  by_cases h2 : s.toList = [101, 108, 115, 101]
  · have HR := Lib.hid (show reserved s = true by rw [ByteArray.toList_eq] at h2; unfold reserved; rw [h2]; rfl)
    have f2 : (s.toList == [101, 108, 115, 101]) = true := beq_iff_eq.2 h2
    clear h2 h0 h1
    go_enter Tryz.func162, Tryz.ntmps162
    go_wp2_with fail
    go_ret
    exact ⟨by rw [HR.out]; rfl, rfl⟩
  have f2 : (s.toList == [101, 108, 115, 101]) = false := beq_eq_false_iff_ne.2 h2
  by_cases h3 : s.toList = [116, 114, 117, 101]
  · have HR := Lib.hid (show reserved s = true by rw [ByteArray.toList_eq] at h3; unfold reserved; rw [h3]; rfl)
    have f3 : (s.toList == [116, 114, 117, 101]) = true := beq_iff_eq.2 h3
    clear h3 h0 h1 h2
    go_enter Tryz.func162, Tryz.ntmps162
    go_wp2_with fail
    go_ret
    exact ⟨by rw [HR.out]; rfl, rfl⟩
  have f3 : (s.toList == [116, 114, 117, 101]) = false := beq_eq_false_iff_ne.2 h3
  by_cases h4 : s.toList = [102, 97, 108, 115, 101]
  · have HR := Lib.hid (show reserved s = true by rw [ByteArray.toList_eq] at h4; unfold reserved; rw [h4]; rfl)
    have f4 : (s.toList == [102, 97, 108, 115, 101]) = true := beq_iff_eq.2 h4
    clear h4 h0 h1 h2 h3
    go_enter Tryz.func162, Tryz.ntmps162
    go_wp2_with fail
    go_ret
    exact ⟨by rw [HR.out]; rfl, rfl⟩
  have f4 : (s.toList == [102, 97, 108, 115, 101]) = false := beq_eq_false_iff_ne.2 h4
  by_cases h5 : s.toList = [105, 110]
  · have HR := Lib.hid (show reserved s = true by rw [ByteArray.toList_eq] at h5; unfold reserved; rw [h5]; rfl)
    have f5 : (s.toList == [105, 110]) = true := beq_iff_eq.2 h5
    clear h5 h0 h1 h2 h3 h4
    go_enter Tryz.func162, Tryz.ntmps162
    go_wp2_with fail
    go_ret
    exact ⟨by rw [HR.out]; rfl, rfl⟩
  have f5 : (s.toList == [105, 110]) = false := beq_eq_false_iff_ne.2 h5
  by_cases h6 : s.toList = [104, 97, 115]
  · have HR := Lib.hid (show reserved s = true by rw [ByteArray.toList_eq] at h6; unfold reserved; rw [h6]; rfl)
    have f6 : (s.toList == [104, 97, 115]) = true := beq_iff_eq.2 h6
    clear h6 h0 h1 h2 h3 h4 h5
    go_enter Tryz.func162, Tryz.ntmps162
    go_wp2_with fail
    go_ret
    exact ⟨by rw [HR.out]; rfl, rfl⟩
  have f6 : (s.toList == [104, 97, 115]) = false := beq_eq_false_iff_ne.2 h6
  by_cases h7 : s.toList = [108, 105, 107, 101]
  · have HR := Lib.hid (show reserved s = true by rw [ByteArray.toList_eq] at h7; unfold reserved; rw [h7]; rfl)
    have f7 : (s.toList == [108, 105, 107, 101]) = true := beq_iff_eq.2 h7
    clear h7 h0 h1 h2 h3 h4 h5 h6
    go_enter Tryz.func162, Tryz.ntmps162
    go_wp2_with fail
    go_ret
    exact ⟨by rw [HR.out]; rfl, rfl⟩
  have f7 : (s.toList == [108, 105, 107, 101]) = false := beq_eq_false_iff_ne.2 h7
  by_cases h8 : s.toList = [105, 115]
  · have HR := Lib.hid (show reserved s = true by rw [ByteArray.toList_eq] at h8; unfold reserved; rw [h8]; rfl)
    have f8 : (s.toList == [105, 115]) = true := beq_iff_eq.2 h8
    clear h8 h0 h1 h2 h3 h4 h5 h6 h7
    go_enter Tryz.func162, Tryz.ntmps162
    go_wp2_with fail
    go_ret
    exact ⟨by rw [HR.out]; rfl, rfl⟩
  have f8 : (s.toList == [105, 115]) = false := beq_eq_false_iff_ne.2 h8
  have HR := Lib.hid (show reserved s = false by
    rw [ByteArray.toList_eq] at h0 h1 h2 h3 h4 h5 h6 h7 h8
    unfold reserved resW
    simp only [List.contains_cons, List.contains_nil, Bool.or_false, Bool.or_eq_false_iff, beq_eq_false_iff_ne]
    exact ⟨h0, h1, h2, h3, h4, h5, h6, h7, h8⟩)
  clear h0 h1 h2 h3 h4 h5 h6 h7 h8
  go_enter Tryz.func162, Tryz.ntmps162
  go_wp2_with fail
  go_ret
  exact ⟨by rw [HR.out]; rfl, rfl⟩
end Go.Proofs.YtcdpoamiejompaaGreatDoor
