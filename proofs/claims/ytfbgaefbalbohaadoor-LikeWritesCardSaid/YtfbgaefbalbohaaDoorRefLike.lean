/-
  The reference's Escaped and Shortened.
-/
import Derived.Test.YtfbgaefbalbohaaDoorFits
import Derived.Test.YtfbgaefbalbohaaDoorShortLaw
import Derived.Test.YtfbgaefbalbohaaDoorEscLaw
namespace Go.Wk
theorem esc_snoc (l : List UInt8) (b : UInt8) : esc (l ++ [b]) = esc l ++ (if b = 42 then [92, 42] else [b]) := by
  induction l with
  | nil => simp only [List.nil_append, esc]
  | cons c r ih =>
    simp only [List.cons_append, esc, ih]
    split <;> simp
def pieceS : Option UInt8 → List UInt8
  | none => [42]
  | some b => if b = 42 then [92, 42] else [b]
/-- Was the last one a star? -/
def lastS (last : Bool) (P : List (Option UInt8)) : Bool := match P.getLast? with | none => last | some x => x.isNone
theorem lastS_cons (last : Bool) (x : Option UInt8) (P : List (Option UInt8)) : lastS last (x :: P) = lastS x.isNone P := by
  unfold lastS
  cases P with
  | nil => rfl
  | cons y r => rw [List.getLast?_cons_cons]; rw [List.getLast?_eq_some_getLast (by simp : y :: r ≠ [])]
theorem shortS_snoc (x : Option UInt8) : ∀ (P : List (Option UInt8)) (last : Bool), shortS last (P ++ [x]) = shortS last P ++ (if x.isNone && lastS last P then [] else pieceS x) := by
  intro P
  induction P with
  | nil =>
    intro last
    rcases x with _ | b
    · cases last <;> simp [shortS, lastS, pieceS]
    · simp only [List.nil_append, shortS, pieceS, Option.isNone_some, Bool.false_and, Bool.false_eq_true, if_false]
  | cons y r ih =>
    intro last
    rw [lastS_cons]
    rcases y with _ | c
    · cases last
      · simp only [List.cons_append, shortS, Bool.false_eq_true, if_false, ih true, Option.isNone_none]
      · simp only [List.cons_append, shortS, if_true, ih true, Option.isNone_none]
    · simp only [List.cons_append, shortS, ih false, Option.isNone_some]
      split <;> simp
end Go.Wk
namespace Go.Proofs.YtfbgaefbalbohaaDoor
open Go.RowKit Go.Wk Go.Sort
set_option maxRecDepth 100000

theorem extract_list (s : ByteArray) (i j : Nat) : (s.extract i j).data.toList = (s.data.toList.drop i).take (j - i) := by
  rw [ByteArray.data_extract, Array.toList_extract]
theorem extract_one (s : ByteArray) (k : Nat) (h : k < s.size) : (s.extract k (k + 1)).data.toList = [s[k]] := by
  have h' : k < s.data.toList.length := by simpa using h
  rw [extract_list s k (k + 1), List.drop_eq_getElem_cons h', show k + 1 - k = 1 by omega, List.take_succ_cons, List.take_zero]
  rfl
theorem app_list (a b : ByteArray) : (a ++ b).data.toList = a.data.toList ++ b.data.toList := by simp
theorem app_size (a b : ByteArray) : (a ++ b).size = a.size + b.size := by simp

set_option maxHeartbeats 1000000 in
theorem ref_Escaped (s : ByteArray) (w : World) (hs : s.size ≤ 60) :
    Calls Tryd.prog 27 #[.string s] w fun e w' => e = .returned (.string ⟨(esc s.data.toList).toArray⟩) ∧ w = w' := by
  have HS := Lib.hid (show s.data.toList.length = s.size from Array.length_toList)
  go_enter Tryd.func27, Tryd.ntmps27
  go_wp2
  go_loop [3, 4] (fun o i => ∃ (k : Nat) (v : ByteArray), k ≤ s.size ∧ i = .int .i64 k ∧ o = .string v ∧ v.size ≤ 2 * k ∧ Hid (v.data.toList = esc (s.data.toList.take k))) (fun _ i => s.size - (intOf i).toNat)
  case atStart => exact ⟨0, ⟨#[]⟩, Nat.zero_le _, rfl, rfl, by decide, Lib.hid (by simp only [List.take_zero, esc])⟩
  case round =>
    obtain ⟨k, v, hk, rfl, rfl, hv, hE⟩ := hrel
    by_cases hlt : k < s.size
    · have hlt' : k < s.data.toList.length := by rw [HS.out]; exact hlt
      have HE := Lib.hid (show esc (s.data.toList.take (k + 1)) = v.data.toList ++ (if s[k] = 42 then [92, 42] else [s[k]]) by
        rw [← List.take_append_getElem hlt', esc_snoc, hE.out]; rfl)
      have HX := Lib.hid (extract_one s k hlt)
      have hx : (s.extract k (k + 1)).size = 1 := by rw [ByteArray.size_extract]; omega
      clear hE
      by_cases h42 : (s[k].toNat : Int) = 42
      · have h42' : s[k] = 42 := byte_eq hlt (b := 42) h42
        have c : ((s[k].toNat : Int) == 42) = true := by rw [beq_iff_eq]; exact h42
        have HE2 := Lib.hid (show (v ++ ⟨#[92]⟩ ++ s.extract k (k + 1)).data.toList = esc (s.data.toList.take (k + 1)) by
          rw [HE.out, if_pos h42', app_list, app_list, HX.out, h42']; simp)
        have hsz : (v ++ ⟨#[92]⟩ ++ s.extract k (k + 1)).size ≤ 2 * (k + 1) := by rw [app_size, app_size, hx]; show v.size + 1 + 1 ≤ _; omega
        clear h42 h42' HE HX
        go_wp2
        go_round
        case rel => exact ⟨k + 1, _, by omega, by go_num, rfl, hsz, HE2⟩
        case measure => simp [intOf]; omega
      · have h42' : s[k] ≠ 42 := fun q => h42 (byte_of hlt (b := 42) q)
        have c : ((s[k].toNat : Int) == 42) = false := beq_eq_false_iff_ne.2 h42
        have HE2 := Lib.hid (show (v ++ s.extract k (k + 1)).data.toList = esc (s.data.toList.take (k + 1)) by
          rw [HE.out, if_neg h42', app_list, HX.out])
        have hsz : (v ++ s.extract k (k + 1)).size ≤ 2 * (k + 1) := by rw [app_size, hx]; omega
        clear h42 h42' HE HX
        go_wp2
        go_round
        case rel => exact ⟨k + 1, _, by omega, by go_num, rfl, hsz, HE2⟩
        case measure => simp [intOf]; omega
    · have HE := Lib.hid (show v = ⟨(esc s.data.toList).toArray⟩ from bytes_ext (by
        rw [hE.out, List.take_of_length_le (by rw [HS.out]; omega)]))
      clear hE
      go_wp2
      go_ret
      exact ⟨by rw [← HE.out]; rfl, rfl⟩

theorem add_pos (a : Addr) {k : Nat} (h : 0 < k) : a.add k = ⟨a.block, a.off + k, none⟩ := by unfold Addr.add; rw [if_neg (by omega)]
theorem piece_at {l : List UInt8} {e : Nat} (h : e < l.length) : (l.drop e).take (wid l e - e) = pieceS (signAt l e) ∧ e < wid l e ∧ wid l e ≤ l.length := by
  have g : l.getD e 0 = l[e] := by simp [h]
  unfold wid signAt
  rw [g]
  by_cases h1 : l[e] = 42
  · rw [if_pos h1]
    simp only [reduceCtorEq, false_and, if_false, pieceS]
    refine ⟨?_, by omega, by omega⟩
    rw [List.drop_eq_getElem_cons h, h1]; simp
  · rw [if_neg h1]
    by_cases h2 : l[e] = 92 ∧ e + 1 < l.length ∧ l.getD (e + 1) 0 = 42
    · rw [if_pos h2, if_pos ⟨rfl, h2.1⟩]
      obtain ⟨q1, q2, q3⟩ := h2
      refine ⟨?_, by omega, by omega⟩
      have g2 : l[e + 1] = 42 := by simpa [q2] using q3
      rw [List.drop_eq_getElem_cons h, List.drop_eq_getElem_cons q2, q1, g2, show e + 2 - e = 2 by omega]
      simp [pieceS]
    · rw [if_neg h2, if_neg (fun q => by have := q.1; simp at this; exact h1 this)]
      refine ⟨?_, by omega, by omega⟩
      rw [List.drop_eq_getElem_cons h, show e + 1 - e = 1 by omega, List.take_succ_cons, List.take_zero]
      simp only [pieceS, if_neg h1]

set_option maxHeartbeats 4000000 in
theorem ref_Shortened (s : ByteArray) (w : World) (hs : s.size ≤ 60) :
    Calls Tryd.prog 29 #[.string s] w fun e w' => e = .returned (.string ⟨(shortS false (signs s.data.toList)).toArray⟩) ∧ Below w.heap.size w w' := by
  have HS := Lib.hid (show s.data.toList.length = s.size from Array.length_toList)
  have R := Lib.hid (ref_startsN s w hs)
  go_enter Tryd.func29, Tryd.ntmps29
  go_wp2_with fail
  refine (R.out).mono ?_
  rintro e w1 ⟨A, c, E, rfl, hP, hI, b1⟩
  have HP := Lib.hid hP
  have HI := Lib.hid hI
  have HL := Lib.hid hP.1.1
  have HB := Lib.hid b1
  have hE60 : E.length ≤ 60 := by
    have := signs_length s.data.toList
    have := hP.1.1
    have := HS.out
    omega
  clear hP hI b1 R
  generalize hQ : signs s.data.toList = Q at *
  have HQ := Lib.hid hQ
  clear hQ
  go_wp2
  go_loop [3, 5, 6] (fun o i _ => ∃ (k : Nat) (v : ByteArray), k ≤ E.length ∧ i = .int .i64 k ∧ o = .string v ∧ v.size ≤ 60 * k ∧ Hid (v.data.toList = shortS false (Q.take k))) (fun _ i _ => E.length - (intOf i).toNat)
  case atStart => exact ⟨0, ⟨#[]⟩, Nat.zero_le _, rfl, rfl, by decide, Lib.hid (by simp only [List.take_zero, shortS])⟩
  case round =>
    obtain ⟨k, v, hk, rfl, rfl, hv, hE⟩ := hrel
    by_cases hlt : k < E.length
    · have hq : k < Q.length := by rw [← HL.out]; exact hlt
      obtain ⟨hel, hsx⟩ := HP.out.1.2 k E[k] Q[k] (List.getElem?_eq_getElem hlt) (List.getElem?_eq_getElem hq)
      obtain ⟨p1, p2, p3⟩ := piece_at hel
      have hnx := HP.out.2 k hlt
      rw [HS.out] at hel p3
      obtain ⟨a, ha, c0⟩ := HI.out k E[k] (List.getElem?_eq_getElem hlt)
      subst ha
      have HE := Lib.hid (show shortS false (Q.take (k + 1)) = v.data.toList ++ (if Q[k].isNone && lastS false (Q.take k) then [] else pieceS Q[k]) by
        rw [← List.take_append_getElem hq, shortS_snoc, hE.out])
      have HXX := Lib.hid (show (s.extract E[k] (wid s.data.toList E[k])).data.toList = pieceS Q[k] by
        rw [extract_list _ _ _, p1, hsx])
      have hxs : (s.extract E[k] (wid s.data.toList E[k])).size ≤ 60 := by rw [ByteArray.size_extract]; omega
      have c42 : ((s[E[k]].toNat : Int) == 42) = Q[k].isNone := by
        rw [← hsx, Bool.eq_iff_iff, beq_iff_eq, ← signAt_none hel, Option.isNone_iff_eq_none]
      have HEND := Lib.hid (show (k + 1 < E.length → ∃ h : k + 1 < E.length, E[k + 1] = wid s.data.toList E[k]) ∧ (¬ k + 1 < E.length → s.size = wid s.data.toList E[k]) by
        constructor
        · intro h
          rw [List.getElem?_append_left h, List.getElem?_eq_getElem h] at hnx
          exact ⟨h, by injection hnx⟩
        · intro h
          rw [List.getElem?_append_right (by omega)] at hnx
          have e : k + 1 - E.length = 0 := by omega
          rw [e] at hnx
          simpa using hnx)
      have HPREV := Lib.hid (show 0 < k → ∃ (h : k - 1 < E.length) (hh : E[k - 1] < s.size), ((s[E[k - 1]].toNat : Int) == 42) = lastS false (Q.take k) by
        intro h0
        have hlt' : k - 1 < E.length := by omega
        have hq' : k - 1 < Q.length := by omega
        obtain ⟨hel', hsx'⟩ := HP.out.1.2 (k - 1) E[k - 1] Q[k - 1] (List.getElem?_eq_getElem hlt') (List.getElem?_eq_getElem hq')
        rw [HS.out] at hel'
        refine ⟨hlt', hel', ?_⟩
        have e : Q.take k = Q.take (k - 1) ++ [Q[k - 1]] := by rw [List.take_append_getElem hq']; congr 1; omega
        unfold lastS
        rw [e, List.getLast?_concat, ← hsx', Bool.eq_iff_iff, beq_iff_eq, ← signAt_none hel', Option.isNone_iff_eq_none])
      have HFIRST := Lib.hid (show k = 0 → lastS false (Q.take k) = false by intro h; subst h; rfl)
      by_cases h1 : k + 1 < E.length
      · obtain ⟨_, e1⟩ := HEND.out.1 h1
        obtain ⟨a', ha', c1⟩ := HI.out (k + 1) E[k + 1] (List.getElem?_eq_getElem h1)
        injection ha' with ha'
        subst ha'
        rw [e1, add_pos a (show 0 < k + 1 by omega)] at c1
        generalize wid s.data.toList E[k] = f at *
        clear HEND hE hnx p1 e1
        have HK := Lib.hid (show (v ++ s.extract E[k] f).data.toList = v.data.toList ++ pieceS Q[k] by rw [app_list, HXX.out])
        have hks : (v ++ s.extract E[k] f).size ≤ 60 * (k + 1) := by rw [app_size]; omega
        clear HXX
        rcases Nat.eq_zero_or_pos k with h0 | h0
        · have HE2 := Lib.hid (show (v ++ s.extract E[k] f).data.toList = shortS false (Q.take (k + 1)) by
            rw [HE.out, HFIRST.out h0, Bool.and_false, if_neg (by simp), HK.out])
          have h0' : ¬ 0 < k := by omega
          clear HE HFIRST HPREV HK h0
          go_wp2
          go_round
          case rel => exact ⟨k + 1, _, by omega, by go_num, rfl, hks, HE2⟩
          case measure => simp [intOf]; omega
        · obtain ⟨hj, hej, c42'⟩ := HPREV.out h0
          have c0' := c0
          rw [add_pos a h0] at c0'
          obtain ⟨a', ha', c2⟩ := HI.out (k - 1) E[k - 1] (List.getElem?_eq_getElem hj)
          injection ha' with ha'
          subst ha'
          generalize lastS false (Q.take k) = bl at *
          rcases hbn : Q[k].isNone with _ | _
          · rw [hbn] at c42 HE
            have HE2 := Lib.hid (show (v ++ s.extract E[k] f).data.toList = shortS false (Q.take (k + 1)) by
              rw [HE.out, Bool.false_and, if_neg (by simp), HK.out])
            clear HE HFIRST HPREV HK hbn
            go_wp2
            go_round
            case rel => exact ⟨k + 1, _, by omega, by go_num, rfl, hks, HE2⟩
            case measure => simp [intOf]; omega
          · rw [hbn] at c42 HE
            cases bl
            · have HE2 := Lib.hid (show (v ++ s.extract E[k] f).data.toList = shortS false (Q.take (k + 1)) by
                rw [HE.out, Bool.and_false, if_neg (by simp), HK.out])
              clear HE HFIRST HPREV HK hbn
              go_wp2
              go_round
              case rel => exact ⟨k + 1, _, by omega, by go_num, rfl, hks, HE2⟩
              case measure => simp [intOf]; omega
            · have HE2 := Lib.hid (show v.data.toList = shortS false (Q.take (k + 1)) by
                rw [HE.out, Bool.and_true, if_pos rfl, List.append_nil])
              clear HE HFIRST HPREV HK hbn
              go_wp2
              go_round
              case rel => exact ⟨k + 1, v, by omega, by go_num, rfl, by omega, HE2⟩
              case measure => simp [intOf]; omega
      · have e1 := HEND.out.2 h1
        rw [← e1] at HXX hxs p2
        clear HEND hE hnx p1 p3 e1
        have HK := Lib.hid (show (v ++ s.extract E[k] s.size).data.toList = v.data.toList ++ pieceS Q[k] by rw [app_list, HXX.out])
        have hks : (v ++ s.extract E[k] s.size).size ≤ 60 * (k + 1) := by rw [app_size]; omega
        clear HXX
        rcases Nat.eq_zero_or_pos k with h0 | h0
        · have HE2 := Lib.hid (show (v ++ s.extract E[k] s.size).data.toList = shortS false (Q.take (k + 1)) by
            rw [HE.out, HFIRST.out h0, Bool.and_false, if_neg (by simp), HK.out])
          have h0' : ¬ 0 < k := by omega
          clear HE HFIRST HPREV HK h0
          go_wp2
          go_round
          case rel => exact ⟨k + 1, _, by omega, by go_num, rfl, hks, HE2⟩
          case measure => simp [intOf]; omega
        · obtain ⟨hj, hej, c42'⟩ := HPREV.out h0
          have c0' := c0
          rw [add_pos a h0] at c0'
          obtain ⟨a', ha', c2⟩ := HI.out (k - 1) E[k - 1] (List.getElem?_eq_getElem hj)
          injection ha' with ha'
          subst ha'
          generalize lastS false (Q.take k) = bl at *
          rcases hbn : Q[k].isNone with _ | _
          · rw [hbn] at c42 HE
            have HE2 := Lib.hid (show (v ++ s.extract E[k] s.size).data.toList = shortS false (Q.take (k + 1)) by
              rw [HE.out, Bool.false_and, if_neg (by simp), HK.out])
            clear HE HFIRST HPREV HK hbn
            go_wp2
            go_round
            case rel => exact ⟨k + 1, _, by omega, by go_num, rfl, hks, HE2⟩
            case measure => simp [intOf]; omega
          · rw [hbn] at c42 HE
            cases bl
            · have HE2 := Lib.hid (show (v ++ s.extract E[k] s.size).data.toList = shortS false (Q.take (k + 1)) by
                rw [HE.out, Bool.and_false, if_neg (by simp), HK.out])
              clear HE HFIRST HPREV HK hbn
              go_wp2
              go_round
              case rel => exact ⟨k + 1, _, by omega, by go_num, rfl, hks, HE2⟩
              case measure => simp [intOf]; omega
            · have HE2 := Lib.hid (show v.data.toList = shortS false (Q.take (k + 1)) by
                rw [HE.out, Bool.and_true, if_pos rfl, List.append_nil])
              clear HE HFIRST HPREV HK hbn
              go_wp2
              go_round
              case rel => exact ⟨k + 1, v, by omega, by go_num, rfl, by omega, HE2⟩
              case measure => simp [intOf]; omega
    · have HE := Lib.hid (show v = ⟨(shortS false Q).toArray⟩ from bytes_ext (by
        rw [hE.out, List.take_of_length_le (by rw [← HL.out]; omega)]))
      clear hE
      go_wp2
      go_ret
      exact ⟨by rw [HQ.out, ← HE.out]; rfl, HB.out⟩
end Go.Proofs.YtfbgaefbalbohaaDoor
