/-
  KindsJoins: the walk of the law.
  From the condition on the one listed variable (errors.errorType) to the walk's fact on its cell; a world that meets it.
  KindsJoins: the frame round the walk: for every input the law returns true, and each argument reads behind the call as it read before. No condition.
-/
import Derived.ChangeSame
import Derived.ChangeVars
import Derived.JoinedOf
import Derived.LaidLaws
import Derived.LaidHandle
import Derived.Stop.Joined
import Derived.SevenTiedAt
import Derived.Test.YtmekockjgldndaaDoorTie
import Derived.Test.YtmekockjgldndaaDoorCards
import Derived.Test.YtmekockjgldndaaDoorQj13
namespace Go.Proofs.YtmekockjgldndaaDoor
open Go.RowKit Go.Wk Go.Sort
set_option maxRecDepth 100000

section
variable (A1 : Option Addr) (n1 c1 : Nat) (P : List Nd) (A2 : Option Addr) (n2 c2 : Nat) (Q : List Nd) (w : World) (hs : Ns w A1 n1 c1 P) (ht : Ns w A2 n2 c2 Q) (hg : Door w)
include hs ht hg
set_option maxHeartbeats 2000000 in
theorem KindsJoins_bad (h : bothF P Q ≠ 0) :
    Calls Tryd.prog 3 #[.slice A1 n1 c1, .slice A2 n2 c2] w fun e w' => e = .returned (.bool true) ∧ Below w.heap.size w w' := by
  have B0 := Lib.hid (Below.refl w.heap.size w)
  have C1 := Lib.hid (fun w' hb => ref_KindFault A1 n1 c1 P w' (hs.keep (w' := w') hb))
  have C2 := Lib.hid (fun w' hb => ref_KindFault A2 n2 c2 Q w' (ht.keep (w' := w') hb))
  have C3 := Lib.hid (fun w' hb => (hs.keep (w' := w') hb).kinds_Below (ht.keep hb))
  have C4 := Lib.hid (fun w' hb => (hs.keep (w' := w') hb).kinds_Join (ht.keep hb))
  have HJE := Lib.hid (show joinE P Q = bothF P Q by unfold joinE; rw [if_neg h])
  have HJV := Lib.hid (show joinV P Q = [] by unfold joinV; rw [HJE.out, if_neg h])
  have HBF := Lib.hid (show belB P Q = false by unfold belB; rw [decide_eq_false h]; rfl)
  have HG := Lib.hid hg
  rw [HBF.out] at C3
  unfold JoinPost at C4
  rw [HJE.out, HJV.out] at C4
  have HE : Hid (∀ n k w', Below w.heap.size w w' → Calls Tryd.prog 7 #[errV n, .int .i64 k] w' fun e w'' => e = .returned (.bool (n == k)) ∧ Below w'.heap.size w' w'') := Lib.hid (fun n k w' hb => same_Error n k w' (HG.out.keep hb))
  have HNN : Hid (∀ A n c w', Ns w' A n c [] → Calls Tryd.prog 10 #[.slice A n c, .slice none 0 0] w' fun e w'' => e = .returned (.bool true) ∧ Below w'.heap.size w' w'') := Lib.hid (fun A n c w' hn => by
    have := hn.same (kns_nil w')
    rwa [cmpNds_cmp.self, decide_eq_true rfl] at this)
  by_cases h1 : kindFault P = 0
  · have hb := bothF_of (Q := Q) h1
    have h2 : kindFault Q ≠ 0 := by rw [← hb]; exact h
    rw [h1] at C1
    rw [hb] at C3 C4
    have f1 : (kindFault Q == 0) = false := beq_eq_false_iff_ne.2 h2
    generalize kindFault Q = r at *
    clear hs ht hg h1 h2 hb h HJE HJV HBF HG
    go_enter Tryd.func3, Tryd.ntmps3
    go_wp2_with fail
    refine (C1.out _ B0.out).mono ?_
    rintro e w1 ⟨rfl, b1⟩
    have B1 := bh B0 b1
    clear b1 B0
    go_wp2_with fail
    refine (C2.out _ B1.out).mono ?_
    rintro e w2 ⟨rfl, b2⟩
    have B2 := bh B1 b2
    clear b2 B1
    go_wp2_with fail
    refine (C3.out _ B2.out).mono ?_
    rintro e w3 ⟨rfl, b3⟩
    have B3 := bh B2 b3
    clear b3 B2
    go_wp2_with fail
    refine (HE.out _ _ _ B3.out).mono ?_
    rintro e w4 ⟨rfl, b4⟩
    have B4 := bh B3 b4
    clear b4 B3
    rw [beq_self_eq_true]
    go_wp2_with fail
    refine (C4.out _ B4.out).mono ?_
    rintro e w5 ⟨A5, n5, c5, rfl, N5, b5⟩
    have B5 := bh B4 b5
    clear b5 B4
    replace N5 := Lib.hid N5
    go_wp2_with fail
    refine (HE.out _ _ _ B5.out).mono ?_
    rintro e w6 ⟨rfl, b6⟩
    have B6 := bh B5 b6
    replace N5 := Lib.hid (N5.out.keep b6)
    clear b6 B5
    rw [beq_self_eq_true]
    go_wp2_with fail
    refine (HNN.out _ _ _ _ N5.out).mono ?_
    rintro e w7 ⟨rfl, b7⟩
    have B7 := bh B6 b7
    clear b7 B6
    go_wp2_with fail
    go_ret
    exact ⟨rfl, B7.out⟩
  · have hb : bothF P Q = kindFault P := by unfold bothF; rw [if_neg h1]
    rw [hb] at C3 C4
    have f1 : (kindFault P == 0) = false := beq_eq_false_iff_ne.2 h1
    generalize kindFault P = r at *
    clear hs ht hg h1 hb h HJE HJV HBF HG C2
    go_enter Tryd.func3, Tryd.ntmps3
    go_wp2_with fail
    refine (C1.out _ B0.out).mono ?_
    rintro e w1 ⟨rfl, b1⟩
    have B1 := bh B0 b1
    clear b1 B0
    go_wp2_with fail
    refine (C3.out _ B1.out).mono ?_
    rintro e w2 ⟨rfl, b2⟩
    have B2 := bh B1 b2
    clear b2 B1
    go_wp2_with fail
    refine (HE.out _ _ _ B2.out).mono ?_
    rintro e w3 ⟨rfl, b3⟩
    have B3 := bh B2 b3
    clear b3 B2
    rw [beq_self_eq_true]
    go_wp2_with fail
    refine (C4.out _ B3.out).mono ?_
    rintro e w4 ⟨A5, n5, c5, rfl, N5, b4⟩
    have B4 := bh B3 b4
    clear b4 B3
    replace N5 := Lib.hid N5
    go_wp2_with fail
    refine (HE.out _ _ _ B4.out).mono ?_
    rintro e w5 ⟨rfl, b5⟩
    have B5 := bh B4 b5
    replace N5 := Lib.hid (N5.out.keep b5)
    clear b5 B4
    rw [beq_self_eq_true]
    go_wp2_with fail
    refine (HNN.out _ _ _ _ N5.out).mono ?_
    rintro e w6 ⟨rfl, b6⟩
    have B6 := bh B5 b6
    clear b6 B5
    go_wp2_with fail
    go_ret
    exact ⟨rfl, B6.out⟩
set_option maxHeartbeats 2000000 in
theorem KindsJoins_ok (h : bothF P Q = 0) :
    Calls Tryd.prog 3 #[.slice A1 n1 c1, .slice A2 n2 c2] w fun e w' => e = .returned (.bool true) ∧ Below w.heap.size w w' := by
  obtain ⟨h1, h2⟩ := both_zero.1 h
  obtain ⟨k1, hk1⟩ := kin_of h1
  obtain ⟨k2, hk2⟩ := kin_of h2
  have l1 := hk1.l
  have l2 := hk2.l
  have B0 := Lib.hid (Below.refl w.heap.size w)
  have C1 := Lib.hid (fun w' hb => ref_KindFault A1 n1 c1 P w' (hs.keep (w' := w') hb))
  have C2 := Lib.hid (fun w' hb => ref_KindFault A2 n2 c2 Q w' (ht.keep (w' := w') hb))
  have C3 := Lib.hid (fun w' hb => (hs.keep (w' := w') hb).kinds_Below (ht.keep hb))
  have C4 := Lib.hid (fun w' hb => (hs.keep (w' := w') hb).kinds_Join (ht.keep hb))
  have hl1 : n1 ≤ 4000 := by rw [hs.len]; omega
  have hl2 : n2 ≤ 4000 := by rw [ht.len]; omega
  have hz : k1.sz + k2.sz ≤ 2000 := by
    have e1 := flat_len k1
    have e2 := flat_len k2
    rw [← hk1.e] at e1
    rw [← hk2.e] at e2
    omega
  have C5 := Lib.hid (fun w' (hb : Below w.heap.size w w') => ref_Below _ k1 k2 (Nat.le_refl _) hk1.v hk2.v A1 A2 n1 c1 n2 c2 w' hl1 hl2 (hk1.e ▸ hs.keep hb) (hk2.e ▸ ht.keep hb))
  have C6 := Lib.hid (fun w' (hb : Below w.heap.size w w') => ref_Join _ k1 k2 (Nat.le_refl _) hz hk1.v hk2.v A1 A2 n1 c1 n2 c2 w' (hk1.e ▸ hs.keep hb) (hk2.e ▸ ht.keep hb))
  have HJE := Lib.hid (hk1.joinE hk2)
  have HJN := Lib.hid (hk1.join hk2)
  have HJV := Lib.hid (show joinV P Q = if joinE P Q = 0 then joinN P Q else [] from rfl)
  have HG := Lib.hid hg
  have HE : Hid (∀ n k w', Below w.heap.size w w' → Calls Tryd.prog 7 #[errV n, .int .i64 k] w' fun e w'' => e = .returned (.bool (n == k)) ∧ Below w'.heap.size w' w'') := Lib.hid (fun n k w' hb => same_Error n k w' (HG.out.keep hb))
  rw [h1] at C1
  rw [h2] at C2
  rw [hk1.bel hk2, h] at C3
  have hjs : (joinK k1 k2).flat.length ≤ 2000 := by rw [flat_len]; have := joinK_sz hk1.v.ok hk2.v.ok; omega
  unfold JoinPost at C4
  unfold JnR at C6
  rw [HJV.out, HJN.out] at C4
  by_cases h200 : 200 < (joinK k1 k2).flat.length
  · have e4 : joinE P Q = 4 := by rw [HJE.out, if_pos h200]
    have HNN : Hid (∀ A n c w', Ns w' A n c [] → Calls Tryd.prog 10 #[.slice A n c, .slice none 0 0] w' fun e w'' => e = .returned (.bool true) ∧ Below w'.heap.size w' w'') := Lib.hid (fun A n c w' hn => by
      have := hn.same (kns_nil w')
      rwa [cmpNds_cmp.self, decide_eq_true rfl] at this)
    rw [e4, if_neg (by decide)] at C4
    have f1 : decide (200 < ((joinK k1 k2).flat.length : Int)) = true := decide_eq_true (by omega)
    generalize belowK k1 k2 = bb at *
    generalize (joinK k1 k2).flat = jf at *
    generalize hjl : jf.length = jl at *
    clear hs ht hg h h1 h2 hk1 hk2 HJE HJN HJV HG l1 l2 hl1 hl2 hz e4 h200
    go_enter Tryd.func3, Tryd.ntmps3
    go_wp2_with fail
    refine (C1.out _ B0.out).mono ?_
    rintro e w1 ⟨rfl, b1⟩
    have B1 := bh B0 b1
    clear b1 B0
    go_wp2_with fail
    refine (C2.out _ B1.out).mono ?_
    rintro e w2 ⟨rfl, b2⟩
    have B2 := bh B1 b2
    clear b2 B1
    go_wp2_with fail
    refine (C5.out _ B2.out).mono ?_
    rintro e w3 ⟨rfl, b3⟩
    have B3 := bh B2 b3
    clear b3 B2
    go_wp2_with fail
    refine (C3.out _ B3.out).mono ?_
    rintro e w4 ⟨rfl, b4⟩
    have B4 := bh B3 b4
    clear b4 B3
    go_wp2_with fail
    refine (HE.out _ _ _ B4.out).mono ?_
    rintro e w5 ⟨rfl, b5⟩
    have B5 := bh B4 b5
    clear b5 B4
    rw [beq_self_eq_true]
    cases bb
    all_goals
      go_wp2_with fail
      refine (C6.out _ B5.out).mono ?_
      rintro e w6 ⟨A6, c6, rfl, N6, b6, -⟩
      have B6 := bh B5 b6
      clear b6 B5
      go_wp2_with fail
      refine (C4.out _ B6.out).mono ?_
      rintro e w7 ⟨A7, n7, c7, rfl, N7, b7⟩
      have B7 := bh B6 b7
      clear b7 B6
      replace N7 := Lib.hid N7
      go_wp2_with fail
      refine (HE.out _ _ _ B7.out).mono ?_
      rintro e w8 ⟨rfl, b8⟩
      have B8 := bh B7 b8
      replace N7 := Lib.hid (N7.out.keep b8)
      clear b8 B7
      rw [beq_self_eq_true]
      go_wp2_with fail
      refine (HNN.out _ _ _ _ N7.out).mono ?_
      rintro e w9 ⟨rfl, b9⟩
      have B9 := bh B8 b9
      clear b9 B8
      go_wp2_with fail
      go_ret
      exact ⟨rfl, B9.out⟩
  · have e4 : joinE P Q = 0 := by rw [HJE.out, if_neg h200]
    rw [e4, if_pos rfl] at C4
    have f1 : decide (200 < ((joinK k1 k2).flat.length : Int)) = false := decide_eq_false (by omega)
    generalize belowK k1 k2 = bb at *
    generalize (joinK k1 k2).flat = jf at *
    generalize hjl : jf.length = jl at *
    have HNN : Hid (∀ A n c B m d w', Ns w' A n c jf → Ns w' B m d jf → Calls Tryd.prog 10 #[.slice A n c, .slice B m d] w' fun e w'' => e = .returned (.bool true) ∧ Below w'.heap.size w' w'') := Lib.hid (fun A n c B m d w' hn hn2 => by
      have := hn.same hn2
      rwa [cmpNds_cmp.self, decide_eq_true rfl] at this)
    clear hs ht hg h h1 h2 hk1 hk2 HJE HJN HJV HG l1 l2 hl1 hl2 hz e4 h200
    go_enter Tryd.func3, Tryd.ntmps3
    go_wp2_with fail
    refine (C1.out _ B0.out).mono ?_
    rintro e w1 ⟨rfl, b1⟩
    have B1 := bh B0 b1
    clear b1 B0
    go_wp2_with fail
    refine (C2.out _ B1.out).mono ?_
    rintro e w2 ⟨rfl, b2⟩
    have B2 := bh B1 b2
    clear b2 B1
    go_wp2_with fail
    refine (C5.out _ B2.out).mono ?_
    rintro e w3 ⟨rfl, b3⟩
    have B3 := bh B2 b3
    clear b3 B2
    go_wp2_with fail
    refine (C3.out _ B3.out).mono ?_
    rintro e w4 ⟨rfl, b4⟩
    have B4 := bh B3 b4
    clear b4 B3
    go_wp2_with fail
    refine (HE.out _ _ _ B4.out).mono ?_
    rintro e w5 ⟨rfl, b5⟩
    have B5 := bh B4 b5
    clear b5 B4
    rw [beq_self_eq_true]
    cases bb
    all_goals
      go_wp2_with fail
      refine (C6.out _ B5.out).mono ?_
      rintro e w6 ⟨A6, c6, rfl, N6, b6, -⟩
      have B6 := bh B5 b6
      clear b6 B5
      replace N6 := Lib.hid N6
      go_wp2_with fail
      refine (C4.out _ B6.out).mono ?_
      rintro e w7 ⟨A7, n7, c7, rfl, N7, b7⟩
      have B7 := bh B6 b7
      replace N6 := Lib.hid (N6.out.keep b7)
      clear b7 B6
      replace N7 := Lib.hid N7
      go_wp2_with fail
      refine (HE.out _ _ _ B7.out).mono ?_
      rintro e w8 ⟨rfl, b8⟩
      have B8 := bh B7 b8
      replace N6 := Lib.hid (N6.out.keep b8)
      replace N7 := Lib.hid (N7.out.keep b8)
      clear b8 B7
      rw [beq_self_eq_true]
      go_wp2_with fail
      refine (HNN.out _ _ _ _ _ _ _ N7.out N6.out).mono ?_
      rintro e w9 ⟨rfl, b9⟩
      have B9 := bh B8 b9
      clear b9 B8
      go_wp2_with fail
      go_ret
      exact ⟨rfl, B9.out⟩
end
theorem KindsJoins_walk (A1 : Option Addr) (n1 c1 : Nat) (P : List Nd) (A2 : Option Addr) (n2 c2 : Nat) (Q : List Nd) (w : World) (hs : Ns w A1 n1 c1 P) (ht : Ns w A2 n2 c2 Q) (hg : Door w) :
    Calls Tryd.prog 3 #[.slice A1 n1 c1, .slice A2 n2 c2] w fun e w' => e = .returned (.bool true) ∧ Below w.heap.size w w' := by
  by_cases h : bothF P Q = 0
  · exact KindsJoins_ok A1 n1 c1 P A2 n2 c2 Q w hs ht hg h
  · exact KindsJoins_bad A1 n1 c1 P A2 n2 c2 Q w hs ht hg h
end Go.Proofs.YtmekockjgldndaaDoor
namespace Go.Proofs.YtmekockjgldndaaDoor
open Go.ChangeShapes Go.WideShapes Go.RowKit

def laidOne : DataW Unit := Rows.laid_errors_errorType
def rtName : String := match laidOne with | .iface n _ => n | _ => ""
theorem rt_found : (Tryd.prog.cutTypes.find? (·.1 == rtName)).map (·.2) = some 97 := by kernel_rfl
theorem et_found : Tryd.prog.globalNamed "errors.errorType" = some 0 := by kernel_rfl
theorem oneRow : ((List.range 159).filter fun t => Tryd.prog.rowNamed t [101, 114, 114, 111, 114]) = [27] := by kernel_rfl
theorem typesSize : Tryd.prog.types.size = 159 := by kernel_rfl

def laidList : List (String × DataW Unit) := [("errors.errorType", laidOne)]
theorem handle_of_laid {W : World} (h : laidMetH Tryd.prog laidList W) : Door W := by
  have h' : laidMet Tryd.prog [] W ∧ handlesMet Tryd.prog laidList W := h
  obtain ⟨name, u, ty, e1, e2, e3, e4, e5⟩ := h'.2 _ (List.mem_singleton.2 rfl)
  have en : name = [101, 114, 114, 111, 114] := (Option.some.inj e1).symm
  subst en
  obtain rfl := Option.some.inj (rt_found.symm.trans e2)
  have hm : ty ∈ (List.range 159).filter fun t => Tryd.prog.rowNamed t [101, 114, 114, 111, 114] := List.mem_filter.2 ⟨List.mem_range.2 (by rw [← typesSize]; exact e3), e4⟩
  rw [oneRow] at hm
  obtain rfl := List.mem_singleton.1 hm
  have hh : typeHandle Tryd.prog 27 = .pointer (some ⟨2, 27, none⟩) := by kernel_rfl
  rw [hh] at e5
  have := World.var?_cell et_found e5 0
  exact this

noncomputable def laidWorld (os : Os) : World :=
  let w0 := World.holding Tryd.prog os ⟨#[], #[], []⟩
  { w0 with heap := w0.heap.modify 0 fun
      | .cells _ t frozen => .cells #[.iface 97 (.agg #[.pointer (some ⟨2, 27, none⟩)])] t frozen
      | o => o }
theorem laidWorld_met (os : Os) (args : Array Value) : laidMetH Tryd.prog laidList ((laidWorld os).forCall (fun _ _ => 0) ⟨#[], args, []⟩).memory :=
  laidMetH_of_parts (laidMet_nil _ _) (by kernel_rfl)
end Go.Proofs.YtmekockjgldndaaDoor
namespace Go.Proofs.YtmekockjgldndaaDoor
open Go Go.ChangeShapes Go.WideShapes Go.ChangeAt Go.RowKit Go.Wk
open Go.ChangeMaps (open_string)

set_option maxRecDepth 100000 in
theorem KindsJoins_lifted (os : Os) (started : os.Started) (H : Type) (enc : TypeId × Value → H) :
    ReturnsInHanded {} Tryd.checked os 3 .any (fun w args => (Rows.kindsJoinsSpec.pre enc Tryd.prog Tryd.f3 [] false w args ∧ laidMetH Tryd.prog laidList w) ∧ sizedMet enc Tryd.prog Tryd.f3 (OpenSpec.ofChange Rows.kindsJoinsSpec) false w args) (Rows.kindsJoinsSpec.post enc Tryd.prog Tryd.f3 false true false false) := by
  refine returnsInHanded_of_change_and (C := Tryd.checked) (X := fun w _ => laidMetH Tryd.prog laidList w) (fun _ _ _ hh h => h.of_heap hh) own started (by kernel_rfl) Tryd.func3
    (ChangeSpec.witness_at (enc := enc) (C := Tryd.checked) (os := os) (X := fun w _ => laidMetH Tryd.prog laidList w) false (laidWorld os) #[.slice none 0 0, .slice none 0 0] 8 rfl (by kernel_rfl) (by kernel_rfl) (by kernel_rfl) (by kernel_rfl) (by kernel_rfl) (laidWorld_met os _)) ?_
  intro W base args ds gs before hval0 hW _ _ hL _
  have hg := handle_of_laid hL
  have hval : ∀ (j : Nat) t v, Tryd.f3.params[j]? = some t → args[j]? = some v → Value.okWide Tryd.prog W .any base t v := hval0
  have hW0 := hW
  obtain ⟨p, q, hA0, _, _, _, _⟩ := hW
  have hA : DataW.TrodAll enc Tryd.prog W 0 (fun _ => true) true Tryd.f3.params.toList args.toList ds p := hA0
  rw [Tryd.params3] at hA hval
  clear hA0 hval0
  obtain ⟨v0, vs0, d0, ds0, p0, q0, hargs, rfl, rfl, h0, r0⟩ := trodAll_cons hA
  obtain ⟨v1, vs1, d1, ds1, p1, q1, rfl, rfl, rfl, h1, r1⟩ := trodAll_cons r0
  obtain ⟨rfl, rfl, rfl⟩ := trodAll_nil r1
  obtain ⟨args⟩ := args
  simp only at hargs
  subst hargs
  obtain ⟨A0, n0, c0, P0, rfl, sx0⟩ := open_nodes (hval 0 22 v0 rfl rfl) h0
  obtain ⟨A1, n1, c1, P1, rfl, sx1⟩ := open_nodes (hval 1 22 v1 rfl rfl) h1
  refine (KindsJoins_walk A0 n0 c0 P0 A1 n1 c1 P1 W sx0 sx1 hg).mono fun e W' ⟨he, hb'⟩ => ?_
  subst he
  refine ⟨_, rfl, law_post laidOut (by kernel_rfl) (by rfl) Tryd.underlying4 rfl ?_ hW0 hb'⟩
  intro ds hlen
  rw [Tryd.params3] at hlen
  match ds, hlen with
  | [e0, e1], _ => rfl

theorem KindsJoins_over : Rows.kindsJoinsRow.holds Tryd.pinned (OpenSpec.ofChange Rows.kindsJoinsSpec) :=
  OpenClaim.holds_of_wide 3 Tryd.f3 rfl rfl rfl rfl rfl rfl rfl ⟨rfl, rfl, rfl, rfl, rfl⟩ rfl rfl rfl rfl rfl (by kernel_rfl) Tryd.func3 (by kernel_rfl)
    (of_decide_eq_true (by kernel_rfl)) (by unfold Func.isWrapper; rw [if_neg (by decide +kernel)]; exact ⟨rfl, rfl⟩)
    (fun os started H enc _ => KindsJoins_lifted os started H enc)

theorem KindsJoins_holds : Rows.KindsJoinsCardSaid :=
  Claim7.holds_tied_plain_at .later [] [.handle] true Rows.kindsJoinsCard.stood.harness true
    KindsJoins_over (fun _ h => by cases h) (by kernel_rfl) (fun _ h => by cases h) kindsJoins_row_tie rfl ⟨rfl, rfl⟩ (by kernel_rfl) rfl
    (fun f fn hf hfn => by
      obtain rfl : f = 3 := Option.some.inj ((show Tryd.prog.funcNamed Rows.kindsJoinsRow.func = some 3 by kernel_rfl).symm.trans hf) |>.symm
      obtain rfl : fn = Tryd.f3 := (Option.some.inj (Tryd.func3.symm.trans hfn)).symm
      exact ⟨by kernel_rfl, fun j t ht => by
        rw [Tryd.params3] at ht
        have hm := Array.mem_of_getElem? ht
        simp only [List.mem_toArray, List.mem_cons, List.not_mem_nil, or_false] at hm
        rcases hm with rfl | rfl
        all_goals exact (show Tryd.prog.wantsStandIn _ = false by kernel_rfl)⟩)
    (by kernel_rfl)
#print axioms KindsJoins_holds
end Go.Proofs.YtmekockjgldndaaDoor
