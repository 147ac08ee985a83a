/-
  EvalConstant: the walk of the law. (gen_evcon.py)
  EvalConstant: the closed facts of the frame, one by one.
  EvalConstant: the frame round the walk: for every input the law returns true, and each argument reads behind the call as it read before. No condition.
-/
import Derived.SevenTiedAt
import Derived.Test.YtcdpoamiejompaaGreatDoorRows
import Derived.Test.YtcdpoamiejompaaGreatDoorCards
import Derived.Test.YtcdpoamiejompaaGreatDoorTie
import Derived.Test.YtcdpoamiejompaaGreatDoorQe32
namespace Go.Proofs.YtcdpoamiejompaaGreatDoor
open Go.RowKit Go.Wk Go.Sort
set_option maxRecDepth 100000

set_option maxHeartbeats 16000000 in
theorem EvalConstant_walk (A0 : Option Addr) (n0 c0 : Nat) (E : List En) (q : Rq) (A2 : Option Addr) (n2 c2 : Nat) (P2 : List Nd) (A3 : Option Addr) (n3 c3 : Nat) (P3 : List Nd) (w : World) (hE : Es w A0 n0 c0 E) (hq : RqOk w q) (h2 : Ns w A2 n2 c2 P2) (h3 : Ns w A3 n3 c3 P3) (hg : Door w) :
    Calls Tryz.prog 3 #[.slice A0 n0 c0, q.v, .slice A2 n2 c2, .slice A3 n3 c3] w fun e w' => e = .returned (.bool true) ∧ Below w.heap.size w w' := by
  have HF := Lib.hid (fun w' (hb : Below w.heap.size w w') => law_fact w' (hg.keep hb))
  have V2 := Lib.hid (fun w' (hb : Below w.heap.size w w') => eval_Value A0 n0 c0 E q A2 n2 c2 P2 w' (hE.keep hb) (hq.keep hb) (h2.keep hb) (hg.keep hb))
  have V3 := Lib.hid (fun w' (hb : Below w.heap.size w w') => eval_Value A0 n0 c0 E q A3 n3 c3 P3 w' (hE.keep hb) (hq.keep hb) (h3.keep hb) (hg.keep hb))
  have C1 := Lib.hid (fun w' (hb : Below w.heap.size w w') => val_Check_ns (h3.keep (w' := w') hb))
  have C2 := Lib.hid (fun w' (hb : Below w.heap.size w w') => ent_Check A0 n0 c0 E w' (hE.keep hb))
  have C3 := Lib.hid (fun w' (hb : Below w.heap.size w w') => eval_Ask q w' (hq.keep hb))
  have H3 := Lib.hid h3
  have W0 := Lib.hid (vq_new w q 27)
  have B0 := Lib.hid (below_box w (.cells #[.string q.who.1, .string q.who.2, .string q.act.1, .string q.act.2, .string q.what.1, .string q.what.2, .slice q.NA q.nn q.nc] 27))
  have HZ := Lib.hid (fun z : valE (valueX ⟨E, q.who, q.act, q.what, q.P⟩ P2) = 0 => valE_zero z)
  have HC := Lib.hid (fun (s : storeF E = 0) (a : askF q.who q.act q.what q.P = 0) (v : valFault P3 = 0) => constant_value (σ := ⟨E, q.who, q.act, q.what, q.P⟩) (W := P3) (by unfold up0; rw [s, or2_zero]; exact a) v)
  unfold Rq.v at V2 V3 C3 ⊢
  unfold ValPost at V2 V3
  generalize valueX ⟨E, q.who, q.act, q.what, q.P⟩ P2 = r2 at *
  generalize valueX ⟨E, q.who, q.act, q.what, q.P⟩ P3 = r3 at *
  generalize storeF E = f1 at *
  generalize askF q.who q.act q.what q.P = f2 at *
  clear hE hq h2 h3 hg
  by_cases z : valE r2 = 0
  · go_enter Tryz.func3, Tryz.ntmps3
    go_wp2_with fail
    refine (HF.out _ B0.out).mono ?_
    rintro e w1 ⟨rfl, b1⟩
    have B1 := bh B0 b1
    have W1 := Lib.hid (W0.out.keep b1)
    clear b1 B0 W0 HF
    obtain ⟨c0, c1, c2, c3, c4, c5, c6⟩ := W1.out
    go_wp2_with fail
    refine (V2.out _ B1.out).mono ?_
    rintro e w2 ⟨A5, n5, c5', rfl, hN, b2⟩
    have B2 := bh B1 b2
    have W2 := Lib.hid (W1.out.keep b2)
    have HN := Lib.hid hN
    clear b2 B1 W1 V2 hN c0 c1 c2 c3 c4 c5 c6
    rw [z, errV_zero]
    have K := Lib.hid (val_Check_ns HN.out)
    rw [(HZ.out z).2, errV_zero] at K
    clear HZ z
    go_wp2_with fail
    refine K.out.mono ?_
    rintro e w3 ⟨rfl, b3⟩
    have B3 := bh B2 b3
    have W3 := Lib.hid (W2.out.keep b3)
    clear b3 B2 W2 K
    go_wp2_with fail
    refine (C1.out _ B3.out).mono ?_
    rintro e w4 ⟨rfl, b4⟩
    have B4 := bh B3 b4
    have W4 := Lib.hid (W3.out.keep b4)
    clear b4 B3 W3 C1
    by_cases v : valFault P3 = 0
    case neg =>
      rw [errV_ne v]
      clear v HC
      go_wp2_with fail
      go_ret
      exact ⟨rfl, B4.out⟩
    rw [v, errV_zero]
    go_wp2_with fail
    refine (C2.out _ B4.out).mono ?_
    rintro e w5 ⟨rfl, b5⟩
    have B5 := bh B4 b5
    have W5 := Lib.hid (W4.out.keep b5)
    clear b5 B4 W4 C2
    by_cases s : f1 = 0
    case neg =>
      rw [errV_ne s]
      clear s v HC
      go_wp2_with fail
      go_ret
      exact ⟨rfl, B5.out⟩
    rw [s, errV_zero]
    obtain ⟨c0, c1, c2, c3, c4, c5, c6⟩ := W5.out
    go_wp2_with fail
    refine (C3.out _ B5.out).mono ?_
    rintro e w6 ⟨rfl, b6⟩
    have B6 := bh B5 b6
    have W6 := Lib.hid (W5.out.keep b6)
    clear b6 B5 W5 C3 c0 c1 c2 c3 c4 c5 c6
    by_cases a : f2 = 0
    case neg =>
      rw [errV_ne a]
      clear a s v HC
      go_wp2_with fail
      go_ret
      exact ⟨rfl, B6.out⟩
    rw [a, errV_zero]
    have HR := Lib.hid (HC.out s a v)
    rw [HR.out] at V3
    have V4 : Hid (∀ w', Below w.heap.size w w' → Calls Tryz.prog 12 #[.slice A0 n0 c0, .agg #[.string q.who.1, .string q.who.2, .string q.act.1, .string q.act.2, .string q.what.1, .string q.what.2, .slice q.NA q.nn q.nc], .slice A3 n3 c3] w' fun e w'' => ∃ A n c, e = .returned (.tuple #[.slice A n c, .nilIface]) ∧ Ns w'' A n c P3 ∧ Below w'.heap.size w' w'') := Lib.hid V3.out
    clear HR HC a s v V3
    obtain ⟨c0, c1, c2, c3, c4, c5, c6⟩ := W6.out
    go_wp2_with fail
    refine (V4.out _ B6.out).mono ?_
    rintro e w7 ⟨A7, n7, c7, rfl, N7, b7⟩
    have B7 := bh B6 b7
    have K := Lib.hid (N7.same (H3.out.keep B7.out))
    rw [decide_eq_true (show cmpNds P3 P3 = 0 from cmpNds_cmp.self P3)] at K
    clear b7 B6 W6 V4 N7 c0 c1 c2 c3 c4 c5 c6
    go_wp2_with fail
    refine K.out.mono ?_
    rintro e w8 ⟨rfl, b8⟩
    have B8 := bh B7 b8
    clear b8 B7 K
    go_wp2_with fail
    go_ret
    exact ⟨rfl, B8.out⟩
  · go_enter Tryz.func3, Tryz.ntmps3
    go_wp2_with fail
    refine (HF.out _ B0.out).mono ?_
    rintro e w1 ⟨rfl, b1⟩
    have B1 := bh B0 b1
    have W1 := Lib.hid (W0.out.keep b1)
    clear b1 B0 W0 HF
    obtain ⟨c0, c1, c2, c3, c4, c5, c6⟩ := W1.out
    go_wp2_with fail
    refine (V2.out _ B1.out).mono ?_
    rintro e w2 ⟨A5, n5, c5', rfl, hN, b2⟩
    have B2 := bh B1 b2
    have W2 := Lib.hid (W1.out.keep b2)
    have HN := Lib.hid hN
    clear b2 B1 W1 V2 hN c0 c1 c2 c3 c4 c5 c6
    rw [errV_ne z]
    have W3 := W2
    have B3 := B2
    obtain ⟨w3, hw3⟩ : ∃ w3, w2 = w3 := ⟨_, rfl⟩
    rw [hw3] at W3 B3 ⊢
    clear HZ z W2 B2 hw3
    go_wp2_with fail
    refine (C1.out _ B3.out).mono ?_
    rintro e w4 ⟨rfl, b4⟩
    have B4 := bh B3 b4
    have W4 := Lib.hid (W3.out.keep b4)
    clear b4 B3 W3 C1
    by_cases v : valFault P3 = 0
    case neg =>
      rw [errV_ne v]
      clear v HC
      go_wp2_with fail
      go_ret
      exact ⟨rfl, B4.out⟩
    rw [v, errV_zero]
    go_wp2_with fail
    refine (C2.out _ B4.out).mono ?_
    rintro e w5 ⟨rfl, b5⟩
    have B5 := bh B4 b5
    have W5 := Lib.hid (W4.out.keep b5)
    clear b5 B4 W4 C2
    by_cases s : f1 = 0
    case neg =>
      rw [errV_ne s]
      clear s v HC
      go_wp2_with fail
      go_ret
      exact ⟨rfl, B5.out⟩
    rw [s, errV_zero]
    obtain ⟨c0, c1, c2, c3, c4, c5, c6⟩ := W5.out
    go_wp2_with fail
    refine (C3.out _ B5.out).mono ?_
    rintro e w6 ⟨rfl, b6⟩
    have B6 := bh B5 b6
    have W6 := Lib.hid (W5.out.keep b6)
    clear b6 B5 W5 C3 c0 c1 c2 c3 c4 c5 c6
    by_cases a : f2 = 0
    case neg =>
      rw [errV_ne a]
      clear a s v HC
      go_wp2_with fail
      go_ret
      exact ⟨rfl, B6.out⟩
    rw [a, errV_zero]
    have HR := Lib.hid (HC.out s a v)
    rw [HR.out] at V3
    have V4 : Hid (∀ w', Below w.heap.size w w' → Calls Tryz.prog 12 #[.slice A0 n0 c0, .agg #[.string q.who.1, .string q.who.2, .string q.act.1, .string q.act.2, .string q.what.1, .string q.what.2, .slice q.NA q.nn q.nc], .slice A3 n3 c3] w' fun e w'' => ∃ A n c, e = .returned (.tuple #[.slice A n c, .nilIface]) ∧ Ns w'' A n c P3 ∧ Below w'.heap.size w' w'') := Lib.hid V3.out
    clear HR HC a s v V3
    obtain ⟨c0, c1, c2, c3, c4, c5, c6⟩ := W6.out
    go_wp2_with fail
    refine (V4.out _ B6.out).mono ?_
    rintro e w7 ⟨A7, n7, c7, rfl, N7, b7⟩
    have B7 := bh B6 b7
    have K := Lib.hid (N7.same (H3.out.keep B7.out))
    rw [decide_eq_true (show cmpNds P3 P3 = 0 from cmpNds_cmp.self P3)] at K
    clear b7 B6 W6 V4 N7 c0 c1 c2 c3 c4 c5 c6
    go_wp2_with fail
    refine K.out.mono ?_
    rintro e w8 ⟨rfl, b8⟩
    have B8 := bh B7 b8
    clear b8 B7 K
    go_wp2_with fail
    go_ret
    exact ⟨rfl, B8.out⟩
end Go.Proofs.YtcdpoamiejompaaGreatDoor
namespace Go.Proofs.YtcdpoamiejompaaGreatDoor
open Go Go.ChangeShapes Go.WideShapes
theorem EvalConstant_named : Tryz.prog.funcNamed Rows.evalConstantRow.func = some 3 := by kernel_rfl
theorem EvalConstant_wf : Rows.evalConstantRow.wfByText (OpenSpec.ofChange Rows.evalConstantSpec) = true := by kernel_rfl
theorem EvalConstant_main : Tryz.prog.mainIs = some (Rows.evalConstantCard.stood.harness.1, Rows.evalConstantCard.stood.harness.2.toList) := by kernel_rfl
theorem EvalConstant_looks : true = Tryz.prog.looks [] := by kernel_rfl
theorem EvalConstant_goes : false = Rows.evalConstantRow.goesBy Tryz.prog := by kernel_rfl
theorem EvalConstant_inst : Tryz.f3.isInstance Tryz.prog Rows.evalConstantRow.origin Rows.evalConstantRow.targs := of_decide_eq_true (by kernel_rfl)
theorem EvalConstant_wrap : Tryz.f3.isWrapper Tryz.prog Rows.evalConstantRow.wrapper Rows.evalConstantRow.mainSum := by unfold Func.isWrapper; rw [if_neg (by decide +kernel)]; exact ⟨rfl, rfl⟩
theorem EvalConstant_j1 : (Rows.evalConstantRow.wf (OpenSpec.ofChange Rows.evalConstantSpec)) = true := by kernel_rfl
theorem EvalConstant_j2 : (laidOutB Tryz.prog) = true := by kernel_rfl
theorem EvalConstant_j3 : (mapsRowed Tryz.prog) = true := by kernel_rfl
theorem EvalConstant_j4 : (Tryz.f3.params.all (Tryz.prog.readableRec ·)) = true := by kernel_rfl
theorem EvalConstant_j5 : (namedTie Tryz.prog Rows.evalConstantRow.named Rows.evalConstantSpec.vars) = true := by kernel_rfl
theorem EvalConstant_j6 : ((Rows.evalConstantRow.stops == [])) = true := by kernel_rfl
theorem EvalConstant_j7 : ((Tryz.prog.stops == [])) = true := by kernel_rfl
theorem EvalConstant_j8 : ((Rows.evalConstantRow.knobs == [])) = true := by kernel_rfl
theorem EvalConstant_j9 : ((Tryz.prog.stopKnobs == [])) = true := by kernel_rfl
theorem EvalConstant_j10 : ((Rows.evalConstantRow.inPlace == Tryz.prog.inPlace 3)) = true := by kernel_rfl
theorem EvalConstant_j11 : ((Rows.evalConstantRow.unfollowed == Tryz.prog.unfollowed 3)) = true := by kernel_rfl
theorem EvalConstant_j12 : ((Rows.evalConstantRow.recurses == Tryz.prog.recurses 3)) = true := by kernel_rfl
theorem EvalConstant_j13 : ((Rows.evalConstantRow.named == Tryz.prog.varsNamed 3)) = true := by kernel_rfl
theorem EvalConstant_j14 : ((Rows.evalConstantRow.maps == (Tryz.f3.params.toList ++ Rows.evalConstantSpec.plain.varTypes Tryz.prog).any (Tryz.prog.mapsRec ·))) = true := by kernel_rfl
theorem EvalConstant_j15 : ((Rows.evalConstantRow.ifaces == (Tryz.f3.params.toList ++ Rows.evalConstantSpec.plain.varTypes Tryz.prog).any (Tryz.prog.ifacesRec ·))) = true := by kernel_rfl
theorem EvalConstant_j16 : ((Rows.evalConstantRow.mapsOut == Tryz.prog.mapsAmong Tryz.f3.resultTypes.toList)) = true := by kernel_rfl
theorem EvalConstant_j17 : ((Rows.evalConstantRow.loops == (Tryz.f3.params.toList ++ Rows.evalConstantSpec.plain.varTypes Tryz.prog).any (Tryz.prog.loopsFrom ·))) = true := by kernel_rfl
theorem EvalConstant_j18 : ((Rows.evalConstantRow.wideKeys == (Tryz.f3.params.toList ++ Rows.evalConstantSpec.plain.varTypes Tryz.prog ++ Tryz.f3.resultTypes.toList).any (Tryz.prog.wideKeysFrom ·))) = true := by kernel_rfl
theorem EvalConstant_j19 : (Rows.evalConstantSpec.vars.all (Tryz.prog.varReadable ·)) = true := by kernel_rfl
theorem EvalConstant_j20 : (Tryz.f3.resultTypes.all (fun t => Tryz.prog.readableRec t && decide (t < Tryz.prog.types.size))) = true := by kernel_rfl
theorem EvalConstant_j21 : ((Rows.evalConstantRow.ifacesOut == Tryz.f3.resultTypes.toList.any (Tryz.prog.ifacesRec ·))) = true := by kernel_rfl
theorem EvalConstant_j22 : ((Rows.evalConstantRow.loopsOut == Tryz.f3.resultTypes.toList.any (Tryz.prog.loopsFrom ·))) = true := by kernel_rfl
theorem EvalConstant_j23 : ((Rows.evalConstantRow.plainKeys == Tryz.prog.plainKeys)) = true := by kernel_rfl
theorem EvalConstant_j24 : (Rows.evalConstantRow.shortTexts.isNone) = true := by kernel_rfl
theorem EvalConstant_j25 : (Tryz.prog.stopsHeard) = true := by kernel_rfl
theorem EvalConstant_j26 : (Tryz.prog.mayEnter) = true := by kernel_rfl
theorem EvalConstant_j27 : ((Rows.evalConstantRow.lifted == Tryz.prog.liftsFinal)) = true := by kernel_rfl
theorem EvalConstant_j28 : ((Tryz.prog.make == some Rows.evalConstantRow.make)) = true := by kernel_rfl
theorem EvalConstant_j29 : ((Rows.evalConstantRow.kinds == (if Rows.evalConstantRow.domain.isEmpty then [] else Tryz.f3.params.toList.map fun t => match Tryz.prog.underlying t with | some (.int k) => some k | _ => none))) = true := by kernel_rfl
theorem EvalConstant_j30 : ((Rows.evalConstantRow.pinned == Rows.evalConstantRow.pinnedBy)) = true := by kernel_rfl
theorem EvalConstant_j31 : ((Rows.evalConstantRow.veiled == (Tryz.f3.params.toList ++ Rows.evalConstantSpec.plain.varTypes Tryz.prog ++ Tryz.f3.resultTypes.toList).any (Tryz.prog.veiledRec ·))) = true := by kernel_rfl
theorem EvalConstant_j32 : (Rows.evalConstantRow.veiledFits Tryz.prog Tryz.f3.params.toList (Tryz.f3.params.toList ++ Rows.evalConstantSpec.plain.varTypes Tryz.prog ++ Tryz.f3.resultTypes.toList)) = true := by kernel_rfl
theorem and_two {a b : Bool} (h : a = true) (k : b = true) : (a && b) = true := by rw [h, k]; rfl
set_option maxRecDepth 100000 in
theorem EvalConstant_joined : joinedFacts Tryz.prog 3 Tryz.f3 Rows.evalConstantSpec Rows.evalConstantRow = true := by
  unfold joinedFacts
  exact (and_two (and_two (and_two (and_two (and_two (and_two (and_two (and_two (and_two (and_two (and_two (and_two (and_two (and_two (and_two (and_two (and_two (and_two (and_two (and_two (and_two (and_two (and_two (and_two (and_two (and_two (and_two (and_two (and_two (and_two (and_two EvalConstant_j1 EvalConstant_j2) EvalConstant_j3) EvalConstant_j4) EvalConstant_j5) EvalConstant_j6) EvalConstant_j7) EvalConstant_j8) EvalConstant_j9) EvalConstant_j10) EvalConstant_j11) EvalConstant_j12) EvalConstant_j13) EvalConstant_j14) EvalConstant_j15) EvalConstant_j16) EvalConstant_j17) EvalConstant_j18) EvalConstant_j19) EvalConstant_j20) EvalConstant_j21) EvalConstant_j22) EvalConstant_j23) EvalConstant_j24) EvalConstant_j25) EvalConstant_j26) EvalConstant_j27) EvalConstant_j28) EvalConstant_j29) EvalConstant_j30) EvalConstant_j31) EvalConstant_j32)
end Go.Proofs.YtcdpoamiejompaaGreatDoor
namespace Go.Proofs.YtcdpoamiejompaaGreatDoor
open Go Go.ChangeShapes Go.WideShapes Go.ChangeAt Go.RowKit Go.Wk
open Go.ChangeMaps (open_string)

set_option maxRecDepth 100000 in
theorem EvalConstant_lifted (os : Os) (started : os.Started) (H : Type) (enc : TypeId × Value → H) :
    ReturnsInHanded {} Tryz.checked os 3 .any (fun w args => (Rows.evalConstantSpec.pre enc Tryz.prog Tryz.f3 [] false w args ∧ laidMetH Tryz.prog laidList w) ∧ sizedMet enc Tryz.prog Tryz.f3 (OpenSpec.ofChange Rows.evalConstantSpec) false w args) (Rows.evalConstantSpec.post enc Tryz.prog Tryz.f3 false true false false) := by
  refine returnsInHanded_of_change_and (C := Tryz.checked) (X := fun w _ => laidMetH Tryz.prog laidList w) (fun _ _ _ hh h => h.of_heap hh) own started (by kernel_rfl) Tryz.func3
    (ChangeSpec.witness_at (enc := enc) (C := Tryz.checked) (os := os) (X := fun w _ => laidMetH Tryz.prog laidList w) false (laidWorld os) #[.slice none 0 0, .agg #[.string ⟨#[]⟩, .string ⟨#[]⟩, .string ⟨#[]⟩, .string ⟨#[]⟩, .string ⟨#[]⟩, .string ⟨#[]⟩, .slice none 0 0], .slice none 0 0, .slice none 0 0] 8 rfl (by kernel_rfl) (by kernel_rfl) (by kernel_rfl) (by kernel_rfl) (by kernel_rfl) (laidWorld_met os _)) ?_
  intro W base args ds gs before hval0 hW _ _ hL _
  have hg := handle_of_laid hL
  have hval : ∀ (j : Nat) t v, Tryz.f3.params[j]? = some t → args[j]? = some v → Value.okWide Tryz.prog W .any base t v := hval0
  have hW0 := hW
  obtain ⟨p, q, hA0, _, _, _, _⟩ := hW
  have hA : DataW.TrodAll enc Tryz.prog W 0 (fun _ => true) true Tryz.f3.params.toList args.toList ds p := hA0
  rw [Tryz.params3] at hA hval
  clear hA0 hval0
  obtain ⟨v0, vs0, d0, ds0, p0, q0, hargs, rfl, rfl, h0, r0⟩ := trodAll_cons hA
  obtain ⟨v1, vs1, d1, ds1, p1, q1, rfl, rfl, rfl, h1, r1⟩ := trodAll_cons r0
  obtain ⟨v2, vs2, d2, ds2, p2, q2, rfl, rfl, rfl, h2, r2⟩ := trodAll_cons r1
  obtain ⟨v3, vs3, d3, ds3, p3, q3, rfl, rfl, rfl, h3, r3⟩ := trodAll_cons r2
  obtain ⟨rfl, rfl, rfl⟩ := trodAll_nil r3
  obtain ⟨args⟩ := args
  simp only at hargs
  subst hargs
  obtain ⟨A0, n0, c0, E0, rfl, sx0⟩ := open_ents (hval 0 22 v0 rfl rfl) h0
  obtain ⟨x1, rfl, sx1⟩ := open_request (hval 1 27 v1 rfl rfl) h1
  obtain ⟨A2, n2, c2, P2, rfl, sx2⟩ := open_nodes (hval 2 25 v2 rfl rfl) h2
  obtain ⟨A3, n3, c3, P3, rfl, sx3⟩ := open_nodes (hval 3 25 v3 rfl rfl) h3
  refine (EvalConstant_walk A0 n0 c0 E0 x1 A2 n2 c2 P2 A3 n3 c3 P3 W sx0 sx1 sx2 sx3 hg).mono fun e W' ⟨he, hb'⟩ => ?_
  subst he
  refine ⟨_, rfl, law_post laidOut (by kernel_rfl) (by rfl) Tryz.underlying4 rfl ?_ hW0 hb'⟩
  intro ds hlen
  rw [Tryz.params3] at hlen
  match ds, hlen with
  | [e0, e1, e2, e3], _ => rfl

theorem EvalConstant_over : Rows.evalConstantRow.holds Tryz.pinned (OpenSpec.ofChange Rows.evalConstantSpec) :=
  OpenClaim.holds_of_wide 3 Tryz.f3 rfl rfl rfl rfl rfl rfl rfl ⟨rfl, rfl, rfl, rfl, rfl⟩ rfl rfl rfl rfl rfl EvalConstant_named Tryz.func3 EvalConstant_joined
    EvalConstant_inst EvalConstant_wrap
    (fun os started H enc _ => EvalConstant_lifted os started H enc)

theorem EvalConstant_holds : Rows.EvalConstantCardSaid :=
  Claim7.holds_tied_plain_at .later [] [.handle] true Rows.evalConstantCard.stood.harness true
    EvalConstant_over (fun _ h => by cases h) EvalConstant_wf (fun _ h => by cases h) evalConstant_row_tie rfl ⟨rfl, rfl⟩ EvalConstant_main rfl
    (fun f fn hf hfn => by
      obtain rfl : f = 3 := Option.some.inj (EvalConstant_named.symm.trans hf) |>.symm
      obtain rfl : fn = Tryz.f3 := (Option.some.inj (Tryz.func3.symm.trans hfn)).symm
      exact ⟨EvalConstant_looks, fun j t ht => by
        rw [Tryz.params3] at ht
        have hm := Array.mem_of_getElem? ht
        simp only [List.mem_toArray, List.mem_cons, List.not_mem_nil, or_false] at hm
        rcases hm with rfl | rfl | rfl | rfl
        all_goals exact (show Tryz.prog.wantsStandIn _ = false by kernel_rfl)⟩)
    EvalConstant_goes
#print axioms EvalConstant_holds
end Go.Proofs.YtcdpoamiejompaaGreatDoor
