/-
  EvalAsks: the walk of the law.
  EvalAsks: the closed facts of the frame, one by one.
  EvalAsks: the frame round the walk: for every input the law returns true, and each argument reads behind the call as it read before. No condition.
-/
import Derived.SevenTiedAt
import Derived.Test.YtcdpoamiejompaaGreatDoorRows
import Derived.Test.YtcdpoamiejompaaGreatDoorCards
import Derived.Test.YtcdpoamiejompaaGreatDoorTie
import Derived.Test.YtcdpoamiejompaaGreatDoorQe32
namespace Go.Proofs.YtcdpoamiejompaaGreatDoor
open Go.RowKit Go.Wk Go.Sort
set_option maxRecDepth 100000

set_option maxHeartbeats 4000000 in
theorem EvalAsks_walk (q : Rq) (w : World) (hq : RqOk w q) (hg : Door w) :
    Calls Tryz.prog 5 #[q.v] w fun e w' => e = .returned (.bool true) ∧ Below w.heap.size w w' := by
  have C1 := Lib.hid (fun w' (hb : Below w.heap.size w w') => eval_Ask q w' (hq.keep hb))
  have C2 := Lib.hid (fun w' (hb : Below w.heap.size w w') => ref_AskFault q w' (hq.keep hb))
  have HT : Hid (∀ n w', Below w.heap.size w w' → Calls Tryz.prog 22 #[errV n, .int .i64 n] w' fun e w'' => e = .returned (.bool true) ∧ Below w'.heap.size w' w'') := Lib.hid (fun n w' hb => by have := same_Error n n w' (hg.keep hb); rwa [beq_self_eq_true] at this)
  have HF := Lib.hid (fun w' (hb : Below w.heap.size w w') => law_fact w' (hg.keep hb))
  have W1 := Lib.hid (vq_new w q 27)
  have B1 := Lib.hid (below_box w (.cells #[.string q.who.1, .string q.who.2, .string q.act.1, .string q.act.2, .string q.what.1, .string q.what.2, .slice q.NA q.nn q.nc] 27))
  unfold Rq.v at C1 C2 ⊢
  generalize askF q.who q.act q.what q.P = r1 at *
  clear hq hg
  go_enter Tryz.func5, Tryz.ntmps5
  go_wp2_with fail
  obtain ⟨w1, hw1⟩ : ∃ w1, w.alloc (.cells #[.string q.who.1, .string q.who.2, .string q.act.1, .string q.act.2, .string q.what.1, .string q.what.2, .slice q.NA q.nn q.nc] 27) = w1 := ⟨_, rfl⟩
  rw [hw1] at W1 B1 ⊢
  clear hw1
  have R1 := rq (w := w1) (fun w' hb => C1.out w' (B1.out.trans (hb.mono B1.out.size)))
  have R2 := rq (w := w1) (fun w' hb => C2.out w' (B1.out.trans (hb.mono B1.out.size)))
  have R3 := rq (w := w1) (fun w' hb => HT.out r1 w' (B1.out.trans (hb.mono B1.out.size)))
  obtain ⟨c0, c1, c2, c3, c4, c5, c6⟩ := W1.out
  have m0 := cell_regrown c0
  have m1 := cell_regrown c1
  have m2 := cell_regrown c2
  have m3 := cell_regrown c3
  have m4 := cell_regrown c4
  have m5 := cell_regrown c5
  have m6 := cell_regrown c6
  refine wp_region_quiet_below (by kernel_rfl) (by kernel_rfl) ?_
  repeat (first | go_big_quiet_step (first | with_reducible exact R1 _ _ | with_reducible exact R2 _ _ | with_reducible exact R3 _ _) | quiet_step (first | with_reducible exact R1 _ _ | with_reducible exact R2 _ _ | with_reducible exact R3 _ _))
  refine wpQuiet_nil ?_
  intro w2 hw'
  have b2 := Lib.hid (show Below w1.heap.size w1 w2 by obtain ⟨⟨d, os⟩, rfl⟩ := hw'; exact below_regrown _ _ _)
  clear hw'
  have B2 := Lib.hid (B1.out.trans (b2.out.mono B1.out.size))
  clear b2 B1 W1 c0 c1 c2 c3 c4 c5 c6 m0 m1 m2 m3 m4 m5 m6 R1 R2 R3
  go_wp2_with fail
  refine (HF.out _ B2.out).mono ?_
  rintro e w3 ⟨rfl, b3⟩
  have B3 := bh B2 b3
  clear b3 B2
  go_wp2_with fail
  go_ret
  exact ⟨rfl, B3.out⟩
end Go.Proofs.YtcdpoamiejompaaGreatDoor
namespace Go.Proofs.YtcdpoamiejompaaGreatDoor
open Go Go.ChangeShapes Go.WideShapes
theorem EvalAsks_named : Tryz.prog.funcNamed Rows.evalAsksRow.func = some 5 := by kernel_rfl
theorem EvalAsks_wf : Rows.evalAsksRow.wfByText (OpenSpec.ofChange Rows.evalAsksSpec) = true := by kernel_rfl
theorem EvalAsks_main : Tryz.prog.mainIs = some (Rows.evalAsksCard.stood.harness.1, Rows.evalAsksCard.stood.harness.2.toList) := by kernel_rfl
theorem EvalAsks_looks : true = Tryz.prog.looks [] := by kernel_rfl
theorem EvalAsks_goes : false = Rows.evalAsksRow.goesBy Tryz.prog := by kernel_rfl
theorem EvalAsks_inst : Tryz.f5.isInstance Tryz.prog Rows.evalAsksRow.origin Rows.evalAsksRow.targs := of_decide_eq_true (by kernel_rfl)
theorem EvalAsks_wrap : Tryz.f5.isWrapper Tryz.prog Rows.evalAsksRow.wrapper Rows.evalAsksRow.mainSum := by unfold Func.isWrapper; rw [if_neg (by decide +kernel)]; exact ⟨rfl, rfl⟩
theorem EvalAsks_j1 : (Rows.evalAsksRow.wf (OpenSpec.ofChange Rows.evalAsksSpec)) = true := by kernel_rfl
theorem EvalAsks_j2 : (laidOutB Tryz.prog) = true := by kernel_rfl
theorem EvalAsks_j3 : (mapsRowed Tryz.prog) = true := by kernel_rfl
theorem EvalAsks_j4 : (Tryz.f5.params.all (Tryz.prog.readableRec ·)) = true := by kernel_rfl
theorem EvalAsks_j5 : (namedTie Tryz.prog Rows.evalAsksRow.named Rows.evalAsksSpec.vars) = true := by kernel_rfl
theorem EvalAsks_j6 : ((Rows.evalAsksRow.stops == [])) = true := by kernel_rfl
theorem EvalAsks_j7 : ((Tryz.prog.stops == [])) = true := by kernel_rfl
theorem EvalAsks_j8 : ((Rows.evalAsksRow.knobs == [])) = true := by kernel_rfl
theorem EvalAsks_j9 : ((Tryz.prog.stopKnobs == [])) = true := by kernel_rfl
theorem EvalAsks_j10 : ((Rows.evalAsksRow.inPlace == Tryz.prog.inPlace 5)) = true := by kernel_rfl
theorem EvalAsks_j11 : ((Rows.evalAsksRow.unfollowed == Tryz.prog.unfollowed 5)) = true := by kernel_rfl
theorem EvalAsks_j12 : ((Rows.evalAsksRow.recurses == Tryz.prog.recurses 5)) = true := by kernel_rfl
theorem EvalAsks_j13 : ((Rows.evalAsksRow.named == Tryz.prog.varsNamed 5)) = true := by kernel_rfl
theorem EvalAsks_j14 : ((Rows.evalAsksRow.maps == (Tryz.f5.params.toList ++ Rows.evalAsksSpec.plain.varTypes Tryz.prog).any (Tryz.prog.mapsRec ·))) = true := by kernel_rfl
theorem EvalAsks_j15 : ((Rows.evalAsksRow.ifaces == (Tryz.f5.params.toList ++ Rows.evalAsksSpec.plain.varTypes Tryz.prog).any (Tryz.prog.ifacesRec ·))) = true := by kernel_rfl
theorem EvalAsks_j16 : ((Rows.evalAsksRow.mapsOut == Tryz.prog.mapsAmong Tryz.f5.resultTypes.toList)) = true := by kernel_rfl
theorem EvalAsks_j17 : ((Rows.evalAsksRow.loops == (Tryz.f5.params.toList ++ Rows.evalAsksSpec.plain.varTypes Tryz.prog).any (Tryz.prog.loopsFrom ·))) = true := by kernel_rfl
theorem EvalAsks_j18 : ((Rows.evalAsksRow.wideKeys == (Tryz.f5.params.toList ++ Rows.evalAsksSpec.plain.varTypes Tryz.prog ++ Tryz.f5.resultTypes.toList).any (Tryz.prog.wideKeysFrom ·))) = true := by kernel_rfl
theorem EvalAsks_j19 : (Rows.evalAsksSpec.vars.all (Tryz.prog.varReadable ·)) = true := by kernel_rfl
theorem EvalAsks_j20 : (Tryz.f5.resultTypes.all (fun t => Tryz.prog.readableRec t && decide (t < Tryz.prog.types.size))) = true := by kernel_rfl
theorem EvalAsks_j21 : ((Rows.evalAsksRow.ifacesOut == Tryz.f5.resultTypes.toList.any (Tryz.prog.ifacesRec ·))) = true := by kernel_rfl
theorem EvalAsks_j22 : ((Rows.evalAsksRow.loopsOut == Tryz.f5.resultTypes.toList.any (Tryz.prog.loopsFrom ·))) = true := by kernel_rfl
theorem EvalAsks_j23 : ((Rows.evalAsksRow.plainKeys == Tryz.prog.plainKeys)) = true := by kernel_rfl
theorem EvalAsks_j24 : (Rows.evalAsksRow.shortTexts.isNone) = true := by kernel_rfl
theorem EvalAsks_j25 : (Tryz.prog.stopsHeard) = true := by kernel_rfl
theorem EvalAsks_j26 : (Tryz.prog.mayEnter) = true := by kernel_rfl
theorem EvalAsks_j27 : ((Rows.evalAsksRow.lifted == Tryz.prog.liftsFinal)) = true := by kernel_rfl
theorem EvalAsks_j28 : ((Tryz.prog.make == some Rows.evalAsksRow.make)) = true := by kernel_rfl
theorem EvalAsks_j29 : ((Rows.evalAsksRow.kinds == (if Rows.evalAsksRow.domain.isEmpty then [] else Tryz.f5.params.toList.map fun t => match Tryz.prog.underlying t with | some (.int k) => some k | _ => none))) = true := by kernel_rfl
theorem EvalAsks_j30 : ((Rows.evalAsksRow.pinned == Rows.evalAsksRow.pinnedBy)) = true := by kernel_rfl
theorem EvalAsks_j31 : ((Rows.evalAsksRow.veiled == (Tryz.f5.params.toList ++ Rows.evalAsksSpec.plain.varTypes Tryz.prog ++ Tryz.f5.resultTypes.toList).any (Tryz.prog.veiledRec ·))) = true := by kernel_rfl
theorem EvalAsks_j32 : (Rows.evalAsksRow.veiledFits Tryz.prog Tryz.f5.params.toList (Tryz.f5.params.toList ++ Rows.evalAsksSpec.plain.varTypes Tryz.prog ++ Tryz.f5.resultTypes.toList)) = true := by kernel_rfl
theorem and_two {a b : Bool} (h : a = true) (k : b = true) : (a && b) = true := by rw [h, k]; rfl
set_option maxRecDepth 100000 in
theorem EvalAsks_joined : joinedFacts Tryz.prog 5 Tryz.f5 Rows.evalAsksSpec Rows.evalAsksRow = true := by
  unfold joinedFacts
  exact (and_two (and_two (and_two (and_two (and_two (and_two (and_two (and_two (and_two (and_two (and_two (and_two (and_two (and_two (and_two (and_two (and_two (and_two (and_two (and_two (and_two (and_two (and_two (and_two (and_two (and_two (and_two (and_two (and_two (and_two (and_two EvalAsks_j1 EvalAsks_j2) EvalAsks_j3) EvalAsks_j4) EvalAsks_j5) EvalAsks_j6) EvalAsks_j7) EvalAsks_j8) EvalAsks_j9) EvalAsks_j10) EvalAsks_j11) EvalAsks_j12) EvalAsks_j13) EvalAsks_j14) EvalAsks_j15) EvalAsks_j16) EvalAsks_j17) EvalAsks_j18) EvalAsks_j19) EvalAsks_j20) EvalAsks_j21) EvalAsks_j22) EvalAsks_j23) EvalAsks_j24) EvalAsks_j25) EvalAsks_j26) EvalAsks_j27) EvalAsks_j28) EvalAsks_j29) EvalAsks_j30) EvalAsks_j31) EvalAsks_j32)
end Go.Proofs.YtcdpoamiejompaaGreatDoor
namespace Go.Proofs.YtcdpoamiejompaaGreatDoor
open Go Go.ChangeShapes Go.WideShapes Go.ChangeAt Go.RowKit Go.Wk
open Go.ChangeMaps (open_string)

set_option maxRecDepth 100000 in
theorem EvalAsks_lifted (os : Os) (started : os.Started) (H : Type) (enc : TypeId × Value → H) :
    ReturnsInHanded {} Tryz.checked os 5 .any (fun w args => (Rows.evalAsksSpec.pre enc Tryz.prog Tryz.f5 [] false w args ∧ laidMetH Tryz.prog laidList w) ∧ sizedMet enc Tryz.prog Tryz.f5 (OpenSpec.ofChange Rows.evalAsksSpec) false w args) (Rows.evalAsksSpec.post enc Tryz.prog Tryz.f5 false true false false) := by
  refine returnsInHanded_of_change_and (C := Tryz.checked) (X := fun w _ => laidMetH Tryz.prog laidList w) (fun _ _ _ hh h => h.of_heap hh) own started (by kernel_rfl) Tryz.func5
    (ChangeSpec.witness_at (enc := enc) (C := Tryz.checked) (os := os) (X := fun w _ => laidMetH Tryz.prog laidList w) false (laidWorld os) #[.agg #[.string ⟨#[]⟩, .string ⟨#[]⟩, .string ⟨#[]⟩, .string ⟨#[]⟩, .string ⟨#[]⟩, .string ⟨#[]⟩, .slice none 0 0]] 8 rfl (by kernel_rfl) (by kernel_rfl) (by kernel_rfl) (by kernel_rfl) (by kernel_rfl) (laidWorld_met os _)) ?_
  intro W base args ds gs before hval0 hW _ _ hL _
  have hg := handle_of_laid hL
  have hval : ∀ (j : Nat) t v, Tryz.f5.params[j]? = some t → args[j]? = some v → Value.okWide Tryz.prog W .any base t v := hval0
  have hW0 := hW
  obtain ⟨p, q, hA0, _, _, _, _⟩ := hW
  have hA : DataW.TrodAll enc Tryz.prog W 0 (fun _ => true) true Tryz.f5.params.toList args.toList ds p := hA0
  rw [Tryz.params5] at hA hval
  clear hA0 hval0
  obtain ⟨v0, vs0, d0, ds0, p0, q0, hargs, rfl, rfl, h0, r0⟩ := trodAll_cons hA
  obtain ⟨rfl, rfl, rfl⟩ := trodAll_nil r0
  obtain ⟨args⟩ := args
  simp only at hargs
  subst hargs
  obtain ⟨x0, rfl, sx0⟩ := open_request (hval 0 27 v0 rfl rfl) h0
  refine (EvalAsks_walk x0 W sx0 hg).mono fun e W' ⟨he, hb'⟩ => ?_
  subst he
  refine ⟨_, rfl, law_post laidOut (by kernel_rfl) (by rfl) Tryz.underlying4 rfl ?_ hW0 hb'⟩
  intro ds hlen
  rw [Tryz.params5] at hlen
  match ds, hlen with
  | [e0], _ => rfl

theorem EvalAsks_over : Rows.evalAsksRow.holds Tryz.pinned (OpenSpec.ofChange Rows.evalAsksSpec) :=
  OpenClaim.holds_of_wide 5 Tryz.f5 rfl rfl rfl rfl rfl rfl rfl ⟨rfl, rfl, rfl, rfl, rfl⟩ rfl rfl rfl rfl rfl EvalAsks_named Tryz.func5 EvalAsks_joined
    EvalAsks_inst EvalAsks_wrap
    (fun os started H enc _ => EvalAsks_lifted os started H enc)

theorem EvalAsks_holds : Rows.EvalAsksCardSaid :=
  Claim7.holds_tied_plain_at .later [] [.handle] true Rows.evalAsksCard.stood.harness true
    EvalAsks_over (fun _ h => by cases h) EvalAsks_wf (fun _ h => by cases h) evalAsks_row_tie rfl ⟨rfl, rfl⟩ EvalAsks_main rfl
    (fun f fn hf hfn => by
      obtain rfl : f = 5 := Option.some.inj (EvalAsks_named.symm.trans hf) |>.symm
      obtain rfl : fn = Tryz.f5 := (Option.some.inj (Tryz.func5.symm.trans hfn)).symm
      exact ⟨EvalAsks_looks, fun j t ht => by
        rw [Tryz.params5] at ht
        have hm := Array.mem_of_getElem? ht
        simp only [List.mem_toArray, List.mem_cons, List.not_mem_nil, or_false] at hm
        subst hm
        all_goals exact (show Tryz.prog.wantsStandIn _ = false by kernel_rfl)⟩)
    EvalAsks_goes
#print axioms EvalAsks_holds
end Go.Proofs.YtcdpoamiejompaaGreatDoor
