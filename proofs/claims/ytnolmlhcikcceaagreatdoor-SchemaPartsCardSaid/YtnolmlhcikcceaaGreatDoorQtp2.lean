/-
  SchemaParts: the closed facts of the frame, one by one.
  SchemaParts: the frame round the walk: for every input the law returns true, and each argument reads behind the call as it read before. No condition.
-/
import Derived.SevenTiedAt
import Derived.Test.YtnolmlhcikcceaaGreatDoorRows
import Derived.Test.YtnolmlhcikcceaaGreatDoorCards
import Derived.Test.YtnolmlhcikcceaaGreatDoorTie
import Derived.Test.YtnolmlhcikcceaaGreatDoorQtp1
namespace Go.Proofs.YtnolmlhcikcceaaGreatDoor
open Go Go.ChangeShapes Go.WideShapes
theorem SchemaParts_named : Tryz.prog.funcNamed Rows.schemaPartsRow.func = some 5 := by kernel_rfl
theorem SchemaParts_wf : Rows.schemaPartsRow.wfByText (OpenSpec.ofChange Rows.schemaPartsSpec) = true := by kernel_rfl
theorem SchemaParts_main : Tryz.prog.mainIs = some (Rows.schemaPartsCard.stood.harness.1, Rows.schemaPartsCard.stood.harness.2.toList) := by kernel_rfl
theorem SchemaParts_looks : true = Tryz.prog.looks [] := by kernel_rfl
theorem SchemaParts_goes : false = Rows.schemaPartsRow.goesBy Tryz.prog := by kernel_rfl
theorem SchemaParts_inst : Tryz.f5.isInstance Tryz.prog Rows.schemaPartsRow.origin Rows.schemaPartsRow.targs := of_decide_eq_true (by kernel_rfl)
theorem SchemaParts_wrap : Tryz.f5.isWrapper Tryz.prog Rows.schemaPartsRow.wrapper Rows.schemaPartsRow.mainSum := by unfold Func.isWrapper; rw [if_neg (by decide +kernel)]; exact ⟨rfl, rfl⟩
theorem SchemaParts_j1 : (Rows.schemaPartsRow.wf (OpenSpec.ofChange Rows.schemaPartsSpec)) = true := by kernel_rfl
theorem SchemaParts_j2 : (laidOutB Tryz.prog) = true := by kernel_rfl
theorem SchemaParts_j3 : (mapsRowed Tryz.prog) = true := by kernel_rfl
theorem SchemaParts_j4 : (Tryz.f5.params.all (Tryz.prog.readableRec ·)) = true := by kernel_rfl
theorem SchemaParts_j5 : (namedTie Tryz.prog Rows.schemaPartsRow.named Rows.schemaPartsSpec.vars) = true := by kernel_rfl
theorem SchemaParts_j6 : ((Rows.schemaPartsRow.stops == [])) = true := by kernel_rfl
theorem SchemaParts_j7 : ((Tryz.prog.stops == [])) = true := by kernel_rfl
theorem SchemaParts_j8 : ((Rows.schemaPartsRow.knobs == [])) = true := by kernel_rfl
theorem SchemaParts_j9 : ((Tryz.prog.stopKnobs == [])) = true := by kernel_rfl
theorem SchemaParts_j10 : ((Rows.schemaPartsRow.inPlace == Tryz.prog.inPlace 5)) = true := by kernel_rfl
theorem SchemaParts_j11 : ((Rows.schemaPartsRow.unfollowed == Tryz.prog.unfollowed 5)) = true := by kernel_rfl
theorem SchemaParts_j12 : ((Rows.schemaPartsRow.recurses == Tryz.prog.recurses 5)) = true := by kernel_rfl
theorem SchemaParts_j13 : ((Rows.schemaPartsRow.named == Tryz.prog.varsNamed 5)) = true := by kernel_rfl
theorem SchemaParts_j14 : ((Rows.schemaPartsRow.maps == (Tryz.f5.params.toList ++ Rows.schemaPartsSpec.plain.varTypes Tryz.prog).any (Tryz.prog.mapsRec ·))) = true := by kernel_rfl
theorem SchemaParts_j15 : ((Rows.schemaPartsRow.ifaces == (Tryz.f5.params.toList ++ Rows.schemaPartsSpec.plain.varTypes Tryz.prog).any (Tryz.prog.ifacesRec ·))) = true := by kernel_rfl
theorem SchemaParts_j16 : ((Rows.schemaPartsRow.mapsOut == Tryz.prog.mapsAmong Tryz.f5.resultTypes.toList)) = true := by kernel_rfl
theorem SchemaParts_j17 : ((Rows.schemaPartsRow.loops == (Tryz.f5.params.toList ++ Rows.schemaPartsSpec.plain.varTypes Tryz.prog).any (Tryz.prog.loopsFrom ·))) = true := by kernel_rfl
theorem SchemaParts_j18 : ((Rows.schemaPartsRow.wideKeys == (Tryz.f5.params.toList ++ Rows.schemaPartsSpec.plain.varTypes Tryz.prog ++ Tryz.f5.resultTypes.toList).any (Tryz.prog.wideKeysFrom ·))) = true := by kernel_rfl
theorem SchemaParts_j19 : (Rows.schemaPartsSpec.vars.all (Tryz.prog.varReadable ·)) = true := by kernel_rfl
theorem SchemaParts_j20 : (Tryz.f5.resultTypes.all (fun t => Tryz.prog.readableRec t && decide (t < Tryz.prog.types.size))) = true := by kernel_rfl
theorem SchemaParts_j21 : ((Rows.schemaPartsRow.ifacesOut == Tryz.f5.resultTypes.toList.any (Tryz.prog.ifacesRec ·))) = true := by kernel_rfl
theorem SchemaParts_j22 : ((Rows.schemaPartsRow.loopsOut == Tryz.f5.resultTypes.toList.any (Tryz.prog.loopsFrom ·))) = true := by kernel_rfl
theorem SchemaParts_j23 : ((Rows.schemaPartsRow.plainKeys == Tryz.prog.plainKeys)) = true := by kernel_rfl
theorem SchemaParts_j24 : (Rows.schemaPartsRow.shortTexts.isNone) = true := by kernel_rfl
theorem SchemaParts_j25 : (Tryz.prog.stopsHeard) = true := by kernel_rfl
theorem SchemaParts_j26 : (Tryz.prog.mayEnter) = true := by kernel_rfl
theorem SchemaParts_j27 : ((Rows.schemaPartsRow.lifted == Tryz.prog.liftsFinal)) = true := by kernel_rfl
theorem SchemaParts_j28 : ((Tryz.prog.make == some Rows.schemaPartsRow.make)) = true := by kernel_rfl
theorem SchemaParts_j29 : ((Rows.schemaPartsRow.kinds == (if Rows.schemaPartsRow.domain.isEmpty then [] else Tryz.f5.params.toList.map fun t => match Tryz.prog.underlying t with | some (.int k) => some k | _ => none))) = true := by kernel_rfl
theorem SchemaParts_j30 : ((Rows.schemaPartsRow.pinned == Rows.schemaPartsRow.pinnedBy)) = true := by kernel_rfl
theorem SchemaParts_j31 : ((Rows.schemaPartsRow.veiled == (Tryz.f5.params.toList ++ Rows.schemaPartsSpec.plain.varTypes Tryz.prog ++ Tryz.f5.resultTypes.toList).any (Tryz.prog.veiledRec ·))) = true := by kernel_rfl
theorem SchemaParts_j32 : (Rows.schemaPartsRow.veiledFits Tryz.prog Tryz.f5.params.toList (Tryz.f5.params.toList ++ Rows.schemaPartsSpec.plain.varTypes Tryz.prog ++ Tryz.f5.resultTypes.toList)) = true := by kernel_rfl
theorem and_two {a b : Bool} (h : a = true) (k : b = true) : (a && b) = true := by rw [h, k]; rfl
set_option maxRecDepth 100000 in
theorem SchemaParts_joined : joinedFacts Tryz.prog 5 Tryz.f5 Rows.schemaPartsSpec Rows.schemaPartsRow = true := by
  unfold joinedFacts
  exact (and_two (and_two (and_two (and_two (and_two (and_two (and_two (and_two (and_two (and_two (and_two (and_two (and_two (and_two (and_two (and_two (and_two (and_two (and_two (and_two (and_two (and_two (and_two (and_two (and_two (and_two (and_two (and_two (and_two (and_two (and_two SchemaParts_j1 SchemaParts_j2) SchemaParts_j3) SchemaParts_j4) SchemaParts_j5) SchemaParts_j6) SchemaParts_j7) SchemaParts_j8) SchemaParts_j9) SchemaParts_j10) SchemaParts_j11) SchemaParts_j12) SchemaParts_j13) SchemaParts_j14) SchemaParts_j15) SchemaParts_j16) SchemaParts_j17) SchemaParts_j18) SchemaParts_j19) SchemaParts_j20) SchemaParts_j21) SchemaParts_j22) SchemaParts_j23) SchemaParts_j24) SchemaParts_j25) SchemaParts_j26) SchemaParts_j27) SchemaParts_j28) SchemaParts_j29) SchemaParts_j30) SchemaParts_j31) SchemaParts_j32)
end Go.Proofs.YtnolmlhcikcceaaGreatDoor
namespace Go.Proofs.YtnolmlhcikcceaaGreatDoor
open Go Go.ChangeShapes Go.WideShapes Go.ChangeAt Go.RowKit Go.Wk
open Go.ChangeMaps (open_string)

set_option maxRecDepth 100000 in
theorem SchemaParts_lifted (os : Os) (started : os.Started) (H : Type) (enc : TypeId × Value → H) :
    ReturnsInHanded {} Tryz.checked os 5 .any (fun w args => (Rows.schemaPartsSpec.pre enc Tryz.prog Tryz.f5 [] false w args ∧ laidMetH Tryz.prog laidList w) ∧ sizedMet enc Tryz.prog Tryz.f5 (OpenSpec.ofChange Rows.schemaPartsSpec) false w args) (Rows.schemaPartsSpec.post enc Tryz.prog Tryz.f5 false true false false) := by
  refine returnsInHanded_of_change_and (C := Tryz.checked) (X := fun w _ => laidMetH Tryz.prog laidList w) (fun _ _ _ hh h => h.of_heap hh) own started (by kernel_rfl) Tryz.func5
    (ChangeSpec.witness_at (enc := enc) (C := Tryz.checked) (os := os) (X := fun w _ => laidMetH Tryz.prog laidList w) false (laidWorld os) #[.agg #[.slice none 0 0, .slice none 0 0], .slice none 0 0, .agg #[.string ⟨#[]⟩, .string ⟨#[]⟩, .string ⟨#[]⟩, .string ⟨#[]⟩, .string ⟨#[]⟩, .string ⟨#[]⟩, .slice none 0 0], .agg #[.string ⟨#[]⟩, .slice none 0 0, .slice none 0 0, .slice none 0 0]] 8 rfl (by kernel_rfl) (by kernel_rfl) (by kernel_rfl) (by kernel_rfl) (by kernel_rfl) (laidWorld_met os _)) ?_
  intro W base args ds gs before hval0 hW _ _ hL _
  have hg := handle_of_laid hL
  have hval : ∀ (j : Nat) t v, Tryz.f5.params[j]? = some t → args[j]? = some v → Value.okWide Tryz.prog W .any base t v := hval0
  have hW0 := hW
  obtain ⟨p, q, hA0, _, _, _, _⟩ := hW
  have hA : DataW.TrodAll enc Tryz.prog W 0 (fun _ => true) true Tryz.f5.params.toList args.toList ds p := hA0
  rw [Tryz.params5] at hA hval
  clear hA0 hval0
  obtain ⟨v0, vs0, d0, ds0, p0, q0, hargs, rfl, rfl, h0, r0⟩ := trodAll_cons hA
  obtain ⟨v1, vs1, d1, ds1, p1, q1, rfl, rfl, rfl, h1, r1⟩ := trodAll_cons r0
  obtain ⟨v2, vs2, d2, ds2, p2, q2, rfl, rfl, rfl, h2, r2⟩ := trodAll_cons r1
  obtain ⟨v3, vs3, d3, ds3, p3, q3, rfl, rfl, rfl, h3, r3⟩ := trodAll_cons r2
  obtain ⟨rfl, rfl, rfl⟩ := trodAll_nil r3
  obtain ⟨args⟩ := args
  simp only at hargs
  subst hargs
  obtain ⟨x0, rfl, sx0, nx0⟩ := open_schemaN (hval 0 25 v0 rfl rfl) h0
  obtain ⟨A1, n1, c1, E1, rfl, sx1⟩ := open_ents (hval 1 26 v1 rfl rfl) h1
  obtain ⟨x2, rfl, sx2⟩ := open_request (hval 2 48 v2 rfl rfl) h2
  obtain ⟨x3, rfl, sx3⟩ := open_act (hval 3 55 v3 rfl rfl) h3
  refine (SchemaParts_walk x0 A1 n1 c1 E1 x2 x3 W sx0 nx0 sx1 sx2 sx3 hg).mono fun e W' ⟨he, hb'⟩ => ?_
  subst he
  refine ⟨_, rfl, law_post laidOut (by kernel_rfl) (by rfl) Tryz.underlying4 rfl ?_ hW0 hb'⟩
  intro ds hlen
  rw [Tryz.params5] at hlen
  match ds, hlen with
  | [e0, e1, e2, e3], _ => rfl

theorem SchemaParts_over : Rows.schemaPartsRow.holds Tryz.pinned (OpenSpec.ofChange Rows.schemaPartsSpec) :=
  OpenClaim.holds_of_wide 5 Tryz.f5 rfl rfl rfl rfl rfl rfl rfl ⟨rfl, rfl, rfl, rfl, rfl⟩ rfl rfl rfl rfl rfl SchemaParts_named Tryz.func5 SchemaParts_joined
    SchemaParts_inst SchemaParts_wrap
    (fun os started H enc _ => SchemaParts_lifted os started H enc)

theorem SchemaParts_holds : Rows.SchemaPartsCardSaid :=
  Claim7.holds_tied_plain_at .later [] [.handle] true Rows.schemaPartsCard.stood.harness true
    SchemaParts_over (fun _ h => by cases h) SchemaParts_wf (fun _ h => by cases h) schemaParts_row_tie rfl ⟨rfl, rfl⟩ SchemaParts_main rfl
    (fun f fn hf hfn => by
      obtain rfl : f = 5 := Option.some.inj (SchemaParts_named.symm.trans hf) |>.symm
      obtain rfl : fn = Tryz.f5 := (Option.some.inj (Tryz.func5.symm.trans hfn)).symm
      exact ⟨SchemaParts_looks, fun j t ht => by
        rw [Tryz.params5] at ht
        have hm := Array.mem_of_getElem? ht
        simp only [List.mem_toArray, List.mem_cons, List.not_mem_nil, or_false] at hm
        rcases hm with rfl | rfl | rfl | rfl
        all_goals exact (show Tryz.prog.wantsStandIn _ = false by kernel_rfl)⟩)
    SchemaParts_goes
#print axioms SchemaParts_holds
end Go.Proofs.YtnolmlhcikcceaaGreatDoor
