/-
  SchemaChecks: the walk of the law.
  SchemaChecks: the closed facts of the frame, one by one.
  SchemaChecks: the frame round the walk: for every input the law returns true, and each argument reads behind the call as it read before. No condition.
-/
import Derived.SevenTiedAt
import Derived.Test.YtnolmlhcikcceaaGreatDoorRows
import Derived.Test.YtnolmlhcikcceaaGreatDoorCards
import Derived.Test.YtnolmlhcikcceaaGreatDoorTie
import Derived.Test.YtnolmlhcikcceaaGreatDoorQs31
namespace Go.Proofs.YtnolmlhcikcceaaGreatDoor
open Go.RowKit Go.Wk Go.Sort
set_option maxRecDepth 100000

set_option maxHeartbeats 4000000 in
theorem SchemaChecks_walk (s : Sc) (A : Option Addr) (n c : Nat) (E : List En) (q : Rq) (w : World) (hs : ScOk w s) (hE : Es w A n c E) (hq : RqOk w q) (hg : Door w) :
    Calls Tryz.prog 4 #[s.v, .slice A n c, q.v] w fun e w' => e = .returned (.bool true) ∧ Below w.heap.size w w' := by
  have C1 := Lib.hid (fun w' (hb : Below w.heap.size w w') => schema_Check s w' (hs.keep hb))
  have C2 := Lib.hid (fun w' (hb : Below w.heap.size w w') => ref_SchemaFault s w' (hs.keep hb))
  have C3 := Lib.hid (fun w' (hb : Below w.heap.size w w') => schema_Store s A n c E w' (hs.keep hb) (hE.keep hb))
  have C4 := Lib.hid (fun w' (hb : Below w.heap.size w w') => ref_StoreFits s A n c E w' (hs.keep hb) (hE.keep hb))
  have C5 := Lib.hid (fun w' (hb : Below w.heap.size w w') => schema_Asks s q w' (hs.keep hb) (hq.keep hb))
  have C6 := Lib.hid (fun w' (hb : Below w.heap.size w w') => ref_AskFits s q w' (hs.keep hb) (hq.keep hb))
  have HE : Hid (∀ n k w', Below w.heap.size w w' → Calls Tryz.prog 8 #[errV n, .int .i64 k] w' fun e w'' => e = .returned (.bool (n == k)) ∧ Below w'.heap.size w' w'') := Lib.hid (fun n k w' hb => same_Error n k w' (hg.keep hb))
  have HT : Hid (∀ n w', Below w.heap.size w w' → Calls Tryz.prog 8 #[errV n, .int .i64 n] w' fun e w'' => e = .returned (.bool true) ∧ Below w'.heap.size w' w'') := Lib.hid (fun n w' hb => by have := HE.out n n w' hb; rwa [beq_self_eq_true] at this)
  unfold Sc.v at C1 C2 C3 C4 C5 C6 ⊢
  unfold Rq.v at C5 C6 ⊢
  generalize schF s.k s.a = r1 at *
  generalize stoF s.k s.a E = r2 at *
  generalize asksF actionT s.k s.a q.who q.act q.what q.P = r3 at *
  have V0 := Lib.hid (vs_new w s 25)
  have b0 := below_box w (.cells #[.slice s.KA s.kn s.kc, .slice s.AA s.an s.ac] 25)
  have hz : (w.alloc (.cells #[.slice s.KA s.kn s.kc, .slice s.AA s.an s.ac] 25)).heap.size = w.heap.size + 1 := by simp
  have W0 := vq_new (w.alloc (.cells #[.slice s.KA s.kn s.kc, .slice s.AA s.an s.ac] 25)) q 48
  rw [hz] at W0
  have W1 := Lib.hid W0
  have bb := below_box (w.alloc (.cells #[.slice s.KA s.kn s.kc, .slice s.AA s.an s.ac] 25)) (.cells #[.string q.who.1, .string q.who.2, .string q.act.1, .string q.act.2, .string q.what.1, .string q.what.2, .slice q.NA q.nn q.nc] 48)
  have V1 := Lib.hid (V0.out.keep bb)
  have B1 := Lib.hid (b0.trans (bb.mono b0.size))
  clear hs hE hq hg b0 bb hz W0 V0
  go_enter Tryz.func4, Tryz.ntmps4
  go_wp2_with fail
  obtain ⟨w1, hw1⟩ : ∃ w1, (w.alloc (.cells #[.slice s.KA s.kn s.kc, .slice s.AA s.an s.ac] 25)).alloc (.cells #[.string q.who.1, .string q.who.2, .string q.act.1, .string q.act.2, .string q.what.1, .string q.what.2, .slice q.NA q.nn q.nc] 48) = w1 := ⟨_, rfl⟩
  rw [hw1] at V1 W1 B1 ⊢
  clear hw1
  have R1 := rq (w := w1) (fun w' hb => C1.out w' (B1.out.trans (hb.mono B1.out.size)))
  have R2 := rq (w := w1) (fun w' hb => C2.out w' (B1.out.trans (hb.mono B1.out.size)))
  have R3 := rq (w := w1) (fun w' hb => HT.out r1 w' (B1.out.trans (hb.mono B1.out.size)))
  obtain ⟨v0, v1⟩ := V1.out
  obtain ⟨c0, c1, c2, c3, c4, c5, c6⟩ := W1.out
  have k0 := cell_regrown v0
  have k1 := cell_regrown v1
  have m0 := cell_regrown c0
  have m1 := cell_regrown c1
  have m2 := cell_regrown c2
  have m3 := cell_regrown c3
  have m4 := cell_regrown c4
  have m5 := cell_regrown c5
  have m6 := cell_regrown c6
  refine wp_region_quiet_below (by kernel_rfl) (by kernel_rfl) ?_
  repeat (first | go_big_quiet_step (first | with_reducible exact R1 _ _ | with_reducible exact R2 _ _ | with_reducible exact R3 _ _) | quiet_step (first | with_reducible exact R1 _ _ | with_reducible exact R2 _ _ | with_reducible exact R3 _ _))
  refine wpQuiet_nil ?_
  intro w2 hw'
  have b2 := Lib.hid (show Below w1.heap.size w1 w2 by obtain ⟨⟨d, os⟩, rfl⟩ := hw'; exact below_regrown _ _ _)
  clear hw'
  have B2 := Lib.hid (B1.out.trans (b2.out.mono B1.out.size))
  have V2 := Lib.hid (V1.out.keep b2.out)
  have W2 := Lib.hid (W1.out.keep b2.out)
  clear b2 B1 V1 W1 v0 v1 c0 c1 c2 c3 c4 c5 c6 k0 k1 m0 m1 m2 m3 m4 m5 m6 R1 R2 R3
  have R1 := rq (w := w2) (fun w' hb => C3.out w' (B2.out.trans (hb.mono B2.out.size)))
  have R2 := rq (w := w2) (fun w' hb => C4.out w' (B2.out.trans (hb.mono B2.out.size)))
  have R3 := rq (w := w2) (fun w' hb => HT.out r2 w' (B2.out.trans (hb.mono B2.out.size)))
  obtain ⟨v0, v1⟩ := V2.out
  obtain ⟨c0, c1, c2, c3, c4, c5, c6⟩ := W2.out
  have k0 := cell_regrown v0
  have k1 := cell_regrown v1
  have m0 := cell_regrown c0
  have m1 := cell_regrown c1
  have m2 := cell_regrown c2
  have m3 := cell_regrown c3
  have m4 := cell_regrown c4
  have m5 := cell_regrown c5
  have m6 := cell_regrown c6
  go_wp2_with fail
  refine wp_region_quiet_below (by kernel_rfl) (by kernel_rfl) ?_
  repeat (first | go_big_quiet_step (first | with_reducible exact R1 _ _ | with_reducible exact R2 _ _ | with_reducible exact R3 _ _) | quiet_step (first | with_reducible exact R1 _ _ | with_reducible exact R2 _ _ | with_reducible exact R3 _ _))
  refine wpQuiet_nil ?_
  intro w3 hw'
  have b3 := Lib.hid (show Below w2.heap.size w2 w3 by obtain ⟨⟨d, os⟩, rfl⟩ := hw'; exact below_regrown _ _ _)
  clear hw'
  have B3 := Lib.hid (B2.out.trans (b3.out.mono B2.out.size))
  have V3 := Lib.hid (V2.out.keep b3.out)
  have W3 := Lib.hid (W2.out.keep b3.out)
  clear b3 B2 V2 W2 v0 v1 c0 c1 c2 c3 c4 c5 c6 k0 k1 m0 m1 m2 m3 m4 m5 m6 R1 R2 R3
  have R1 := rq (w := w3) (fun w' hb => C5.out w' (B3.out.trans (hb.mono B3.out.size)))
  have R2 := rq (w := w3) (fun w' hb => C6.out w' (B3.out.trans (hb.mono B3.out.size)))
  have R3 := rq (w := w3) (fun w' hb => HT.out r3 w' (B3.out.trans (hb.mono B3.out.size)))
  obtain ⟨v0, v1⟩ := V3.out
  obtain ⟨c0, c1, c2, c3, c4, c5, c6⟩ := W3.out
  have k0 := cell_regrown v0
  have k1 := cell_regrown v1
  have m0 := cell_regrown c0
  have m1 := cell_regrown c1
  have m2 := cell_regrown c2
  have m3 := cell_regrown c3
  have m4 := cell_regrown c4
  have m5 := cell_regrown c5
  have m6 := cell_regrown c6
  go_wp2_with fail
  refine wp_region_quiet_below (by kernel_rfl) (by kernel_rfl) ?_
  repeat (first | go_big_quiet_step (first | with_reducible exact R1 _ _ | with_reducible exact R2 _ _ | with_reducible exact R3 _ _) | quiet_step (first | with_reducible exact R1 _ _ | with_reducible exact R2 _ _ | with_reducible exact R3 _ _))
  refine wpQuiet_nil ?_
  intro w4 hw'
  have b4 := Lib.hid (show Below w3.heap.size w3 w4 by obtain ⟨⟨d, os⟩, rfl⟩ := hw'; exact below_regrown _ _ _)
  clear hw'
  have B4 := Lib.hid (B3.out.trans (b4.out.mono B3.out.size))
  have V4 := Lib.hid (V3.out.keep b4.out)
  have W4 := Lib.hid (W3.out.keep b4.out)
  clear b4 B3 V3 W3 v0 v1 c0 c1 c2 c3 c4 c5 c6 k0 k1 m0 m1 m2 m3 m4 m5 m6 R1 R2 R3
  have C7 := Lib.hid (law_lostN w4 w4.heap.size rfl)
  go_wp2_with fail
  refine C7.out.mono ?_
  rintro e w5 ⟨rfl, b5⟩
  have B5 := bh B4 b5
  go_wp2_with fail
  refine (HT.out _ _ B5.out).mono ?_
  rintro e w6 ⟨rfl, b6⟩
  have B6 := bh B5 b6
  go_wp2_with fail
  go_ret
  exact ⟨rfl, B6.out⟩
end Go.Proofs.YtnolmlhcikcceaaGreatDoor
namespace Go.Proofs.YtnolmlhcikcceaaGreatDoor
open Go Go.ChangeShapes Go.WideShapes
theorem SchemaChecks_named : Tryz.prog.funcNamed Rows.schemaChecksRow.func = some 4 := by kernel_rfl
theorem SchemaChecks_wf : Rows.schemaChecksRow.wfByText (OpenSpec.ofChange Rows.schemaChecksSpec) = true := by kernel_rfl
theorem SchemaChecks_main : Tryz.prog.mainIs = some (Rows.schemaChecksCard.stood.harness.1, Rows.schemaChecksCard.stood.harness.2.toList) := by kernel_rfl
theorem SchemaChecks_looks : true = Tryz.prog.looks [] := by kernel_rfl
theorem SchemaChecks_goes : false = Rows.schemaChecksRow.goesBy Tryz.prog := by kernel_rfl
theorem SchemaChecks_inst : Tryz.f4.isInstance Tryz.prog Rows.schemaChecksRow.origin Rows.schemaChecksRow.targs := of_decide_eq_true (by kernel_rfl)
theorem SchemaChecks_wrap : Tryz.f4.isWrapper Tryz.prog Rows.schemaChecksRow.wrapper Rows.schemaChecksRow.mainSum := by unfold Func.isWrapper; rw [if_neg (by decide +kernel)]; exact ⟨rfl, rfl⟩
theorem SchemaChecks_j1 : (Rows.schemaChecksRow.wf (OpenSpec.ofChange Rows.schemaChecksSpec)) = true := by kernel_rfl
theorem SchemaChecks_j2 : (laidOutB Tryz.prog) = true := by kernel_rfl
theorem SchemaChecks_j3 : (mapsRowed Tryz.prog) = true := by kernel_rfl
theorem SchemaChecks_j4 : (Tryz.f4.params.all (Tryz.prog.readableRec ·)) = true := by kernel_rfl
theorem SchemaChecks_j5 : (namedTie Tryz.prog Rows.schemaChecksRow.named Rows.schemaChecksSpec.vars) = true := by kernel_rfl
theorem SchemaChecks_j6 : ((Rows.schemaChecksRow.stops == [])) = true := by kernel_rfl
theorem SchemaChecks_j7 : ((Tryz.prog.stops == [])) = true := by kernel_rfl
theorem SchemaChecks_j8 : ((Rows.schemaChecksRow.knobs == [])) = true := by kernel_rfl
theorem SchemaChecks_j9 : ((Tryz.prog.stopKnobs == [])) = true := by kernel_rfl
theorem SchemaChecks_j10 : ((Rows.schemaChecksRow.inPlace == Tryz.prog.inPlace 4)) = true := by kernel_rfl
theorem SchemaChecks_j11 : ((Rows.schemaChecksRow.unfollowed == Tryz.prog.unfollowed 4)) = true := by kernel_rfl
theorem SchemaChecks_j12 : ((Rows.schemaChecksRow.recurses == Tryz.prog.recurses 4)) = true := by kernel_rfl
theorem SchemaChecks_j13 : ((Rows.schemaChecksRow.named == Tryz.prog.varsNamed 4)) = true := by kernel_rfl
theorem SchemaChecks_j14 : ((Rows.schemaChecksRow.maps == (Tryz.f4.params.toList ++ Rows.schemaChecksSpec.plain.varTypes Tryz.prog).any (Tryz.prog.mapsRec ·))) = true := by kernel_rfl
theorem SchemaChecks_j15 : ((Rows.schemaChecksRow.ifaces == (Tryz.f4.params.toList ++ Rows.schemaChecksSpec.plain.varTypes Tryz.prog).any (Tryz.prog.ifacesRec ·))) = true := by kernel_rfl
theorem SchemaChecks_j16 : ((Rows.schemaChecksRow.mapsOut == Tryz.prog.mapsAmong Tryz.f4.resultTypes.toList)) = true := by kernel_rfl
theorem SchemaChecks_j17 : ((Rows.schemaChecksRow.loops == (Tryz.f4.params.toList ++ Rows.schemaChecksSpec.plain.varTypes Tryz.prog).any (Tryz.prog.loopsFrom ·))) = true := by kernel_rfl
theorem SchemaChecks_j18 : ((Rows.schemaChecksRow.wideKeys == (Tryz.f4.params.toList ++ Rows.schemaChecksSpec.plain.varTypes Tryz.prog ++ Tryz.f4.resultTypes.toList).any (Tryz.prog.wideKeysFrom ·))) = true := by kernel_rfl
theorem SchemaChecks_j19 : (Rows.schemaChecksSpec.vars.all (Tryz.prog.varReadable ·)) = true := by kernel_rfl
theorem SchemaChecks_j20 : (Tryz.f4.resultTypes.all (fun t => Tryz.prog.readableRec t && decide (t < Tryz.prog.types.size))) = true := by kernel_rfl
theorem SchemaChecks_j21 : ((Rows.schemaChecksRow.ifacesOut == Tryz.f4.resultTypes.toList.any (Tryz.prog.ifacesRec ·))) = true := by kernel_rfl
theorem SchemaChecks_j22 : ((Rows.schemaChecksRow.loopsOut == Tryz.f4.resultTypes.toList.any (Tryz.prog.loopsFrom ·))) = true := by kernel_rfl
theorem SchemaChecks_j23 : ((Rows.schemaChecksRow.plainKeys == Tryz.prog.plainKeys)) = true := by kernel_rfl
theorem SchemaChecks_j24 : (Rows.schemaChecksRow.shortTexts.isNone) = true := by kernel_rfl
theorem SchemaChecks_j25 : (Tryz.prog.stopsHeard) = true := by kernel_rfl
theorem SchemaChecks_j26 : (Tryz.prog.mayEnter) = true := by kernel_rfl
theorem SchemaChecks_j27 : ((Rows.schemaChecksRow.lifted == Tryz.prog.liftsFinal)) = true := by kernel_rfl
theorem SchemaChecks_j28 : ((Tryz.prog.make == some Rows.schemaChecksRow.make)) = true := by kernel_rfl
theorem SchemaChecks_j29 : ((Rows.schemaChecksRow.kinds == (if Rows.schemaChecksRow.domain.isEmpty then [] else Tryz.f4.params.toList.map fun t => match Tryz.prog.underlying t with | some (.int k) => some k | _ => none))) = true := by kernel_rfl
theorem SchemaChecks_j30 : ((Rows.schemaChecksRow.pinned == Rows.schemaChecksRow.pinnedBy)) = true := by kernel_rfl
theorem SchemaChecks_j31 : ((Rows.schemaChecksRow.veiled == (Tryz.f4.params.toList ++ Rows.schemaChecksSpec.plain.varTypes Tryz.prog ++ Tryz.f4.resultTypes.toList).any (Tryz.prog.veiledRec ·))) = true := by kernel_rfl
theorem SchemaChecks_j32 : (Rows.schemaChecksRow.veiledFits Tryz.prog Tryz.f4.params.toList (Tryz.f4.params.toList ++ Rows.schemaChecksSpec.plain.varTypes Tryz.prog ++ Tryz.f4.resultTypes.toList)) = true := by kernel_rfl
theorem and_two {a b : Bool} (h : a = true) (k : b = true) : (a && b) = true := by rw [h, k]; rfl
set_option maxRecDepth 100000 in
theorem SchemaChecks_joined : joinedFacts Tryz.prog 4 Tryz.f4 Rows.schemaChecksSpec Rows.schemaChecksRow = true := by
  unfold joinedFacts
  exact (and_two (and_two (and_two (and_two (and_two (and_two (and_two (and_two (and_two (and_two (and_two (and_two (and_two (and_two (and_two (and_two (and_two (and_two (and_two (and_two (and_two (and_two (and_two (and_two (and_two (and_two (and_two (and_two (and_two (and_two (and_two SchemaChecks_j1 SchemaChecks_j2) SchemaChecks_j3) SchemaChecks_j4) SchemaChecks_j5) SchemaChecks_j6) SchemaChecks_j7) SchemaChecks_j8) SchemaChecks_j9) SchemaChecks_j10) SchemaChecks_j11) SchemaChecks_j12) SchemaChecks_j13) SchemaChecks_j14) SchemaChecks_j15) SchemaChecks_j16) SchemaChecks_j17) SchemaChecks_j18) SchemaChecks_j19) SchemaChecks_j20) SchemaChecks_j21) SchemaChecks_j22) SchemaChecks_j23) SchemaChecks_j24) SchemaChecks_j25) SchemaChecks_j26) SchemaChecks_j27) SchemaChecks_j28) SchemaChecks_j29) SchemaChecks_j30) SchemaChecks_j31) SchemaChecks_j32)
end Go.Proofs.YtnolmlhcikcceaaGreatDoor
namespace Go.Proofs.YtnolmlhcikcceaaGreatDoor
open Go Go.ChangeShapes Go.WideShapes Go.ChangeAt Go.RowKit Go.Wk
open Go.ChangeMaps (open_string)

set_option maxRecDepth 100000 in
theorem SchemaChecks_lifted (os : Os) (started : os.Started) (H : Type) (enc : TypeId × Value → H) :
    ReturnsInHanded {} Tryz.checked os 4 .any (fun w args => (Rows.schemaChecksSpec.pre enc Tryz.prog Tryz.f4 [] false w args ∧ laidMetH Tryz.prog laidList w) ∧ sizedMet enc Tryz.prog Tryz.f4 (OpenSpec.ofChange Rows.schemaChecksSpec) false w args) (Rows.schemaChecksSpec.post enc Tryz.prog Tryz.f4 false true false false) := by
  refine returnsInHanded_of_change_and (C := Tryz.checked) (X := fun w _ => laidMetH Tryz.prog laidList w) (fun _ _ _ hh h => h.of_heap hh) own started (by kernel_rfl) Tryz.func4
    (ChangeSpec.witness_at (enc := enc) (C := Tryz.checked) (os := os) (X := fun w _ => laidMetH Tryz.prog laidList w) false (laidWorld os) #[.agg #[.slice none 0 0, .slice none 0 0], .slice none 0 0, .agg #[.string ⟨#[]⟩, .string ⟨#[]⟩, .string ⟨#[]⟩, .string ⟨#[]⟩, .string ⟨#[]⟩, .string ⟨#[]⟩, .slice none 0 0]] 8 rfl (by kernel_rfl) (by kernel_rfl) (by kernel_rfl) (by kernel_rfl) (by kernel_rfl) (laidWorld_met os _)) ?_
  intro W base args ds gs before hval0 hW _ _ hL _
  have hg := handle_of_laid hL
  have hval : ∀ (j : Nat) t v, Tryz.f4.params[j]? = some t → args[j]? = some v → Value.okWide Tryz.prog W .any base t v := hval0
  have hW0 := hW
  obtain ⟨p, q, hA0, _, _, _, _⟩ := hW
  have hA : DataW.TrodAll enc Tryz.prog W 0 (fun _ => true) true Tryz.f4.params.toList args.toList ds p := hA0
  rw [Tryz.params4] at hA hval
  clear hA0 hval0
  obtain ⟨v0, vs0, d0, ds0, p0, q0, hargs, rfl, rfl, h0, r0⟩ := trodAll_cons hA
  obtain ⟨v1, vs1, d1, ds1, p1, q1, rfl, rfl, rfl, h1, r1⟩ := trodAll_cons r0
  obtain ⟨v2, vs2, d2, ds2, p2, q2, rfl, rfl, rfl, h2, r2⟩ := trodAll_cons r1
  obtain ⟨rfl, rfl, rfl⟩ := trodAll_nil r2
  obtain ⟨args⟩ := args
  simp only at hargs
  subst hargs
  obtain ⟨x0, rfl, sx0⟩ := open_schema (hval 0 25 v0 rfl rfl) h0
  obtain ⟨A1, n1, c1, E1, rfl, sx1⟩ := open_ents (hval 1 26 v1 rfl rfl) h1
  obtain ⟨x2, rfl, sx2⟩ := open_request (hval 2 48 v2 rfl rfl) h2
  refine (SchemaChecks_walk x0 A1 n1 c1 E1 x2 W sx0 sx1 sx2 hg).mono fun e W' ⟨he, hb'⟩ => ?_
  subst he
  refine ⟨_, rfl, law_post laidOut (by kernel_rfl) (by rfl) Tryz.underlying4 rfl ?_ hW0 hb'⟩
  intro ds hlen
  rw [Tryz.params4] at hlen
  match ds, hlen with
  | [e0, e1, e2], _ => rfl

theorem SchemaChecks_over : Rows.schemaChecksRow.holds Tryz.pinned (OpenSpec.ofChange Rows.schemaChecksSpec) :=
  OpenClaim.holds_of_wide 4 Tryz.f4 rfl rfl rfl rfl rfl rfl rfl ⟨rfl, rfl, rfl, rfl, rfl⟩ rfl rfl rfl rfl rfl SchemaChecks_named Tryz.func4 SchemaChecks_joined
    SchemaChecks_inst SchemaChecks_wrap
    (fun os started H enc _ => SchemaChecks_lifted os started H enc)

theorem SchemaChecks_holds : Rows.SchemaChecksCardSaid :=
  Claim7.holds_tied_plain_at .later [] [.handle] true Rows.schemaChecksCard.stood.harness true
    SchemaChecks_over (fun _ h => by cases h) SchemaChecks_wf (fun _ h => by cases h) schemaChecks_row_tie rfl ⟨rfl, rfl⟩ SchemaChecks_main rfl
    (fun f fn hf hfn => by
      obtain rfl : f = 4 := Option.some.inj (SchemaChecks_named.symm.trans hf) |>.symm
      obtain rfl : fn = Tryz.f4 := (Option.some.inj (Tryz.func4.symm.trans hfn)).symm
      exact ⟨SchemaChecks_looks, fun j t ht => by
        rw [Tryz.params4] at ht
        have hm := Array.mem_of_getElem? ht
        simp only [List.mem_toArray, List.mem_cons, List.not_mem_nil, or_false] at hm
        rcases hm with rfl | rfl | rfl
        all_goals exact (show Tryz.prog.wantsStandIn _ = false by kernel_rfl)⟩)
    SchemaChecks_goes
#print axioms SchemaChecks_holds
end Go.Proofs.YtnolmlhcikcceaaGreatDoor
