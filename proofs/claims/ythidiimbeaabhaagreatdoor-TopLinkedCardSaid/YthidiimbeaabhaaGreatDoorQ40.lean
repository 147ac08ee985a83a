/-
  TopLinked: the closed facts of the frame, one by one.
-/
import Derived.SevenTiedAt
import Derived.Test.YthidiimbeaabhaaGreatDoorCards
set_option maxRecDepth 100000
namespace Go.Proofs.YthidiimbeaabhaaGreatDoor
open Go Go.ChangeShapes Go.WideShapes
theorem fm:Tryz.prog.funcNamed Rows.topLinkedRow.func=some 3:=by kernel_rfl
theorem rC:Rows.topLinkedRow.wfByText (OpenSpec.ofChange Rows.topLinkedSpec)=true:=by kernel_rfl
theorem nk:Tryz.prog.mainIs=some (Rows.topLinkedCard.stood.harness.1,Rows.topLinkedCard.stood.harness.2.toList):=by kernel_rfl
theorem lM:true=Tryz.prog.looks []:=by kernel_rfl
theorem nC:false=Rows.topLinkedRow.goesBy Tryz.prog:=by kernel_rfl
theorem nW:Tryz.f3.isInstance Tryz.prog Rows.topLinkedRow.origin Rows.topLinkedRow.targs:=of_decide_eq_true (by kernel_rfl)
theorem nl:Tryz.f3.isWrapper Tryz.prog Rows.topLinkedRow.wrapper Rows.topLinkedRow.mainSum:=by unfold Func.isWrapper;rw [if_neg (by decide +kernel)];exact⟨rfl,rfl⟩
theorem qR:(Rows.topLinkedRow.wf (OpenSpec.ofChange Rows.topLinkedSpec))=true:=by kernel_rfl
theorem ql:(laidOutB Tryz.prog)=true:=by kernel_rfl
theorem qN:(mapsRowed Tryz.prog)=true:=by kernel_rfl
theorem rI:(Tryz.f3.params.all (Tryz.prog.readableRec ·))=true:=by kernel_rfl
theorem qQ:(namedTie Tryz.prog Rows.topLinkedRow.named Rows.topLinkedSpec.vars)=true:=by kernel_rfl
theorem qS:((Rows.topLinkedRow.stops == []))=true:=by kernel_rfl
theorem q5:((Tryz.prog.stops == []))=true:=by kernel_rfl
theorem rp:((Rows.topLinkedRow.knobs == []))=true:=by kernel_rfl
theorem rn:((Tryz.prog.stopKnobs == []))=true:=by kernel_rfl
theorem o5:((Rows.topLinkedRow.inPlace==Tryz.prog.inPlace 3))=true:=by kernel_rfl
theorem oR:((Rows.topLinkedRow.unfollowed==Tryz.prog.unfollowed 3))=true:=by kernel_rfl
theorem og:((Rows.topLinkedRow.recurses==Tryz.prog.recurses 3))=true:=by kernel_rfl
theorem oo:((Rows.topLinkedRow.named==Tryz.prog.varsNamed 3))=true:=by kernel_rfl
theorem pd:((Rows.topLinkedRow.maps==(Tryz.f3.params.toList ++ Rows.topLinkedSpec.plain.varTypes Tryz.prog).any (Tryz.prog.mapsRec ·)))=true:=by kernel_rfl
theorem oH:((Rows.topLinkedRow.ifaces==(Tryz.f3.params.toList ++ Rows.topLinkedSpec.plain.varTypes Tryz.prog).any (Tryz.prog.ifacesRec ·)))=true:=by kernel_rfl
theorem po:((Rows.topLinkedRow.mapsOut==Tryz.prog.mapsAmong Tryz.f3.resultTypes.toList))=true:=by kernel_rfl
theorem o8:((Rows.topLinkedRow.loops==(Tryz.f3.params.toList ++ Rows.topLinkedSpec.plain.varTypes Tryz.prog).any (Tryz.prog.loopsFrom ·)))=true:=by kernel_rfl
theorem o6:((Rows.topLinkedRow.wideKeys==(Tryz.f3.params.toList ++ Rows.topLinkedSpec.plain.varTypes Tryz.prog ++ Tryz.f3.resultTypes.toList).any (Tryz.prog.wideKeysFrom ·)))=true:=by kernel_rfl
theorem pa:(Rows.topLinkedSpec.vars.all (Tryz.prog.varReadable ·))=true:=by kernel_rfl
theorem oQ:(Tryz.f3.resultTypes.all (λt=>Tryz.prog.readableRec t && decide (t<Tryz.prog.types.size)))=true:=by kernel_rfl
theorem pj:((Rows.topLinkedRow.ifacesOut==Tryz.f3.resultTypes.toList.any (Tryz.prog.ifacesRec ·)))=true:=by kernel_rfl
theorem oZ:((Rows.topLinkedRow.loopsOut==Tryz.f3.resultTypes.toList.any (Tryz.prog.loopsFrom ·)))=true:=by kernel_rfl
theorem oG:((Rows.topLinkedRow.plainKeys==Tryz.prog.plainKeys))=true:=by kernel_rfl
theorem oW:(Rows.topLinkedRow.shortTexts.isNone)=true:=by kernel_rfl
theorem om:(Tryz.prog.stopsHeard)=true:=by kernel_rfl
theorem oD:(Tryz.prog.mayEnter)=true:=by kernel_rfl
theorem oI:((Rows.topLinkedRow.lifted==Tryz.prog.liftsFinal))=true:=by kernel_rfl
theorem pf:((Tryz.prog.make==some Rows.topLinkedRow.make))=true:=by kernel_rfl
theorem oO:((Rows.topLinkedRow.kinds==(if Rows.topLinkedRow.domain.isEmpty then [] else Tryz.f3.params.toList.map λt=>match Tryz.prog.underlying t with|some (.int k)=>some k|_=>none)))=true:=by kernel_rfl
theorem oY:((Rows.topLinkedRow.pinned==Rows.topLinkedRow.pinnedBy))=true:=by kernel_rfl
theorem pq:((Rows.topLinkedRow.veiled==(Tryz.f3.params.toList ++ Rows.topLinkedSpec.plain.varTypes Tryz.prog ++ Tryz.f3.resultTypes.toList).any (Tryz.prog.veiledRec ·)))=true:=by kernel_rfl
theorem ot:(Rows.topLinkedRow.veiledFits Tryz.prog Tryz.f3.params.toList (Tryz.f3.params.toList ++ Rows.topLinkedSpec.plain.varTypes Tryz.prog ++ Tryz.f3.resultTypes.toList))=true:=by kernel_rfl
theorem z6{a b:Bool}(h:a=true)(k:b=true):(a && b)=true:=by rw [h,k];rfl
theorem kQ:joinedFacts Tryz.prog 3 Tryz.f3 Rows.topLinkedSpec Rows.topLinkedRow=true:=by
 unfold joinedFacts;exact(z6 (z6 (z6 (z6 (z6 (z6 (z6 (z6 (z6 (z6 (z6 (z6 (z6 (z6 (z6 (z6 (z6 (z6 (z6 (z6 (z6 (z6 (z6 (z6 (z6 (z6 (z6 (z6 (z6 (z6 (z6 qR ql) qN) rI) qQ) qS) q5) rp) rn) o5) oR) og) oo) pd) oH) po) o8) o6) pa) oQ) pj) oZ) oG) oW) om) oD) oI) pf) oO) oY) pq) ot)
end Go.Proofs.YthidiimbeaabhaaGreatDoor
