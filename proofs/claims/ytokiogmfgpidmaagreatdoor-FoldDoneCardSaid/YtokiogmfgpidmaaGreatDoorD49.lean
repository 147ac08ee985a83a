/-
  FoldDone: the closed facts of the frame, one by one.
-/
import Derived.SevenTiedAt
import Derived.Test.YtokiogmfgpidmaaGreatDoorCards
set_option maxRecDepth 100000
namespace Go.Proofs.YtokiogmfgpidmaaGreatDoor
open Go Go.ChangeShapes Go.WideShapes
theorem Nz:Tryz.prog.funcNamed Rows.foldDoneRow.func=some 3:=by kernel_rfl
theorem zaL:Rows.foldDoneRow.wfByText (OpenSpec.ofChange Rows.foldDoneSpec)=true:=by kernel_rfl
theorem VW:Tryz.prog.mainIs=some (Rows.foldDoneCard.stood.harness.1,Rows.foldDoneCard.stood.harness.2.toList):=by kernel_rfl
theorem TC:true=Tryz.prog.looks []:=by kernel_rfl
theorem Wn:false=Rows.foldDoneRow.goesBy Tryz.prog:=by kernel_rfl
theorem Wm:Tryz.f3.isInstance Tryz.prog Rows.foldDoneRow.origin Rows.foldDoneRow.targs:=of_decide_eq_true (by kernel_rfl)
theorem Wh:Tryz.f3.isWrapper Tryz.prog Rows.foldDoneRow.wrapper Rows.foldDoneRow.mainSum:=by unfold Func.isWrapper;rw [if_neg (by decide +kernel)];exact⟨rfl,rfl⟩
theorem zce:(Rows.foldDoneRow.wf (OpenSpec.ofChange Rows.foldDoneSpec))=true:=by kernel_rfl
theorem zaQ:(laidOutB Tryz.prog)=true:=by kernel_rfl
theorem zaS:(mapsRowed Tryz.prog)=true:=by kernel_rfl
theorem zb1:(Tryz.f3.params.all (Tryz.prog.readableRec ·))=true:=by kernel_rfl
theorem zcg:(namedTie Tryz.prog Rows.foldDoneRow.named Rows.foldDoneSpec.vars)=true:=by kernel_rfl
theorem zaN:((Rows.foldDoneRow.stops == []))=true:=by kernel_rfl
theorem zao:((Tryz.prog.stops == []))=true:=by kernel_rfl
theorem zbI:((Rows.foldDoneRow.knobs == []))=true:=by kernel_rfl
theorem zar:((Tryz.prog.stopKnobs == []))=true:=by kernel_rfl
theorem YC:((Rows.foldDoneRow.inPlace==Tryz.prog.inPlace 3))=true:=by kernel_rfl
theorem XM:((Rows.foldDoneRow.unfollowed==Tryz.prog.unfollowed 3))=true:=by kernel_rfl
theorem Za:((Rows.foldDoneRow.recurses==Tryz.prog.recurses 3))=true:=by kernel_rfl
theorem YI:((Rows.foldDoneRow.named==Tryz.prog.varsNamed 3))=true:=by kernel_rfl
theorem XJ:((Rows.foldDoneRow.maps==(Tryz.f3.params.toList ++ Rows.foldDoneSpec.plain.varTypes Tryz.prog).any (Tryz.prog.mapsRec ·)))=true:=by kernel_rfl
theorem Yg:((Rows.foldDoneRow.ifaces==(Tryz.f3.params.toList ++ Rows.foldDoneSpec.plain.varTypes Tryz.prog).any (Tryz.prog.ifacesRec ·)))=true:=by kernel_rfl
theorem Zk:((Rows.foldDoneRow.mapsOut==Tryz.prog.mapsAmong Tryz.f3.resultTypes.toList))=true:=by kernel_rfl
theorem Zv:((Rows.foldDoneRow.loops==(Tryz.f3.params.toList ++ Rows.foldDoneSpec.plain.varTypes Tryz.prog).any (Tryz.prog.loopsFrom ·)))=true:=by kernel_rfl
theorem Yf:((Rows.foldDoneRow.wideKeys==(Tryz.f3.params.toList ++ Rows.foldDoneSpec.plain.varTypes Tryz.prog ++ Tryz.f3.resultTypes.toList).any (Tryz.prog.wideKeysFrom ·)))=true:=by kernel_rfl
theorem Zi:(Rows.foldDoneSpec.vars.all (Tryz.prog.varReadable ·))=true:=by kernel_rfl
theorem YR:(Tryz.f3.resultTypes.all (λt=>Tryz.prog.readableRec t && decide (t<Tryz.prog.types.size)))=true:=by kernel_rfl
theorem Zc:((Rows.foldDoneRow.ifacesOut==Tryz.f3.resultTypes.toList.any (Tryz.prog.ifacesRec ·)))=true:=by kernel_rfl
theorem X8:((Rows.foldDoneRow.loopsOut==Tryz.f3.resultTypes.toList.any (Tryz.prog.loopsFrom ·)))=true:=by kernel_rfl
theorem YX:((Rows.foldDoneRow.plainKeys==Tryz.prog.plainKeys))=true:=by kernel_rfl
theorem Y9:(Rows.foldDoneRow.shortTexts.isNone)=true:=by kernel_rfl
theorem YL:(Tryz.prog.stopsHeard)=true:=by kernel_rfl
theorem Zm:(Tryz.prog.mayEnter)=true:=by kernel_rfl
theorem Zd:((Rows.foldDoneRow.lifted==Tryz.prog.liftsFinal))=true:=by kernel_rfl
theorem X':((Tryz.prog.make==some Rows.foldDoneRow.make))=true:=by kernel_rfl
theorem Zq:((Rows.foldDoneRow.kinds==(if Rows.foldDoneRow.domain.isEmpty then [] else Tryz.f3.params.toList.map λt=>match Tryz.prog.underlying t with|some (.int k)=>some k|_=>none)))=true:=by kernel_rfl
theorem Y':((Rows.foldDoneRow.pinned==Rows.foldDoneRow.pinnedBy))=true:=by kernel_rfl
theorem YD:((Rows.foldDoneRow.veiled==(Tryz.f3.params.toList ++ Rows.foldDoneSpec.plain.varTypes Tryz.prog ++ Tryz.f3.resultTypes.toList).any (Tryz.prog.veiledRec ·)))=true:=by kernel_rfl
theorem Yv:(Rows.foldDoneRow.veiledFits Tryz.prog Tryz.f3.params.toList (Tryz.f3.params.toList ++ Rows.foldDoneSpec.plain.varTypes Tryz.prog ++ Tryz.f3.resultTypes.toList))=true:=by kernel_rfl
theorem jr{a b:Bool}(h:a=true)(k:b=true):(a && b)=true:=by rw [h,k];rfl
theorem Sw:joinedFacts Tryz.prog 3 Tryz.f3 Rows.foldDoneSpec Rows.foldDoneRow=true:=by
 unfold joinedFacts;exact(jr (jr (jr (jr (jr (jr (jr (jr (jr (jr (jr (jr (jr (jr (jr (jr (jr (jr (jr (jr (jr (jr (jr (jr (jr (jr (jr (jr (jr (jr (jr zce zaQ) zaS) zb1) zcg) zaN) zao) zbI) zar) YC) XM) Za) YI) XJ) Yg) Zk) Zv) Yf) Zi) YR) Zc) X8) YX) Y9) YL) Zm) Zd) X') Zq) Y') YD) Yv)
end Go.Proofs.YtokiogmfgpidmaaGreatDoor
