/-
  FoldSame: the closed facts of the frame, one by one. From the condition on the ..
-/
import Derived.Test.YtokiogmfgpidmaaGreatDoorCards
import Derived.Test.YtokiogmfgpidmaaGreatDoorTie
import Derived.Test.YtokiogmfgpidmaaGreatDoorQ38
set_option maxRecDepth 100000
namespace Go.Proofs.YtokiogmfgpidmaaGreatDoor
open Go Go.ChangeShapes Go.WideShapes
theorem fo:Tryz.prog.funcNamed Rows.foldSameRow.func=some 4:=by kernel_rfl
theorem sV:Rows.foldSameRow.wfByText (OpenSpec.ofChange Rows.foldSameSpec)=true:=by kernel_rfl
theorem pg:Tryz.prog.mainIs=some (Rows.foldSameCard.stood.harness.1,Rows.foldSameCard.stood.harness.2.toList):=by kernel_rfl
theorem mg:true=Tryz.prog.looks []:=by kernel_rfl
theorem o8:false=Rows.foldSameRow.goesBy Tryz.prog:=by kernel_rfl
theorem oM:Tryz.f4.isInstance Tryz.prog Rows.foldSameRow.origin Rows.foldSameRow.targs:=of_decide_eq_true (by kernel_rfl)
theorem oN:Tryz.f4.isWrapper Tryz.prog Rows.foldSameRow.wrapper Rows.foldSameRow.mainSum:=by unfold Func.isWrapper;rw [if_neg (by decide +kernel)];exact⟨rfl,rfl⟩
theorem tp:(Rows.foldSameRow.wf (OpenSpec.ofChange Rows.foldSameSpec))=true:=by kernel_rfl
theorem vj:(laidOutB Tryz.prog)=true:=by kernel_rfl
theorem vJ:(mapsRowed Tryz.prog)=true:=by kernel_rfl
theorem vp:(Tryz.f4.params.all (Tryz.prog.readableRec ·))=true:=by kernel_rfl
theorem t7:(namedTie Tryz.prog Rows.foldSameRow.named Rows.foldSameSpec.vars)=true:=by kernel_rfl
theorem tt:((Rows.foldSameRow.stops == []))=true:=by kernel_rfl
theorem tP:((Tryz.prog.stops == []))=true:=by kernel_rfl
theorem uY:((Rows.foldSameRow.knobs == []))=true:=by kernel_rfl
theorem uG:((Tryz.prog.stopKnobs == []))=true:=by kernel_rfl
theorem rY:((Rows.foldSameRow.inPlace==Tryz.prog.inPlace 4))=true:=by kernel_rfl
theorem sr:((Rows.foldSameRow.unfollowed==Tryz.prog.unfollowed 4))=true:=by kernel_rfl
theorem qG:((Rows.foldSameRow.recurses==Tryz.prog.recurses 4))=true:=by kernel_rfl
theorem qx:((Rows.foldSameRow.named==Tryz.prog.varsNamed 4))=true:=by kernel_rfl
theorem qu:((Rows.foldSameRow.maps==(Tryz.f4.params.toList ++ Rows.foldSameSpec.plain.varTypes Tryz.prog).any (Tryz.prog.mapsRec ·)))=true:=by kernel_rfl
theorem qE:((Rows.foldSameRow.ifaces==(Tryz.f4.params.toList ++ Rows.foldSameSpec.plain.varTypes Tryz.prog).any (Tryz.prog.ifacesRec ·)))=true:=by kernel_rfl
theorem rU:((Rows.foldSameRow.mapsOut==Tryz.prog.mapsAmong Tryz.f4.resultTypes.toList))=true:=by kernel_rfl
theorem rB:((Rows.foldSameRow.loops==(Tryz.f4.params.toList ++ Rows.foldSameSpec.plain.varTypes Tryz.prog).any (Tryz.prog.loopsFrom ·)))=true:=by kernel_rfl
theorem rF:((Rows.foldSameRow.wideKeys==(Tryz.f4.params.toList ++ Rows.foldSameSpec.plain.varTypes Tryz.prog ++ Tryz.f4.resultTypes.toList).any (Tryz.prog.wideKeysFrom ·)))=true:=by kernel_rfl
theorem qB:(Rows.foldSameSpec.vars.all (Tryz.prog.varReadable ·))=true:=by kernel_rfl
theorem rj:(Tryz.f4.resultTypes.all (λt=>Tryz.prog.readableRec t && decide (t<Tryz.prog.types.size)))=true:=by kernel_rfl
theorem qO:((Rows.foldSameRow.ifacesOut==Tryz.f4.resultTypes.toList.any (Tryz.prog.ifacesRec ·)))=true:=by kernel_rfl
theorem rD:((Rows.foldSameRow.loopsOut==Tryz.f4.resultTypes.toList.any (Tryz.prog.loopsFrom ·)))=true:=by kernel_rfl
theorem sx:((Rows.foldSameRow.plainKeys==Tryz.prog.plainKeys))=true:=by kernel_rfl
theorem sJ:(Rows.foldSameRow.shortTexts.isNone)=true:=by kernel_rfl
theorem qK:(Tryz.prog.stopsHeard)=true:=by kernel_rfl
theorem rl:(Tryz.prog.mayEnter)=true:=by kernel_rfl
theorem qZ:((Rows.foldSameRow.lifted==Tryz.prog.liftsFinal))=true:=by kernel_rfl
theorem rQ:((Tryz.prog.make==some Rows.foldSameRow.make))=true:=by kernel_rfl
theorem sH:((Rows.foldSameRow.kinds==(if Rows.foldSameRow.domain.isEmpty then [] else Tryz.f4.params.toList.map λt=>match Tryz.prog.underlying t with|some (.int k)=>some k|_=>none)))=true:=by kernel_rfl
theorem qF:((Rows.foldSameRow.pinned==Rows.foldSameRow.pinnedBy))=true:=by kernel_rfl
theorem rz:((Rows.foldSameRow.veiled==(Tryz.f4.params.toList ++ Rows.foldSameSpec.plain.varTypes Tryz.prog ++ Tryz.f4.resultTypes.toList).any (Tryz.prog.veiledRec ·)))=true:=by kernel_rfl
theorem re:(Rows.foldSameRow.veiledFits Tryz.prog Tryz.f4.params.toList (Tryz.f4.params.toList ++ Rows.foldSameSpec.plain.varTypes Tryz.prog ++ Tryz.f4.resultTypes.toList))=true:=by kernel_rfl
theorem z8{a b:Bool}(h:a=true)(k:b=true):(a && b)=true:=by rw [h,k];rfl
theorem lG:joinedFacts Tryz.prog 4 Tryz.f4 Rows.foldSameSpec Rows.foldSameRow=true:=by
 unfold joinedFacts;exact(z8 (z8 (z8 (z8 (z8 (z8 (z8 (z8 (z8 (z8 (z8 (z8 (z8 (z8 (z8 (z8 (z8 (z8 (z8 (z8 (z8 (z8 (z8 (z8 (z8 (z8 (z8 (z8 (z8 (z8 (z8 tp vj) vJ) vp) t7) tt) tP) uY) uG) rY) sr) qG) qx) qu) qE) rU) rB) rF) qB) rj) qO) rD) sx) sJ) qK) rl) qZ) rQ) sH) qF) rz) re)
end Go.Proofs.YtokiogmfgpidmaaGreatDoor
namespace Go.Proofs.YtokiogmfgpidmaaGreatDoor
open Go.ChangeShapes Go.WideShapes Go.RowKit
def yx:DataW Unit:=Rows.laid_errors_errorType
def JC:String:=match yx with | .iface n _=>n|_ => ""
theorem FO:(Tryz.prog.cutTypes.find? (·.1==JC)).map (·.2)=some 183:=by kernel_rfl
theorem Eo:Tryz.prog.globalNamed "errors.errorType"=some 0:=by kernel_rfl
theorem Jp:((List.range 388).filter λt=>Tryz.prog.rowNamed t [101,114,114,111,114])= [24]:=by kernel_rfl
theorem Cj:Tryz.prog.types.size=388:=by kernel_rfl
def dN:List (String × DataW Unit):= [("errors.errorType",yx)]
theorem mj{W:World}(h:laidMetH Tryz.prog dN W):aD W:=by
 have h':laidMet Tryz.prog [] W/\handlesMet Tryz.prog dN W:=h;obtain⟨name,u,ty,e1,e2,e3,e4,e5⟩:=h'.2 _ (List.mem_singleton.2 rfl);have en:name = [101,114,114,111,114]:=(Option.some.inj e1).symm;subst en;obtain rfl:=Option.some.inj (FO.symm.trans e2);have hm:ty∈(List.range 388).filter λt=>Tryz.prog.rowNamed t [101,114,114,111,114]:=List.mem_filter.2 ⟨List.mem_range.2 (by rw [<-Cj];exact e3),e4⟩;rw [Jp] at hm;obtain rfl:=List.mem_singleton.1 hm;have hh:typeHandle Tryz.prog 24 = .pointer (some ⟨2,24,none⟩):=by kernel_rfl
 rw [hh] at e5;have:=World.var?_cell Eo e5 0;exact this
noncomputable def pI(os:Os):World :=
 let w0:=World.holding Tryz.prog os ⟨#[],#[],[]⟩
 {w0 with heap:=w0.heap.modify 0 fun
   | .cells _ t frozen => .cells #[.iface 183 (.agg #[.pointer (some ⟨2,24,none⟩)])] t frozen
   | o=>o }
theorem oD(os:Os)(args:Array Value):laidMetH Tryz.prog dN ((pI os).forCall (λ_ _=>0) ⟨#[],args,[]⟩).memory :=
 laidMetH_of_parts (laidMet_nil _ _) (by kernel_rfl)
end Go.Proofs.YtokiogmfgpidmaaGreatDoor
namespace Go.Proofs.YtokiogmfgpidmaaGreatDoor
open Go Go.ChangeShapes Go.WideShapes Go.ChangeAt Go.RowKit Go.Wk
open Go.ChangeMaps (open_string)
theorem lF(os:Os)(started:os.Started)(H:Type)(enc:TypeId × Value->H):
 ReturnsInHanded {} Tryz.checked os 4 .any (λw args=>(Rows.foldSameSpec.pre enc Tryz.prog Tryz.f4 [] false w args/\laidMetH Tryz.prog dN w)/\sizedMet enc Tryz.prog Tryz.f4 (OpenSpec.ofChange Rows.foldSameSpec) false w args) (Rows.foldSameSpec.post enc Tryz.prog Tryz.f4 false true false false):=by
 refine returnsInHanded_of_change_and (C:=Tryz.checked) (X:=λw _=>laidMetH Tryz.prog dN w) (λ_ _ _ hh h=>h.of_heap hh) own started (by kernel_rfl) Tryz.func4
  (ChangeSpec.witness_at (enc:=enc) (C:=Tryz.checked) (os:=os) (X:=λw _=>laidMetH Tryz.prog dN w) false (pI os) #[.slice none 0 0,.agg #[.string ⟨#[]⟩,.string ⟨#[]⟩,.string ⟨#[]⟩,.string ⟨#[]⟩,.string ⟨#[]⟩,.string ⟨#[]⟩,.slice none 0 0],.slice none 0 0] 8 rfl (by kernel_rfl) (by kernel_rfl) (by kernel_rfl) (by kernel_rfl) (by kernel_rfl) (oD os _)) ?_
 intro W base args ds gs before hval0 hW _ _ hL _;have hg:=mj hL;have hval:∀(j:Nat) t v,Tryz.f4.params[j]?=some t->args[j]?=some v->Value.okWide Tryz.prog W .any base t v:=hval0;have hW0:=hW;obtain⟨p,q,hA0,_,_,_,_⟩:=hW;have hA:DataW.TrodAll enc Tryz.prog W 0 (λ_=>true) true Tryz.f4.params.toList args.toList ds p:=hA0;rw [Tryz.params4] at hA hval;clear hA0 hval0;obtain⟨v0,vs0,d0,ds0,p0,q0,hargs,rfl,rfl,h0,r0⟩:=trodAll_cons hA;obtain⟨v1,vs1,d1,ds1,p1,q1,rfl,rfl,rfl,h1,r1⟩:=trodAll_cons r0;obtain⟨v2,vs2,d2,ds2,p2,q2,rfl,rfl,rfl,h2,r2⟩:=trodAll_cons r1;obtain⟨rfl,rfl,rfl⟩:=trodAll_nil r2;obtain⟨args⟩:=args;simp only at hargs;subst hargs;obtain⟨A0,n0,c0,E0,rfl,sx0⟩:=BG (hval 0 34 v0 rfl rfl) h0;obtain⟨x1,rfl,sx1⟩:=rZ (hval 1 38 v1 rfl rfl) h1;obtain⟨A2,n2,c2,P2,rfl,sx2⟩:=xI (hval 2 22 v2 rfl rfl) h2;refine(oH A0 n0 c0 E0 x1 A2 n2 c2 P2 W sx0 sx1 sx2 hg).mono λe W' ⟨he,hb'⟩=>?_;subst he;refine⟨_,rfl,Ep yz (by kernel_rfl) (by rfl) Tryz.underlying4 rfl ?_ hW0 hb'⟩;intro ds hlen;rw [Tryz.params4] at hlen
 match ds,hlen with
 | [e0,e1,e2],_=>rfl
theorem pd:Rows.foldSameRow.holds Tryz.pinned (OpenSpec.ofChange Rows.foldSameSpec):=
 OpenClaim.holds_of_wide 4 Tryz.f4 rfl rfl rfl rfl rfl rfl rfl ⟨rfl,rfl,rfl,rfl,rfl⟩ rfl rfl rfl rfl rfl fo Tryz.func4 lG
  oM oN
  (λos started H enc _=>lF os started H enc)
theorem FoldSame_holds:Rows.FoldSameCardSaid :=
 Claim7.holds_tied_plain_at .later [] [.handle] true Rows.foldSameCard.stood.harness true
  pd (λ_ h=>by cases h) sV (λ_ h=>by cases h) foldSame_row_tie rfl ⟨rfl,rfl⟩ pg rfl
  (λf fn hf hfn=>by
   obtain rfl:f=4:=Option.some.inj (fo.symm.trans hf)|>.symm
   obtain rfl:fn=Tryz.f4:=(Option.some.inj (Tryz.func4.symm.trans hfn)).symm
   exact⟨mg,λj t ht=>by
    rw [Tryz.params4] at ht
    have hm:=Array.mem_of_getElem? ht
    simp only [List.mem_toArray,List.mem_cons,List.not_mem_nil,or_false] at hm
    rcases hm with rfl|rfl|rfl
    all_goals exact(show Tryz.prog.wantsStandIn _=false by kernel_rfl)⟩)
  o8
#print axioms FoldSame_holds
end Go.Proofs.YtokiogmfgpidmaaGreatDoor
