/-
  From the condition on the one listed variable (errors.errorType) to the walk's ..
-/
import Derived.Test.YtokiogmfgpidmaaGreatDoorTie
import Derived.Test.YtokiogmfgpidmaaGreatDoorD48
import Derived.Test.YtokiogmfgpidmaaGreatDoorD49
set_option maxRecDepth 100000
namespace Go.Proofs.YtokiogmfgpidmaaGreatDoor
open Go.ChangeShapes Go.WideShapes Go.RowKit
def zeZ:DataW Unit:=Rows.laid_errors_errorType
def znc:String:=match zeZ with | .iface n _=>n|_ => ""
theorem zhY:(Tryz.prog.cutTypes.find? (·.1==znc)).map (·.2)=some 183:=by kernel_rfl
theorem zi8:Tryz.prog.globalNamed "errors.errorType"=some 0:=by kernel_rfl
theorem znq:((List.range 388).filter λt=>Tryz.prog.rowNamed t [101,114,114,111,114])= [24]:=by kernel_rfl
theorem zgG:Tryz.prog.types.size=388:=by kernel_rfl
def Mc:List (String × DataW Unit):= [("errors.errorType",zeZ)]
theorem Tw{W:World}(h:laidMetH Tryz.prog Mc W):CQ W:=by
 have h':laidMet Tryz.prog [] W/\handlesMet Tryz.prog Mc W:=h;obtain⟨name,u,ty,e1,e2,e3,e4,e5⟩:=h'.2 _ (List.mem_singleton.2 rfl);have en:name = [101,114,114,111,114]:=(Option.some.inj e1).symm;subst en;obtain rfl:=Option.some.inj (zhY.symm.trans e2);have hm:ty∈(List.range 388).filter λt=>Tryz.prog.rowNamed t [101,114,114,111,114]:=List.mem_filter.2 ⟨List.mem_range.2 (by rw [<-zgG];exact e3),e4⟩;rw [znq] at hm;obtain rfl:=List.mem_singleton.1 hm;have hh:typeHandle Tryz.prog 24 = .pointer (some ⟨2,24,none⟩):=by kernel_rfl
 rw [hh] at e5;have:=World.var?_cell zi8 e5 0;exact this
noncomputable def WY(os:Os):World :=
 let w0:=World.holding Tryz.prog os ⟨#[],#[],[]⟩
 {w0 with heap:=w0.heap.modify 0 fun
   | .cells _ t frozen => .cells #[.iface 183 (.agg #[.pointer (some ⟨2,24,none⟩)])] t frozen
   | o=>o }
theorem Wq(os:Os)(args:Array Value):laidMetH Tryz.prog Mc ((WY os).forCall (λ_ _=>0) ⟨#[],args,[]⟩).memory :=
 laidMetH_of_parts (laidMet_nil _ _) (by kernel_rfl)
end Go.Proofs.YtokiogmfgpidmaaGreatDoor
namespace Go.Proofs.YtokiogmfgpidmaaGreatDoor
open Go Go.ChangeShapes Go.WideShapes Go.ChangeAt Go.RowKit Go.Wk
open Go.ChangeMaps (open_string)
theorem Sv(os:Os)(started:os.Started)(H:Type)(enc:TypeId × Value->H):
 ReturnsInHanded {} Tryz.checked os 3 .any (λw args=>(Rows.foldDoneSpec.pre enc Tryz.prog Tryz.f3 [] false w args/\laidMetH Tryz.prog Mc w)/\sizedMet enc Tryz.prog Tryz.f3 (OpenSpec.ofChange Rows.foldDoneSpec) false w args) (Rows.foldDoneSpec.post enc Tryz.prog Tryz.f3 false true false false):=by
 refine returnsInHanded_of_change_and (C:=Tryz.checked) (X:=λw _=>laidMetH Tryz.prog Mc w) (λ_ _ _ hh h=>h.of_heap hh) own started (by kernel_rfl) Tryz.func3
  (ChangeSpec.witness_at (enc:=enc) (C:=Tryz.checked) (os:=os) (X:=λw _=>laidMetH Tryz.prog Mc w) false (WY os) #[.slice none 0 0] 8 rfl (by kernel_rfl) (by kernel_rfl) (by kernel_rfl) (by kernel_rfl) (by kernel_rfl) (Wq os _)) ?_
 intro W base args ds gs before hval0 hW _ _ hL _;have hg:=Tw hL;have hval:∀(j:Nat) t v,Tryz.f3.params[j]?=some t->args[j]?=some v->Value.okWide Tryz.prog W .any base t v:=hval0;have hW0:=hW;obtain⟨p,q,hA0,_,_,_,_⟩:=hW;have hA:DataW.TrodAll enc Tryz.prog W 0 (λ_=>true) true Tryz.f3.params.toList args.toList ds p:=hA0;rw [Tryz.params3] at hA hval;clear hA0 hval0;obtain⟨v0,vs0,d0,ds0,p0,q0,hargs,rfl,rfl,h0,r0⟩:=trodAll_cons hA;obtain⟨rfl,rfl,rfl⟩:=trodAll_nil r0;obtain⟨args⟩:=args;simp only at hargs;subst hargs;obtain⟨A0,n0,c0,P0,rfl,sx0⟩:=zc1 (hval 0 22 v0 rfl rfl) h0;refine(Wx A0 n0 c0 P0 W sx0 hg).mono λe W' ⟨he,hb'⟩=>?_;subst he;refine⟨_,rfl,zjb zeD (by kernel_rfl) (by rfl) Tryz.underlying4 rfl ?_ hW0 hb'⟩;intro ds hlen;rw [Tryz.params3] at hlen
 match ds,hlen with
 | [e0],_=>rfl
theorem Wo:Rows.foldDoneRow.holds Tryz.pinned (OpenSpec.ofChange Rows.foldDoneSpec):=
 OpenClaim.holds_of_wide 3 Tryz.f3 rfl rfl rfl rfl rfl rfl rfl ⟨rfl,rfl,rfl,rfl,rfl⟩ rfl rfl rfl rfl rfl Nz Tryz.func3 Sw
  Wm Wh
  (λos started H enc _=>Sv os started H enc)
theorem FoldDone_holds:Rows.FoldDoneCardSaid :=
 Claim7.holds_tied_plain_at .later [] [.handle] true Rows.foldDoneCard.stood.harness true
  Wo (λ_ h=>by cases h) zaL (λ_ h=>by cases h) foldDone_row_tie rfl ⟨rfl,rfl⟩ VW rfl
  (λf fn hf hfn=>by
   obtain rfl:f=3:=Option.some.inj (Nz.symm.trans hf)|>.symm
   obtain rfl:fn=Tryz.f3:=(Option.some.inj (Tryz.func3.symm.trans hfn)).symm
   exact⟨TC,λj t ht=>by
    rw [Tryz.params3] at ht
    have hm:=Array.mem_of_getElem? ht
    simp only [List.mem_toArray,List.mem_cons,List.not_mem_nil,or_false] at hm
    subst hm
    all_goals exact(show Tryz.prog.wantsStandIn _=false by kernel_rfl)⟩)
  Wn
#print axioms FoldDone_holds
end Go.Proofs.YtokiogmfgpidmaaGreatDoor
