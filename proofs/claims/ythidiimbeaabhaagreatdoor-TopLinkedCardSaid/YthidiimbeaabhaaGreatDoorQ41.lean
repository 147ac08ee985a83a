/-
  From the condition on the one listed variable (errors.errorType) to the walk's ..
-/
import Derived.Test.YthidiimbeaabhaaGreatDoorTie
import Derived.Test.YthidiimbeaabhaaGreatDoorQ39
import Derived.Test.YthidiimbeaabhaaGreatDoorQ40
set_option maxRecDepth 100000
namespace Go.Proofs.YthidiimbeaabhaaGreatDoor
open Go.ChangeShapes Go.WideShapes Go.RowKit
def wW:DataW Unit:=Rows.laid_errors_errorType
def Hr:String:=match wW with | .iface n _=>n|_ => ""
theorem Bc:(Tryz.prog.cutTypes.find? (·.1==Hr)).map (·.2)=some 267:=by kernel_rfl
theorem Bg:Tryz.prog.globalNamed "errors.errorType"=some 0:=by kernel_rfl
theorem Ic:((List.range 396).filter λt=>Tryz.prog.rowNamed t [101,114,114,111,114])= [35]:=by kernel_rfl
theorem yy:Tryz.prog.types.size=396:=by kernel_rfl
def dZ:List (String × DataW Unit):= [("errors.errorType",wW)]
theorem mH{W:World}(h:laidMetH Tryz.prog dZ W):aU W:=by
 have h':laidMet Tryz.prog [] W/\handlesMet Tryz.prog dZ W:=h;obtain⟨name,u,ty,e1,e2,e3,e4,e5⟩:=h'.2 _ (List.mem_singleton.2 rfl);have en:name = [101,114,114,111,114]:=(Option.some.inj e1).symm;subst en;obtain rfl:=Option.some.inj (Bc.symm.trans e2);have hm:ty∈(List.range 396).filter λt=>Tryz.prog.rowNamed t [101,114,114,111,114]:=List.mem_filter.2 ⟨List.mem_range.2 (by rw [<-yy];exact e3),e4⟩;rw [Ic] at hm;obtain rfl:=List.mem_singleton.1 hm;have hh:typeHandle Tryz.prog 35 = .pointer (some ⟨2,35,none⟩):=by kernel_rfl
 rw [hh] at e5;have:=World.var?_cell Bg e5 0;exact this
noncomputable def pN(os:Os):World :=
 let w0:=World.holding Tryz.prog os ⟨#[],#[],[]⟩
 {w0 with heap:=w0.heap.modify 0 fun
   | .cells _ t frozen => .cells #[.iface 267 (.agg #[.pointer (some ⟨2,35,none⟩)])] t frozen
   | o=>o }
theorem oq(os:Os)(args:Array Value):laidMetH Tryz.prog dZ ((pN os).forCall (λ_ _=>0) ⟨#[],args,[]⟩).memory :=
 laidMetH_of_parts (laidMet_nil _ _) (by kernel_rfl)
end Go.Proofs.YthidiimbeaabhaaGreatDoor
namespace Go.Proofs.YthidiimbeaabhaaGreatDoor
open Go Go.ChangeShapes Go.WideShapes Go.ChangeAt Go.RowKit Go.Wk
open Go.ChangeMaps (open_string)
theorem kD(os:Os)(started:os.Started)(H:Type)(enc:TypeId × Value->H):
 ReturnsInHanded {} Tryz.checked os 3 .any (λw args=>(Rows.topLinkedSpec.pre enc Tryz.prog Tryz.f3 [] false w args/\laidMetH Tryz.prog dZ w)/\sizedMet enc Tryz.prog Tryz.f3 (OpenSpec.ofChange Rows.topLinkedSpec) false w args) (Rows.topLinkedSpec.post enc Tryz.prog Tryz.f3 false true false false):=by
 refine returnsInHanded_of_change_and (C:=Tryz.checked) (X:=λw _=>laidMetH Tryz.prog dZ w) (λ_ _ _ hh h=>h.of_heap hh) own started (by kernel_rfl) Tryz.func3
  (ChangeSpec.witness_at (enc:=enc) (C:=Tryz.checked) (os:=os) (X:=λw _=>laidMetH Tryz.prog dZ w) false (pN os) #[.slice none 0 0,.agg #[.string ⟨#[]⟩,.bool false,.int .i64 0,.string ⟨#[]⟩,.string ⟨#[]⟩,.string ⟨#[]⟩,.int .i64 0,.string ⟨#[]⟩,.string ⟨#[]⟩,.string ⟨#[]⟩,.int .i64 0,.string ⟨#[]⟩,.string ⟨#[]⟩,.string ⟨#[]⟩,.slice none 0 0],.agg #[.string ⟨#[]⟩,.string ⟨#[]⟩],.agg #[.string ⟨#[]⟩,.string ⟨#[]⟩],.agg #[.string ⟨#[]⟩,.string ⟨#[]⟩,.string ⟨#[]⟩,.string ⟨#[]⟩,.string ⟨#[]⟩,.string ⟨#[]⟩,.slice none 0 0]] 8 rfl (by kernel_rfl) (by kernel_rfl) (by kernel_rfl) (by kernel_rfl) (by kernel_rfl) (oq os _)) ?_
 intro W base args ds gs before hval0 hW _ _ hL _;have hg:=mH hL;have hval:∀(j:Nat) t v,Tryz.f3.params[j]?=some t->args[j]?=some v->Value.okWide Tryz.prog W .any base t v:=hval0;have hW0:=hW;obtain⟨p,q,hA0,_,_,_,_⟩:=hW;have hA:DataW.TrodAll enc Tryz.prog W 0 (λ_=>true) true Tryz.f3.params.toList args.toList ds p:=hA0;rw [Tryz.params3] at hA hval;clear hA0 hval0;obtain⟨v0,vs0,d0,ds0,p0,q0,hargs,rfl,rfl,h0,r0⟩:=trodAll_cons hA;obtain⟨v1,vs1,d1,ds1,p1,q1,rfl,rfl,rfl,h1,r1⟩:=trodAll_cons r0;obtain⟨v2,vs2,d2,ds2,p2,q2,rfl,rfl,rfl,h2,r2⟩:=trodAll_cons r1;obtain⟨v3,vs3,d3,ds3,p3,q3,rfl,rfl,rfl,h3,r3⟩:=trodAll_cons r2;obtain⟨v4,vs4,d4,ds4,p4,q4,rfl,rfl,rfl,h4,r4⟩:=trodAll_cons r3;obtain⟨rfl,rfl,rfl⟩:=trodAll_nil r4;obtain⟨args⟩:=args;simp only at hargs;subst hargs;obtain⟨A0,n0,c0,E0,rfl,sx0⟩:=Ab (hval 0 22 v0 rfl rfl) h0;obtain⟨x1,rfl,sx1⟩:=uz (hval 1 29 v1 rfl rfl) h1;obtain⟨x2,y2,rfl,sx2,sy2⟩:=uh (hval 2 24 v2 rfl rfl) h2;obtain⟨x3,y3,rfl,sx3,sy3⟩:=uh (hval 3 24 v3 rfl rfl) h3;obtain⟨x4,rfl,sx4⟩:=qZ (hval 4 32 v4 rfl rfl) h4;refine(mJ A0 n0 c0 E0 x1 (x2,y2) (x3,y3) x4 W sx0 sx1 ⟨sx2,sy2⟩ ⟨sx3,sy3⟩ sx4 hg).mono λe W' ⟨he,hb'⟩=>?_;subst he;refine⟨_,rfl,CH xh (by kernel_rfl) (by rfl) Tryz.underlying4 rfl ?_ hW0 hb'⟩;intro ds hlen;rw [Tryz.params3] at hlen
 match ds,hlen with
 | [e0,e1,e2,e3,e4],_=>rfl
theorem mR:Rows.topLinkedRow.holds Tryz.pinned (OpenSpec.ofChange Rows.topLinkedSpec):=
 OpenClaim.holds_of_wide 3 Tryz.f3 rfl rfl rfl rfl rfl rfl rfl ⟨rfl,rfl,rfl,rfl,rfl⟩ rfl rfl rfl rfl rfl fm Tryz.func3 kQ
  nW nl
  (λos started H enc _=>kD os started H enc)
theorem TopLinked_holds:Rows.TopLinkedCardSaid :=
 Claim7.holds_tied_plain_at .later [] [.handle] true Rows.topLinkedCard.stood.harness true
  mR (λ_ h=>by cases h) rC (λ_ h=>by cases h) topLinked_row_tie rfl ⟨rfl,rfl⟩ nk rfl
  (λf fn hf hfn=>by
   obtain rfl:f=3:=Option.some.inj (fm.symm.trans hf)|>.symm
   obtain rfl:fn=Tryz.f3:=(Option.some.inj (Tryz.func3.symm.trans hfn)).symm
   exact⟨lM,λj t ht=>by
    rw [Tryz.params3] at ht
    have hm:=Array.mem_of_getElem? ht
    simp only [List.mem_toArray,List.mem_cons,List.not_mem_nil,or_false] at hm
    rcases hm with rfl|rfl|rfl|rfl|rfl
    all_goals exact(show Tryz.prog.wantsStandIn _=false by kernel_rfl)⟩)
  nC
#print axioms TopLinked_holds
end Go.Proofs.YthidiimbeaabhaaGreatDoor
