/-
  CheckTypes: the frame round the walk: for every input the law returns true, and each argument reads behind the call as it read before. No condition.
-/
import Derived.SevenTiedAt
import Derived.Test.YtjcdeikbghjpkaaGreatDoorTie
import Derived.Test.YtjcdeikbghjpkaaGreatDoorCards
import Derived.Test.YtjcdeikbghjpkaaGreatDoorQ17
import Derived.Test.YtjcdeikbghjpkaaGreatDoorQ45
set_option maxRecDepth 100000
namespace Go.Proofs.YtjcdeikbghjpkaaGreatDoor
open Go Go.ChangeShapes Go.WideShapes Go.ChangeAt Go.RowKit Go.Wk
open Go.ChangeMaps (open_string)
theorem zfQ(os:Os)(started:os.Started)(H:Type)(enc:TypeId × Value→H):
 ReturnsInHanded {} Tryz.checked os 3 .any (fun w args=>(Rows.checkTypesSpec.pre enc Tryz.prog Tryz.f3 [] false w args∧laidMetH Tryz.prog zdn w)∧sizedMet enc Tryz.prog Tryz.f3 (OpenSpec.ofChange Rows.checkTypesSpec) false w args) (Rows.checkTypesSpec.post enc Tryz.prog Tryz.f3 false true false false):=by
 refine returnsInHanded_of_change_and (C:=Tryz.checked) (X:=fun w _=>laidMetH Tryz.prog zdn w) (fun _ _ _ hh h=>h.of_heap hh) own started (by kernel_rfl) Tryz.func3
  (ChangeSpec.witness_at (enc:=enc) (C:=Tryz.checked) (os:=os) (X:=fun w _=>laidMetH Tryz.prog zdn w) false (zj4 os) #[.agg #[.slice none 0 0,.slice none 0 0],.string ⟨#[]⟩,.string ⟨#[]⟩,.string ⟨#[]⟩,.slice none 0 0] 8 rfl (by kernel_rfl) (by kernel_rfl) (by kernel_rfl) (by kernel_rfl) (by kernel_rfl) (zi9 os _)) ?_
 intro W base args ds gs before hval0 hW _ _ hL _;have hg:=zhx hL;have hval:∀(j:Nat) t v,Tryz.f3.params[j]?=some t→args[j]?=some v→Value.okWide Tryz.prog W .any base t v:=hval0;have hW0:=hW;obtain⟨p,q,hA0,_,_,_,_⟩:=hW;have hA:DataW.TrodAll enc Tryz.prog W 0 (fun _=>true) true Tryz.f3.params.toList args.toList ds p:=hA0;rw [Tryz.params3] at hA hval;clear hA0 hval0;obtain⟨v0,vs0,d0,ds0,p0,q0,hargs,rfl,rfl,h0,r0⟩:=trodAll_cons hA;obtain⟨v1,vs1,d1,ds1,p1,q1,rfl,rfl,rfl,h1,r1⟩:=trodAll_cons r0;obtain⟨v2,vs2,d2,ds2,p2,q2,rfl,rfl,rfl,h2,r2⟩:=trodAll_cons r1;obtain⟨v3,vs3,d3,ds3,p3,q3,rfl,rfl,rfl,h3,r3⟩:=trodAll_cons r2;obtain⟨v4,vs4,d4,ds4,p4,q4,rfl,rfl,rfl,h4,r4⟩:=trodAll_cons r3;obtain⟨rfl,rfl,rfl⟩:=trodAll_nil r4;obtain⟨args⟩:=args;simp only at hargs;subst hargs;obtain⟨x0,rfl,sx0⟩:=zmc (hval 0 25 v0 rfl rfl) h0;obtain⟨x1,rfl,_,_,sx1⟩:=open_string Tryz.underlying9 (hval 1 9 v1 rfl rfl) h1;obtain⟨x2,rfl,_,_,sx2⟩:=open_string Tryz.underlying9 (hval 2 9 v2 rfl rfl) h2;obtain⟨x3,rfl,_,_,sx3⟩:=open_string Tryz.underlying9 (hval 3 9 v3 rfl rfl) h3;obtain⟨A4,n4,c4,P4,rfl,sx4⟩:=zm6 (hval 4 26 v4 rfl rfl) h4;refine(zg7 x0 x1 x2 x3 A4 n4 c4 P4 W sx0 sx1 sx2 sx3 sx4 hg).mono fun e W' ⟨he,hb'⟩=>?_;subst he;refine⟨_,rfl,zqH zrO (by kernel_rfl) (by rfl) Tryz.underlying4 rfl ?_ hW0 hb'⟩;intro ds hlen;rw [Tryz.params3] at hlen
 match ds,hlen with
 | [e0,e1,e2,e3,e4],_=>rfl
theorem zhn:Rows.checkTypesRow.holds Tryz.pinned (OpenSpec.ofChange Rows.checkTypesSpec):=
 OpenClaim.holds_of_wide 3 Tryz.f3 rfl rfl rfl rfl rfl rfl rfl ⟨rfl,rfl,rfl,rfl,rfl⟩ rfl rfl rfl rfl rfl zdr Tryz.func3 zfA
  zhb zhc
  (fun os started H enc _=>zfQ os started H enc)
theorem CheckTypes_holds:Rows.CheckTypesCardSaid :=
 Claim7.holds_tied_plain_at .later [] [.handle] true Rows.checkTypesCard.stood.harness true
  zhn (fun _ h=>by cases h) zi6 (fun _ h=>by cases h) checkTypes_row_tie rfl ⟨rfl,rfl⟩ zhe rfl
  (fun f fn hf hfn=>by
   obtain rfl:f=3:=Option.some.inj (zdr.symm.trans hf)|>.symm
   obtain rfl:fn=Tryz.f3:=(Option.some.inj (Tryz.func3.symm.trans hfn)).symm
   exact⟨zgi,fun j t ht=>by
    rw [Tryz.params3] at ht
    have hm:=Array.mem_of_getElem? ht
    simp only [List.mem_toArray,List.mem_cons,List.not_mem_nil,or_false] at hm
    rcases hm with rfl|rfl|rfl|rfl|rfl
    all_goals exact(show Tryz.prog.wantsStandIn _=false by kernel_rfl)⟩)
  zhm
#print axioms CheckTypes_holds
end Go.Proofs.YtjcdeikbghjpkaaGreatDoor
