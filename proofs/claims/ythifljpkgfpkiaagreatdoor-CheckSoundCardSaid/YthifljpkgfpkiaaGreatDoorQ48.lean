/-
  CheckSound holds as its card says it: in a store and of a request that are as they may be, an expression that has a type has a value of that type, or one of three errors; no condition of its own ahead of it.
-/
import Derived.Test.YthifljpkgfpkiaaGreatDoorCards
import Derived.Test.YthifljpkgfpkiaaGreatDoorTie
import Derived.Test.YthifljpkgfpkiaaGreatDoorQ47
set_option maxRecDepth 100000
set_option maxHeartbeats 8000000
namespace Go.Proofs.YthifljpkgfpkiaaGreatDoor
open Go.RowKit Go.Wk Go.Sort
theorem yk:eJ=eG:=rfl
theorem rV(s:Sc)(A:Option Addr)(n c:Nat)(E:List En)(q:Rq)(A3:Option Addr)(n3 c3:Nat)(P:List Nd)(w:World)(hs:lK w s)(hE:Es w A n c E)(hq:tr w q)(hP:Ns w A3 n3 c3 P)(hg:dW w):
 Calls Tryz.prog 3 #[s.v,.slice A n c,q.v,.slice A3 n3 c3] w λe w'=>e = .returned (.bool true)/\Below w.heap.size w w':=by
 have C3:=O (λw' (hb:Below w.heap.size w w')=>Br s A n c E w' (hs.keep hb) (hE.keep hb));have C5:=O (λw' (hb:Below w.heap.size w w')=>Cq s q w' (hs.keep hb) (hq.keep hb));have CT:=O (λw' (hb:Below w.heap.size w w')=>tu s q.who.1 q.act.2 q.what.1 A3 n3 c3 P w' (hs.keep hb) hq.w1 hq.t1 (hP.keep hb));have CV:=O (λw' (hb:Below w.heap.size w w')=>Hz A n c E q A3 n3 c3 P w' (hE.keep hb) (hq.keep hb) (hP.keep hb) (hg.keep hb));have HE:Hid (∀n k w',Below w.heap.size w w'->Calls Tryz.prog 9 #[je n,.int .i64 k] w' λe w''=>e = .returned (.bool (n==k))/\Below w'.heap.size w' w''):=O (λn k w' hb=>GX n k w' (hg.keep hb));have HX:Hid (wQ s.k s.a E=0->pH eJ s.k s.a q.who q.act q.what q.P=0->∀k,eM s.k s.a q.who.1 q.act.2 q.what.1 P = .ok k->
  (∀V,dl ⟨E,q.who,q.act,q.what,q.P⟩ P = .ok V->gz k.flat V=0/\gV k.flat V=true)/\∀u,dl ⟨E,q.who,q.act,q.what,q.P⟩ P = .error u->u=4\/u=5\/u=8):=
  O (λh1 h2 k h3=>⟨λV hV=>Mt h1 (by rw [<-yk];exact h2) h3 hV,λu hu=>Kr h1 (by rw [<-yk];exact h2) h3 hu⟩)
 unfold Sc.v at C3 C5 CT ⊢;unfold Rq.v at C5 CV ⊢;unfold AO at CT;unfold pr at CV;generalize wQ s.k s.a E=r1 at *;generalize pH eJ s.k s.a q.who q.act q.what q.P=r2 at *;generalize eM s.k s.a q.who.1 q.act.2 q.what.1 P=rr at *;generalize dl ⟨E,q.who,q.act,q.what,q.P⟩ P=vv at *;have V0:=O (lL w s 25);have b0:=za w (.cells #[.slice s.KA s.kn s.kc,.slice s.AA s.an s.ac] 25);have hz:(w.alloc (.cells #[.slice s.KA s.kn s.kc,.slice s.AA s.an s.ac] 25)).heap.size=w.heap.size+1:=by simp
 have W0:=Ac (w.alloc (.cells #[.slice s.KA s.kn s.kc,.slice s.AA s.an s.ac] 25)) q 31;rw [hz] at W0;have W1:=O W0;have bb:=za (w.alloc (.cells #[.slice s.KA s.kn s.kc,.slice s.AA s.an s.ac] 25)) (.cells #[.string q.who.1,.string q.who.2,.string q.act.1,.string q.act.2,.string q.what.1,.string q.what.2,.slice q.NA q.nn q.nc] 31);have V1:=O (V0.o.keep bb);have B1:=O (b0.trans (bb.mono b0.size));clear hs hE hq hP hg b0 bb hz W0 V0;go_enter Tryz.func3,Tryz.ntmps3;go_wp2_with fail;obtain⟨w1,si⟩:∃w1,(w.alloc (.cells #[.slice s.KA s.kn s.kc,.slice s.AA s.an s.ac] 25)).alloc (.cells #[.string q.who.1,.string q.who.2,.string q.act.1,.string q.act.2,.string q.what.1,.string q.what.2,.slice q.NA q.nn q.nc] 31)=w1:=⟨_,rfl⟩
 rw [si] at V1 W1 B1 ⊢;clear si;refine(Kh _).mono ?_;rintro e w2 ⟨rfl,b2⟩;have B2:=bh B1 b2;have V2:=O (V1.o.keep b2);have W2:=O (W1.o.keep b2);clear b2 B1 V1 W1;obtain⟨v0,v1⟩:=V2.o;go_wp2_with fail;refine(C3.o _ B2.o).mono ?_;rintro e w3 ⟨rfl,b3⟩;have B3:=bh B2 b3;have V3:=O (V2.o.keep b3);have W3:=O (W2.o.keep b3);clear b3 B2 V2 W2 v0 v1 C3;by_cases g1:r1=0
 ·subst g1;rw [zj];obtain⟨v0,v1⟩:=V3.o;obtain⟨c0,c1,c2,c3,c4,c5,c6⟩:=W3.o;go_wp2_with fail;refine(C5.o _ B3.o).mono ?_;rintro e w4 ⟨rfl,b4⟩;have B4:=bh B3 b4;have V4:=O (V3.o.keep b4);have W4:=O (W3.o.keep b4);clear b4 B3 V3 W3 v0 v1 c0 c1 c2 c3 c4 c5 c6 C5;by_cases g2:r2=0
  ·subst g2;rw [zj];have oJ:=O (HX.o (by first|rfl|trivial) (by first|rfl|trivial));clear HX;obtain⟨v0,v1⟩:=V4.o;obtain⟨c0,c1,c2,c3,c4,c5,c6⟩:=W4.o;go_wp2_with fail;refine(CT.o _ B4.o).mono ?_;rintro e w5 ⟨A5,n5,k5,rfl,JK,b5⟩;have B5:=bh B4 b5;have V5:=O (V4.o.keep b5);have W5:=O (W4.o.keep b5);have N5:=O JK;clear JK b5 B4 V4 W4 v0 v1 c0 c1 c2 c3 c4 c5 c6 CT
   cases rr with
   | error u =>
    rw [show VB (.error u:eR)= .iface 41 (.int .i64 u) from rfl]
    clear oJ N5
    go_wp2_with fail
    go_ret
    exact⟨rfl,B5.o⟩
   | ok k =>
    rw [show VB (.ok k:eR)= .nilIface from rfl]
    have K5:Hid (Ns w5 A5 n5 k5 k.flat):=O N5.o
    obtain⟨Zv,hX2⟩:=oJ.o k rfl
    have HA:=O Zv
    have HB:=O hX2
    clear Zv hX2 oJ N5
    obtain⟨c0,c1,c2,c3,c4,c5,c6⟩:=W5.o
    go_wp2_with fail
    refine(CV.o _ B5.o).mono ?_
    rintro e w6 ⟨A6,n6,k6,rfl,Wd,b6⟩
    have B6:=bh B5 b6
    have N6:=O Wd
    have M6:=O (K5.o.keep b6)
    clear Wd b6 B5 V5 W5 c0 c1 c2 c3 c4 c5 c6 CV K5
    cases vv with
    | error u =>
     have hu:=HB.o u rfl
     have Ui:u≠0:=by omega
     rw [show je (VU (.error u:Res))=je u from rfl,zm Ui]
     have HU:Hid (∀k w',Below w.heap.size w w'->Calls Tryz.prog 9 #[.iface 41 (.int .i64 u),.int .i64 k] w' λe w''=>e = .returned (.bool (u==k))/\Below w'.heap.size w' w''):=O (λk w' hb=>by
      have h:=HE.o u k w' hb
      rw [zm Ui] at h
      exact h)
     obtain⟨x5,e5⟩:∃x5,(u==5)=x5:=⟨_,rfl⟩
     obtain⟨x8,e8⟩:∃x8,(u==8)=x8:=⟨_,rfl⟩
     obtain⟨x4,e4⟩:∃x4,(u==4)=x4:=⟨_,rfl⟩
     have H3:Hid ((x5=false/\x8=false/\x4=true)\/(x5=true/\x8=false/\x4=false)\/(x5=false/\x8=true/\x4=false)):=O (by
      rcases hu with rfl|rfl|rfl
      ·exact .inl ⟨e5.symm,e8.symm,e4.symm⟩
      ·exact .inr (.inl ⟨e5.symm,e8.symm,e4.symm⟩)
      ·exact .inr (.inr ⟨e5.symm,e8.symm,e4.symm⟩))
     have U5:=O (λw' hb=>HU.o 5 w' hb)
     have U8:=O (λw' hb=>HU.o 8 w' hb)
     have U4:=O (λw' hb=>HU.o 4 w' hb)
     rw [e5] at U5
     rw [e8] at U8
     rw [e4] at U4
     clear e5 e8 e4 hu Ui HU HE HA HB N6 M6
     go_wp2_with fail
     refine(U5.o _ B6.o).mono ?_
     rintro e w7 ⟨rfl,b7⟩
     have B7:=bh B6 b7
     clear b7 B6 U5
     go_wp2_with fail
     refine(U8.o _ B7.o).mono ?_
     rintro e w8 ⟨rfl,b8⟩
     have B8:=bh B7 b8
     clear b8 B7 U8
     go_wp2_with fail
     refine(U4.o _ B8.o).mono ?_
     rintro e w9 ⟨rfl,b9⟩
     have B9:=bh B8 b9
     clear b9 B8 U4
     rcases H3.o with ⟨rfl,rfl,rfl⟩|⟨rfl,rfl,rfl⟩|⟨rfl,rfl,rfl⟩
     all_goals
      clear H3;go_wp2_with fail;go_ret;exact⟨rfl,B9.o⟩
    | ok V =>
     rw [show je (VU (.ok V:Res))= .nilIface from zj]
     obtain⟨f1,f2⟩:=HA.o V rfl
     have N7:Hid (Ns w6 A6 n6 k6 V):=O N6.o
     have KH:=M6.o.kinds_Has N7.o
     rw [f1,f2,zj] at KH
     have KK:=O KH
     clear KH f1 f2 HA HB HE N6 N7 M6
     go_wp2_with fail
     refine KK.o.mono ?_
     rintro e w7 ⟨rfl,b7⟩
     have B7:=bh B6 b7
     clear b7 B6 KK
     go_wp2_with fail
     go_ret
     exact⟨rfl,B7.o⟩
  ·have cQ:=O (zm g2);rw [cQ.o];clear g2 HX;go_wp2_with fail;go_ret;exact⟨rfl,B4.o⟩
 ·have cQ:=O (zm g1);rw [cQ.o];clear g1 HX;go_wp2_with fail;go_ret;exact⟨rfl,B3.o⟩
end Go.Proofs.YthifljpkgfpkiaaGreatDoor
namespace Go.Proofs.YthifljpkgfpkiaaGreatDoor
open Go Go.ChangeShapes Go.WideShapes
theorem ip:Tryz.prog.funcNamed Rows.checkSoundRow.func=some 3:=by kernel_rfl
theorem wS:Rows.checkSoundRow.wfByText (OpenSpec.ofChange Rows.checkSoundSpec)=true:=by kernel_rfl
theorem rR:Tryz.prog.mainIs=some (Rows.checkSoundCard.stood.harness.1,Rows.checkSoundCard.stood.harness.2.toList):=by kernel_rfl
theorem qI:true=Tryz.prog.looks []:=by kernel_rfl
theorem rZ:false=Rows.checkSoundRow.goesBy Tryz.prog:=by kernel_rfl
theorem sa:Tryz.f3.isInstance Tryz.prog Rows.checkSoundRow.origin Rows.checkSoundRow.targs:=of_decide_eq_true (by kernel_rfl)
theorem r7:Tryz.f3.isWrapper Tryz.prog Rows.checkSoundRow.wrapper Rows.checkSoundRow.mainSum:=by unfold Func.isWrapper;rw [if_neg (by decide +kernel)];exact⟨rfl,rfl⟩
theorem xb:(Rows.checkSoundRow.wf (OpenSpec.ofChange Rows.checkSoundSpec))=true:=by kernel_rfl
theorem wF:(laidOutB Tryz.prog)=true:=by kernel_rfl
theorem wW:(mapsRowed Tryz.prog)=true:=by kernel_rfl
theorem wV:(Tryz.f3.params.all (Tryz.prog.readableRec ·))=true:=by kernel_rfl
theorem wI:(namedTie Tryz.prog Rows.checkSoundRow.named Rows.checkSoundSpec.vars)=true:=by kernel_rfl
theorem wL:((Rows.checkSoundRow.stops == []))=true:=by kernel_rfl
theorem wH:((Tryz.prog.stops == []))=true:=by kernel_rfl
theorem wE:((Rows.checkSoundRow.knobs == []))=true:=by kernel_rfl
theorem wN:((Tryz.prog.stopKnobs == []))=true:=by kernel_rfl
theorem te:((Rows.checkSoundRow.inPlace==Tryz.prog.inPlace 3))=true:=by kernel_rfl
theorem tH:((Rows.checkSoundRow.unfollowed==Tryz.prog.unfollowed 3))=true:=by kernel_rfl
theorem ti:((Rows.checkSoundRow.recurses==Tryz.prog.recurses 3))=true:=by kernel_rfl
theorem uJ:((Rows.checkSoundRow.named==Tryz.prog.varsNamed 3))=true:=by kernel_rfl
theorem uZ:((Rows.checkSoundRow.maps==(Tryz.f3.params.toList ++ Rows.checkSoundSpec.plain.varTypes Tryz.prog).any (Tryz.prog.mapsRec ·)))=true:=by kernel_rfl
theorem tA:((Rows.checkSoundRow.ifaces==(Tryz.f3.params.toList ++ Rows.checkSoundSpec.plain.varTypes Tryz.prog).any (Tryz.prog.ifacesRec ·)))=true:=by kernel_rfl
theorem tq:((Rows.checkSoundRow.mapsOut==Tryz.prog.mapsAmong Tryz.f3.resultTypes.toList))=true:=by kernel_rfl
theorem uh:((Rows.checkSoundRow.loops==(Tryz.f3.params.toList ++ Rows.checkSoundSpec.plain.varTypes Tryz.prog).any (Tryz.prog.loopsFrom ·)))=true:=by kernel_rfl
theorem ux:((Rows.checkSoundRow.wideKeys==(Tryz.f3.params.toList ++ Rows.checkSoundSpec.plain.varTypes Tryz.prog ++ Tryz.f3.resultTypes.toList).any (Tryz.prog.wideKeysFrom ·)))=true:=by kernel_rfl
theorem tL:(Rows.checkSoundSpec.vars.all (Tryz.prog.varReadable ·))=true:=by kernel_rfl
theorem tp:(Tryz.f3.resultTypes.all (λt=>Tryz.prog.readableRec t && decide (t<Tryz.prog.types.size)))=true:=by kernel_rfl
theorem uo:((Rows.checkSoundRow.ifacesOut==Tryz.f3.resultTypes.toList.any (Tryz.prog.ifacesRec ·)))=true:=by kernel_rfl
theorem uu:((Rows.checkSoundRow.loopsOut==Tryz.f3.resultTypes.toList.any (Tryz.prog.loopsFrom ·)))=true:=by kernel_rfl
theorem uX:((Rows.checkSoundRow.plainKeys==Tryz.prog.plainKeys))=true:=by kernel_rfl
theorem vw:(Rows.checkSoundRow.shortTexts.isNone)=true:=by kernel_rfl
theorem tC:(Tryz.prog.stopsHeard)=true:=by kernel_rfl
theorem vi:(Tryz.prog.mayEnter)=true:=by kernel_rfl
theorem uz:((Rows.checkSoundRow.lifted==Tryz.prog.liftsFinal))=true:=by kernel_rfl
theorem vJ:((Tryz.prog.make==some Rows.checkSoundRow.make))=true:=by kernel_rfl
theorem tQ:((Rows.checkSoundRow.kinds==(if Rows.checkSoundRow.domain.isEmpty then [] else Tryz.f3.params.toList.map λt=>match Tryz.prog.underlying t with|some (.int k)=>some k|_=>none)))=true:=by kernel_rfl
theorem uq:((Rows.checkSoundRow.pinned==Rows.checkSoundRow.pinnedBy))=true:=by kernel_rfl
theorem uk:((Rows.checkSoundRow.veiled==(Tryz.f3.params.toList ++ Rows.checkSoundSpec.plain.varTypes Tryz.prog ++ Tryz.f3.resultTypes.toList).any (Tryz.prog.veiledRec ·)))=true:=by kernel_rfl
theorem vF:(Rows.checkSoundRow.veiledFits Tryz.prog Tryz.f3.params.toList (Tryz.f3.params.toList ++ Rows.checkSoundSpec.plain.varTypes Tryz.prog ++ Tryz.f3.resultTypes.toList))=true:=by kernel_rfl
theorem jr{a b:Bool}(h:a=true)(k:b=true):(a && b)=true:=by rw [h,k];rfl
theorem oV:joinedFacts Tryz.prog 3 Tryz.f3 Rows.checkSoundSpec Rows.checkSoundRow=true:=by
 unfold joinedFacts;exact(jr (jr (jr (jr (jr (jr (jr (jr (jr (jr (jr (jr (jr (jr (jr (jr (jr (jr (jr (jr (jr (jr (jr (jr (jr (jr (jr (jr (jr (jr (jr xb wF) wW) wV) wI) wL) wH) wE) wN) te) tH) ti) uJ) uZ) tA) tq) uh) ux) tL) tp) uo) uu) uX) vw) tC) vi) uz) vJ) tQ) uq) uk) vF)
end Go.Proofs.YthifljpkgfpkiaaGreatDoor
namespace Go.Proofs.YthifljpkgfpkiaaGreatDoor
open Go.ChangeShapes Go.WideShapes Go.RowKit
def IU:DataW Unit:=Rows.laid_errors_errorType
def Vd:String:=match IU with | .iface n _=>n|_ => ""
theorem Px:(Tryz.prog.cutTypes.find? (·.1==Vd)).map (·.2)=some 246:=by kernel_rfl
theorem OV:Tryz.prog.globalNamed "errors.errorType"=some 0:=by kernel_rfl
theorem VJ:((List.range 416).filter λt=>Tryz.prog.rowNamed t [101,114,114,111,114])= [34]:=by kernel_rfl
theorem Kw:Tryz.prog.types.size=416:=by kernel_rfl
def iw:List (String × DataW Unit):= [("errors.errorType",IU)]
theorem sU{W:World}(h:laidMetH Tryz.prog iw W):dW W:=by
 have h':laidMet Tryz.prog [] W/\handlesMet Tryz.prog iw W:=h;obtain⟨name,u,ty,e1,e2,e3,e4,e5⟩:=h'.2 _ (List.mem_singleton.2 rfl);have en:name = [101,114,114,111,114]:=(Option.some.inj e1).symm;subst en;obtain rfl:=Option.some.inj (Px.symm.trans e2);have hm:ty∈(List.range 416).filter λt=>Tryz.prog.rowNamed t [101,114,114,111,114]:=List.mem_filter.2 ⟨List.mem_range.2 (by rw [<-Kw];exact e3),e4⟩;rw [VJ] at hm;obtain rfl:=List.mem_singleton.1 hm;have hh:typeHandle Tryz.prog 34 = .pointer (some ⟨2,34,none⟩):=by kernel_rfl
 rw [hh] at e5;have:=World.var?_cell OV e5 0;exact this
noncomputable def xO(os:Os):World :=
 let w0:=World.holding Tryz.prog os ⟨#[],#[],[]⟩
 {w0 with heap:=w0.heap.modify 0 fun
   | .cells _ t frozen => .cells #[.iface 246 (.agg #[.pointer (some ⟨2,34,none⟩)])] t frozen
   | o=>o }
theorem wP(os:Os)(args:Array Value):laidMetH Tryz.prog iw ((xO os).forCall (λ_ _=>0) ⟨#[],args,[]⟩).memory :=
 laidMetH_of_parts (laidMet_nil _ _) (by kernel_rfl)
end Go.Proofs.YthifljpkgfpkiaaGreatDoor
namespace Go.Proofs.YthifljpkgfpkiaaGreatDoor
open Go Go.ChangeShapes Go.WideShapes Go.ChangeAt Go.RowKit Go.Wk
open Go.ChangeMaps (open_string)
theorem oO(os:Os)(started:os.Started)(H:Type)(enc:TypeId × Value->H):
 ReturnsInHanded {} Tryz.checked os 3 .any (λw args=>(Rows.checkSoundSpec.pre enc Tryz.prog Tryz.f3 [] false w args/\laidMetH Tryz.prog iw w)/\sizedMet enc Tryz.prog Tryz.f3 (OpenSpec.ofChange Rows.checkSoundSpec) false w args) (Rows.checkSoundSpec.post enc Tryz.prog Tryz.f3 false true false false):=by
 refine returnsInHanded_of_change_and (C:=Tryz.checked) (X:=λw _=>laidMetH Tryz.prog iw w) (λ_ _ _ hh h=>h.of_heap hh) own started (by kernel_rfl) Tryz.func3
  (ChangeSpec.witness_at (enc:=enc) (C:=Tryz.checked) (os:=os) (X:=λw _=>laidMetH Tryz.prog iw w) false (xO os) #[.agg #[.slice none 0 0,.slice none 0 0],.slice none 0 0,.agg #[.string ⟨#[]⟩,.string ⟨#[]⟩,.string ⟨#[]⟩,.string ⟨#[]⟩,.string ⟨#[]⟩,.string ⟨#[]⟩,.slice none 0 0],.slice none 0 0] 8 rfl (by kernel_rfl) (by kernel_rfl) (by kernel_rfl) (by kernel_rfl) (by kernel_rfl) (wP os _)) ?_
 intro W base args ds gs before hval0 hW _ _ hL _;have hg:=sU hL;have hval:∀(j:Nat) t v,Tryz.f3.params[j]?=some t->args[j]?=some v->Value.okWide Tryz.prog W .any base t v:=hval0;have hW0:=hW;obtain⟨p,q,hA0,_,_,_,_⟩:=hW;have hA:DataW.TrodAll enc Tryz.prog W 0 (λ_=>true) true Tryz.f3.params.toList args.toList ds p:=hA0;rw [Tryz.params3] at hA hval;clear hA0 hval0;obtain⟨v0,vs0,d0,ds0,p0,q0,hargs,rfl,rfl,h0,r0⟩:=trodAll_cons hA;obtain⟨v1,vs1,d1,ds1,p1,q1,rfl,rfl,rfl,h1,r1⟩:=trodAll_cons r0;obtain⟨v2,vs2,d2,ds2,p2,q2,rfl,rfl,rfl,h2,r2⟩:=trodAll_cons r1;obtain⟨v3,vs3,d3,ds3,p3,q3,rfl,rfl,rfl,h3,r3⟩:=trodAll_cons r2;obtain⟨rfl,rfl,rfl⟩:=trodAll_nil r3;obtain⟨args⟩:=args;simp only at hargs;subst hargs;obtain⟨x0,rfl,sx0⟩:=Ef (hval 0 25 v0 rfl rfl) h0;obtain⟨A1,n1,c1,E1,rfl,sx1⟩:=Mw (hval 1 26 v1 rfl rfl) h1;obtain⟨x2,rfl,sx2⟩:=yG (hval 2 31 v2 rfl rfl) h2;obtain⟨A3,n3,c3,P3,rfl,sx3⟩:=Ii (hval 3 29 v3 rfl rfl) h3;refine(rV x0 A1 n1 c1 E1 x2 A3 n3 c3 P3 W sx0 sx1 sx2 sx3 hg).mono λe W' ⟨he,hb'⟩=>?_;subst he;refine⟨_,rfl,Qf I1 (by kernel_rfl) (by rfl) Tryz.underlying4 rfl ?_ hW0 hb'⟩;intro ds hlen;rw [Tryz.params3] at hlen
 match ds,hlen with
 | [e0,e1,e2,e3],_=>rfl
theorem rO:Rows.checkSoundRow.holds Tryz.pinned (OpenSpec.ofChange Rows.checkSoundSpec):=
 OpenClaim.holds_of_wide 3 Tryz.f3 rfl rfl rfl rfl rfl rfl rfl ⟨rfl,rfl,rfl,rfl,rfl⟩ rfl rfl rfl rfl rfl ip Tryz.func3 oV
  sa r7
  (λos started H enc _=>oO os started H enc)
theorem CheckSound_holds:Rows.CheckSoundCardSaid :=
 Claim7.holds_tied_plain_at .later [] [.handle] true Rows.checkSoundCard.stood.harness true
  rO (λ_ h=>by cases h) wS (λ_ h=>by cases h) checkSound_row_tie rfl ⟨rfl,rfl⟩ rR rfl
  (λf fn hf hfn=>by
   obtain rfl:f=3:=Option.some.inj (ip.symm.trans hf)|>.symm
   obtain rfl:fn=Tryz.f3:=(Option.some.inj (Tryz.func3.symm.trans hfn)).symm
   exact⟨qI,λj t ht=>by
    rw [Tryz.params3] at ht
    have hm:=Array.mem_of_getElem? ht
    simp only [List.mem_toArray,List.mem_cons,List.not_mem_nil,or_false] at hm
    rcases hm with rfl|rfl|rfl|rfl
    all_goals exact(show Tryz.prog.wantsStandIn _=false by kernel_rfl)⟩)
  rZ
#print axioms CheckSound_holds
end Go.Proofs.YthifljpkgfpkiaaGreatDoor
