/-
  eval.Value: the value of an expression, or what is wrong. The laws' op, at one, two, three parts. A row of nodes of the call's own; nodes behind it. The ..
-/
import Derived.Test.YtkfgabdnppmglaaGreatDoorQ6
import Derived.Test.YtkfgabdnppmglaaGreatDoorQ8
import Derived.Test.YtkfgabdnppmglaaGreatDoorQ18
import Derived.Test.YtkfgabdnppmglaaGreatDoorQ19
import Derived.Test.YtkfgabdnppmglaaGreatDoorQ22
import Derived.Test.YtkfgabdnppmglaaGreatDoorQ30
import Derived.Test.YtkfgabdnppmglaaGreatDoorQ35
import Derived.Test.YtkfgabdnppmglaaGreatDoorQ37
import Derived.Test.YtkfgabdnppmglaaGreatDoorQ38
set_option maxRecDepth 100000
set_option maxHeartbeats 4000000
namespace Go.Proofs.YtkfgabdnppmglaaGreatDoor
open Go.RowKit Go.Wk Go.Sort
def zeV(w:World)(r:Res)(e:Ending)(w':World):Prop:=∃A n c,e = .returned (.tuple #[.slice A n c,j3 (zZ r)])∧Ns w' A n c (zju r)∧Below w.heap.size w w'
theorem zg7{w w':World}{k:Int}(hb:Below w.heap.size w w'):zeV w (.error k) (.returned (.tuple #[.slice none 0 0,j3 k])) w':=⟨none,0,0,rfl,jv w',hb⟩
def ztT(w:World)(q:Rq):World:=((w.alloc (.cells #[.string q.who.1,.string q.who.2,.string q.act.1,.string q.act.2,.string q.what.1,.string q.what.2,.slice q.NA q.nn q.nc] 27)).alloc (.cells #[.slice none 0 0] 25)).alloc (.cells #[.nilIface] 33)
structure Vw(w:World)(s:Nat)(q:Rq):Prop where
 vq:Vq w s q
 cv:w.cell? ⟨s+1,0,none⟩=some (.slice none 0 0)
 ce:w.cell? ⟨s+1+1,0,none⟩=some .nilIface
 zv:w.frozen? ⟨s+1,0,none⟩=false
 ze:w.frozen? ⟨s+1+1,0,none⟩=false
theorem Vw.keep{w w':World}{s:Nat}{q:Rq}(h:Vw w s q)(hb:Below w.heap.size w w'):Vw w' s q :=
 ⟨h.vq.keep hb,za hb h.cv,za hb h.ce,(hb.frozen (p:=⟨s+1,0,none⟩) (block_lt_of_cell h.cv)).trans h.zv,(hb.frozen (p:=⟨s+1+1,0,none⟩) (block_lt_of_cell h.ce)).trans h.ze⟩
theorem zhW(w:World)(q:Rq):Below w.heap.size w (ztT w q):=
 (zb w _).trans (((zb _ _).mono (by simp)).trans ((zb _ _).mono (by simp;omega)))
theorem zm5(w:World)(q:Rq):Vw (ztT w q) w.heap.size q:=by
 have h1:=zb1 w q 27;have h2:=(h1.keep (zb _ (.cells #[.slice none 0 0] 25))).keep (zb _ (.cells #[.nilIface] 33));refine⟨h2,?_,?_,?_,?_⟩
 ·have:=za (zb _ (.cells #[.nilIface] 33)) (jf (heap_alloc_last (w.alloc (.cells #[.string q.who.1,.string q.who.2,.string q.act.1,.string q.act.2,.string q.what.1,.string q.what.2,.slice q.NA q.nn q.nc] 27)) (.cells #[.slice none 0 0] 25)) (k:=0) (u := .slice none 0 0) rfl);rw [World.size_alloc] at this;exact this
 ·have:=jf (heap_alloc_last ((w.alloc (.cells #[.string q.who.1,.string q.who.2,.string q.act.1,.string q.act.2,.string q.what.1,.string q.what.2,.slice q.NA q.nn q.nc] 27)).alloc (.cells #[.slice none 0 0] 25)) (.cells #[.nilIface] 33)) (k:=0) (u := .nilIface) rfl;rw [World.size_alloc,World.size_alloc] at this;exact this
 ·have ha:(w.alloc (.cells #[.string q.who.1,.string q.who.2,.string q.act.1,.string q.act.2,.string q.what.1,.string q.what.2,.slice q.NA q.nn q.nc] 27)).heap.size=w.heap.size+1:=by simp
  exact((zb _ _).frozen (p:=⟨w.heap.size+1,0,none⟩) (by simp)).trans (World.frozen?_alloc_at _ _ _ _ ha.symm)
 ·have ha:((w.alloc (.cells #[.string q.who.1,.string q.who.2,.string q.act.1,.string q.act.2,.string q.what.1,.string q.what.2,.slice q.NA q.nn q.nc] 27)).alloc (.cells #[.slice none 0 0] 25)).heap.size=w.heap.size+1+1:=by simp
  exact World.frozen?_alloc_at _ _ _ _ ha.symm
theorem zfr{w:World}{s:Nat}{q:Rq}(h:Vw w s q)(x y:Value):((w.setCell ⟨s+1,0,none⟩ x).setCell ⟨s+1+1,0,none⟩ y).cell? ⟨s+1,0,none⟩=some x∧((w.setCell ⟨s+1,0,none⟩ x).setCell ⟨s+1+1,0,none⟩ y).cell? ⟨s+1+1,0,none⟩=some y :=
 ⟨(World.cell?_setCell_other _ _ _ _ (by intro e;injection e with e;omega)).trans (World.cell?_setCell_same w _ _ h.cv),World.cell?_setCell_same _ _ _ ((World.cell?_setCell_other w _ _ _ (by intro e;injection e with e;omega)).trans h.ce)⟩
theorem zpG(EA:Option Addr)(en ec:Nat)(E:List En)(q:Rq)(A:Option Addr)(n c:Nat)(P:List Nd)(w:World)(hE:Es w EA en ec E)(hq:zfV w q)(hP:Ns w A n c P)(hu:upF ⟨E,q.who,q.act,q.what,q.P⟩ P≠0):
 Calls Tryz.prog 5 #[.slice EA en ec,q.v,.slice A n c] w (zeV w (zbI ⟨E,q.who,q.act,q.what,q.P⟩ P)):=by
 have C1:=hi9 (fun w' (hb:Below w.heap.size w w')=>zfL EA en ec E w' (hE.keep hb));have C2:=hi9 (fun w' (hb:Below w.heap.size w w')=>zmq q w' (hq.keep hb));have C3:=hi9 (fun w' (hb:Below w.heap.size w w')=>zhA A n c P w' (hP.keep hb));have HR:=hi9 (show zbI ⟨E,q.who,q.act,q.what,q.P⟩ P = .error (upF ⟨E,q.who,q.act,q.what,q.P⟩ P) by unfold zbI;rw [if_neg hu]);have HU:=hi9 (show upF ⟨E,q.who,q.act,q.what,q.P⟩ P=or2 (ji E) (or2 (zdJ q.who q.act q.what q.P) (jL P)) from rfl);have HN:=hi9 hu;rw [HR.out];unfold Rq.v at C2 ⊢;generalize upF ⟨E,q.who,q.act,q.what,q.P⟩ P=U at *;generalize ji E=f1 at *;generalize zdJ q.who q.act q.what q.P=f2 at *;generalize jL P=f3 at *;have B0:=hi9 (zhW w q);have V0:=hi9 (zm5 w q);unfold ztT at B0 V0;clear hE hq hP hu;go_enter_defers Tryz.func5,Tryz.ntmps5;go_wp2_with fail;refine(C1.out _ B0.out).mono ?_;rintro e w1 ⟨rfl,b1⟩;have B1:=bh B0 b1;have V1:=hi9 (V0.out.keep b1);clear b1 B0 V0 C1;by_cases q1:f1=0
 case neg =>
  have hU:U=f1:=by rw [HU.out,jc q1]
  clear HU HN HR C2 C3;have HEV:=hi9 (zC q1);rw [HEV.out];obtain⟨-,cv,ce,zv,ze⟩:=V1.out;have hl1:=block_lt_of_cell cv;have hl2:=block_lt_of_cell ce;obtain⟨p1,p2⟩:=zfr V1.out (.slice none 0 0) (.iface 28 (.int .i64 f1));have BB:=hi9 ((B1.out.setCell (p:=⟨w.heap.size+1,0,none⟩) (Nat.le_succ _) (.slice none 0 0)).setCell (p:=⟨w.heap.size+1+1,0,none⟩) (Nat.le_succ_of_le (Nat.le_succ _)) (.iface 28 (.int .i64 f1)));have HT:=hi9 (zg7 (k:=f1) BB.out);rw [HEV.out] at HT;go_wp2_with fail;simp [bodyPostD,Leaves,results,Tryz.results5,go_sem,cv,ce];rw [hU];exact HT.out
 rw [q1,zo];obtain⟨⟨c0,c1,c2,c3,c4,c5,c6⟩,-,-,-,-⟩:=V1.out;go_wp2_with fail;refine(C2.out _ B1.out).mono ?_;rintro e w2 ⟨rfl,b2⟩;have B2:=bh B1 b2;have V2:=hi9 (V1.out.keep b2);clear b2 B1 V1 C2 c0 c1 c2 c3 c4 c5 c6;by_cases q2:f2=0
 case neg =>
  have hU:U=f2:=by rw [HU.out,q1,zx,jc q2]
  clear HU HN HR C3;have HEV:=hi9 (zC q2);rw [HEV.out];obtain⟨-,cv,ce,zv,ze⟩:=V2.out;have hl1:=block_lt_of_cell cv;have hl2:=block_lt_of_cell ce;obtain⟨p1,p2⟩:=zfr V2.out (.slice none 0 0) (.iface 28 (.int .i64 f2));have BB:=hi9 ((B2.out.setCell (p:=⟨w.heap.size+1,0,none⟩) (Nat.le_succ _) (.slice none 0 0)).setCell (p:=⟨w.heap.size+1+1,0,none⟩) (Nat.le_succ_of_le (Nat.le_succ _)) (.iface 28 (.int .i64 f2)));have HT:=hi9 (zg7 (k:=f2) BB.out);rw [HEV.out] at HT;go_wp2_with fail;simp [bodyPostD,Leaves,results,Tryz.results5,go_sem,cv,ce];rw [hU];exact HT.out
 rw [q2,zo];go_wp2_with fail;refine(C3.out _ B2.out).mono ?_;rintro e w3 ⟨rfl,b3⟩;have B3:=bh B2 b3;have V3:=hi9 (V2.out.keep b3);clear b3 B2 V2 C3;have hU:U=f3:=by rw [HU.out,q1,zx,q2,zx]
 have q3:f3≠0:=fun q=>HN.out (hU.trans q);clear HU HN HR;have HEV:=hi9 (zC q3);rw [HEV.out];obtain⟨-,cv,ce,zv,ze⟩:=V3.out;have hl1:=block_lt_of_cell cv;have hl2:=block_lt_of_cell ce;obtain⟨p1,p2⟩:=zfr V3.out (.slice none 0 0) (.iface 28 (.int .i64 f3));have BB:=hi9 ((B3.out.setCell (p:=⟨w.heap.size+1,0,none⟩) (Nat.le_succ _) (.slice none 0 0)).setCell (p:=⟨w.heap.size+1+1,0,none⟩) (Nat.le_succ_of_le (Nat.le_succ _)) (.iface 28 (.int .i64 f3)));have HT:=hi9 (zg7 (k:=f3) BB.out);rw [HEV.out] at HT;go_wp2_with fail;simp [bodyPostD,Leaves,results,Tryz.results5,go_sem,cv,ce];rw [hU];exact HT.out
theorem zqm(EA:Option Addr)(en ec:Nat)(E:List En)(q:Rq)(A:Option Addr)(n c:Nat)(P:List Nd)(w:World)(hE:Es w EA en ec E)(hq:zfV w q)(hP:Ns w A n c P)(hd:zbC w)(hu:upF ⟨E,q.who,q.act,q.what,q.P⟩ P=0):
 Calls Tryz.prog 5 #[.slice EA en ec,q.v,.slice A n c] w (zeV w (zbI ⟨E,q.who,q.act,q.what,q.P⟩ P)):=by
 obtain⟨hok,h200,x,hx,hPx⟩:=zm2 hu;have h1:ji E=0:=hok.e;have h2:zdJ q.who q.act q.what q.P=0:=by
  unfold upF at hu;exact(zav.1 (zav.1 hu).2).1
 have h3:jL P=0:=zfm.2 ⟨h200,x,hx,hPx⟩;have C1:=hi9 (fun w' (hb:Below w.heap.size w w')=>zfL EA en ec E w' (hE.keep hb));rw [h1,zo] at C1;have C2:=hi9 (fun w' (hb:Below w.heap.size w w')=>zmq q w' (hq.keep hb));rw [h2,zo] at C2;have C3:=hi9 (fun w' (hb:Below w.heap.size w w')=>zhA A n c P w' (hP.keep hb));rw [h3,zo] at C3;have HCX:=hi9 (fun w' (hb:Below w.heap.size w w')=>(⟨hE.keep hb,hq.keep hb,hP.keep hb,hd.keep hb,hok⟩:zdK w' ⟨EA,en,ec,E,q,A,n,c,P⟩));have HV:=hi9 (show zbI ⟨E,q.who,q.act,q.what,q.P⟩ P=evX ⟨E,q.who,q.act,q.what,q.P⟩ x from zj0 hu hx hPx);have HOK:=hi9 (fun V (h:evX ⟨E,q.who,q.act,q.what,q.P⟩ x = .ok V)=>zdU hok x false hx V h);have HXA:=hi9 (show XAt P 0 false x by rw [hPx];exact XAt.all hx);have HLX:=hi9 (show x.flat.length≤P.length from Nat.le_of_eq (by rw [hPx]));have NX:=hi9 (fun(W:World) (R:Nat)=>zka (W:=W) (R:=R) (k:=⟨EA,en,ec,E,q,A,n,c,P⟩) h200 P.length);have B0:=hi9 (zhW w q);have V0:=hi9 (zm5 w q);have hmf:∀(fn:Fn) (first cap:Array Value) (w:World),(Instr.makeFunc fn first cap).run Tryz.prog w = .ok (.func fn first cap) w:=fun _ _ _ _=>rfl;unfold ztT at B0 V0;unfold Rq.v at C2 ⊢;rw [HV.out];obtain⟨rr,hrr⟩:∃rr:Res,rr=evX ⟨E,q.who,q.act,q.what,q.P⟩ x:=⟨_,rfl⟩
 rw [←hrr];have HRR:=hi9 hrr;clear hE hq hP hd hu hok h200 hx hPx h1 h2 h3 hrr;go_enter_defers Tryz.func5,Tryz.ntmps5;go_wp2_with fail;refine(C1.out _ B0.out).mono ?_;rintro e w1 ⟨rfl,b1⟩;have B1:=bh B0 b1;have V1:=hi9 (V0.out.keep b1);clear b1 B0 V0 C1;obtain⟨⟨c0,c1,c2,c3,c4,c5,c6⟩,-,-,-,-⟩:=V1.out;go_wp2_with fail;refine(C2.out _ B1.out).mono ?_;rintro e w2 ⟨rfl,b2⟩;have B2:=bh B1 b2;have V2:=hi9 (V1.out.keep b2);clear b2 B1 V1 C2 c0 c1 c2 c3 c4 c5 c6;go_wp2_with fail;refine(C3.out _ B2.out).mono ?_;rintro e w3 ⟨rfl,b3⟩;have B3:=bh B2 b3;have V3:=hi9 (V2.out.keep b3);clear b3 B2 V2 C3;obtain⟨⟨c0,c1,c2,c3,c4,c5,c6⟩,-,-,-,-⟩:=V3.out;go_wp2_with fail;have hz:=World.size_alloc w3 (.cells #[.slice EA en ec,.string q.who.1,.string q.who.2,.string q.act.1,.string q.act.2,.string q.what.1,.string q.what.2,.slice q.NA q.nn q.nc,.slice A n c,.int .i64 0] 49);have E0:jb w3 (w3.alloc (.cells #[.slice EA en ec,.string q.who.1,.string q.who.2,.string q.act.1,.string q.act.2,.string q.what.1,.string q.what.2,.slice q.NA q.nn q.nc,.slice A n c,.int .i64 0] 49)) w3.heap.size ⟨EA,en,ec,E,q,A,n,c,P⟩ ((0:Nat):Int):=
  ⟨zb w3 _,Nat.le_refl _,HCX.out w3 B3.out,⟨_,heap_alloc_last w3 _⟩⟩
 have K:=hi9 (NX.out w3 w3.heap.size x 0 _ E0 HXA.out HLX.out);clear E0 c0 c1 c2 c3 c4 c5 c6;rw [show evX (Cx.env ⟨EA,en,ec,E,q,A,n,c,P⟩) x=rr from HRR.out.symm] at K;rcases rr with u|V
 ·unfold jh at K;refine K.out.mono ?_;rintro e w4 ⟨g4,rfl⟩;have b4:Below w3.heap.size w3 w4:=(zb w3 _).trans ((zaK g4 (Nat.le_refl _) (by rw [hz];omega)));have V4:=hi9 (V3.out.keep b4);have B4:=bh B3 b4;have hu0:u≠0:=fun z=>zdT x HXA.out.valid (HRR.out.symm.trans (by rw [z]));clear g4 b4 K V3 B3 hz HRR;obtain⟨-,cv,ce,zv,ze⟩:=V4.out;have hl1:=block_lt_of_cell cv;have hl2:=block_lt_of_cell ce;go_wp2_with fail;refine leaves_cons (f:=16) (args:=#[.pointer (some ⟨w.heap.size+1,0,none⟩),.pointer (some ⟨w.heap.size+1+1,0,none⟩)]) (by simp) (by simp [go_sem]) ?_;refine(zkG (w.heap.size+1) (w.heap.size+1+1) u _ _ [] w4 cv zv ce ze (by omega)).mono ?_;rintro e u' w5 ⟨rfl,rfl,rfl⟩;obtain⟨p1,p2⟩:=zfr V4.out (.slice none 0 0) (.iface 28 (.int .i64 u));have BB:=(B4.out.setCell (p:=⟨w.heap.size+1,0,none⟩) (Nat.le_succ _) (.slice none 0 0)).setCell (p:=⟨w.heap.size+1+1,0,none⟩) (Nat.le_succ_of_le (Nat.le_succ _)) (.iface 28 (.int .i64 u));have HT:=zg7 (k:=u) BB;rw [zC hu0] at HT;simp [Leaves,settle,results,Tryz.results5,go_sem,p1,p2];exact HT
 ·unfold jh at K;have vV:=HOK.out V HRR.out.symm;have pV:=zm vV;have lV:=(zP.1 vV).1;refine K.out.mono ?_;rintro e w4 ⟨g4,⟨A4,n4,c4,rfl,N4,-⟩,-⟩;have b4:Below w3.heap.size w3 w4:=(zb w3 _).trans ((zaK g4 (Nat.le_refl _) (by rw [hz];omega)));have V4:=hi9 (V3.out.keep b4);have B4:=bh B3 b4;obtain⟨a4,rfl,-⟩:=jm N4 pV;have K2:=hi9 (zmE a4 n4 c4 V w4 N4 (by omega));unfold zsN at K2;clear g4 b4 K V3 B3 hz HRR N4 vV pV;go_wp2_with fail;refine K2.out.mono ?_;rintro e w5 ⟨A5,c5,rfl,N5,F5,b5⟩;obtain⟨vl,hvl⟩:∃vl,vl=V.length:=⟨_,rfl⟩
  rw [←hvl] at N5 lV ⊢;have V5:=hi9 (V4.out.keep b5);have B5:=bh B4 b5;have HN5:=hi9 N5;obtain⟨-,cv0,ce0,-,-⟩:=V4.out;have hl3:=block_lt_of_cell cv0;have hl4:=block_lt_of_cell ce0;have HF5:=hi9 (show∀a,A5=some a→w.heap.size+1+1<a.block from fun a e=>Nat.lt_of_lt_of_le hl4 (F5 a e));obtain⟨-,cv,ce,zv,ze⟩:=V5.out;have hl1:=block_lt_of_cell cv;have hl2:=block_lt_of_cell ce;obtain⟨p1,p2⟩:=zfr V5.out (.slice A5 vl c5) .nilIface;have N6:=hi9 ((HN5.out.but (zJ w5 ⟨w.heap.size+1,0,none⟩ (.slice A5 vl c5)) (fun _ a e=>by have:=HF5.out a e;show a.block≠w.heap.size+1;omega)).but (zJ _ ⟨w.heap.size+1+1,0,none⟩ .nilIface) (fun _ a e=>by have:=HF5.out a e;show a.block≠w.heap.size+1+1;omega));have BB:=hi9 ((B5.out.setCell (p:=⟨w.heap.size+1,0,none⟩) (Nat.le_succ _) (.slice A5 vl c5)).setCell (p:=⟨w.heap.size+1+1,0,none⟩) (Nat.le_succ_of_le (Nat.le_succ _)) .nilIface);clear b5 N5 F5 V4 B4 K2 cv0 ce0 hl3 hl4 hvl;go_wp2_with fail;refine leaves_cons (f:=16) (args:=#[.pointer (some ⟨w.heap.size+1,0,none⟩),.pointer (some ⟨w.heap.size+1+1,0,none⟩)]) (by simp) (by simp [go_sem]) ?_;refine(znt ⟨w.heap.size+1,0,none⟩ ⟨w.heap.size+1+1,0,none⟩ _).mono ?_;rintro e u' w6 ⟨rfl,rfl,rfl⟩;simp [Leaves,settle,results,Tryz.results5,go_sem,p1,p2];exact⟨A5,vl,c5,rfl,N6.out,BB.out⟩
theorem znx(EA:Option Addr)(en ec:Nat)(E:List En)(q:Rq)(A:Option Addr)(n c:Nat)(P:List Nd)(w:World)(hE:Es w EA en ec E)(hq:zfV w q)(hP:Ns w A n c P)(hd:zbC w):
 Calls Tryz.prog 5 #[.slice EA en ec,q.v,.slice A n c] w (zeV w (zbI ⟨E,q.who,q.act,q.what,q.P⟩ P)):=by
 by_cases hu:upF ⟨E,q.who,q.act,q.what,q.P⟩ P=0
 ·exact zqm EA en ec E q A n c P w hE hq hP hd hu
 ·exact zpG EA en ec E q A n c P w hE hq hP hu
theorem jq(b:Bool)(w:World):
 Calls Tryz.prog 60 #[.bool b] w fun e w'=>∃A n c,e = .returned (.slice A n c)∧(Ns w' A n c (zt b)∧∀a,A=some a→w.heap.size≤a.block)∧Below w.heap.size w w':=by
 have N1:=hi9 (zdB w ⟨1,1,emp,emp⟩ ⟨by decide,by decide,by decide,by decide⟩);have N0:=hi9 (zdB w ⟨1,0,emp,emp⟩ ⟨by decide,by decide,by decide,by decide⟩);cases b
 ·go_enter Tryz.func60,Tryz.ntmps60;go_wp2_with fail;go_ret;exact⟨_,1,1,rfl,⟨N0.out,fun a e=>by injection e with e;subst e;exact Nat.le_refl _⟩,zb w _⟩
 ·go_enter Tryz.func60,Tryz.ntmps60;go_wp2_with fail;go_ret;exact⟨_,1,1,rfl,⟨N1.out,fun a e=>by injection e with e;subst e;exact Nat.le_refl _⟩,zb w _⟩
theorem zeL(u:Ud)(w:World)(hu:UOk u):
 Calls Tryz.prog 56 #[.agg #[.string u.1,.string u.2]] w fun e w'=>∃A n c,e = .returned (.slice A n c)∧(Ns w' A n c (zeH u)∧∀a,A=some a→w.heap.size≤a.block)∧Below w.heap.size w w':=by
 have N1:=hi9 (zdB (w.alloc (.cells #[.string u.1,.string u.2] 24)) ⟨4,0,u.1,u.2⟩ ⟨hu.1,hu.2,by show _≤(0:Int);decide,by show(0:Int)≤_;decide⟩);rw [show(w.alloc (.cells #[.string u.1,.string u.2] 24)).heap.size=w.heap.size+1 from by simp [go_sem]] at N1;have B1:=hi9 ((zb w (.cells #[.string u.1,.string u.2] 24)).trans ((zb (w.alloc (.cells #[.string u.1,.string u.2] 24)) (.cells #[.int .i64 4,.int .i64 0,.string u.1,.string u.2] 53)).mono (zb w _).size));clear hu;go_enter Tryz.func56,Tryz.ntmps56;go_wp2_with fail;go_ret;exact⟨_,1,1,rfl,⟨N1.out,fun a e=>by injection e with e;subst e;exact Nat.le_succ _⟩,B1.out⟩
def zD(S:Nat→Prop)(w:World)(r:Res)(e:Ending)(w':World):Prop :=
 ∃A n c,e = .returned (.agg #[.slice A n c,.int .i64 (zZ r)])∧Ns w' A n c (zju r)∧(∀a,A=some a→S a.block∨w.heap.size≤a.block)∧Below w.heap.size w w'
theorem zA{S:Nat→Prop}{w w1:World}{rb:Nat}{r:Res}{A:Option Addr}{n c:Nat}(hN:Ns w1 A n c (zju r))(hf:∀a,A=some a→(S a.block∨w.heap.size≤a.block)∧a.block≠rb)(hb:Below w.heap.size w w1)(hrb:w.heap.size≤rb):
 zD S w r (.returned (.agg #[.slice A n c,.int .i64 (zZ r)])) ((w1.setCell ⟨rb,0,none⟩ (.slice A n c)).setCell ⟨rb,1,none⟩ (.int .i64 (zZ r))):=
 ⟨A,n,c,rfl,(hN.but (zJ w1 ⟨rb,0,none⟩ (.slice A n c)) (fun _ a e=>(hf a e).2)).but (zJ _ ⟨rb,1,none⟩ (.int .i64 (zZ r))) (fun _ a e=>(hf a e).2),fun a e=>(hf a e).1,(hb.setCell (p:=⟨rb,0,none⟩) hrb (.slice A n c)).setCell (p:=⟨rb,1,none⟩) hrb (.int .i64 (zZ r))⟩
theorem j5{S:Nat→Prop}{w w1:World}{rb:Nat}{A:Option Addr}{x y:Value}(hb:Below w.heap.size w w1)(hR:Vr2 w1 rb x y)(h:∀a,A=some a→w1.heap.size≤a.block):∀a,A=some a→(S a.block∨w.heap.size≤a.block)∧a.block≠rb:=fun a e=>by
 have h1:=h a e;have h2:rb<w1.heap.size:=block_lt_of_cell hR.c0;exact⟨.inr (Nat.le_trans hb.size h1),by omega⟩
theorem zn6{S:Nat→Prop}{w:World}{rb:Nat}{A:Option Addr}(hrb:w.heap.size≤rb)(h:∀a,A=some a→S a.block∧a.block<w.heap.size):∀a,A=some a→(S a.block∨w.heap.size≤a.block)∧a.block≠rb:=fun a e=>by
 have h1:=h a e;exact⟨.inl h1.1,by omega⟩
theorem znj{S:Nat→Prop}{w w1:World}{rb:Nat}{A:Option Addr}{x y:Value}(hb:Below w.heap.size w w1)(hR:Vr2 w1 rb x y)(hrb:w.heap.size≤rb)(h:∀a,A=some a→(S a.block∧a.block<w.heap.size)∨w1.heap.size≤a.block):∀a,A=some a→(S a.block∨w.heap.size≤a.block)∧a.block≠rb:=fun a e=>by
 have h2:rb<w1.heap.size:=block_lt_of_cell hR.c0;rcases h a e with h1|h1
 ·exact⟨.inl h1.1,by omega⟩
 ·exact⟨.inr (Nat.le_trans hb.size h1),by omega⟩
theorem jB{S:Nat→Prop}{w:World}{rb:Nat}:∀a,(none:Option Addr)=some a→(S a.block∨w.heap.size≤a.block)∧a.block≠rb:=fun a e=>by cases e
theorem zcC(w:World)(o:Obj)(t:TypeId):Vr2 ((w.alloc o).alloc (.cells #[.slice none 0 0,.int .i64 0] t)) (w.heap.size+1) (.slice none 0 0) (.int .i64 0):=by
 have h:=j8 (w.alloc o) (.slice none 0 0) (.int .i64 0) t;rwa [show(w.alloc o).heap.size=w.heap.size+1 from by simp [go_sem]] at h
theorem zph(w:World)(o p:Obj)(t:TypeId):Vr2 (((w.alloc o).alloc p).alloc (.cells #[.slice none 0 0,.int .i64 0] t)) (w.heap.size+1+1) (.slice none 0 0) (.int .i64 0):=by
 have h:=j8 ((w.alloc o).alloc p) (.slice none 0 0) (.int .i64 0) t;rwa [show((w.alloc o).alloc p).heap.size=w.heap.size+1+1 from by simp [go_sem]] at h
structure Vg(w:World)(b:Nat)(A:Option Addr)(n c:Nat)(e:Int):Prop where
 c0:w.cell? ⟨b,0,none⟩=some (.slice A n c)
 c1:w.cell? ⟨b,1,none⟩=some (.int .i64 e)
theorem Vg.keep{w w':World}{b:Nat}{A:Option Addr}{n c:Nat}{e:Int}(h:Vg w b A n c e)(hb:Below w.heap.size w w'):Vg w' b A n c e:=⟨za hb h.c0,za hb h.c1⟩
theorem zf4(w:World)(A:Option Addr)(n c:Nat)(e:Int)(t:TypeId):Vg (w.alloc (.cells #[.slice A n c,.int .i64 e] t)) w.heap.size A n c e :=
 ⟨(zbM w _ _ t).1,(zbM w _ _ t).2⟩
theorem jA(u:Int)(w:World):
 Calls Tryz.prog 11 #[.int .i64 u] w fun e w'=>e = .returned (.agg #[.slice none 0 0,.int .i64 u])∧Below w.heap.size w w':=by
 go_enter Tryz.func11,Tryz.ntmps11;go_wp2_with fail;exact⟨rfl,.agg #[.slice none 0 0,.int .i64 u],by simp [results,Tryz.results11,go_sem],rfl,zb w _⟩
theorem jr(A:Option Addr)(n c:Nat)(w:World):
 Calls Tryz.prog 25 #[.slice A n c] w fun e w'=>e = .returned (.agg #[.slice A n c,.int .i64 0])∧Below w.heap.size w w':=by
 go_enter Tryz.func25,Tryz.ntmps25;go_wp2_with fail;exact⟨rfl,.agg #[.slice A n c,.int .i64 0],by simp [results,Tryz.results25,go_sem],rfl,zb w _⟩
theorem zsp(A:Option Addr)(n c:Nat)(u:Int)(w:World):
 Calls Tryz.prog 29 #[.slice A n c,.int .i64 u] w fun e w'=>e = .returned (.agg #[.slice A n c,.int .i64 u])∧Below w.heap.size w w':=by
 go_enter Tryz.func29,Tryz.ntmps29;go_wp2_with fail;exact⟨rfl,.agg #[.slice A n c,.int .i64 u],by simp [results,Tryz.results29,go_sem],rfl,zb w _⟩
theorem zS(A:Option Addr)(n c:Nat)(V:List Nd)(o:Int)(w:World)(h:Ns w A n c V)(h0:0<V.length):
 Calls Tryz.prog 57 #[.agg #[.slice A n c,.int .i64 0],.int .i64 o] w fun e w'=>e = .returned (.bool (zf V==o))∧Below w.heap.size w w':=by
 have B0:=zb w (.cells #[.slice A n c,.int .i64 0] 30);obtain⟨a,rfl,hn1,D,-,e⟩:=jm (h.keep B0) h0;have d0:=D.c0;have G0:=zf4 w (some a) n c 0 30;obtain⟨g0,g1⟩:=G0;rw [e];have hn:(0:Int)<(n:Int):=by omega
 have hn0:0<n:=hn1;have B1:=hi9 B0;generalize hdN V=x at *;clear h D e B0;go_enter Tryz.func57,Tryz.ntmps57;go_wp2_with fail;go_ret;exact⟨rfl,B1.out⟩
theorem zcy(x:Nd)(w:World):
 Calls Tryz.prog 105 #[.agg #[.int .i64 x.op,.int .i64 x.n,.string x.s,.string x.t]] w fun e w'=>e = .returned (.agg #[.string x.s,.string x.t])∧Below w.heap.size w w':=by
 have V0:=zdr w x 53;obtain⟨v0,v1,v2,v3⟩:=V0;have B1:=hi9 ((zb w (.cells #[.int .i64 x.op,.int .i64 x.n,.string x.s,.string x.t] 53)).trans ((zb (w.alloc (.cells #[.int .i64 x.op,.int .i64 x.n,.string x.s,.string x.t] 53)) (.cells #[.string x.s,.string x.t] 24)).mono (zb w _).size));go_enter Tryz.func105,Tryz.ntmps105;go_wp2_with fail;exact⟨rfl,.agg #[.string x.s,.string x.t],by simp [results,Tryz.results105,go_sem],rfl,B1.out⟩
theorem zpr(S:Nat→Prop)(k:Cx)(s:ByteArray)(w:World)(h:zdK w k)(hS:∀a,k.q.NA=some a→S a.block∧a.block<w.heap.size):Calls Tryz.prog 26 #[k.q.v,.string s] w (zD S w (jF k.env s)):=by
 have hrq:=h.rq;have HSS:=hi9 hS;clear hS;have W0:=hi9 ((zb1 w k.q 27).keep (zb (w.alloc (.cells #[.string k.q.who.1,.string k.q.who.2,.string k.q.act.1,.string k.q.act.2,.string k.q.what.1,.string k.q.what.2,.slice k.q.NA k.q.nn k.q.nc] 27)) (.cells #[.slice none 0 0,.int .i64 0] 30)));have B0:=hi9 ((zb w (.cells #[.string k.q.who.1,.string k.q.who.2,.string k.q.act.1,.string k.q.act.2,.string k.q.what.1,.string k.q.what.2,.slice k.q.NA k.q.nn k.q.nc] 27)).trans ((zb (w.alloc (.cells #[.string k.q.who.1,.string k.q.who.2,.string k.q.act.1,.string k.q.act.2,.string k.q.what.1,.string k.q.what.2,.slice k.q.NA k.q.nn k.q.nc] 27)) (.cells #[.slice none 0 0,.int .i64 0] 30)).mono (zb w _).size));have R0:=hi9 (zcC w (.cells #[.string k.q.who.1,.string k.q.who.2,.string k.q.act.1,.string k.q.act.2,.string k.q.what.1,.string k.q.what.2,.slice k.q.NA k.q.nn k.q.nc] 27) 30);have KG:=hi9 (fun A n c w=>jr A n c w);unfold Rq.v;by_cases g0:s=za8
 ·subst g0;have f0:(za8.toList == [112,114,105,110,99,105,112,97,108])=true:=beq_iff_eq.2 jy;have HR:=hi9 (show jF k.env za8 = .ok (zeH k.q.who) by unfold jF;rw [if_pos rfl];rfl);rw [HR.out];have KE:=hi9 (fun w=>zeL k.q.who w ⟨hrq.w1,hrq.w2⟩);obtain⟨k0,k1,k2,k3,k4,k5,k6⟩:=W0.out;clear h hrq W0;go_enter Tryz.func26,Tryz.ntmps26;go_wp2_with fail;refine(KE.out _).mono ?_;rintro e w1 ⟨A1,n1,c1,rfl,hN,b1⟩;have B1:=bh B0 b1;have HN:=hi9 hN.1;have HFR:=hi9 (j5 (S:=S) B0.out R0.out hN.2);have R1:=hi9 (R0.out.keep b1);clear b1 hN R0 KE k0 k1 k2 k3 k4 k5 k6;go_wp2_with fail;refine(KG.out A1 n1 c1 _).mono ?_;rintro e w2 ⟨rfl,b2⟩;have B2:=bh B1 b2;have N2:=hi9 (HN.out.keep b2);have R2:=hi9 (R1.out.keep b2);clear b2 HN B1 KG R1;have RS:=R2.out.set (.slice A1 n1 c1) (.int .i64 0);obtain⟨s0,s1,-,-⟩:=RS;have GF:=hi9 (zA (S:=S) (r := .ok (zeH k.q.who)) N2.out HFR.out B2.out (show w.heap.size≤w.heap.size+1 by omega));obtain⟨r0,r1,z0,z1⟩:=R2.out;go_wp2_with fail;exact bodyPost_ret (v := .agg #[.slice A1 n1 c1,.int .i64 0]) (by simp [results,Tryz.results26,go_sem,s0,s1]) rfl GF.out
 by_cases g1:s=zbV
 ·subst g1;have f1:(zbV.toList == [97,99,116,105,111,110])=true:=beq_iff_eq.2 zas;have f0:(zbV.toList == [112,114,105,110,99,105,112,97,108])=false:=beq_eq_false_iff_ne.2 (fun q=>g0 (toList_inj (q.trans jy.symm)));have HR:=hi9 (show jF k.env zbV = .ok (zeH k.q.act) by unfold jF;rw [if_neg g0];rw [if_pos rfl];rfl);rw [HR.out];have KE:=hi9 (fun w=>zeL k.q.act w ⟨hrq.a1,hrq.a2⟩);obtain⟨k0,k1,k2,k3,k4,k5,k6⟩:=W0.out;clear h hrq W0 g0;go_enter Tryz.func26,Tryz.ntmps26;go_wp2_with fail;refine(KE.out _).mono ?_;rintro e w1 ⟨A1,n1,c1,rfl,hN,b1⟩;have B1:=bh B0 b1;have HN:=hi9 hN.1;have HFR:=hi9 (j5 (S:=S) B0.out R0.out hN.2);have R1:=hi9 (R0.out.keep b1);clear b1 hN R0 KE k0 k1 k2 k3 k4 k5 k6;go_wp2_with fail;refine(KG.out A1 n1 c1 _).mono ?_;rintro e w2 ⟨rfl,b2⟩;have B2:=bh B1 b2;have N2:=hi9 (HN.out.keep b2);have R2:=hi9 (R1.out.keep b2);clear b2 HN B1 KG R1;have RS:=R2.out.set (.slice A1 n1 c1) (.int .i64 0);obtain⟨s0,s1,-,-⟩:=RS;have GF:=hi9 (zA (S:=S) (r := .ok (zeH k.q.act)) N2.out HFR.out B2.out (show w.heap.size≤w.heap.size+1 by omega));obtain⟨r0,r1,z0,z1⟩:=R2.out;go_wp2_with fail;exact bodyPost_ret (v := .agg #[.slice A1 n1 c1,.int .i64 0]) (by simp [results,Tryz.results26,go_sem,s0,s1]) rfl GF.out
 by_cases g2:s=zao
 ·subst g2;have f2:(zao.toList == [114,101,115,111,117,114,99,101])=true:=beq_iff_eq.2 zaJ;have f0:(zao.toList == [112,114,105,110,99,105,112,97,108])=false:=beq_eq_false_iff_ne.2 (fun q=>g0 (toList_inj (q.trans jy.symm)));have f1:(zao.toList == [97,99,116,105,111,110])=false:=beq_eq_false_iff_ne.2 (fun q=>g1 (toList_inj (q.trans zas.symm)));have HR:=hi9 (show jF k.env zao = .ok (zeH k.q.what) by unfold jF;rw [if_neg g0];rw [if_neg g1];rw [if_pos rfl];rfl);rw [HR.out];have KE:=hi9 (fun w=>zeL k.q.what w ⟨hrq.t1,hrq.t2⟩);obtain⟨k0,k1,k2,k3,k4,k5,k6⟩:=W0.out;clear h hrq W0 g0 g1;go_enter Tryz.func26,Tryz.ntmps26;go_wp2_with fail;refine(KE.out _).mono ?_;rintro e w1 ⟨A1,n1,c1,rfl,hN,b1⟩;have B1:=bh B0 b1;have HN:=hi9 hN.1;have HFR:=hi9 (j5 (S:=S) B0.out R0.out hN.2);have R1:=hi9 (R0.out.keep b1);clear b1 hN R0 KE k0 k1 k2 k3 k4 k5 k6;go_wp2_with fail;refine(KG.out A1 n1 c1 _).mono ?_;rintro e w2 ⟨rfl,b2⟩;have B2:=bh B1 b2;have N2:=hi9 (HN.out.keep b2);have R2:=hi9 (R1.out.keep b2);clear b2 HN B1 KG R1;have RS:=R2.out.set (.slice A1 n1 c1) (.int .i64 0);obtain⟨s0,s1,-,-⟩:=RS;have GF:=hi9 (zA (S:=S) (r := .ok (zeH k.q.what)) N2.out HFR.out B2.out (show w.heap.size≤w.heap.size+1 by omega));obtain⟨r0,r1,z0,z1⟩:=R2.out;go_wp2_with fail;exact bodyPost_ret (v := .agg #[.slice A1 n1 c1,.int .i64 0]) (by simp [results,Tryz.results26,go_sem,s0,s1]) rfl GF.out
 by_cases g3:s=zaw
 ·subst g3;have f3:(zaw.toList == [99,111,110,116,101,120,116])=true:=beq_iff_eq.2 zbT;have f0:(zaw.toList == [112,114,105,110,99,105,112,97,108])=false:=beq_eq_false_iff_ne.2 (fun q=>g0 (toList_inj (q.trans jy.symm)));have f1:(zaw.toList == [97,99,116,105,111,110])=false:=beq_eq_false_iff_ne.2 (fun q=>g1 (toList_inj (q.trans zas.symm)));have f2:(zaw.toList == [114,101,115,111,117,114,99,101])=false:=beq_eq_false_iff_ne.2 (fun q=>g2 (toList_inj (q.trans zaJ.symm)));have HR:=hi9 (show jF k.env zaw = .ok (k.q.P) by unfold jF;rw [if_neg g0];rw [if_neg g1];rw [if_neg g2];rw [if_pos rfl];rfl);rw [HR.out];obtain⟨k0,k1,k2,k3,k4,k5,k6⟩:=W0.out;have HN:=hi9 (hrq.ns.keep (w':=(w.alloc (.cells #[.string k.q.who.1,.string k.q.who.2,.string k.q.act.1,.string k.q.act.2,.string k.q.what.1,.string k.q.what.2,.slice k.q.NA k.q.nn k.q.nc] 27)).alloc (.cells #[.slice none 0 0,.int .i64 0] 30)) B0.out);clear h hrq W0 g0 g1 g2;go_enter Tryz.func26,Tryz.ntmps26;go_wp2_with fail;refine(KG.out _ _ _ _).mono ?_;rintro e w2 ⟨rfl,b2⟩;have B2:=bh B0 b2;have N2:=hi9 (HN.out.keep b2);have R2:=hi9 (R0.out.keep b2);clear b2 HN B0 KG k0 k1 k2 k3 k4 k5 k6 R0;have RS:=R2.out.set (.slice k.q.NA k.q.nn k.q.nc) (.int .i64 0);obtain⟨s0,s1,-,-⟩:=RS;have GF:=hi9 (zA (S:=S) (r := .ok (k.q.P)) N2.out (zn6 (by omega) HSS.out) B2.out (show w.heap.size≤w.heap.size+1 by omega));obtain⟨r0,r1,z0,z1⟩:=R2.out;go_wp2_with fail;exact bodyPost_ret (v := .agg #[.slice k.q.NA k.q.nn k.q.nc,.int .i64 0]) (by simp [results,Tryz.results26,go_sem,s0,s1]) rfl GF.out
 have f0:(s.toList == [112,114,105,110,99,105,112,97,108])=false:=beq_eq_false_iff_ne.2 (fun q=>g0 (toList_inj (q.trans jy.symm)));have f1:(s.toList == [97,99,116,105,111,110])=false:=beq_eq_false_iff_ne.2 (fun q=>g1 (toList_inj (q.trans zas.symm)));have f2:(s.toList == [114,101,115,111,117,114,99,101])=false:=beq_eq_false_iff_ne.2 (fun q=>g2 (toList_inj (q.trans zaJ.symm)));have f3:(s.toList == [99,111,110,116,101,120,116])=false:=beq_eq_false_iff_ne.2 (fun q=>g3 (toList_inj (q.trans zbT.symm)));have HR:=hi9 (show jF k.env s = .error 3 by unfold jF;rw [if_neg g0,if_neg g1,if_neg g2,if_neg g3]);rw [HR.out];clear h hrq g0 g1 g2 g3 KG W0;go_enter Tryz.func26,Tryz.ntmps26;go_wp2_with fail;refine(jA 3 _).mono ?_;rintro e w2 ⟨rfl,b2⟩;have B2:=bh B0 b2;have R2:=hi9 (R0.out.keep b2);clear b2 B0 R0;have RS:=R2.out.set (.slice none 0 0) (.int .i64 3);obtain⟨s0,s1,-,-⟩:=RS;have GF:=hi9 (zA (S:=S) (r := .error 3) (jv _) jB B2.out (show w.heap.size≤w.heap.size+1 by omega));obtain⟨r0,r1,z0,z1⟩:=R2.out;go_wp2_with fail;exact bodyPost_ret (v := .agg #[.slice none 0 0,.int .i64 3]) (by simp [results,Tryz.results26,go_sem,s0,s1]) rfl GF.out
end Go.Proofs.YtkfgabdnppmglaaGreatDoor
namespace Go.Proofs.YtkfgabdnppmglaaGreatDoor
open Go.RowKit Go.Wk
noncomputable def evL(σ:Env):List Ex→Except Int (List (List Nd))
 | [] => .ok []
 | x :: r=>match evX σ x with
  | .error e => .error e
  | .ok V=>match evL σ r with
   | .error e => .error e
   | .ok L => .ok (V :: L)
theorem zkQ(σ:Env):∀a b:List Ex,evL σ (a ++ b)=(match evL σ a with
 | .error e => .error e
 | .ok A=>match evL σ b with
  | .error e => .error e
  | .ok B => .ok (A ++ B))
 | [],b=>by
  simp only [List.nil_append,evL];cases evL σ b <;> rfl
 | x :: r,b=>by
  simp only [List.cons_append,evL]
  cases evX σ x with
  | error e=>rfl
  | ok V =>
   simp only
   rw [zkQ σ r b]
   cases evL σ r with
   | error e=>rfl
   | ok A =>
    simp only
    cases evL σ b with
    | error e=>rfl
    | ok B=>rfl
theorem zsj{σ:Env}{L:List Ex}{j:Nat}(h:j<L.length){Vs:List (List Nd)}(hv:evL σ (L.take j)= .ok Vs):(∀V,evX σ L[j] = .ok V→evL σ (L.take (j+1))= .ok (Vs ++ [V]))∧(∀e,evX σ L[j] = .error e→evL σ L = .error e):=by
 constructor
 ·intro V hV;rw [List.take_succ_eq_append_getElem h,zkQ,hv];simp only [evL,hV]
 ·intro e he;have:L=L.take j ++ L[j] :: L.drop (j+1):=by
   rw [←List.drop_eq_getElem_cons h,List.take_append_drop]
  generalize L[j]=y at *;rw [this,zkQ,hv];simp only [evL,he]
theorem zlM(σ:Env):∀ps:Exs,evS σ ps=evL σ (ps.list.map (zbt false))
 | .nil=>rfl
 | .cons x r=>by
  simp only [evS,Exs.list,List.map_cons,evL,zlM σ r];rfl
theorem zoI{σ:Env}{x:Ex}(h:x.valid true):zet σ x=evX σ (zbt true x):=by
 obtain⟨n,y,rfl,-⟩:=(XAt.all h).field;simp only [zet,zd7,zbt]
theorem zmV(σ:Env):∀(ps:Exs) (s:ByteArray),ps.valid true s→evF σ ps=(match evL σ (ps.list.map (zbt true)) with
 | .error e => .error e
 | .ok L => .ok ((ps.list.map fun x=>x.head.s).zip L))
 | .nil,_,_=>rfl
 | .cons x r,s,h=>by
  simp only [evF,Exs.list,List.map_cons,evL,zmV σ r _ h.2.2,zoI h.2.1]
  cases evX σ (zbt true x) with
  | error e=>rfl
  | ok V =>
   simp only
   cases evL σ (r.list.map (zbt true)) with
   | error e=>rfl
   | ok L=>rfl
theorem zpe{σ:Env}:∀ {L:List Ex} {Vs:List (List Nd)},evL σ L = .ok Vs→Vs.length=L.length
 | [],Vs,h=>by simp only [evL] at h;injection h with h;subst h;rfl
 | x :: r,Vs,h=>by
  simp only [evL] at h
  cases hx:evX σ x with
  | error e=>rw [hx] at h;cases h
  | ok V =>
   rw [hx] at h
   simp only at h
   cases hr:evL σ r with
   | error e=>rw [hr] at h;cases h
   | ok M =>
    rw [hr] at h
    injection h with h
    subst h
    simp [zpe hr]
theorem zpt(σ:Env)(n:Nd)(ps:Exs)(s:ByteArray)(hv:ps.valid (z6 n) s)(h1:¬(1≤n.op∧n.op≤4))(h8:n.op≠8)(h11:¬(n.op=11∨n.op=12))(h13:n.op≠13):
 evX σ (.node n ps)=(match evL σ (ps.list.map (zbt (z6 n))) with
  | .error e => .error e
  | .ok L=>if n.op=6 then z8 (zam (ps.list.map fun x=>x.head.s) L) (zcz (ps.list.map fun x=>x.head.s) L) else if n.op=5 then z8 (setE L) (setV L) else zeD σ.E n L):=by
 rw [evX,if_neg h1,if_neg h8,if_neg h11,if_neg h13];by_cases h6:n.op=6
 ·have hr:z6 n=true:=decide_eq_true h6;rw [if_pos h6];rw [hr] at hv ⊢;rw [zmV σ ps s hv];rcases hL:evL σ (ps.list.map (zbt true)) with e|L
  ·rfl
  ·have hl:=zpe hL;simp only [if_pos h6];rw [List.map_fst_zip (by rw [hl];simp),List.map_snd_zip (by rw [hl];simp)]
 ·have hr:z6 n=false:=decide_eq_false h6;rw [if_neg h6,hr,zlM];rcases hL:evL σ (ps.list.map (zbt false)) with e|L
  ·rfl
  ·simp only [if_neg h6]
end Go.Proofs.YtkfgabdnppmglaaGreatDoor
namespace Go.Proofs.YtkfgabdnppmglaaGreatDoor
open Go.RowKit Go.Wk Go.Sort
def zf2(W:World)(k:Cx)(N:Nat):Prop:=∀(x:Ex) (p:Nat) (w:World),zdK w k→Below W.heap.size W w→XAt k.P p false x→x.flat.length≤N→
 Calls Tryz.prog 12 #[.slice k.EA k.en k.ec,k.q.v,.slice k.A k.n k.c,.int .i64 p] w (zD (fun b=>b<W.heap.size) w (evX k.env x))
theorem ztU(S:Nat→Prop)(k:Cx)(x:Ex)(p:Nat)(w:World)(h:zdK w k)(hx:XAt k.P p false x)(h14:1≤x.head.op∧x.head.op≤4):
 Calls Tryz.prog 12 #[.slice k.EA k.en k.ec,k.q.v,.slice k.A k.n k.c,.int .i64 p] w (zD S w (.ok [x.head])):=by
 obtain⟨a,ea,d0,d1,d2,d3⟩:=h.ns.at_ p _ hx.head;have hpn:p<k.n:=by rw [h.ns.len];exact(List.getElem?_eq_some_iff.1 hx.head).1
 have hok:zcw x.head:=h.ns.ok _ (List.mem_of_getElem? hx.head);have HH:=hi9 h;rw [ea];generalize x.head=y at *;have B1:Below w.heap.size w (w.alloc (.cells #[.string k.q.who.1,.string k.q.who.2,.string k.q.act.1,.string k.q.act.2,.string k.q.what.1,.string k.q.what.2,.slice k.q.NA k.q.nn k.q.nc] 27)):=zb w _;have B2:Below w.heap.size w ((w.alloc (.cells #[.string k.q.who.1,.string k.q.who.2,.string k.q.act.1,.string k.q.act.2,.string k.q.what.1,.string k.q.what.2,.slice k.q.NA k.q.nn k.q.nc] 27)).alloc (.cells #[.slice none 0 0,.int .i64 0] 30)):=B1.trans ((zb (w.alloc (.cells #[.string k.q.who.1,.string k.q.who.2,.string k.q.act.1,.string k.q.act.2,.string k.q.what.1,.string k.q.what.2,.slice k.q.NA k.q.nn k.q.nc] 27)) _).mono B1.size);have B0:=hi9 (show Below w.heap.size w (((w.alloc (.cells #[.string k.q.who.1,.string k.q.who.2,.string k.q.act.1,.string k.q.act.2,.string k.q.what.1,.string k.q.what.2,.slice k.q.NA k.q.nn k.q.nc] 27)).alloc (.cells #[.slice none 0 0,.int .i64 0] 30)).alloc (.cells #[.int .i64 y.op,.int .i64 y.n,.string y.s,.string y.t] 53)) from B2.trans ((zb ((w.alloc (.cells #[.string k.q.who.1,.string k.q.who.2,.string k.q.act.1,.string k.q.act.2,.string k.q.what.1,.string k.q.what.2,.slice k.q.NA k.q.nn k.q.nc] 27)).alloc (.cells #[.slice none 0 0,.int .i64 0] 30)) _).mono B2.size));have hz2:((w.alloc (.cells #[.string k.q.who.1,.string k.q.who.2,.string k.q.act.1,.string k.q.act.2,.string k.q.what.1,.string k.q.what.2,.slice k.q.NA k.q.nn k.q.nc] 27)).alloc (.cells #[.slice none 0 0,.int .i64 0] 30)).heap.size=w.heap.size+1+1:=by simp [go_sem]
 have hz0:(((w.alloc (.cells #[.string k.q.who.1,.string k.q.who.2,.string k.q.act.1,.string k.q.act.2,.string k.q.what.1,.string k.q.what.2,.slice k.q.NA k.q.nn k.q.nc] 27)).alloc (.cells #[.slice none 0 0,.int .i64 0] 30)).alloc (.cells #[.int .i64 y.op,.int .i64 y.n,.string y.s,.string y.t] 53)).heap.size=w.heap.size+1+1+1:=by simp [go_sem]
 have W0:=hi9 (((zb1 w k.q 27).keep (zb (w.alloc (.cells #[.string k.q.who.1,.string k.q.who.2,.string k.q.act.1,.string k.q.act.2,.string k.q.what.1,.string k.q.what.2,.slice k.q.NA k.q.nn k.q.nc] 27)) (.cells #[.slice none 0 0,.int .i64 0] 30))).keep (zb ((w.alloc (.cells #[.string k.q.who.1,.string k.q.who.2,.string k.q.act.1,.string k.q.act.2,.string k.q.what.1,.string k.q.what.2,.slice k.q.NA k.q.nn k.q.nc] 27)).alloc (.cells #[.slice none 0 0,.int .i64 0] 30)) (.cells #[.int .i64 y.op,.int .i64 y.n,.string y.s,.string y.t] 53)));have X0:=zdr ((w.alloc (.cells #[.string k.q.who.1,.string k.q.who.2,.string k.q.act.1,.string k.q.act.2,.string k.q.what.1,.string k.q.what.2,.slice k.q.NA k.q.nn k.q.nc] 27)).alloc (.cells #[.slice none 0 0,.int .i64 0] 30)) y 53;rw [hz2] at X0;have R0:=hi9 ((zcC w (.cells #[.string k.q.who.1,.string k.q.who.2,.string k.q.act.1,.string k.q.act.2,.string k.q.what.1,.string k.q.what.2,.slice k.q.NA k.q.nn k.q.nc] 27) 30).keep (zb ((w.alloc (.cells #[.string k.q.who.1,.string k.q.who.2,.string k.q.act.1,.string k.q.act.2,.string k.q.what.1,.string k.q.what.2,.slice k.q.NA k.q.nn k.q.nc] 27)).alloc (.cells #[.slice none 0 0,.int .i64 0] 30)) (.cells #[.int .i64 y.op,.int .i64 y.n,.string y.s,.string y.t] 53)));replace d0:=za B2 d0;replace d1:=za B2 d1;replace d2:=za B2 d2;replace d3:=za B2 d3;clear B1 B2 hz2;have f1:(1:Int)≤y.op:=h14.1;have f2:y.op≤(4:Int):=h14.2;have KG:=hi9 (fun A n c w=>jr A n c w);have N0:=zdB (((w.alloc (.cells #[.string k.q.who.1,.string k.q.who.2,.string k.q.act.1,.string k.q.act.2,.string k.q.what.1,.string k.q.what.2,.slice k.q.NA k.q.nn k.q.nc] 27)).alloc (.cells #[.slice none 0 0,.int .i64 0] 30)).alloc (.cells #[.int .i64 y.op,.int .i64 y.n,.string y.s,.string y.t] 53)) y hok;rw [hz0] at N0;have NL:=hi9 N0;have B1:=bh B0 (zb (((w.alloc (.cells #[.string k.q.who.1,.string k.q.who.2,.string k.q.act.1,.string k.q.act.2,.string k.q.what.1,.string k.q.what.2,.slice k.q.NA k.q.nn k.q.nc] 27)).alloc (.cells #[.slice none 0 0,.int .i64 0] 30)).alloc (.cells #[.int .i64 y.op,.int .i64 y.n,.string y.s,.string y.t] 53)) (.cells #[.int .i64 y.op,.int .i64 y.n,.string y.s,.string y.t] 53));have R1:=hi9 (R0.out.keep (zb (((w.alloc (.cells #[.string k.q.who.1,.string k.q.who.2,.string k.q.act.1,.string k.q.act.2,.string k.q.what.1,.string k.q.what.2,.slice k.q.NA k.q.nn k.q.nc] 27)).alloc (.cells #[.slice none 0 0,.int .i64 0] 30)).alloc (.cells #[.int .i64 y.op,.int .i64 y.n,.string y.s,.string y.t] 53)) (.cells #[.int .i64 y.op,.int .i64 y.n,.string y.s,.string y.t] 53)));have HFR:=hi9 (j5 (S:=S) (A:=some ⟨w.heap.size+1+1+1,0,none⟩) B0.out R0.out (fun a e=>by injection e with e;subst e;rw [hz0];exact Nat.le_refl _));obtain⟨x0,x1,x2,x3⟩:=X0;unfold Rq.v;clear h hx hok N0 h14 W0 hz0 R0 B0;go_enter Tryz.func12,Tryz.ntmps12;go_wp2_with fail;refine(KG.out _ _ _ _).mono ?_;rintro e w2 ⟨rfl,b2⟩;have B2:=bh B1 b2;have R2:=hi9 (R1.out.keep b2);have NZ:=hi9 (NL.out.keep b2);clear b2 B1 R1 x0 x1 x2 x3;have RS:=R2.out.set (.slice (some ⟨w.heap.size+1+1+1,0,none⟩) 1 1) (.int .i64 0);obtain⟨s0,s1,-,-⟩:=RS;have GF:=hi9 (zA (S:=S) (r := .ok [y]) NZ.out HFR.out B2.out (show w.heap.size≤w.heap.size+1 by omega));obtain⟨r0,r1,z0,z1⟩:=R2.out;go_wp2_with fail;exact bodyPost_ret (v := .agg #[.slice (some ⟨w.heap.size+1+1+1,0,none⟩) 1 1,.int .i64 0]) (by simp [results,Tryz.results12,go_sem,s0,s1]) rfl GF.out
theorem zuJ(S:Nat→Prop)(k:Cx)(x:Ex)(p:Nat)(w:World)(h:zdK w k)(hx:XAt k.P p false x)(h8:x.head.op=8)(hS:∀a,k.q.NA=some a→S a.block)(hL:∀a,k.q.NA=some a→a.block<w.heap.size):
 Calls Tryz.prog 12 #[.slice k.EA k.en k.ec,k.q.v,.slice k.A k.n k.c,.int .i64 p] w (zD S w (jF k.env x.head.s)):=by
 obtain⟨a,ea,d0,d1,d2,d3⟩:=h.ns.at_ p _ hx.head;have hpn:p<k.n:=by rw [h.ns.len];exact(List.getElem?_eq_some_iff.1 hx.head).1
 have hok:zcw x.head:=h.ns.ok _ (List.mem_of_getElem? hx.head);have HH:=hi9 h;rw [ea];generalize x.head=y at *;obtain⟨yo,yn,ys,yt⟩:=y;dsimp only at h8 d0 d1 d2 d3 hok ⊢;subst h8;have B1:Below w.heap.size w (w.alloc (.cells #[.string k.q.who.1,.string k.q.who.2,.string k.q.act.1,.string k.q.act.2,.string k.q.what.1,.string k.q.what.2,.slice k.q.NA k.q.nn k.q.nc] 27)):=zb w _;have B2:Below w.heap.size w ((w.alloc (.cells #[.string k.q.who.1,.string k.q.who.2,.string k.q.act.1,.string k.q.act.2,.string k.q.what.1,.string k.q.what.2,.slice k.q.NA k.q.nn k.q.nc] 27)).alloc (.cells #[.slice none 0 0,.int .i64 0] 30)):=B1.trans ((zb (w.alloc (.cells #[.string k.q.who.1,.string k.q.who.2,.string k.q.act.1,.string k.q.act.2,.string k.q.what.1,.string k.q.what.2,.slice k.q.NA k.q.nn k.q.nc] 27)) _).mono B1.size);have B0:=hi9 (show Below w.heap.size w (((w.alloc (.cells #[.string k.q.who.1,.string k.q.who.2,.string k.q.act.1,.string k.q.act.2,.string k.q.what.1,.string k.q.what.2,.slice k.q.NA k.q.nn k.q.nc] 27)).alloc (.cells #[.slice none 0 0,.int .i64 0] 30)).alloc (.cells #[.int .i64 8,.int .i64 yn,.string ys,.string yt] 53)) from B2.trans ((zb ((w.alloc (.cells #[.string k.q.who.1,.string k.q.who.2,.string k.q.act.1,.string k.q.act.2,.string k.q.what.1,.string k.q.what.2,.slice k.q.NA k.q.nn k.q.nc] 27)).alloc (.cells #[.slice none 0 0,.int .i64 0] 30)) _).mono B2.size));have hz2:((w.alloc (.cells #[.string k.q.who.1,.string k.q.who.2,.string k.q.act.1,.string k.q.act.2,.string k.q.what.1,.string k.q.what.2,.slice k.q.NA k.q.nn k.q.nc] 27)).alloc (.cells #[.slice none 0 0,.int .i64 0] 30)).heap.size=w.heap.size+1+1:=by simp [go_sem]
 have hz0:(((w.alloc (.cells #[.string k.q.who.1,.string k.q.who.2,.string k.q.act.1,.string k.q.act.2,.string k.q.what.1,.string k.q.what.2,.slice k.q.NA k.q.nn k.q.nc] 27)).alloc (.cells #[.slice none 0 0,.int .i64 0] 30)).alloc (.cells #[.int .i64 8,.int .i64 yn,.string ys,.string yt] 53)).heap.size=w.heap.size+1+1+1:=by simp [go_sem]
 have W0:=hi9 (((zb1 w k.q 27).keep (zb (w.alloc (.cells #[.string k.q.who.1,.string k.q.who.2,.string k.q.act.1,.string k.q.act.2,.string k.q.what.1,.string k.q.what.2,.slice k.q.NA k.q.nn k.q.nc] 27)) (.cells #[.slice none 0 0,.int .i64 0] 30))).keep (zb ((w.alloc (.cells #[.string k.q.who.1,.string k.q.who.2,.string k.q.act.1,.string k.q.act.2,.string k.q.what.1,.string k.q.what.2,.slice k.q.NA k.q.nn k.q.nc] 27)).alloc (.cells #[.slice none 0 0,.int .i64 0] 30)) (.cells #[.int .i64 8,.int .i64 yn,.string ys,.string yt] 53)));have X0:=zdr ((w.alloc (.cells #[.string k.q.who.1,.string k.q.who.2,.string k.q.act.1,.string k.q.act.2,.string k.q.what.1,.string k.q.what.2,.slice k.q.NA k.q.nn k.q.nc] 27)).alloc (.cells #[.slice none 0 0,.int .i64 0] 30)) ⟨8,yn,ys,yt⟩ 53;rw [hz2] at X0;have R0:=hi9 ((zcC w (.cells #[.string k.q.who.1,.string k.q.who.2,.string k.q.act.1,.string k.q.act.2,.string k.q.what.1,.string k.q.what.2,.slice k.q.NA k.q.nn k.q.nc] 27) 30).keep (zb ((w.alloc (.cells #[.string k.q.who.1,.string k.q.who.2,.string k.q.act.1,.string k.q.act.2,.string k.q.what.1,.string k.q.what.2,.slice k.q.NA k.q.nn k.q.nc] 27)).alloc (.cells #[.slice none 0 0,.int .i64 0] 30)) (.cells #[.int .i64 8,.int .i64 yn,.string ys,.string yt] 53)));replace d0:=za B2 d0;replace d1:=za B2 d1;replace d2:=za B2 d2;replace d3:=za B2 d3;clear B1 B2 hz2;have KN:=hi9 (fun w' (hb:Below w.heap.size w w')=>zpr (fun b=>S b∧b<w.heap.size) k ys w' (h.keep hb) (fun a e=>⟨⟨hS a e,hL a e⟩,Nat.lt_of_lt_of_le (hL a e) hb.size⟩));obtain⟨x0,x1,x2,x3⟩:=X0;dsimp only at x0 x1 x2 x3;unfold zD Rq.v at KN;unfold Rq.v;obtain⟨rr,hrr⟩:∃rr,rr=jF k.env ys:=⟨_,rfl⟩
 rw [←hrr] at KN ⊢;obtain⟨k0,k1,k2,k3,k4,k5,k6⟩:=W0.out;clear h hx hok hz0 hS hL hrr;go_enter Tryz.func12,Tryz.ntmps12;go_wp2_with fail;refine(KN.out _ B0.out).mono ?_;rintro e w2 ⟨A2,n2,c2,rfl,hN,hf,b2⟩;have B2:=bh B0 b2;have NZ:=hi9 hN;have HFR:=hi9 (znj (S:=S) (rb:=w.heap.size+1) B0.out R0.out (by omega) hf);have R2:=hi9 (R0.out.keep b2);clear b2 B0 hN hf x0 x1 x2 x3 k0 k1 k2 k3 k4 k5 k6 R0;have RS:=R2.out.set (.slice A2 n2 c2) (.int .i64 (zZ rr));obtain⟨s0,s1,-,-⟩:=RS;have GF:=hi9 (zA (S:=S) (r:=rr) NZ.out HFR.out B2.out (show w.heap.size≤w.heap.size+1 by omega));obtain⟨r0,r1,z0,z1⟩:=R2.out;go_wp2_with fail;exact bodyPost_ret (v := .agg #[.slice A2 n2 c2,.int .i64 (zZ rr)]) (by simp [results,Tryz.results12,go_sem,s0,s1]) rfl GF.out
section
variable (a:Addr) (n c q:Nat) (xo xn:Int) (xs xt:ByteArray) (w:World) (hm:n≤maxLen) (hq:q<n) (d0:w.cell? (a.add (q*4))=some (.int .i64 xo)) (d1:w.cell? ⟨(a.add (q*4)).block,(a.add (q*4)).off+1,none⟩=some (.int .i64 xn)) (d2:w.cell? ⟨(a.add (q*4)).block,(a.add (q*4)).off+2,none⟩=some (.string xs)) (d3:w.cell? ⟨(a.add (q*4)).block,(a.add (q*4)).off+3,none⟩=some (.string xt))
include hm hq d0 d1 d2 d3
end
end Go.Proofs.YtkfgabdnppmglaaGreatDoor
