/-
  What stands for a value is it: an expression with another one at the place of a ..
-/
import Derived.Test.YtokiogmfgpidmaaGreatDoorQ36
set_option maxRecDepth 100000
set_option maxHeartbeats 4000000
namespace Go.Proofs.YtokiogmfgpidmaaGreatDoor
open Go.RowKit Go.Wk
end Go.Proofs.YtokiogmfgpidmaaGreatDoor
namespace Go.Proofs.YtokiogmfgpidmaaGreatDoor
open Go.RowKit Go.Wk Go.Sort
def cu(w:World)(r:Res)(e:Ending)(w':World):Prop:=∃A n c,e = .returned (.tuple #[.slice A n c,jr (FY r)])/\Ns w' A n c (Dj r)/\Below w.heap.size w w'
theorem eH{w w':World}{k:Int}(hb:Below w.heap.size w w'):cu w (.error k) (.returned (.tuple #[.slice none 0 0,jr k])) w':=⟨none,0,0,rfl,rE w',hb⟩
def GI(w:World)(q:Rq):World:=((w.alloc (.cells #[.string q.who.1,.string q.who.2,.string q.act.1,.string q.act.2,.string q.what.1,.string q.what.2,.slice q.NA q.nn q.nc] 38)).alloc (.cells #[.slice none 0 0] 22)).alloc (.cells #[.nilIface] 24)
structure Vw(w:World)(s:Nat)(q:Rq):Prop where
 vq:Vq w s q
 cv:w.cell? ⟨s+1,0,none⟩=some (.slice none 0 0)
 ce:w.cell? ⟨s+1+1,0,none⟩=some .nilIface
 zv:w.frozen? ⟨s+1,0,none⟩=false
 ze:w.frozen? ⟨s+1+1,0,none⟩=false
theorem Vw.keep{w w':World}{s:Nat}{q:Rq}(h:Vw w s q)(hb:Below w.heap.size w w'):Vw w' s q :=
 ⟨h.vq.keep hb,za hb h.cv,za hb h.ce,(hb.frozen (p:=⟨s+1,0,none⟩) (block_lt_of_cell h.cv)).trans h.zv,(hb.frozen (p:=⟨s+1+1,0,none⟩) (block_lt_of_cell h.ce)).trans h.ze⟩
theorem m8(w:World)(q:Rq):Below w.heap.size w (GI w q):=
 (zb w _).trans (((zb _ _).mono (by simp)).trans ((zb _ _).mono (by simp;omega)))
theorem tX(w:World)(q:Rq):Vw (GI w q) w.heap.size q:=by
 have h1:=xH w q 38;have h2:=(h1.keep (zb _ (.cells #[.slice none 0 0] 22))).keep (zb _ (.cells #[.nilIface] 24));refine⟨h2,?_,?_,?_,?_⟩
 ·have:=za (zb _ (.cells #[.nilIface] 24)) (zV (heap_alloc_last (w.alloc (.cells #[.string q.who.1,.string q.who.2,.string q.act.1,.string q.act.2,.string q.what.1,.string q.what.2,.slice q.NA q.nn q.nc] 38)) (.cells #[.slice none 0 0] 22)) (k:=0) (u := .slice none 0 0) rfl);rw [World.size_alloc] at this;exact this
 ·have:=zV (heap_alloc_last ((w.alloc (.cells #[.string q.who.1,.string q.who.2,.string q.act.1,.string q.act.2,.string q.what.1,.string q.what.2,.slice q.NA q.nn q.nc] 38)).alloc (.cells #[.slice none 0 0] 22)) (.cells #[.nilIface] 24)) (k:=0) (u := .nilIface) rfl;rw [World.size_alloc,World.size_alloc] at this;exact this
 ·have ha:(w.alloc (.cells #[.string q.who.1,.string q.who.2,.string q.act.1,.string q.act.2,.string q.what.1,.string q.what.2,.slice q.NA q.nn q.nc] 38)).heap.size=w.heap.size+1:=by simp
  exact((zb _ _).frozen (p:=⟨w.heap.size+1,0,none⟩) (by simp)).trans (World.frozen?_alloc_at _ _ _ _ ha.symm)
 ·have ha:((w.alloc (.cells #[.string q.who.1,.string q.who.2,.string q.act.1,.string q.act.2,.string q.what.1,.string q.what.2,.slice q.NA q.nn q.nc] 38)).alloc (.cells #[.slice none 0 0] 22)).heap.size=w.heap.size+1+1:=by simp
  exact World.frozen?_alloc_at _ _ _ _ ha.symm
theorem iM{w:World}{s:Nat}{q:Rq}(h:Vw w s q)(x y:Value):((w.setCell ⟨s+1,0,none⟩ x).setCell ⟨s+1+1,0,none⟩ y).cell? ⟨s+1,0,none⟩=some x/\((w.setCell ⟨s+1,0,none⟩ x).setCell ⟨s+1+1,0,none⟩ y).cell? ⟨s+1+1,0,none⟩=some y :=
 ⟨(World.cell?_setCell_other _ _ _ _ (by intro e;injection e with e;omega)).trans (World.cell?_setCell_same w _ _ h.cv),World.cell?_setCell_same _ _ _ ((World.cell?_setCell_other w _ _ _ (by intro e;injection e with e;omega)).trans h.ce)⟩
theorem Cb(EA:Option Addr)(en ec:Nat)(E:List En)(q:Rq)(A:Option Addr)(n c:Nat)(P:List Nd)(w:World)(hE:Es w EA en ec E)(hq:oV w q)(hP:Ns w A n c P)(hu:upF ⟨E,q.who,q.act,q.what,q.P⟩ P≠0):
 Calls Tryz.prog 13 #[.slice EA en ec,q.v,.slice A n c] w (cu w (ct ⟨E,q.who,q.act,q.what,q.P⟩ P)):=by
 have C1:=O (λw' (hb:Below w.heap.size w w')=>kM EA en ec E w' (hE.keep hb));have C2:=O (λw' (hb:Below w.heap.size w w')=>tl q w' (hq.keep hb));have C3:=O (λw' (hb:Below w.heap.size w w')=>de A n c P w' (hP.keep hb));have HR:=O (show ct ⟨E,q.who,q.act,q.what,q.P⟩ P = .error (upF ⟨E,q.who,q.act,q.what,q.P⟩ P) by unfold ct;rw [if_neg hu]);have HU:=O (show upF ⟨E,q.who,q.act,q.what,q.P⟩ P=or2 (jw E) (or2 (qn q.who q.act q.what q.P) (jc P)) from rfl);have HN:=O hu;rw [HR.o];unfold Rq.v at C2 ⊢;generalize upF ⟨E,q.who,q.act,q.what,q.P⟩ P=U at *;generalize jw E=f1 at *;generalize qn q.who q.act q.what q.P=f2 at *;generalize jc P=f3 at *;have B0:=O (m8 w q);have V0:=O (tX w q);unfold GI at B0 V0;clear hE hq hP hu;go_enter_defers Tryz.func13,Tryz.ntmps13;go_wp2_with fail;refine(C1.o _ B0.o).mono ?_;rintro e w1 ⟨rfl,b1⟩;have B1:=bh B0 b1;have V1:=O (V0.o.keep b1);clear b1 B0 V0 C1;by_cases q1:f1=0
 case neg =>
  have hU:U=f1:=by rw [HU.o,jt q1]
  clear HU HN HR C2 C3;have hJ:=O (zn q1);rw [hJ.o];obtain⟨-,cv,ce,zv,ze⟩:=V1.o;have ql:=block_lt_of_cell cv;have hl2:=block_lt_of_cell ce;obtain⟨p1,p2⟩:=iM V1.o (.slice none 0 0) (.iface 41 (.int .i64 f1));have BB:=O ((B1.o.setCell (p:=⟨w.heap.size+1,0,none⟩) (Nat.le_succ _) (.slice none 0 0)).setCell (p:=⟨w.heap.size+1+1,0,none⟩) (Nat.le_succ_of_le (Nat.le_succ _)) (.iface 41 (.int .i64 f1)));have HT:=O (eH (k:=f1) BB.o);rw [hJ.o] at HT;go_wp2_with fail;simp [bodyPostD,Leaves,results,Tryz.results13,go_sem,cv,ce];rw [hU];exact HT.o
 rw [q1,zk];obtain⟨⟨c0,c1,c2,c3,c4,c5,c6⟩,-,-,-,-⟩:=V1.o;go_wp2_with fail;refine(C2.o _ B1.o).mono ?_;rintro e w2 ⟨rfl,b2⟩;have B2:=bh B1 b2;have V2:=O (V1.o.keep b2);clear b2 B1 V1 C2 c0 c1 c2 c3 c4 c5 c6;by_cases q2:f2=0
 case neg =>
  have hU:U=f2:=by rw [HU.o,q1,zS,jt q2]
  clear HU HN HR C3;have hJ:=O (zn q2);rw [hJ.o];obtain⟨-,cv,ce,zv,ze⟩:=V2.o;have ql:=block_lt_of_cell cv;have hl2:=block_lt_of_cell ce;obtain⟨p1,p2⟩:=iM V2.o (.slice none 0 0) (.iface 41 (.int .i64 f2));have BB:=O ((B2.o.setCell (p:=⟨w.heap.size+1,0,none⟩) (Nat.le_succ _) (.slice none 0 0)).setCell (p:=⟨w.heap.size+1+1,0,none⟩) (Nat.le_succ_of_le (Nat.le_succ _)) (.iface 41 (.int .i64 f2)));have HT:=O (eH (k:=f2) BB.o);rw [hJ.o] at HT;go_wp2_with fail;simp [bodyPostD,Leaves,results,Tryz.results13,go_sem,cv,ce];rw [hU];exact HT.o
 rw [q2,zk];go_wp2_with fail;refine(C3.o _ B2.o).mono ?_;rintro e w3 ⟨rfl,b3⟩;have B3:=bh B2 b3;have V3:=O (V2.o.keep b3);clear b3 B2 V2 C3;have hU:U=f3:=by rw [HU.o,q1,zS,q2,zS]
 have q3:f3≠0:=λq=>HN.o (hU.trans q);clear HU HN HR;have hJ:=O (zn q3);rw [hJ.o];obtain⟨-,cv,ce,zv,ze⟩:=V3.o;have ql:=block_lt_of_cell cv;have hl2:=block_lt_of_cell ce;obtain⟨p1,p2⟩:=iM V3.o (.slice none 0 0) (.iface 41 (.int .i64 f3));have BB:=O ((B3.o.setCell (p:=⟨w.heap.size+1,0,none⟩) (Nat.le_succ _) (.slice none 0 0)).setCell (p:=⟨w.heap.size+1+1,0,none⟩) (Nat.le_succ_of_le (Nat.le_succ _)) (.iface 41 (.int .i64 f3)));have HT:=O (eH (k:=f3) BB.o);rw [hJ.o] at HT;go_wp2_with fail;simp [bodyPostD,Leaves,results,Tryz.results13,go_sem,cv,ce];rw [hU];exact HT.o
theorem Cn(EA:Option Addr)(en ec:Nat)(E:List En)(q:Rq)(A:Option Addr)(n c:Nat)(P:List Nd)(w:World)(hE:Es w EA en ec E)(hq:oV w q)(hP:Ns w A n c P)(hd:aD w)(hu:upF ⟨E,q.who,q.act,q.what,q.P⟩ P=0):
 Calls Tryz.prog 13 #[.slice EA en ec,q.v,.slice A n c] w (cu w (ct ⟨E,q.who,q.act,q.what,q.P⟩ P)):=by
 obtain⟨ee,bX,x,hx,MB⟩:=tu hu;have h1:jw E=0:=ee.e;have h2:qn q.who q.act q.what q.P=0:=by
  unfold upF at hu;exact(al.1 (al.1 hu).2).1
 have h3:jc P=0:=jO.2 ⟨bX,x,hx,MB⟩;have C1:=O (λw' (hb:Below w.heap.size w w')=>kM EA en ec E w' (hE.keep hb));rw [h1,zk] at C1;have C2:=O (λw' (hb:Below w.heap.size w w')=>tl q w' (hq.keep hb));rw [h2,zk] at C2;have C3:=O (λw' (hb:Below w.heap.size w w')=>de A n c P w' (hP.keep hb));rw [h3,zk] at C3;have HCX:=O (λw' (hb:Below w.heap.size w w')=>(⟨hE.keep hb,hq.keep hb,hP.keep hb,hd.keep hb,ee⟩:Cg w' ⟨EA,en,ec,E,q,A,n,c,P⟩));have HV:=O (show ct ⟨E,q.who,q.act,q.what,q.P⟩ P=evX ⟨E,q.who,q.act,q.what,q.P⟩ x from i9 hu hx MB);have C4:=O (λV (h:evX ⟨E,q.who,q.act,q.what,q.P⟩ x = .ok V)=>dD ee x false hx V h);have HXA:=O (show XAt P 0 false x by rw [MB];exact XAt.all hx);have HLX:=O (show x.flat.length<=P.length from Nat.le_of_eq (by rw [MB]));have NX:=O (λ(W:World) (R:Nat)=>pP (W:=W) (R:=R) (k:=⟨EA,en,ec,E,q,A,n,c,P⟩) bX P.length);have B0:=O (m8 w q);have V0:=O (tX w q);have II:∀(fn:Fn) (first cap:Array Value) (w:World),(Instr.makeFunc fn first cap).run Tryz.prog w = .ok (.func fn first cap) w:=λ_ _ _ _=>rfl;unfold GI at B0 V0;unfold Rq.v at C2 ⊢;rw [HV.o];obtain⟨rr,gY⟩:∃rr:Res,rr=evX ⟨E,q.who,q.act,q.what,q.P⟩ x:=⟨_,rfl⟩
 rw [<-gY];have hZ:=O gY;clear hE hq hP hd hu ee bX hx MB h1 h2 h3 gY;go_enter_defers Tryz.func13,Tryz.ntmps13;go_wp2_with fail;refine(C1.o _ B0.o).mono ?_;rintro e w1 ⟨rfl,b1⟩;have B1:=bh B0 b1;have V1:=O (V0.o.keep b1);clear b1 B0 V0 C1;obtain⟨⟨c0,c1,c2,c3,c4,c5,c6⟩,-,-,-,-⟩:=V1.o;go_wp2_with fail;refine(C2.o _ B1.o).mono ?_;rintro e w2 ⟨rfl,b2⟩;have B2:=bh B1 b2;have V2:=O (V1.o.keep b2);clear b2 B1 V1 C2 c0 c1 c2 c3 c4 c5 c6;go_wp2_with fail;refine(C3.o _ B2.o).mono ?_;rintro e w3 ⟨rfl,b3⟩;have B3:=bh B2 b3;have V3:=O (V2.o.keep b3);clear b3 B2 V2 C3;obtain⟨⟨c0,c1,c2,c3,c4,c5,c6⟩,-,-,-,-⟩:=V3.o;go_wp2_with fail;have hz:=World.size_alloc w3 (.cells #[.slice EA en ec,.string q.who.1,.string q.who.2,.string q.act.1,.string q.act.2,.string q.what.1,.string q.what.2,.slice q.NA q.nn q.nc,.slice A n c,.int .i64 0] 69);have E0:ja w3 (w3.alloc (.cells #[.slice EA en ec,.string q.who.1,.string q.who.2,.string q.act.1,.string q.act.2,.string q.what.1,.string q.what.2,.slice q.NA q.nn q.nc,.slice A n c,.int .i64 0] 69)) w3.heap.size ⟨EA,en,ec,E,q,A,n,c,P⟩ ((0:Nat):Int):=
  ⟨zb w3 _,Nat.le_refl _,HCX.o w3 B3.o,⟨_,heap_alloc_last w3 _⟩⟩
 have K:=O (NX.o w3 w3.heap.size x 0 _ E0 HXA.o HLX.o);clear E0 c0 c1 c2 c3 c4 c5 c6;rw [show evX (Cx.env ⟨EA,en,ec,E,q,A,n,c,P⟩) x=rr from hZ.o.symm] at K;rcases rr with u|V
 ·unfold zZ at K;refine K.o.mono ?_;rintro e w4 ⟨g4,rfl⟩;have b4:Below w3.heap.size w3 w4:=(zb w3 _).trans ((jj g4 (Nat.le_refl _) (by rw [hz];omega)));have V4:=O (V3.o.keep b4);have B4:=bh B3 b4;have Gp:u≠0:=λz=>gC x HXA.o.valid (hZ.o.symm.trans (by rw [z]));clear g4 b4 K V3 B3 hz hZ;obtain⟨-,cv,ce,zv,ze⟩:=V4.o;have ql:=block_lt_of_cell cv;have hl2:=block_lt_of_cell ce;go_wp2_with fail;refine leaves_cons (f:=28) (args:=#[.pointer (some ⟨w.heap.size+1,0,none⟩),.pointer (some ⟨w.heap.size+1+1,0,none⟩)]) (by simp) (by simp [go_sem]) ?_;refine(sA (w.heap.size+1) (w.heap.size+1+1) u _ _ [] w4 cv zv ce ze (by omega)).mono ?_;rintro e u' w5 ⟨rfl,rfl,rfl⟩;obtain⟨p1,p2⟩:=iM V4.o (.slice none 0 0) (.iface 41 (.int .i64 u));have BB:=(B4.o.setCell (p:=⟨w.heap.size+1,0,none⟩) (Nat.le_succ _) (.slice none 0 0)).setCell (p:=⟨w.heap.size+1+1,0,none⟩) (Nat.le_succ_of_le (Nat.le_succ _)) (.iface 41 (.int .i64 u));have HT:=eH (k:=u) BB;rw [zn Gp] at HT;simp [Leaves,settle,results,Tryz.results13,go_sem,p1,p2];exact HT
 ·unfold zZ at K;have vV:=C4.o V hZ.o.symm;have pV:=cR vV;have lV:=(zH.1 vV).1;refine K.o.mono ?_;rintro e w4 ⟨g4,⟨A4,n4,c4,rfl,N4,-⟩,-⟩;have b4:Below w3.heap.size w3 w4:=(zb w3 _).trans ((jj g4 (Nat.le_refl _) (by rw [hz];omega)));have V4:=O (V3.o.keep b4);have B4:=bh B3 b4;obtain⟨a4,rfl,-⟩:=jZ N4 pV;have K2:=O (uv a4 n4 c4 V w4 N4 (by omega));unfold Dv at K2;clear g4 b4 K V3 B3 hz hZ N4 vV pV;go_wp2_with fail;refine K2.o.mono ?_;rintro e w5 ⟨A5,c5,rfl,N5,F5,b5⟩;obtain⟨vl,hvl⟩:∃vl,vl=V.length:=⟨_,rfl⟩
  rw [<-hvl] at N5 lV ⊢;have V5:=O (V4.o.keep b5);have B5:=bh B4 b5;have HN5:=O N5;obtain⟨-,cv0,ce0,-,-⟩:=V4.o;have hl3:=block_lt_of_cell cv0;have hl4:=block_lt_of_cell ce0;have Np:=O (show∀a,A5=some a->w.heap.size+1+1<a.block from λa e=>Nat.lt_of_lt_of_le hl4 (F5 a e));obtain⟨-,cv,ce,zv,ze⟩:=V5.o;have ql:=block_lt_of_cell cv;have hl2:=block_lt_of_cell ce;obtain⟨p1,p2⟩:=iM V5.o (.slice A5 vl c5) .nilIface;have N6:=O ((HN5.o.but (zB w5 ⟨w.heap.size+1,0,none⟩ (.slice A5 vl c5)) (λ_ a e=>by have:=Np.o a e;show a.block≠w.heap.size+1;omega)).but (zB _ ⟨w.heap.size+1+1,0,none⟩ .nilIface) (λ_ a e=>by have:=Np.o a e;show a.block≠w.heap.size+1+1;omega));have BB:=O ((B5.o.setCell (p:=⟨w.heap.size+1,0,none⟩) (Nat.le_succ _) (.slice A5 vl c5)).setCell (p:=⟨w.heap.size+1+1,0,none⟩) (Nat.le_succ_of_le (Nat.le_succ _)) .nilIface);clear b5 N5 F5 V4 B4 K2 cv0 ce0 hl3 hl4 hvl;go_wp2_with fail;refine leaves_cons (f:=28) (args:=#[.pointer (some ⟨w.heap.size+1,0,none⟩),.pointer (some ⟨w.heap.size+1+1,0,none⟩)]) (by simp) (by simp [go_sem]) ?_;refine(xQ ⟨w.heap.size+1,0,none⟩ ⟨w.heap.size+1+1,0,none⟩ _).mono ?_;rintro e u' w6 ⟨rfl,rfl,rfl⟩;simp [Leaves,settle,results,Tryz.results13,go_sem,p1,p2];exact⟨A5,vl,c5,rfl,N6.o,BB.o⟩
theorem wO(EA:Option Addr)(en ec:Nat)(E:List En)(q:Rq)(A:Option Addr)(n c:Nat)(P:List Nd)(w:World)(hE:Es w EA en ec E)(hq:oV w q)(hP:Ns w A n c P)(hd:aD w):
 Calls Tryz.prog 13 #[.slice EA en ec,q.v,.slice A n c] w (cu w (ct ⟨E,q.who,q.act,q.what,q.P⟩ P)):=by
 by_cases hu:upF ⟨E,q.who,q.act,q.what,q.P⟩ P=0
 ·exact Cn EA en ec E q A n c P w hE hq hP hd hu
 ·exact Cb EA en ec E q A n c P w hE hq hP hu
structure Va(w:World)(s:Nat)(x:Nd):Prop where
 c0:w.cell? ⟨s,0,none⟩=some (.int .i64 x.op)
 c1:w.cell? ⟨s,1,none⟩=some (.int .i64 x.n)
 c2:w.cell? ⟨s,2,none⟩=some (.string x.s)
 c3:w.cell? ⟨s,3,none⟩=some (.string x.t)
 cv:w.cell? ⟨s+1,0,none⟩=some (.slice none 0 0)
 ce:w.cell? ⟨s+1+1,0,none⟩=some .nilIface
 zv:w.frozen? ⟨s+1,0,none⟩=false
 ze:w.frozen? ⟨s+1+1,0,none⟩=false
theorem Va.keep{w w':World}{s:Nat}{x:Nd}(h:Va w s x)(hb:Below w.heap.size w w'):Va w' s x :=
 ⟨za hb h.c0,za hb h.c1,za hb h.c2,za hb h.c3,za hb h.cv,za hb h.ce,(hb.frozen (p:=⟨s+1,0,none⟩) (block_lt_of_cell h.cv)).trans h.zv,(hb.frozen (p:=⟨s+1+1,0,none⟩) (block_lt_of_cell h.ce)).trans h.ze⟩
theorem kN{w:World}{s:Nat}{q:Nd}(h:Va w s q)(x y:Value):((w.setCell ⟨s+1,0,none⟩ x).setCell ⟨s+1+1,0,none⟩ y).cell? ⟨s+1,0,none⟩=some x/\((w.setCell ⟨s+1,0,none⟩ x).setCell ⟨s+1+1,0,none⟩ y).cell? ⟨s+1+1,0,none⟩=some y :=
 ⟨(World.cell?_setCell_other _ _ _ _ (by intro e;injection e with e;omega)).trans (World.cell?_setCell_same w _ _ h.cv),World.cell?_setCell_same _ _ _ ((World.cell?_setCell_other w _ _ _ (by intro e;injection e with e;omega)).trans h.ce)⟩
def iI(w:World)(x:Nd):World:=((w.alloc (.cells #[.int .i64 x.op,.int .i64 x.n,.string x.s,.string x.t] 28)).alloc (.cells #[.slice none 0 0] 22)).alloc (.cells #[.nilIface] 24)
def evZ:Obj := .cells #[.slice none 0 0,.string ⟨#[]⟩,.string ⟨#[]⟩,.string ⟨#[]⟩,.string ⟨#[]⟩,.string ⟨#[]⟩,.string ⟨#[]⟩,.slice none 0 0,.slice none 0 0,.int .i64 0] 69
theorem cf(w:World)(x:Nd):Below w.heap.size w (iI w x):=
 (zb w _).trans (((zb _ _).mono (by simp)).trans ((zb _ _).mono (by simp;omega)))
theorem Bl(w:World)(x:Nd):(iI w x).heap.size=w.heap.size+1+1+1:=by unfold iI;simp
theorem mf(w:World)(x:Nd):Va (iI w x) w.heap.size x:=by
 have b1:=zb (w.alloc (.cells #[.int .i64 x.op,.int .i64 x.n,.string x.s,.string x.t] 28)) (.cells #[.slice none 0 0] 22);have b2:=zb ((w.alloc (.cells #[.int .i64 x.op,.int .i64 x.n,.string x.s,.string x.t] 28)).alloc (.cells #[.slice none 0 0] 22)) (.cells #[.nilIface] 24);have b:=b1.trans (b2.mono b1.size);have n:=fW w x 28;refine⟨za b n.c0,za b n.c1,za b n.c2,za b n.c3,?_,?_,?_,?_⟩
 ·have:=za (zb _ (.cells #[.nilIface] 24)) (zV (heap_alloc_last (w.alloc (.cells #[.int .i64 x.op,.int .i64 x.n,.string x.s,.string x.t] 28)) (.cells #[.slice none 0 0] 22)) (k:=0) (u := .slice none 0 0) rfl);rw [World.size_alloc] at this;exact this
 ·have:=zV (heap_alloc_last ((w.alloc (.cells #[.int .i64 x.op,.int .i64 x.n,.string x.s,.string x.t] 28)).alloc (.cells #[.slice none 0 0] 22)) (.cells #[.nilIface] 24)) (k:=0) (u := .nilIface) rfl;rw [World.size_alloc,World.size_alloc] at this;exact this
 ·have ha:(w.alloc (.cells #[.int .i64 x.op,.int .i64 x.n,.string x.s,.string x.t] 28)).heap.size=w.heap.size+1:=by simp
  exact((zb _ _).frozen (p:=⟨w.heap.size+1,0,none⟩) (by simp)).trans (World.frozen?_alloc_at _ _ _ _ ha.symm)
 ·have ha:((w.alloc (.cells #[.int .i64 x.op,.int .i64 x.n,.string x.s,.string x.t] 28)).alloc (.cells #[.slice none 0 0] 22)).heap.size=w.heap.size+1+1:=by simp
  exact World.frozen?_alloc_at _ _ _ _ ha.symm
theorem oe(x:Nd)(hx:x.op=5\/x.op=6)(nv vv:Value)(r:Res)(hr:r≠ .error 0)(w:World)
 (KC:∀w',Below w.heap.size w w'->Calls Tryz.prog 98 #[.int .i64 x.op,nv,vv] w' (zU w' r)):
 Calls Tryz.prog 68 #[.slice none 0 0,ndV x,nv,vv] w (cu w r):=by
 have K:=O KC;have V0:=O ((mf w x).keep (zb _ evZ));have B0:=O ((cf w x).trans ((zb _ evZ).mono (cf w x).size));have HR:=O hr;have II:∀(fn:Fn) (first cap:Array Value) (w:World),(Instr.makeFunc fn first cap).run Tryz.prog w = .ok (.func fn first cap) w:=λ_ _ _ _=>rfl;unfold iI evZ at V0 B0;clear KC hr;obtain⟨xo,xn,xs,xt⟩:=x;unfold ndV;dsimp only at hx K V0 B0 ⊢;rcases hx with rfl|rfl
 all_goals
  go_enter_defers Tryz.func68,Tryz.ntmps68;go_wp2_with fail;refine(K.o _ B0.o).mono ?_;rintro e w4 hT;rcases r with u|V
  ·obtain⟨b4,rfl⟩:=hT;have V4:=O (V0.o.keep b4);have B4:=O (B0.o.trans (b4.mono B0.o.size));have Gp:u≠0:=λz=>HR.o (by rw [z]);clear b4 K V0 B0;obtain⟨-,-,-,-,cv,ce,zv,ze⟩:=V4.o;have ql:=block_lt_of_cell cv;have hl2:=block_lt_of_cell ce;go_wp2_with fail;refine leaves_cons (f:=116) (args:=#[.pointer (some ⟨w.heap.size+1,0,none⟩),.pointer (some ⟨w.heap.size+1+1,0,none⟩)]) (by simp) (by simp [go_sem]) ?_;refine(ej (w.heap.size+1) (w.heap.size+1+1) u _ _ [] w4 cv zv ce ze (by omega)).mono ?_;rintro e u' w5 ⟨rfl,rfl,rfl⟩;obtain⟨p1,p2⟩:=kN V4.o (.slice none 0 0) (.iface 41 (.int .i64 u));have BB:=(B4.o.setCell (p:=⟨w.heap.size+1,0,none⟩) (Nat.le_succ _) (.slice none 0 0)).setCell (p:=⟨w.heap.size+1+1,0,none⟩) (Nat.le_succ_of_le (Nat.le_succ _)) (.iface 41 (.int .i64 u));have HT:=eH (k:=u) BB;rw [zn Gp] at HT;simp [Leaves,settle,results,Tryz.results68,go_sem,p1,p2];exact HT
  ·obtain⟨b4,A4,n4,c4,rfl,N4,F4⟩:=hT;have V4:=O (V0.o.keep b4);have B4:=O (B0.o.trans (b4.mono B0.o.size));have Ku:=O N4;have Gu:=O (show∀a,A4=some a->w.heap.size+1+1<a.block from λa e=>by have h1:=F4 a e;simp at h1;omega);clear b4 K V0 B0 N4 F4;obtain⟨-,-,-,-,cv,ce,zv,ze⟩:=V4.o;have ql:=block_lt_of_cell cv;have hl2:=block_lt_of_cell ce;obtain⟨p1,p2⟩:=kN V4.o (.slice A4 n4 c4) .nilIface;have N6:=O ((Ku.o.but (zB w4 ⟨w.heap.size+1,0,none⟩ (.slice A4 n4 c4)) (λ_ a e=>by have:=Gu.o a e;show a.block≠w.heap.size+1;omega)).but (zB _ ⟨w.heap.size+1+1,0,none⟩ .nilIface) (λ_ a e=>by have:=Gu.o a e;show a.block≠w.heap.size+1+1;omega));have BB:=O ((B4.o.setCell (p:=⟨w.heap.size+1,0,none⟩) (Nat.le_succ _) (.slice A4 n4 c4)).setCell (p:=⟨w.heap.size+1+1,0,none⟩) (Nat.le_succ_of_le (Nat.le_succ _)) .nilIface);go_wp2_with fail;refine leaves_cons (f:=116) (args:=#[.pointer (some ⟨w.heap.size+1,0,none⟩),.pointer (some ⟨w.heap.size+1+1,0,none⟩)]) (by simp) (by simp [go_sem]) ?_;refine(gJ ⟨w.heap.size+1,0,none⟩ ⟨w.heap.size+1+1,0,none⟩ _).mono ?_;rintro e u' w6 ⟨rfl,rfl,rfl⟩;simp [Leaves,settle,results,Tryz.results68,go_sem,p1,p2];exact⟨A4,n4,c4,rfl,N6.o,BB.o⟩
theorem fx{P:Program}{fn:Func}{t t':Array Value}{R:Ending->World->Prop}(h:results fn t=results fn t'):∀(ds:List Deferred) (u:FrameMode) (w:World),Leaves P fn t R ds u w->Leaves P fn t' R ds u w
 | [],.returning,w,k=>by
  unfold Leaves at k ⊢;rw [<-h];exact k
 | [],.panicking _,w,k=>k
 | [],.run,w,k=>k
 | d :: ds,u,w,k=>by
  unfold Leaves at k ⊢;obtain⟨h1,fv,cap,f,args,h2,h3,h4⟩:=k;refine⟨h1,fv,cap,f,args,h2,h3,h4.mono λe u' w' hk=>?_⟩
  cases e with
  | returned v=>exact fx h ds _ _ hk
  | panicked c=>exact fx h ds _ _ hk
  | outgrown=>exact hk
theorem AU(t:Nat)(v:Value)(ht:9<t)(a:Act):results Tryz.f68 (a.put (some t) v).tmps=results Tryz.f68 a.tmps:=by
 have h8:(a.put (some t) v).tmps[8]?=a.tmps[8]?:=by
  simp only [Act.put];rw [Array.getElem?_setIfInBounds_ne (by omega)]
 have h9:(a.put (some t) v).tmps[9]?=a.tmps[9]?:=by
  simp only [Act.put];rw [Array.getElem?_setIfInBounds_ne (by omega)]
 simp [results,Tryz.results68,h8,h9]
theorem aj{R:Ending->World->Prop}(t:Nat)(v:Value)(ht:9<t)(c:List PanicEntry)(a:Act)(w:World)(h:bodyPostD Tryz.prog Tryz.f68 R (.panic c) (a.put (some t) v) w):bodyPostD Tryz.prog Tryz.f68 R (.panic c) a w:=by
 unfold bodyPostD at h ⊢;exact fx (AU t v ht a) _ _ _ h
theorem be(w:World):Below w.heap.size w w.drew:=⟨rfl,rfl,rfl,Nat.le_refl _,λ_ _=>rfl⟩
theorem Cp(x:Nd)(hx:x.op≠5)(Jh:x.op≠6)(nv:Value)(a:Addr)(c:Nat)(A:Option Addr)(n c':Nat)(r:Res)(hr:r≠ .error 0)(w:World)(ha:w.cell? a=some (.slice A n c'))(hal:a.block<w.heap.size)
 (KC:∀w',Below w.heap.size w w'->Below ((iI w x).alloc evZ).heap.size ((iI w x).alloc evZ) w'->Calls Tryz.prog 60 #[.pointer (some ⟨w.heap.size+1+1+1,0,none⟩),ndV x,.slice A n c'] w' (zU w' r)):
 Calls Tryz.prog 68 #[.slice none 0 0,ndV x,nv,.slice (some a) 1 c] w (cu w r):=by
 have K:=O KC;have V0:=O ((mf w x).keep (zb _ evZ));have B0:=O ((cf w x).trans ((zb _ evZ).mono (cf w x).size));have HR:=O hr;have C9:=O hal;have II:∀(fn:Fn) (first cap:Array Value) (w:World),(Instr.makeFunc fn first cap).run Tryz.prog w = .ok (.func fn first cap) w:=λ_ _ _ _=>rfl;have Ai:=O (za B0.o ha);unfold iI evZ at V0 B0 Ai K;clear KC hr ha;obtain⟨xo,xn,xs,xt⟩:=x;unfold ndV at K ⊢;dsimp only at hx Jh K V0 B0 Ai ⊢;have e5:(xo==5)=false:=by simp [hx]
 have e6:(xo==6)=false:=by simp [Jh]
 go_enter_defers Tryz.func68,Tryz.ntmps68;go_wp2_with fail;obtain⟨c0,c1,c2,c3,-,-,-,-⟩:=V0.o.keep (show Below _ _ _ from⟨rfl,rfl,rfl,Nat.le_refl _,λ_ _=>rfl⟩);refine aE (λ(w':World)=>w'.cell? ⟨w.heap.size,0,none⟩=some (.int .i64 xo)/\w'.cell? ⟨w.heap.size,1,none⟩=some (.int .i64 xn)/\w'.cell? ⟨w.heap.size,2,none⟩=some (.string xs)/\w'.cell? ⟨w.heap.size,3,none⟩=some (.string xt)/\w'.cell? a=some (Value.slice A n c')) 7 (by kernel_rfl) ⟨c0,c1,c2,c3,Ai.o⟩ (λhHeld=>?_);refine ji (i:=0) (oi:=⟨some 33,_,_,_,_,_⟩) (v := .pointer (some ⟨w.heap.size+1+1+1,0,none⟩)) rfl (by kernel_rfl) (by kernel_rfl) (by kernel_rfl) (by kernel_rfl) (λc a w h=>aj 33 _ (by decide) c a w h) (.inl ⟨by rfl,λw' hSw=>?_⟩) hHeld ?_
 ·obtain⟨a0,a1,a2,a3,a4⟩:=hSw;go_simp
 simp only [Act.put,zA];refine ji (i:=1) (oi:=⟨some 34,_,_,_,_,_⟩) (v := .agg #[.int .i64 xo,.int .i64 xn,.string xs,.string xt]) rfl (by kernel_rfl) (by kernel_rfl) (by kernel_rfl) (by kernel_rfl) (λc a w h=>aj 34 _ (by decide) c a w h) (.inl ⟨by rfl,λw' hSw=>?_⟩) hHeld ?_
 ·obtain⟨a0,a1,a2,a3,a4⟩:=hSw;go_simp
 simp only [Act.put,zA];refine ji (i:=2) (oi:=⟨some 35,_,_,_,_,_⟩) (v := .slice (some a) 1 c) rfl (by kernel_rfl) (by kernel_rfl) (by kernel_rfl) (by kernel_rfl) (λc a w h=>aj 35 _ (by decide) c a w h) (.inl ⟨by rfl,λw' hSw=>?_⟩) hHeld ?_
 ·obtain⟨a0,a1,a2,a3,a4⟩:=hSw;go_simp
 simp only [Act.put,zA];refine ji (i:=3) (oi:=⟨some 36,_,_,_,_,_⟩) (v := .pointer (some a)) rfl (by kernel_rfl) (by kernel_rfl) (by kernel_rfl) (by kernel_rfl) (λc a w h=>aj 36 _ (by decide) c a w h) (.inl ⟨by rfl,λw' hSw=>?_⟩) hHeld ?_
 ·obtain⟨a0,a1,a2,a3,a4⟩:=hSw;go_simp
 simp only [Act.put,zA];refine ji (i:=4) (oi:=⟨some 37,_,_,_,_,_⟩) (v := .slice A n c') rfl (by kernel_rfl) (by kernel_rfl) (by kernel_rfl) (by kernel_rfl) (λc a w h=>aj 37 _ (by decide) c a w h) (.inl ⟨by rfl,λw' hSw=>?_⟩) hHeld ?_
 ·obtain⟨a0,a1,a2,a3,a4⟩:=hSw;go_simp
 simp only [Act.put,zA];refine zR (i:=5) (o:=⟨some 38,_,_,_,_,_⟩) (by kernel_rfl) rfl (λK' hK'=>?_);go_simp;go_at_call 60;have BD:=B0.o.trans ((be _).mono B0.o.size);have VD:=V0.o.keep (be _);have K1:=O (K.o _ BD (be _));clear B0 V0 K;have B0:=O BD;have V0:=O VD;have Iz:=O (za (be _) Ai.o);clear BD VD c0 c1 c2 c3 Ai;refine K1.o.mono ?_;rintro e w4 hT;have K:=O (show True from trivial);rcases r with u|V
 ·obtain⟨b4,rfl⟩:=hT;have V4:=O (V0.o.keep b4);have B4:=O (B0.o.trans (b4.mono B0.o.size));have Gp:u≠0:=λz=>HR.o (by rw [z]);clear b4 K V0 B0;obtain⟨-,-,-,-,cv,ce,zv,ze⟩:=V4.o;have ql:=block_lt_of_cell cv;have hl2:=block_lt_of_cell ce;go_wp2_with fail;refine leaves_cons (f:=116) (args:=#[.pointer (some ⟨w.heap.size+1,0,none⟩),.pointer (some ⟨w.heap.size+1+1,0,none⟩)]) (by simp) (by simp [go_sem]) ?_;refine(ej (w.heap.size+1) (w.heap.size+1+1) u _ _ [] w4 cv zv ce ze (by omega)).mono ?_;rintro e u' w5 ⟨rfl,rfl,rfl⟩;obtain⟨p1,p2⟩:=kN V4.o (.slice none 0 0) (.iface 41 (.int .i64 u));have BB:=(B4.o.setCell (p:=⟨w.heap.size+1,0,none⟩) (Nat.le_succ _) (.slice none 0 0)).setCell (p:=⟨w.heap.size+1+1,0,none⟩) (Nat.le_succ_of_le (Nat.le_succ _)) (.iface 41 (.int .i64 u));have HT:=eH (k:=u) BB;rw [zn Gp] at HT;simp [Leaves,settle,results,Tryz.results68,go_sem,p1,p2];exact HT
 ·obtain⟨b4,A4,n4,c4,rfl,N4,F4⟩:=hT;have V4:=O (V0.o.keep b4);have B4:=O (B0.o.trans (b4.mono B0.o.size));have Ku:=O N4;have C':=O (za b4 Iz.o);have Gu:=O (show∀a,A4=some a->w.heap.size+1+1<a.block from λa e=>by have h1:=F4 a e;simp at h1;omega);clear b4 K V0 B0 N4 F4;obtain⟨-,-,-,-,cv,ce,zv,ze⟩:=V4.o;have ql:=block_lt_of_cell cv;have hl2:=block_lt_of_cell ce;obtain⟨p1,p2⟩:=kN V4.o (.slice A4 n4 c4) .nilIface;have N6:=O ((Ku.o.but (zB w4 ⟨w.heap.size+1,0,none⟩ (.slice A4 n4 c4)) (λ_ a e=>by have:=Gu.o a e;show a.block≠w.heap.size+1;omega)).but (zB _ ⟨w.heap.size+1+1,0,none⟩ .nilIface) (λ_ a e=>by have:=Gu.o a e;show a.block≠w.heap.size+1+1;omega));have BB:=O ((B4.o.setCell (p:=⟨w.heap.size+1,0,none⟩) (Nat.le_succ _) (.slice A4 n4 c4)).setCell (p:=⟨w.heap.size+1+1,0,none⟩) (Nat.le_succ_of_le (Nat.le_succ _)) .nilIface);go_wp2_with fail;have g1:=zB w4 ⟨w.heap.size+1,0,none⟩ (.slice A4 n4 c4);have Gz:some a.block≠some (w.heap.size+1):=λe=>by injection e with e;have:=C9.o;omega
  have hn0:some w.heap.size≠some (w.heap.size+1):=λe=>by injection e with e;omega
  refine hK'.out _ _ (λ_=>⟨V4.o.c0,V4.o.c1,V4.o.c2,V4.o.c3,C'.o⟩) ?_;clear hK' K'
  try simp only [Act.put,zA]
  refine zR (i:=6) (o:=⟨none,_,_,_,_,_⟩) (by kernel_rfl) rfl (λK' hK'=>?_);go_simp;refine hK'.out _ _ (λ_=>⟨g1.cell V4.o.c0 hn0,g1.cell V4.o.c1 hn0,g1.cell V4.o.c2 hn0,g1.cell V4.o.c3 hn0,g1.cell C'.o Gz⟩) ?_;clear hK' K'
  try simp only [Act.put,zA]
  refine zR (i:=7) (o:=⟨none,_,_,_,_,_⟩) (by kernel_rfl) rfl (λK' hK'=>?_);go_simp;refine hK'.out _ _ (λh=>absurd rfl h) ?_;clear hK' K' g1 Gz hn0;refine aF (by kernel_rfl) ?_
  try simp only [Act.put,zA]
  go_wp2_with fail;refine leaves_cons (f:=116) (args:=#[.pointer (some ⟨w.heap.size+1,0,none⟩),.pointer (some ⟨w.heap.size+1+1,0,none⟩)]) (by simp) (by simp [go_sem]) ?_;refine(gJ ⟨w.heap.size+1,0,none⟩ ⟨w.heap.size+1+1,0,none⟩ _).mono ?_;rintro e u' w6 ⟨rfl,rfl,rfl⟩;simp [Leaves,settle,results,Tryz.results68,go_sem,p1,p2];exact⟨A4,n4,c4,rfl,N6.o,BB.o⟩
theorem Ao(x:Nd)(hx:x.op≠5)(Jh:x.op≠6)(nv:Value)(a:Addr)(c:Nat)(A:Option Addr)(n c':Nat)(A':Option Addr)(n' d':Nat)(r:Res)(hr:r≠ .error 0)(w:World)(ha:w.cell? a=some (.slice A n c'))(hb:w.cell? (a.add 1)=some (.slice A' n' d'))(hal:a.block<w.heap.size)
 (KC:∀w',Below w.heap.size w w'->Below ((iI w x).alloc evZ).heap.size ((iI w x).alloc evZ) w'->Calls Tryz.prog 61 #[.pointer (some ⟨w.heap.size+1+1+1,0,none⟩),.int .i64 x.op,.slice A n c',.slice A' n' d'] w' (zU w' r)):
 Calls Tryz.prog 68 #[.slice none 0 0,ndV x,nv,.slice (some a) 2 c] w (cu w r):=by
 have K:=O KC;have V0:=O ((mf w x).keep (zb _ evZ));have B0:=O ((cf w x).trans ((zb _ evZ).mono (cf w x).size));have HR:=O hr;have C9:=O hal;have II:∀(fn:Fn) (first cap:Array Value) (w:World),(Instr.makeFunc fn first cap).run Tryz.prog w = .ok (.func fn first cap) w:=λ_ _ _ _=>rfl;have Ai:=O (za B0.o ha);have hb':w.cell? ⟨a.block,a.off+1,none⟩=some (.slice A' n' d'):=hb;have Jk:=O (za B0.o hb');unfold iI evZ at V0 B0 Ai Jk K;clear KC hr ha hb hb';obtain⟨xo,xn,xs,xt⟩:=x;unfold ndV;dsimp only at hx Jh K V0 B0 Ai Jk ⊢;have e5:(xo==5)=false:=by simp [hx]
 have e6:(xo==6)=false:=by simp [Jh]
 go_enter_defers Tryz.func68,Tryz.ntmps68;go_wp2_with fail;obtain⟨c0,c1,c2,c3,-,-,-,-⟩:=V0.o.keep (show Below _ _ _ from⟨rfl,rfl,rfl,Nat.le_refl _,λ_ _=>rfl⟩);refine aE (λ(w':World)=>w'.cell? ⟨w.heap.size,0,none⟩=some (.int .i64 xo)/\w'.cell? a=some (Value.slice A n c')/\w'.cell? ⟨a.block,a.off+1,none⟩=some (Value.slice A' n' d')) 11 (by kernel_rfl) ⟨c0,Ai.o,Jk.o⟩ (λhHeld=>?_);refine ji (i:=0) (oi:=⟨some 39,_,_,_,_,_⟩) (v := .pointer (some ⟨w.heap.size+1+1+1,0,none⟩)) rfl (by kernel_rfl) (by kernel_rfl) (by kernel_rfl) (by kernel_rfl) (λc a w h=>aj 39 _ (by decide) c a w h) (.inl ⟨by rfl,λw' hSw=>?_⟩) hHeld ?_
 ·obtain⟨a0,a1,a2⟩:=hSw;go_simp
 simp only [Act.put,zA];refine ji (i:=1) (oi:=⟨some 40,_,_,_,_,_⟩) (v := .pointer (some ⟨w.heap.size,0,none⟩)) rfl (by kernel_rfl) (by kernel_rfl) (by kernel_rfl) (by kernel_rfl) (λc a w h=>aj 40 _ (by decide) c a w h) (.inl ⟨by rfl,λw' hSw=>?_⟩) hHeld ?_
 ·obtain⟨a0,a1,a2⟩:=hSw;go_simp
 simp only [Act.put,zA];refine ji (i:=2) (oi:=⟨some 41,_,_,_,_,_⟩) (v := .int .i64 xo) rfl (by kernel_rfl) (by kernel_rfl) (by kernel_rfl) (by kernel_rfl) (λc a w h=>aj 41 _ (by decide) c a w h) (.inl ⟨by rfl,λw' hSw=>?_⟩) hHeld ?_
 ·obtain⟨a0,a1,a2⟩:=hSw;go_simp
 simp only [Act.put,zA];refine ji (i:=3) (oi:=⟨some 42,_,_,_,_,_⟩) (v := .slice (some a) 2 c) rfl (by kernel_rfl) (by kernel_rfl) (by kernel_rfl) (by kernel_rfl) (λc a w h=>aj 42 _ (by decide) c a w h) (.inl ⟨by rfl,λw' hSw=>?_⟩) hHeld ?_
 ·obtain⟨a0,a1,a2⟩:=hSw;go_simp
 simp only [Act.put,zA];refine ji (i:=4) (oi:=⟨some 43,_,_,_,_,_⟩) (v := .pointer (some a)) rfl (by kernel_rfl) (by kernel_rfl) (by kernel_rfl) (by kernel_rfl) (λc a w h=>aj 43 _ (by decide) c a w h) (.inl ⟨by rfl,λw' hSw=>?_⟩) hHeld ?_
 ·obtain⟨a0,a1,a2⟩:=hSw;go_simp
 simp only [Act.put,zA];refine ji (i:=5) (oi:=⟨some 44,_,_,_,_,_⟩) (v := .slice A n c') rfl (by kernel_rfl) (by kernel_rfl) (by kernel_rfl) (by kernel_rfl) (λc a w h=>aj 44 _ (by decide) c a w h) (.inl ⟨by rfl,λw' hSw=>?_⟩) hHeld ?_
 ·obtain⟨a0,a1,a2⟩:=hSw;go_simp
 simp only [Act.put,zA];refine ji (i:=6) (oi:=⟨some 45,_,_,_,_,_⟩) (v := .slice (some a) 2 c) rfl (by kernel_rfl) (by kernel_rfl) (by kernel_rfl) (by kernel_rfl) (λc a w h=>aj 45 _ (by decide) c a w h) (.inl ⟨by rfl,λw' hSw=>?_⟩) hHeld ?_
 ·obtain⟨a0,a1,a2⟩:=hSw;go_simp
 simp only [Act.put,zA];refine ji (i:=7) (oi:=⟨some 46,_,_,_,_,_⟩) (v := .pointer (some ⟨a.block,a.off+1,none⟩)) rfl (by kernel_rfl) (by kernel_rfl) (by kernel_rfl) (by kernel_rfl) (λc a w h=>aj 46 _ (by decide) c a w h) (.inl ⟨by rfl,λw' hSw=>?_⟩) hHeld ?_
 ·obtain⟨a0,a1,a2⟩:=hSw;go_simp
 simp only [Act.put,zA];refine ji (i:=8) (oi:=⟨some 47,_,_,_,_,_⟩) (v := .slice A' n' d') rfl (by kernel_rfl) (by kernel_rfl) (by kernel_rfl) (by kernel_rfl) (λc a w h=>aj 47 _ (by decide) c a w h) (.inl ⟨by rfl,λw' hSw=>?_⟩) hHeld ?_
 ·obtain⟨a0,a1,a2⟩:=hSw;go_simp
 simp only [Act.put,zA];refine zR (i:=9) (o:=⟨some 48,_,_,_,_,_⟩) (by kernel_rfl) rfl (λK' hK'=>?_);go_simp;go_at_call 61;have BD:=B0.o.trans ((be _).mono B0.o.size);have VD:=V0.o.keep (be _);have K1:=O (K.o _ BD (be _));clear B0 V0 K;have B0:=O BD;have V0:=O VD;have Iz:=O (za (be _) Ai.o);have HB1:=O (za (be _) Jk.o);clear BD VD c0 c1 c2 c3 Ai Jk;refine K1.o.mono ?_;rintro e w4 hT;have K:=O (show True from trivial);rcases r with u|V
 ·obtain⟨b4,rfl⟩:=hT;have V4:=O (V0.o.keep b4);have B4:=O (B0.o.trans (b4.mono B0.o.size));have Gp:u≠0:=λz=>HR.o (by rw [z]);clear b4 K V0 B0;obtain⟨-,-,-,-,cv,ce,zv,ze⟩:=V4.o;have ql:=block_lt_of_cell cv;have hl2:=block_lt_of_cell ce;go_wp2_with fail;refine leaves_cons (f:=116) (args:=#[.pointer (some ⟨w.heap.size+1,0,none⟩),.pointer (some ⟨w.heap.size+1+1,0,none⟩)]) (by simp) (by simp [go_sem]) ?_;refine(ej (w.heap.size+1) (w.heap.size+1+1) u _ _ [] w4 cv zv ce ze (by omega)).mono ?_;rintro e u' w5 ⟨rfl,rfl,rfl⟩;obtain⟨p1,p2⟩:=kN V4.o (.slice none 0 0) (.iface 41 (.int .i64 u));have BB:=(B4.o.setCell (p:=⟨w.heap.size+1,0,none⟩) (Nat.le_succ _) (.slice none 0 0)).setCell (p:=⟨w.heap.size+1+1,0,none⟩) (Nat.le_succ_of_le (Nat.le_succ _)) (.iface 41 (.int .i64 u));have HT:=eH (k:=u) BB;rw [zn Gp] at HT;simp [Leaves,settle,results,Tryz.results68,go_sem,p1,p2];exact HT
 ·obtain⟨b4,A4,n4,c4,rfl,N4,F4⟩:=hT;have V4:=O (V0.o.keep b4);have B4:=O (B0.o.trans (b4.mono B0.o.size));have Ku:=O N4;have C':=O (za b4 Iz.o);have Mj:=O (za b4 HB1.o);have Gu:=O (show∀a,A4=some a->w.heap.size+1+1<a.block from λa e=>by have h1:=F4 a e;simp at h1;omega);clear b4 K V0 B0 N4 F4;obtain⟨-,-,-,-,cv,ce,zv,ze⟩:=V4.o;have ql:=block_lt_of_cell cv;have hl2:=block_lt_of_cell ce;obtain⟨p1,p2⟩:=kN V4.o (.slice A4 n4 c4) .nilIface;have N6:=O ((Ku.o.but (zB w4 ⟨w.heap.size+1,0,none⟩ (.slice A4 n4 c4)) (λ_ a e=>by have:=Gu.o a e;show a.block≠w.heap.size+1;omega)).but (zB _ ⟨w.heap.size+1+1,0,none⟩ .nilIface) (λ_ a e=>by have:=Gu.o a e;show a.block≠w.heap.size+1+1;omega));have BB:=O ((B4.o.setCell (p:=⟨w.heap.size+1,0,none⟩) (Nat.le_succ _) (.slice A4 n4 c4)).setCell (p:=⟨w.heap.size+1+1,0,none⟩) (Nat.le_succ_of_le (Nat.le_succ _)) .nilIface);go_wp2_with fail;have g1:=zB w4 ⟨w.heap.size+1,0,none⟩ (.slice A4 n4 c4);have Gz:some a.block≠some (w.heap.size+1):=λe=>by injection e with e;have:=C9.o;omega
  have hn0:some w.heap.size≠some (w.heap.size+1):=λe=>by injection e with e;omega
  refine hK'.out _ _ (λ_=>⟨V4.o.c0,C'.o,Mj.o⟩) ?_;clear hK' K'
  try simp only [Act.put,zA]
  refine zR (i:=10) (o:=⟨none,_,_,_,_,_⟩) (by kernel_rfl) rfl (λK' hK'=>?_);go_simp;refine hK'.out _ _ (λ_=>⟨g1.cell V4.o.c0 hn0,g1.cell C'.o Gz,g1.cell Mj.o Gz⟩) ?_;clear hK' K'
  try simp only [Act.put,zA]
  refine zR (i:=11) (o:=⟨none,_,_,_,_,_⟩) (by kernel_rfl) rfl (λK' hK'=>?_);go_simp;refine hK'.out _ _ (λh=>absurd rfl h) ?_;clear hK' K' g1 Gz hn0;refine aF (by kernel_rfl) ?_
  try simp only [Act.put,zA]
  go_wp2_with fail;refine leaves_cons (f:=116) (args:=#[.pointer (some ⟨w.heap.size+1,0,none⟩),.pointer (some ⟨w.heap.size+1+1,0,none⟩)]) (by simp) (by simp [go_sem]) ?_;refine(gJ ⟨w.heap.size+1,0,none⟩ ⟨w.heap.size+1+1,0,none⟩ _).mono ?_;rintro e u' w6 ⟨rfl,rfl,rfl⟩;simp [Leaves,settle,results,Tryz.results68,go_sem,p1,p2];exact⟨A4,n4,c4,rfl,N6.o,BB.o⟩
def cxZ:Cx:=⟨none,0,0,[],⟨(emp,emp),(emp,emp),(emp,emp),none,0,0,[]⟩,none,0,0,[]⟩
theorem yF{w w':World}{x:Nd}(hb:Below ((iI w x).alloc evZ).heap.size ((iI w x).alloc evZ) w')(hd:aD w'):br w' (w.heap.size+1+1+1) cxZ:=by
 refine⟨?_,⟨rfl,Nat.le_refl _,Nat.zero_le _,λk x hx=>by simp [cxZ] at hx⟩,hd,?_⟩
 ·have h:=zV (heap_alloc_last (iI w x) evZ) (k:=0) (u := .slice none 0 0) rfl;rw [Bl] at h;exact za hb h
 ·show jw []=0;unfold jw;simp [jG]
theorem wX(n:Nd)(hs:n.s.size<=maxLen)(L:Nat)(Li:(n.op=5\/n.op=6)\/(n.op≠5/\n.op≠6/\L=1/\(n.op=9\/n.op=10\/n.op=21\/n.op=22\/n.op=23\/n.op=24))\/(n.op≠5/\n.op≠6/\L=2))
 (N:List ByteArray) (A2:Option Addr) (n2 c2:Nat) (hn:n2=N.length) (hn2:n2<=1000) (hz:∀x∈N,x.size<=maxLen) (w:World) (hT:mx w A2 N)
 (A:Option Addr) (c:Nat) (V:List Sl) (hL:V.length=L) (hL2:L<=1000) (hV:aw w A V) (hval:∀r∈V,zc r.P=0) (hd:aD w) (hr:bo [] n N (V.map Sl.P)≠ .error 0):
 Calls Tryz.prog 68 #[.slice none 0 0,ndV n,.slice A2 n2 c2,.slice A L c] w (cu w (bo [] n N (V.map Sl.P))):=by
 have hpos:∀r∈V,0<r.P.length:=λr h=>(zH.1 (hval r h)).2.pos;rcases Li with (h|h)|⟨h5,h6',h1,ho⟩|⟨h5,h6',h2⟩
 ·have e:bo [] n N (V.map Sl.P)=je (Wk.setE (V.map Sl.P)) (dH (V.map Sl.P)):=by
   unfold bo;rw [if_neg (by omega),if_pos h]
  rw [e] at hr ⊢;exact oe n (.inl h) _ _ _ hr w (λw' hb=>by rw [h];exact tM A L c V _ w' hL.symm hL2 (hV.keep hb) (hd.keep hb))
 ·have e:bo [] n N (V.map Sl.P)=je (aU N (V.map Sl.P)) (dJ N (V.map Sl.P)):=by
   unfold bo;rw [if_pos h]
  rw [e] at hr ⊢;exact oe n (.inr h) _ _ _ hr w (λw' hb=>by rw [h];exact tj A2 n2 c2 N A L c V w' hn hn2 (hT.keep hb) hz hL.symm hL2 (hV.keep hb) (hd.keep hb))
 ·subst h1
  match V,hL with
  | [r],_ =>
   have e:bo [] n N ([r].map Sl.P)=ar [] n r.P:=by
    unfold bo;rw [if_neg h6',if_neg h5];rfl
   rw [e] at hr ⊢
   obtain⟨a,rfl,ha,fa⟩:=hV 0 r rfl
   rw [show a.add 0=a from rfl] at ha
   exact Cp n h5 h6' _ a c r.A r.n r.c _ hr w ha (block_lt_of_cell ha) (λw' hb hb2=>lu (yF hb2 (hd.keep hb)) n ho hs r.A r.n r.c r.P (fa.keep hb) (hpos r (by simp)))
 ·subst h2
  match V,hL with
  | [r,q],_ =>
   have e:bo [] n N ([r,q].map Sl.P)=j7 [] n.op r.P q.P:=by
    unfold bo;rw [if_neg h6',if_neg h5];rfl
   rw [e] at hr ⊢
   obtain⟨a,rfl,ha,fa⟩:=hV 0 r rfl
   obtain⟨a',ea,hb',hns'⟩:=hV 1 q rfl
   injection ea with ea
   subst ea
   rw [show a.add 0=a from rfl] at ha
   exact Ao n h5 h6' _ a c r.A r.n r.c q.A q.n q.c _ hr w ha hb' (block_lt_of_cell ha) (λw' hb hb2=>kX (yF hb2 (hd.keep hb)) n.op r.A q.A r.n q.n r.c q.c r.P q.P (fa.keep hb) (hpos r (by simp)) (hns'.keep hb) (hpos q (by simp)) (hval q (by simp)))
end Go.Proofs.YtokiogmfgpidmaaGreatDoor
