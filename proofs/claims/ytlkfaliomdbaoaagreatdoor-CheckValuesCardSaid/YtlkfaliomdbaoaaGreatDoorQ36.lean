/-
  check.Type: the type of an expression, or what is wrong. (gen_chktype.py) What the laws of check ask for first: the sum of two and three is a number.
-/
import Derived.Test.YtlkfaliomdbaoaaGreatDoorQ15
import Derived.Test.YtlkfaliomdbaoaaGreatDoorQ19
import Derived.Test.YtlkfaliomdbaoaaGreatDoorQ33
import Derived.Test.YtlkfaliomdbaoaaGreatDoorQ34
import Derived.Test.YtlkfaliomdbaoaaGreatDoorQ35
set_option maxRecDepth 100000
set_option maxHeartbeats 8000000
namespace Go.Proofs.YtlkfaliomdbaoaaGreatDoor
open Go.RowKit Go.Wk Go.Sort
theorem zoy(w:World):Ns w none 0 0 []:=⟨rfl,Nat.le_refl _,Nat.zero_le _,fun k x hx=>by simp at hx,fun x hx=>by cases hx⟩
theorem zj1{w:World}{a:Addr}{n c:Nat}{P:List Nd}(h:Ns w (some a) n c P)(h0:P≠ []):a.block<w.heap.size:=by
 cases P with
 | nil=>exact absurd rfl h0
 | cons y r =>
  obtain⟨b,hb,c0,-⟩:=h.at_ 0 y rfl
  injection hb with hb
  subst hb
  exact block_lt_of_cell c0
theorem zoo{P:List Nd}{k:Kd}(h:Kin P k):P≠ []:=by
 rw [h.e];intro e;have:=zaa k;rw [e] at this;exact absurd this (by simp)
theorem znu{w:World}{A:Option Addr}{n c:Nat}{P:List Nd}(h:Ns w A n c P)(h0:P≠ []):∃a,A=some a:=by
 cases P with
 | nil=>exact absurd rfl h0
 | cons y r =>
  obtain⟨b,hb,-⟩:=h.at_ 0 y rfl
  exact⟨b,hb⟩
def znz:zbk→Value
 | .ok _ => .nilIface
 | .error u => .iface 28 (.int .i64 u)
def zlr(w:World)(r:zbk)(e:Ending)(w':World):Prop:=∃A n c,e = .returned (.tuple #[.slice A n c,znz r])∧Ns w' A n c (tyV r)∧Below w.heap.size w w'
theorem zc9{w w':World}{k:Int}(hb:Below w.heap.size w w'):zlr w (.error k) (.returned (.tuple #[.slice none 0 0,.iface 28 (.int .i64 k)])) w':=⟨none,0,0,rfl,zoy w',hb⟩
def zpH(w:World)(s:Sc):World:=((w.alloc (.cells #[.slice s.KA s.kn s.kc,.slice s.AA s.an s.ac] 25)).alloc (.cells #[.slice none 0 0] 26)).alloc (.cells #[.nilIface] 33)
structure Vt(w:World)(b:Nat)(s:Sc):Prop where
 vs:Vs w b s
 cv:w.cell? ⟨b+1,0,none⟩=some (.slice none 0 0)
 ce:w.cell? ⟨b+1+1,0,none⟩=some .nilIface
 zv:w.frozen? ⟨b+1,0,none⟩=false
 ze:w.frozen? ⟨b+1+1,0,none⟩=false
theorem Vt.keep{w w':World}{b:Nat}{s:Sc}(h:Vt w b s)(hb:Below w.heap.size w w'):Vt w' b s :=
 ⟨h.vs.keep hb,zb hb h.cv,zb hb h.ce,(hb.frozen (p:=⟨b+1,0,none⟩) (block_lt_of_cell h.cv)).trans h.zv,(hb.frozen (p:=⟨b+1+1,0,none⟩) (block_lt_of_cell h.ce)).trans h.ze⟩
theorem zlh(w:World)(s:Sc):Below w.heap.size w (zpH w s):=
 (za w _).trans (((za _ _).mono (by simp)).trans ((za _ _).mono (by simp;omega)))
theorem zov(w:World)(s:Sc):Vt (zpH w s) w.heap.size s:=by
 have h1:=zeZ w s 25;have h2:=(h1.keep (za _ (.cells #[.slice none 0 0] 26))).keep (za _ (.cells #[.nilIface] 33));refine⟨h2,?_,?_,?_,?_⟩
 ·have:=zb (za _ (.cells #[.nilIface] 33)) (zx (heap_alloc_last (w.alloc (.cells #[.slice s.KA s.kn s.kc,.slice s.AA s.an s.ac] 25)) (.cells #[.slice none 0 0] 26)) (k:=0) (u := .slice none 0 0) rfl);rw [World.size_alloc] at this;exact this
 ·have:=zx (heap_alloc_last ((w.alloc (.cells #[.slice s.KA s.kn s.kc,.slice s.AA s.an s.ac] 25)).alloc (.cells #[.slice none 0 0] 26)) (.cells #[.nilIface] 33)) (k:=0) (u := .nilIface) rfl;rw [World.size_alloc,World.size_alloc] at this;exact this
 ·have ha:(w.alloc (.cells #[.slice s.KA s.kn s.kc,.slice s.AA s.an s.ac] 25)).heap.size=w.heap.size+1:=by simp
  exact((za _ _).frozen (p:=⟨w.heap.size+1,0,none⟩) (by simp)).trans (World.frozen?_alloc_at _ _ _ _ ha.symm)
 ·have ha:((w.alloc (.cells #[.slice s.KA s.kn s.kc,.slice s.AA s.an s.ac] 25)).alloc (.cells #[.slice none 0 0] 26)).heap.size=w.heap.size+1+1:=by simp
  exact World.frozen?_alloc_at _ _ _ _ ha.symm
theorem zbt{w:World}{b:Nat}{s:Sc}(h:Vt w b s)(x y:Value):((w.setCell ⟨b+1,0,none⟩ x).setCell ⟨b+1+1,0,none⟩ y).cell? ⟨b+1,0,none⟩=some x∧((w.setCell ⟨b+1,0,none⟩ x).setCell ⟨b+1+1,0,none⟩ y).cell? ⟨b+1+1,0,none⟩=some y :=
 ⟨(World.cell?_setCell_other _ _ _ _ (by intro e;injection e with e;omega)).trans (World.cell?_setCell_same w _ _ h.cv),World.cell?_setCell_same _ _ _ ((World.cell?_setCell_other w _ _ _ (by intro e;injection e with e;omega)).trans h.ce)⟩
theorem zgw(s:Sc)(who act what:ByteArray)(A:Option Addr)(n c:Nat)(P:List Nd)(w:World)(hs:zdB w s)(h1:who.size≤maxLen)(h3:what.size≤maxLen)(hP:Ns w A n c P):
 Calls Tryz.prog 7 #[s.v,.string who,.string act,.string what,.slice A n c] w (zlr w (za6 s.k s.a who act what P)):=by
 have C1:=hi9 (fun w' (hb:Below w.heap.size w w')=>ziL s w' (hs.keep hb));have C3:=hi9 (fun w' (hb:Below w.heap.size w w')=>zkL A n c P w' (hP.keep hb));have C4:=hi9 (fun w' (hb:Below w.heap.size w w')=>zk2 s act w' (hs.keep hb));have HS:=hi9 hs;have HP:=hi9 hP;have HW:=hi9 (And.intro h1 h3);obtain⟨RR,hRR⟩:∃RR,RR=za6 s.k s.a who act what P:=⟨_,rfl⟩
 rw [←hRR];have HRR:=hi9 hRR;have HX1:=hi9 (show jW s.k s.a≠0→RR = .error (jW s.k s.a) from fun h=>by have h0:=zP (y:=zZ P) h;rw [hRR,zeR (by rw [h0];exact h),h0]);have HX2:=hi9 (show jW s.k s.a=0→zZ P≠0→RR = .error (zZ P) from fun h g=>by rw [hRR,zeR (by rw [h,zT];exact g),h,zT]);have HX3:=hi9 (show jW s.k s.a=0→zZ P=0→zbI s.a act=none→RR = .error 3 from fun h g e=>by rw [hRR,zgS (jd.2 ⟨h,g⟩) e]);have HX4:=hi9 (show jW s.k s.a=0→zZ P=0→∀a,zbI s.a act=some a→¬(jV a.who who && jV a.what what)=true→RR = .error 2 from fun h g a e hh=>by rw [hRR,zhQ (jd.2 ⟨h,g⟩) e hh]);have HX5:=hi9 (show jW s.k s.a=0→zZ P=0→∀a,zbI s.a act=some a→(jV a.who who && jV a.what what)=true→∃x:Ex,x.valid false∧P=x.flat∧P.length≤200∧zcH ⟨s.k,a,who,what⟩∧RR=tyX ⟨s.k,a,who,what⟩ x [] from fun h g a e hh=>by
  obtain⟨hl,x,hx,hPx⟩:=zcg.1 g
  exact⟨x,hx,hPx,hl,zpD h (List.mem_of_find?_eq_some e) hh,by rw [hRR,zgh (jd.2 ⟨h,g⟩) e hh hx hPx]⟩)
 unfold Sc.v at C1 C4 ⊢;generalize jW s.k s.a=f1 at *;generalize zZ P=f3 at *;have B0:=hi9 (zlh w s);have V0:=hi9 (zov w s);unfold zpH at B0 V0;have hmf:∀(fn:Fn) (first cap:Array Value) (w:World),(Instr.makeFunc fn first cap).run Tryz.prog w = .ok (.func fn first cap) w:=fun _ _ _ _=>rfl;clear hs hP h1 h3 hRR;go_enter_defers Tryz.func7,Tryz.ntmps7;go_wp2_with fail;refine(C1.out _ B0.out).mono ?_;rintro e w1 ⟨rfl,b1⟩;have B1:=bh B0 b1;have V1:=hi9 (V0.out.keep b1);clear b1 B0 V0 C1;by_cases q1:f1=0
 case neg =>
  rw [zA q1];obtain⟨-,cv,ce,zv,ze⟩:=V1.out;have hl1:=block_lt_of_cell cv;have hl2:=block_lt_of_cell ce;obtain⟨p1,p2⟩:=zbt V1.out (.slice none 0 0) (.iface 28 (.int .i64 f1));have BB:=hi9 ((B1.out.setCell (p:=⟨w.heap.size+1,0,none⟩) (Nat.le_succ _) (.slice none 0 0)).setCell (p:=⟨w.heap.size+1+1,0,none⟩) (Nat.le_succ_of_le (Nat.le_succ _)) (.iface 28 (.int .i64 f1)));have HT:=hi9 (zc9 (k:=f1) BB.out);have HR:=hi9 (HX1.out q1);clear HX1 HX2 HX3 HX4;clear HX5 C3 C4;go_wp2_with fail;simp [bodyPostD,Leaves,results,Tryz.results7,go_sem,cv,ce];rw [HR.out];exact HT.out
 rw [q1,zr];go_wp2_with fail;refine(C3.out _ B1.out).mono ?_;rintro e w2 ⟨rfl,b2⟩;have B2:=bh B1 b2;have V2:=hi9 (V1.out.keep b2);clear b2 B1 V1 C3;by_cases q2:f3=0
 case neg =>
  rw [zA q2];obtain⟨-,cv,ce,zv,ze⟩:=V2.out;have hl1:=block_lt_of_cell cv;have hl2:=block_lt_of_cell ce;obtain⟨p1,p2⟩:=zbt V2.out (.slice none 0 0) (.iface 28 (.int .i64 f3));have BB:=hi9 ((B2.out.setCell (p:=⟨w.heap.size+1,0,none⟩) (Nat.le_succ _) (.slice none 0 0)).setCell (p:=⟨w.heap.size+1+1,0,none⟩) (Nat.le_succ_of_le (Nat.le_succ _)) (.iface 28 (.int .i64 f3)));have HT:=hi9 (zc9 (k:=f3) BB.out);have HR:=hi9 (HX2.out q1 q2);clear HX1 HX2 HX3 HX4;clear HX5 C4;go_wp2_with fail;simp [bodyPostD,Leaves,results,Tryz.results7,go_sem,cv,ce];rw [HR.out];exact HT.out
 rw [q2,zr];obtain⟨⟨c0,c1⟩,-,-,-,-⟩:=V2.out;go_wp2_with fail;refine(C4.out _ B2.out).mono ?_;rintro e w3 ⟨hc,b3⟩;have B3:=bh B2 b3;have V3:=hi9 (V2.out.keep b3);clear b3 B2 V2 C4 c0 c1;rcases hc with ⟨ha,rfl⟩|⟨i,hi,ha,rfl⟩
 ·obtain⟨-,cv,ce,zv,ze⟩:=V3.out;have hl1:=block_lt_of_cell cv;have hl2:=block_lt_of_cell ce;obtain⟨p1,p2⟩:=zbt V3.out (.slice none 0 0) (.iface 28 (.int .i64 3));have BB:=hi9 ((B3.out.setCell (p:=⟨w.heap.size+1,0,none⟩) (Nat.le_succ _) (.slice none 0 0)).setCell (p:=⟨w.heap.size+1+1,0,none⟩) (Nat.le_succ_of_le (Nat.le_succ _)) (.iface 28 (.int .i64 3)));have BX:=za ((w3.setCell ⟨w.heap.size+1,0,none⟩ (.slice none 0 0)).setCell ⟨w.heap.size+1+1,0,none⟩ (.iface 28 (.int .i64 3))) (.cells #[.string ⟨#[]⟩,.slice none 0 0,.slice none 0 0,.slice none 0 0] 44);have p3:=zb BX p1;have p4:=zb BX p2;have HT:=hi9 (zc9 (k:=3) (bh BB BX).out);have HR:=hi9 (HX3.out q1 q2 ha);clear HX1 HX2 HX3 HX4;clear HX5;go_wp2_with fail;simp [bodyPostD,Leaves,results,Tryz.results7,go_sem,p3,p4];rw [HR.out];exact HT.out
 obtain⟨_,-,-,-,-,-,hA⟩:=HS.out.a.at_ i s.L[i] (List.getElem?_eq_getElem hi);have HA:=hi9 ha;have HAN:=hi9 hA;clear ha hA;generalize s.L[i]=x at *;obtain⟨d,WA,wn,wc,TA,tn,tc,NA,nn,nc⟩:=x;dsimp only at HA;have CW:=hi9 (fun w' (hb:Below w.heap.size w w')=>zdv WA wn wc d.who who w' (HAN.out.ws.keep hb));have CT:=hi9 (fun w' (hb:Below w.heap.size w w')=>zdv TA tn tc d.what what w' (HAN.out.ts.keep hb));obtain⟨a0,a1,a2,a3⟩:=za9 w3 (.string d.id) (.slice WA wn wc) (.slice TA tn tc) (.slice NA nn nc) 44;have bA:=za w3 (.cells #[.string d.id,.slice WA wn wc,.slice TA tn tc,.slice NA nn nc] 44);have B4:=bh B3 bA;have V4:=hi9 (V3.out.keep bA);clear bA B3 V3;go_wp2_with fail;refine(CW.out _ B4.out).mono ?_;rintro e w5 ⟨rfl,b5⟩;have B5:=bh B4 b5;have V5:=hi9 (V4.out.keep b5);replace a0:=zb b5 a0;replace a1:=zb b5 a1;replace a2:=zb b5 a2;replace a3:=zb b5 a3;clear b5 B4 V4 CW;rcases g1:jV d.who who with _|_
 ·obtain⟨-,cv,ce,zv,ze⟩:=V5.out;have hl1:=block_lt_of_cell cv;have hl2:=block_lt_of_cell ce;obtain⟨p1,p2⟩:=zbt V5.out (.slice none 0 0) (.iface 28 (.int .i64 2));have BB:=hi9 ((B5.out.setCell (p:=⟨w.heap.size+1,0,none⟩) (Nat.le_succ _) (.slice none 0 0)).setCell (p:=⟨w.heap.size+1+1,0,none⟩) (Nat.le_succ_of_le (Nat.le_succ _)) (.iface 28 (.int .i64 2)));have HT:=hi9 (zc9 (k:=2) BB.out);have HR:=hi9 (HX4.out q1 q2 _ HA.out (by rw [g1];simp));clear HX1 HX2 HX3 HX4;clear HX5 CT a0 a1 a2 a3;go_wp2_with fail;simp [bodyPostD,Leaves,results,Tryz.results7,go_sem,cv,ce];rw [HR.out];exact HT.out
 go_wp2_with fail;refine(CT.out _ B5.out).mono ?_;rintro e w6 ⟨rfl,b6⟩;have B6:=bh B5 b6;have V6:=hi9 (V5.out.keep b6);replace a0:=zb b6 a0;replace a1:=zb b6 a1;replace a2:=zb b6 a2;replace a3:=zb b6 a3;clear b6 B5 V5 CT;rcases g2:jV d.what what with _|_
 ·obtain⟨-,cv,ce,zv,ze⟩:=V6.out;have hl1:=block_lt_of_cell cv;have hl2:=block_lt_of_cell ce;obtain⟨p1,p2⟩:=zbt V6.out (.slice none 0 0) (.iface 28 (.int .i64 2));have BB:=hi9 ((B6.out.setCell (p:=⟨w.heap.size+1,0,none⟩) (Nat.le_succ _) (.slice none 0 0)).setCell (p:=⟨w.heap.size+1+1,0,none⟩) (Nat.le_succ_of_le (Nat.le_succ _)) (.iface 28 (.int .i64 2)));have HT:=hi9 (zc9 (k:=2) BB.out);have HR:=hi9 (HX4.out q1 q2 _ HA.out (by rw [g1,g2];simp));clear HX1 HX2 HX3 HX4;clear HX5 a0 a1 a2 a3;go_wp2_with fail;simp [bodyPostD,Leaves,results,Tryz.results7,go_sem,cv,ce];rw [HR.out];exact HT.out
 obtain⟨x,hx,hPx,hl,hst,hrr⟩:=HX5.out q1 q2 _ HA.out (by rw [g1,g2];rfl);clear HX1 HX2 HX3 HX4 HX5 HRR;obtain⟨⟨c0,c1⟩,-,-,-,-⟩:=V6.out;have HXO:=hi9 (fun w' (hb:Below w.heap.size w w')=>(⟨HS.out.keep hb,HAN.out.keep hb,HW.out.1,HW.out.2,hst,hb.size,fun a e=>zj1 (by have:=HAN.out.ns;rw [show NA=some a from e] at this;exact this) (zoo hst.ctx.choose_spec),fun y hy a e=>by
  obtain⟨k,hk,rfl⟩:=List.getElem_of_mem hy
  obtain⟨_,-,-,-,-,hKN⟩:=HS.out.k.at_ k s.K[k] (List.getElem?_eq_getElem hk)
  have h0:=hKN.ns
  rw [e] at h0
  obtain⟨f,hf⟩:=hst.kds s.K[k].d (List.mem_map.2 ⟨s.K[k],hy,rfl⟩)
  exact zj1 h0 (zoo hf)⟩:zef w' ⟨s,who,what,⟨d,WA,wn,wc,TA,tn,tc,NA,nn,nc⟩,w.heap.size⟩))
 have KX:=hi9 (fun w' (hb:Below w.heap.size w w')=>zeu ⟨s,who,what,⟨d,WA,wn,wc,TA,tn,tc,NA,nn,nc⟩,w.heap.size⟩ 4000 A n c x none [] w' (HXO.out w' hb) (by rw [←hPx];exact HP.out.keep hb) (by have:=HP.out.len;omega) hx (by have:=HP.out.len;omega) rfl);have HOK:=hi9 (zd7 hst x false [] hx);unfold Xs.v Xs.t at KX;dsimp only at KX;generalize tyX ⟨s.k,d,who,what⟩ x []=rr at *;have HRQ:=hi9 hrr;clear HXO HS HAN HP HW hst hx hPx hl hrr HA;go_wp2_with fail;have bX:=za w6 (.cells #[.slice s.KA s.kn s.kc,.slice s.AA s.an s.ac,.string who,.string what,.string d.id,.slice WA wn wc,.slice TA tn tc,.slice NA nn nc] 60);have B7:=bh B6 bX;have V7:=hi9 (V6.out.keep bX);have K:=hi9 (KX.out _ B7.out);clear bX KX B6 V6 c0 c1 a0 a1 a2 a3;rcases rr with u|k
 ·refine K.out.mono ?_;intro e w8 h8;obtain⟨rfl,b8⟩:=zaJ h8;have B8:=bh B7 b8;have V8:=hi9 (V7.out.keep b8);clear h8 b8 K B7 V7;obtain⟨-,cv,ce,zv,ze⟩:=V8.out;have hl1:=block_lt_of_cell cv;have hl2:=block_lt_of_cell ce;go_wp2_with fail;refine leaves_cons (f:=22) (args:=#[.pointer (some ⟨w.heap.size+1,0,none⟩),.pointer (some ⟨w.heap.size+1+1,0,none⟩)]) (by simp) (by simp [go_sem]) ?_;refine(zjT (w.heap.size+1) (w.heap.size+1+1) u _ _ [] w8 cv zv ce ze (by omega)).mono ?_;rintro e u' w9 ⟨rfl,rfl,rfl⟩;obtain⟨p1,p2⟩:=zbt V8.out (.slice none 0 0) (.iface 28 (.int .i64 u));have BB:=(B8.out.setCell (p:=⟨w.heap.size+1,0,none⟩) (Nat.le_succ _) (.slice none 0 0)).setCell (p:=⟨w.heap.size+1+1,0,none⟩) (Nat.le_succ_of_le (Nat.le_succ _)) (.iface 28 (.int .i64 u));have HT:=zc9 (k:=u) BB;simp [Leaves,settle,results,Tryz.results7,go_sem,p1,p2];rw [HRQ.out];exact HT
 ·have hk:k.flat.length≤200:=by have:=HOK.out.2;rw [zad];exact this
  have hk0:k.flat≠ []:=fun e=>by have:=zaa k;rw [e] at this;exact absurd this (by simp)
  have HFV:=hi9 (show∃V,V=k.flat from⟨_,rfl⟩);refine K.out.mono ?_;intro e w8 h8;obtain⟨A4,n4,c4,rfl,N4,b8,-⟩:=jM h8;have B8:=bh B7 b8;have V8:=hi9 (V7.out.keep b8);obtain⟨a4,rfl⟩:=znu N4 hk0;have K2:=hi9 (zkQ a4 n4 c4 k.flat w8 N4 (by omega));unfold zoc at K2;clear h8 b8 K B7 V7 N4 hk hk0 HFV;go_wp2_with fail;refine K2.out.mono ?_;rintro e w5 ⟨A5,c5,rfl,N5,F5,b5⟩;have V5:=hi9 (V8.out.keep b5);have B5:=bh B8 b5;have HN5:=hi9 N5;obtain⟨-,cv0,ce0,-,-⟩:=V8.out;have hl3:=block_lt_of_cell cv0;have hl4:=block_lt_of_cell ce0;have HF5:=hi9 (show∀a,A5=some a→w.heap.size+1+1<a.block from fun a e=>Nat.lt_of_lt_of_le hl4 (F5 a e));obtain⟨-,cv,ce,zv,ze⟩:=V5.out;have hl1:=block_lt_of_cell cv;have hl2:=block_lt_of_cell ce;have HVK:=hi9 (show tyV (.ok k)=k.flat from rfl);obtain⟨vl,hvl⟩:∃vl,vl=k.flat.length:=⟨_,rfl⟩
  rw [←hvl] at HN5 ⊢;obtain⟨p1,p2⟩:=zbt V5.out (.slice A5 vl c5) .nilIface;have N6:=hi9 ((HN5.out.but (zg w5 ⟨w.heap.size+1,0,none⟩ (.slice A5 vl c5)) (fun _ a e=>by have:=HF5.out a e;show a.block≠w.heap.size+1;omega)).but (zg _ ⟨w.heap.size+1+1,0,none⟩ .nilIface) (fun _ a e=>by have:=HF5.out a e;show a.block≠w.heap.size+1+1;omega));have BB:=hi9 ((B5.out.setCell (p:=⟨w.heap.size+1,0,none⟩) (Nat.le_succ _) (.slice A5 vl c5)).setCell (p:=⟨w.heap.size+1+1,0,none⟩) (Nat.le_succ_of_le (Nat.le_succ _)) .nilIface);clear b5 N5 F5 V8 B8 K2 cv0 ce0 hl3 hl4 hvl;go_wp2_with fail;refine leaves_cons (f:=22) (args:=#[.pointer (some ⟨w.heap.size+1,0,none⟩),.pointer (some ⟨w.heap.size+1+1,0,none⟩)]) (by simp) (by simp [go_sem]) ?_;refine(zlY ⟨w.heap.size+1,0,none⟩ ⟨w.heap.size+1+1,0,none⟩ _).mono ?_;rintro e u' w6 ⟨rfl,rfl,rfl⟩;simp [Leaves,settle,results,Tryz.results7,go_sem,p1,p2];rw [HRQ.out];exact⟨A5,vl,c5,rfl,N6.out,BB.out⟩
end Go.Proofs.YtlkfaliomdbaoaaGreatDoor
namespace Go.Wk
def zcP:ByteArray:=⟨#[65]⟩
def zh6:ByteArray:=⟨#[115,101,101]⟩
def zgt:AD:=⟨zh6,[zcP],[zcP],[⟨46,0,emp,emp⟩]⟩
def zo4:Ex := .node ⟨17,0,emp,emp⟩ (.cons (.node ⟨2,2,emp,emp⟩ .nil) (.cons (.node ⟨2,3,emp,emp⟩ .nil) .nil))
theorem znX:za6 [] [zgt] zcP zh6 zcP [⟨17,0,emp,emp⟩,⟨2,2,emp,emp⟩,⟨2,3,emp,emp⟩] = .ok (.base 42):=by
 have v:zo4.valid false:=⟨by decide,by decide,fun e=>Bool.noConfusion e,⟨by decide,by decide,trivial⟩,fun e=>Bool.noConfusion e,⟨by decide,by decide,trivial⟩,trivial⟩
 have e : [⟨17,0,emp,emp⟩,⟨2,2,emp,emp⟩,⟨2,3,emp,emp⟩]=zo4.flat:=rfl;have h1:jW [] [zgt]=0:=by decide +kernel
 rw [zgh (a:=zgt) (jd.2 ⟨h1,zcg.2 ⟨by decide,zo4,v,e⟩⟩) (by rfl) (by decide) v e];unfold zo4;have h2:∀k:Int,tyX ⟨[],zgt,zcP,zcP⟩ (.node ⟨2,k,emp,emp⟩ .nil) [] = .ok (.base 42):=fun k=>by
  rw [tyX];rfl
 rw [tyX];simp only [tyS,h2];rfl
end Go.Wk
namespace Go.Proofs.YtlkfaliomdbaoaaGreatDoor
open Go.RowKit Go.Wk Go.Sort
theorem zjY(n:Int)(w:World):Calls Tryz.prog 11 #[.int .i64 n] w fun e w'=>e = .returned (.agg #[.int .i64 2,.int .i64 n,.string ⟨#[]⟩,.string ⟨#[]⟩])∧Below w.heap.size w w':=by
 go_enter Tryz.func11,Tryz.ntmps11;go_wp2_with fail;exact⟨rfl,.agg #[.int .i64 2,.int .i64 n,.string ⟨#[]⟩,.string ⟨#[]⟩],by simp [results,Tryz.results11,go_sem],rfl,za w _⟩
theorem zi4(w:World)(s:ByteArray)(t:TypeId)(h:s.size≤maxLen):Txs (w.alloc (.cells #[.string s] t)) (some ⟨w.heap.size,0,none⟩) 1 1 [s] :=
 ⟨rfl,Nat.le_refl _,by unfold maxLen;omega,fun k x hx=>by
  match k,hx with
  | 0,hx=>injection hx with hx;subst hx;exact⟨_,rfl,zx (heap_alloc_last w _) rfl⟩,fun x hx=>by simp only [List.mem_cons,List.not_mem_nil,or_false] at hx;subst hx;exact h⟩
def tO1:Obj := .cells #[.string zcP] 9
def tO3:Obj := .cells #[.int .i64 46,.int .i64 0,.string emp,.string emp] 40
def tO4(b:Nat):Obj := .cells #[.string zh6,.slice (some ⟨b,0,none⟩) 1 1,.slice (some ⟨b+1,0,none⟩) 1 1,.slice (some ⟨b+1+1,0,none⟩) 1 1] 44
def tO5(b:Nat):Obj := .cells #[.slice none 0 0,.slice (some ⟨b+1+1+1,0,none⟩) 1 1] 25
def tW(w:World):World:=((((w.alloc tO1).alloc tO1).alloc tO3).alloc (tO4 w.heap.size)).alloc (tO5 w.heap.size)
def tS(b:Nat):Sc:=⟨none,0,0,[],some ⟨b+1+1+1,0,none⟩,1,1,[⟨zgt,some ⟨b,0,none⟩,1,1,some ⟨b+1,0,none⟩,1,1,some ⟨b+1+1,0,none⟩,1,1⟩]⟩
theorem zp0(w:World):Below w.heap.size w (tW w)∧zdB (tW w) (tS w.heap.size):=by
 have z1:(w.alloc tO1).heap.size=w.heap.size+1:=by simp
 have z2:((w.alloc tO1).alloc tO1).heap.size=w.heap.size+1+1:=by simp
 have z3:(((w.alloc tO1).alloc tO1).alloc tO3).heap.size=w.heap.size+1+1+1:=by simp
 have b1:=za w tO1;have b2:=za (w.alloc tO1) tO1;have b3:=za ((w.alloc tO1).alloc tO1) tO3;have b4:=za (((w.alloc tO1).alloc tO1).alloc tO3) (tO4 w.heap.size);have b5:=za ((((w.alloc tO1).alloc tO1).alloc tO3).alloc (tO4 w.heap.size)) (tO5 w.heap.size);have t1:Txs (w.alloc tO1) (some ⟨w.heap.size,0,none⟩) 1 1 [zcP]:=zi4 w zcP _ (by decide);have t2:Txs ((w.alloc tO1).alloc tO1) (some ⟨w.heap.size+1,0,none⟩) 1 1 [zcP]:=by
  have h:=zi4 (w.alloc tO1) zcP 9 (by decide);rw [z1] at h;exact h
 have t3:Ns (((w.alloc tO1).alloc tO1).alloc tO3) (some ⟨w.heap.size+1+1,0,none⟩) 1 1 [⟨46,0,emp,emp⟩]:=by
  have h:=zeO ((w.alloc tO1).alloc tO1) ⟨46,0,emp,emp⟩ ⟨by decide,by decide,by decide,by decide⟩;rw [z2] at h;exact h
 have a0:((((w.alloc tO1).alloc tO1).alloc tO3).alloc (tO4 w.heap.size)).cell? ⟨w.heap.size+1+1+1,0,none⟩=some (.string zh6):=by rw [←z3];exact zx (heap_alloc_last _ _) rfl
 have a1:((((w.alloc tO1).alloc tO1).alloc tO3).alloc (tO4 w.heap.size)).cell? ⟨w.heap.size+1+1+1,1,none⟩=some (.slice (some ⟨w.heap.size,0,none⟩) 1 1):=by rw [←z3];exact zx (heap_alloc_last _ _) rfl
 have a2:((((w.alloc tO1).alloc tO1).alloc tO3).alloc (tO4 w.heap.size)).cell? ⟨w.heap.size+1+1+1,2,none⟩=some (.slice (some ⟨w.heap.size+1,0,none⟩) 1 1):=by rw [←z3];exact zx (heap_alloc_last _ _) rfl
 have a3:((((w.alloc tO1).alloc tO1).alloc tO3).alloc (tO4 w.heap.size)).cell? ⟨w.heap.size+1+1+1,3,none⟩=some (.slice (some ⟨w.heap.size+1+1,0,none⟩) 1 1):=by rw [←z3];exact zx (heap_alloc_last _ _) rfl
 refine⟨?_,⟨⟨rfl,Nat.le_refl _,Nat.zero_le _,fun k x hx=>by cases hx⟩,⟨rfl,Nat.le_refl _,by unfold maxLen;show 1≤_;omega,fun k x hx=>?_⟩⟩⟩
 ·exact b1.trans (((b2.mono b1.size)).trans ((b3.mono (by omega)).trans ((b4.mono (by omega)).trans (b5.mono (by simp;omega)))))
 ·match k,hx with
  | 0,hx =>
   injection hx with hx
   subst hx
   exact⟨_,rfl,zb b5 a0,zb b5 a1,zb b5 a2,zb b5 a3,(by show zh6.size≤maxLen;decide),(((t1.keep b2).keep b3).keep b4).keep b5,((t2.keep b3).keep b4).keep b5,(t3.keep b4).keep b5⟩
theorem zp7(w:World):Vs (tW w) (w.heap.size+1+1+1+1) (tS w.heap.size):=by
 have h:=zeZ ((((w.alloc tO1).alloc tO1).alloc tO3).alloc (tO4 w.heap.size)) (tS w.heap.size) 25;rw [show((((w.alloc tO1).alloc tO1).alloc tO3).alloc (tO4 w.heap.size)).heap.size=w.heap.size+1+1+1+1 by simp] at h;exact h
theorem zpv(w:World):Ns (w.alloc (.cells #[.int .i64 17,.int .i64 0,.string ⟨#[]⟩,.string ⟨#[]⟩,.int .i64 2,.int .i64 2,.string ⟨#[]⟩,.string ⟨#[]⟩,.int .i64 2,.int .i64 3,.string ⟨#[]⟩,.string ⟨#[]⟩] 40)) (some ⟨w.heap.size,0,none⟩) 3 3 [⟨17,0,emp,emp⟩,⟨2,2,emp,emp⟩,⟨2,3,emp,emp⟩] :=
 ⟨rfl,Nat.le_refl _,by unfold maxLen;omega,zlJ w [⟨17,0,emp,emp⟩,⟨2,2,emp,emp⟩,⟨2,3,emp,emp⟩] _,by intro x hx;simp only [List.mem_cons,List.not_mem_nil,or_false] at hx;rcases hx with rfl|rfl|rfl <;> exact⟨by decide,by decide,by decide,by decide⟩⟩
theorem zkG(b:Nat)(w:World)(h:zdB w (tS b)):
 Calls Tryz.prog 7 #[.agg #[.slice none 0 0,.slice (some ⟨b+1+1+1,0,none⟩) 1 1],.string ⟨#[65]⟩,.string ⟨#[115,101,101]⟩,.string ⟨#[65]⟩,.slice (some ⟨w.heap.size,0,none⟩) 3 3] (w.alloc (.cells #[.int .i64 17,.int .i64 0,.string ⟨#[]⟩,.string ⟨#[]⟩,.int .i64 2,.int .i64 2,.string ⟨#[]⟩,.string ⟨#[]⟩,.int .i64 2,.int .i64 3,.string ⟨#[]⟩,.string ⟨#[]⟩] 40)) fun e w' =>
  ∃A n c,e = .returned (.tuple #[.slice A n c,.nilIface])∧Ns w' A n c [⟨42,0,emp,emp⟩]∧Below w.heap.size w w':=by
 have bb:=za w (.cells #[.int .i64 17,.int .i64 0,.string ⟨#[]⟩,.string ⟨#[]⟩,.int .i64 2,.int .i64 2,.string ⟨#[]⟩,.string ⟨#[]⟩,.int .i64 2,.int .i64 3,.string ⟨#[]⟩,.string ⟨#[]⟩] 40);have K:=zgw (tS b) zcP zh6 zcP _ 3 3 _ _ (h.keep bb) (by decide) (by decide) (zpv w);rw [show za6 (tS b).k (tS b).a zcP zh6 zcP [⟨17,0,emp,emp⟩,⟨2,2,emp,emp⟩,⟨2,3,emp,emp⟩] = .ok (.base 42) from znX] at K;exact K.mono fun e w' ⟨A,n,c,h1,h2,h3⟩=>⟨A,n,c,h1,h2,bb.trans (h3.mono bb.size)⟩
theorem zmL(w:World):Calls Tryz.prog 5 #[] w fun e w'=>e = .returned (.bool true)∧Below w.heap.size w w':=by
 have h0:=zp0 w;have B0:=hi9 h0.1;have S0:=hi9 h0.2;unfold tW tO1 tO3 tO4 tO5 zcP zh6 emp at B0 S0;clear h0;go_enter Tryz.func5,Tryz.ntmps5;go_wp2_with fail;have VS:=hi9 (show Vs _ (w.heap.size+1+1+1+1) (tS w.heap.size) from zp7 w);unfold tW tO1 tO3 tO4 tO5 zcP zh6 emp tS at VS;obtain⟨W,hW⟩:∃W,W=(((((w.alloc (.cells #[.string ⟨#[65]⟩] 9)).alloc (.cells #[.string ⟨#[65]⟩] 9)).alloc (.cells #[.int .i64 46,.int .i64 0,.string ⟨#[]⟩,.string ⟨#[]⟩] 40)).alloc (.cells #[.string ⟨#[115,101,101]⟩,.slice (some ⟨w.heap.size,0,none⟩) 1 1,.slice (some ⟨w.heap.size+1,0,none⟩) 1 1,.slice (some ⟨w.heap.size+1+1,0,none⟩) 1 1] 44)).alloc (.cells #[.slice none 0 0,.slice (some ⟨w.heap.size+1+1+1,0,none⟩) 1 1] 25)):=⟨_,rfl⟩
 rw [←hW] at B0 S0 VS ⊢;have TY:=hi9 (fun w' (hb:Below W.heap.size W w')=>zkG w.heap.size w' (S0.out.keep hb));clear hW S0;obtain⟨c0,c1⟩:=VS.out;have x0:=zb (jZ W) c0;have x1:=zb (jZ W) c1;have BD:=hi9 (jZ W);clear VS;go_region_held3 (fun w':World=>w'.cell? ⟨w.heap.size+1+1+1+1,0,none⟩=some (.slice none 0 0)∧w'.cell? ⟨w.heap.size+1+1+1+1,1,none⟩=some (.slice (some ⟨w.heap.size+1+1+1,0,none⟩) 1 1)) (first|(with_reducible exact⟨u0,u1⟩)|(with_reducible exact⟨v0,v1⟩)|(with_reducible exact⟨z0,z1⟩)|(with_reducible exact⟨y0,y1⟩)|(with_reducible exact⟨x0,x1⟩)) (first
  |(go_at_call 7;(with_reducible refine(TY.out _ B2.out).mono ?_);rintro e w6 ⟨A6,n6,c6,rfl,hN6,b6⟩;have N6:=hi9 hN6;have B6:=hi9 (bh B0 (bh B2 b6).out).out;have u0:=zb b6 z0;have u1:=zb b6 z1)
  |(go_at_call 11;(with_reducible refine(zjY _ _).mono ?_);rintro e w2 ⟨rfl,b2⟩;have B2:=bh B1 b2;have z0:=zb b2 y0;have z1:=zb b2 y1;have v0:=zb (za w2 (.cells #[.int .i64 17,.int .i64 0,.string ⟨#[]⟩,.string ⟨#[]⟩,.int .i64 2,.int .i64 2,.string ⟨#[]⟩,.string ⟨#[]⟩,.int .i64 2,.int .i64 3,.string ⟨#[]⟩,.string ⟨#[]⟩] 40)) z0;have v1:=zb (za w2 (.cells #[.int .i64 17,.int .i64 0,.string ⟨#[]⟩,.string ⟨#[]⟩,.int .i64 2,.int .i64 2,.string ⟨#[]⟩,.string ⟨#[]⟩,.int .i64 2,.int .i64 3,.string ⟨#[]⟩,.string ⟨#[]⟩] 40)) z1)
  |(go_at_call 11;(with_reducible refine(zjY _ _).mono ?_);rintro e w1 ⟨rfl,b1⟩;have B1:=bh BD b1;have y0:=zb b1 x0;have y1:=zb b1 x1))
 all_goals
  clear u0 u1 v0 v1 z0 z1 y0 y1 x0 x1 c0 c1 B2 B1 BD TY;have bN:=za w6 (.cells #[.int .i64 42,.int .i64 0,.string ⟨#[]⟩,.string ⟨#[]⟩] 40);have B7:=bh B6 bN;have K2:=hi9 ((N6.out.keep bN).same (zeO w6 ⟨42,0,emp,emp⟩ ⟨by decide,by decide,by decide,by decide⟩));rw [decide_eq_true (show z8 [⟨42,0,emp,emp⟩] [⟨42,0,emp,emp⟩]=0 from zcy.self _)] at K2;clear bN;go_wp2_with fail;refine K2.out.mono ?_;rintro e w8 ⟨rfl,b8⟩;have B8:=bh B7 b8;clear b8 B7 B6 K2 N6;go_wp2_with fail;go_ret;exact⟨rfl,B8.out⟩
end Go.Proofs.YtlkfaliomdbaoaaGreatDoor
