/-
  check.Type: the type of an expression, or what is wrong. (gen_chktype.py) What the laws of check ask for first: the sum of two and three is a number. errors.As ..
-/
import Derived.LaidEql
import Derived.Stop.Asserts
import Derived.RowKitTokens
import Derived.SevenTiedAt
import Derived.ChangeSame
import Derived.ChangeVars
import Derived.JoinedOf
import Derived.LaidLaws
import Derived.LaidHandle
import Derived.Stop.Joined
import Derived.Test.YtjcdeikbghjpkaaGreatDoorRows
import Derived.Test.YtjcdeikbghjpkaaGreatDoorCards
import Derived.Test.YtjcdeikbghjpkaaGreatDoorQ5
import Derived.Test.YtjcdeikbghjpkaaGreatDoorQ15
import Derived.Test.YtjcdeikbghjpkaaGreatDoorQ17
import Derived.Test.YtjcdeikbghjpkaaGreatDoorQ25
import Derived.Test.YtjcdeikbghjpkaaGreatDoorQ39
import Derived.Test.YtjcdeikbghjpkaaGreatDoorQ42
import Derived.Test.YtjcdeikbghjpkaaGreatDoorQ44
set_option maxRecDepth 100000
set_option maxHeartbeats 8000000
namespace Go.Proofs.YtjcdeikbghjpkaaGreatDoor
open Go.RowKit Go.Wk Go.Sort
theorem zrj(w:World):Ns w none 0 0 []:=⟨rfl,Nat.le_refl _,Nat.zero_le _,fun k x hx=>by simp at hx,fun x hx=>by cases hx⟩
theorem zlU{w:World}{a:Addr}{n c:Nat}{P:List Nd}(h:Ns w (some a) n c P)(h0:P≠ []):a.block<w.heap.size:=by
 cases P with
 | nil=>exact absurd rfl h0
 | cons y r =>
  obtain⟨b,hb,c0,-⟩:=h.at_ 0 y rfl
  injection hb with hb
  subst hb
  exact block_lt_of_cell c0
theorem zpI{P:List Nd}{k:Kd}(h:Kin P k):P≠ []:=by
 rw [h.e];intro e;have:=jL k;rw [e] at this;exact absurd this (by simp)
theorem zpj{w:World}{A:Option Addr}{n c:Nat}{P:List Nd}(h:Ns w A n c P)(h0:P≠ []):∃a,A=some a:=by
 cases P with
 | nil=>exact absurd rfl h0
 | cons y r =>
  obtain⟨b,hb,-⟩:=h.at_ 0 y rfl
  exact⟨b,hb⟩
def zrL:zb1→Value
 | .ok _ => .nilIface
 | .error u => .iface 28 (.int .i64 u)
def zke(w:World)(r:zb1)(e:Ending)(w':World):Prop:=∃A n c,e = .returned (.tuple #[.slice A n c,zrL r])∧Ns w' A n c (tyV r)∧Below w.heap.size w w'
theorem zev{w w':World}{k:Int}(hb:Below w.heap.size w w'):zke w (.error k) (.returned (.tuple #[.slice none 0 0,.iface 28 (.int .i64 k)])) w':=⟨none,0,0,rfl,zrj w',hb⟩
def zsA(w:World)(s:Sc):World:=((w.alloc (.cells #[.slice s.KA s.kn s.kc,.slice s.AA s.an s.ac] 25)).alloc (.cells #[.slice none 0 0] 26)).alloc (.cells #[.nilIface] 33)
structure Vt(w:World)(b:Nat)(s:Sc):Prop where
 vs:Vs w b s
 cv:w.cell? ⟨b+1,0,none⟩=some (.slice none 0 0)
 ce:w.cell? ⟨b+1+1,0,none⟩=some .nilIface
 zv:w.frozen? ⟨b+1,0,none⟩=false
 ze:w.frozen? ⟨b+1+1,0,none⟩=false
theorem Vt.keep{w w':World}{b:Nat}{s:Sc}(h:Vt w b s)(hb:Below w.heap.size w w'):Vt w' b s :=
 ⟨h.vs.keep hb,zb hb h.cv,zb hb h.ce,(hb.frozen (p:=⟨b+1,0,none⟩) (block_lt_of_cell h.cv)).trans h.zv,(hb.frozen (p:=⟨b+1+1,0,none⟩) (block_lt_of_cell h.ce)).trans h.ze⟩
theorem znz(w:World)(s:Sc):Below w.heap.size w (zsA w s):=
 (za w _).trans (((za _ _).mono (by simp)).trans ((za _ _).mono (by simp;omega)))
theorem zp5(w:World)(s:Sc):Vt (zsA w s) w.heap.size s:=by
 have h1:=zb9 w s 25;have h2:=(h1.keep (za _ (.cells #[.slice none 0 0] 26))).keep (za _ (.cells #[.nilIface] 33));refine⟨h2,?_,?_,?_,?_⟩
 ·have:=zb (za _ (.cells #[.nilIface] 33)) (zx (heap_alloc_last (w.alloc (.cells #[.slice s.KA s.kn s.kc,.slice s.AA s.an s.ac] 25)) (.cells #[.slice none 0 0] 26)) (k:=0) (u := .slice none 0 0) rfl);rw [World.size_alloc] at this;exact this
 ·have:=zx (heap_alloc_last ((w.alloc (.cells #[.slice s.KA s.kn s.kc,.slice s.AA s.an s.ac] 25)).alloc (.cells #[.slice none 0 0] 26)) (.cells #[.nilIface] 33)) (k:=0) (u := .nilIface) rfl;rw [World.size_alloc,World.size_alloc] at this;exact this
 ·have ha:(w.alloc (.cells #[.slice s.KA s.kn s.kc,.slice s.AA s.an s.ac] 25)).heap.size=w.heap.size+1:=by simp
  exact((za _ _).frozen (p:=⟨w.heap.size+1,0,none⟩) (by simp)).trans (World.frozen?_alloc_at _ _ _ _ ha.symm)
 ·have ha:((w.alloc (.cells #[.slice s.KA s.kn s.kc,.slice s.AA s.an s.ac] 25)).alloc (.cells #[.slice none 0 0] 26)).heap.size=w.heap.size+1+1:=by simp
  exact World.frozen?_alloc_at _ _ _ _ ha.symm
theorem zcx{w:World}{b:Nat}{s:Sc}(h:Vt w b s)(x y:Value):((w.setCell ⟨b+1,0,none⟩ x).setCell ⟨b+1+1,0,none⟩ y).cell? ⟨b+1,0,none⟩=some x∧((w.setCell ⟨b+1,0,none⟩ x).setCell ⟨b+1+1,0,none⟩ y).cell? ⟨b+1+1,0,none⟩=some y :=
 ⟨(World.cell?_setCell_other _ _ _ _ (by intro e;injection e with e;omega)).trans (World.cell?_setCell_same w _ _ h.cv),World.cell?_setCell_same _ _ _ ((World.cell?_setCell_other w _ _ _ (by intro e;injection e with e;omega)).trans h.ce)⟩
theorem zhy(s:Sc)(who act what:ByteArray)(A:Option Addr)(n c:Nat)(P:List Nd)(w:World)(hs:zcO w s)(h1:who.size≤maxLen)(h3:what.size≤maxLen)(hP:Ns w A n c P):
 Calls Tryz.prog 6 #[s.v,.string who,.string act,.string what,.slice A n c] w (zke w (zcD s.k s.a who act what P)):=by
 have C1:=hi9 (fun w' (hb:Below w.heap.size w w')=>zki s w' (hs.keep hb));have C3:=hi9 (fun w' (hb:Below w.heap.size w w')=>zmS A n c P w' (hP.keep hb));have C4:=hi9 (fun w' (hb:Below w.heap.size w w')=>znh s act w' (hs.keep hb));have HS:=hi9 hs;have HP:=hi9 hP;have HW:=hi9 (And.intro h1 h3);obtain⟨RR,hRR⟩:∃RR,RR=zcD s.k s.a who act what P:=⟨_,rfl⟩
 rw [←hRR];have HRR:=hi9 hRR;have HX1:=hi9 (show zaa s.k s.a≠0→RR = .error (zaa s.k s.a) from fun h=>by have h0:=zB (y:=zT P) h;rw [hRR,zdd (by rw [h0];exact h),h0]);have HX2:=hi9 (show zaa s.k s.a=0→zT P≠0→RR = .error (zT P) from fun h g=>by rw [hRR,zdd (by rw [h,zs];exact g),h,zs]);have HX3:=hi9 (show zaa s.k s.a=0→zT P=0→zbx s.a act=none→RR = .error 3 from fun h g e=>by rw [hRR,zeX (jk.2 ⟨h,g⟩) e]);have HX4:=hi9 (show zaa s.k s.a=0→zT P=0→∀a,zbx s.a act=some a→¬(jS a.who who && jS a.what what)=true→RR = .error 2 from fun h g a e hh=>by rw [hRR,zgn (jk.2 ⟨h,g⟩) e hh]);have HX5:=hi9 (show zaa s.k s.a=0→zT P=0→∀a,zbx s.a act=some a→(jS a.who who && jS a.what what)=true→∃x:Ex,x.valid false∧P=x.flat∧P.length≤200∧zcF ⟨s.k,a,who,what⟩∧RR=tyX ⟨s.k,a,who,what⟩ x [] from fun h g a e hh=>by
  obtain⟨hl,x,hx,hPx⟩:=zcd.1 g
  exact⟨x,hx,hPx,hl,zpV h (List.mem_of_find?_eq_some e) hh,by rw [hRR,zfK (jk.2 ⟨h,g⟩) e hh hx hPx]⟩)
 unfold Sc.v at C1 C4 ⊢;generalize zaa s.k s.a=f1 at *;generalize zT P=f3 at *;have B0:=hi9 (znz w s);have V0:=hi9 (zp5 w s);unfold zsA at B0 V0;have hmf:∀(fn:Fn) (first cap:Array Value) (w:World),(Instr.makeFunc fn first cap).run Tryz.prog w = .ok (.func fn first cap) w:=fun _ _ _ _=>rfl;clear hs hP h1 h3 hRR;go_enter_defers Tryz.func6,Tryz.ntmps6;go_wp2_with fail;refine(C1.out _ B0.out).mono ?_;rintro e w1 ⟨rfl,b1⟩;have B1:=bh B0 b1;have V1:=hi9 (V0.out.keep b1);clear b1 B0 V0 C1;by_cases q1:f1=0
 case neg =>
  rw [jc q1];obtain⟨-,cv,ce,zv,ze⟩:=V1.out;have hl1:=block_lt_of_cell cv;have hl2:=block_lt_of_cell ce;obtain⟨p1,p2⟩:=zcx V1.out (.slice none 0 0) (.iface 28 (.int .i64 f1));have BB:=hi9 ((B1.out.setCell (p:=⟨w.heap.size+1,0,none⟩) (Nat.le_succ _) (.slice none 0 0)).setCell (p:=⟨w.heap.size+1+1,0,none⟩) (Nat.le_succ_of_le (Nat.le_succ _)) (.iface 28 (.int .i64 f1)));have HT:=hi9 (zev (k:=f1) BB.out);have HR:=hi9 (HX1.out q1);clear HX1 HX2 HX3 HX4;clear HX5 C3 C4;go_wp2_with fail;simp [bodyPostD,Leaves,results,Tryz.results6,go_sem,cv,ce];rw [HR.out];exact HT.out
 rw [q1,zM];go_wp2_with fail;refine(C3.out _ B1.out).mono ?_;rintro e w2 ⟨rfl,b2⟩;have B2:=bh B1 b2;have V2:=hi9 (V1.out.keep b2);clear b2 B1 V1 C3;by_cases q2:f3=0
 case neg =>
  rw [jc q2];obtain⟨-,cv,ce,zv,ze⟩:=V2.out;have hl1:=block_lt_of_cell cv;have hl2:=block_lt_of_cell ce;obtain⟨p1,p2⟩:=zcx V2.out (.slice none 0 0) (.iface 28 (.int .i64 f3));have BB:=hi9 ((B2.out.setCell (p:=⟨w.heap.size+1,0,none⟩) (Nat.le_succ _) (.slice none 0 0)).setCell (p:=⟨w.heap.size+1+1,0,none⟩) (Nat.le_succ_of_le (Nat.le_succ _)) (.iface 28 (.int .i64 f3)));have HT:=hi9 (zev (k:=f3) BB.out);have HR:=hi9 (HX2.out q1 q2);clear HX1 HX2 HX3 HX4;clear HX5 C4;go_wp2_with fail;simp [bodyPostD,Leaves,results,Tryz.results6,go_sem,cv,ce];rw [HR.out];exact HT.out
 rw [q2,zM];obtain⟨⟨c0,c1⟩,-,-,-,-⟩:=V2.out;go_wp2_with fail;refine(C4.out _ B2.out).mono ?_;rintro e w3 ⟨hc,b3⟩;have B3:=bh B2 b3;have V3:=hi9 (V2.out.keep b3);clear b3 B2 V2 C4 c0 c1;rcases hc with ⟨ha,rfl⟩|⟨i,hi,ha,rfl⟩
 ·obtain⟨-,cv,ce,zv,ze⟩:=V3.out;have hl1:=block_lt_of_cell cv;have hl2:=block_lt_of_cell ce;obtain⟨p1,p2⟩:=zcx V3.out (.slice none 0 0) (.iface 28 (.int .i64 3));have BB:=hi9 ((B3.out.setCell (p:=⟨w.heap.size+1,0,none⟩) (Nat.le_succ _) (.slice none 0 0)).setCell (p:=⟨w.heap.size+1+1,0,none⟩) (Nat.le_succ_of_le (Nat.le_succ _)) (.iface 28 (.int .i64 3)));have BX:=za ((w3.setCell ⟨w.heap.size+1,0,none⟩ (.slice none 0 0)).setCell ⟨w.heap.size+1+1,0,none⟩ (.iface 28 (.int .i64 3))) (.cells #[.string ⟨#[]⟩,.slice none 0 0,.slice none 0 0,.slice none 0 0] 43);have p3:=zb BX p1;have p4:=zb BX p2;have HT:=hi9 (zev (k:=3) (bh BB BX).out);have HR:=hi9 (HX3.out q1 q2 ha);clear HX1 HX2 HX3 HX4;clear HX5;go_wp2_with fail;simp [bodyPostD,Leaves,results,Tryz.results6,go_sem,p3,p4];rw [HR.out];exact HT.out
 obtain⟨_,-,-,-,-,-,hA⟩:=HS.out.a.at_ i s.L[i] (List.getElem?_eq_getElem hi);have HA:=hi9 ha;have HAN:=hi9 hA;clear ha hA;generalize s.L[i]=x at *;obtain⟨d,WA,wn,wc,TA,tn,tc,NA,nn,nc⟩:=x;dsimp only at HA;have CW:=hi9 (fun w' (hb:Below w.heap.size w w')=>zeV WA wn wc d.who who w' (HAN.out.ws.keep hb));have CT:=hi9 (fun w' (hb:Below w.heap.size w w')=>zeV TA tn tc d.what what w' (HAN.out.ts.keep hb));obtain⟨a0,a1,a2,a3⟩:=zbe w3 (.string d.id) (.slice WA wn wc) (.slice TA tn tc) (.slice NA nn nc) 43;have bA:=za w3 (.cells #[.string d.id,.slice WA wn wc,.slice TA tn tc,.slice NA nn nc] 43);have B4:=bh B3 bA;have V4:=hi9 (V3.out.keep bA);clear bA B3 V3;go_wp2_with fail;refine(CW.out _ B4.out).mono ?_;rintro e w5 ⟨rfl,b5⟩;have B5:=bh B4 b5;have V5:=hi9 (V4.out.keep b5);replace a0:=zb b5 a0;replace a1:=zb b5 a1;replace a2:=zb b5 a2;replace a3:=zb b5 a3;clear b5 B4 V4 CW;rcases g1:jS d.who who with _|_
 ·obtain⟨-,cv,ce,zv,ze⟩:=V5.out;have hl1:=block_lt_of_cell cv;have hl2:=block_lt_of_cell ce;obtain⟨p1,p2⟩:=zcx V5.out (.slice none 0 0) (.iface 28 (.int .i64 2));have BB:=hi9 ((B5.out.setCell (p:=⟨w.heap.size+1,0,none⟩) (Nat.le_succ _) (.slice none 0 0)).setCell (p:=⟨w.heap.size+1+1,0,none⟩) (Nat.le_succ_of_le (Nat.le_succ _)) (.iface 28 (.int .i64 2)));have HT:=hi9 (zev (k:=2) BB.out);have HR:=hi9 (HX4.out q1 q2 _ HA.out (by rw [g1];simp));clear HX1 HX2 HX3 HX4;clear HX5 CT a0 a1 a2 a3;go_wp2_with fail;simp [bodyPostD,Leaves,results,Tryz.results6,go_sem,cv,ce];rw [HR.out];exact HT.out
 go_wp2_with fail;refine(CT.out _ B5.out).mono ?_;rintro e w6 ⟨rfl,b6⟩;have B6:=bh B5 b6;have V6:=hi9 (V5.out.keep b6);replace a0:=zb b6 a0;replace a1:=zb b6 a1;replace a2:=zb b6 a2;replace a3:=zb b6 a3;clear b6 B5 V5 CT;rcases g2:jS d.what what with _|_
 ·obtain⟨-,cv,ce,zv,ze⟩:=V6.out;have hl1:=block_lt_of_cell cv;have hl2:=block_lt_of_cell ce;obtain⟨p1,p2⟩:=zcx V6.out (.slice none 0 0) (.iface 28 (.int .i64 2));have BB:=hi9 ((B6.out.setCell (p:=⟨w.heap.size+1,0,none⟩) (Nat.le_succ _) (.slice none 0 0)).setCell (p:=⟨w.heap.size+1+1,0,none⟩) (Nat.le_succ_of_le (Nat.le_succ _)) (.iface 28 (.int .i64 2)));have HT:=hi9 (zev (k:=2) BB.out);have HR:=hi9 (HX4.out q1 q2 _ HA.out (by rw [g1,g2];simp));clear HX1 HX2 HX3 HX4;clear HX5 a0 a1 a2 a3;go_wp2_with fail;simp [bodyPostD,Leaves,results,Tryz.results6,go_sem,cv,ce];rw [HR.out];exact HT.out
 obtain⟨x,hx,hPx,hl,hst,hrr⟩:=HX5.out q1 q2 _ HA.out (by rw [g1,g2];rfl);clear HX1 HX2 HX3 HX4 HX5 HRR;obtain⟨⟨c0,c1⟩,-,-,-,-⟩:=V6.out;have HXO:=hi9 (fun w' (hb:Below w.heap.size w w')=>(⟨HS.out.keep hb,HAN.out.keep hb,HW.out.1,HW.out.2,hst,hb.size,fun a e=>zlU (by have:=HAN.out.ns;rw [show NA=some a from e] at this;exact this) (zpI hst.ctx.choose_spec),fun y hy a e=>by
  obtain⟨k,hk,rfl⟩:=List.getElem_of_mem hy
  obtain⟨_,-,-,-,-,hKN⟩:=HS.out.k.at_ k s.K[k] (List.getElem?_eq_getElem hk)
  have h0:=hKN.ns
  rw [e] at h0
  obtain⟨f,hf⟩:=hst.kds s.K[k].d (List.mem_map.2 ⟨s.K[k],hy,rfl⟩)
  exact zlU h0 (zpI hf)⟩:zft w' ⟨s,who,what,⟨d,WA,wn,wc,TA,tn,tc,NA,nn,nc⟩,w.heap.size⟩))
 have KX:=hi9 (fun w' (hb:Below w.heap.size w w')=>zfx ⟨s,who,what,⟨d,WA,wn,wc,TA,tn,tc,NA,nn,nc⟩,w.heap.size⟩ 4000 A n c x none [] w' (HXO.out w' hb) (by rw [←hPx];exact HP.out.keep hb) (by have:=HP.out.len;omega) hx (by have:=HP.out.len;omega) rfl);have HOK:=hi9 (zc2 hst x false [] hx);unfold Xs.v Xs.t at KX;dsimp only at KX;generalize tyX ⟨s.k,d,who,what⟩ x []=rr at *;have HRQ:=hi9 hrr;clear HXO HS HAN HP HW hst hx hPx hl hrr HA;go_wp2_with fail;have bX:=za w6 (.cells #[.slice s.KA s.kn s.kc,.slice s.AA s.an s.ac,.string who,.string what,.string d.id,.slice WA wn wc,.slice TA tn tc,.slice NA nn nc] 59);have B7:=bh B6 bX;have V7:=hi9 (V6.out.keep bX);have K:=hi9 (KX.out _ B7.out);clear bX KX B6 V6 c0 c1 a0 a1 a2 a3;rcases rr with u|k
 ·refine K.out.mono ?_;intro e w8 h8;obtain⟨rfl,b8⟩:=zbF h8;have B8:=bh B7 b8;have V8:=hi9 (V7.out.keep b8);clear h8 b8 K B7 V7;obtain⟨-,cv,ce,zv,ze⟩:=V8.out;have hl1:=block_lt_of_cell cv;have hl2:=block_lt_of_cell ce;go_wp2_with fail;refine leaves_cons (f:=20) (args:=#[.pointer (some ⟨w.heap.size+1,0,none⟩),.pointer (some ⟨w.heap.size+1+1,0,none⟩)]) (by simp) (by simp [go_sem]) ?_;refine(zl3 (w.heap.size+1) (w.heap.size+1+1) u _ _ [] w8 cv zv ce ze (by omega)).mono ?_;rintro e u' w9 ⟨rfl,rfl,rfl⟩;obtain⟨p1,p2⟩:=zcx V8.out (.slice none 0 0) (.iface 28 (.int .i64 u));have BB:=(B8.out.setCell (p:=⟨w.heap.size+1,0,none⟩) (Nat.le_succ _) (.slice none 0 0)).setCell (p:=⟨w.heap.size+1+1,0,none⟩) (Nat.le_succ_of_le (Nat.le_succ _)) (.iface 28 (.int .i64 u));have HT:=zev (k:=u) BB;simp [Leaves,settle,results,Tryz.results6,go_sem,p1,p2];rw [HRQ.out];exact HT
 ·have hk:k.flat.length≤200:=by have:=HOK.out.2;rw [jd];exact this
  have hk0:k.flat≠ []:=fun e=>by have:=jL k;rw [e] at this;exact absurd this (by simp)
  have HFV:=hi9 (show∃V,V=k.flat from⟨_,rfl⟩);refine K.out.mono ?_;intro e w8 h8;obtain⟨A4,n4,c4,rfl,N4,b8,-⟩:=zaA h8;have B8:=bh B7 b8;have V8:=hi9 (V7.out.keep b8);obtain⟨a4,rfl⟩:=zpj N4 hk0;have K2:=hi9 (znu a4 n4 c4 k.flat w8 N4 (by omega));unfold zsh at K2;clear h8 b8 K B7 V7 N4 hk hk0 HFV;go_wp2_with fail;refine K2.out.mono ?_;rintro e w5 ⟨A5,c5,rfl,N5,F5,b5⟩;have V5:=hi9 (V8.out.keep b5);have B5:=bh B8 b5;have HN5:=hi9 N5;obtain⟨-,cv0,ce0,-,-⟩:=V8.out;have hl3:=block_lt_of_cell cv0;have hl4:=block_lt_of_cell ce0;have HF5:=hi9 (show∀a,A5=some a→w.heap.size+1+1<a.block from fun a e=>Nat.lt_of_lt_of_le hl4 (F5 a e));obtain⟨-,cv,ce,zv,ze⟩:=V5.out;have hl1:=block_lt_of_cell cv;have hl2:=block_lt_of_cell ce;have HVK:=hi9 (show tyV (.ok k)=k.flat from rfl);obtain⟨vl,hvl⟩:∃vl,vl=k.flat.length:=⟨_,rfl⟩
  rw [←hvl] at HN5 ⊢;obtain⟨p1,p2⟩:=zcx V5.out (.slice A5 vl c5) .nilIface;have N6:=hi9 ((HN5.out.but (zg w5 ⟨w.heap.size+1,0,none⟩ (.slice A5 vl c5)) (fun _ a e=>by have:=HF5.out a e;show a.block≠w.heap.size+1;omega)).but (zg _ ⟨w.heap.size+1+1,0,none⟩ .nilIface) (fun _ a e=>by have:=HF5.out a e;show a.block≠w.heap.size+1+1;omega));have BB:=hi9 ((B5.out.setCell (p:=⟨w.heap.size+1,0,none⟩) (Nat.le_succ _) (.slice A5 vl c5)).setCell (p:=⟨w.heap.size+1+1,0,none⟩) (Nat.le_succ_of_le (Nat.le_succ _)) .nilIface);clear b5 N5 F5 V8 B8 K2 cv0 ce0 hl3 hl4 hvl;go_wp2_with fail;refine leaves_cons (f:=20) (args:=#[.pointer (some ⟨w.heap.size+1,0,none⟩),.pointer (some ⟨w.heap.size+1+1,0,none⟩)]) (by simp) (by simp [go_sem]) ?_;refine(zoh ⟨w.heap.size+1,0,none⟩ ⟨w.heap.size+1+1,0,none⟩ _).mono ?_;rintro e u' w6 ⟨rfl,rfl,rfl⟩;simp [Leaves,settle,results,Tryz.results6,go_sem,p1,p2];rw [HRQ.out];exact⟨A5,vl,c5,rfl,N6.out,BB.out⟩
end Go.Proofs.YtjcdeikbghjpkaaGreatDoor
namespace Go.Wk
def zes:ByteArray:=⟨#[65]⟩
def zkD:ByteArray:=⟨#[115,101,101]⟩
def zhw:AD:=⟨zkD,[zes],[zes],[⟨46,0,emp,emp⟩]⟩
def zrg:Ex := .node ⟨17,0,emp,emp⟩ (.cons (.node ⟨2,2,emp,emp⟩ .nil) (.cons (.node ⟨2,3,emp,emp⟩ .nil) .nil))
theorem zq3:zcD [] [zhw] zes zkD zes [⟨17,0,emp,emp⟩,⟨2,2,emp,emp⟩,⟨2,3,emp,emp⟩] = .ok (.base 42):=by
 have v:zrg.valid false:=⟨by decide,by decide,fun e=>Bool.noConfusion e,⟨by decide,by decide,trivial⟩,fun e=>Bool.noConfusion e,⟨by decide,by decide,trivial⟩,trivial⟩
 have e : [⟨17,0,emp,emp⟩,⟨2,2,emp,emp⟩,⟨2,3,emp,emp⟩]=zrg.flat:=rfl;have h1:zaa [] [zhw]=0:=by decide +kernel
 rw [zfK (a:=zhw) (jk.2 ⟨h1,zcd.2 ⟨by decide,zrg,v,e⟩⟩) (by rfl) (by decide) v e];unfold zrg;have h2:∀k:Int,tyX ⟨[],zhw,zes,zes⟩ (.node ⟨2,k,emp,emp⟩ .nil) [] = .ok (.base 42):=fun k=>by
  rw [tyX];rfl
 rw [tyX];simp only [tyS,h2];rfl
end Go.Wk
namespace Go.Proofs.YtjcdeikbghjpkaaGreatDoor
open Go.RowKit Go.Wk Go.Sort
theorem zlO(n:Int)(w:World):Calls Tryz.prog 9 #[.int .i64 n] w fun e w'=>e = .returned (.agg #[.int .i64 2,.int .i64 n,.string ⟨#[]⟩,.string ⟨#[]⟩])∧Below w.heap.size w w':=by
 go_enter Tryz.func9,Tryz.ntmps9;go_wp2_with fail;exact⟨rfl,.agg #[.int .i64 2,.int .i64 n,.string ⟨#[]⟩,.string ⟨#[]⟩],by simp [results,Tryz.results9,go_sem],rfl,za w _⟩
theorem zlN(w:World)(s:ByteArray)(t:TypeId)(h:s.size≤maxLen):Txs (w.alloc (.cells #[.string s] t)) (some ⟨w.heap.size,0,none⟩) 1 1 [s] :=
 ⟨rfl,Nat.le_refl _,by unfold maxLen;omega,fun k x hx=>by
  match k,hx with
  | 0,hx=>injection hx with hx;subst hx;exact⟨_,rfl,zx (heap_alloc_last w _) rfl⟩,fun x hx=>by simp only [List.mem_cons,List.not_mem_nil,or_false] at hx;subst hx;exact h⟩
def tO1:Obj := .cells #[.string zes] 9
def tO3:Obj := .cells #[.int .i64 46,.int .i64 0,.string emp,.string emp] 41
def tO4(b:Nat):Obj := .cells #[.string zkD,.slice (some ⟨b,0,none⟩) 1 1,.slice (some ⟨b+1,0,none⟩) 1 1,.slice (some ⟨b+1+1,0,none⟩) 1 1] 43
def tO5(b:Nat):Obj := .cells #[.slice none 0 0,.slice (some ⟨b+1+1+1,0,none⟩) 1 1] 25
def tW(w:World):World:=((((w.alloc tO1).alloc tO1).alloc tO3).alloc (tO4 w.heap.size)).alloc (tO5 w.heap.size)
def tS(b:Nat):Sc:=⟨none,0,0,[],some ⟨b+1+1+1,0,none⟩,1,1,[⟨zhw,some ⟨b,0,none⟩,1,1,some ⟨b+1,0,none⟩,1,1,some ⟨b+1+1,0,none⟩,1,1⟩]⟩
theorem ztk(w:World):Below w.heap.size w (tW w)∧zcO (tW w) (tS w.heap.size):=by
 have z1:(w.alloc tO1).heap.size=w.heap.size+1:=by simp
 have z2:((w.alloc tO1).alloc tO1).heap.size=w.heap.size+1+1:=by simp
 have z3:(((w.alloc tO1).alloc tO1).alloc tO3).heap.size=w.heap.size+1+1+1:=by simp
 have b1:=za w tO1;have b2:=za (w.alloc tO1) tO1;have b3:=za ((w.alloc tO1).alloc tO1) tO3;have b4:=za (((w.alloc tO1).alloc tO1).alloc tO3) (tO4 w.heap.size);have b5:=za ((((w.alloc tO1).alloc tO1).alloc tO3).alloc (tO4 w.heap.size)) (tO5 w.heap.size);have t1:Txs (w.alloc tO1) (some ⟨w.heap.size,0,none⟩) 1 1 [zes]:=zlN w zes _ (by decide);have t2:Txs ((w.alloc tO1).alloc tO1) (some ⟨w.heap.size+1,0,none⟩) 1 1 [zes]:=by
  have h:=zlN (w.alloc tO1) zes 9 (by decide);rw [z1] at h;exact h
 have t3:Ns (((w.alloc tO1).alloc tO1).alloc tO3) (some ⟨w.heap.size+1+1,0,none⟩) 1 1 [⟨46,0,emp,emp⟩]:=by
  have h:=zcN ((w.alloc tO1).alloc tO1) ⟨46,0,emp,emp⟩ ⟨by decide,by decide,by decide,by decide⟩;rw [z2] at h;exact h
 have a0:((((w.alloc tO1).alloc tO1).alloc tO3).alloc (tO4 w.heap.size)).cell? ⟨w.heap.size+1+1+1,0,none⟩=some (.string zkD):=by rw [←z3];exact zx (heap_alloc_last _ _) rfl
 have a1:((((w.alloc tO1).alloc tO1).alloc tO3).alloc (tO4 w.heap.size)).cell? ⟨w.heap.size+1+1+1,1,none⟩=some (.slice (some ⟨w.heap.size,0,none⟩) 1 1):=by rw [←z3];exact zx (heap_alloc_last _ _) rfl
 have a2:((((w.alloc tO1).alloc tO1).alloc tO3).alloc (tO4 w.heap.size)).cell? ⟨w.heap.size+1+1+1,2,none⟩=some (.slice (some ⟨w.heap.size+1,0,none⟩) 1 1):=by rw [←z3];exact zx (heap_alloc_last _ _) rfl
 have a3:((((w.alloc tO1).alloc tO1).alloc tO3).alloc (tO4 w.heap.size)).cell? ⟨w.heap.size+1+1+1,3,none⟩=some (.slice (some ⟨w.heap.size+1+1,0,none⟩) 1 1):=by rw [←z3];exact zx (heap_alloc_last _ _) rfl
 refine⟨?_,⟨⟨rfl,Nat.le_refl _,Nat.zero_le _,fun k x hx=>by cases hx⟩,⟨rfl,Nat.le_refl _,by unfold maxLen;show 1≤_;omega,fun k x hx=>?_⟩⟩⟩
 ·exact b1.trans (((b2.mono b1.size)).trans ((b3.mono (by omega)).trans ((b4.mono (by omega)).trans (b5.mono (by simp;omega)))))
 ·match k,hx with
  | 0,hx =>
   injection hx with hx
   subst hx
   exact⟨_,rfl,zb b5 a0,zb b5 a1,zb b5 a2,zb b5 a3,(by show zkD.size≤maxLen;decide),(((t1.keep b2).keep b3).keep b4).keep b5,((t2.keep b3).keep b4).keep b5,(t3.keep b4).keep b5⟩
theorem zs6(w:World):Vs (tW w) (w.heap.size+1+1+1+1) (tS w.heap.size):=by
 have h:=zb9 ((((w.alloc tO1).alloc tO1).alloc tO3).alloc (tO4 w.heap.size)) (tS w.heap.size) 25;rw [show((((w.alloc tO1).alloc tO1).alloc tO3).alloc (tO4 w.heap.size)).heap.size=w.heap.size+1+1+1+1 by simp] at h;exact h
theorem zs2(w:World):Ns (w.alloc (.cells #[.int .i64 17,.int .i64 0,.string ⟨#[]⟩,.string ⟨#[]⟩,.int .i64 2,.int .i64 2,.string ⟨#[]⟩,.string ⟨#[]⟩,.int .i64 2,.int .i64 3,.string ⟨#[]⟩,.string ⟨#[]⟩] 41)) (some ⟨w.heap.size,0,none⟩) 3 3 [⟨17,0,emp,emp⟩,⟨2,2,emp,emp⟩,⟨2,3,emp,emp⟩] :=
 ⟨rfl,Nat.le_refl _,by unfold maxLen;omega,znQ w [⟨17,0,emp,emp⟩,⟨2,2,emp,emp⟩,⟨2,3,emp,emp⟩] _,by intro x hx;simp only [List.mem_cons,List.not_mem_nil,or_false] at hx;rcases hx with rfl|rfl|rfl <;> exact⟨by decide,by decide,by decide,by decide⟩⟩
theorem zm2(b:Nat)(w:World)(h:zcO w (tS b)):
 Calls Tryz.prog 6 #[.agg #[.slice none 0 0,.slice (some ⟨b+1+1+1,0,none⟩) 1 1],.string ⟨#[65]⟩,.string ⟨#[115,101,101]⟩,.string ⟨#[65]⟩,.slice (some ⟨w.heap.size,0,none⟩) 3 3] (w.alloc (.cells #[.int .i64 17,.int .i64 0,.string ⟨#[]⟩,.string ⟨#[]⟩,.int .i64 2,.int .i64 2,.string ⟨#[]⟩,.string ⟨#[]⟩,.int .i64 2,.int .i64 3,.string ⟨#[]⟩,.string ⟨#[]⟩] 41)) fun e w' =>
  ∃A n c,e = .returned (.tuple #[.slice A n c,.nilIface])∧Ns w' A n c [⟨42,0,emp,emp⟩]∧Below w.heap.size w w':=by
 have bb:=za w (.cells #[.int .i64 17,.int .i64 0,.string ⟨#[]⟩,.string ⟨#[]⟩,.int .i64 2,.int .i64 2,.string ⟨#[]⟩,.string ⟨#[]⟩,.int .i64 2,.int .i64 3,.string ⟨#[]⟩,.string ⟨#[]⟩] 41);have K:=zhy (tS b) zes zkD zes _ 3 3 _ _ (h.keep bb) (by decide) (by decide) (zs2 w);rw [show zcD (tS b).k (tS b).a zes zkD zes [⟨17,0,emp,emp⟩,⟨2,2,emp,emp⟩,⟨2,3,emp,emp⟩] = .ok (.base 42) from zq3] at K;exact K.mono fun e w' ⟨A,n,c,h1,h2,h3⟩=>⟨A,n,c,h1,h2,bb.trans (h3.mono bb.size)⟩
theorem zoA(w:World):Calls Tryz.prog 4 #[] w fun e w'=>e = .returned (.bool true)∧Below w.heap.size w w':=by
 have h0:=ztk w;have B0:=hi9 h0.1;have S0:=hi9 h0.2;unfold tW tO1 tO3 tO4 tO5 zes zkD emp at B0 S0;clear h0;go_enter Tryz.func4,Tryz.ntmps4;go_wp2_with fail;have VS:=hi9 (show Vs _ (w.heap.size+1+1+1+1) (tS w.heap.size) from zs6 w);unfold tW tO1 tO3 tO4 tO5 zes zkD emp tS at VS;obtain⟨W,hW⟩:∃W,W=(((((w.alloc (.cells #[.string ⟨#[65]⟩] 9)).alloc (.cells #[.string ⟨#[65]⟩] 9)).alloc (.cells #[.int .i64 46,.int .i64 0,.string ⟨#[]⟩,.string ⟨#[]⟩] 41)).alloc (.cells #[.string ⟨#[115,101,101]⟩,.slice (some ⟨w.heap.size,0,none⟩) 1 1,.slice (some ⟨w.heap.size+1,0,none⟩) 1 1,.slice (some ⟨w.heap.size+1+1,0,none⟩) 1 1] 43)).alloc (.cells #[.slice none 0 0,.slice (some ⟨w.heap.size+1+1+1,0,none⟩) 1 1] 25)):=⟨_,rfl⟩
 rw [←hW] at B0 S0 VS ⊢;have TY:=hi9 (fun w' (hb:Below W.heap.size W w')=>zm2 w.heap.size w' (S0.out.keep hb));clear hW S0;obtain⟨c0,c1⟩:=VS.out;have x0:=zb (zaN W) c0;have x1:=zb (zaN W) c1;have BD:=hi9 (zaN W);clear VS;go_region_held3 (fun w':World=>w'.cell? ⟨w.heap.size+1+1+1+1,0,none⟩=some (.slice none 0 0)∧w'.cell? ⟨w.heap.size+1+1+1+1,1,none⟩=some (.slice (some ⟨w.heap.size+1+1+1,0,none⟩) 1 1)) (first|(with_reducible exact⟨u0,u1⟩)|(with_reducible exact⟨v0,v1⟩)|(with_reducible exact⟨z0,z1⟩)|(with_reducible exact⟨y0,y1⟩)|(with_reducible exact⟨x0,x1⟩)) (first
  |(go_at_call 6;(with_reducible refine(TY.out _ B2.out).mono ?_);rintro e w6 ⟨A6,n6,c6,rfl,hN6,b6⟩;have N6:=hi9 hN6;have B6:=hi9 (bh B0 (bh B2 b6).out).out;have u0:=zb b6 z0;have u1:=zb b6 z1)
  |(go_at_call 9;(with_reducible refine(zlO _ _).mono ?_);rintro e w2 ⟨rfl,b2⟩;have B2:=bh B1 b2;have z0:=zb b2 y0;have z1:=zb b2 y1;have v0:=zb (za w2 (.cells #[.int .i64 17,.int .i64 0,.string ⟨#[]⟩,.string ⟨#[]⟩,.int .i64 2,.int .i64 2,.string ⟨#[]⟩,.string ⟨#[]⟩,.int .i64 2,.int .i64 3,.string ⟨#[]⟩,.string ⟨#[]⟩] 41)) z0;have v1:=zb (za w2 (.cells #[.int .i64 17,.int .i64 0,.string ⟨#[]⟩,.string ⟨#[]⟩,.int .i64 2,.int .i64 2,.string ⟨#[]⟩,.string ⟨#[]⟩,.int .i64 2,.int .i64 3,.string ⟨#[]⟩,.string ⟨#[]⟩] 41)) z1)
  |(go_at_call 9;(with_reducible refine(zlO _ _).mono ?_);rintro e w1 ⟨rfl,b1⟩;have B1:=bh BD b1;have y0:=zb b1 x0;have y1:=zb b1 x1))
 all_goals
  clear u0 u1 v0 v1 z0 z1 y0 y1 x0 x1 c0 c1 B2 B1 BD TY;have bN:=za w6 (.cells #[.int .i64 42,.int .i64 0,.string ⟨#[]⟩,.string ⟨#[]⟩] 41);have B7:=bh B6 bN;have K2:=hi9 ((N6.out.keep bN).same (zcN w6 ⟨42,0,emp,emp⟩ ⟨by decide,by decide,by decide,by decide⟩));rw [decide_eq_true (show zW [⟨42,0,emp,emp⟩] [⟨42,0,emp,emp⟩]=0 from zdX.self _)] at K2;clear bN;go_wp2_with fail;refine K2.out.mono ?_;rintro e w8 ⟨rfl,b8⟩;have B8:=bh B7 b8;clear b8 B7 B6 K2 N6;go_wp2_with fail;go_ret;exact⟨rfl,B8.out⟩
end Go.Proofs.YtjcdeikbghjpkaaGreatDoor
namespace Go.Proofs.YtjcdeikbghjpkaaGreatDoor
open Go.RowKit Go.Extern.Stop Go.Stop Go.Extern
theorem zp4(t:Addr)(w:World):(ReflectliteValue.unpack (.iface 104 (.pointer (some t)))).run Tryz.prog w
 = .ok (.agg #[.pointer (some ⟨2,104,none⟩),.pointer (some ⟨w.heap.size,0,none⟩),.int .u64 150]) (w.alloc (.cells #[.pointer (some t)] 104)):=by kernel_rfl
theorem zs7(a:Addr)(w:World):(ReflectliteValue.methodAny (ReflectliteValue.valueError "reflectlite.Value.Type" 0) (fun t _ _ _=>ReflectliteType.toType t) #[.agg #[.pointer (some ⟨2,104,none⟩),.pointer (some a),.int .u64 150]]).run Tryz.prog w
 = .ok (.iface 177 (.agg #[.pointer (some ⟨2,104,none⟩)])) w:=by kernel_rfl
theorem znw(h:Value)(w:World):(Go.method 440 177 (.agg #[h]) "Kind").run Tryz.prog w = .ok (198,h) w:=by kernel_rfl
theorem ztl(w:World):((ReflectliteType.abiMethod fun t=>(fun a:Nat=>Value.int IntKind.u8 (a:Int))<$> Rtype.kind t) #[.pointer (some ⟨2,104,none⟩)]).run Tryz.prog w = .ok (.int .u8 22) w:=by kernel_rfl
theorem zte(w:World):((ReflectliteType.abiMethod fun t=>(fun a:Nat=>Value.int IntKind.u8 (a:Int))<$> Rtype.kind t) #[.pointer (some ⟨2,28,none⟩)]).run Tryz.prog w = .ok (.int .u8 2) w:=by kernel_rfl
theorem rlm(z:Sem Value)(f:TypeId→Addr→Nat→Nat→Sem Value)(v:Value):
 ReflectliteValue.method z f #[v]=(do match ←ReflectliteValue.parts v with|none=>z|some (t,a,fl)=>f t a fl (fl % 32)):=rfl
theorem zql(a:Addr)(w:World):(ReflectliteValue.parts (.agg #[.pointer (some ⟨2,104,none⟩),.pointer (some a),.int .u64 150])).run Tryz.prog w = .ok (some (104,a,150)) w:=by kernel_rfl
theorem zsR(a p:Addr)(W:World)(ha:W.cell? a=some (.pointer (some p))):
 (ReflectliteValue.method (ReflectliteValue.valueError "reflectlite.Value.IsNil" 0) ReflectliteValue.isNil #[.agg #[.pointer (some ⟨2,104,none⟩),.pointer (some a),.int .u64 150]]).run Tryz.prog W = .ok (.bool false) W:=by
 rw [rlm];simp only [Sem.run_bind,zql,Result.andThen];simp [ReflectliteValue.isNil,loadVar,isAgg,underlying,Tryz.underlying104,ha,Result.andThen]
theorem znt(h:Value)(w:World):(Go.method 440 177 (.agg #[h]) "Elem").run Tryz.prog w = .ok (209,.agg #[h]) w:=by kernel_rfl
theorem zgq(h:Value)(w:World):(Go.method 440 177 (.agg #[h]) "Implements").run Tryz.prog w = .ok (210,.agg #[h]) w:=by kernel_rfl
theorem ze3(h:Value)(w:World):(Go.method 440 177 (.agg #[h]) "AssignableTo").run Tryz.prog w = .ok (207,.agg #[h]) w:=by kernel_rfl
theorem ztb(w:World):(ReflectliteType.method ReflectliteType.elem #[.agg #[.pointer (some ⟨2,104,none⟩)]]).run Tryz.prog w = .ok (.iface 177 (.agg #[.pointer (some ⟨2,28,none⟩)])) w:=by kernel_rfl
theorem zly(w:World):(ReflectliteType.relation "Implements" ReflectliteType.implements_ #[.agg #[.pointer (some ⟨2,28,none⟩)],.iface 177 (.agg #[.pointer (some ⟨2,33,none⟩)])]).run Tryz.prog w = .ok (.bool true) w:=by kernel_rfl
theorem zrB(v:Value)(w:World):(ReflectliteType.typeOf #[.iface 28 v]).run Tryz.prog w = .ok (.iface 177 (.agg #[.pointer (some ⟨2,28,none⟩)])) w:=by kernel_rfl
theorem zlw(w:World):(ReflectliteType.relation "AssignableTo" ReflectliteType.assignableTo #[.agg #[.pointer (some ⟨2,28,none⟩)],.iface 177 (.agg #[.pointer (some ⟨2,28,none⟩)])]).run Tryz.prog w = .ok (.bool true) w:=by kernel_rfl
theorem zqf(n:Int)(w:World):(ReflectliteValue.unpack (.iface 28 (.int .i64 n))).run Tryz.prog w
 = .ok (.agg #[.pointer (some ⟨2,28,none⟩),.pointer (some ⟨w.heap.size,0,none⟩),.int .u64 130]) (w.alloc (.cells #[.int .i64 n] 28)):=by kernel_rfl
theorem zr4(w:World):(Rtype.elem? 104).run Tryz.prog w = .ok (some 28) w:=by kernel_rfl
theorem mkE(p:Addr)(w:World):(ReflectliteValue.mk 28 p ReflectliteValue.flagAddr).run Tryz.prog w = .ok (.agg #[.pointer (some ⟨2,28,none⟩),.pointer (some p),.int .u64 386]) w:=by kernel_rfl
theorem zst(a p:Addr)(W:World)(ha:W.cell? a=some (.pointer (some p))):
 (ReflectliteValue.method (ReflectliteValue.valueError "reflectlite.Value.Elem" 0) ReflectliteValue.elem #[.agg #[.pointer (some ⟨2,104,none⟩),.pointer (some a),.int .u64 150]]).run Tryz.prog W
  = .ok (.agg #[.pointer (some ⟨2,28,none⟩),.pointer (some p),.int .u64 386]) W:=by
 rw [rlm];simp only [Sem.run_bind,zql,Result.andThen];simp [ReflectliteValue.elem,loadVar,isAgg,underlying,Tryz.underlying104,ha,Result.andThen,zr4,mkE]
theorem rls(v x:Value):ReflectliteValue.set #[v,x]=(do
 let (some (dst,a,fl),some (src,b,_)):=(←ReflectliteValue.parts v,←ReflectliteValue.parts x)
  | unsupported (.noEntry "extern/(internal/reflectlite.Value).Set.zeroValue")
 if fl / ReflectliteValue.flagAddr % 2==0 then unsupported (.noEntry "extern/(internal/reflectlite.Value).Set.unaddressable")
 let val ←loadVar src b
 if ←Rtype.directlyAssignable dst src then storeVar dst a val
 else if ←Rtype.implements dst src then
  if(←Rtype.kind src)==20 then
   match val with
   | .nilIface=>unsupported (.noEntry "extern/reflectlite: a nil value of one interface type handed on as a value of another")
   | _=>storeVar dst a val
  else storeVar dst a (.iface src val)
 else panicString ("reflectlite.Set: value of type " ++(←Rtype.spelt src)++ " is not assignable to type " ++(←Rtype.spelt dst))
 pure (.tuple #[])):=rfl
theorem zrA(a:Addr)(w:World):(ReflectliteValue.parts (.agg #[.pointer (some ⟨2,28,none⟩),.pointer (some a),.int .u64 386])).run Tryz.prog w = .ok (some (28,a,386)) w:=by kernel_rfl
theorem zsI(a:Addr)(w:World):(ReflectliteValue.parts (.agg #[.pointer (some ⟨2,28,none⟩),.pointer (some a),.int .u64 130])).run Tryz.prog w = .ok (some (28,a,130)) w:=by kernel_rfl
theorem zrN(w:World):(Rtype.directlyAssignable 28 28).run Tryz.prog w = .ok true w:=by kernel_rfl
theorem zsK(ta b:Addr)(n:Int)(old:Value)(W:World)(hb:W.cell? b=some (.int .i64 n))(ht:W.cell? ta=some old)(hf:W.frozen? ta=false):
 (ReflectliteValue.set #[.agg #[.pointer (some ⟨2,28,none⟩),.pointer (some ta),.int .u64 386],.agg #[.pointer (some ⟨2,28,none⟩),.pointer (some b),.int .u64 130]]).run Tryz.prog W
  = .ok (.tuple #[]) (W.setCell ta (.int .i64 n)):=by
 rw [rls];simp only [Sem.run_bind,zrA,zsI,Result.andThen];simp [ReflectliteValue.flagAddr,loadVar,isAgg,underlying,Tryz.underlying28,hb,Result.andThen,zrN,storeVar,Value.cells,storeCells,Addr.add];rw [run_store Tryz.prog W ta _ _ (by rfl)];simp [ht,hf]
theorem zsM(n:Int)(t:Addr)(old:Value)(w:World)(hg:w.cell? ⟨0,0,none⟩=some (.iface 177 (.agg #[.pointer (some ⟨2,33,none⟩)])))(ht0:w.cell? t=some old)(hf0:w.frozen? t=false):
 Calls Tryz.prog 55 #[.iface 28 (.int .i64 n),.iface 104 (.pointer (some t))] w fun ev w'=>ev = .returned (.bool true)∧w'=(((((w.alloc (.cells #[.pointer (some t)] 104)).alloc (.cells #[.pointer (some ⟨2,104,none⟩),.pointer (some ⟨w.heap.size,0,none⟩),.int .u64 150] 134)).alloc (.cells #[.pointer (some ⟨2,104,none⟩),.pointer (some ⟨w.heap.size,0,none⟩),.int .u64 150] 134)).alloc (.cells #[.int .i64 n] 28)).setCell t (.int .i64 n)):=by
 have h6:=@run_callFunc_extern Tryz.prog 83 _ (fun args=>ReflectliteValue.unpack (args.getD 0 (.tuple #[]))) Tryz.func83 (by kernel_rfl) (by kernel_rfl) (by kernel_rfl) (by kernel_rfl);have h7:=@run_callFunc_extern Tryz.prog 84 _ (ReflectliteValue.methodAny (ReflectliteValue.valueError "reflectlite.Value.Type" 0) (fun t _ _ _=>ReflectliteType.toType t)) Tryz.func84 (by kernel_rfl) (by kernel_rfl) (by kernel_rfl) (by kernel_rfl)
 have h8:=@run_callFunc_extern Tryz.prog 85 _ (ReflectliteValue.method (ReflectliteValue.valueError "reflectlite.Value.IsNil" 0) ReflectliteValue.isNil) Tryz.func85 (by kernel_rfl) (by kernel_rfl) (by kernel_rfl) (by kernel_rfl)
 have h27:=@run_callFunc_extern Tryz.prog 198 _ (ReflectliteType.abiMethod fun t=>do pure (.int .u8 (←Rtype.kind t))) Tryz.func198 (by kernel_rfl) (by kernel_rfl) (by kernel_rfl) (by kernel_rfl);have h37:=@run_callFunc_extern Tryz.prog 209 _ (ReflectliteType.method ReflectliteType.elem) Tryz.func209 (by kernel_rfl) (by kernel_rfl) (by kernel_rfl) (by kernel_rfl);have h38:=@run_callFunc_extern Tryz.prog 210 _ (ReflectliteType.relation "Implements" ReflectliteType.implements_) Tryz.func210 (by kernel_rfl) (by kernel_rfl) (by kernel_rfl) (by kernel_rfl)
 have h10:=@run_callFunc_extern Tryz.prog 106 _ (ReflectliteType.typeOf) Tryz.func106 (by kernel_rfl) (by kernel_rfl) (by kernel_rfl) (by kernel_rfl);have h35:=@run_callFunc_extern Tryz.prog 207 _ (ReflectliteType.relation "AssignableTo" ReflectliteType.assignableTo) Tryz.func207 (by kernel_rfl) (by kernel_rfl) (by kernel_rfl) (by kernel_rfl)
 have h11:=@run_callFunc_extern Tryz.prog 107 _ (ReflectliteValue.method (ReflectliteValue.valueError "reflectlite.Value.Elem" 0) ReflectliteValue.elem) Tryz.func107 (by kernel_rfl) (by kernel_rfl) (by kernel_rfl) (by kernel_rfl)
 have h12:=@run_callFunc_extern Tryz.prog 108 _ (ReflectliteValue.set) Tryz.func108 (by kernel_rfl) (by kernel_rfl) (by kernel_rfl) (by kernel_rfl);have tO:=zrB;have mA:=ze3;have a25:=zlw;have v25:=zqf;have f6:=zp4;have f7:=zs7;have mK:=znw;have mE:=znt;have mI:=zgq;have k27:=ztl;have k25:=zte;have e27:=ztb;have i25:=zly;have n8:=zsR ⟨w.heap.size,0,none⟩ t ((w.alloc (.cells #[.pointer (some t)] 104)).alloc (.cells #[.pointer (some ⟨2,104,none⟩),.pointer (some ⟨w.heap.size,0,none⟩),.int .u64 150] 134)) (by simp);have hlt:0<w.heap.size:=by
  rcases Nat.eq_zero_or_pos w.heap.size with h0|h
  ·simp [World.cell?,h0] at hg
  ·exact h
 have hg2:((w.alloc (.cells #[.pointer (some t)] 104)).alloc (.cells #[.pointer (some ⟨2,104,none⟩),.pointer (some ⟨w.heap.size,0,none⟩),.int .u64 150] 134)).cell? ⟨0,0,none⟩=some (.iface 177 (.agg #[.pointer (some ⟨2,33,none⟩)])):=by
  rw [World.cell?_alloc_lt _ _ ⟨0,0,none⟩ (by simp),World.cell?_alloc_lt _ _ ⟨0,0,none⟩ hlt];exact hg
 have htl:t.block<w.heap.size:=by
  rcases Nat.lt_or_ge t.block w.heap.size with h|h
  ·exact h
  ·simp [World.cell?,Array.getElem?_eq_none h] at ht0
 have el:=zst ⟨w.heap.size,0,none⟩ t (((w.alloc (.cells #[.pointer (some t)] 104)).alloc (.cells #[.pointer (some ⟨2,104,none⟩),.pointer (some ⟨w.heap.size,0,none⟩),.int .u64 150] 134)).alloc (.cells #[.pointer (some ⟨2,104,none⟩),.pointer (some ⟨w.heap.size,0,none⟩),.int .u64 150] 134)) (by rw [World.cell?_alloc_lt _ _ ⟨w.heap.size,0,none⟩ (by simp;omega)];simp);have st:=zsK t ⟨w.heap.size+1+1+1,0,none⟩ n old ((((w.alloc (.cells #[.pointer (some t)] 104)).alloc (.cells #[.pointer (some ⟨2,104,none⟩),.pointer (some ⟨w.heap.size,0,none⟩),.int .u64 150] 134)).alloc (.cells #[.pointer (some ⟨2,104,none⟩),.pointer (some ⟨w.heap.size,0,none⟩),.int .u64 150] 134)).alloc (.cells #[.int .i64 n] 28))
  (by rw [World.cell?_alloc_at _ _ _ _ (by simp)];rfl)
  (by rw [World.cell?_alloc_lt _ _ t (by simp;omega),World.cell?_alloc_lt _ _ t (by simp;omega),World.cell?_alloc_lt _ _ t (by simp;omega),World.cell?_alloc_lt _ _ t htl];exact ht0)
  (by rw [World.frozen?_alloc_old _ _ t (by simp;omega),World.frozen?_alloc_old _ _ t (by simp;omega),World.frozen?_alloc_old _ _ t (by simp;omega),World.frozen?_alloc_old _ _ t (Nat.ne_of_lt htl)];exact hf0)
 go_enter Tryz.func55,Tryz.ntmps55;go_wp2;refine wp_loop_rounds 1 ?_;rw [rounds_succ];go_wp2;go_ret;exact⟨rfl,rfl⟩
end Go.Proofs.YtjcdeikbghjpkaaGreatDoor
namespace Go.Proofs.YtjcdeikbghjpkaaGreatDoor
open Go.RowKit
def zdx(w:World):Prop:=w.cell? ⟨0,0,none⟩=some (.iface 177 (.agg #[.pointer (some ⟨2,33,none⟩)]))
theorem zdx.keep{w w':World}(h:zdx w)(hb:Below w.heap.size w w'):zdx w':=zb hb h
theorem zdx.pos{w:World}(h:zdx w):0<w.heap.size:=block_lt_of_cell h
theorem zdx.alloc{w:World}(h:zdx w)(o:Obj):zdx (w.alloc o):=h.keep ((Below.refl _ _).alloc (Nat.le_refl _) _)
theorem zdx.drewN{w:World}(h:zdx w)(n:Nat):zdx (w.drewN n):=h
theorem zdx.drew{w:World}(h:zdx w):zdx w.drew:=h
theorem zpL(w:World):Calls Tryz.prog 23 #[.nilIface] w fun e w'=>e = .returned (.int .i64 0)∧Below w.heap.size w w':=by
 go_enter Tryz.func23,Tryz.ntmps23;go_wp2;go_ret;exact⟨rfl,Below.refl _ _⟩
theorem zpS(n:Int)(w:World)(hg:zdx w):Calls Tryz.prog 23 #[.iface 28 (.int .i64 n)] w fun e w'=>e = .returned (.int .i64 n)∧Below w.heap.size w w':=by
 have h1:=hg.alloc (.cells #[.int .i64 0] 28);have c1:=zsM n ⟨w.heap.size,0,none⟩ (.int .i64 0) (w.alloc (.cells #[.int .i64 0] 28)) h1 (by simp) (by simp);have C1:=hi9 c1;clear c1 h1;go_enter Tryz.func23,Tryz.ntmps23;go_wp2_with (go_at_call 55;refine C1.out.mono ?_;rintro e w' ⟨rfl,rfl⟩);go_ret;refine⟨rfl,?_⟩;exact(by(repeat' (first|exact Below.refl _ _|refine Below.alloc ?_ ?_ _|refine Below.setCell ?_ ?_ _|refine Below.drew ?_|refine Below.drewN ?_ _))<;>(try simp)<;> omega)
theorem znr(n:Int)(w:World)(hg:zdx w):Calls Tryz.prog 23 #[zao n] w fun e w'=>e = .returned (.int .i64 n)∧Below w.heap.size w w':=by
 by_cases h:n=0
 ·subst h;exact zpL w
 ·rw [jc h];exact zpS n w hg
theorem zie(n k:Int)(w:World)(hg:zdx w):Calls Tryz.prog 7 #[zao n,.int .i64 k] w fun e w'=>e = .returned (.bool (n==k))∧Below w.heap.size w w':=by
 have C1:=hi9 (znr n w hg);go_enter Tryz.func7,Tryz.ntmps7;go_wp2_with (go_at_call 23;refine C1.out.mono ?_;rintro e w' ⟨rfl,hb⟩);go_ret;exact⟨rfl,hb⟩
end Go.Proofs.YtjcdeikbghjpkaaGreatDoor
namespace Go.Wk
theorem zpG(K:List KD)(L:List AD)(who act what:ByteArray)(P:List Nd):zcD K L who act what P≠ .error 0:=by
 by_cases h:or2 (zaa K L) (zT P)=0
 ·rcases ha:zbx L act with _|a
  ·rw [zeX h ha];intro e;injection e with e;exact absurd e (by decide)
  ·by_cases hb:(jS a.who who && jS a.what what)=true
   ·obtain⟨-,x,hx,e⟩:=zcd.1 (jk.1 h).2;rw [zfK h ha hb hx e];exact zdW _ x false [] hx
   ·rw [zgn h ha hb];intro e;injection e with e;exact absurd e (by decide)
 ·rw [zdd h];intro e;injection e with e;exact h e
end Go.Wk
namespace Go.Proofs.YtjcdeikbghjpkaaGreatDoor
open Go.RowKit Go.Wk Go.Sort
theorem zg7(s:Sc)(who act what:ByteArray)(A:Option Addr)(n c:Nat)(P:List Nd)(w:World)(hs:zcO w s)(h1:who.size≤maxLen)(_:act.size≤maxLen)(h3:what.size≤maxLen)(hP:Ns w A n c P)(hg:zdx w):
 Calls Tryz.prog 3 #[s.v,.string who,.string act,.string what,.slice A n c] w fun e w'=>e = .returned (.bool true)∧Below w.heap.size w w':=by
 have V0:=hi9 (zb9 w s 25);have B0:=hi9 (za w (.cells #[.slice s.KA s.kn s.kc,.slice s.AA s.an s.ac] 25));have TR:=hi9 (fun w' (hb:Below w.heap.size w w')=>znv s who act what A n c P w' (hs.keep hb) h1 h3 (hP.keep hb));have TT:=hi9 (fun w' (hb:Below w.heap.size w w')=>zhy s who act what A n c P w' (hs.keep hb) h1 h3 (hP.keep hb));have HG:=hi9 hg;have HNZ:=hi9 (zpG s.k s.a who act what P);generalize zcD s.k s.a who act what P=rr at *;unfold Sc.v at TT TR ⊢;unfold zR at TR;unfold zke at TT;clear hs h1 h3 hP hg;go_enter Tryz.func3,Tryz.ntmps3;go_wp2_with fail;refine(zoA _).mono ?_;rintro e w1 ⟨rfl,b1⟩;have B1:=bh B0 b1;have V1:=hi9 (V0.out.keep b1);clear b1 B0 V0;obtain⟨c0,c1⟩:=V1.out;have K1:=hi9 (TR.out _ B1.out);go_wp2_with fail;refine K1.out.mono ?_;rintro e w2 ⟨A2,n2,c2,rfl,hN2,-,b2⟩;have bG:=za w2 (.cells #[.slice A2 n2 c2,.int .i64 (tyE rr)] 30);have b3:=b2.trans (bG.mono b2.size);have B3:=bh B1 b3;have V3:=hi9 (V1.out.keep b3);have N3:=hi9 (hN2.keep bG);have G3:=hi9 (zcV w2 A2 n2 c2 (tyE rr) 30);have K3:=hi9 (TT.out _ B3.out);clear b2 bG b3 B1 V1 c0 c1 hN2 K1 TR TT;obtain⟨c0,c1⟩:=V3.out;go_wp2_with fail;refine K3.out.mono ?_;rintro e w4 ⟨A4,n4,c4,rfl,hN4,b4⟩;have B4:=bh B3 b4;have N4:=hi9 hN4;have M4:=hi9 (N3.out.keep b4);have G4:=hi9 (G3.out.keep b4);have hlt:w2.heap.size<w4.heap.size:=block_lt_of_cell G4.out.c0;obtain⟨gb,hgb⟩:∃gb,w2.heap.size=gb:=⟨_,rfl⟩
 rw [hgb] at G4 ⊢;have HE:Hid (Calls Tryz.prog 7 #[zrL rr,.int .i64 (tyE rr)] w4 fun e w''=>e = .returned (.bool true)∧Below w4.heap.size w4 w''):=hi9 (by
  rcases hq:rr with u|k
  ·have hu:u≠0:=fun h0=>HNZ.out (by rw [hq,h0])
   have h1:=zie u u w4 (HG.out.keep B4.out)
   rw [jc hu,show(u==u)=true from beq_self_eq_true u] at h1
   exact h1
  ·have h1:=zie 0 0 w4 (HG.out.keep B4.out)
   rw [zM,show((0:Int)==0)=true from rfl] at h1
   exact h1)
 have HV:Hid (∃v,zrL rr=v):=hi9 ⟨_,rfl⟩;have KS:=hi9 (fun w' (hb:Below w4.heap.size w4 w')=>(N4.out.keep hb).same (M4.out.keep hb));rw [decide_eq_true (show zW (tyV rr) (tyV rr)=0 from zdX.self _)] at KS;generalize zrL rr=ev at *;generalize tyE rr=ue at *;clear b4 hN4 K3 B3 V3 N3 G3 hlt hgb c0 c1 HNZ HV;obtain⟨g0,g1⟩:=G4.out;go_wp2_with fail;refine HE.out.mono ?_;rintro e w5 ⟨rfl,b5⟩;have B5:=bh B4 b5;have K5:=hi9 (KS.out _ b5);have g0':=zb b5 g0;have g1':=zb b5 g1;clear b5 B4 g0 g1 KS;go_wp2_with fail;refine K5.out.mono ?_;rintro e w6 ⟨rfl,b6⟩;have B6:=bh B5 b6;go_wp2_with fail;go_ret;exact⟨rfl,B6.out⟩
end Go.Proofs.YtjcdeikbghjpkaaGreatDoor
namespace Go.Proofs.YtjcdeikbghjpkaaGreatDoor
open Go Go.ChangeShapes Go.WideShapes
theorem zdr:Tryz.prog.funcNamed Rows.checkTypesRow.func=some 3:=by kernel_rfl
theorem zi6:Rows.checkTypesRow.wfByText (OpenSpec.ofChange Rows.checkTypesSpec)=true:=by kernel_rfl
theorem zhe:Tryz.prog.mainIs=some (Rows.checkTypesCard.stood.harness.1,Rows.checkTypesCard.stood.harness.2.toList):=by kernel_rfl
theorem zgi:true=Tryz.prog.looks []:=by kernel_rfl
theorem zhm:false=Rows.checkTypesRow.goesBy Tryz.prog:=by kernel_rfl
theorem zhb:Tryz.f3.isInstance Tryz.prog Rows.checkTypesRow.origin Rows.checkTypesRow.targs:=of_decide_eq_true (by kernel_rfl)
theorem zhc:Tryz.f3.isWrapper Tryz.prog Rows.checkTypesRow.wrapper Rows.checkTypesRow.mainSum:=by unfold Func.isWrapper;rw [if_neg (by decide +kernel)];exact⟨rfl,rfl⟩
theorem zjj:(Rows.checkTypesRow.wf (OpenSpec.ofChange Rows.checkTypesSpec))=true:=by kernel_rfl
theorem zjf:(laidOutB Tryz.prog)=true:=by kernel_rfl
theorem zjp:(mapsRowed Tryz.prog)=true:=by kernel_rfl
theorem zjm:(Tryz.f3.params.all (Tryz.prog.readableRec ·))=true:=by kernel_rfl
theorem zjr:(namedTie Tryz.prog Rows.checkTypesRow.named Rows.checkTypesSpec.vars)=true:=by kernel_rfl
theorem zjq:((Rows.checkTypesRow.stops == []))=true:=by kernel_rfl
theorem zjs:((Tryz.prog.stops == []))=true:=by kernel_rfl
theorem zjb:((Rows.checkTypesRow.knobs == []))=true:=by kernel_rfl
theorem zi4:((Tryz.prog.stopKnobs == []))=true:=by kernel_rfl
theorem zhU:((Rows.checkTypesRow.inPlace==Tryz.prog.inPlace 3))=true:=by kernel_rfl
theorem ziM:((Rows.checkTypesRow.unfollowed==Tryz.prog.unfollowed 3))=true:=by kernel_rfl
theorem ziP:((Rows.checkTypesRow.recurses==Tryz.prog.recurses 3))=true:=by kernel_rfl
theorem zhD:((Rows.checkTypesRow.named==Tryz.prog.varsNamed 3))=true:=by kernel_rfl
theorem zig:((Rows.checkTypesRow.maps==(Tryz.f3.params.toList ++ Rows.checkTypesSpec.plain.varTypes Tryz.prog).any (Tryz.prog.mapsRec ·)))=true:=by kernel_rfl
theorem ziD:((Rows.checkTypesRow.ifaces==(Tryz.f3.params.toList ++ Rows.checkTypesSpec.plain.varTypes Tryz.prog).any (Tryz.prog.ifacesRec ·)))=true:=by kernel_rfl
theorem zh3:((Rows.checkTypesRow.mapsOut==Tryz.prog.mapsAmong Tryz.f3.resultTypes.toList))=true:=by kernel_rfl
theorem zhF:((Rows.checkTypesRow.loops==(Tryz.f3.params.toList ++ Rows.checkTypesSpec.plain.varTypes Tryz.prog).any (Tryz.prog.loopsFrom ·)))=true:=by kernel_rfl
theorem zhQ:((Rows.checkTypesRow.wideKeys==(Tryz.f3.params.toList ++ Rows.checkTypesSpec.plain.varTypes Tryz.prog ++ Tryz.f3.resultTypes.toList).any (Tryz.prog.wideKeysFrom ·)))=true:=by kernel_rfl
theorem zhH:(Rows.checkTypesSpec.vars.all (Tryz.prog.varReadable ·))=true:=by kernel_rfl
theorem zhJ:(Tryz.f3.resultTypes.all (fun t=>Tryz.prog.readableRec t && decide (t<Tryz.prog.types.size)))=true:=by kernel_rfl
theorem ziK:((Rows.checkTypesRow.ifacesOut==Tryz.f3.resultTypes.toList.any (Tryz.prog.ifacesRec ·)))=true:=by kernel_rfl
theorem ziT:((Rows.checkTypesRow.loopsOut==Tryz.f3.resultTypes.toList.any (Tryz.prog.loopsFrom ·)))=true:=by kernel_rfl
theorem zhE:((Rows.checkTypesRow.plainKeys==Tryz.prog.plainKeys))=true:=by kernel_rfl
theorem ziZ:(Rows.checkTypesRow.shortTexts.isNone)=true:=by kernel_rfl
theorem ziu:(Tryz.prog.stopsHeard)=true:=by kernel_rfl
theorem zih:(Tryz.prog.mayEnter)=true:=by kernel_rfl
theorem zh4:((Rows.checkTypesRow.lifted==Tryz.prog.liftsFinal))=true:=by kernel_rfl
theorem zii:((Tryz.prog.make==some Rows.checkTypesRow.make))=true:=by kernel_rfl
theorem zh5:((Rows.checkTypesRow.kinds==(if Rows.checkTypesRow.domain.isEmpty then [] else Tryz.f3.params.toList.map fun t=>match Tryz.prog.underlying t with|some (.int k)=>some k|_=>none)))=true:=by kernel_rfl
theorem zik:((Rows.checkTypesRow.pinned==Rows.checkTypesRow.pinnedBy))=true:=by kernel_rfl
theorem zif:((Rows.checkTypesRow.veiled==(Tryz.f3.params.toList ++ Rows.checkTypesSpec.plain.varTypes Tryz.prog ++ Tryz.f3.resultTypes.toList).any (Tryz.prog.veiledRec ·)))=true:=by kernel_rfl
theorem ziz:(Rows.checkTypesRow.veiledFits Tryz.prog Tryz.f3.params.toList (Tryz.f3.params.toList ++ Rows.checkTypesSpec.plain.varTypes Tryz.prog ++ Tryz.f3.resultTypes.toList))=true:=by kernel_rfl
theorem jj{a b:Bool}(h:a=true)(k:b=true):(a && b)=true:=by rw [h,k];rfl
theorem zfA:joinedFacts Tryz.prog 3 Tryz.f3 Rows.checkTypesSpec Rows.checkTypesRow=true:=by
 unfold joinedFacts;exact(jj (jj (jj (jj (jj (jj (jj (jj (jj (jj (jj (jj (jj (jj (jj (jj (jj (jj (jj (jj (jj (jj (jj (jj (jj (jj (jj (jj (jj (jj (jj zjj zjf) zjp) zjm) zjr) zjq) zjs) zjb) zi4) zhU) ziM) ziP) zhD) zig) ziD) zh3) zhF) zhQ) zhH) zhJ) ziK) ziT) zhE) ziZ) ziu) zih) zh4) zii) zh5) zik) zif) ziz)
end Go.Proofs.YtjcdeikbghjpkaaGreatDoor
namespace Go.Proofs.YtjcdeikbghjpkaaGreatDoor
open Go.ChangeShapes Go.WideShapes Go.RowKit
def zn3:DataW Unit:=Rows.laid_errors_errorType
def zsx:String:=match zn3 with | .iface n _=>n|_ => ""
theorem zqb:(Tryz.prog.cutTypes.find? (·.1==zsx)).map (·.2)=some 177:=by kernel_rfl
theorem zpp:Tryz.prog.globalNamed "errors.errorType"=some 0:=by kernel_rfl
theorem zsn:((List.range 340).filter fun t=>Tryz.prog.rowNamed t [101,114,114,111,114])= [33]:=by kernel_rfl
theorem zoS:Tryz.prog.types.size=340:=by kernel_rfl
def zdn:List (String × DataW Unit):= [("errors.errorType",zn3)]
theorem zhx{W:World}(h:laidMetH Tryz.prog zdn W):zdx W:=by
 have h':laidMet Tryz.prog [] W∧handlesMet Tryz.prog zdn W:=h;obtain⟨name,u,ty,e1,e2,e3,e4,e5⟩:=h'.2 _ (List.mem_singleton.2 rfl);have en:name = [101,114,114,111,114]:=(Option.some.inj e1).symm;subst en;obtain rfl:=Option.some.inj (zqb.symm.trans e2);have hm:ty∈(List.range 340).filter fun t=>Tryz.prog.rowNamed t [101,114,114,111,114]:=List.mem_filter.2 ⟨List.mem_range.2 (by rw [←zoS];exact e3),e4⟩;rw [zsn] at hm;obtain rfl:=List.mem_singleton.1 hm;have hh:typeHandle Tryz.prog 33 = .pointer (some ⟨2,33,none⟩):=by kernel_rfl
 rw [hh] at e5;have:=World.var?_cell zpp e5 0;exact this
noncomputable def zj4(os:Os):World :=
 let w0:=World.holding Tryz.prog os ⟨#[],#[],[]⟩
 {w0 with heap:=w0.heap.modify 0 fun
   | .cells _ t frozen => .cells #[.iface 177 (.agg #[.pointer (some ⟨2,33,none⟩)])] t frozen
   | o=>o }
theorem zi9(os:Os)(args:Array Value):laidMetH Tryz.prog zdn ((zj4 os).forCall (fun _ _=>0) ⟨#[],args,[]⟩).memory :=
 laidMetH_of_parts (laidMet_nil _ _) (by kernel_rfl)
end Go.Proofs.YtjcdeikbghjpkaaGreatDoor
