/-
  check.Type: the type of an expression, or what is wrong. (gen_chktype.py) ..
-/
import Derived.Test.YthifljpkgfpkiaaGreatDoorQ36
set_option maxRecDepth 100000
set_option maxHeartbeats 8000000
namespace Go.Proofs.YthifljpkgfpkiaaGreatDoor
open Go.RowKit Go.Wk Go.Sort
theorem Sz(w:World):Ns w none 0 0 []:=⟨rfl,Nat.le_refl _,Nat.zero_le _,λk x hx=>by simp at hx,λx hx=>by cases hx⟩
theorem Dn{w:World}{a:Addr}{n c:Nat}{P:List Nd}(h:Ns w (some a) n c P)(h0:P≠ []):a.block<w.heap.size:=by
 cases P with
 | nil=>exact absurd rfl h0
 | cons y r =>
  obtain⟨b,hb,c0,-⟩:=h.at_ 0 y rfl
  injection hb with hb
  subst hb
  exact block_lt_of_cell c0
theorem Qv{P:List Nd}{k:Kd}(h:Kin P k):P≠ []:=by
 rw [h.e];intro e;have:=ct k;rw [e] at this;exact absurd this (by simp)
theorem Pm{w:World}{A:Option Addr}{n c:Nat}{P:List Nd}(h:Ns w A n c P)(h0:P≠ []):∃a,A=some a:=by
 cases P with
 | nil=>exact absurd rfl h0
 | cons y r =>
  obtain⟨b,hb,-⟩:=h.at_ 0 y rfl
  exact⟨b,hb⟩
def VB:eR->Value
 | .ok _ => .nilIface
 | .error u => .iface 41 (.int .i64 u)
def AO(w:World)(r:eR)(e:Ending)(w':World):Prop:=∃A n c,e = .returned (.tuple #[.slice A n c,VB r])/\Ns w' A n c (tyV r)/\Below w.heap.size w w'
theorem mG{w w':World}{k:Int}(hb:Below w.heap.size w w'):AO w (.error k) (.returned (.tuple #[.slice none 0 0,.iface 41 (.int .i64 k)])) w':=⟨none,0,0,rfl,Sz w',hb⟩
def Vm(w:World)(s:Sc):World:=((w.alloc (.cells #[.slice s.KA s.kn s.kc,.slice s.AA s.an s.ac] 25)).alloc (.cells #[.slice none 0 0] 29)).alloc (.cells #[.nilIface] 34)
structure Vt(w:World)(b:Nat)(s:Sc):Prop where
 vs:Vs w b s
 cv:w.cell? ⟨b+1,0,none⟩=some (.slice none 0 0)
 ce:w.cell? ⟨b+1+1,0,none⟩=some .nilIface
 zv:w.frozen? ⟨b+1,0,none⟩=false
 ze:w.frozen? ⟨b+1+1,0,none⟩=false
theorem Vt.keep{w w':World}{b:Nat}{s:Sc}(h:Vt w b s)(hb:Below w.heap.size w w'):Vt w' b s :=
 ⟨h.vs.keep hb,zb hb h.cv,zb hb h.ce,(hb.frozen (p:=⟨b+1,0,none⟩) (block_lt_of_cell h.cv)).trans h.zv,(hb.frozen (p:=⟨b+1+1,0,none⟩) (block_lt_of_cell h.ce)).trans h.ze⟩
theorem Gv(w:World)(s:Sc):Below w.heap.size w (Vm w s):=
 (za w _).trans (((za _ _).mono (by simp)).trans ((za _ _).mono (by simp;omega)))
theorem Ng(w:World)(s:Sc):Vt (Vm w s) w.heap.size s:=by
 have h1:=lL w s 25;have h2:=(h1.keep (za _ (.cells #[.slice none 0 0] 29))).keep (za _ (.cells #[.nilIface] 34));refine⟨h2,?_,?_,?_,?_⟩
 ·have:=zb (za _ (.cells #[.nilIface] 34)) (zt (heap_alloc_last (w.alloc (.cells #[.slice s.KA s.kn s.kc,.slice s.AA s.an s.ac] 25)) (.cells #[.slice none 0 0] 29)) (k:=0) (u := .slice none 0 0) rfl);rw [World.size_alloc] at this;exact this
 ·have:=zt (heap_alloc_last ((w.alloc (.cells #[.slice s.KA s.kn s.kc,.slice s.AA s.an s.ac] 25)).alloc (.cells #[.slice none 0 0] 29)) (.cells #[.nilIface] 34)) (k:=0) (u := .nilIface) rfl;rw [World.size_alloc,World.size_alloc] at this;exact this
 ·have ha:(w.alloc (.cells #[.slice s.KA s.kn s.kc,.slice s.AA s.an s.ac] 25)).heap.size=w.heap.size+1:=by simp
  exact((za _ _).frozen (p:=⟨w.heap.size+1,0,none⟩) (by simp)).trans (World.frozen?_alloc_at _ _ _ _ ha.symm)
 ·have ha:((w.alloc (.cells #[.slice s.KA s.kn s.kc,.slice s.AA s.an s.ac] 25)).alloc (.cells #[.slice none 0 0] 29)).heap.size=w.heap.size+1+1:=by simp
  exact World.frozen?_alloc_at _ _ _ _ ha.symm
theorem gj{w:World}{b:Nat}{s:Sc}(h:Vt w b s)(x y:Value):((w.setCell ⟨b+1,0,none⟩ x).setCell ⟨b+1+1,0,none⟩ y).cell? ⟨b+1,0,none⟩=some x/\((w.setCell ⟨b+1,0,none⟩ x).setCell ⟨b+1+1,0,none⟩ y).cell? ⟨b+1+1,0,none⟩=some y :=
 ⟨(World.cell?_setCell_other _ _ _ _ (by intro e;injection e with e;omega)).trans (World.cell?_setCell_same w _ _ h.cv),World.cell?_setCell_same _ _ _ ((World.cell?_setCell_other w _ _ _ (by intro e;injection e with e;omega)).trans h.ce)⟩
theorem tu(s:Sc)(who act what:ByteArray)(A:Option Addr)(n c:Nat)(P:List Nd)(w:World)(hs:lK w s)(h1:who.size<=maxLen)(h3:what.size<=maxLen)(hP:Ns w A n c P):
 Calls Tryz.prog 7 #[s.v,.string who,.string act,.string what,.slice A n c] w (AO w (eM s.k s.a who act what P)):=by
 have C1:=O (λw' (hb:Below w.heap.size w w')=>kG s w' (hs.keep hb));have C3:=O (λw' (hb:Below w.heap.size w w')=>nI A n c P w' (hP.keep hb));have C4:=O (λw' (hb:Below w.heap.size w w')=>tB s act w' (hs.keep hb));have HS:=O hs;have HP:=O hP;have HW:=O (And.intro h1 h3);obtain⟨RR,dA⟩:∃RR,RR=eM s.k s.a who act what P:=⟨_,rfl⟩
 rw [<-dA];have eZ:=O dA;have wd:=O (show bn s.k s.a≠0->RR = .error (bn s.k s.a) from λh=>by have h0:=zR (y:=jz P) h;rw [dA,mH (by rw [h0];exact h),h0]);have oJ:=O (show bn s.k s.a=0->jz P≠0->RR = .error (jz P) from λh g=>by rw [dA,mH (by rw [h,zu];exact g),h,zu]);have FQ:=O (show bn s.k s.a=0->jz P=0->fj s.a act=none->RR = .error 3 from λh g e=>by rw [dA,vY (zB.2 ⟨h,g⟩) e]);have ID:=O (show bn s.k s.a=0->jz P=0->∀a,fj s.a act=some a->¬(ai a.who who && ai a.what what)=true->RR = .error 2 from λh g a e hh=>by rw [dA,xr (zB.2 ⟨h,g⟩) e hh]);have VW:=O (show bn s.k s.a=0->jz P=0->∀a,fj s.a act=some a->(ai a.who who && ai a.what what)=true->∃x:Ex,x.valid false/\P=x.flat/\P.length<=200/\gW ⟨s.k,a,who,what⟩/\RR=tyX ⟨s.k,a,who,what⟩ x [] from λh g a e hh=>by
  obtain⟨hl,x,hx,FN⟩:=cB.1 g
  exact⟨x,hx,FN,hl,GO h (List.mem_of_find?_eq_some e) hh,by rw [dA,oU (zB.2 ⟨h,g⟩) e hh hx FN]⟩)
 unfold Sc.v at C1 C4 ⊢;generalize bn s.k s.a=f1 at *;generalize jz P=f3 at *;have B0:=O (Gv w s);have V0:=O (Ng w s);unfold Vm at B0 V0;have hmf:∀(fn:Fn) (first cap:Array Value) (w:World),(Instr.makeFunc fn first cap).run Tryz.prog w = .ok (.func fn first cap) w:=λ_ _ _ _=>rfl;clear hs hP h1 h3 dA;go_enter_defers Tryz.func7,Tryz.ntmps7;go_wp2_with fail;refine(C1.o _ B0.o).mono ?_;rintro e w1 ⟨rfl,b1⟩;have B1:=bh B0 b1;have V1:=O (V0.o.keep b1);clear b1 B0 V0 C1;by_cases q1:f1=0
 case neg =>
  rw [zm q1];obtain⟨-,cv,ce,zv,ze⟩:=V1.o;have BP:=block_lt_of_cell cv;have hl2:=block_lt_of_cell ce;obtain⟨p1,p2⟩:=gj V1.o (.slice none 0 0) (.iface 41 (.int .i64 f1));have BB:=O ((B1.o.setCell (p:=⟨w.heap.size+1,0,none⟩) (Nat.le_succ _) (.slice none 0 0)).setCell (p:=⟨w.heap.size+1+1,0,none⟩) (Nat.le_succ_of_le (Nat.le_succ _)) (.iface 41 (.int .i64 f1)));have HT:=O (mG (k:=f1) BB.o);have HR:=O (wd.o q1);clear wd oJ FQ ID;clear VW C3 C4;go_wp2_with fail;simp [bodyPostD,Leaves,results,Tryz.results7,go_sem,cv,ce];rw [HR.o];exact HT.o
 rw [q1,zj];go_wp2_with fail;refine(C3.o _ B1.o).mono ?_;rintro e w2 ⟨rfl,b2⟩;have B2:=bh B1 b2;have V2:=O (V1.o.keep b2);clear b2 B1 V1 C3;by_cases q2:f3=0
 case neg =>
  rw [zm q2];obtain⟨-,cv,ce,zv,ze⟩:=V2.o;have BP:=block_lt_of_cell cv;have hl2:=block_lt_of_cell ce;obtain⟨p1,p2⟩:=gj V2.o (.slice none 0 0) (.iface 41 (.int .i64 f3));have BB:=O ((B2.o.setCell (p:=⟨w.heap.size+1,0,none⟩) (Nat.le_succ _) (.slice none 0 0)).setCell (p:=⟨w.heap.size+1+1,0,none⟩) (Nat.le_succ_of_le (Nat.le_succ _)) (.iface 41 (.int .i64 f3)));have HT:=O (mG (k:=f3) BB.o);have HR:=O (oJ.o q1 q2);clear wd oJ FQ ID;clear VW C4;go_wp2_with fail;simp [bodyPostD,Leaves,results,Tryz.results7,go_sem,cv,ce];rw [HR.o];exact HT.o
 rw [q2,zj];obtain⟨⟨c0,c1⟩,-,-,-,-⟩:=V2.o;go_wp2_with fail;refine(C4.o _ B2.o).mono ?_;rintro e w3 ⟨hc,b3⟩;have B3:=bh B2 b3;have V3:=O (V2.o.keep b3);clear b3 B2 V2 C4 c0 c1;rcases hc with ⟨ha,rfl⟩|⟨i,hi,ha,rfl⟩
 ·obtain⟨-,cv,ce,zv,ze⟩:=V3.o;have BP:=block_lt_of_cell cv;have hl2:=block_lt_of_cell ce;obtain⟨p1,p2⟩:=gj V3.o (.slice none 0 0) (.iface 41 (.int .i64 3));have BB:=O ((B3.o.setCell (p:=⟨w.heap.size+1,0,none⟩) (Nat.le_succ _) (.slice none 0 0)).setCell (p:=⟨w.heap.size+1+1,0,none⟩) (Nat.le_succ_of_le (Nat.le_succ _)) (.iface 41 (.int .i64 3)));have BX:=za ((w3.setCell ⟨w.heap.size+1,0,none⟩ (.slice none 0 0)).setCell ⟨w.heap.size+1+1,0,none⟩ (.iface 41 (.int .i64 3))) (.cells #[.string ⟨#[]⟩,.slice none 0 0,.slice none 0 0,.slice none 0 0] 49);have p3:=zb BX p1;have p4:=zb BX p2;have HT:=O (mG (k:=3) (bh BB BX).o);have HR:=O (FQ.o q1 q2 ha);clear wd oJ FQ ID;clear VW;go_wp2_with fail;simp [bodyPostD,Leaves,results,Tryz.results7,go_sem,p3,p4];rw [HR.o];exact HT.o
 obtain⟨_,-,-,-,-,-,hA⟩:=HS.o.a.at_ i s.L[i] (List.getElem?_eq_getElem hi);have HA:=O ha;have Yl:=O hA;clear ha hA;generalize s.L[i]=x at *;obtain⟨d,WA,wn,wc,TA,tn,tc,NA,nn,nc⟩:=x;dsimp only at HA;have CW:=O (λw' (hb:Below w.heap.size w w')=>cT WA wn wc d.who who w' (Yl.o.ws.keep hb));have CT:=O (λw' (hb:Below w.heap.size w w')=>cT TA tn tc d.what what w' (Yl.o.ts.keep hb));obtain⟨a0,a1,a2,a3⟩:=fq w3 (.string d.id) (.slice WA wn wc) (.slice TA tn tc) (.slice NA nn nc) 49;have bA:=za w3 (.cells #[.string d.id,.slice WA wn wc,.slice TA tn tc,.slice NA nn nc] 49);have B4:=bh B3 bA;have V4:=O (V3.o.keep bA);clear bA B3 V3;go_wp2_with fail;refine(CW.o _ B4.o).mono ?_;rintro e w5 ⟨rfl,b5⟩;have B5:=bh B4 b5;have V5:=O (V4.o.keep b5);replace a0:=zb b5 a0;replace a1:=zb b5 a1;replace a2:=zb b5 a2;replace a3:=zb b5 a3;clear b5 B4 V4 CW;rcases g1:ai d.who who with _|_
 ·obtain⟨-,cv,ce,zv,ze⟩:=V5.o;have BP:=block_lt_of_cell cv;have hl2:=block_lt_of_cell ce;obtain⟨p1,p2⟩:=gj V5.o (.slice none 0 0) (.iface 41 (.int .i64 2));have BB:=O ((B5.o.setCell (p:=⟨w.heap.size+1,0,none⟩) (Nat.le_succ _) (.slice none 0 0)).setCell (p:=⟨w.heap.size+1+1,0,none⟩) (Nat.le_succ_of_le (Nat.le_succ _)) (.iface 41 (.int .i64 2)));have HT:=O (mG (k:=2) BB.o);have HR:=O (ID.o q1 q2 _ HA.o (by rw [g1];simp));clear wd oJ FQ ID;clear VW CT a0 a1 a2 a3;go_wp2_with fail;simp [bodyPostD,Leaves,results,Tryz.results7,go_sem,cv,ce];rw [HR.o];exact HT.o
 go_wp2_with fail;refine(CT.o _ B5.o).mono ?_;rintro e w6 ⟨rfl,b6⟩;have B6:=bh B5 b6;have V6:=O (V5.o.keep b6);replace a0:=zb b6 a0;replace a1:=zb b6 a1;replace a2:=zb b6 a2;replace a3:=zb b6 a3;clear b6 B5 V5 CT;rcases g2:ai d.what what with _|_
 ·obtain⟨-,cv,ce,zv,ze⟩:=V6.o;have BP:=block_lt_of_cell cv;have hl2:=block_lt_of_cell ce;obtain⟨p1,p2⟩:=gj V6.o (.slice none 0 0) (.iface 41 (.int .i64 2));have BB:=O ((B6.o.setCell (p:=⟨w.heap.size+1,0,none⟩) (Nat.le_succ _) (.slice none 0 0)).setCell (p:=⟨w.heap.size+1+1,0,none⟩) (Nat.le_succ_of_le (Nat.le_succ _)) (.iface 41 (.int .i64 2)));have HT:=O (mG (k:=2) BB.o);have HR:=O (ID.o q1 q2 _ HA.o (by rw [g1,g2];simp));clear wd oJ FQ ID;clear VW a0 a1 a2 a3;go_wp2_with fail;simp [bodyPostD,Leaves,results,Tryz.results7,go_sem,cv,ce];rw [HR.o];exact HT.o
 obtain⟨x,hx,FN,hl,hst,mR⟩:=VW.o q1 q2 _ HA.o (by rw [g1,g2];rfl);clear wd oJ FQ ID VW eZ;obtain⟨⟨c0,c1⟩,-,-,-,-⟩:=V6.o;have MX:=O (λw' (hb:Below w.heap.size w w')=>(⟨HS.o.keep hb,Yl.o.keep hb,HW.o.1,HW.o.2,hst,hb.size,λa e=>Dn (by have:=Yl.o.ns;rw [show NA=some a from e] at this;exact this) (Qv hst.ctx.choose_spec),λy hy a e=>by
  obtain⟨k,hk,rfl⟩:=List.getElem_of_mem hy
  obtain⟨_,-,-,-,-,hKN⟩:=HS.o.k.at_ k s.K[k] (List.getElem?_eq_getElem hk)
  have h0:=hKN.ns
  rw [e] at h0
  obtain⟨f,hf⟩:=hst.kds s.K[k].d (List.mem_map.2 ⟨s.K[k],hy,rfl⟩)
  exact Dn h0 (Qv hf)⟩:oY w' ⟨s,who,what,⟨d,WA,wn,wc,TA,tn,tc,NA,nn,nc⟩,w.heap.size⟩))
 have KX:=O (λw' (hb:Below w.heap.size w w')=>oQ ⟨s,who,what,⟨d,WA,wn,wc,TA,tn,tc,NA,nn,nc⟩,w.heap.size⟩ 4000 A n c x none [] w' (MX.o w' hb) (by rw [<-FN];exact HP.o.keep hb) (by have:=HP.o.len;omega) hx (by have:=HP.o.len;omega) rfl);have Ca:=O (nj hst x false [] hx);unfold Xs.v Xs.t at KX;dsimp only at KX;generalize tyX ⟨s.k,d,who,what⟩ x []=rr at *;have HRQ:=O mR;clear MX HS Yl HP HW hst hx FN hl mR HA;go_wp2_with fail;have bX:=za w6 (.cells #[.slice s.KA s.kn s.kc,.slice s.AA s.an s.ac,.string who,.string what,.string d.id,.slice WA wn wc,.slice TA tn tc,.slice NA nn nc] 67);have B7:=bh B6 bX;have V7:=O (V6.o.keep bX);have K:=O (KX.o _ B7.o);clear bX KX B6 V6 c0 c1 a0 a1 a2 a3;rcases rr with u|k
 ·refine K.o.mono ?_;intro e w8 h8;obtain⟨rfl,b8⟩:=dI h8;have B8:=bh B7 b8;have V8:=O (V7.o.keep b8);clear h8 b8 K B7 V7;obtain⟨-,cv,ce,zv,ze⟩:=V8.o;have BP:=block_lt_of_cell cv;have hl2:=block_lt_of_cell ce;go_wp2_with fail;refine leaves_cons (f:=20) (args:=#[.pointer (some ⟨w.heap.size+1,0,none⟩),.pointer (some ⟨w.heap.size+1+1,0,none⟩)]) (by simp) (by simp [go_sem]) ?_;refine(Ed (w.heap.size+1) (w.heap.size+1+1) u _ _ [] w8 cv zv ce ze (by omega)).mono ?_;rintro e u' w9 ⟨rfl,rfl,rfl⟩;obtain⟨p1,p2⟩:=gj V8.o (.slice none 0 0) (.iface 41 (.int .i64 u));have BB:=(B8.o.setCell (p:=⟨w.heap.size+1,0,none⟩) (Nat.le_succ _) (.slice none 0 0)).setCell (p:=⟨w.heap.size+1+1,0,none⟩) (Nat.le_succ_of_le (Nat.le_succ _)) (.iface 41 (.int .i64 u));have HT:=mG (k:=u) BB;simp [Leaves,settle,results,Tryz.results7,go_sem,p1,p2];rw [HRQ.o];exact HT
 ·have hk:k.flat.length<=200:=by have:=Ca.o.2;rw [bW];exact this
  have sM:k.flat≠ []:=λe=>by have:=ct k;rw [e] at this;exact absurd this (by simp)
  have HFV:=O (show∃V,V=k.flat from⟨_,rfl⟩);refine K.o.mono ?_;intro e w8 h8;obtain⟨A4,n4,c4,rfl,N4,b8,-⟩:=bM h8;have B8:=bh B7 b8;have V8:=O (V7.o.keep b8);obtain⟨a4,rfl⟩:=Pm N4 sM;have K2:=O (H' a4 n4 c4 k.flat w8 N4 (by omega));unfold Dc at K2;clear h8 b8 K B7 V7 N4 hk sM HFV;go_wp2_with fail;refine K2.o.mono ?_;rintro e w5 ⟨A5,c5,rfl,N5,F5,b5⟩;have V5:=O (V8.o.keep b5);have B5:=bh B8 b5;have UW:=O N5;obtain⟨-,cv0,ce0,-,-⟩:=V8.o;have YU:=block_lt_of_cell cv0;have hl4:=block_lt_of_cell ce0;have Wo:=O (show∀a,A5=some a->w.heap.size+1+1<a.block from λa e=>Nat.lt_of_lt_of_le hl4 (F5 a e));obtain⟨-,cv,ce,zv,ze⟩:=V5.o;have BP:=block_lt_of_cell cv;have hl2:=block_lt_of_cell ce;have Ry:=O (show tyV (.ok k)=k.flat from rfl);obtain⟨vl,X9⟩:∃vl,vl=k.flat.length:=⟨_,rfl⟩
  rw [<-X9] at UW ⊢;obtain⟨p1,p2⟩:=gj V5.o (.slice A5 vl c5) .nilIface;have N6:=O ((UW.o.but (zl w5 ⟨w.heap.size+1,0,none⟩ (.slice A5 vl c5)) (λ_ a e=>by have:=Wo.o a e;show a.block≠w.heap.size+1;omega)).but (zl _ ⟨w.heap.size+1+1,0,none⟩ .nilIface) (λ_ a e=>by have:=Wo.o a e;show a.block≠w.heap.size+1+1;omega));have BB:=O ((B5.o.setCell (p:=⟨w.heap.size+1,0,none⟩) (Nat.le_succ _) (.slice A5 vl c5)).setCell (p:=⟨w.heap.size+1+1,0,none⟩) (Nat.le_succ_of_le (Nat.le_succ _)) .nilIface);clear b5 N5 F5 V8 B8 K2 cv0 ce0 YU hl4 X9;go_wp2_with fail;refine leaves_cons (f:=20) (args:=#[.pointer (some ⟨w.heap.size+1,0,none⟩),.pointer (some ⟨w.heap.size+1+1,0,none⟩)]) (by simp) (by simp [go_sem]) ?_;refine(Ko ⟨w.heap.size+1,0,none⟩ ⟨w.heap.size+1+1,0,none⟩ _).mono ?_;rintro e u' w6 ⟨rfl,rfl,rfl⟩;simp [Leaves,settle,results,Tryz.results7,go_sem,p1,p2];rw [HRQ.o];exact⟨A5,vl,c5,rfl,N6.o,BB.o⟩
end Go.Proofs.YthifljpkgfpkiaaGreatDoor
namespace Go.Proofs.YthifljpkgfpkiaaGreatDoor
open Go.RowKit Go.Wk Go.Maps
theorem Oe{E:List En}(h:jU E=0):E.length<=16/\aK [] E=0/\∀x∈E,¬Abv (cP E) x.u x.u:=by
 unfold jU at h;split at h
 ·cases h
 ·rename_i h1;split at h
  ·rename_i h2;split at h
   ·cases h
   ·rename_i h3;exact⟨by omega,h2,λx hx hc=>h3 ⟨x,hx,hc⟩⟩
  ·rename_i h2;exact absurd h h2
open Classical in
noncomputable def inB(E:List En)(a b:Ud):Bool:=decide (jU E=0/\(b=a\/Abv (cP E) a b))
theorem Vr2.but{w w':World}{b:Nat}{x y:Value}{g:Option Nat}(h:Vr2 w b x y)(hg:w.grownBy w' g)(hn:some b≠g):Vr2 w' b x y :=
 have hl:=block_lt_of_cell h.c0
 have hb:=hg.block b hl hn
 ⟨(World.cell?_of_block (a:=⟨b,0,none⟩) hb).trans h.c0,(World.cell?_of_block (a:=⟨b,1,none⟩) hb).trans h.c1,(World.frozen?_of_block (a:=⟨b,0,none⟩) hb).trans h.z0,(World.frozen?_of_block (a:=⟨b,1,none⟩) hb).trans h.z1⟩
theorem jh(w:World):Below w.heap.size w w.drew:=⟨rfl,rfl,rfl,Nat.le_refl _,λ_ _=>rfl⟩
theorem Pj{E:List En}{a b:Ud}(hs:jU E=0)(h:b=a\/Abv (cP E) a b):inB E a b=true:=by unfold inB;exact @decide_eq_true _ (_) ⟨hs,h⟩
theorem Ki{E:List En}{a b:Ud}(h:¬(b=a\/Abv (cP E) a b)):inB E a b=false:=by unfold inB;exact @decide_eq_false _ (_) λh2=>h h2.2
theorem SV{E:List En}{a b:Ud}(h:jU E≠0):inB E a b=false:=by unfold inB;exact @decide_eq_false _ (_) λh2=>h h2.1
theorem UZ(A:Option Addr)(n c:Nat)(E:List En)(a b:Ud)(w:World)(h:Es w A n c E)(ha:UOk a)(hb:UOk b):
 Calls Tryz.prog 136 #[.slice A n c,udV a,udV b] w λe w'=>e = .returned (.tuple #[.bool (inB E a b),je (jU E)])/\Below w.heap.size w w':=by
 have UN:=@run_makeMap Tryz.prog;have HH:=O h;have Ra:=O h.uok;have HL:=O h.len;have HA:=O ha;have HBO:=O hb;clear h ha hb;unfold udV;go_enter Tryz.func136,Tryz.ntmps136;go_wp2_with fail;have hsz:(w.alloc (.cells #[.string a.1,.string a.2] 28)).heap.size=w.heap.size+1:=by simp
 have P0:=O (kM w (.string a.1) (.string a.2) 28);have B0:=O (za w (.cells #[.string a.1,.string a.2] 28));obtain⟨w0,hw0⟩:∃w0,w.alloc (.cells #[.string a.1,.string a.2] 28)=w0:=⟨_,rfl⟩
 rw [hw0] at P0 B0 hsz ⊢;rw [<-hsz];have HZ:=O (show w.heap.size≠w0.heap.size by omega);clear hw0 hsz;have P1:=O (P0.o.keep (za w0 (.cells #[.string b.1,.string b.2] 28)));have Q1:=O (kM w0 (.string b.1) (.string b.2) 28);have B1:=bh B0 (za w0 (.cells #[.string b.1,.string b.2] 28));obtain⟨w1,si⟩:∃w1,w0.alloc (.cells #[.string b.1,.string b.2] 28)=w1:=⟨_,rfl⟩
 have HZ1:=O (show w0.heap.size<w1.heap.size by rw [<-si];simp);rw [si] at P1 Q1 B1 ⊢;have WP:=O (show w.heap.size<w1.heap.size by have:=B0.o.size;have:=HZ1.o;omega);clear si P0 B0;generalize w.heap.size=ba at P1 HZ WP ⊢;generalize w0.heap.size=bb at *;have K1:=O (mq A n c E w1 (HH.o.keep B1.o));refine K1.o.mono ?_;rintro e w2 ⟨rfl,b2⟩;have P2:=O (P1.o.keep b2);have Q2:=O (Q1.o.keep b2);have B2:=bh B1 b2;have YL:=O (show ba<w2.heap.size by have:=WP.o;have:=b2.size;omega);have MF:=O (show bb<w2.heap.size by have:=HZ1.o;have:=b2.size;omega);clear K1 P1 Q1 B1 b2;by_cases hs:jU E=0
 ·obtain⟨hs1,hs2,-⟩:=Oe hs;obtain⟨Ym,-,UP⟩:=sA E [] hs2;have ZN:=O Ym;have T9:=O UP;have H16:=O hs1;have HIN1:=O (show(b=a\/Abv (cP E) a b)->inB E a b=true from Pj hs);have HIN0:=O (show¬(b=a\/Abv (cP E) a b)->inB E a b=false from Ki);have HSE:=O hs;rw [hs,zj];clear hs hs1 hs2 Ym UP;have HK:=O (dN a HA.o);unfold udV at HK;obtain⟨c0,c1⟩:=P2.o.keep (za w2 (.map #[] 0));have M3:=O (show k7 (w2.alloc (.map #[] 0)) w2.heap.size [] from World.ownsMap_made _ _ _ _);have P3:=O (P2.o.keep (za w2 (.map #[] 0)));have Q3:=O (Q2.o.keep (za w2 (.map #[] 0)));have B3:=bh B2 (za w2 (.map #[] 0));have YA:=O (show w.heap.size<=w2.heap.size from B2.o.size);clear P2 Q2 B2;obtain⟨w4,hrun,hown,hgrow⟩:=World.ownsMap.update (t:=100) M3.o bc Tryz.underlying100 (by decide) (val := .int .i64 1) HK.o (R:=aT) rfl;have M4:=O (show k7 w4 w2.heap.size [a] from hown);have P4:=O (P3.o.but hgrow (by intro h;injection h with h;have:=YL.o;rw [h] at this;exact Nat.lt_irrefl _ this));have Q4:=O (Q3.o.but hgrow (by intro h;injection h with h;have:=MF.o;rw [h] at this;exact Nat.lt_irrefl _ this));have B4:=O (B3.o.grown hgrow B3.o.size (λg hg=>by cases hg;exact YA.o));clear hown hgrow P3 Q3 B3 M3;have K2:=O (λw' (hb:Below w.heap.size w w')=>uG A n c E w' (HH.o.keep (hb)) (by have:=HL.o;have:=H16.o;omega));go_wp2_with fail;clear hrun c0 c1;generalize w2.heap.size=bm at *;have BS:=Nat.le_trans (DC (fg E) [a]) (nJ E (λx hx=>(ZN.o x hx).2));have KA:=O (λ(bs:Nat) (w':World) (hS:ky w' bs bm E) (hM:k7 w' bm [a])=>x9 E bs bm T9.o Ra.o 101 w' a [a] HA.o (λx hx=>by simp only [List.mem_cons,List.not_mem_nil,or_false] at hx;subst hx;exact HA.o) (by have:=H16.o;omega) (by have:=H16.o;simp only [List.length_cons,List.length_nil];omega) hS hM);unfold udV at KA;have PD:=O (P4.o.keep (jh w4));have QD:=O (Q4.o.keep (jh w4));have MD:=O (show k7 w4.drew bm [a] from M4.o);have BD:=O (show Below w.heap.size w w4.drew from B4.o.trans ((jh w4).mono B4.o.size));obtain⟨c0,c1,-,-⟩:=PD.o;have HLM:=O (show bm<w4.drew.heap.size from MD.o.lt);clear BS P4 Q4 M4 B4;go_region_with (first
   |(go_at_call 40;(refine(K2.o _ BD.o).mono ?_);rintro e w5 ⟨bs,rfl,UT,hO,b5⟩;(have P5:=O (PD.o.keep b5));(have Q5:=O (QD.o.keep b5));(obtain⟨d0,d1,-,-⟩:=PD.o.keep b5);(have B5:=O (BD.o.trans (b5.mono BD.o.size)));(have KA5:=O (KA.o bs w5 (HH.o.store B5.o (by rw [<-HL.o];exact hO) (Nat.ne_of_gt (Nat.lt_of_lt_of_le HLM.o UT)) YA.o) (jA MD.o b5)));clear UT hO b5)
   |(go_at_call 41;(refine KA5.o.mono ?_);rintro e2 w6 ⟨rfl,M',hA,Rl,hc',MS,yx⟩))
  all_goals
   have M6:=O MS;have B6:=O (B5.o.grown yx B5.o.size (λg hg=>by cases hg;exact YA.o));obtain⟨f0,f1,-,-⟩:=Q5.o.but yx (by intro h;injection h with h;have:=MF.o;rw [h] at this;exact Nat.lt_irrefl _ this);have Ye:=O (JW hA b);have ZG:=O (dN b HBO.o);unfold udV at ZG;have BU:=O (oW (wM M') b HBO.o (.int .i64 0) (y8 Rl));rw [qD] at BU;clear hA Rl hc' MS yx d0 d1 KA5 KA P5 Q5 PD QD c0 c1
  all_goals
   by_cases hp:b∈M'
   ·rw [if_pos (bE.2 hp)] at BU;have ay:=O (HIN1.o (Ye.o.1 hp));clear hp;go_wp2_with (at_lookup;refine am _ rfl _ _ 100 rfl 28 3 bc Tryz.underlying100 (iz _) bm M'.length _ rfl M6.o _ _ rfl ZG.o _ BU.o ?_);go_wp2_with fail;go_ret2;exact⟨by rw [ay.o,HSE.o];rfl,B6.o⟩
   ·rw [if_neg (λe=>hp (bE.1 e))] at BU;have ay:=O (HIN0.o (λh=>hp (Ye.o.2 h)));clear hp;go_wp2_with (at_lookup;refine am _ rfl _ _ 100 rfl 28 3 bc Tryz.underlying100 (iz _) bm M'.length _ rfl M6.o _ _ rfl ZG.o _ BU.o ?_);go_wp2_with fail;go_ret2;exact⟨by rw [ay.o,HSE.o];rfl,B6.o⟩
 ·have hse:=O hs;rw [zm hs];clear hs;go_wp2_with fail;go_ret2;exact⟨by rw [zm hse.o,SV hse.o];rfl,B2.o⟩
end Go.Proofs.YthifljpkgfpkiaaGreatDoor
namespace Go.Wk
def xJ(P Q:List Nd):Int:=if zg P=5/\zg Q=5 then 0 else 2
def aO(P Q:List Nd):Int:=or2 (zh P) (or2 (zh Q) (xJ P Q))
theorem gh{P Q:List Nd}:aO P Q=0↔zh P=0/\zh Q=0/\zg P=5/\zg Q=5:=by
 unfold aO or2 xJ;by_cases h1:zh P=0
 ·rw [if_pos h1];by_cases h2:zh Q=0
  ·rw [if_pos h2];by_cases h3:zg P=5/\zg Q=5
   ·rw [if_pos h3];exact⟨λ_=>⟨h1,h2,h3.1,h3.2⟩,λ_=>rfl⟩
   ·rw [if_neg h3];exact⟨λh=>by omega,λh=>absurd ⟨h.2.2.1,h.2.2.2⟩ h3⟩
  ·rw [if_neg h2];exact⟨λh=>absurd h h2,λh=>absurd h.2.1 h2⟩
 ·rw [if_neg h1];exact⟨λh=>absurd h h1,λh=>absurd h.1 h1⟩
theorem xC{P:List Nd}(h:zh P=0):(zg P=5/\cC P=0)\/(zg P≠5/\cC P=0)\/(zg P≠5/\cC P=2):=by
 unfold cC;rw [if_pos h];by_cases h5:zg P=5
 ·exact .inl ⟨h5,if_pos (.inl h5)⟩
 ·by_cases h6:zg P=6
  ·exact .inr (.inl ⟨h5,if_pos (.inr h6)⟩)
  ·exact .inr (.inr ⟨h5,if_neg (by omega)⟩)
end Go.Wk
namespace Go.Proofs.YthifljpkgfpkiaaGreatDoor
open Go.RowKit Go.Wk Go.Sort
def cq(w:World)(P Q:List Nd)(e:Ending)(w':World):Prop :=
 ∃(va vb:Value) (Va Vb:List Sl),e = .returned (.tuple #[va,vb,je (aO P Q)])/\zU w' w.heap.size va Va/\zU w' w.heap.size vb Vb/\(aO P Q=0->Va.map Sl.P=zn P/\Vb.map Sl.P=zn Q)/\
  (va.ownBlock=none\/va.ownBlock≠vb.ownBlock)/\(∀r∈Vb,bj r va.ownBlock)/\Below w.heap.size w w'
theorem iK{w w':World}{P Q:List Nd}{v:Value}(hv:v=je (aO P Q))(h0:aO P Q≠0)(hb:Below w.heap.size w w'):cq w P Q (.returned (.tuple #[.slice none 0 0,.slice none 0 0,v])) w' :=
 ⟨_,_,[],[],by rw [hv],zU.nil _ _,zU.nil _ _,λh=>absurd h h0,.inl rfl,(by intro r hr;cases hr),hb⟩
theorem Mc(A B:Option Addr)(n m c d:Nat)(P Q:List Nd)(w:World)(h:Ns w A n c P)(k:Ns w B m d Q)(h1:zh P≠0):
 Calls Tryz.prog 138 #[.slice A n c,.slice B m d] w (cq w P Q):=by
 have i0:∀w,(Instr.index 277 (.agg #[.slice A n c,.slice B m d]) (.int .i64 0)).run Tryz.prog w = .ok (.slice A n c) w:=λ_=>by rfl
 have i1:∀w,(Instr.index 277 (.agg #[.slice A n c,.slice B m d]) (.int .i64 1)).run Tryz.prog w = .ok (.slice B m d) w:=λ_=>by rfl
 have K1:=O (λw' hb=>zP (h.keep (w':=w') hb));have K2:=O (λw' hb=>zP (k.keep (w':=w') hb));rw [zm h1] at K1;have HE:=O (show aO P Q=zh P from zR h1 _);have HX:=O (zm h1);have H1:=O h1;clear h k h1 K2;go_enter Tryz.func138,Tryz.ntmps138;go_wp2_with fail;go_loopw [8,9,13] (λ_ _ i wr=>∃j:Nat,j<=0/\i = .int .i64 j/\Hid (Below w.heap.size w wr)) (λ_ _ i _=>2-(intOf i).toNat)
 case atStart=>exact⟨0,by omega,rfl,Below.refl _ _⟩
 case round =>
  obtain⟨j,hj,rfl,hB⟩:=hrel;obtain rfl:j=0:=by omega
  ·skip;go_wp2_with fail;refine(K1.o _ hB.o).mono ?_;rintro e w1 ⟨rfl,b1⟩;have B1:=bh hB b1;clear b1;go_wp2_with fail;go_ret3;exact iK (by rw [HE.o,HX.o];rfl) (by rw [HE.o];exact H1.o) B1.o
theorem Mi(A B:Option Addr)(n m c d:Nat)(P Q:List Nd)(w:World)(h:Ns w A n c P)(k:Ns w B m d Q)(h1:zh P=0)(h2:zh Q≠0):
 Calls Tryz.prog 138 #[.slice A n c,.slice B m d] w (cq w P Q):=by
 have i0:∀w,(Instr.index 277 (.agg #[.slice A n c,.slice B m d]) (.int .i64 0)).run Tryz.prog w = .ok (.slice A n c) w:=λ_=>by rfl
 have i1:∀w,(Instr.index 277 (.agg #[.slice A n c,.slice B m d]) (.int .i64 1)).run Tryz.prog w = .ok (.slice B m d) w:=λ_=>by rfl
 have K1:=O (λw' hb=>zP (h.keep (w':=w') hb));have K2:=O (λw' hb=>zP (k.keep (w':=w') hb));rw [h1,zj] at K1;rw [zm h2] at K2;have HE:=O (show aO P Q=zh Q by unfold aO;rw [h1,zu,zR h2]);have HX:=O (zm h2);have H2:=O h2;clear h k h1 h2;go_enter Tryz.func138,Tryz.ntmps138;go_wp2_with fail;go_loopw [8,9,13] (λ_ _ i wr=>∃j:Nat,j<=1/\i = .int .i64 j/\Hid (Below w.heap.size w wr)) (λ_ _ i _=>2-(intOf i).toNat)
 case atStart=>exact⟨0,by omega,rfl,Below.refl _ _⟩
 case round =>
  obtain⟨j,hj,rfl,hB⟩:=hrel;rcases (show j=0\/j=1 by omega) with rfl|rfl
  ·skip;go_wp2_with fail;refine(K1.o _ hB.o).mono ?_;rintro e w1 ⟨rfl,b1⟩;have B1:=bh hB b1;clear b1;go_wp2_with fail;go_roundw
   case rel=>exact⟨1,by omega,by go_num,B1⟩
   case measure=>simp [intOf]
  ·skip;go_wp2_with fail;refine(K2.o _ hB.o).mono ?_;rintro e w1 ⟨rfl,b1⟩;have B1:=bh hB b1;clear b1;go_wp2_with fail;go_ret3;exact iK (by rw [HE.o,HX.o];rfl) (by rw [HE.o];exact H2.o) B1.o
theorem Nn(A B:Option Addr)(n m c d:Nat)(P Q:List Nd)(w:World)(h:Ns w A n c P)(k:Ns w B m d Q)(h1:zh P=0)(h2:zh Q=0)(h5:zg P≠5)(hE:cC P=0):
 Calls Tryz.prog 138 #[.slice A n c,.slice B m d] w (cq w P Q):=by
 have i0:∀w,(Instr.index 277 (.agg #[.slice A n c,.slice B m d]) (.int .i64 0)).run Tryz.prog w = .ok (.slice A n c) w:=λ_=>by rfl
 have i1:∀w,(Instr.index 277 (.agg #[.slice A n c,.slice B m d]) (.int .i64 1)).run Tryz.prog w = .ok (.slice B m d) w:=λ_=>by rfl
 have K1:=O (λw' hb=>zP (h.keep (w':=w') hb));have K2:=O (λw' hb=>zP (k.keep (w':=w') hb));rw [h1,zj] at K1;rw [h2,zj] at K2;have eY:=(zy.1 h1).2.pos;have qn:=(zy.1 h2).2.pos;obtain⟨a,rfl,D⟩:=h.at_.nd eY;obtain⟨b,rfl,E⟩:=k.at_.nd qn;rw [show a.add (0*4)=a from rfl] at D;rw [show b.add (0*4)=b from rfl] at E;have hn1:0<n:=by rw [h.len];exact eY
 have hn2:0<m:=by rw [k.len];exact qn
 have d0:=D.c0;have e0:=E.c0;rw [<-j8 eY] at d0;rw [<-j8 qn] at e0;have D0:=O (λw' (hb:Below w.heap.size w w')=>zb hb d0);have E0:=O (λw' (hb:Below w.heap.size w w')=>zb hb e0);have T1:=O (λw' hb=>aB _ n c P w' (h.keep (w':=w') hb));have T2:=O (λw' hb=>aB _ m d Q w' (k.keep (w':=w') hb));unfold dx at T1;rw [hE,zj] at T1;skip;skip;have HE:=O (show aO P Q=2 by unfold aO xJ;rw [h1,h2,zu,zu,if_neg (λq=>h5 q.1)]);have g5:(zg P != 5)=true:=by rw [bne_iff_ne];exact h5
 skip;clear h k h1 h2 h5 hE eY qn D E d0 e0 E0 T2;go_enter Tryz.func138,Tryz.ntmps138;go_wp2_with fail;go_loopw [8,9,13] (λ_ _ i wr=>∃j:Nat,j<=2/\i = .int .i64 j/\Hid (Below w.heap.size w wr)) (λ_ _ i _=>2-(intOf i).toNat)
 case atStart=>exact⟨0,by omega,rfl,Below.refl _ _⟩
 case round =>
  obtain⟨j,hj,rfl,hB⟩:=hrel;rcases (show j=0\/j=1\/j=2 by omega) with rfl|rfl|rfl
  ·skip;go_wp2_with fail;refine(K1.o _ hB.o).mono ?_;rintro e w1 ⟨rfl,b1⟩;have B1:=bh hB b1;clear b1;go_wp2_with fail;go_roundw
   case rel=>exact⟨1,by omega,by go_num,B1⟩
   case measure=>simp [intOf]
  ·skip;go_wp2_with fail;refine(K2.o _ hB.o).mono ?_;rintro e w1 ⟨rfl,b1⟩;have B1:=bh hB b1;clear b1;go_wp2_with fail;go_roundw
   case rel=>exact⟨2,by omega,by go_num,B1⟩
   case measure=>simp [intOf]
  ·go_wp2_with fail;refine(T1.o _ hB.o).mono ?_;rintro e w1 ⟨va,Va,rfl,FP,MW,Uc,b1⟩;have d1:=D0.o _ (hB.o.trans (b1.mono hB.o.size));have B1:=bh hB b1;clear b1 hB FP MW Uc;go_wp2_with fail;go_ret3;exact iK (by rw [HE.o];rfl) (by rw [HE.o];omega) B1.o
theorem NF(A B:Option Addr)(n m c d:Nat)(P Q:List Nd)(w:World)(h:Ns w A n c P)(k:Ns w B m d Q)(h1:zh P=0)(h2:zh Q=0)(h5:zg P≠5)(hE:cC P=2):
 Calls Tryz.prog 138 #[.slice A n c,.slice B m d] w (cq w P Q):=by
 have i0:∀w,(Instr.index 277 (.agg #[.slice A n c,.slice B m d]) (.int .i64 0)).run Tryz.prog w = .ok (.slice A n c) w:=λ_=>by rfl
 have i1:∀w,(Instr.index 277 (.agg #[.slice A n c,.slice B m d]) (.int .i64 1)).run Tryz.prog w = .ok (.slice B m d) w:=λ_=>by rfl
 have K1:=O (λw' hb=>zP (h.keep (w':=w') hb));have K2:=O (λw' hb=>zP (k.keep (w':=w') hb));rw [h1,zj] at K1;rw [h2,zj] at K2;have eY:=(zy.1 h1).2.pos;have qn:=(zy.1 h2).2.pos;obtain⟨a,rfl,D⟩:=h.at_.nd eY;obtain⟨b,rfl,E⟩:=k.at_.nd qn;rw [show a.add (0*4)=a from rfl] at D;rw [show b.add (0*4)=b from rfl] at E;have hn1:0<n:=by rw [h.len];exact eY
 have hn2:0<m:=by rw [k.len];exact qn
 have d0:=D.c0;have e0:=E.c0;rw [<-j8 eY] at d0;rw [<-j8 qn] at e0;have D0:=O (λw' (hb:Below w.heap.size w w')=>zb hb d0);have E0:=O (λw' (hb:Below w.heap.size w w')=>zb hb e0);have T1:=O (λw' hb=>aB _ n c P w' (h.keep (w':=w') hb));have T2:=O (λw' hb=>aB _ m d Q w' (k.keep (w':=w') hb));unfold dx at T1;rw [hE] at T1;have HT:je 2 = .iface 41 (.int .i64 2):=rfl;rw [HT] at T1;have HE:=O (show aO P Q=2 by unfold aO xJ;rw [h1,h2,zu,zu,if_neg (λq=>h5 q.1)]);have g5:(zg P != 5)=true:=by rw [bne_iff_ne];exact h5
 clear HT;clear h k h1 h2 h5 hE eY qn D E d0 e0 E0 T2;go_enter Tryz.func138,Tryz.ntmps138;go_wp2_with fail;go_loopw [8,9,13] (λ_ _ i wr=>∃j:Nat,j<=2/\i = .int .i64 j/\Hid (Below w.heap.size w wr)) (λ_ _ i _=>2-(intOf i).toNat)
 case atStart=>exact⟨0,by omega,rfl,Below.refl _ _⟩
 case round =>
  obtain⟨j,hj,rfl,hB⟩:=hrel;rcases (show j=0\/j=1\/j=2 by omega) with rfl|rfl|rfl
  ·skip;go_wp2_with fail;refine(K1.o _ hB.o).mono ?_;rintro e w1 ⟨rfl,b1⟩;have B1:=bh hB b1;clear b1;go_wp2_with fail;go_roundw
   case rel=>exact⟨1,by omega,by go_num,B1⟩
   case measure=>simp [intOf]
  ·skip;go_wp2_with fail;refine(K2.o _ hB.o).mono ?_;rintro e w1 ⟨rfl,b1⟩;have B1:=bh hB b1;clear b1;go_wp2_with fail;go_roundw
   case rel=>exact⟨2,by omega,by go_num,B1⟩
   case measure=>simp [intOf]
  ·go_wp2_with fail;refine(T1.o _ hB.o).mono ?_;rintro e w1 ⟨va,Va,rfl,FP,MW,Uc,b1⟩;have d1:=D0.o _ (hB.o.trans (b1.mono hB.o.size));have B1:=bh hB b1;clear b1 hB FP MW Uc;go_wp2_with fail;go_ret3;exact iK (by rw [HE.o];rfl) (by rw [HE.o];omega) B1.o
theorem Qk(A B:Option Addr)(n m c d:Nat)(P Q:List Nd)(w:World)(h:Ns w A n c P)(k:Ns w B m d Q)(h1:zh P=0)(h2:zh Q=0)(h5:zg P=5)(ML:cC P=0)(h6:zg Q≠5)(hE:cC Q=0):
 Calls Tryz.prog 138 #[.slice A n c,.slice B m d] w (cq w P Q):=by
 have i0:∀w,(Instr.index 277 (.agg #[.slice A n c,.slice B m d]) (.int .i64 0)).run Tryz.prog w = .ok (.slice A n c) w:=λ_=>by rfl
 have i1:∀w,(Instr.index 277 (.agg #[.slice A n c,.slice B m d]) (.int .i64 1)).run Tryz.prog w = .ok (.slice B m d) w:=λ_=>by rfl
 have K1:=O (λw' hb=>zP (h.keep (w':=w') hb));have K2:=O (λw' hb=>zP (k.keep (w':=w') hb));rw [h1,zj] at K1;rw [h2,zj] at K2;have eY:=(zy.1 h1).2.pos;have qn:=(zy.1 h2).2.pos;obtain⟨a,rfl,D⟩:=h.at_.nd eY;obtain⟨b,rfl,E⟩:=k.at_.nd qn;rw [show a.add (0*4)=a from rfl] at D;rw [show b.add (0*4)=b from rfl] at E;have hn1:0<n:=by rw [h.len];exact eY
 have hn2:0<m:=by rw [k.len];exact qn
 have d0:=D.c0;have e0:=E.c0;rw [<-j8 eY] at d0;rw [<-j8 qn] at e0;have D0:=O (λw' (hb:Below w.heap.size w w')=>zb hb d0);have E0:=O (λw' (hb:Below w.heap.size w w')=>zb hb e0);have T1:=O (λw' hb=>aB _ n c P w' (h.keep (w':=w') hb));have T2:=O (λw' hb=>aB _ m d Q w' (k.keep (w':=w') hb));unfold dx at T1 T2;rw [ML,zj] at T1;rw [hE,zj] at T2;skip;skip;have HE:=O (show aO P Q=2 by unfold aO xJ;rw [h1,h2,zu,zu,if_neg (λq=>h6 q.2)]);have g5:(zg Q != 5)=true:=by rw [bne_iff_ne];exact h6
 rw [h5] at D0;skip;clear h k h1 h2 h5 h6 hE ML eY qn D E d0 e0;go_enter Tryz.func138,Tryz.ntmps138;go_wp2_with fail;go_loopw [8,9,13] (λ_ _ i wr=>∃j:Nat,j<=2/\i = .int .i64 j/\Hid (Below w.heap.size w wr)) (λ_ _ i _=>2-(intOf i).toNat)
 case atStart=>exact⟨0,by omega,rfl,Below.refl _ _⟩
 case round =>
  obtain⟨j,hj,rfl,hB⟩:=hrel;rcases (show j=0\/j=1\/j=2 by omega) with rfl|rfl|rfl
  ·skip;go_wp2_with fail;refine(K1.o _ hB.o).mono ?_;rintro e w1 ⟨rfl,b1⟩;have B1:=bh hB b1;clear b1;go_wp2_with fail;go_roundw
   case rel=>exact⟨1,by omega,by go_num,B1⟩
   case measure=>simp [intOf]
  ·skip;go_wp2_with fail;refine(K2.o _ hB.o).mono ?_;rintro e w1 ⟨rfl,b1⟩;have B1:=bh hB b1;clear b1;go_wp2_with fail;go_roundw
   case rel=>exact⟨2,by omega,by go_num,B1⟩
   case measure=>simp [intOf]
  ·go_wp2_with fail;refine(T1.o _ hB.o).mono ?_;rintro e w1 ⟨va,Va,rfl,FP,MW,Uc,b1⟩;have d1:=D0.o _ (hB.o.trans (b1.mono hB.o.size));have B1:=bh hB b1;have O1:=O FP;have L1:=O MW;have z1:=hB.o.size;clear b1 hB FP MW Uc;go_wp2_with fail;refine(T2.o _ B1.o).mono ?_;rintro e w2 ⟨vb,Vb,rfl,FR,hL2,hF2,b2⟩;have e1:=E0.o _ (B1.o.trans (b2.mono B1.o.size));have B2:=bh B1 b2;clear b2 FR hL2 hF2 B1 O1 L1;go_wp2_with fail;go_ret3;exact iK (by rw [HE.o];rfl) (by rw [HE.o];omega) B2.o
theorem PE(A B:Option Addr)(n m c d:Nat)(P Q:List Nd)(w:World)(h:Ns w A n c P)(k:Ns w B m d Q)(h1:zh P=0)(h2:zh Q=0)(h5:zg P=5)(ML:cC P=0)(h6:zg Q≠5)(hE:cC Q=2):
 Calls Tryz.prog 138 #[.slice A n c,.slice B m d] w (cq w P Q):=by
 have i0:∀w,(Instr.index 277 (.agg #[.slice A n c,.slice B m d]) (.int .i64 0)).run Tryz.prog w = .ok (.slice A n c) w:=λ_=>by rfl
 have i1:∀w,(Instr.index 277 (.agg #[.slice A n c,.slice B m d]) (.int .i64 1)).run Tryz.prog w = .ok (.slice B m d) w:=λ_=>by rfl
 have K1:=O (λw' hb=>zP (h.keep (w':=w') hb));have K2:=O (λw' hb=>zP (k.keep (w':=w') hb));rw [h1,zj] at K1;rw [h2,zj] at K2;have eY:=(zy.1 h1).2.pos;have qn:=(zy.1 h2).2.pos;obtain⟨a,rfl,D⟩:=h.at_.nd eY;obtain⟨b,rfl,E⟩:=k.at_.nd qn;rw [show a.add (0*4)=a from rfl] at D;rw [show b.add (0*4)=b from rfl] at E;have hn1:0<n:=by rw [h.len];exact eY
 have hn2:0<m:=by rw [k.len];exact qn
 have d0:=D.c0;have e0:=E.c0;rw [<-j8 eY] at d0;rw [<-j8 qn] at e0;have D0:=O (λw' (hb:Below w.heap.size w w')=>zb hb d0);have E0:=O (λw' (hb:Below w.heap.size w w')=>zb hb e0);have T1:=O (λw' hb=>aB _ n c P w' (h.keep (w':=w') hb));have T2:=O (λw' hb=>aB _ m d Q w' (k.keep (w':=w') hb));unfold dx at T1 T2;rw [ML,zj] at T1;rw [hE] at T2;have HT:je 2 = .iface 41 (.int .i64 2):=rfl;rw [HT] at T2;have HE:=O (show aO P Q=2 by unfold aO xJ;rw [h1,h2,zu,zu,if_neg (λq=>h6 q.2)]);have g5:(zg Q != 5)=true:=by rw [bne_iff_ne];exact h6
 rw [h5] at D0;clear HT;clear h k h1 h2 h5 h6 hE ML eY qn D E d0 e0;go_enter Tryz.func138,Tryz.ntmps138;go_wp2_with fail;go_loopw [8,9,13] (λ_ _ i wr=>∃j:Nat,j<=2/\i = .int .i64 j/\Hid (Below w.heap.size w wr)) (λ_ _ i _=>2-(intOf i).toNat)
 case atStart=>exact⟨0,by omega,rfl,Below.refl _ _⟩
 case round =>
  obtain⟨j,hj,rfl,hB⟩:=hrel;rcases (show j=0\/j=1\/j=2 by omega) with rfl|rfl|rfl
  ·skip;go_wp2_with fail;refine(K1.o _ hB.o).mono ?_;rintro e w1 ⟨rfl,b1⟩;have B1:=bh hB b1;clear b1;go_wp2_with fail;go_roundw
   case rel=>exact⟨1,by omega,by go_num,B1⟩
   case measure=>simp [intOf]
  ·skip;go_wp2_with fail;refine(K2.o _ hB.o).mono ?_;rintro e w1 ⟨rfl,b1⟩;have B1:=bh hB b1;clear b1;go_wp2_with fail;go_roundw
   case rel=>exact⟨2,by omega,by go_num,B1⟩
   case measure=>simp [intOf]
  ·go_wp2_with fail;refine(T1.o _ hB.o).mono ?_;rintro e w1 ⟨va,Va,rfl,FP,MW,Uc,b1⟩;have d1:=D0.o _ (hB.o.trans (b1.mono hB.o.size));have B1:=bh hB b1;have O1:=O FP;have L1:=O MW;have z1:=hB.o.size;clear b1 hB FP MW Uc;go_wp2_with fail;refine(T2.o _ B1.o).mono ?_;rintro e w2 ⟨vb,Vb,rfl,FR,hL2,hF2,b2⟩;have e1:=E0.o _ (B1.o.trans (b2.mono B1.o.size));have B2:=bh B1 b2;clear b2 FR hL2 hF2 B1 O1 L1;go_wp2_with fail;go_ret3;exact iK (by rw [HE.o];rfl) (by rw [HE.o];omega) B2.o
theorem TX(A B:Option Addr)(n m c d:Nat)(P Q:List Nd)(w:World)(h:Ns w A n c P)(k:Ns w B m d Q)(h1:zh P=0)(h2:zh Q=0)(h5:zg P=5)(h6:zg Q=5):
 Calls Tryz.prog 138 #[.slice A n c,.slice B m d] w (cq w P Q):=by
 have i0:∀w,(Instr.index 277 (.agg #[.slice A n c,.slice B m d]) (.int .i64 0)).run Tryz.prog w = .ok (.slice A n c) w:=λ_=>by rfl
 have i1:∀w,(Instr.index 277 (.agg #[.slice A n c,.slice B m d]) (.int .i64 1)).run Tryz.prog w = .ok (.slice B m d) w:=λ_=>by rfl
 have K1:=O (λw' hb=>zP (h.keep (w':=w') hb));have K2:=O (λw' hb=>zP (k.keep (w':=w') hb));rw [h1,zj] at K1;rw [h2,zj] at K2;have eY:=(zy.1 h1).2.pos;have qn:=(zy.1 h2).2.pos;obtain⟨a,rfl,D⟩:=h.at_.nd eY;obtain⟨b,rfl,E⟩:=k.at_.nd qn;rw [show a.add (0*4)=a from rfl] at D;rw [show b.add (0*4)=b from rfl] at E;have hn1:0<n:=by rw [h.len];exact eY
 have hn2:0<m:=by rw [k.len];exact qn
 have d0:=D.c0;have e0:=E.c0;rw [<-j8 eY] at d0;rw [<-j8 qn] at e0;have D0:=O (λw' (hb:Below w.heap.size w w')=>zb hb d0);have E0:=O (λw' (hb:Below w.heap.size w w')=>zb hb e0);have T1:=O (λw' hb=>aB _ n c P w' (h.keep (w':=w') hb));have T2:=O (λw' hb=>aB _ m d Q w' (k.keep (w':=w') hb));have ML:cC P=0:=by unfold cC;rw [if_pos h1,if_pos (.inl h5)]
 have hE2:cC Q=0:=by unfold cC;rw [if_pos h2,if_pos (.inl h6)]
 have P1:=O (show ic P=zn P by unfold ic;rw [if_pos ML,if_pos h5]);have P2:=O (show ic Q=zn Q by unfold ic;rw [if_pos hE2,if_pos h6]);unfold dx at T1 T2;rw [ML,zj] at T1;rw [hE2,zj] at T2;have HE:=O (show aO P Q=0 from gh.2 ⟨h1,h2,h5,h6⟩);rw [h5] at D0;rw [h6] at E0;clear h k h1 h2 h5 h6 ML hE2 eY qn D E d0 e0;go_enter Tryz.func138,Tryz.ntmps138;go_wp2_with fail;go_loopw [8,9,13] (λ_ _ i wr=>∃j:Nat,j<=2/\i = .int .i64 j/\Hid (Below w.heap.size w wr)) (λ_ _ i _=>2-(intOf i).toNat)
 case atStart=>exact⟨0,by omega,rfl,Below.refl _ _⟩
 case round =>
  obtain⟨j,hj,rfl,hB⟩:=hrel;rcases (show j=0\/j=1\/j=2 by omega) with rfl|rfl|rfl
  ·skip;go_wp2_with fail;refine(K1.o _ hB.o).mono ?_;rintro e w1 ⟨rfl,b1⟩;have B1:=bh hB b1;clear b1;go_wp2_with fail;go_roundw
   case rel=>exact⟨1,by omega,by go_num,B1⟩
   case measure=>simp [intOf]
  ·skip;go_wp2_with fail;refine(K2.o _ hB.o).mono ?_;rintro e w1 ⟨rfl,b1⟩;have B1:=bh hB b1;clear b1;go_wp2_with fail;go_roundw
   case rel=>exact⟨2,by omega,by go_num,B1⟩
   case measure=>simp [intOf]
  ·go_wp2_with fail;refine(T1.o _ hB.o).mono ?_;rintro e w1 ⟨va,Va,rfl,FP,MW,Uc,b1⟩;have d1:=D0.o _ (hB.o.trans (b1.mono hB.o.size));have B1:=bh hB b1;have O1:=O FP;have L1:=O MW;have z1:=hB.o.size;clear b1 hB FP MW Uc;go_wp2_with fail;refine(T2.o _ B1.o).mono ?_;rintro e w2 ⟨vb,Vb,rfl,FR,hL2,hF2,b2⟩;have e1:=E0.o _ (B1.o.trans (b2.mono B1.o.size));have B2:=bh B1 b2;have O2:=O (O1.o.keep b2);have O3:=O (FR.mono (B1.o.size));have L2:=O hL2;have AB:=O (show va.ownBlock=none\/va.ownBlock≠vb.ownBlock by
    rcases hv:va.ownBlock with _|g
    ·exact .inl rfl
    ·refine .inr (λq=>?_)
     have:=ej O1.o.own g hv
     have:=jk FR.own g q.symm
     omega)
   have AP:=O (show∀r∈Vb,bj r va.ownBlock from λr hr _ a' ea q=>by
    have:=ej O1.o.own a'.block q
    have:=hF2 r hr a' ea
    omega)
   have M1:=O (O2.o.mono z1);clear b2 FR hL2 hF2 O1 B1 O2;go_wp2_with fail;go_ret3;exact⟨va,vb,Va,Vb,by rw [HE.o];rfl,M1.o,O3.o,λ_=>⟨L1.o.trans P1.o,L2.o.trans P2.o⟩,AB.o,AP.o,B2.o⟩
theorem Fv(A B:Option Addr)(n m c d:Nat)(P Q:List Nd)(w:World)(h:Ns w A n c P)(k:Ns w B m d Q):Calls Tryz.prog 138 #[.slice A n c,.slice B m d] w (cq w P Q):=by
 by_cases h1:zh P=0
 ·by_cases h2:zh Q=0
  ·rcases xC h1 with ⟨a1,a2⟩|⟨a1,a2⟩|⟨a1,a2⟩
   ·rcases xC h2 with ⟨b1,b2⟩|⟨b1,b2⟩|⟨b1,b2⟩
    ·exact TX A B n m c d P Q w h k h1 h2 a1 b1
    ·exact Qk A B n m c d P Q w h k h1 h2 a1 a2 b1 b2
    ·exact PE A B n m c d P Q w h k h1 h2 a1 a2 b1 b2
   ·exact Nn A B n m c d P Q w h k h1 h2 a1 a2
   ·exact NF A B n m c d P Q w h k h1 h2 a1 a2
  ·exact Mi A B n m c d P Q w h k h1 h2
 ·exact Mc A B n m c d P Q w h k h1
end Go.Proofs.YthifljpkgfpkiaaGreatDoor
namespace Go.Wk
def pw(P Q:List Nd):Int:=or2 (zh P) (or2 (zh Q) (if zg P=5 then 0 else 2))
def rX(P Q:List Nd):Bool:=decide (pw P Q=0)&& nR (zn P) Q
def Ap(P Q:List Nd):Bool:=decide (aO P Q=0)&& decide (((zn Q).filter λx=>nR (zn P) x).length=(zn Q).length)
def CZ(P Q:List Nd):Bool:=decide (aO P Q=0)&&(zn Q).any λx=>nR (zn P) x
theorem LH{L:List (List Nd)}(h:∀Q∈L,IsV Q):L.length<=L.flatten.length:=by
 induction L with
 | nil=>simp
 | cons Q L ih =>
  have:=(h Q (by simp)).pos
  have:=ih (λR hR=>h R (by simp [hR]))
  simp only [List.length_cons,List.flatten_cons,List.length_append]
  omega
theorem dS{P:List Nd}(h:zh P=0)(h5:zg P=5):(zn P).length<=200:=by
 obtain⟨hl,hV⟩:=zy.1 h;obtain⟨e,-,h3,-⟩:=dc hV h5;have:=congrArg List.length e;have:=LH h3;simp only [List.length_cons] at *;omega
theorem Ka{P Q:List Nd}:pw P Q=0↔zh P=0/\zh Q=0/\zg P=5:=by
 unfold pw or2;by_cases h1:zh P=0
 ·rw [if_pos h1];by_cases h2:zh Q=0
  ·rw [if_pos h2];by_cases h3:zg P=5
   ·rw [if_pos h3];exact⟨λ_=>⟨h1,h2,h3⟩,λ_=>rfl⟩
   ·rw [if_neg h3];exact⟨λh=>by omega,λh=>absurd h.2.2 h3⟩
  ·rw [if_neg h2];exact⟨λh=>absurd h h2,λh=>absurd h.2.1 h2⟩
 ·rw [if_neg h1];exact⟨λh=>absurd h h1,λh=>absurd h.1 h1⟩
end Go.Wk
namespace Go.Proofs.YthifljpkgfpkiaaGreatDoor
open Go.RowKit Go.Wk Go.Sort
theorem qR{w:World}{B:Nat}{v:Value}{V:List Sl}(h:zU w B v V):∃A c,v = .slice A V.length c/\jM w A V :=
 let ⟨A,c,h1,_,h2⟩:=h.at;⟨A,c,h1,h2⟩
theorem ui(V:List Sl)(p:List Nd->Bool):(V.filter λr=>p r.P).length=((V.map Sl.P).filter p).length:=by
 rw [List.filter_map,List.length_map];rfl
theorem S5(A B:Option Addr)(n m c d:Nat)(P Q:List Nd)(w:World)(h:Ns w A n c P)(k:Ns w B m d Q):
 Calls Tryz.prog 102 #[.slice A n c,.slice B m d] w λe w'=>e = .returned (.tuple #[.bool (rX P Q),je (pw P Q)])/\Below w.heap.size w w':=by
 have K1:=O (λw' hb=>zP (h.keep (w':=w') hb));have K2:=O (λw' hb=>zP (k.keep (w':=w') hb));by_cases h1:zh P=0
 ·by_cases h2:zh Q=0
  ·rw [h1,zj] at K1;rw [h2,zj] at K2;have eY:=(zy.1 h1).2.pos;obtain⟨a,rfl,D⟩:=h.at_.nd eY;rw [show a.add (0*4)=a from rfl] at D;have hn1:0<n:=by rw [h.len];exact eY
   have d0:=D.c0;rw [<-j8 eY] at d0;by_cases h5:zg P=5
   ·have hE:pw P Q=0:=Ka.2 ⟨h1,h2,h5⟩;have HE:=O hE;have HV:=O (show rX P Q=nR (zn P) Q by unfold rX;rw [hE];simp);have ML:cC P=0:=by unfold cC;rw [if_pos h1,if_pos (.inl h5)]
    have P1:=O (show ic P=zn P by unfold ic;rw [if_pos ML,if_pos h5]);have T1:=O (λw' hb=>aB _ n c P w' (h.keep (w':=w') hb));unfold dx at T1;rw [ML,zj] at T1;have HK:=O k;have HL:=O (dS h1 h5);rw [h5] at d0;have D0:=O (λw' (hb:Below w.heap.size w w')=>zb hb d0);clear h k h1 h2 h5 hE ML eY D d0;go_enter Tryz.func102,Tryz.ntmps102;go_wp2_with fail;refine(K1.o _ (Below.refl _ _)).mono ?_;rintro e w1 ⟨rfl,b1⟩;have B1:=O b1;clear b1;go_wp2_with fail;refine(K2.o _ B1.o).mono ?_;rintro e w2 ⟨rfl,b2⟩;have B2:=bh B1 b2;have d2:=D0.o _ B2.o;clear b2 B1;go_wp2_with fail;refine(T1.o _ B2.o).mono ?_;rintro e w3 ⟨va,Va,rfl,hO,hL,hF,b3⟩;have B3:=bh B2 b3;obtain⟨A2,c2,rfl,hS⟩:=qR hO;have HS:=O hS;have BV:Va.length<=200:=by have:=congrArg List.length (hL.trans P1.o);have:=HL.o;simp only [List.length_map] at *;omega
    have HB:=O (Aw A2 B Va.length m c2 d Va Q w3 rfl (by unfold maxLen;omega) hS (HK.o.keep B3.o));rw [hL.trans P1.o] at HB;clear hO hL hF b3 B2 d2 hS;go_wp2_with fail;refine(HB.o).mono ?_;rintro e w4 ⟨rfl,b4⟩;have B4:=bh B3 b4;clear b4 B3;go_wp2_with fail;go_ret2;exact⟨by rw [HV.o,HE.o];rfl,B4.o⟩
   ·have hE:pw P Q=2:=by unfold pw;rw [h1,h2,zu,zu,if_neg h5]
    have HE:=O hE;have HV:=O (show rX P Q=false by unfold rX;rw [hE];rfl);have g5:(zg P != 5)=true:=by rw [bne_iff_ne];exact h5
    have D0:=O (λw' (hb:Below w.heap.size w w')=>zb hb d0);clear h k h1 h2 h5 hE eY D d0;go_enter Tryz.func102,Tryz.ntmps102;go_wp2_with fail;refine(K1.o _ (Below.refl _ _)).mono ?_;rintro e w1 ⟨rfl,b1⟩;have B1:=O b1;clear b1;go_wp2_with fail;refine(K2.o _ B1.o).mono ?_;rintro e w2 ⟨rfl,b2⟩;have B2:=bh B1 b2;have d2:=D0.o _ B2.o;clear b2 B1;go_wp2_with fail;go_ret2;exact⟨by rw [HV.o,HE.o];rfl,B2.o⟩
  ·have hE:pw P Q=zh Q:=by unfold pw;rw [h1,zu,zR h2]
   have HV:=O (show rX P Q=false by unfold rX;rw [hE,decide_eq_false h2];rfl);rw [h1,zj] at K1;rw [zm h2] at K2;have HX:=O (zm h2);have HE:=O hE;clear h k h1 h2 hE;go_enter Tryz.func102,Tryz.ntmps102;go_wp2_with fail;refine(K1.o _ (Below.refl _ _)).mono ?_;rintro e w1 ⟨rfl,b1⟩;have B1:=O b1;clear b1;go_wp2_with fail;refine(K2.o _ B1.o).mono ?_;rintro e w2 ⟨rfl,b2⟩;have B2:=bh B1 b2;clear b2 B1;go_wp2_with fail;go_ret2;exact⟨by rw [HV.o,HE.o,HX.o];rfl,B2.o⟩
 ·have hE:pw P Q=zh P:=zR h1 _;have HV:=O (show rX P Q=false by unfold rX;rw [hE,decide_eq_false h1];rfl);rw [zm h1] at K1;have HX:=O (zm h1);have HE:=O hE;clear h k h1 hE;go_enter Tryz.func102,Tryz.ntmps102;go_wp2_with fail;refine(K1.o _ (Below.refl _ _)).mono ?_;rintro e w1 ⟨rfl,b1⟩;go_wp2_with fail;go_ret2;exact⟨by rw [HV.o,HE.o,HX.o];rfl,b1⟩
theorem Ts(A B:Option Addr)(n m c d:Nat)(P Q:List Nd)(w:World)(h:Ns w A n c P)(k:Ns w B m d Q):
 Calls Tryz.prog 103 #[.slice A n c,.slice B m d] w λe w'=>e = .returned (.tuple #[.bool (Ap P Q),je (aO P Q)])/\Below w.heap.size w w':=by
 have C:=O (Fv A B n m c d P Q w h k);unfold cq at C;have hmf:∀(fn:Fn) (first cap:Array Value) (w:World),(Instr.makeFunc fn first cap).run Tryz.prog w = .ok (.func fn first cap) w:=λ_ _ _ _=>rfl;clear h k;by_cases h0:aO P Q=0
 ·have HE:=O h0;have HV:=O (show Ap P Q=decide (((zn Q).filter λx=>nR (zn P) x).length=(zn Q).length) by unfold Ap;rw [h0];simp);obtain⟨h1,h2,h5,h6⟩:=gh.1 h0;have L1:=O (dS h1 h5);have L2:=O (dS h2 h6);rw [h0,zj] at C;clear h0 h1 h2 h5 h6;go_enter Tryz.func103,Tryz.ntmps103;go_wp2_with fail;refine(C.o).mono ?_;rintro e w1 ⟨va,vb,Va,Vb,rfl,hA,hB,hL,-,-,b1⟩;obtain⟨e1,e2⟩:=hL (by first|trivial|rfl);obtain⟨A1,c1,rfl,hS1⟩:=qR hA;obtain⟨A2,c2,rfl,UY⟩:=qR hB;have BP:Va.length<=200:=by have:=congrArg List.length e1;have:=L1.o;simp only [List.length_map] at *;omega
  have hl2:Vb.length<=200:=by have:=congrArg List.length e2;have:=L2.o;simp only [List.length_map] at *;omega
  have KK:=O (Pf A2 Vb.length c2 Vb (λx=>nR (zn P) x) A1 Va.length c1 w1 rfl (by omega) UY
   (O λr w' hb hr=>by rw [<-e1];exact Aw A1 r.A Va.length r.n c1 r.c Va r.P w' rfl (by unfold maxLen;omega) (hS1.keep hb) hr))
  have E2:=O e2;have B1:=O b1;clear hA hB hL hS1 UY e1 e2 b1;go_wp2_with fail;refine KK.o.mono ?_;rintro e w2 ⟨v,rfl,hO,b2⟩;have B2:=bh B1 b2;obtain⟨A3,c3,rfl,-⟩:=qR hO;have MU:=O (ui Vb (λx=>nR (zn P) x));have HLB:=O (show Vb.length=(zn Q).length by have:=congrArg List.length E2.o;simpa using this);have FO:=O (show(((Vb.filter λr=>nR (zn P) r.P).length:Int)==(Vb.length:Int))=Ap P Q by
   rw [HV.o,<-E2.o,<-MU.o,List.length_map,Bool.eq_iff_iff,beq_iff_eq,decide_eq_true_iff];omega)
  clear hO b2 B1;go_wp2_with fail;go_ret2;exact⟨by rw [<-FO.o,HE.o];rfl,B2.o⟩
 ·have HE:=O (zm h0);have HV:=O (show Ap P Q=false by unfold Ap;rw [decide_eq_false h0];rfl);rw [zm h0] at C;clear h0;go_enter Tryz.func103,Tryz.ntmps103;go_wp2_with fail;refine(C.o).mono ?_;rintro e w1 ⟨va,vb,Va,Vb,rfl,hA,hB,hL,-,-,b1⟩;go_wp2_with fail;go_ret2;exact⟨by rw [HV.o,HE.o];rfl,b1⟩
theorem Sj(A B:Option Addr)(n m c d:Nat)(P Q:List Nd)(w:World)(h:Ns w A n c P)(k:Ns w B m d Q):
 Calls Tryz.prog 104 #[.slice A n c,.slice B m d] w λe w'=>e = .returned (.tuple #[.bool (CZ P Q),je (aO P Q)])/\Below w.heap.size w w':=by
 have C:=O (Fv A B n m c d P Q w h k);unfold cq at C;have hmf:∀(fn:Fn) (first cap:Array Value) (w:World),(Instr.makeFunc fn first cap).run Tryz.prog w = .ok (.func fn first cap) w:=λ_ _ _ _=>rfl;clear h k;by_cases h0:aO P Q=0
 ·have HE:=O h0;have HV:=O (show CZ P Q=(zn Q).any λx=>nR (zn P) x by unfold CZ;rw [h0];simp);obtain⟨h1,h2,h5,h6⟩:=gh.1 h0;have L1:=O (dS h1 h5);have L2:=O (dS h2 h6);rw [h0,zj] at C;clear h0 h1 h2 h5 h6;go_enter Tryz.func104,Tryz.ntmps104;go_wp2_with fail;refine(C.o).mono ?_;rintro e w1 ⟨va,vb,Va,Vb,rfl,hA,hB,hL,-,-,b1⟩;obtain⟨e1,e2⟩:=hL (by first|trivial|rfl);obtain⟨A1,c1,rfl,hS1⟩:=qR hA;obtain⟨A2,c2,rfl,UY⟩:=qR hB;have BP:Va.length<=200:=by have:=congrArg List.length e1;have:=L1.o;simp only [List.length_map] at *;omega
  have hl2:Vb.length<=200:=by have:=congrArg List.length e2;have:=L2.o;simp only [List.length_map] at *;omega
  have KK:=O (Ao A2 Vb.length c2 Vb (λx=>nR (zn P) x) A1 Va.length c1 w1 rfl (by unfold maxLen;omega) UY
   (O λr w' hb hr=>by rw [<-e1];exact Aw A1 r.A Va.length r.n c1 r.c Va r.P w' rfl (by unfold maxLen;omega) (hS1.keep hb) hr))
  have E2:=O e2;have B1:=O b1;have FC:=O (show(Vb.any λr=>nR (zn P) r.P)=(zn Q).any λx=>nR (zn P) x by rw [<-e2,List.any_map];rfl);clear hA hB hL hS1 UY e1 e2 b1;go_wp2_with fail;refine KK.o.mono ?_;rintro e w2 ⟨rfl,b2⟩;have B2:=bh B1 b2;clear b2 B1;go_wp2_with fail;go_ret2;exact⟨by rw [HV.o,HE.o,<-FC.o];rfl,B2.o⟩
 ·have HE:=O (zm h0);have HV:=O (show CZ P Q=false by unfold CZ;rw [decide_eq_false h0];rfl);rw [zm h0] at C;clear h0;go_enter Tryz.func104,Tryz.ntmps104;go_wp2_with fail;refine(C.o).mono ?_;rintro e w1 ⟨va,vb,Va,Vb,rfl,hA,hB,hL,-,-,b1⟩;go_wp2_with fail;go_ret2;exact⟨by rw [HV.o,HE.o];rfl,b1⟩
end Go.Proofs.YthifljpkgfpkiaaGreatDoor
