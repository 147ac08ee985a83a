/-
  The document's in: below one of these. (gen_refin.py) The document's two: a ..
-/
import Derived.Test.YtokiogmfgpidmaaGreatDoorD44
set_option maxRecDepth 100000
set_option maxHeartbeats 8000000
namespace Go.Proofs.YtokiogmfgpidmaaGreatDoor
open Go.RowKit Go.Wk Go.Sort
structure VuG(w:World)(b:Nat)(x y:ByteArray):Prop where
 c0:w.cell? ⟨b,0,none⟩=some (.string x)
 c1:w.cell? ⟨b,1,none⟩=some (.string y)
theorem VuG.keep{w w':World}{b:Nat}{x y:ByteArray}(h:VuG w b x y)(hb:Below w.heap.size w w'):VuG w' b x y:=⟨za hb h.c0,za hb h.c1⟩
theorem Ti(w:World)(x y:ByteArray)(t:TypeId):VuG (w.alloc (.cells #[.string x,.string y] t)) w.heap.size x y:=⟨(IP w _ _ t).1,(IP w _ _ t).2⟩
theorem zeU{E:List En}(h:jW E=0)(a b:Ud):inB E a b=(decide (a=b)|| zc9 E a b):=by
 rw [Bool.eq_iff_iff,Bool.or_eq_true,zbn,decide_eq_true_iff];constructor
 ·intro hb;by_cases hc:b=a\/Abv (jn E) a b
  ·exact hc.imp (λe=>e.symm) id
  ·rw [WP hc] at hb;cases hb
 ·intro hc;exact za9 h (hc.imp (λe=>e.symm) id)
theorem znF(S:Nat->Prop)(EA:Option Addr)(en ec:Nat)(E:List En)(A B:Option Addr)(n m c d:Nat)(P Q:List Nd)(w:World)(hE:Es w EA en ec E)(hS:jW E=0)(h:Ns w A n c P)(k:Ns w B m d Q)(h1:zc P=0)(h2:zc Q=0)(g5:zf Q≠5):
 Calls Tryz.prog 84 #[.slice EA en ec,.agg #[.slice A n c,.int .i64 0],.agg #[.slice B m d,.int .i64 0]] w (zK S w (inX E P Q)):=by
 have B0:=tB w A B n m c d;have X0:=tX w A B n m c d;have R0:=tR w A B n m c d;have KP:=O (λ(o:Int) w' (hb:Below w.heap.size w w')=>zQ A n c P o w' (h.keep hb) (zk h1));have KQ:=O (λ(o:Int) w' (hb:Below w.heap.size w w')=>zQ B m d Q o w' (k.keep hb) (zk h2));have HP:=O h;have HQ:=O k;have K5:=O (KQ.o 5 _ B0.o);have K4:=O (KP.o 4);have HEs:=O hE;have VN:=O hS;have zn6:=O (show(vY E).length<=900 from by have h1:=zbE (sM.1 hS).2.1;have h2:=(sM.1 hS).1;omega);obtain⟨f4,hf4⟩:∃f4:Bool,f4=(zf P==4):=⟨_,rfl⟩
 rw [<-hf4] at K4;have HF4:=O hf4;clear hf4;have HP0:=O (zk h1);obtain⟨TL,QJ⟩:∃TL,TL=f9 Q:=⟨_,rfl⟩
 obtain⟨rr,Ol⟩:∃rr,rr=inX E P Q:=⟨_,rfl⟩
 have HRR:=O (show((f4 && TL.all λt=>decide (zf t=4))=true->rr = .ok (zI (TL.any λt=>inB E (jc P) (jc t))))/\((f4 && TL.all λt=>decide (zf t=4))=false->rr = .error 2) from by
  have hx:(zf P=4/\TL.all (λt=>decide (zf t=4))=true)↔(f4 && TL.all λt=>decide (zf t=4))=true:=by
   rw [HF4.o,Bool.and_eq_true,beq_iff_eq]
  rw [Ol,QJ]
  rw [QJ] at hx
  unfold inX
  exact⟨λc=>if_pos (hx.2 c),λc=>if_neg λq=>by rw [hx.1 q] at c;cases c⟩)
 rw [<-Ol];have K5':=O (KQ.o 5);rw [show(zf Q==5)=false from beq_eq_false_iff_ne.2 g5] at K5';have HQ0:=O (zk h2);have BX:=zb (((w.alloc (.cells #[.slice A n c,.int .i64 0] 61)).alloc (.cells #[.slice B m d,.int .i64 0] 61)).alloc (.cells #[.slice none 0 0,.int .i64 0] 61)) (.cells #[.slice B m d] 22);have B1:=bh B0 BX;have X1:=O (X0.o.keep BX);have R1:=O (R0.o.keep BX);have hz0:(((w.alloc (.cells #[.slice A n c,.int .i64 0] 61)).alloc (.cells #[.slice B m d,.int .i64 0] 61)).alloc (.cells #[.slice none 0 0,.int .i64 0] 61)).heap.size=w.heap.size+1+1+1:=by simp [go_sem]
 have T0:=zlQ (((w.alloc (.cells #[.slice A n c,.int .i64 0] 61)).alloc (.cells #[.slice B m d,.int .i64 0] 61)).alloc (.cells #[.slice none 0 0,.int .i64 0] 61)) ⟨B,m,d,Q⟩ (k.keep B0.o) 22;rw [hz0] at T0;have VK:=O T0;have QL:=O (show([⟨B,m,d,Q⟩]:List Sl).map Sl.P=TL by rw [QJ];unfold f9;rw [if_neg g5];rfl);have HTP:=O (show∀r∈([⟨B,m,d,Q⟩]:List Sl),0<r.P.length from λr hr=>by simp only [List.mem_cons,List.not_mem_nil,or_false] at hr;subst hr;exact zk h2);have Ng:=O (show 1=([⟨B,m,d,Q⟩]:List Sl).length from rfl);obtain⟨VT,hVT⟩:∃VT,VT=([⟨B,m,d,Q⟩]:List Sl):=⟨_,rfl⟩
 rw [<-hVT] at VK QL HTP Ng;clear hVT QJ Ol h k h1 h2 g5 KP KQ hE hS BX hz0 T0 X0 R0 B0 K5;obtain⟨⟨x0,x1⟩,⟨y0,y1⟩⟩:=X1.o;go_enter Tryz.func84,Tryz.ntmps84;go_wp2_with fail;refine(K5'.o _ B1.o).mono ?_;rintro e w2 ⟨rfl,b2⟩;have B2:=bh B1 b2;have X2:=O (X1.o.keep b2);have R2:=O (R1.o.keep b2);clear x0 x1 y0 y1;replace VK:=O (VK.o.keep b2);clear b2 B1 X1 R1;obtain⟨⟨x0,x1⟩,⟨y0,y1⟩⟩:=X2.o;go_wp2_with fail;refine(K4.o _ B2.o).mono ?_;rintro e w3 ⟨rfl,b3⟩;have B3:=bh B2 b3;have X3:=O (X2.o.keep b3);have R3:=O (R2.o.keep b3);clear x0 x1 y0 y1;replace VK:=O (VK.o.keep b3);clear b3 B2 X2 R2;go_wp2_with fail;go_loopw [8,9] (λok i wr=>∃j:Nat,i = .int .i64 j/\j<=1/\ok = .bool (f4 &&(TL.take j).all λt=>decide (zf t=4))/\wr=w3) (λ_ i _=>1-(intOf i).toNat)
 case atStart=>exact⟨0,rfl,Nat.zero_le _,by simp,rfl⟩
 case round =>
  obtain⟨j,rfl,hj,rfl,rfl⟩:=hrel;by_cases hlt:j<1
  ·have Ma:j<VT.length:=by rw [<-Ng.o];exact hlt
   obtain⟨a1,e1,q1,n1⟩:=VK.o.at Ma;have hrp:=HTP.o _ (List.getElem_mem Ma);have Lc:=O (show(TL.take (j+1)).all (λt=>decide (zf t=4))=((TL.take j).all (λt=>decide (zf t=4))&& decide (zf VT[j].P=4)) from by
    have hjt:j<TL.length:=by rw [<-QL.o,List.length_map];exact Ma
    rw [List.take_succ_eq_append_getElem hjt,List.all_append]
    have:TL[j]=VT[j].P:=by simp [<-QL.o]
    simp [this])
   generalize VT[j]=r at *;injection e1 with e1;subst e1;rw [Iz,Nat.zero_add] at q1;obtain⟨a2,e2,hn2,⟨d0,-,-,-⟩,-,hh⟩:=jY n1 hrp;rw [e2] at q1;have hi2:(0:Int)<(r.n:Int):=by omega
   have zol:0<r.n:=hn2;have hjn:(j:Int)<((1:Nat):Int):=by omega
   rw [hh] at Lc;generalize (hdN r.P).op=yo at *;clear e2 hn2 hh hrp n1;by_cases g:yo=4
   ·rw [decide_eq_true g,Bool.and_true] at Lc;have f1:(yo != 4)=false:=by simpa using g
    clear g;go_wp2_with fail;go_roundw
    case rel=>exact⟨j+1,by go_num,by omega,by rw [Lc.o],(by first|rfl|trivial)⟩
    case measure=>simp [intOf];omega
   ·rw [decide_eq_false g,Bool.and_false] at Lc;have f1:(yo != 4)=true:=by simpa using g
    clear g;go_wp2_with fail;go_roundw
    case rel=>exact⟨j+1,by go_num,by omega,by rw [Lc.o,Bool.and_false],(by first|rfl|trivial)⟩
    case measure=>simp [intOf];omega
  ·have RE:=O (show TL.take j=TL from List.take_of_length_le (by rw [<-QL.o,List.length_map,<-Ng.o];omega));rw [RE.o];have HRB:=O (HRR.o);by_cases c:(f4 && TL.all λt=>decide (zf t=4))=true
   case neg =>
    have c0:(f4 && TL.all λt=>decide (zf t=4))=false:=by simpa using c
    have ZB:=O (HRB.o.2 c0);rw [c0];clear c c0 HRB RE HRR;go_wp2_with fail;refine(jZ _ _).mono ?_;rintro e w4 ⟨rfl,b4⟩;have B4:=bh B3 b4;have R4:=O (R3.o.keep b4);clear b4 B3 R3;have RS:=R4.o.set (.slice none 0 0) (.int .i64 (2));obtain⟨s0,s1,-,-⟩:=RS;have GF:=O (zD (S:=S) (r := .error (2)) (jM _) j5 B4.o (show w.heap.size<=w.heap.size+1+1 by omega));obtain⟨r0,r1,z0,z1⟩:=R4.o;go_wp2_with fail;exact bodyPost_ret (v := .agg #[.slice none 0 0,.int .i64 (2)]) (by simp [results,Tryz.results84,go_sem,s0,s1]) rfl (by rw [ZB.o];exact GF.o)
   have ZB:=O (HRB.o.1 c);rw [c];clear c HRB RE HRR;obtain⟨⟨x0,x1⟩,⟨y0,y1⟩⟩:=X3.o;obtain⟨a3,e3,hn3,D3,ok3,-⟩:=jY (HP.o.keep B3.o) HP0.o;subst e3;obtain⟨d0,d1,d2,d3⟩:=D3;have hi3:(0:Int)<(n:Int):=by omega
   have hi30:0<n:=hn3;have KU:=O (Kx (hdN P));have HUP:=O (show jc P=((hdN P).s,(hdN P).t) from rfl);have zkf:=O ok3;generalize hdN P=x at *;clear ok3 hn3;go_wp2_with fail;clear hlt hj;refine(KU.o _).mono ?_;rintro e w4 ⟨rfl,b4⟩;have B4:=bh B3 b4;have X4:=O (X3.o.keep b4);have R4:=O (R3.o.keep b4);replace VK:=O (VK.o.keep b4);clear b4 B3 X3 R3 x0 x1 y0 y1 d0 d1 d2 d3;go_wp2_with fail;have U5:=O (Ti w4 x.s x.t 36);have bx:=zb w4 (.cells #[.string x.s,.string x.t] 36);have B5:=bh B4 bx;have R5:=O (R4.o.keep bx);replace VK:=O (VK.o.keep bx);obtain⟨w5,hw5⟩:∃wz,w4.alloc (.cells #[.string x.s,.string x.t] 36)=wz:=⟨_,rfl⟩
   obtain⟨bu,hbu⟩:∃bu,w4.heap.size=bu:=⟨_,rfl⟩
   rw [hw5] at U5 B5 R5 VK ⊢;rw [hbu] at U5 ⊢;clear hw5 hbu bx B4 R4 X4;go_loopw [11] (λi wr=>∃j:Nat,i = .int .i64 j/\j<=1/\Hid ((TL.take j).any (λt=>inB E (jc P) (jc t))=false)/\Hid (Below w5.heap.size w5 wr)) (λi _=>1-(intOf i).toNat)
   case atStart=>exact⟨0,rfl,Nat.zero_le _,O (by simp),Below.refl _ _⟩
   case round =>
    obtain⟨j,rfl,hj,hNO,hB⟩:=hrel;have BW:=bh B5 hB.o;have RW:=O (R5.o.keep hB.o);have UW:=O (U5.o.keep hB.o);by_cases hlt:j<1
    ·have Ma:j<VT.length:=by rw [<-Ng.o];exact hlt
     have hjt:j<TL.length:=by rw [<-QL.o,List.length_map];exact Ma
     obtain⟨a1,e1,q1,n1⟩:=(VK.o.keep hB.o).at Ma;have hrp:=HTP.o _ (List.getElem_mem Ma);have Lc:=O (show(TL.take (j+1)).any (λt=>inB E (jc P) (jc t))=((TL.take j).any (λt=>inB E (jc P) (jc t))|| inB E (jc P) (jc VT[j].P)) from by
      rw [List.take_succ_eq_append_getElem hjt,List.any_append]
      have:TL[j]=VT[j].P:=by simp [<-QL.o]
      simp [this])
     have HMT:=O (show VT[j].P∈TL from by rw [<-QL.o];exact List.mem_map.2 ⟨_,List.getElem_mem Ma,rfl⟩);generalize VT[j]=r at *;injection e1 with e1;subst e1;rw [Iz,Nat.zero_add] at q1;obtain⟨a2,e2,hn2,⟨d0,d1,d2,d3⟩,ok2,-⟩:=jY n1 hrp;rw [e2] at q1;have hi2:(0:Int)<(r.n:Int):=by omega
     have zol:0<r.n:=hn2;have hjn:(j:Int)<((1:Nat):Int):=by omega
     have KU2:=O (Kx (hdN r.P));have HUR:=O (show jc r.P=((hdN r.P).s,(hdN r.P).t) from rfl);generalize hdN r.P=y at *;have HOR:=O (zeU VN.o (jc P) (jc r.P));have HAB:=O (λw' (hb:Below w.heap.size w w')=>Xv EA en ec E (x.s,x.t) (y.s,y.t) w' (HEs.o.keep hb) ⟨zkf.o.s,zkf.o.t⟩ zn6.o);unfold udV at HAB;dsimp only at HAB;rw [HUP.o,HUR.o] at HOR;have HTR:=O (λ(q:inB E (jc P) (jc r.P)=true)=>ZB.o.trans (show(.ok (zI (TL.any λt=>inB E (jc P) (jc t))):Res)= .ok (zI true) from by rw [show(TL.any λt=>inB E (jc P) (jc t))=true from List.any_eq_true.2 ⟨_,HMT.o,q⟩]));rw [HUP.o,HUR.o] at HTR;rw [HUP.o,HUR.o] at Lc;have RF:=hNO;rw [HUP.o] at RF;generalize inB E (x.s,x.t) (y.s,y.t)=ib at *;clear e2 hn2 hrp n1 ok2;go_wp2_with fail;refine(KU2.o _).mono ?_;rintro e w6 ⟨rfl,b6⟩;have bb:=b6.trans ((zb w6 (.cells #[.string y.s,.string y.t] 36)).mono b6.size);have TqX:=O (Ti w6 y.s y.t 36);have BqX:=bh BW bb;have HqX:=bh hB bb;have RqX:=O (RW.o.keep bb);have UqX:=O (UW.o.keep bb);obtain⟨w7,hw7⟩:∃wz,w6.alloc (.cells #[.string y.s,.string y.t] 36)=wz:=⟨_,rfl⟩
     obtain⟨bt,hbt⟩:∃bt,w6.heap.size=bt:=⟨_,rfl⟩
     rw [hw7] at TqX BqX HqX RqX UqX;rw [hbt] at TqX;clear b6 bb d0 d1 d2 d3 q1 BW RW UW KU2;by_cases he:((x.s,x.t):Ud)=(y.s,y.t)
     ·have hc1:(x.s.toList==y.s.toList)=true:=by rw [show x.s=y.s from congrArg Prod.fst he];exact beq_self_eq_true _
      have hc2:(x.t.toList==y.t.toList)=true:=by rw [show x.t=y.t from congrArg Prod.snd he];exact beq_self_eq_true _
      have VF:=O (HTR.o (by rw [HOR.o,decide_eq_true he];rfl));obtain⟨u0,u1⟩:=UqX.o;obtain⟨t0,t1⟩:=TqX.o;clear he HOR HTR Lc RF HAB;go_wp2_with fail;refine(jq true _).mono ?_;rintro e w20 ⟨AT,nT,cT,rfl,hN,b20⟩;have B20:=bh BqX b20;have NT:=O hN.1;have II:=O (gZ (S:=S) BqX.o RqX.o hN.2);have R20:=O (RqX.o.keep b20);clear b20 hN;go_wp2_with fail;refine(jA _ _ _ _).mono ?_;rintro e w21 ⟨rfl,b21⟩;have B21:=bh B20 b21;have R21:=O (R20.o.keep b21);have NZ:=O (NT.o.keep b21);clear b21 B20 R20;have RS:=R21.o.set (.slice AT nT cT) (.int .i64 0);obtain⟨s0,s1,-,-⟩:=RS;have GF:=O (zD (S:=S) (r := .ok _) NZ.o II.o B21.o (show w.heap.size<=w.heap.size+1+1 by omega));obtain⟨r0,r1,z0,z1⟩:=R21.o;go_wp2_with fail;exact bodyPost_ret (v := .agg #[.slice AT nT cT,.int .i64 0]) (by simp [results,Tryz.results84,go_sem,s0,s1]) rfl (by rw [VF.o];exact GF.o)
     ·have hne:=MX he;rw [decide_eq_false he,Bool.false_or] at HOR;dsimp only at hne;have K9:=O (HAB.o _ BqX.o);generalize zc9 E (x.s,x.t) (y.s,y.t)=ab at *;obtain⟨u0,u1⟩:=UqX.o;obtain⟨t0,t1⟩:=TqX.o;clear he HAB;rcases hne with hc1|⟨hc1,hc2⟩
      all_goals
       go_wp2_with fail;refine K9.o.mono ?_;rintro e w9 ⟨rfl,b9⟩;have B9:=bh BqX b9;have H9:=bh HqX b9;have R9:=O (RqX.o.keep b9);clear b9 BqX HqX RqX UqX TqX u0 u1 t0 t1 K9;rcases ab with _|_
       ·rw [HOR.o,Bool.or_false] at Lc;have HN9:=O (show(TL.take (j+1)).any (λt=>inB E (jc P) (jc t))=false from by rw [HUP.o];exact Lc.o.trans RF.o);clear HOR HTR Lc RF;go_wp2_with fail;go_roundw
        case rel=>exact⟨j+1,by go_num,by omega,HN9,H9⟩
        case measure=>simp [intOf];omega
       ·have VF:=O (HTR.o HOR.o);clear HOR HTR Lc RF;go_wp2_with fail;refine(jq true _).mono ?_;rintro e w20 ⟨AT,nT,cT,rfl,hN,b20⟩;have B20:=bh B9 b20;have NT:=O hN.1;have II:=O (gZ (S:=S) B9.o R9.o hN.2);have R20:=O (R9.o.keep b20);clear b20 hN;go_wp2_with fail;refine(jA _ _ _ _).mono ?_;rintro e w21 ⟨rfl,b21⟩;have B21:=bh B20 b21;have R21:=O (R20.o.keep b21);have NZ:=O (NT.o.keep b21);clear b21 B20 R20;have RS:=R21.o.set (.slice AT nT cT) (.int .i64 0);obtain⟨s0,s1,-,-⟩:=RS;have GF:=O (zD (S:=S) (r := .ok _) NZ.o II.o B21.o (show w.heap.size<=w.heap.size+1+1 by omega));obtain⟨r0,r1,z0,z1⟩:=R21.o;go_wp2_with fail;exact bodyPost_ret (v := .agg #[.slice AT nT cT,.int .i64 0]) (by simp [results,Tryz.results84,go_sem,s0,s1]) rfl (by rw [VF.o];exact GF.o)
    ·have RE:=O (show TL.take j=TL from List.take_of_length_le (by rw [<-QL.o,List.length_map,<-Ng.o];omega));have HN9:=hNO.o;rw [RE.o] at HN9;have VF:=O (ZB.o.trans (show(.ok (zI (TL.any λt=>inB E (jc P) (jc t))):Res)= .ok (zI false) from by rw [HN9]));clear HN9 RE hNO;go_wp2_with fail;refine(jq false _).mono ?_;rintro e w20 ⟨AT,nT,cT,rfl,hN,b20⟩;have B20:=bh BW b20;have NT:=O hN.1;have II:=O (gZ (S:=S) BW.o RW.o hN.2);have R20:=O (RW.o.keep b20);clear b20 hN;go_wp2_with fail;refine(jA _ _ _ _).mono ?_;rintro e w21 ⟨rfl,b21⟩;have B21:=bh B20 b21;have R21:=O (R20.o.keep b21);have NZ:=O (NT.o.keep b21);clear b21 B20 R20;have RS:=R21.o.set (.slice AT nT cT) (.int .i64 0);obtain⟨s0,s1,-,-⟩:=RS;have GF:=O (zD (S:=S) (r := .ok _) NZ.o II.o B21.o (show w.heap.size<=w.heap.size+1+1 by omega));obtain⟨r0,r1,z0,z1⟩:=R21.o;go_wp2_with fail;exact bodyPost_ret (v := .agg #[.slice AT nT cT,.int .i64 0]) (by simp [results,Tryz.results84,go_sem,s0,s1]) rfl (by rw [VF.o];exact GF.o)
theorem znn(S:Nat->Prop)(EA:Option Addr)(en ec:Nat)(E:List En)(A B:Option Addr)(n m c d:Nat)(P Q:List Nd)(w:World)(hE:Es w EA en ec E)(hS:jW E=0)(h:Ns w A n c P)(k:Ns w B m d Q)(h1:zc P=0)(h2:zc Q=0)(g5:zf Q=5):
 Calls Tryz.prog 84 #[.slice EA en ec,.agg #[.slice A n c,.int .i64 0],.agg #[.slice B m d,.int .i64 0]] w (zK S w (inX E P Q)):=by
 have B0:=tB w A B n m c d;have X0:=tX w A B n m c d;have R0:=tR w A B n m c d;have KP:=O (λ(o:Int) w' (hb:Below w.heap.size w w')=>zQ A n c P o w' (h.keep hb) (zk h1));have KQ:=O (λ(o:Int) w' (hb:Below w.heap.size w w')=>zQ B m d Q o w' (k.keep hb) (zk h2));have HP:=O h;have HQ:=O k;have K5:=O (KQ.o 5 _ B0.o);have K4:=O (KP.o 4);have HEs:=O hE;have VN:=O hS;have zn6:=O (show(vY E).length<=900 from by have h1:=zbE (sM.1 hS).2.1;have h2:=(sM.1 hS).1;omega);obtain⟨f4,hf4⟩:∃f4:Bool,f4=(zf P==4):=⟨_,rfl⟩
 rw [<-hf4] at K4;have HF4:=O hf4;clear hf4;have HP0:=O (zk h1);obtain⟨TL,QJ⟩:∃TL,TL=f9 Q:=⟨_,rfl⟩
 obtain⟨rr,Ol⟩:∃rr,rr=inX E P Q:=⟨_,rfl⟩
 have HRR:=O (show((f4 && TL.all λt=>decide (zf t=4))=true->rr = .ok (zI (TL.any λt=>inB E (jc P) (jc t))))/\((f4 && TL.all λt=>decide (zf t=4))=false->rr = .error 2) from by
  have hx:(zf P=4/\TL.all (λt=>decide (zf t=4))=true)↔(f4 && TL.all λt=>decide (zf t=4))=true:=by
   rw [HF4.o,Bool.and_eq_true,beq_iff_eq]
  rw [Ol,QJ]
  rw [QJ] at hx
  unfold inX
  exact⟨λc=>if_pos (hx.2 c),λc=>if_neg λq=>by rw [hx.1 q] at c;cases c⟩)
 rw [<-Ol];rw [show(zf Q==5)=true from beq_iff_eq.2 g5] at K5;have BX:=zb (((w.alloc (.cells #[.slice A n c,.int .i64 0] 61)).alloc (.cells #[.slice B m d,.int .i64 0] 61)).alloc (.cells #[.slice none 0 0,.int .i64 0] 61)) (.cells #[.slice B m d] 22);have B1:=bh B0 BX;have X1:=O (X0.o.keep BX);have R1:=O (R0.o.keep BX);have K5':=O (KQ.o 5);rw [show(zf Q==5)=true from beq_iff_eq.2 g5] at K5';have KPR:=O (λw' (hb:Below w.heap.size w w')=>QE B m d Q w' (k.keep hb) h2 g5);have hTQ:TL=zg Q:=by rw [QJ];unfold f9;rw [if_pos g5]
 have HTQ:=O hTQ;have HTV:=O (show∀t∈zg Q,0<t.length from λt ht=>((ER (zH.1 h2).2 g5).2.2.1 t ht).pos);have HL200:=O (show(zg Q).length<=200 from by
  obtain⟨hl,hv⟩:=zH.1 h2
  have e:=congrArg List.length (ER hv g5).1
  have hp:=Xm (ER hv g5).2.2.1
  simp only [List.length_cons] at e
  omega)
 unfold Ke at KPR;clear h k h1 h2 g5 KP KQ hE hS BX X0 R0 B0 K5 hTQ QJ Ol;obtain⟨⟨x0,x1⟩,⟨y0,y1⟩⟩:=X1.o;go_enter Tryz.func84,Tryz.ntmps84;go_wp2_with fail;refine(K5'.o _ B1.o).mono ?_;rintro e w2 ⟨rfl,b2⟩;have B2:=bh B1 b2;have X2:=O (X1.o.keep b2);have R2:=O (R1.o.keep b2);clear x0 x1 y0 y1;clear b2 B1 X1 R1;obtain⟨⟨x0,x1⟩,⟨y0,y1⟩⟩:=X2.o;go_wp2_with fail;refine(KPR.o _ B2.o).mono ?_;rintro e w3 ⟨v,v',VT,rfl,hT,hV,b3⟩;have B3:=bh B2 b3;have X3:=O (X2.o.keep b3);have R3:=O (R2.o.keep b3);obtain⟨A5,c5,e5,-,hS5⟩:=hT.a.at
 subst e5;have VK:=O hS5;have QL:=O (show VT.map Sl.P=TL by rw [HTQ.o];exact hV);have HTP:=O (show∀r∈VT,0<r.P.length from λr hr=>HTV.o _ (by rw [<-hV];exact List.mem_map.2 ⟨r,hr,rfl⟩));have hlen:VT.length<=200:=by have:=congrArg List.length hV;rw [List.length_map] at this;rw [this];exact HL200.o
 obtain⟨n5,hn5⟩:∃n5,n5=VT.length:=⟨_,rfl⟩
 have Ng:=O hn5;rw [<-hn5] at hlen ⊢;clear b3 hT hV hS5 hn5 B2 X2 R2 x0 x1 y0 y1 HTQ HTV;obtain⟨⟨x0,x1⟩,⟨y0,y1⟩⟩:=X3.o;go_wp2_with fail;refine(K4.o _ B3.o).mono ?_;rintro e w4 ⟨rfl,b4⟩;have B4:=bh B3 b4;have X4:=O (X3.o.keep b4);have R4:=O (R3.o.keep b4);clear x0 x1 y0 y1;replace VK:=O (VK.o.keep b4);clear b4 B3 X3 R3;go_wp2_with fail;go_loopw [8,9] (λok i wr=>∃j:Nat,i = .int .i64 j/\j<=n5/\ok = .bool (f4 &&(TL.take j).all λt=>decide (zf t=4))/\wr=w4) (λ_ i _=>n5-(intOf i).toNat)
 case atStart=>exact⟨0,rfl,Nat.zero_le _,by simp,rfl⟩
 case round =>
  obtain⟨j,rfl,hj,rfl,rfl⟩:=hrel;by_cases hlt:j<n5
  ·have Ma:j<VT.length:=by rw [<-Ng.o];exact hlt
   obtain⟨a1,e1,q1,n1⟩:=VK.o.at Ma;have hrp:=HTP.o _ (List.getElem_mem Ma);have Lc:=O (show(TL.take (j+1)).all (λt=>decide (zf t=4))=((TL.take j).all (λt=>decide (zf t=4))&& decide (zf VT[j].P=4)) from by
    have hjt:j<TL.length:=by rw [<-QL.o,List.length_map];exact Ma
    rw [List.take_succ_eq_append_getElem hjt,List.all_append]
    have:TL[j]=VT[j].P:=by simp [<-QL.o]
    simp [this])
   generalize VT[j]=r at *;subst e1;obtain⟨a2,e2,hn2,⟨d0,-,-,-⟩,-,hh⟩:=jY n1 hrp;rw [e2] at q1;have hi2:(0:Int)<(r.n:Int):=by omega
   have zol:0<r.n:=hn2;have hjn:(j:Int)<((n5:Nat):Int):=by omega
   rw [hh] at Lc;generalize (hdN r.P).op=yo at *;clear e2 hn2 hh hrp n1;by_cases g:yo=4
   ·rw [decide_eq_true g,Bool.and_true] at Lc;have f1:(yo != 4)=false:=by simpa using g
    clear g;go_wp2_with fail;go_roundw
    case rel=>exact⟨j+1,by go_num,by omega,by rw [Lc.o],(by first|rfl|trivial)⟩
    case measure=>simp [intOf];omega
   ·rw [decide_eq_false g,Bool.and_false] at Lc;have f1:(yo != 4)=true:=by simpa using g
    clear g;go_wp2_with fail;go_roundw
    case rel=>exact⟨j+1,by go_num,by omega,by rw [Lc.o,Bool.and_false],(by first|rfl|trivial)⟩
    case measure=>simp [intOf];omega
  ·have RE:=O (show TL.take j=TL from List.take_of_length_le (by rw [<-QL.o,List.length_map,<-Ng.o];omega));rw [RE.o];have HRB:=O (HRR.o);by_cases c:(f4 && TL.all λt=>decide (zf t=4))=true
   case neg =>
    have c0:(f4 && TL.all λt=>decide (zf t=4))=false:=by simpa using c
    have ZB:=O (HRB.o.2 c0);rw [c0];clear c c0 HRB RE HRR;go_wp2_with fail;refine(jZ _ _).mono ?_;rintro e w5 ⟨rfl,b5⟩;have B5:=bh B4 b5;have R5:=O (R4.o.keep b5);clear b5 B4 R4;have RS:=R5.o.set (.slice none 0 0) (.int .i64 (2));obtain⟨s0,s1,-,-⟩:=RS;have GF:=O (zD (S:=S) (r := .error (2)) (jM _) j5 B5.o (show w.heap.size<=w.heap.size+1+1 by omega));obtain⟨r0,r1,z0,z1⟩:=R5.o;go_wp2_with fail;exact bodyPost_ret (v := .agg #[.slice none 0 0,.int .i64 (2)]) (by simp [results,Tryz.results84,go_sem,s0,s1]) rfl (by rw [ZB.o];exact GF.o)
   have ZB:=O (HRB.o.1 c);rw [c];clear c HRB RE HRR;obtain⟨⟨x0,x1⟩,⟨y0,y1⟩⟩:=X4.o;obtain⟨a3,e3,hn3,D3,ok3,-⟩:=jY (HP.o.keep B4.o) HP0.o;subst e3;obtain⟨d0,d1,d2,d3⟩:=D3;have hi3:(0:Int)<(n:Int):=by omega
   have hi30:0<n:=hn3;have KU:=O (Kx (hdN P));have HUP:=O (show jc P=((hdN P).s,(hdN P).t) from rfl);have zkf:=O ok3;generalize hdN P=x at *;clear ok3 hn3;go_wp2_with fail;clear hlt hj;refine(KU.o _).mono ?_;rintro e w5 ⟨rfl,b5⟩;have B5:=bh B4 b5;have X5:=O (X4.o.keep b5);have R5:=O (R4.o.keep b5);replace VK:=O (VK.o.keep b5);clear b5 B4 X4 R4 x0 x1 y0 y1 d0 d1 d2 d3;go_wp2_with fail;have U6:=O (Ti w5 x.s x.t 36);have bx:=zb w5 (.cells #[.string x.s,.string x.t] 36);have B6:=bh B5 bx;have R6:=O (R5.o.keep bx);replace VK:=O (VK.o.keep bx);obtain⟨w6,hw6⟩:∃wz,w5.alloc (.cells #[.string x.s,.string x.t] 36)=wz:=⟨_,rfl⟩
   obtain⟨bu,hbu⟩:∃bu,w5.heap.size=bu:=⟨_,rfl⟩
   rw [hw6] at U6 B6 R6 VK ⊢;rw [hbu] at U6 ⊢;clear hw6 hbu bx B5 R5 X5;go_loopw [11] (λi wr=>∃j:Nat,i = .int .i64 j/\j<=n5/\Hid ((TL.take j).any (λt=>inB E (jc P) (jc t))=false)/\Hid (Below w6.heap.size w6 wr)) (λi _=>n5-(intOf i).toNat)
   case atStart=>exact⟨0,rfl,Nat.zero_le _,O (by simp),Below.refl _ _⟩
   case round =>
    obtain⟨j,rfl,hj,hNO,hB⟩:=hrel;have BW:=bh B6 hB.o;have RW:=O (R6.o.keep hB.o);have UW:=O (U6.o.keep hB.o);by_cases hlt:j<n5
    ·have Ma:j<VT.length:=by rw [<-Ng.o];exact hlt
     have hjt:j<TL.length:=by rw [<-QL.o,List.length_map];exact Ma
     obtain⟨a1,e1,q1,n1⟩:=(VK.o.keep hB.o).at Ma;have hrp:=HTP.o _ (List.getElem_mem Ma);have Lc:=O (show(TL.take (j+1)).any (λt=>inB E (jc P) (jc t))=((TL.take j).any (λt=>inB E (jc P) (jc t))|| inB E (jc P) (jc VT[j].P)) from by
      rw [List.take_succ_eq_append_getElem hjt,List.any_append]
      have:TL[j]=VT[j].P:=by simp [<-QL.o]
      simp [this])
     have HMT:=O (show VT[j].P∈TL from by rw [<-QL.o];exact List.mem_map.2 ⟨_,List.getElem_mem Ma,rfl⟩);generalize VT[j]=r at *;subst e1;obtain⟨a2,e2,hn2,⟨d0,d1,d2,d3⟩,ok2,-⟩:=jY n1 hrp;rw [e2] at q1;have hi2:(0:Int)<(r.n:Int):=by omega
     have zol:0<r.n:=hn2;have hjn:(j:Int)<((n5:Nat):Int):=by omega
     have KU2:=O (Kx (hdN r.P));have HUR:=O (show jc r.P=((hdN r.P).s,(hdN r.P).t) from rfl);generalize hdN r.P=y at *;have HOR:=O (zeU VN.o (jc P) (jc r.P));have HAB:=O (λw' (hb:Below w.heap.size w w')=>Xv EA en ec E (x.s,x.t) (y.s,y.t) w' (HEs.o.keep hb) ⟨zkf.o.s,zkf.o.t⟩ zn6.o);unfold udV at HAB;dsimp only at HAB;rw [HUP.o,HUR.o] at HOR;have HTR:=O (λ(q:inB E (jc P) (jc r.P)=true)=>ZB.o.trans (show(.ok (zI (TL.any λt=>inB E (jc P) (jc t))):Res)= .ok (zI true) from by rw [show(TL.any λt=>inB E (jc P) (jc t))=true from List.any_eq_true.2 ⟨_,HMT.o,q⟩]));rw [HUP.o,HUR.o] at HTR;rw [HUP.o,HUR.o] at Lc;have RF:=hNO;rw [HUP.o] at RF;generalize inB E (x.s,x.t) (y.s,y.t)=ib at *;clear e2 hn2 hrp n1 ok2;go_wp2_with fail;refine(KU2.o _).mono ?_;rintro e w7 ⟨rfl,b7⟩;have bb:=b7.trans ((zb w7 (.cells #[.string y.s,.string y.t] 36)).mono b7.size);have TqX:=O (Ti w7 y.s y.t 36);have BqX:=bh BW bb;have HqX:=bh hB bb;have RqX:=O (RW.o.keep bb);have UqX:=O (UW.o.keep bb);obtain⟨w8,hw8⟩:∃wz,w7.alloc (.cells #[.string y.s,.string y.t] 36)=wz:=⟨_,rfl⟩
     obtain⟨bt,hbt⟩:∃bt,w7.heap.size=bt:=⟨_,rfl⟩
     rw [hw8] at TqX BqX HqX RqX UqX;rw [hbt] at TqX;clear b7 bb d0 d1 d2 d3 q1 BW RW UW KU2;by_cases he:((x.s,x.t):Ud)=(y.s,y.t)
     ·have hc1:(x.s.toList==y.s.toList)=true:=by rw [show x.s=y.s from congrArg Prod.fst he];exact beq_self_eq_true _
      have hc2:(x.t.toList==y.t.toList)=true:=by rw [show x.t=y.t from congrArg Prod.snd he];exact beq_self_eq_true _
      have VF:=O (HTR.o (by rw [HOR.o,decide_eq_true he];rfl));obtain⟨u0,u1⟩:=UqX.o;obtain⟨t0,t1⟩:=TqX.o;clear he HOR HTR Lc RF HAB;go_wp2_with fail;refine(jq true _).mono ?_;rintro e w20 ⟨AT,nT,cT,rfl,hN,b20⟩;have B20:=bh BqX b20;have NT:=O hN.1;have II:=O (gZ (S:=S) BqX.o RqX.o hN.2);have R20:=O (RqX.o.keep b20);clear b20 hN;go_wp2_with fail;refine(jA _ _ _ _).mono ?_;rintro e w21 ⟨rfl,b21⟩;have B21:=bh B20 b21;have R21:=O (R20.o.keep b21);have NZ:=O (NT.o.keep b21);clear b21 B20 R20;have RS:=R21.o.set (.slice AT nT cT) (.int .i64 0);obtain⟨s0,s1,-,-⟩:=RS;have GF:=O (zD (S:=S) (r := .ok _) NZ.o II.o B21.o (show w.heap.size<=w.heap.size+1+1 by omega));obtain⟨r0,r1,z0,z1⟩:=R21.o;go_wp2_with fail;exact bodyPost_ret (v := .agg #[.slice AT nT cT,.int .i64 0]) (by simp [results,Tryz.results84,go_sem,s0,s1]) rfl (by rw [VF.o];exact GF.o)
     ·have hne:=MX he;rw [decide_eq_false he,Bool.false_or] at HOR;dsimp only at hne;have K9:=O (HAB.o _ BqX.o);generalize zc9 E (x.s,x.t) (y.s,y.t)=ab at *;obtain⟨u0,u1⟩:=UqX.o;obtain⟨t0,t1⟩:=TqX.o;clear he HAB;rcases hne with hc1|⟨hc1,hc2⟩
      all_goals
       go_wp2_with fail;refine K9.o.mono ?_;rintro e w9 ⟨rfl,b9⟩;have B9:=bh BqX b9;have H9:=bh HqX b9;have R9:=O (RqX.o.keep b9);clear b9 BqX HqX RqX UqX TqX u0 u1 t0 t1 K9;rcases ab with _|_
       ·rw [HOR.o,Bool.or_false] at Lc;have HN9:=O (show(TL.take (j+1)).any (λt=>inB E (jc P) (jc t))=false from by rw [HUP.o];exact Lc.o.trans RF.o);clear HOR HTR Lc RF;go_wp2_with fail;go_roundw
        case rel=>exact⟨j+1,by go_num,by omega,HN9,H9⟩
        case measure=>simp [intOf];omega
       ·have VF:=O (HTR.o HOR.o);clear HOR HTR Lc RF;go_wp2_with fail;refine(jq true _).mono ?_;rintro e w20 ⟨AT,nT,cT,rfl,hN,b20⟩;have B20:=bh B9 b20;have NT:=O hN.1;have II:=O (gZ (S:=S) B9.o R9.o hN.2);have R20:=O (R9.o.keep b20);clear b20 hN;go_wp2_with fail;refine(jA _ _ _ _).mono ?_;rintro e w21 ⟨rfl,b21⟩;have B21:=bh B20 b21;have R21:=O (R20.o.keep b21);have NZ:=O (NT.o.keep b21);clear b21 B20 R20;have RS:=R21.o.set (.slice AT nT cT) (.int .i64 0);obtain⟨s0,s1,-,-⟩:=RS;have GF:=O (zD (S:=S) (r := .ok _) NZ.o II.o B21.o (show w.heap.size<=w.heap.size+1+1 by omega));obtain⟨r0,r1,z0,z1⟩:=R21.o;go_wp2_with fail;exact bodyPost_ret (v := .agg #[.slice AT nT cT,.int .i64 0]) (by simp [results,Tryz.results84,go_sem,s0,s1]) rfl (by rw [VF.o];exact GF.o)
    ·have RE:=O (show TL.take j=TL from List.take_of_length_le (by rw [<-QL.o,List.length_map,<-Ng.o];omega));have HN9:=hNO.o;rw [RE.o] at HN9;have VF:=O (ZB.o.trans (show(.ok (zI (TL.any λt=>inB E (jc P) (jc t))):Res)= .ok (zI false) from by rw [HN9]));clear HN9 RE hNO;go_wp2_with fail;refine(jq false _).mono ?_;rintro e w20 ⟨AT,nT,cT,rfl,hN,b20⟩;have B20:=bh BW b20;have NT:=O hN.1;have II:=O (gZ (S:=S) BW.o RW.o hN.2);have R20:=O (RW.o.keep b20);clear b20 hN;go_wp2_with fail;refine(jA _ _ _ _).mono ?_;rintro e w21 ⟨rfl,b21⟩;have B21:=bh B20 b21;have R21:=O (R20.o.keep b21);have NZ:=O (NT.o.keep b21);clear b21 B20 R20;have RS:=R21.o.set (.slice AT nT cT) (.int .i64 0);obtain⟨s0,s1,-,-⟩:=RS;have GF:=O (zD (S:=S) (r := .ok _) NZ.o II.o B21.o (show w.heap.size<=w.heap.size+1+1 by omega));obtain⟨r0,r1,z0,z1⟩:=R21.o;go_wp2_with fail;exact bodyPost_ret (v := .agg #[.slice AT nT cT,.int .i64 0]) (by simp [results,Tryz.results84,go_sem,s0,s1]) rfl (by rw [VF.o];exact GF.o)
theorem znt(S:Nat->Prop)(EA:Option Addr)(en ec:Nat)(E:List En)(A B:Option Addr)(n m c d:Nat)(P Q:List Nd)(w:World)(hE:Es w EA en ec E)(hS:jW E=0)(h:Ns w A n c P)(k:Ns w B m d Q)(h1:zc P=0)(h2:zc Q=0):
 Calls Tryz.prog 84 #[.slice EA en ec,.agg #[.slice A n c,.int .i64 0],.agg #[.slice B m d,.int .i64 0]] w (zK S w (inX E P Q)):=by
 by_cases g5:zf Q=5
 ·exact znn S EA en ec E A B n m c d P Q w hE hS h k h1 h2 g5
 ·exact znF S EA en ec E A B n m c d P Q w hE hS h k h1 h2 g5
theorem zo9(S:Nat->Prop)(EA:Option Addr)(en ec:Nat)(A B:Option Addr)(n m c d:Nat)(P Q:List Nd)(w:World)(h:Ns w A n c P)(k:Ns w B m d Q)(h1:zc P=0)(h2:zc Q=0):
 Calls Tryz.prog 47 #[.slice EA en ec,.int .i64 14,.agg #[.slice A n c,.int .i64 0],.agg #[.slice B m d,.int .i64 0]] w (zK S w (.ok (zI (decide (zu P Q=0))))):=by
 have B0:=tB w A B n m c d;have X0:=tX w A B n m c d;have R0:=tR w A B n m c d;have KP:=O (λ(o:Int) w' (hb:Below w.heap.size w w')=>zQ A n c P o w' (h.keep hb) (zk h1));have KQ:=O (λ(o:Int) w' (hb:Below w.heap.size w w')=>zQ B m d Q o w' (k.keep hb) (zk h2));have HP:=O h;have HQ:=O k;have KN:=O (λw' (hb:Below w.heap.size w w')=>Ot A B n m c d P Q w' h.len k.len h.max k.max (h.keep hb).at_ (k.keep hb).at_ h.ok k.ok);have KTT:=O (λw=>show Calls Tryz.prog 8 #[.bool (zu P Q==0)] w λe w'=>∃A n c,e = .returned (.slice A n c)/\(Ns w' A n c (zI (decide (zu P Q=0)))/\∀a,A=some a->w.heap.size<=a.block)/\Below w.heap.size w w' from jq (decide (zu P Q=0)) w);clear h k h1 h2 KP KQ;generalize decide (zu P Q=0)=bb at *;generalize zu P Q=cu at *;obtain⟨⟨x0,x1⟩,⟨y0,y1⟩⟩:=X0.o;go_enter Tryz.func47,Tryz.ntmps47;go_wp2_with fail;refine(KN.o _ B0.o).mono ?_;rintro e w1 ⟨rfl,b1⟩;have B1:=bh B0 b1;have X1:=O (X0.o.keep b1);have R1:=O (R0.o.keep b1);clear x0 x1 y0 y1;clear b1 B0 X0 R0;go_wp2_with fail;refine(KTT.o _).mono ?_;rintro e w2 ⟨AT,nT,cT,rfl,hN,b2⟩;have B2:=bh B1 b2;have NT:=O hN.1;have II:=O (gZ (S:=S) B1.o R1.o hN.2);have R2:=O (R1.o.keep b2);clear b2 B1 R1 hN;go_wp2_with fail;refine(jA _ _ _ _).mono ?_;rintro e w3 ⟨rfl,b3⟩;have B3:=bh B2 b3;have R3:=O (R2.o.keep b3);have NZ:=O (NT.o.keep b3);clear b3 B2 R2;have RS:=R3.o.set (.slice AT nT cT) (.int .i64 0);obtain⟨s0,s1,-,-⟩:=RS;have GF:=O (zD (S:=S) (r := .ok _) NZ.o II.o B3.o (show w.heap.size<=w.heap.size+1+1 by omega));obtain⟨r0,r1,z0,z1⟩:=R3.o;go_wp2_with fail;exact bodyPost_ret (v := .agg #[.slice AT nT cT,.int .i64 0]) (by simp [results,Tryz.results47,go_sem,s0,s1]) rfl GF.o
theorem zfI(S:Nat->Prop)(EA:Option Addr)(en ec:Nat)(A B:Option Addr)(n m c d:Nat)(P Q:List Nd)(w:World)(h:Ns w A n c P)(k:Ns w B m d Q)(h1:zc P=0)(h2:zc Q=0)(E:List En):
 Calls Tryz.prog 47 #[.slice EA en ec,.int .i64 25,.agg #[.slice A n c,.int .i64 0],.agg #[.slice B m d,.int .i64 0]] w (zK S w (jO E 25 P Q)):=by
 have B0:=tB w A B n m c d;have X0:=tX w A B n m c d;have R0:=tR w A B n m c d;have KP:=O (λ(o:Int) w' (hb:Below w.heap.size w w')=>zQ A n c P o w' (h.keep hb) (zk h1));have KQ:=O (λ(o:Int) w' (hb:Below w.heap.size w w')=>zQ B m d Q o w' (k.keep hb) (zk h2));have HP:=O h;have HQ:=O k;have KS:=O (λw' (hb:Below w.heap.size w w')=>TD (λb=>S b/\b<w.heap.size) 25 (by omega) E A B n m c d P Q w' (h.keep hb) (k.keep hb) h1 h2);unfold zK at KS;clear h k h1 h2 KP KQ;unfold zK;obtain⟨rr,Ol⟩:∃rr,rr=jO E 25 P Q:=⟨_,rfl⟩
 rw [<-Ol] at KS ⊢;clear Ol;obtain⟨⟨x0,x1⟩,⟨y0,y1⟩⟩:=X0.o;go_enter Tryz.func47,Tryz.ntmps47;go_wp2_with fail;refine(KS.o _ B0.o).mono ?_;rintro e w1 ⟨AT,nT,cT,rfl,hN,hf,b1⟩;have B1:=bh B0 b1;have X1:=O (X0.o.keep b1);have R1:=O (R0.o.keep b1);clear x0 x1 y0 y1;have NT:=O (And.intro hN (zbJ B0.o R0.o (by omega) hf));clear hN hf;clear b1 B0 X0 R0;have RS:=R1.o.set (.slice AT nT cT) (.int .i64 (z7 rr));obtain⟨s0,s1,-,-⟩:=RS;have GF:=O (zD (S:=S) (r:=rr) NT.o.1 NT.o.2 B1.o (show w.heap.size<=w.heap.size+1+1 by omega));obtain⟨r0,r1,z0,z1⟩:=R1.o;go_wp2_with fail;exact bodyPost_ret (v := .agg #[.slice AT nT cT,.int .i64 (z7 rr)]) (by simp [results,Tryz.results47,go_sem,s0,s1]) rfl GF.o
theorem zfD(S:Nat->Prop)(EA:Option Addr)(en ec:Nat)(A B:Option Addr)(n m c d:Nat)(P Q:List Nd)(w:World)(h:Ns w A n c P)(k:Ns w B m d Q)(h1:zc P=0)(h2:zc Q=0)(E:List En):
 Calls Tryz.prog 47 #[.slice EA en ec,.int .i64 26,.agg #[.slice A n c,.int .i64 0],.agg #[.slice B m d,.int .i64 0]] w (zK S w (jO E 26 P Q)):=by
 have B0:=tB w A B n m c d;have X0:=tX w A B n m c d;have R0:=tR w A B n m c d;have KP:=O (λ(o:Int) w' (hb:Below w.heap.size w w')=>zQ A n c P o w' (h.keep hb) (zk h1));have KQ:=O (λ(o:Int) w' (hb:Below w.heap.size w w')=>zQ B m d Q o w' (k.keep hb) (zk h2));have HP:=O h;have HQ:=O k;have KS:=O (λw' (hb:Below w.heap.size w w')=>TD (λb=>S b/\b<w.heap.size) 26 (by omega) E A B n m c d P Q w' (h.keep hb) (k.keep hb) h1 h2);unfold zK at KS;clear h k h1 h2 KP KQ;unfold zK;obtain⟨rr,Ol⟩:∃rr,rr=jO E 26 P Q:=⟨_,rfl⟩
 rw [<-Ol] at KS ⊢;clear Ol;obtain⟨⟨x0,x1⟩,⟨y0,y1⟩⟩:=X0.o;go_enter Tryz.func47,Tryz.ntmps47;go_wp2_with fail;refine(KS.o _ B0.o).mono ?_;rintro e w1 ⟨AT,nT,cT,rfl,hN,hf,b1⟩;have B1:=bh B0 b1;have X1:=O (X0.o.keep b1);have R1:=O (R0.o.keep b1);clear x0 x1 y0 y1;have NT:=O (And.intro hN (zbJ B0.o R0.o (by omega) hf));clear hN hf;clear b1 B0 X0 R0;have RS:=R1.o.set (.slice AT nT cT) (.int .i64 (z7 rr));obtain⟨s0,s1,-,-⟩:=RS;have GF:=O (zD (S:=S) (r:=rr) NT.o.1 NT.o.2 B1.o (show w.heap.size<=w.heap.size+1+1 by omega));obtain⟨r0,r1,z0,z1⟩:=R1.o;go_wp2_with fail;exact bodyPost_ret (v := .agg #[.slice AT nT cT,.int .i64 (z7 rr)]) (by simp [results,Tryz.results47,go_sem,s0,s1]) rfl GF.o
theorem zgE(S:Nat->Prop)(EA:Option Addr)(en ec:Nat)(A B:Option Addr)(n m c d:Nat)(P Q:List Nd)(w:World)(h:Ns w A n c P)(k:Ns w B m d Q)(h1:zc P=0)(h2:zc Q=0)(E:List En):
 Calls Tryz.prog 47 #[.slice EA en ec,.int .i64 27,.agg #[.slice A n c,.int .i64 0],.agg #[.slice B m d,.int .i64 0]] w (zK S w (jO E 27 P Q)):=by
 have B0:=tB w A B n m c d;have X0:=tX w A B n m c d;have R0:=tR w A B n m c d;have KP:=O (λ(o:Int) w' (hb:Below w.heap.size w w')=>zQ A n c P o w' (h.keep hb) (zk h1));have KQ:=O (λ(o:Int) w' (hb:Below w.heap.size w w')=>zQ B m d Q o w' (k.keep hb) (zk h2));have HP:=O h;have HQ:=O k;have KS:=O (λw' (hb:Below w.heap.size w w')=>TD (λb=>S b/\b<w.heap.size) 27 (by omega) E A B n m c d P Q w' (h.keep hb) (k.keep hb) h1 h2);unfold zK at KS;clear h k h1 h2 KP KQ;unfold zK;obtain⟨rr,Ol⟩:∃rr,rr=jO E 27 P Q:=⟨_,rfl⟩
 rw [<-Ol] at KS ⊢;clear Ol;obtain⟨⟨x0,x1⟩,⟨y0,y1⟩⟩:=X0.o;go_enter Tryz.func47,Tryz.ntmps47;go_wp2_with fail;refine(KS.o _ B0.o).mono ?_;rintro e w1 ⟨AT,nT,cT,rfl,hN,hf,b1⟩;have B1:=bh B0 b1;have X1:=O (X0.o.keep b1);have R1:=O (R0.o.keep b1);clear x0 x1 y0 y1;have NT:=O (And.intro hN (zbJ B0.o R0.o (by omega) hf));clear hN hf;clear b1 B0 X0 R0;have RS:=R1.o.set (.slice AT nT cT) (.int .i64 (z7 rr));obtain⟨s0,s1,-,-⟩:=RS;have GF:=O (zD (S:=S) (r:=rr) NT.o.1 NT.o.2 B1.o (show w.heap.size<=w.heap.size+1+1 by omega));obtain⟨r0,r1,z0,z1⟩:=R1.o;go_wp2_with fail;exact bodyPost_ret (v := .agg #[.slice AT nT cT,.int .i64 (z7 rr)]) (by simp [results,Tryz.results47,go_sem,s0,s1]) rfl GF.o
theorem zpo(S:Nat->Prop)(EA:Option Addr)(en ec:Nat)(A B:Option Addr)(n m c d:Nat)(P Q:List Nd)(w:World)(h:Ns w A n c P)(k:Ns w B m d Q)(h1:zc P=0)(h2:zc Q=0)(E:List En)(hE:Es w EA en ec E)(hS:jW E=0):
 Calls Tryz.prog 47 #[.slice EA en ec,.int .i64 20,.agg #[.slice A n c,.int .i64 0],.agg #[.slice B m d,.int .i64 0]] w (zK S w (jO E 20 P Q)):=by
 have B0:=tB w A B n m c d;have X0:=tX w A B n m c d;have R0:=tR w A B n m c d;have KP:=O (λ(o:Int) w' (hb:Below w.heap.size w w')=>zQ A n c P o w' (h.keep hb) (zk h1));have KQ:=O (λ(o:Int) w' (hb:Below w.heap.size w w')=>zQ B m d Q o w' (k.keep hb) (zk h2));have HP:=O h;have HQ:=O k;have KS:=O (λw' (hb:Below w.heap.size w w')=>znt (λb=>S b/\b<w.heap.size) EA en ec E A B n m c d P Q w' (hE.keep hb) hS (h.keep hb) (k.keep hb) h1 h2);rw [show inX E P Q=jO E 20 P Q from rfl] at KS;unfold zK at KS;clear h k h1 h2 KP KQ hE hS;unfold zK;obtain⟨rr,Ol⟩:∃rr,rr=jO E 20 P Q:=⟨_,rfl⟩
 rw [<-Ol] at KS ⊢;clear Ol;obtain⟨⟨x0,x1⟩,⟨y0,y1⟩⟩:=X0.o;go_enter Tryz.func47,Tryz.ntmps47;go_wp2_with fail;refine(KS.o _ B0.o).mono ?_;rintro e w1 ⟨AT,nT,cT,rfl,hN,hf,b1⟩;have B1:=bh B0 b1;have X1:=O (X0.o.keep b1);have R1:=O (R0.o.keep b1);clear x0 x1 y0 y1;have NT:=O (And.intro hN (zbJ B0.o R0.o (by omega) hf));clear hN hf;clear b1 B0 X0 R0;have RS:=R1.o.set (.slice AT nT cT) (.int .i64 (z7 rr));obtain⟨s0,s1,-,-⟩:=RS;have GF:=O (zD (S:=S) (r:=rr) NT.o.1 NT.o.2 B1.o (show w.heap.size<=w.heap.size+1+1 by omega));obtain⟨r0,r1,z0,z1⟩:=R1.o;go_wp2_with fail;exact bodyPost_ret (v := .agg #[.slice AT nT cT,.int .i64 (z7 rr)]) (by simp [results,Tryz.results47,go_sem,s0,s1]) rfl GF.o
theorem znj(S:Nat->Prop)(EA:Option Addr)(en ec:Nat)(A B:Option Addr)(n m c d:Nat)(P Q:List Nd)(w:World)(h:Ns w A n c P)(k:Ns w B m d Q)(h1:zc P=0)(h2:zc Q=0)(op:Int)(hop:15<=op/\op<=19)(g:zf P≠2):
 Calls Tryz.prog 47 #[.slice EA en ec,.int .i64 op,.agg #[.slice A n c,.int .i64 0],.agg #[.slice B m d,.int .i64 0]] w (zK S w (.error 2)):=by
 have B0:=tB w A B n m c d;have X0:=tX w A B n m c d;have R0:=tR w A B n m c d;have KP:=O (λ(o:Int) w' (hb:Below w.heap.size w w')=>zQ A n c P o w' (h.keep hb) (zk h1));have KQ:=O (λ(o:Int) w' (hb:Below w.heap.size w w')=>zQ B m d Q o w' (k.keep hb) (zk h2));have HP:=O h;have HQ:=O k;have b14:(op==14)=false:=beq_eq_false_iff_ne.2 (by omega);have b20:(op==20)=false:=beq_eq_false_iff_ne.2 (by omega);have b25:(op==25)=false:=beq_eq_false_iff_ne.2 (by omega);have b26:(op==26)=false:=beq_eq_false_iff_ne.2 (by omega);have b27:(op==27)=false:=beq_eq_false_iff_ne.2 (by omega);have e14:¬op=14:=by omega
 have e20:¬op=20:=by omega
 have e25:¬op=25:=by omega
 have e26:¬op=26:=by omega
 have e27:¬op=27:=by omega
 have K5:=O (KP.o 2 _ B0.o);rw [show(zf P==2)=false from beq_eq_false_iff_ne.2 g] at K5;clear h k h1 h2 g KP KQ hop;obtain⟨⟨x0,x1⟩,⟨y0,y1⟩⟩:=X0.o;go_enter Tryz.func47,Tryz.ntmps47;go_wp2_with fail;refine(K5.o).mono ?_;rintro e w1 ⟨rfl,b1⟩;have B1:=bh B0 b1;have X1:=O (X0.o.keep b1);have R1:=O (R0.o.keep b1);clear x0 x1 y0 y1;clear b1 B0 X0 R0;go_wp2_with fail;refine(jZ _ _).mono ?_;rintro e w2 ⟨rfl,b2⟩;have B2:=bh B1 b2;have R2:=O (R1.o.keep b2);clear b2 B1 R1;have RS:=R2.o.set (.slice none 0 0) (.int .i64 (2));obtain⟨s0,s1,-,-⟩:=RS;have GF:=O (zD (S:=S) (r := .error (2)) (jM _) j5 B2.o (show w.heap.size<=w.heap.size+1+1 by omega));obtain⟨r0,r1,z0,z1⟩:=R2.o;go_wp2_with fail;exact bodyPost_ret (v := .agg #[.slice none 0 0,.int .i64 (2)]) (by simp [results,Tryz.results47,go_sem,s0,s1]) rfl GF.o
theorem zlw(S:Nat->Prop)(EA:Option Addr)(en ec:Nat)(A B:Option Addr)(n m c d:Nat)(P Q:List Nd)(w:World)(h:Ns w A n c P)(k:Ns w B m d Q)(h1:zc P=0)(h2:zc Q=0)(op:Int)(hop:15<=op/\op<=19)(g:zf P=2)(g2:zf Q≠2):
 Calls Tryz.prog 47 #[.slice EA en ec,.int .i64 op,.agg #[.slice A n c,.int .i64 0],.agg #[.slice B m d,.int .i64 0]] w (zK S w (.error 2)):=by
 have B0:=tB w A B n m c d;have X0:=tX w A B n m c d;have R0:=tR w A B n m c d;have KP:=O (λ(o:Int) w' (hb:Below w.heap.size w w')=>zQ A n c P o w' (h.keep hb) (zk h1));have KQ:=O (λ(o:Int) w' (hb:Below w.heap.size w w')=>zQ B m d Q o w' (k.keep hb) (zk h2));have HP:=O h;have HQ:=O k;have b14:(op==14)=false:=beq_eq_false_iff_ne.2 (by omega);have b20:(op==20)=false:=beq_eq_false_iff_ne.2 (by omega);have b25:(op==25)=false:=beq_eq_false_iff_ne.2 (by omega);have b26:(op==26)=false:=beq_eq_false_iff_ne.2 (by omega);have b27:(op==27)=false:=beq_eq_false_iff_ne.2 (by omega);have e14:¬op=14:=by omega
 have e20:¬op=20:=by omega
 have e25:¬op=25:=by omega
 have e26:¬op=26:=by omega
 have e27:¬op=27:=by omega
 have K5:=O (KP.o 2 _ B0.o);rw [show(zf P==2)=true from beq_iff_eq.2 g] at K5;have K6:=O (KQ.o 2);rw [show(zf Q==2)=false from beq_eq_false_iff_ne.2 g2] at K6;clear h k h1 h2 g g2 KP KQ hop;obtain⟨⟨x0,x1⟩,⟨y0,y1⟩⟩:=X0.o;go_enter Tryz.func47,Tryz.ntmps47;go_wp2_with fail;refine(K5.o).mono ?_;rintro e w1 ⟨rfl,b1⟩;have B1:=bh B0 b1;have X1:=O (X0.o.keep b1);have R1:=O (R0.o.keep b1);clear x0 x1 y0 y1;clear b1 B0 X0 R0;obtain⟨⟨x0,x1⟩,⟨y0,y1⟩⟩:=X1.o;go_wp2_with fail;refine(K6.o _ B1.o).mono ?_;rintro e w2 ⟨rfl,b2⟩;have B2:=bh B1 b2;have X2:=O (X1.o.keep b2);have R2:=O (R1.o.keep b2);clear x0 x1 y0 y1;clear b2 B1 X1 R1;go_wp2_with fail;refine(jZ _ _).mono ?_;rintro e w3 ⟨rfl,b3⟩;have B3:=bh B2 b3;have R3:=O (R2.o.keep b3);clear b3 B2 R2;have RS:=R3.o.set (.slice none 0 0) (.int .i64 (2));obtain⟨s0,s1,-,-⟩:=RS;have GF:=O (zD (S:=S) (r := .error (2)) (jM _) j5 B3.o (show w.heap.size<=w.heap.size+1+1 by omega));obtain⟨r0,r1,z0,z1⟩:=R3.o;go_wp2_with fail;exact bodyPost_ret (v := .agg #[.slice none 0 0,.int .i64 (2)]) (by simp [results,Tryz.results47,go_sem,s0,s1]) rfl GF.o
theorem zpf(S:Nat->Prop)(EA:Option Addr)(en ec:Nat)(A B:Option Addr)(n m c d:Nat)(P Q:List Nd)(w:World)(h:Ns w A n c P)(k:Ns w B m d Q)(h1:zc P=0)(h2:zc Q=0)(g:zf P=2)(g2:zf Q=2):
 Calls Tryz.prog 47 #[.slice EA en ec,.int .i64 15,.agg #[.slice A n c,.int .i64 0],.agg #[.slice B m d,.int .i64 0]] w (zK S w (.ok (zI (decide ((hdN P).n<(hdN Q).n))))):=by
 have B0:=tB w A B n m c d;have X0:=tX w A B n m c d;have R0:=tR w A B n m c d;have KP:=O (λ(o:Int) w' (hb:Below w.heap.size w w')=>zQ A n c P o w' (h.keep hb) (zk h1));have KQ:=O (λ(o:Int) w' (hb:Below w.heap.size w w')=>zQ B m d Q o w' (k.keep hb) (zk h2));have HP:=O h;have HQ:=O k;have K5:=O (KP.o 2 _ B0.o);rw [show(zf P==2)=true from beq_iff_eq.2 g] at K5;have K6:=O (KQ.o 2);rw [show(zf Q==2)=true from beq_iff_eq.2 g2] at K6;have HP0:=O (zk h1);have HQ0:=O (zk h2);clear h k h1 h2 g g2 KP KQ;obtain⟨⟨x0,x1⟩,⟨y0,y1⟩⟩:=X0.o;go_enter Tryz.func47,Tryz.ntmps47;go_wp2_with fail;refine(K5.o).mono ?_;rintro e w1 ⟨rfl,b1⟩;have B1:=bh B0 b1;have X1:=O (X0.o.keep b1);have R1:=O (R0.o.keep b1);clear x0 x1 y0 y1;clear b1 B0 X0 R0;obtain⟨⟨x0,x1⟩,⟨y0,y1⟩⟩:=X1.o;go_wp2_with fail;refine(K6.o _ B1.o).mono ?_;rintro e w2 ⟨rfl,b2⟩;have B2:=bh B1 b2;have X2:=O (X1.o.keep b2);have R2:=O (R1.o.keep b2);clear x0 x1 y0 y1;clear b2 B1 X1 R1;obtain⟨⟨x0,x1⟩,⟨y0,y1⟩⟩:=X2.o;obtain⟨a3,e3,hn3,D3,ok3,-⟩:=jY (HP.o.keep B2.o) HP0.o;subst e3;obtain⟨a4,e4,hn4,D4,ok4,-⟩:=jY (HQ.o.keep B2.o) HQ0.o;subst e4;have d1:=D3.c1;have d2:=D4.c1;have hi:(0:Int)<(n:Int):=by omega
 have hi0:0<n:=hn3;have hj:(0:Int)<(m:Int):=by omega
 have hj0:0<m:=hn4;clear D3 D4 ok3 ok4;generalize (hdN P).n=x at *;generalize (hdN Q).n=y at *;go_wp2_with fail;refine(jq (decide (x<y)) _).mono ?_;rintro e w3 ⟨AT,nT,cT,rfl,hN,b3⟩;have B3:=bh B2 b3;have NT:=O hN.1;have II:=O (gZ (S:=S) B2.o R2.o hN.2);have R3:=O (R2.o.keep b3);clear b3 B2 R2 hN;go_wp2_with fail;refine(jA _ _ _ _).mono ?_;rintro e w4 ⟨rfl,b4⟩;have B4:=bh B3 b4;have R4:=O (R3.o.keep b4);have NZ:=O (NT.o.keep b4);clear b4 B3 R3;have RS:=R4.o.set (.slice AT nT cT) (.int .i64 0);obtain⟨s0,s1,-,-⟩:=RS;have GF:=O (zD (S:=S) (r := .ok _) NZ.o II.o B4.o (show w.heap.size<=w.heap.size+1+1 by omega));obtain⟨r0,r1,z0,z1⟩:=R4.o;go_wp2_with fail;exact bodyPost_ret (v := .agg #[.slice AT nT cT,.int .i64 0]) (by simp [results,Tryz.results47,go_sem,s0,s1]) rfl GF.o
theorem zpc(S:Nat->Prop)(EA:Option Addr)(en ec:Nat)(A B:Option Addr)(n m c d:Nat)(P Q:List Nd)(w:World)(h:Ns w A n c P)(k:Ns w B m d Q)(h1:zc P=0)(h2:zc Q=0)(g:zf P=2)(g2:zf Q=2):
 Calls Tryz.prog 47 #[.slice EA en ec,.int .i64 16,.agg #[.slice A n c,.int .i64 0],.agg #[.slice B m d,.int .i64 0]] w (zK S w (.ok (zI (decide ((hdN P).n<=(hdN Q).n))))):=by
 have B0:=tB w A B n m c d;have X0:=tX w A B n m c d;have R0:=tR w A B n m c d;have KP:=O (λ(o:Int) w' (hb:Below w.heap.size w w')=>zQ A n c P o w' (h.keep hb) (zk h1));have KQ:=O (λ(o:Int) w' (hb:Below w.heap.size w w')=>zQ B m d Q o w' (k.keep hb) (zk h2));have HP:=O h;have HQ:=O k;have K5:=O (KP.o 2 _ B0.o);rw [show(zf P==2)=true from beq_iff_eq.2 g] at K5;have K6:=O (KQ.o 2);rw [show(zf Q==2)=true from beq_iff_eq.2 g2] at K6;have HP0:=O (zk h1);have HQ0:=O (zk h2);clear h k h1 h2 g g2 KP KQ;obtain⟨⟨x0,x1⟩,⟨y0,y1⟩⟩:=X0.o;go_enter Tryz.func47,Tryz.ntmps47;go_wp2_with fail;refine(K5.o).mono ?_;rintro e w1 ⟨rfl,b1⟩;have B1:=bh B0 b1;have X1:=O (X0.o.keep b1);have R1:=O (R0.o.keep b1);clear x0 x1 y0 y1;clear b1 B0 X0 R0;obtain⟨⟨x0,x1⟩,⟨y0,y1⟩⟩:=X1.o;go_wp2_with fail;refine(K6.o _ B1.o).mono ?_;rintro e w2 ⟨rfl,b2⟩;have B2:=bh B1 b2;have X2:=O (X1.o.keep b2);have R2:=O (R1.o.keep b2);clear x0 x1 y0 y1;clear b2 B1 X1 R1;obtain⟨⟨x0,x1⟩,⟨y0,y1⟩⟩:=X2.o;obtain⟨a3,e3,hn3,D3,ok3,-⟩:=jY (HP.o.keep B2.o) HP0.o;subst e3;obtain⟨a4,e4,hn4,D4,ok4,-⟩:=jY (HQ.o.keep B2.o) HQ0.o;subst e4;have d1:=D3.c1;have d2:=D4.c1;have hi:(0:Int)<(n:Int):=by omega
 have hi0:0<n:=hn3;have hj:(0:Int)<(m:Int):=by omega
 have hj0:0<m:=hn4;clear D3 D4 ok3 ok4;generalize (hdN P).n=x at *;generalize (hdN Q).n=y at *;go_wp2_with fail;refine(jq (decide (x<=y)) _).mono ?_;rintro e w3 ⟨AT,nT,cT,rfl,hN,b3⟩;have B3:=bh B2 b3;have NT:=O hN.1;have II:=O (gZ (S:=S) B2.o R2.o hN.2);have R3:=O (R2.o.keep b3);clear b3 B2 R2 hN;go_wp2_with fail;refine(jA _ _ _ _).mono ?_;rintro e w4 ⟨rfl,b4⟩;have B4:=bh B3 b4;have R4:=O (R3.o.keep b4);have NZ:=O (NT.o.keep b4);clear b4 B3 R3;have RS:=R4.o.set (.slice AT nT cT) (.int .i64 0);obtain⟨s0,s1,-,-⟩:=RS;have GF:=O (zD (S:=S) (r := .ok _) NZ.o II.o B4.o (show w.heap.size<=w.heap.size+1+1 by omega));obtain⟨r0,r1,z0,z1⟩:=R4.o;go_wp2_with fail;exact bodyPost_ret (v := .agg #[.slice AT nT cT,.int .i64 0]) (by simp [results,Tryz.results47,go_sem,s0,s1]) rfl GF.o
theorem znz(S:Nat->Prop)(EA:Option Addr)(en ec:Nat)(A B:Option Addr)(n m c d:Nat)(P Q:List Nd)(w:World)(h:Ns w A n c P)(k:Ns w B m d Q)(h1:zc P=0)(h2:zc Q=0)(op:Int)(hop:17<=op/\op<=19)(g:zf P=2)(g2:zf Q=2):
 Calls Tryz.prog 47 #[.slice EA en ec,.int .i64 op,.agg #[.slice A n c,.int .i64 0],.agg #[.slice B m d,.int .i64 0]] w (zK S w (z6 (pU op (hdN P).n (hdN Q).n) (LU (vP op (hdN P).n (hdN Q).n)))):=by
 have B0:=tB w A B n m c d;have X0:=tX w A B n m c d;have R0:=tR w A B n m c d;have KP:=O (λ(o:Int) w' (hb:Below w.heap.size w w')=>zQ A n c P o w' (h.keep hb) (zk h1));have KQ:=O (λ(o:Int) w' (hb:Below w.heap.size w w')=>zQ B m d Q o w' (k.keep hb) (zk h2));have HP:=O h;have HQ:=O k;have b14:(op==14)=false:=beq_eq_false_iff_ne.2 (by omega);have b20:(op==20)=false:=beq_eq_false_iff_ne.2 (by omega);have b25:(op==25)=false:=beq_eq_false_iff_ne.2 (by omega);have b26:(op==26)=false:=beq_eq_false_iff_ne.2 (by omega);have b27:(op==27)=false:=beq_eq_false_iff_ne.2 (by omega);have e14:¬op=14:=by omega
 have e20:¬op=20:=by omega
 have e25:¬op=25:=by omega
 have e26:¬op=26:=by omega
 have e27:¬op=27:=by omega
 have K5:=O (KP.o 2 _ B0.o);rw [show(zf P==2)=true from beq_iff_eq.2 g] at K5;have K6:=O (KQ.o 2);rw [show(zf Q==2)=true from beq_iff_eq.2 g2] at K6;have HP0:=O (zk h1);have HQ0:=O (zk h2);have e15:¬op=15:=by omega
 have e16:¬op=16:=by omega
 have b15:(op==15)=false:=beq_eq_false_iff_ne.2 (by omega);have b16:(op==16)=false:=beq_eq_false_iff_ne.2 (by omega);obtain⟨-,-,-,-,ok3,-⟩:=jY h (zk h1);obtain⟨-,-,-,-,ok4,-⟩:=jY k (zk h2);have KD:=O (λw=>zaq op (hdN P).n (hdN Q).n w ⟨ok3.lo,ok3.hi⟩ ⟨ok4.lo,ok4.hi⟩);have HVI:=O (PV op (hdN P).n (hdN Q).n);obtain⟨rr,Ol⟩:∃rr,rr=z6 (pU op (hdN P).n (hdN Q).n) (LU (vP op (hdN P).n (hdN Q).n)):=⟨_,rfl⟩
 rw [<-Ol];clear h k h1 h2 g g2 KP KQ hop ok3 ok4;by_cases z:pU op (hdN P).n (hdN Q).n=0
 ·have HT:=O (show rr = .ok (LU (vP op (hdN P).n (hdN Q).n)) by rw [Ol];unfold z6;rw [if_pos z]);rw [HT.o];rw [z] at KD;clear z HT Ol;generalize vP op (hdN P).n (hdN Q).n=r at *;obtain⟨⟨x0,x1⟩,⟨y0,y1⟩⟩:=X0.o;go_enter Tryz.func47,Tryz.ntmps47;go_wp2_with fail;refine(K5.o).mono ?_;rintro e w1 ⟨rfl,b1⟩;have B1:=bh B0 b1;have X1:=O (X0.o.keep b1);have R1:=O (R0.o.keep b1);clear x0 x1 y0 y1;clear b1 B0 X0 R0;obtain⟨⟨x0,x1⟩,⟨y0,y1⟩⟩:=X1.o;go_wp2_with fail;refine(K6.o _ B1.o).mono ?_;rintro e w2 ⟨rfl,b2⟩;have B2:=bh B1 b2;have X2:=O (X1.o.keep b2);have R2:=O (R1.o.keep b2);clear x0 x1 y0 y1;clear b2 B1 X1 R1;obtain⟨⟨x0,x1⟩,⟨y0,y1⟩⟩:=X2.o;obtain⟨a3,e3,hn3,D3,ok3,-⟩:=jY (HP.o.keep B2.o) HP0.o;subst e3;obtain⟨a4,e4,hn4,D4,ok4,-⟩:=jY (HQ.o.keep B2.o) HQ0.o;subst e4;have d1:=D3.c1;have d2:=D4.c1;have hi:(0:Int)<(n:Int):=by omega
  have hi0:0<n:=hn3;have hj:(0:Int)<(m:Int):=by omega
  have hj0:0<m:=hn4;clear D3 D4 ok3 ok4;generalize (hdN P).n=x at *;generalize (hdN Q).n=y at *;go_wp2_with fail;refine(KD.o _).mono ?_;rintro e w3 ⟨rfl,rfl⟩;have N2:=O (MF w2 ⟨2,r,emp,emp⟩ ⟨Nat.zero_le _,Nat.zero_le _,HVI.o.1,HVI.o.2⟩);have II:=O (gZ (S:=S) (A:=some ⟨w2.heap.size,0,none⟩) B2.o R2.o (λa e=>by injection e with e;subst e;exact Nat.le_refl _));have R3:=O (R2.o.keep (zb w2 (.cells #[.int .i64 2,.int .i64 r,.string ⟨#[]⟩,.string ⟨#[]⟩] 28)));have B3:=bh B2 (zb w2 (.cells #[.int .i64 2,.int .i64 r,.string ⟨#[]⟩,.string ⟨#[]⟩] 28));go_wp2_with fail;refine(jA _ _ _ _).mono ?_;rintro e w4 ⟨rfl,b4⟩;have B4:=bh B3 b4;have R4:=O (R3.o.keep b4);have NZ:=O (N2.o.keep b4);clear b4 B3 R3;have RS:=R4.o.set (.slice (some ⟨w2.heap.size,0,none⟩) 1 1) (.int .i64 0);obtain⟨s0,s1,-,-⟩:=RS;have GF:=O (zD (S:=S) (r := .ok _) NZ.o II.o B4.o (show w.heap.size<=w.heap.size+1+1 by omega));obtain⟨r0,r1,z0,z1⟩:=R4.o;go_wp2_with fail;exact bodyPost_ret (v := .agg #[.slice (some ⟨w2.heap.size,0,none⟩) 1 1,.int .i64 0]) (by simp [results,Tryz.results47,go_sem,s0,s1]) rfl GF.o
 ·have HT:=O (show rr = .error (pU op (hdN P).n (hdN Q).n) by rw [Ol];unfold z6;rw [if_neg z]);rw [HT.o];have f3:(pU op (hdN P).n (hdN Q).n != 0)=true:=by simpa using z
  clear z HT HVI Ol;generalize vP op (hdN P).n (hdN Q).n=r at *;generalize pU op (hdN P).n (hdN Q).n=u at *;obtain⟨⟨x0,x1⟩,⟨y0,y1⟩⟩:=X0.o;go_enter Tryz.func47,Tryz.ntmps47;go_wp2_with fail;refine(K5.o).mono ?_;rintro e w1 ⟨rfl,b1⟩;have B1:=bh B0 b1;have X1:=O (X0.o.keep b1);have R1:=O (R0.o.keep b1);clear x0 x1 y0 y1;clear b1 B0 X0 R0;obtain⟨⟨x0,x1⟩,⟨y0,y1⟩⟩:=X1.o;go_wp2_with fail;refine(K6.o _ B1.o).mono ?_;rintro e w2 ⟨rfl,b2⟩;have B2:=bh B1 b2;have X2:=O (X1.o.keep b2);have R2:=O (R1.o.keep b2);clear x0 x1 y0 y1;clear b2 B1 X1 R1;obtain⟨⟨x0,x1⟩,⟨y0,y1⟩⟩:=X2.o;obtain⟨a3,e3,hn3,D3,ok3,-⟩:=jY (HP.o.keep B2.o) HP0.o;subst e3;obtain⟨a4,e4,hn4,D4,ok4,-⟩:=jY (HQ.o.keep B2.o) HQ0.o;subst e4;have d1:=D3.c1;have d2:=D4.c1;have hi:(0:Int)<(n:Int):=by omega
  have hi0:0<n:=hn3;have hj:(0:Int)<(m:Int):=by omega
  have hj0:0<m:=hn4;clear D3 D4 ok3 ok4;generalize (hdN P).n=x at *;generalize (hdN Q).n=y at *;go_wp2_with fail;refine(KD.o _).mono ?_;rintro e w3 ⟨rfl,rfl⟩;go_wp2_with fail;refine(jZ _ _).mono ?_;rintro e w3 ⟨rfl,b3⟩;have B3:=bh B2 b3;have R3:=O (R2.o.keep b3);clear b3 B2 R2;have RS:=R3.o.set (.slice none 0 0) (.int .i64 (u));obtain⟨s0,s1,-,-⟩:=RS;have GF:=O (zD (S:=S) (r := .error (u)) (jM _) j5 B3.o (show w.heap.size<=w.heap.size+1+1 by omega));obtain⟨r0,r1,z0,z1⟩:=R3.o;go_wp2_with fail;exact bodyPost_ret (v := .agg #[.slice none 0 0,.int .i64 (u)]) (by simp [results,Tryz.results47,go_sem,s0,s1]) rfl GF.o
theorem zll(S:Nat->Prop)(op:Int)(hop:14<=op/\op<=20\/25<=op/\op<=27)(EA:Option Addr)(en ec:Nat)(E:List En)(A B:Option Addr)(n m c d:Nat)(P Q:List Nd)(w:World)(h:Ns w A n c P)(k:Ns w B m d Q)(h1:zc P=0)(h2:zc Q=0)(hE:Es w EA en ec E)(hS:jW E=0):
 Calls Tryz.prog 47 #[.slice EA en ec,.int .i64 op,.agg #[.slice A n c,.int .i64 0],.agg #[.slice B m d,.int .i64 0]] w (zK S w (jO E op P Q)):=by
 by_cases h14:op=14
 ·subst h14;exact zo9 S EA en ec A B n m c d P Q w h k h1 h2
 by_cases h20:op=20
 ·subst h20;exact zpo S EA en ec A B n m c d P Q w h k h1 h2 E hE hS
 by_cases h25:op=25
 ·subst h25;exact zfI S EA en ec A B n m c d P Q w h k h1 h2 E
 by_cases h26:op=26
 ·subst h26;exact zfD S EA en ec A B n m c d P Q w h k h1 h2 E
 by_cases h27:op=27
 ·subst h27;exact zgE S EA en ec A B n m c d P Q w h k h1 h2 E
 have hn:15<=op/\op<=19:=by omega
 by_cases g:zf P=2
 ·by_cases g2:zf Q=2
  ·by_cases h15:op=15
   ·subst h15;rw [show jO E 15 P Q = .ok (zI (decide ((hdN P).n<(hdN Q).n))) by unfold jO;simp [g,g2]];exact zpf S EA en ec A B n m c d P Q w h k h1 h2 g g2
   by_cases h16:op=16
   ·subst h16;rw [show jO E 16 P Q = .ok (zI (decide ((hdN P).n<=(hdN Q).n))) by unfold jO;simp [g,g2]];exact zpc S EA en ec A B n m c d P Q w h k h1 h2 g g2
   rw [show jO E op P Q=z6 (pU op (hdN P).n (hdN Q).n) (LU (vP op (hdN P).n (hdN Q).n)) by unfold jO;rw [if_neg h14,if_neg h20,if_neg h25,if_neg h26,if_neg h27,if_pos ⟨g,g2⟩,if_neg h15,if_neg h16]];exact znz S EA en ec A B n m c d P Q w h k h1 h2 op (by omega) g g2
  ·rw [show jO E op P Q = .error 2 by unfold jO;rw [if_neg h14,if_neg h20,if_neg h25,if_neg h26,if_neg h27,if_neg (λq=>g2 q.2)]];exact zlw S EA en ec A B n m c d P Q w h k h1 h2 op hn g g2
 ·rw [show jO E op P Q = .error 2 by unfold jO;rw [if_neg h14,if_neg h20,if_neg h25,if_neg h26,if_neg h27,if_neg (λq=>g q.1)]];exact znj S EA en ec A B n m c d P Q w h k h1 h2 op hn g
end Go.Proofs.YtokiogmfgpidmaaGreatDoor
