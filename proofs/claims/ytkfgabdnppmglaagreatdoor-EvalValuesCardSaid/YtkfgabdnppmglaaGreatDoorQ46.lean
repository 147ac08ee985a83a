/-
  The document's in: below one of these. (gen_refin.py)
-/
import Derived.Test.YtkfgabdnppmglaaGreatDoorQ44
import Derived.Test.YtkfgabdnppmglaaGreatDoorQ45
set_option maxRecDepth 100000
set_option maxHeartbeats 8000000
namespace Go.Proofs.YtkfgabdnppmglaaGreatDoor
open Go.RowKit Go.Wk Go.Sort
structure VuG(w:World)(b:Nat)(x y:ByteArray):Prop where
 c0:w.cell? ⟨b,0,none⟩=some (.string x)
 c1:w.cell? ⟨b,1,none⟩=some (.string y)
theorem VuG.keep{w w':World}{b:Nat}{x y:ByteArray}(h:VuG w b x y)(hb:Below w.heap.size w w'):VuG w' b x y:=⟨za hb h.c0,za hb h.c1⟩
theorem zhb(w:World)(x y:ByteArray)(t:TypeId):VuG (w.alloc (.cells #[.string x,.string y] t)) w.heap.size x y:=⟨(zbM w _ _ t).1,(zbM w _ _ t).2⟩
theorem zoS{E:List En}(h:ji E=0)(a b:Ud):inB E a b=(decide (a=b)|| zkj E a b):=by
 rw [Bool.eq_iff_iff,Bool.or_eq_true,zeU,decide_eq_true_iff];constructor
 ·intro hb;by_cases hc:b=a∨Abv (jj E) a b
  ·exact hc.imp (fun e=>e.symm) id
  ·rw [zj2 hc] at hb;cases hb
 ·intro hc;exact zlS h (hc.imp (fun e=>e.symm) id)
theorem zuC(S:Nat→Prop)(EA:Option Addr)(en ec:Nat)(E:List En)(A B:Option Addr)(n m c d:Nat)(P Q:List Nd)(w:World)(hE:Es w EA en ec E)(hS:ji E=0)(h:Ns w A n c P)(k:Ns w B m d Q)(h1:zc P=0)(h2:zc Q=0)(g5:zf Q≠5):
 Calls Tryz.prog 66 #[.slice EA en ec,.agg #[.slice A n c,.int .i64 0],.agg #[.slice B m d,.int .i64 0]] w (zD S w (inX E P Q)):=by
 have B0:=tB w A B n m c d;have X0:=tX w A B n m c d;have R0:=tR w A B n m c d;have KP:=hi9 (fun(o:Int) w' (hb:Below w.heap.size w w')=>zS A n c P o w' (h.keep hb) (zm h1));have KQ:=hi9 (fun(o:Int) w' (hb:Below w.heap.size w w')=>zS B m d Q o w' (k.keep hb) (zm h2));have HP:=hi9 h;have HQ:=hi9 k;have K5:=hi9 (KQ.out 5 _ B0.out);have K4:=hi9 (KP.out 4);have HEs:=hi9 hE;have HS0:=hi9 hS;have HUPS:=hi9 (show(zaA E).length≤900 from by have h1:=zif (zat.1 hS).2.1;have h2:=(zat.1 hS).1;omega);obtain⟨f4,hf4⟩:∃f4:Bool,f4=(zf P==4):=⟨_,rfl⟩
 rw [←hf4] at K4;have HF4:=hi9 hf4;clear hf4;have HP0:=hi9 (zm h1);obtain⟨TL,hTL⟩:∃TL,TL=j4 Q:=⟨_,rfl⟩
 obtain⟨rr,hrr⟩:∃rr,rr=inX E P Q:=⟨_,rfl⟩
 have HRR:=hi9 (show((f4 && TL.all fun t=>decide (zf t=4))=true→rr = .ok (zt (TL.any fun t=>inB E (jd P) (jd t))))∧((f4 && TL.all fun t=>decide (zf t=4))=false→rr = .error 2) from by
  have hx:(zf P=4∧TL.all (fun t=>decide (zf t=4))=true)↔(f4 && TL.all fun t=>decide (zf t=4))=true:=by
   rw [HF4.out,Bool.and_eq_true,beq_iff_eq]
  rw [hrr,hTL]
  rw [hTL] at hx
  unfold inX
  exact⟨fun c=>if_pos (hx.2 c),fun c=>if_neg fun q=>by rw [hx.1 q] at c;cases c⟩)
 rw [←hrr];have K5':=hi9 (KQ.out 5);rw [show(zf Q==5)=false from beq_eq_false_iff_ne.2 g5] at K5';have HQ0:=hi9 (zm h2);have BX:=zb (((w.alloc (.cells #[.slice A n c,.int .i64 0] 30)).alloc (.cells #[.slice B m d,.int .i64 0] 30)).alloc (.cells #[.slice none 0 0,.int .i64 0] 30)) (.cells #[.slice B m d] 25);have B1:=bh B0 BX;have X1:=hi9 (X0.out.keep BX);have R1:=hi9 (R0.out.keep BX);have hz0:(((w.alloc (.cells #[.slice A n c,.int .i64 0] 30)).alloc (.cells #[.slice B m d,.int .i64 0] 30)).alloc (.cells #[.slice none 0 0,.int .i64 0] 30)).heap.size=w.heap.size+1+1+1:=by simp [go_sem]
 have T0:=ztZ (((w.alloc (.cells #[.slice A n c,.int .i64 0] 30)).alloc (.cells #[.slice B m d,.int .i64 0] 30)).alloc (.cells #[.slice none 0 0,.int .i64 0] 30)) ⟨B,m,d,Q⟩ (k.keep B0.out) 25;rw [hz0] at T0;have HTS:=hi9 T0;have HVP:=hi9 (show([⟨B,m,d,Q⟩]:List Sl).map Sl.P=TL by rw [hTL];unfold j4;rw [if_neg g5];rfl);have HTP:=hi9 (show∀r∈([⟨B,m,d,Q⟩]:List Sl),0<r.P.length from fun r hr=>by simp only [List.mem_cons,List.not_mem_nil,or_false] at hr;subst hr;exact zm h2);have HLN:=hi9 (show 1=([⟨B,m,d,Q⟩]:List Sl).length from rfl);obtain⟨VT,hVT⟩:∃VT,VT=([⟨B,m,d,Q⟩]:List Sl):=⟨_,rfl⟩
 rw [←hVT] at HTS HVP HTP HLN;clear hVT hTL hrr h k h1 h2 g5 KP KQ hE hS BX hz0 T0 X0 R0 B0 K5;obtain⟨⟨x0,x1⟩,⟨y0,y1⟩⟩:=X1.out;go_enter Tryz.func66,Tryz.ntmps66;go_wp2_with fail;refine(K5'.out _ B1.out).mono ?_;rintro e w2 ⟨rfl,b2⟩;have B2:=bh B1 b2;have X2:=hi9 (X1.out.keep b2);have R2:=hi9 (R1.out.keep b2);clear x0 x1 y0 y1;replace HTS:=hi9 (HTS.out.keep b2);clear b2 B1 X1 R1;obtain⟨⟨x0,x1⟩,⟨y0,y1⟩⟩:=X2.out;go_wp2_with fail;refine(K4.out _ B2.out).mono ?_;rintro e w3 ⟨rfl,b3⟩;have B3:=bh B2 b3;have X3:=hi9 (X2.out.keep b3);have R3:=hi9 (R2.out.keep b3);clear x0 x1 y0 y1;replace HTS:=hi9 (HTS.out.keep b3);clear b3 B2 X2 R2;go_wp2_with fail;go_loopw [8,9] (fun ok i wr=>∃j:Nat,i = .int .i64 j∧j≤1∧ok = .bool (f4 &&(TL.take j).all fun t=>decide (zf t=4))∧wr=w3) (fun _ i _=>1-(intOf i).toNat)
 case atStart=>exact⟨0,rfl,Nat.zero_le _,by simp,rfl⟩
 case round =>
  obtain⟨j,rfl,hj,rfl,rfl⟩:=hrel;by_cases hlt:j<1
  ·have hjl:j<VT.length:=by rw [←HLN.out];exact hlt
   obtain⟨a1,e1,q1,n1⟩:=HTS.out.at hjl;have hrp:=HTP.out _ (List.getElem_mem hjl);have HTK:=hi9 (show(TL.take (j+1)).all (fun t=>decide (zf t=4))=((TL.take j).all (fun t=>decide (zf t=4))&& decide (zf VT[j].P=4)) from by
    have hjt:j<TL.length:=by rw [←HVP.out,List.length_map];exact hjl
    rw [List.take_succ_eq_append_getElem hjt,List.all_append]
    have:TL[j]=VT[j].P:=by simp [←HVP.out]
    simp [this])
   generalize VT[j]=r at *;injection e1 with e1;subst e1;rw [zbD,Nat.zero_add] at q1;obtain⟨a2,e2,hn2,⟨d0,-,-,-⟩,-,hh⟩:=jm n1 hrp;rw [e2] at q1;have hi2:(0:Int)<(r.n:Int):=by omega
   have hi20:0<r.n:=hn2;have hjn:(j:Int)<((1:Nat):Int):=by omega
   rw [hh] at HTK;generalize (hdN r.P).op=yo at *;clear e2 hn2 hh hrp n1;by_cases g:yo=4
   ·rw [decide_eq_true g,Bool.and_true] at HTK;have f1:(yo != 4)=false:=by simpa using g
    clear g;go_wp2_with fail;go_roundw
    case rel=>exact⟨j+1,by go_num,by omega,by rw [HTK.out],(by first|rfl|trivial)⟩
    case measure=>simp [intOf];omega
   ·rw [decide_eq_false g,Bool.and_false] at HTK;have f1:(yo != 4)=true:=by simpa using g
    clear g;go_wp2_with fail;go_roundw
    case rel=>exact⟨j+1,by go_num,by omega,by rw [HTK.out,Bool.and_false],(by first|rfl|trivial)⟩
    case measure=>simp [intOf];omega
  ·have HAL:=hi9 (show TL.take j=TL from List.take_of_length_le (by rw [←HVP.out,List.length_map,←HLN.out];omega));rw [HAL.out];have HRB:=hi9 (HRR.out);by_cases c:(f4 && TL.all fun t=>decide (zf t=4))=true
   case neg =>
    have c0:(f4 && TL.all fun t=>decide (zf t=4))=false:=by simpa using c
    have HRR2:=hi9 (HRB.out.2 c0);rw [c0];clear c c0 HRB HAL HRR;go_wp2_with fail;refine(jA _ _).mono ?_;rintro e w4 ⟨rfl,b4⟩;have B4:=bh B3 b4;have R4:=hi9 (R3.out.keep b4);clear b4 B3 R3;have RS:=R4.out.set (.slice none 0 0) (.int .i64 (2));obtain⟨s0,s1,-,-⟩:=RS;have GF:=hi9 (zA (S:=S) (r := .error (2)) (jv _) jB B4.out (show w.heap.size≤w.heap.size+1+1 by omega));obtain⟨r0,r1,z0,z1⟩:=R4.out;go_wp2_with fail;exact bodyPost_ret (v := .agg #[.slice none 0 0,.int .i64 (2)]) (by simp [results,Tryz.results66,go_sem,s0,s1]) rfl (by rw [HRR2.out];exact GF.out)
   have HRR2:=hi9 (HRB.out.1 c);rw [c];clear c HRB HAL HRR;obtain⟨⟨x0,x1⟩,⟨y0,y1⟩⟩:=X3.out;obtain⟨a3,e3,hn3,D3,ok3,-⟩:=jm (HP.out.keep B3.out) HP0.out;subst e3;obtain⟨d0,d1,d2,d3⟩:=D3;have hi3:(0:Int)<(n:Int):=by omega
   have hi30:0<n:=hn3;have KU:=hi9 (zcy (hdN P));have HUP:=hi9 (show jd P=((hdN P).s,(hdN P).t) from rfl);have HOK3:=hi9 ok3;generalize hdN P=x at *;clear ok3 hn3;go_wp2_with fail;clear hlt hj;refine(KU.out _).mono ?_;rintro e w4 ⟨rfl,b4⟩;have B4:=bh B3 b4;have X4:=hi9 (X3.out.keep b4);have R4:=hi9 (R3.out.keep b4);replace HTS:=hi9 (HTS.out.keep b4);clear b4 B3 X3 R3 x0 x1 y0 y1 d0 d1 d2 d3;go_wp2_with fail;have U5:=hi9 (zhb w4 x.s x.t 24);have bx:=zb w4 (.cells #[.string x.s,.string x.t] 24);have B5:=bh B4 bx;have R5:=hi9 (R4.out.keep bx);replace HTS:=hi9 (HTS.out.keep bx);obtain⟨w5,hw5⟩:∃wz,w4.alloc (.cells #[.string x.s,.string x.t] 24)=wz:=⟨_,rfl⟩
   obtain⟨bu,hbu⟩:∃bu,w4.heap.size=bu:=⟨_,rfl⟩
   rw [hw5] at U5 B5 R5 HTS ⊢;rw [hbu] at U5 ⊢;clear hw5 hbu bx B4 R4 X4;go_loopw [11] (fun i wr=>∃j:Nat,i = .int .i64 j∧j≤1∧Hid ((TL.take j).any (fun t=>inB E (jd P) (jd t))=false)∧Hid (Below w5.heap.size w5 wr)) (fun i _=>1-(intOf i).toNat)
   case atStart=>exact⟨0,rfl,Nat.zero_le _,hi9 (by simp),Below.refl _ _⟩
   case round =>
    obtain⟨j,rfl,hj,hNO,hB⟩:=hrel;have BW:=bh B5 hB.out;have RW:=hi9 (R5.out.keep hB.out);have UW:=hi9 (U5.out.keep hB.out);by_cases hlt:j<1
    ·have hjl:j<VT.length:=by rw [←HLN.out];exact hlt
     have hjt:j<TL.length:=by rw [←HVP.out,List.length_map];exact hjl
     obtain⟨a1,e1,q1,n1⟩:=(HTS.out.keep hB.out).at hjl;have hrp:=HTP.out _ (List.getElem_mem hjl);have HTK:=hi9 (show(TL.take (j+1)).any (fun t=>inB E (jd P) (jd t))=((TL.take j).any (fun t=>inB E (jd P) (jd t))|| inB E (jd P) (jd VT[j].P)) from by
      rw [List.take_succ_eq_append_getElem hjt,List.any_append]
      have:TL[j]=VT[j].P:=by simp [←HVP.out]
      simp [this])
     have HMT:=hi9 (show VT[j].P∈TL from by rw [←HVP.out];exact List.mem_map.2 ⟨_,List.getElem_mem hjl,rfl⟩);generalize VT[j]=r at *;injection e1 with e1;subst e1;rw [zbD,Nat.zero_add] at q1;obtain⟨a2,e2,hn2,⟨d0,d1,d2,d3⟩,ok2,-⟩:=jm n1 hrp;rw [e2] at q1;have hi2:(0:Int)<(r.n:Int):=by omega
     have hi20:0<r.n:=hn2;have hjn:(j:Int)<((1:Nat):Int):=by omega
     have KU2:=hi9 (zcy (hdN r.P));have HUR:=hi9 (show jd r.P=((hdN r.P).s,(hdN r.P).t) from rfl);generalize hdN r.P=y at *;have HOR:=hi9 (zoS HS0.out (jd P) (jd r.P));have HAB:=hi9 (fun w' (hb:Below w.heap.size w w')=>zgh EA en ec E (x.s,x.t) (y.s,y.t) w' (HEs.out.keep hb) ⟨HOK3.out.s,HOK3.out.t⟩ HUPS.out);unfold udV at HAB;dsimp only at HAB;rw [HUP.out,HUR.out] at HOR;have HTR:=hi9 (fun(q:inB E (jd P) (jd r.P)=true)=>HRR2.out.trans (show(.ok (zt (TL.any fun t=>inB E (jd P) (jd t))):Res)= .ok (zt true) from by rw [show(TL.any fun t=>inB E (jd P) (jd t))=true from List.any_eq_true.2 ⟨_,HMT.out,q⟩]));rw [HUP.out,HUR.out] at HTR;rw [HUP.out,HUR.out] at HTK;have HNO2:=hNO;rw [HUP.out] at HNO2;generalize inB E (x.s,x.t) (y.s,y.t)=ib at *;clear e2 hn2 hrp n1 ok2;go_wp2_with fail;refine(KU2.out _).mono ?_;rintro e w6 ⟨rfl,b6⟩;have bb:=b6.trans ((zb w6 (.cells #[.string y.s,.string y.t] 24)).mono b6.size);have TqX:=hi9 (zhb w6 y.s y.t 24);have BqX:=bh BW bb;have HqX:=bh hB bb;have RqX:=hi9 (RW.out.keep bb);have UqX:=hi9 (UW.out.keep bb);obtain⟨w7,hw7⟩:∃wz,w6.alloc (.cells #[.string y.s,.string y.t] 24)=wz:=⟨_,rfl⟩
     obtain⟨bt,hbt⟩:∃bt,w6.heap.size=bt:=⟨_,rfl⟩
     rw [hw7] at TqX BqX HqX RqX UqX;rw [hbt] at TqX;clear b6 bb d0 d1 d2 d3 q1 BW RW UW KU2;by_cases he:((x.s,x.t):Ud)=(y.s,y.t)
     ·have hc1:(x.s.toList==y.s.toList)=true:=by rw [show x.s=y.s from congrArg Prod.fst he];exact beq_self_eq_true _
      have hc2:(x.t.toList==y.t.toList)=true:=by rw [show x.t=y.t from congrArg Prod.snd he];exact beq_self_eq_true _
      have HRR3:=hi9 (HTR.out (by rw [HOR.out,decide_eq_true he];rfl));obtain⟨u0,u1⟩:=UqX.out;obtain⟨t0,t1⟩:=TqX.out;clear he HOR HTR HTK HNO2 HAB;go_wp2_with fail;refine(jq true _).mono ?_;rintro e w20 ⟨AT,nT,cT,rfl,hN,b20⟩;have B20:=bh BqX b20;have NT:=hi9 hN.1;have HFR:=hi9 (j5 (S:=S) BqX.out RqX.out hN.2);have R20:=hi9 (RqX.out.keep b20);clear b20 hN;go_wp2_with fail;refine(jr _ _ _ _).mono ?_;rintro e w21 ⟨rfl,b21⟩;have B21:=bh B20 b21;have R21:=hi9 (R20.out.keep b21);have NZ:=hi9 (NT.out.keep b21);clear b21 B20 R20;have RS:=R21.out.set (.slice AT nT cT) (.int .i64 0);obtain⟨s0,s1,-,-⟩:=RS;have GF:=hi9 (zA (S:=S) (r := .ok _) NZ.out HFR.out B21.out (show w.heap.size≤w.heap.size+1+1 by omega));obtain⟨r0,r1,z0,z1⟩:=R21.out;go_wp2_with fail;exact bodyPost_ret (v := .agg #[.slice AT nT cT,.int .i64 0]) (by simp [results,Tryz.results66,go_sem,s0,s1]) rfl (by rw [HRR3.out];exact GF.out)
     ·have hne:=zcq he;rw [decide_eq_false he,Bool.false_or] at HOR;dsimp only at hne;have K9:=hi9 (HAB.out _ BqX.out);generalize zkj E (x.s,x.t) (y.s,y.t)=ab at *;obtain⟨u0,u1⟩:=UqX.out;obtain⟨t0,t1⟩:=TqX.out;clear he HAB;rcases hne with hc1|⟨hc1,hc2⟩
      all_goals
       go_wp2_with fail;refine K9.out.mono ?_;rintro e w9 ⟨rfl,b9⟩;have B9:=bh BqX b9;have H9:=bh HqX b9;have R9:=hi9 (RqX.out.keep b9);clear b9 BqX HqX RqX UqX TqX u0 u1 t0 t1 K9;rcases ab with _|_
       ·rw [HOR.out,Bool.or_false] at HTK;have HN9:=hi9 (show(TL.take (j+1)).any (fun t=>inB E (jd P) (jd t))=false from by rw [HUP.out];exact HTK.out.trans HNO2.out);clear HOR HTR HTK HNO2;go_wp2_with fail;go_roundw
        case rel=>exact⟨j+1,by go_num,by omega,HN9,H9⟩
        case measure=>simp [intOf];omega
       ·have HRR3:=hi9 (HTR.out HOR.out);clear HOR HTR HTK HNO2;go_wp2_with fail;refine(jq true _).mono ?_;rintro e w20 ⟨AT,nT,cT,rfl,hN,b20⟩;have B20:=bh B9 b20;have NT:=hi9 hN.1;have HFR:=hi9 (j5 (S:=S) B9.out R9.out hN.2);have R20:=hi9 (R9.out.keep b20);clear b20 hN;go_wp2_with fail;refine(jr _ _ _ _).mono ?_;rintro e w21 ⟨rfl,b21⟩;have B21:=bh B20 b21;have R21:=hi9 (R20.out.keep b21);have NZ:=hi9 (NT.out.keep b21);clear b21 B20 R20;have RS:=R21.out.set (.slice AT nT cT) (.int .i64 0);obtain⟨s0,s1,-,-⟩:=RS;have GF:=hi9 (zA (S:=S) (r := .ok _) NZ.out HFR.out B21.out (show w.heap.size≤w.heap.size+1+1 by omega));obtain⟨r0,r1,z0,z1⟩:=R21.out;go_wp2_with fail;exact bodyPost_ret (v := .agg #[.slice AT nT cT,.int .i64 0]) (by simp [results,Tryz.results66,go_sem,s0,s1]) rfl (by rw [HRR3.out];exact GF.out)
    ·have HAL:=hi9 (show TL.take j=TL from List.take_of_length_le (by rw [←HVP.out,List.length_map,←HLN.out];omega));have HN9:=hNO.out;rw [HAL.out] at HN9;have HRR3:=hi9 (HRR2.out.trans (show(.ok (zt (TL.any fun t=>inB E (jd P) (jd t))):Res)= .ok (zt false) from by rw [HN9]));clear HN9 HAL hNO;go_wp2_with fail;refine(jq false _).mono ?_;rintro e w20 ⟨AT,nT,cT,rfl,hN,b20⟩;have B20:=bh BW b20;have NT:=hi9 hN.1;have HFR:=hi9 (j5 (S:=S) BW.out RW.out hN.2);have R20:=hi9 (RW.out.keep b20);clear b20 hN;go_wp2_with fail;refine(jr _ _ _ _).mono ?_;rintro e w21 ⟨rfl,b21⟩;have B21:=bh B20 b21;have R21:=hi9 (R20.out.keep b21);have NZ:=hi9 (NT.out.keep b21);clear b21 B20 R20;have RS:=R21.out.set (.slice AT nT cT) (.int .i64 0);obtain⟨s0,s1,-,-⟩:=RS;have GF:=hi9 (zA (S:=S) (r := .ok _) NZ.out HFR.out B21.out (show w.heap.size≤w.heap.size+1+1 by omega));obtain⟨r0,r1,z0,z1⟩:=R21.out;go_wp2_with fail;exact bodyPost_ret (v := .agg #[.slice AT nT cT,.int .i64 0]) (by simp [results,Tryz.results66,go_sem,s0,s1]) rfl (by rw [HRR3.out];exact GF.out)
theorem zuy(S:Nat→Prop)(EA:Option Addr)(en ec:Nat)(E:List En)(A B:Option Addr)(n m c d:Nat)(P Q:List Nd)(w:World)(hE:Es w EA en ec E)(hS:ji E=0)(h:Ns w A n c P)(k:Ns w B m d Q)(h1:zc P=0)(h2:zc Q=0)(g5:zf Q=5):
 Calls Tryz.prog 66 #[.slice EA en ec,.agg #[.slice A n c,.int .i64 0],.agg #[.slice B m d,.int .i64 0]] w (zD S w (inX E P Q)):=by
 have B0:=tB w A B n m c d;have X0:=tX w A B n m c d;have R0:=tR w A B n m c d;have KP:=hi9 (fun(o:Int) w' (hb:Below w.heap.size w w')=>zS A n c P o w' (h.keep hb) (zm h1));have KQ:=hi9 (fun(o:Int) w' (hb:Below w.heap.size w w')=>zS B m d Q o w' (k.keep hb) (zm h2));have HP:=hi9 h;have HQ:=hi9 k;have K5:=hi9 (KQ.out 5 _ B0.out);have K4:=hi9 (KP.out 4);have HEs:=hi9 hE;have HS0:=hi9 hS;have HUPS:=hi9 (show(zaA E).length≤900 from by have h1:=zif (zat.1 hS).2.1;have h2:=(zat.1 hS).1;omega);obtain⟨f4,hf4⟩:∃f4:Bool,f4=(zf P==4):=⟨_,rfl⟩
 rw [←hf4] at K4;have HF4:=hi9 hf4;clear hf4;have HP0:=hi9 (zm h1);obtain⟨TL,hTL⟩:∃TL,TL=j4 Q:=⟨_,rfl⟩
 obtain⟨rr,hrr⟩:∃rr,rr=inX E P Q:=⟨_,rfl⟩
 have HRR:=hi9 (show((f4 && TL.all fun t=>decide (zf t=4))=true→rr = .ok (zt (TL.any fun t=>inB E (jd P) (jd t))))∧((f4 && TL.all fun t=>decide (zf t=4))=false→rr = .error 2) from by
  have hx:(zf P=4∧TL.all (fun t=>decide (zf t=4))=true)↔(f4 && TL.all fun t=>decide (zf t=4))=true:=by
   rw [HF4.out,Bool.and_eq_true,beq_iff_eq]
  rw [hrr,hTL]
  rw [hTL] at hx
  unfold inX
  exact⟨fun c=>if_pos (hx.2 c),fun c=>if_neg fun q=>by rw [hx.1 q] at c;cases c⟩)
 rw [←hrr];rw [show(zf Q==5)=true from beq_iff_eq.2 g5] at K5;have BX:=zb (((w.alloc (.cells #[.slice A n c,.int .i64 0] 30)).alloc (.cells #[.slice B m d,.int .i64 0] 30)).alloc (.cells #[.slice none 0 0,.int .i64 0] 30)) (.cells #[.slice B m d] 25);have B1:=bh B0 BX;have X1:=hi9 (X0.out.keep BX);have R1:=hi9 (R0.out.keep BX);have K5':=hi9 (KQ.out 5);rw [show(zf Q==5)=true from beq_iff_eq.2 g5] at K5';have KPR:=hi9 (fun w' (hb:Below w.heap.size w w')=>zfH B m d Q w' (k.keep hb) h2 g5);have hTQ:TL=zl Q:=by rw [hTL];unfold j4;rw [if_pos g5]
 have HTQ:=hi9 hTQ;have HTV:=hi9 (show∀t∈zl Q,0<t.length from fun t ht=>((zdt (zP.1 h2).2 g5).2.2.1 t ht).pos);have HL200:=hi9 (show(zl Q).length≤200 from by
  obtain⟨hl,hv⟩:=zP.1 h2
  have e:=congrArg List.length (zdt hv g5).1
  have hp:=zjY (zdt hv g5).2.2.1
  simp only [List.length_cons] at e
  omega)
 unfold zb8 at KPR;clear h k h1 h2 g5 KP KQ hE hS BX X0 R0 B0 K5 hTQ hTL hrr;obtain⟨⟨x0,x1⟩,⟨y0,y1⟩⟩:=X1.out;go_enter Tryz.func66,Tryz.ntmps66;go_wp2_with fail;refine(K5'.out _ B1.out).mono ?_;rintro e w2 ⟨rfl,b2⟩;have B2:=bh B1 b2;have X2:=hi9 (X1.out.keep b2);have R2:=hi9 (R1.out.keep b2);clear x0 x1 y0 y1;clear b2 B1 X1 R1;obtain⟨⟨x0,x1⟩,⟨y0,y1⟩⟩:=X2.out;go_wp2_with fail;refine(KPR.out _ B2.out).mono ?_;rintro e w3 ⟨v,v',VT,rfl,hT,hV,b3⟩;have B3:=bh B2 b3;have X3:=hi9 (X2.out.keep b3);have R3:=hi9 (R2.out.keep b3);obtain⟨A5,c5,e5,-,hS5⟩:=hT.a.at
 subst e5;have HTS:=hi9 hS5;have HVP:=hi9 (show VT.map Sl.P=TL by rw [HTQ.out];exact hV);have HTP:=hi9 (show∀r∈VT,0<r.P.length from fun r hr=>HTV.out _ (by rw [←hV];exact List.mem_map.2 ⟨r,hr,rfl⟩));have hlen:VT.length≤200:=by have:=congrArg List.length hV;rw [List.length_map] at this;rw [this];exact HL200.out
 obtain⟨n5,hn5⟩:∃n5,n5=VT.length:=⟨_,rfl⟩
 have HLN:=hi9 hn5;rw [←hn5] at hlen ⊢;clear b3 hT hV hS5 hn5 B2 X2 R2 x0 x1 y0 y1 HTQ HTV;obtain⟨⟨x0,x1⟩,⟨y0,y1⟩⟩:=X3.out;go_wp2_with fail;refine(K4.out _ B3.out).mono ?_;rintro e w4 ⟨rfl,b4⟩;have B4:=bh B3 b4;have X4:=hi9 (X3.out.keep b4);have R4:=hi9 (R3.out.keep b4);clear x0 x1 y0 y1;replace HTS:=hi9 (HTS.out.keep b4);clear b4 B3 X3 R3;go_wp2_with fail;go_loopw [8,9] (fun ok i wr=>∃j:Nat,i = .int .i64 j∧j≤n5∧ok = .bool (f4 &&(TL.take j).all fun t=>decide (zf t=4))∧wr=w4) (fun _ i _=>n5-(intOf i).toNat)
 case atStart=>exact⟨0,rfl,Nat.zero_le _,by simp,rfl⟩
 case round =>
  obtain⟨j,rfl,hj,rfl,rfl⟩:=hrel;by_cases hlt:j<n5
  ·have hjl:j<VT.length:=by rw [←HLN.out];exact hlt
   obtain⟨a1,e1,q1,n1⟩:=HTS.out.at hjl;have hrp:=HTP.out _ (List.getElem_mem hjl);have HTK:=hi9 (show(TL.take (j+1)).all (fun t=>decide (zf t=4))=((TL.take j).all (fun t=>decide (zf t=4))&& decide (zf VT[j].P=4)) from by
    have hjt:j<TL.length:=by rw [←HVP.out,List.length_map];exact hjl
    rw [List.take_succ_eq_append_getElem hjt,List.all_append]
    have:TL[j]=VT[j].P:=by simp [←HVP.out]
    simp [this])
   generalize VT[j]=r at *;subst e1;obtain⟨a2,e2,hn2,⟨d0,-,-,-⟩,-,hh⟩:=jm n1 hrp;rw [e2] at q1;have hi2:(0:Int)<(r.n:Int):=by omega
   have hi20:0<r.n:=hn2;have hjn:(j:Int)<((n5:Nat):Int):=by omega
   rw [hh] at HTK;generalize (hdN r.P).op=yo at *;clear e2 hn2 hh hrp n1;by_cases g:yo=4
   ·rw [decide_eq_true g,Bool.and_true] at HTK;have f1:(yo != 4)=false:=by simpa using g
    clear g;go_wp2_with fail;go_roundw
    case rel=>exact⟨j+1,by go_num,by omega,by rw [HTK.out],(by first|rfl|trivial)⟩
    case measure=>simp [intOf];omega
   ·rw [decide_eq_false g,Bool.and_false] at HTK;have f1:(yo != 4)=true:=by simpa using g
    clear g;go_wp2_with fail;go_roundw
    case rel=>exact⟨j+1,by go_num,by omega,by rw [HTK.out,Bool.and_false],(by first|rfl|trivial)⟩
    case measure=>simp [intOf];omega
  ·have HAL:=hi9 (show TL.take j=TL from List.take_of_length_le (by rw [←HVP.out,List.length_map,←HLN.out];omega));rw [HAL.out];have HRB:=hi9 (HRR.out);by_cases c:(f4 && TL.all fun t=>decide (zf t=4))=true
   case neg =>
    have c0:(f4 && TL.all fun t=>decide (zf t=4))=false:=by simpa using c
    have HRR2:=hi9 (HRB.out.2 c0);rw [c0];clear c c0 HRB HAL HRR;go_wp2_with fail;refine(jA _ _).mono ?_;rintro e w5 ⟨rfl,b5⟩;have B5:=bh B4 b5;have R5:=hi9 (R4.out.keep b5);clear b5 B4 R4;have RS:=R5.out.set (.slice none 0 0) (.int .i64 (2));obtain⟨s0,s1,-,-⟩:=RS;have GF:=hi9 (zA (S:=S) (r := .error (2)) (jv _) jB B5.out (show w.heap.size≤w.heap.size+1+1 by omega));obtain⟨r0,r1,z0,z1⟩:=R5.out;go_wp2_with fail;exact bodyPost_ret (v := .agg #[.slice none 0 0,.int .i64 (2)]) (by simp [results,Tryz.results66,go_sem,s0,s1]) rfl (by rw [HRR2.out];exact GF.out)
   have HRR2:=hi9 (HRB.out.1 c);rw [c];clear c HRB HAL HRR;obtain⟨⟨x0,x1⟩,⟨y0,y1⟩⟩:=X4.out;obtain⟨a3,e3,hn3,D3,ok3,-⟩:=jm (HP.out.keep B4.out) HP0.out;subst e3;obtain⟨d0,d1,d2,d3⟩:=D3;have hi3:(0:Int)<(n:Int):=by omega
   have hi30:0<n:=hn3;have KU:=hi9 (zcy (hdN P));have HUP:=hi9 (show jd P=((hdN P).s,(hdN P).t) from rfl);have HOK3:=hi9 ok3;generalize hdN P=x at *;clear ok3 hn3;go_wp2_with fail;clear hlt hj;refine(KU.out _).mono ?_;rintro e w5 ⟨rfl,b5⟩;have B5:=bh B4 b5;have X5:=hi9 (X4.out.keep b5);have R5:=hi9 (R4.out.keep b5);replace HTS:=hi9 (HTS.out.keep b5);clear b5 B4 X4 R4 x0 x1 y0 y1 d0 d1 d2 d3;go_wp2_with fail;have U6:=hi9 (zhb w5 x.s x.t 24);have bx:=zb w5 (.cells #[.string x.s,.string x.t] 24);have B6:=bh B5 bx;have R6:=hi9 (R5.out.keep bx);replace HTS:=hi9 (HTS.out.keep bx);obtain⟨w6,hw6⟩:∃wz,w5.alloc (.cells #[.string x.s,.string x.t] 24)=wz:=⟨_,rfl⟩
   obtain⟨bu,hbu⟩:∃bu,w5.heap.size=bu:=⟨_,rfl⟩
   rw [hw6] at U6 B6 R6 HTS ⊢;rw [hbu] at U6 ⊢;clear hw6 hbu bx B5 R5 X5;go_loopw [11] (fun i wr=>∃j:Nat,i = .int .i64 j∧j≤n5∧Hid ((TL.take j).any (fun t=>inB E (jd P) (jd t))=false)∧Hid (Below w6.heap.size w6 wr)) (fun i _=>n5-(intOf i).toNat)
   case atStart=>exact⟨0,rfl,Nat.zero_le _,hi9 (by simp),Below.refl _ _⟩
   case round =>
    obtain⟨j,rfl,hj,hNO,hB⟩:=hrel;have BW:=bh B6 hB.out;have RW:=hi9 (R6.out.keep hB.out);have UW:=hi9 (U6.out.keep hB.out);by_cases hlt:j<n5
    ·have hjl:j<VT.length:=by rw [←HLN.out];exact hlt
     have hjt:j<TL.length:=by rw [←HVP.out,List.length_map];exact hjl
     obtain⟨a1,e1,q1,n1⟩:=(HTS.out.keep hB.out).at hjl;have hrp:=HTP.out _ (List.getElem_mem hjl);have HTK:=hi9 (show(TL.take (j+1)).any (fun t=>inB E (jd P) (jd t))=((TL.take j).any (fun t=>inB E (jd P) (jd t))|| inB E (jd P) (jd VT[j].P)) from by
      rw [List.take_succ_eq_append_getElem hjt,List.any_append]
      have:TL[j]=VT[j].P:=by simp [←HVP.out]
      simp [this])
     have HMT:=hi9 (show VT[j].P∈TL from by rw [←HVP.out];exact List.mem_map.2 ⟨_,List.getElem_mem hjl,rfl⟩);generalize VT[j]=r at *;subst e1;obtain⟨a2,e2,hn2,⟨d0,d1,d2,d3⟩,ok2,-⟩:=jm n1 hrp;rw [e2] at q1;have hi2:(0:Int)<(r.n:Int):=by omega
     have hi20:0<r.n:=hn2;have hjn:(j:Int)<((n5:Nat):Int):=by omega
     have KU2:=hi9 (zcy (hdN r.P));have HUR:=hi9 (show jd r.P=((hdN r.P).s,(hdN r.P).t) from rfl);generalize hdN r.P=y at *;have HOR:=hi9 (zoS HS0.out (jd P) (jd r.P));have HAB:=hi9 (fun w' (hb:Below w.heap.size w w')=>zgh EA en ec E (x.s,x.t) (y.s,y.t) w' (HEs.out.keep hb) ⟨HOK3.out.s,HOK3.out.t⟩ HUPS.out);unfold udV at HAB;dsimp only at HAB;rw [HUP.out,HUR.out] at HOR;have HTR:=hi9 (fun(q:inB E (jd P) (jd r.P)=true)=>HRR2.out.trans (show(.ok (zt (TL.any fun t=>inB E (jd P) (jd t))):Res)= .ok (zt true) from by rw [show(TL.any fun t=>inB E (jd P) (jd t))=true from List.any_eq_true.2 ⟨_,HMT.out,q⟩]));rw [HUP.out,HUR.out] at HTR;rw [HUP.out,HUR.out] at HTK;have HNO2:=hNO;rw [HUP.out] at HNO2;generalize inB E (x.s,x.t) (y.s,y.t)=ib at *;clear e2 hn2 hrp n1 ok2;go_wp2_with fail;refine(KU2.out _).mono ?_;rintro e w7 ⟨rfl,b7⟩;have bb:=b7.trans ((zb w7 (.cells #[.string y.s,.string y.t] 24)).mono b7.size);have TqX:=hi9 (zhb w7 y.s y.t 24);have BqX:=bh BW bb;have HqX:=bh hB bb;have RqX:=hi9 (RW.out.keep bb);have UqX:=hi9 (UW.out.keep bb);obtain⟨w8,hw8⟩:∃wz,w7.alloc (.cells #[.string y.s,.string y.t] 24)=wz:=⟨_,rfl⟩
     obtain⟨bt,hbt⟩:∃bt,w7.heap.size=bt:=⟨_,rfl⟩
     rw [hw8] at TqX BqX HqX RqX UqX;rw [hbt] at TqX;clear b7 bb d0 d1 d2 d3 q1 BW RW UW KU2;by_cases he:((x.s,x.t):Ud)=(y.s,y.t)
     ·have hc1:(x.s.toList==y.s.toList)=true:=by rw [show x.s=y.s from congrArg Prod.fst he];exact beq_self_eq_true _
      have hc2:(x.t.toList==y.t.toList)=true:=by rw [show x.t=y.t from congrArg Prod.snd he];exact beq_self_eq_true _
      have HRR3:=hi9 (HTR.out (by rw [HOR.out,decide_eq_true he];rfl));obtain⟨u0,u1⟩:=UqX.out;obtain⟨t0,t1⟩:=TqX.out;clear he HOR HTR HTK HNO2 HAB;go_wp2_with fail;refine(jq true _).mono ?_;rintro e w20 ⟨AT,nT,cT,rfl,hN,b20⟩;have B20:=bh BqX b20;have NT:=hi9 hN.1;have HFR:=hi9 (j5 (S:=S) BqX.out RqX.out hN.2);have R20:=hi9 (RqX.out.keep b20);clear b20 hN;go_wp2_with fail;refine(jr _ _ _ _).mono ?_;rintro e w21 ⟨rfl,b21⟩;have B21:=bh B20 b21;have R21:=hi9 (R20.out.keep b21);have NZ:=hi9 (NT.out.keep b21);clear b21 B20 R20;have RS:=R21.out.set (.slice AT nT cT) (.int .i64 0);obtain⟨s0,s1,-,-⟩:=RS;have GF:=hi9 (zA (S:=S) (r := .ok _) NZ.out HFR.out B21.out (show w.heap.size≤w.heap.size+1+1 by omega));obtain⟨r0,r1,z0,z1⟩:=R21.out;go_wp2_with fail;exact bodyPost_ret (v := .agg #[.slice AT nT cT,.int .i64 0]) (by simp [results,Tryz.results66,go_sem,s0,s1]) rfl (by rw [HRR3.out];exact GF.out)
     ·have hne:=zcq he;rw [decide_eq_false he,Bool.false_or] at HOR;dsimp only at hne;have K9:=hi9 (HAB.out _ BqX.out);generalize zkj E (x.s,x.t) (y.s,y.t)=ab at *;obtain⟨u0,u1⟩:=UqX.out;obtain⟨t0,t1⟩:=TqX.out;clear he HAB;rcases hne with hc1|⟨hc1,hc2⟩
      all_goals
       go_wp2_with fail;refine K9.out.mono ?_;rintro e w9 ⟨rfl,b9⟩;have B9:=bh BqX b9;have H9:=bh HqX b9;have R9:=hi9 (RqX.out.keep b9);clear b9 BqX HqX RqX UqX TqX u0 u1 t0 t1 K9;rcases ab with _|_
       ·rw [HOR.out,Bool.or_false] at HTK;have HN9:=hi9 (show(TL.take (j+1)).any (fun t=>inB E (jd P) (jd t))=false from by rw [HUP.out];exact HTK.out.trans HNO2.out);clear HOR HTR HTK HNO2;go_wp2_with fail;go_roundw
        case rel=>exact⟨j+1,by go_num,by omega,HN9,H9⟩
        case measure=>simp [intOf];omega
       ·have HRR3:=hi9 (HTR.out HOR.out);clear HOR HTR HTK HNO2;go_wp2_with fail;refine(jq true _).mono ?_;rintro e w20 ⟨AT,nT,cT,rfl,hN,b20⟩;have B20:=bh B9 b20;have NT:=hi9 hN.1;have HFR:=hi9 (j5 (S:=S) B9.out R9.out hN.2);have R20:=hi9 (R9.out.keep b20);clear b20 hN;go_wp2_with fail;refine(jr _ _ _ _).mono ?_;rintro e w21 ⟨rfl,b21⟩;have B21:=bh B20 b21;have R21:=hi9 (R20.out.keep b21);have NZ:=hi9 (NT.out.keep b21);clear b21 B20 R20;have RS:=R21.out.set (.slice AT nT cT) (.int .i64 0);obtain⟨s0,s1,-,-⟩:=RS;have GF:=hi9 (zA (S:=S) (r := .ok _) NZ.out HFR.out B21.out (show w.heap.size≤w.heap.size+1+1 by omega));obtain⟨r0,r1,z0,z1⟩:=R21.out;go_wp2_with fail;exact bodyPost_ret (v := .agg #[.slice AT nT cT,.int .i64 0]) (by simp [results,Tryz.results66,go_sem,s0,s1]) rfl (by rw [HRR3.out];exact GF.out)
    ·have HAL:=hi9 (show TL.take j=TL from List.take_of_length_le (by rw [←HVP.out,List.length_map,←HLN.out];omega));have HN9:=hNO.out;rw [HAL.out] at HN9;have HRR3:=hi9 (HRR2.out.trans (show(.ok (zt (TL.any fun t=>inB E (jd P) (jd t))):Res)= .ok (zt false) from by rw [HN9]));clear HN9 HAL hNO;go_wp2_with fail;refine(jq false _).mono ?_;rintro e w20 ⟨AT,nT,cT,rfl,hN,b20⟩;have B20:=bh BW b20;have NT:=hi9 hN.1;have HFR:=hi9 (j5 (S:=S) BW.out RW.out hN.2);have R20:=hi9 (RW.out.keep b20);clear b20 hN;go_wp2_with fail;refine(jr _ _ _ _).mono ?_;rintro e w21 ⟨rfl,b21⟩;have B21:=bh B20 b21;have R21:=hi9 (R20.out.keep b21);have NZ:=hi9 (NT.out.keep b21);clear b21 B20 R20;have RS:=R21.out.set (.slice AT nT cT) (.int .i64 0);obtain⟨s0,s1,-,-⟩:=RS;have GF:=hi9 (zA (S:=S) (r := .ok _) NZ.out HFR.out B21.out (show w.heap.size≤w.heap.size+1+1 by omega));obtain⟨r0,r1,z0,z1⟩:=R21.out;go_wp2_with fail;exact bodyPost_ret (v := .agg #[.slice AT nT cT,.int .i64 0]) (by simp [results,Tryz.results66,go_sem,s0,s1]) rfl (by rw [HRR3.out];exact GF.out)
theorem zus(S:Nat→Prop)(EA:Option Addr)(en ec:Nat)(E:List En)(A B:Option Addr)(n m c d:Nat)(P Q:List Nd)(w:World)(hE:Es w EA en ec E)(hS:ji E=0)(h:Ns w A n c P)(k:Ns w B m d Q)(h1:zc P=0)(h2:zc Q=0):
 Calls Tryz.prog 66 #[.slice EA en ec,.agg #[.slice A n c,.int .i64 0],.agg #[.slice B m d,.int .i64 0]] w (zD S w (inX E P Q)):=by
 by_cases g5:zf Q=5
 ·exact zuy S EA en ec E A B n m c d P Q w hE hS h k h1 h2 g5
 ·exact zuC S EA en ec E A B n m c d P Q w hE hS h k h1 h2 g5
end Go.Proofs.YtkfgabdnppmglaaGreatDoor
