/-
  check's kindOf: what all ops have in common; And, If. (gen_chkkd.py) check.join: the least type above two, or a panic. check's kindOf: If. (gen_chkkd.py) ..
-/
import Derived.Test.YtjcdeikbghjpkaaGreatDoorQ13
import Derived.Test.YtjcdeikbghjpkaaGreatDoorQ19
import Derived.Test.YtjcdeikbghjpkaaGreatDoorQ29
import Derived.Test.YtjcdeikbghjpkaaGreatDoorQ34
import Derived.Test.YtjcdeikbghjpkaaGreatDoorQ40
set_option maxRecDepth 100000
set_option maxHeartbeats 4000000
namespace Go.Proofs.YtjcdeikbghjpkaaGreatDoor
open Go.RowKit Go.Wk Go.Sort
def KdC(S:Nat→Prop)(x:Xs)(N:Nat):Prop:=∀(A:Option Addr) (n c:Nat) (e:Ex) (p:Option Addr) (G:zy) (w:World),zft w x→Ns w A n c e.flat→n≤4000→e.valid false→n≤N→zd7 w p G→
 Calls Tryz.prog 22 #[x.v,.slice A n c,.pointer p] w (jJ S w (tyX x.t e G))
theorem zga(w:World)(y:Nd):Bx4 (w.alloc (.cells #[.int .i64 y.op,.int .i64 y.n,.string y.s,.string y.t] 41)) w.heap.size (.int .i64 y.op) (.int .i64 y.n) (.string y.s) (.string y.t):=zbe w _ _ _ _ _
theorem zsj(S:Nat→Prop)(x:Xs)(N:Nat)(ih:KdC S x N)(A:Option Addr)(n c:Nat)(y:Nd)(ps:Exs)(p:Option Addr)(G:zy)(w:World)(hx:zft w x)(h:Ns w A n c (Ex.node y ps).flat)(hn:n≤4000)(hv:(Ex.node y ps).valid false)(hN:n≤N+1)(hF:zd7 w p G)(hop:y.op=11)(a b:Ex)(hps:ps = .cons a (.cons b .nil)):
 Calls Tryz.prog 22 #[x.v,.slice A n c,.pointer p] w (jJ S w (zbL x.t ps G)):=by
 have B0:=hi9 (za w x.o);have V0:=hi9 (zbV w x);have X0:=hi9 hx;have F0:=hi9 hF;have CK:=hi9 (fun w' (hb:Below w.heap.size w w')=>zdp A n c (.node y ps) false w' (h.keep hb) hn hv);have HLN:=hi9 (show n=ps.flat.length+1 by rw [h.len];simp [Ex.flat]);have HVP:=hi9 hv.2.2;have IH:=hi9 ih;have HN4:=hi9 hn;have HNN:=hi9 hN;subst hps;obtain⟨yo,yn,ys,yt⟩:=y;dsimp only at hop;subst hop;unfold Xs.o at B0 V0;unfold KdC at IH;unfold Xs.v at IH ⊢;simp only [Ex.head,Ex.parts,ndV] at CK;obtain⟨RR,hRR⟩:∃RR,RR=zbL x.t (.cons a (.cons b .nil)) G:=⟨_,rfl⟩
 rw [←hRR];have HRR:=hi9 hRR;clear hx hF h hn hv hN ih hRR;go_enter Tryz.func22,Tryz.ntmps22;go_wp2_with fail;refine(CK.out _ B0.out).mono ?_;rintro e w1 ⟨A',c',V,rfl,hc,hS,hm,b1⟩;obtain⟨r,hr,⟨⟨A1,rfl,q0⟩,N0⟩⟩:=zcT hS hm (k:=0) (x:=a) rfl;obtain⟨r',hr',⟨⟨A2,e2,q2⟩,N2⟩⟩:=zcT hS hm (k:=1) (x:=b) rfl;obtain rfl:A1=A2:=Option.some.inj e2;rw [show A1.add 0=A1 from rfl] at q0;have hV:1<V.length:=by rw [List.getElem?_eq_some_iff] at hr';exact hr'.1
 have hV1:(1:Int)<(V.length:Int):=by omega
 have hV0:(0:Int)<(V.length:Int):=by omega
 have hV00:0<V.length:=by omega
 generalize V.length=m at *;have bN:=za w1 (.cells #[.int .i64 11,.int .i64 yn,.string ys,.string yt] 41);have b2:=b1.trans (bN.mono b1.size);have B2:=bh B0 b2;have V2:=hi9 (V0.out.keep b2);have F2:=hi9 (F0.out.keep B2.out);have X2:=hi9 (X0.out.keep B2.out);have Q0:=hi9 (zb bN q0);have Q2:=hi9 (zb bN q2);have M0:=hi9 (N0.keep bN);have M2:=hi9 (N2.keep bN);obtain⟨y0,-,-,-,-,-,-,-⟩:=zga w1 ⟨11,yn,ys,yt⟩;dsimp only at y0;clear hS hm b1 b2 bN N0 N2 hr hr' e2 B0 V0 F0 X0 CK hc;have pa:=zZ a;have pb:=zZ b;have hLN:a.flat.length+b.flat.length+1=n:=by have:=HLN.out;simp [Exs.flat] at this;omega
 have hra:r.n=a.flat.length:=M0.out.len;have hrb:r'.n=b.flat.length:=M2.out.len;have hn4:=HN4.out;have hnN:=HNN.out;have HA:=hi9 (show r.n≤4000∧r.n≤N by omega);have HB:=hi9 (show r'.n≤4000∧r'.n≤N by omega);obtain⟨-,va,-,vb,-⟩:=HVP.out;have HVA:=hi9 va;have HVB:=hi9 vb;clear pa pb hLN hra hrb hn4 hnN va vb HLN HN4 HNN HVP;go_wp2_with fail;obtain⟨w2,hw2⟩:∃w2,w1.alloc (.cells #[.int .i64 11,.int .i64 yn,.string ys,.string yt] 41)=w2:=⟨_,rfl⟩
 rw [hw2] at B2 V2 F2 X2 Q0 Q2 M0 M2 ⊢;clear hw2 y0;obtain⟨c0,c1,c2,c3,c4,c5,c6,c7⟩:=V2.out;have q0:=Q0.out;have q2:=Q2.out;have kc0:=cell_regrown c0;have kc1:=cell_regrown c1;have kc2:=cell_regrown c2;have kc3:=cell_regrown c3;have kc4:=cell_regrown c4;have kc5:=cell_regrown c5;have kc6:=cell_regrown c6;have kc7:=cell_regrown c7;have kq0:=cell_regrown q0;refine zbH (l := [_,_,_,_,_]) [0,1,2,3,4] 5 2 (by kernel_rfl) (by kernel_rfl) rfl (fun w'=>∃p:Regrown,w'=grow (redrawn w2 p.d) p.os) ⟨⟨w2.drawn+1,#[]⟩,by rw [grow_empty];rfl⟩ ?_
 repeat (first|go_big_quiet_step (fail)|quiet_step (fail))
 refine wpQuiet_nil ?_;rintro w2d ⟨⟨dd,os⟩,rfl⟩;have bd:=below_regrown w2 dd os;generalize grow (redrawn w2 dd) os=w2d at *;clear kc0 kc1 kc2 kc3 kc4 kc5 kc6 kc7 kq0;refine zN (i:=5) (by kernel_rfl) rfl (fun K' hK'=>?_);go_simp;have KA:=hi9 (IH.out _ _ _ a p G w2d (X2.out.keep bd) (M0.out.keep bd) HA.out.1 HVA.out HA.out.2 (F2.out.keep bd));have BD:=bh B2 bd;rcases qa:tyX x.t a G with u|ka
 ·rw [qa] at KA;clear c0 c1 c2 c3 c4 c5 c6 c7 q0 q2;refine KA.out.mono ?_;intro e w3 h3;obtain⟨rfl,b3⟩:=zbF h3;have B3:=bh BD b3;clear b3 h3;go_wp2_with fail;exact⟨rfl,by rw [show RR = .error u from HRR.out.trans (by unfold zbL;rw [qa])];exact jl B3.out⟩
 rw [qa] at KA;have hka:KOk ka:=by have:=zc2 X2.out.ok a false G HVA.out;rw [qa] at this;exact this
 refine KA.out.mono ?_;intro e w3 h3;obtain⟨A3,n3,m3,rfl,hN3,b3,l3⟩:=zaA h3;have bb:=bd.trans (b3.mono bd.size);have B3:=bh B2 bb;have V3:=hi9 (V2.out.keep bb);have X3:=hi9 (X2.out.keep bb);have F3:=hi9 (F2.out.keep bb);have P0:=hi9 (zb bb Q0.out);have P2:=hi9 (zb bb Q2.out);have L0:=hi9 (M0.out.keep bb);have L2:=hi9 (M2.out.keep bb);have NA:=hi9 hN3;clear h3 hN3 b3 l3 bb bd BD B2 V2 X2 F2 Q0 Q2 M0 M2 KA c0 c1 c2 c3 c4 c5 c6 c7 q0 q2;go_wp2_with fail;refine hK'.out _ _ (fun _=>trivial) ?_;clear hK' K'
 try simp only [Act.put,List.setIfInBounds_toArray,List.set_cons_zero,List.set_cons_succ]
 refine zN (i:=6) (by kernel_rfl) rfl (fun K' hK'=>?_);go_simp;refine hK'.out _ _ (fun _=>trivial) ?_;clear hK' K';refine j8 (by kernel_rfl) ?_;go_wp2_with fail;have bd:=zaN w3;have hHeld:(fun w':World=>Vst w' w.heap.size x∧w'.cell? A1=some (.slice r.A r.n r.c)∧w'.cell? ⟨A1.block,A1.off+1,none⟩=some (.slice r'.A r'.n r'.c)) w3.drew:=⟨V3.out.keep bd,zb bd P0.out,zb bd P2.out⟩
 have KE:=hi9 (zdD r.n r.A r.n r.c a false p G w3.drew (L0.out.keep bd) HA.out.1 HVA.out (Nat.le_refl _) (F3.out.keep bd));have BD3:=bh B3 bd;have X4:=hi9 (X3.out.keep bd);have L4:=hi9 (L2.out.keep bd);have NA4:=hi9 (NA.out.keep bd);clear bd;refine zbq (fun w':World=>Vst w' w.heap.size x∧w'.cell? A1=some (.slice r.A r.n r.c)∧w'.cell? ⟨A1.block,A1.off+1,none⟩=some (.slice r'.A r'.n r'.c)) 11 (by kernel_rfl) hHeld (fun hHeld=>?_);refine zJ (i:=0) (v := .agg #[.slice x.s.KA x.s.kn x.s.kc,.slice x.s.AA x.s.an x.s.ac,.string x.who,.string x.what,.string x.a.d.id,.slice x.a.WA x.a.wn x.a.wc,.slice x.a.TA x.a.tn x.a.tc,.slice x.a.NA x.a.nn x.a.nc]) rfl (by kernel_rfl) (by kernel_rfl) (by kernel_rfl) (Nat.le_refl _) (fun _ _ _ h=>h) (.inl ⟨by rfl,fun w' hSw=>?_⟩) hHeld ?_
 ·obtain⟨⟨s0,s1,s2,s3,s4,s5,s6,s7⟩,t0,t1⟩:=hSw;go_simp
 refine zJ (i:=1) (v := .slice (some A1) m c') rfl (by kernel_rfl) (by kernel_rfl) (by kernel_rfl) (Nat.le_refl _) (fun _ _ _ h=>h) (.inl ⟨by rfl,fun w' hSw=>?_⟩) hHeld ?_
 ·obtain⟨⟨s0,s1,s2,s3,s4,s5,s6,s7⟩,t0,t1⟩:=hSw;go_simp
 refine zJ (i:=2) (v := .pointer (some ⟨A1.block,A1.off+1,none⟩)) rfl (by kernel_rfl) (by kernel_rfl) (by kernel_rfl) (Nat.le_refl _) (fun _ _ _ h=>h) (.inl ⟨by rfl,fun w' hSw=>?_⟩) hHeld ?_
 ·obtain⟨⟨s0,s1,s2,s3,s4,s5,s6,s7⟩,t0,t1⟩:=hSw;go_simp
 refine zJ (i:=3) (v := .slice r'.A r'.n r'.c) rfl (by kernel_rfl) (by kernel_rfl) (by kernel_rfl) (Nat.le_refl _) (fun _ _ _ h=>h) (.inl ⟨by rfl,fun w' hSw=>?_⟩) hHeld ?_
 ·obtain⟨⟨s0,s1,s2,s3,s4,s5,s6,s7⟩,t0,t1⟩:=hSw;go_simp
 refine zJ (i:=4) (v := .slice (some A1) m c') rfl (by kernel_rfl) (by kernel_rfl) (by kernel_rfl) (Nat.le_refl _) (fun _ _ _ h=>h) (.inl ⟨by rfl,fun w' hSw=>?_⟩) hHeld ?_
 ·obtain⟨⟨s0,s1,s2,s3,s4,s5,s6,s7⟩,t0,t1⟩:=hSw;go_simp
 refine zJ (i:=5) (v := .pointer (some A1)) rfl (by kernel_rfl) (by kernel_rfl) (by kernel_rfl) (Nat.le_refl _) (fun _ _ _ h=>h) (.inl ⟨by rfl,fun w' hSw=>?_⟩) hHeld ?_
 ·obtain⟨⟨s0,s1,s2,s3,s4,s5,s6,s7⟩,t0,t1⟩:=hSw;go_simp
 refine zJ (i:=6) (v := .slice r.A r.n r.c) rfl (by kernel_rfl) (by kernel_rfl) (by kernel_rfl) (Nat.le_refl _) (fun _ _ _ h=>h) (.inl ⟨by rfl,fun w' hSw=>?_⟩) hHeld ?_
 ·obtain⟨⟨s0,s1,s2,s3,s4,s5,s6,s7⟩,t0,t1⟩:=hSw;go_simp
 refine zJ (i:=7) (v := .pointer p) rfl (by kernel_rfl) (by kernel_rfl) (by kernel_rfl) (Nat.le_refl _) (fun _ _ _ h=>h) (.inl ⟨by rfl,fun w' hSw=>?_⟩) hHeld ?_
 ·obtain⟨⟨s0,s1,s2,s3,s4,s5,s6,s7⟩,t0,t1⟩:=hSw;go_simp
 refine zN (i:=8) (by kernel_rfl) rfl (fun K' hK'=>?_);go_simp;refine KE.out.mono ?_;rintro e w4 ⟨q4,rfl,hF4,b4⟩;have B4:=bh BD3 b4;have F4:=hi9 hF4;have X5:=hi9 (X4.out.keep b4);have L5:=hi9 (L4.out.keep b4);have NA5:=hi9 (NA4.out.keep b4);have hHeld4:(fun w':World=>Vst w' w.heap.size x∧w'.cell? A1=some (.slice r.A r.n r.c)∧w'.cell? ⟨A1.block,A1.off+1,none⟩=some (.slice r'.A r'.n r'.c)) w4:=⟨hHeld.1.keep b4,zb b4 hHeld.2.1,zb b4 hHeld.2.2⟩
 clear hF4 b4 BD3 X4 L4 NA4 KE V3 X3 F3 P0 P2 L0 L2 NA B3 hHeld;go_wp2_with fail;refine hK'.out _ _ (fun _=>hHeld4) ?_;clear hK' K';have KB:=hi9 (IH.out _ _ _ b q4 (zbw a G) w4 X5.out L5.out HB.out.1 HVB.out HB.out.2 F4.out);refine zN (i:=9) (by kernel_rfl) rfl (fun K' hK'=>?_);go_simp;have BD:=B4;rcases qb:tyX x.t b (zbw a G) with u|kb
 ·rw [qb] at KB;refine KB.out.mono ?_;intro e w5 h5;obtain⟨rfl,b5⟩:=zbF h5;have B5:=bh BD b5;clear b5 h5;go_wp2_with fail;exact⟨rfl,by rw [show RR = .error u from HRR.out.trans (by unfold zbL za2;rw [qa];simp only;rw [qb])];exact jl B5.out⟩
 rw [qb] at KB;refine KB.out.mono ?_;intro e w5 h5;obtain⟨A5,n5,m5,rfl,hN5,b5,l5⟩:=zaA h5;have B5:=bh B4 b5;have NA6:=hi9 (NA5.out.keep b5);have NB:=hi9 hN5;have hHeld5:(fun w':World=>Vst w' w.heap.size x∧w'.cell? A1=some (.slice r.A r.n r.c)∧w'.cell? ⟨A1.block,A1.off+1,none⟩=some (.slice r'.A r'.n r'.c)) w5:=⟨hHeld4.1.keep b5,zb b5 hHeld4.2.1,zb b5 hHeld4.2.2⟩
 clear h5 hN5 b5 l5 BD B4 X5 L5 NA5 F4 KB hHeld4 IH;go_wp2_with fail;refine hK'.out _ _ (fun _=>hHeld5) ?_;clear hK' K';refine zN (i:=10) (by kernel_rfl) rfl (fun K' hK'=>?_);go_simp;refine hK'.out _ _ (fun _=>hHeld5) ?_;refine j8 (by kernel_rfl) ?_;clear hK' K' hHeld5;have HRX:=hi9 (show RR=if zj [41] ka && zj [41] kb then .ok (.base 41) else .error 2 from HRR.out.trans (by unfold zbL za2;rw [qa];simp only;rw [qb]));clear HRR qa qb;have bx1:=zS w5 (.cells #[.int .i64 41] 3);have BX1:=bh B5 bx1;have KM1:=hi9 (jr (d:=1) [41] (NA6.out.keep bx1) rfl (by decide) (jP w5 41 3));have NB1:=hi9 (NB.out.keep bx1);clear bx1 NB NA6 B5;by_cases g1:zj [41] ka=true
 case neg =>
  rw [if_neg g1] at KM1;have HF:=hi9 (show RR = .error 2 by rw [HRX.out,if_neg (fun q=>g1 (by rw [Bool.and_eq_true] at q;exact q.1))]);clear g1 HRX;go_wp2_with fail;refine KM1.out.mono ?_;rintro e w6 ⟨rfl,b6⟩;have B6:=bh BX1 b6;clear b6 KM1 BX1 NB1;go_wp2_with fail;exact⟨rfl,by rw [HF.out];exact jl B6.out⟩
 rw [if_pos g1] at KM1;have G1:=hi9 g1;clear g1;go_wp2_with fail;refine KM1.out.mono ?_;rintro e w6 ⟨rfl,b6⟩;have B6:=bh BX1 b6;have NB6:=hi9 (NB1.out.keep b6);clear b6 KM1 BX1 NB1;have bx2:=zS w6 (.cells #[.int .i64 41] 3);have BX2:=bh B6 bx2;have KM2:=hi9 (jr (d:=1) [41] (NB6.out.keep bx2) rfl (by decide) (jP w6 41 3));clear bx2 NB6 B6;by_cases g2:zj [41] kb=true
 case neg =>
  rw [if_neg g2] at KM2;have HF:=hi9 (show RR = .error 2 by rw [HRX.out,if_neg (fun q=>g2 (by rw [Bool.and_eq_true] at q;exact q.2))]);clear g2 HRX;go_wp2_with fail;refine KM2.out.mono ?_;rintro e w7 ⟨rfl,b7⟩;have B7:=bh BX2 b7;clear b7 KM2 BX2;go_wp2_with fail;exact⟨rfl,by rw [HF.out];exact jl B7.out⟩
 rw [if_pos g2] at KM2;have HT:=hi9 (show RR = .ok (.base 41) by rw [HRX.out,G1.out,g2];rfl);clear g2 HRX G1;go_wp2_with fail;refine KM2.out.mono ?_;rintro e w7 ⟨rfl,b7⟩;have B7:=bh BX2 b7;clear b7 KM2 BX2;go_wp2_with fail;refine(zbD (S:=S) (o:=41) (s:=emp) (k := .base 41) (w:=w7) rfl (by decide)).mono ?_;intro e w8 h8;obtain⟨A8,n8,m8,rfl,hN8,b8,l8⟩:=zaA h8;have B8:=bh B7 b8;have N8:=hi9 hN8;have HL:=hi9 (jY B7.out l8);clear h8 hN8 b8 B7 l8;go_wp2_with fail;go_ret;rw [HT.out];exact jb B8.out N8.out HL.out
def JnX(w:World)(P Q:List Nd)(e:Ending)(w':World):Prop :=
 if joinE P Q=0 then∃(A:Option Addr) (n c:Nat),e = .returned (.slice A n c)∧Ns w' A n c (zeT P Q)∧Below w.heap.size w w'∧(∀a,A=some a→w.heap.size≤a.block) else e = .panicked (zd0 4)∧Below w.heap.size w w'
theorem zqI{A1 A2:Option Addr}{n1 c1 n2 c2:Nat}{P Q:List Nd}{w:World}(h:Ns w A1 n1 c1 P)(k:Ns w A2 n2 c2 Q):
 Calls Tryz.prog 48 #[.slice A1 n1 c1,.slice A2 n2 c2] w (JnX w P Q):=by
 have K:=hi9 (h.kinds_JoinN k);clear h k;unfold JnX;by_cases he:joinE P Q=0
 ·simp only [if_pos he];go_enter Tryz.func48,Tryz.ntmps48;go_wp2_with fail;refine K.out.mono ?_;rintro e w1 ⟨A,n,c,rfl,N1,b1,l1⟩;have NN:=hi9 N1;have B1:=hi9 b1;have LL:=hi9 l1;clear N1 b1 l1 K;rw [he,zM];go_wp2_with fail;go_ret;exact⟨A,n,c,rfl,NN.out,B1.out,LL.out⟩
 ·simp only [if_neg he];go_enter Tryz.func48,Tryz.ntmps48;go_wp2_with fail;refine K.out.mono ?_;rintro e w1 ⟨A,n,c,rfl,N1,b1,l1⟩;have B1:=hi9 b1;clear N1 b1 l1 K;rw [jc he];generalize joinE P Q=ff at *;clear he;go_wp2_with fail;exact⟨rfl,rfl,B1.out⟩
theorem zj5{S:Nat→Prop}{A1 A2:Option Addr}{n1 c1 n2 c2:Nat}{a b:Kd}{w:World}(ha:KOk a)(hb:KOk b)(h:Ns w A1 n1 c1 a.flat)(k:Ns w A2 n2 c2 b.flat):
 Calls Tryz.prog 48 #[.slice A1 n1 c1,.slice A2 n2 c2] w (jJ S w (za6 (zm a b))):=by
 refine(zqI h k).mono fun e w' hj=>?_;have hE:=ha.kin.joinE hb.kin;unfold JnX at hj;unfold za6;rw [jd] at hE;by_cases g:200<(zm a b).sz
 ·rw [if_pos g] at hE ⊢;rw [hE,if_neg (by decide)] at hj;rw [hj.1];exact jl hj.2
 ·rw [if_neg g] at hE ⊢;rw [if_pos hE] at hj;obtain⟨A,n,c,rfl,hN,hb',hl⟩:=hj;have hV:=(ha.kin.joined hb.kin hE).e;rw [hV] at hN;exact jb hb' hN (fun a e => .inr (hl a e))
theorem ztm(S:Nat→Prop)(x:Xs)(N:Nat)(ih:KdC S x N)(A:Option Addr)(n c:Nat)(y:Nd)(ps:Exs)(p:Option Addr)(G:zy)(w:World)(hx:zft w x)(h:Ns w A n c (Ex.node y ps).flat)(hn:n≤4000)(hv:(Ex.node y ps).valid false)(hN:n≤N+1)(hF:zd7 w p G)(hop:y.op=13)(a b z:Ex)(hps:ps = .cons a (.cons b (.cons z .nil))):
 Calls Tryz.prog 22 #[x.v,.slice A n c,.pointer p] w (jJ S w (zdQ x.t ps G)):=by
 have B0:=hi9 (za w x.o);have V0:=hi9 (zbV w x);have X0:=hi9 hx;have F0:=hi9 hF;have CK:=hi9 (fun w' (hb:Below w.heap.size w w')=>zdp A n c (.node y ps) false w' (h.keep hb) hn hv);have HLN:=hi9 (show n=ps.flat.length+1 by rw [h.len];simp [Ex.flat]);have HVP:=hi9 hv.2.2;have IH:=hi9 ih;have HN4:=hi9 hn;have HNN:=hi9 hN;subst hps;obtain⟨yo,yn,ys,yt⟩:=y;dsimp only at hop;subst hop;unfold Xs.o at B0 V0;unfold KdC at IH;unfold Xs.v at IH ⊢;simp only [Ex.head,Ex.parts,ndV] at CK;obtain⟨RR,hRR⟩:∃RR,RR=zdQ x.t (.cons a (.cons b (.cons z .nil))) G:=⟨_,rfl⟩
 rw [←hRR];have HRR:=hi9 hRR;clear hx hF h hn hv hN ih hRR;go_enter Tryz.func22,Tryz.ntmps22;go_wp2_with fail;refine(CK.out _ B0.out).mono ?_;rintro e w1 ⟨A',c',V,rfl,hc,hS,hm,b1⟩;obtain⟨r,hr,⟨⟨A1,rfl,q0⟩,N0⟩⟩:=zcT hS hm (k:=0) (x:=a) rfl;obtain⟨r',hr',⟨⟨A2,e2,q2⟩,N2⟩⟩:=zcT hS hm (k:=1) (x:=b) rfl;obtain rfl:A1=A2:=Option.some.inj e2;obtain⟨r3,hr3,⟨⟨A3,e3,q4⟩,N4⟩⟩:=zcT hS hm (k:=2) (x:=z) rfl;obtain rfl:A1=A3:=Option.some.inj e3;rw [show A1.add 0=A1 from rfl] at q0;have hV2:2<V.length:=by rw [List.getElem?_eq_some_iff] at hr3;exact hr3.1
 have hV:1<V.length:=by omega
 have hV22:(2:Int)<(V.length:Int):=by omega
 have hV1:(1:Int)<(V.length:Int):=by omega
 have hV0:(0:Int)<(V.length:Int):=by omega
 have hV00:0<V.length:=by omega
 generalize V.length=m at *;have bN:=za w1 (.cells #[.int .i64 13,.int .i64 yn,.string ys,.string yt] 41);have b2:=b1.trans (bN.mono b1.size);have B2:=bh B0 b2;have V2:=hi9 (V0.out.keep b2);have F2:=hi9 (F0.out.keep B2.out);have X2:=hi9 (X0.out.keep B2.out);have Q0:=hi9 (zb bN q0);have Q2:=hi9 (zb bN q2);have Q4:=hi9 (zb bN q4);have M0:=hi9 (N0.keep bN);have M2:=hi9 (N2.keep bN);have M4:=hi9 (N4.keep bN);obtain⟨y0,-,-,-,-,-,-,-⟩:=zga w1 ⟨13,yn,ys,yt⟩;dsimp only at y0;clear hS hm b1 b2 bN N0 N2 N4 hr hr' hr3 e2 e3 q4 B0 V0 F0 X0 CK hc;have pa:=zZ a;have pb:=zZ b;have pz:=zZ z;have hLN:a.flat.length+b.flat.length+z.flat.length+1=n:=by have:=HLN.out;simp [Exs.flat] at this;omega
 have hra:r.n=a.flat.length:=M0.out.len;have hrb:r'.n=b.flat.length:=M2.out.len;have hrz:r3.n=z.flat.length:=M4.out.len;have hn4:=HN4.out;have hnN:=HNN.out;have HA:=hi9 (show r.n≤4000∧r.n≤N by omega);have HB:=hi9 (show r'.n≤4000∧r'.n≤N by omega);have HZ:=hi9 (show r3.n≤4000∧r3.n≤N by omega);obtain⟨-,va,-,vb,-,vz,-⟩:=HVP.out;have HVZ:=hi9 vz;have HVA:=hi9 va;have HVB:=hi9 vb;clear pa pb pz hLN hra hrb hrz hn4 hnN va vb vz HLN HN4 HNN HVP;go_wp2_with fail;obtain⟨w2,hw2⟩:∃w2,w1.alloc (.cells #[.int .i64 13,.int .i64 yn,.string ys,.string yt] 41)=w2:=⟨_,rfl⟩
 rw [hw2] at B2 V2 F2 X2 Q0 Q2 Q4 M0 M2 M4 ⊢;clear hw2 y0;obtain⟨c0,c1,c2,c3,c4,c5,c6,c7⟩:=V2.out;have q0:=Q0.out;have q2:=Q2.out;have kc0:=cell_regrown c0;have kc1:=cell_regrown c1;have kc2:=cell_regrown c2;have kc3:=cell_regrown c3;have kc4:=cell_regrown c4;have kc5:=cell_regrown c5;have kc6:=cell_regrown c6;have kc7:=cell_regrown c7;have kq0:=cell_regrown q0;refine zbH (l := [_,_,_,_,_]) [0,1,2,3,4] 5 2 (by kernel_rfl) (by kernel_rfl) rfl (fun w'=>∃p:Regrown,w'=grow (redrawn w2 p.d) p.os) ⟨⟨w2.drawn+1,#[]⟩,by rw [grow_empty];rfl⟩ ?_
 repeat (first|go_big_quiet_step (fail)|quiet_step (fail))
 refine wpQuiet_nil ?_;rintro w2d ⟨⟨dd,os⟩,rfl⟩;have bd:=below_regrown w2 dd os;generalize grow (redrawn w2 dd) os=w2d at *;clear kc0 kc1 kc2 kc3 kc4 kc5 kc6 kc7 kq0;refine zN (i:=5) (by kernel_rfl) rfl (fun K' hK'=>?_);go_simp;have KA:=hi9 (IH.out _ _ _ a p G w2d (X2.out.keep bd) (M0.out.keep bd) HA.out.1 HVA.out HA.out.2 (F2.out.keep bd));have BD:=bh B2 bd;rcases qa:tyX x.t a G with u|ka
 ·rw [qa] at KA;clear c0 c1 c2 c3 c4 c5 c6 c7 q0 q2;refine KA.out.mono ?_;intro e w3 h3;obtain⟨rfl,b3⟩:=zbF h3;have B3:=bh BD b3;clear b3 h3;go_wp2_with fail;exact⟨rfl,by rw [show RR = .error u from HRR.out.trans (by unfold zdQ;rw [qa])];exact jl B3.out⟩
 rw [qa] at KA;have hka:KOk ka:=by have:=zc2 X2.out.ok a false G HVA.out;rw [qa] at this;exact this
 refine KA.out.mono ?_;intro e w3 h3;obtain⟨A3,n3,m3,rfl,hN3,b3,l3⟩:=zaA h3;have bb:=bd.trans (b3.mono bd.size);have B3:=bh B2 bb;have V3:=hi9 (V2.out.keep bb);have X3:=hi9 (X2.out.keep bb);have F3:=hi9 (F2.out.keep bb);have P0:=hi9 (zb bb Q0.out);have P2:=hi9 (zb bb Q2.out);have L0:=hi9 (M0.out.keep bb);have L2:=hi9 (M2.out.keep bb);have P4:=hi9 (zb bb Q4.out);have LZ:=hi9 (M4.out.keep bb);have NA:=hi9 hN3;clear h3 hN3 b3 l3 bb bd BD B2 V2 X2 F2 Q0 Q2 Q4 M0 M2 M4 KA c0 c1 c2 c3 c4 c5 c6 c7 q0 q2;go_wp2_with fail;refine hK'.out _ _ (fun _=>trivial) ?_;clear hK' K'
 try simp only [Act.put,List.setIfInBounds_toArray,List.set_cons_zero,List.set_cons_succ]
 refine zN (i:=6) (by kernel_rfl) rfl (fun K' hK'=>?_);go_simp;refine hK'.out _ _ (fun _=>trivial) ?_;clear hK' K';refine j8 (by kernel_rfl) ?_;go_wp2_with fail;have bd:=zaN w3;have hHeld:(fun w':World=>Vst w' w.heap.size x∧w'.cell? A1=some (.slice r.A r.n r.c)∧w'.cell? ⟨A1.block,A1.off+1,none⟩=some (.slice r'.A r'.n r'.c)) w3.drew:=⟨V3.out.keep bd,zb bd P0.out,zb bd P2.out⟩
 have KE:=hi9 (zdD r.n r.A r.n r.c a false p G w3.drew (L0.out.keep bd) HA.out.1 HVA.out (Nat.le_refl _) (F3.out.keep bd));have BD3:=bh B3 bd;have X4:=hi9 (X3.out.keep bd);have L4:=hi9 (L2.out.keep bd);have NA4:=hi9 (NA.out.keep bd);have P5:=hi9 (zb bd P4.out);have LZ4:=hi9 (LZ.out.keep bd);have FD:=hi9 (F3.out.keep bd);clear bd;refine zbq (fun w':World=>Vst w' w.heap.size x∧w'.cell? A1=some (.slice r.A r.n r.c)∧w'.cell? ⟨A1.block,A1.off+1,none⟩=some (.slice r'.A r'.n r'.c)) 11 (by kernel_rfl) hHeld (fun hHeld=>?_);refine zJ (i:=0) (v := .agg #[.slice x.s.KA x.s.kn x.s.kc,.slice x.s.AA x.s.an x.s.ac,.string x.who,.string x.what,.string x.a.d.id,.slice x.a.WA x.a.wn x.a.wc,.slice x.a.TA x.a.tn x.a.tc,.slice x.a.NA x.a.nn x.a.nc]) rfl (by kernel_rfl) (by kernel_rfl) (by kernel_rfl) (Nat.le_refl _) (fun _ _ _ h=>h) (.inl ⟨by rfl,fun w' hSw=>?_⟩) hHeld ?_
 ·obtain⟨⟨s0,s1,s2,s3,s4,s5,s6,s7⟩,t0,t1⟩:=hSw;go_simp
 refine zJ (i:=1) (v := .slice (some A1) m c') rfl (by kernel_rfl) (by kernel_rfl) (by kernel_rfl) (Nat.le_refl _) (fun _ _ _ h=>h) (.inl ⟨by rfl,fun w' hSw=>?_⟩) hHeld ?_
 ·obtain⟨⟨s0,s1,s2,s3,s4,s5,s6,s7⟩,t0,t1⟩:=hSw;go_simp
 refine zJ (i:=2) (v := .pointer (some ⟨A1.block,A1.off+1,none⟩)) rfl (by kernel_rfl) (by kernel_rfl) (by kernel_rfl) (Nat.le_refl _) (fun _ _ _ h=>h) (.inl ⟨by rfl,fun w' hSw=>?_⟩) hHeld ?_
 ·obtain⟨⟨s0,s1,s2,s3,s4,s5,s6,s7⟩,t0,t1⟩:=hSw;go_simp
 refine zJ (i:=3) (v := .slice r'.A r'.n r'.c) rfl (by kernel_rfl) (by kernel_rfl) (by kernel_rfl) (Nat.le_refl _) (fun _ _ _ h=>h) (.inl ⟨by rfl,fun w' hSw=>?_⟩) hHeld ?_
 ·obtain⟨⟨s0,s1,s2,s3,s4,s5,s6,s7⟩,t0,t1⟩:=hSw;go_simp
 refine zJ (i:=4) (v := .slice (some A1) m c') rfl (by kernel_rfl) (by kernel_rfl) (by kernel_rfl) (Nat.le_refl _) (fun _ _ _ h=>h) (.inl ⟨by rfl,fun w' hSw=>?_⟩) hHeld ?_
 ·obtain⟨⟨s0,s1,s2,s3,s4,s5,s6,s7⟩,t0,t1⟩:=hSw;go_simp
 refine zJ (i:=5) (v := .pointer (some A1)) rfl (by kernel_rfl) (by kernel_rfl) (by kernel_rfl) (Nat.le_refl _) (fun _ _ _ h=>h) (.inl ⟨by rfl,fun w' hSw=>?_⟩) hHeld ?_
 ·obtain⟨⟨s0,s1,s2,s3,s4,s5,s6,s7⟩,t0,t1⟩:=hSw;go_simp
 refine zJ (i:=6) (v := .slice r.A r.n r.c) rfl (by kernel_rfl) (by kernel_rfl) (by kernel_rfl) (Nat.le_refl _) (fun _ _ _ h=>h) (.inl ⟨by rfl,fun w' hSw=>?_⟩) hHeld ?_
 ·obtain⟨⟨s0,s1,s2,s3,s4,s5,s6,s7⟩,t0,t1⟩:=hSw;go_simp
 refine zJ (i:=7) (v := .pointer p) rfl (by kernel_rfl) (by kernel_rfl) (by kernel_rfl) (Nat.le_refl _) (fun _ _ _ h=>h) (.inl ⟨by rfl,fun w' hSw=>?_⟩) hHeld ?_
 ·obtain⟨⟨s0,s1,s2,s3,s4,s5,s6,s7⟩,t0,t1⟩:=hSw;go_simp
 refine zN (i:=8) (by kernel_rfl) rfl (fun K' hK'=>?_);go_simp;refine KE.out.mono ?_;rintro e w4 ⟨q4,rfl,hF4,b4⟩;have B4:=bh BD3 b4;have F4:=hi9 hF4;have X5:=hi9 (X4.out.keep b4);have L5:=hi9 (L4.out.keep b4);have NA5:=hi9 (NA4.out.keep b4);have P6:=hi9 (zb b4 P5.out);have LZ5:=hi9 (LZ4.out.keep b4);have FE:=hi9 (FD.out.keep b4);have hHeld4:(fun w':World=>Vst w' w.heap.size x∧w'.cell? A1=some (.slice r.A r.n r.c)∧w'.cell? ⟨A1.block,A1.off+1,none⟩=some (.slice r'.A r'.n r'.c)) w4:=⟨hHeld.1.keep b4,zb b4 hHeld.2.1,zb b4 hHeld.2.2⟩
 clear hF4 b4 BD3 X4 L4 NA4 KE V3 X3 F3 P0 P2 P4 P5 L0 L2 LZ LZ4 FD NA B3 hHeld;go_wp2_with fail;refine hK'.out _ _ (fun _=>hHeld4) ?_;clear hK' K';have KB:=hi9 (IH.out _ _ _ b q4 (zbw a G) w4 X5.out L5.out HB.out.1 HVB.out HB.out.2 F4.out);refine zN (i:=9) (by kernel_rfl) rfl (fun K' hK'=>?_);go_simp;have BD:=B4;rcases qb:tyX x.t b (zbw a G) with u|kb
 ·rw [qb] at KB;refine KB.out.mono ?_;intro e w5 h5;obtain⟨rfl,b5⟩:=zbF h5;have B5:=bh BD b5;clear b5 h5;go_wp2_with fail;exact⟨rfl,by rw [show RR = .error u from HRR.out.trans (by unfold zdQ za2;rw [qa];simp only;rw [qb])];exact jl B5.out⟩
 rw [qb] at KB;refine KB.out.mono ?_;intro e w5 h5;obtain⟨A5,n5,m5,rfl,hN5,b5,l5⟩:=zaA h5;have B5:=bh B4 b5;have NA6:=hi9 (NA5.out.keep b5);have NB:=hi9 hN5;have hkb:KOk kb:=by have:=zc2 X5.out.ok b false (zbw a G) HVB.out;rw [qb] at this;exact this
 have P7:=hi9 (zb b5 P6.out);have LZ6:=hi9 (LZ5.out.keep b5);have F6:=hi9 (FE.out.keep b5);have X6:=hi9 (X5.out.keep b5);have V6:=hi9 (hHeld4.1.keep b5);have hHeld5:w5.cell? A1=some (.slice r.A r.n r.c)∧w5.cell? ⟨A1.block,A1.off+1,none⟩=some (.slice r'.A r'.n r'.c):=⟨zb b5 hHeld4.2.1,zb b5 hHeld4.2.2⟩
 clear h5 hN5 b5 l5 BD B4 X5 L5 NA5 F4 KB hHeld4 P6 LZ5 FE;go_wp2_with fail;refine hK'.out _ _ (fun _=>⟨V6.out,hHeld5⟩) ?_;clear hK' K';refine zN (i:=10) (by kernel_rfl) rfl (fun K' hK'=>?_);go_simp;refine hK'.out _ _ (fun _=>⟨V6.out,hHeld5⟩) ?_;refine j8 (by kernel_rfl) ?_;clear hK' K' hHeld5;obtain⟨c0,c1,c2,c3,c4,c5,c6,c7⟩:=V6.out;have q4:w5.cell? ⟨A1.block,A1.off+2,none⟩=some (.slice r3.A r3.n r3.c):=P7.out;go_wp2_with fail;have kc0:=cell_regrown c0;have kc1:=cell_regrown c1;have kc2:=cell_regrown c2;have kc3:=cell_regrown c3;have kc4:=cell_regrown c4;have kc5:=cell_regrown c5;have kc6:=cell_regrown c6;have kc7:=cell_regrown c7;have kq4:=cell_regrown q4;refine zbH (l := [_,_,_,_,_]) [0,1,2,3,4] 5 2 (by kernel_rfl) (by kernel_rfl) rfl (fun w'=>∃p:Regrown,w'=grow (redrawn w5 p.d) p.os) ⟨⟨w5.drawn+1,#[]⟩,by rw [grow_empty];rfl⟩ ?_
 repeat (first|go_big_quiet_step (fail)|quiet_step (fail))
 refine wpQuiet_nil ?_;rintro w5d ⟨⟨dd,os⟩,rfl⟩;have bd:=below_regrown w5 dd os;generalize grow (redrawn w5 dd) os=w5d at *;clear kc0 kc1 kc2 kc3 kc4 kc5 kc6 kc7 kq4;refine zN (i:=5) (by kernel_rfl) rfl (fun K' hK'=>?_);go_simp;have KZ:=hi9 (IH.out _ _ _ z p G w5d (X6.out.keep bd) (LZ6.out.keep bd) HZ.out.1 HVZ.out HZ.out.2 (F6.out.keep bd));have BD:=bh B5 bd;rcases qz:tyX x.t z G with u|kz
 ·rw [qz] at KZ;clear c0 c1 c2 c3 c4 c5 c6 c7 q4;refine KZ.out.mono ?_;intro e w6 h6;obtain⟨rfl,b6⟩:=zbF h6;have B6:=bh BD b6;clear b6 h6;go_wp2_with fail;exact⟨rfl,by rw [show RR = .error u from HRR.out.trans (by unfold zdQ za2 zd2 za2;rw [qa];simp only;rw [qb];simp only;rw [qz])];exact jl B6.out⟩
 rw [qz] at KZ;have hkz:KOk kz:=by have:=zc2 X6.out.ok z false G HVZ.out;rw [qz] at this;exact this
 refine KZ.out.mono ?_;intro e w6 h6;obtain⟨A6,n6,m6,rfl,hN6,b6,l6⟩:=zaA h6;have bb:=bd.trans (b6.mono bd.size);have B6:=bh B5 bb;have NC:=hi9 (NA6.out.keep bb);have NB7:=hi9 (NB.out.keep bb);have NZ:=hi9 hN6;clear h6 hN6 b6 l6 bb bd BD B5 V6 X6 F6 P7 LZ6 NA6 NB KZ IH c0 c1 c2 c3 c4 c5 c6 c7 q4;go_wp2_with fail;refine hK'.out _ _ (fun _=>trivial) ?_;clear hK' K'
 try simp only [Act.put,List.setIfInBounds_toArray,List.set_cons_zero,List.set_cons_succ]
 refine zN (i:=6) (by kernel_rfl) rfl (fun K' hK'=>?_);go_simp;refine hK'.out _ _ (fun _=>trivial) ?_;clear hK' K';refine j8 (by kernel_rfl) ?_;have HRX:=hi9 (show RR=if zj [41] ka then za6 (zm kb kz) else .error 2 from HRR.out.trans (by unfold zdQ za2 zd2 za2;rw [qa];simp only;rw [qb];simp only;rw [qz]));clear HRR qa qb qz;have bx1:=zS w6 (.cells #[.int .i64 41] 3);have BX1:=bh B6 bx1;have KM1:=hi9 (jr (d:=1) [41] (NC.out.keep bx1) rfl (by decide) (jP w6 41 3));have NB8:=hi9 (NB7.out.keep bx1);have NZ8:=hi9 (NZ.out.keep bx1);clear bx1 NB7 NZ NC B6;by_cases g1:zj [41] ka=true
 case neg =>
  rw [if_neg g1] at KM1;have HF:=hi9 (show RR = .error 2 by rw [HRX.out,if_neg g1]);clear g1 HRX;go_wp2_with fail;refine KM1.out.mono ?_;rintro e w7 ⟨rfl,b7⟩;have B7:=bh BX1 b7;clear b7 KM1 BX1 NB8 NZ8;go_wp2_with fail;exact⟨rfl,by rw [HF.out];exact jl B7.out⟩
 rw [if_pos g1] at KM1;have HT:=hi9 (show RR=za6 (zm kb kz) by rw [HRX.out,if_pos g1]);clear g1 HRX;go_wp2_with fail;refine KM1.out.mono ?_;rintro e w7 ⟨rfl,b7⟩;have B7:=bh BX1 b7;have KJ:=hi9 (zj5 (S:=S) hkb hkz (NB8.out.keep b7) (NZ8.out.keep b7));clear b7 KM1 BX1 NB8 NZ8;go_wp2_with fail;rcases qj:za6 (zm kb kz) with u|kj
 ·rw [qj] at KJ;refine KJ.out.mono ?_;intro e w8 h8;obtain⟨rfl,b8⟩:=zbF h8;have B8:=bh B7 b8;clear b8 h8;go_wp2_with fail;exact⟨rfl,by rw [HT.out,qj];exact jl B8.out⟩
 rw [qj] at KJ;refine KJ.out.mono ?_;intro e w8 h8;obtain⟨A8,n8,m8,rfl,hN8,b8,l8⟩:=zaA h8;have B8:=bh B7 b8;have N8:=hi9 hN8;have HL:=hi9 (jY B7.out l8);clear h8 hN8 b8 B7 l8;go_wp2_with fail;go_ret;rw [HT.out,qj];exact jb B8.out N8.out HL.out
theorem zeW(A:Option Addr)(n c:Nat)(P:List Nd)(w:World)(h:Ns w A n c P):
 Calls Tryz.prog 38 #[.slice A n c] w fun e w'=>e = .returned (zao (zb4 P))∧Below w.heap.size w w':=by
 have K:=hi9 h.kinds_Check;by_cases h0:zo P=0
 ·obtain⟨k,hk⟩:=znD h0;obtain⟨a,rfl,hn1,d0,-⟩:=zle h (by rw [hk.e];have:=jL k;omega);rw [h0,zM] at K;have HR:=hi9 (show zb4 P=if zan P=46 then 0 else 2 by unfold zb4;rw [h0];rfl);have hm:=h.max;unfold maxLen at hm;clear h hk h0;by_cases h46:zan P=46
  ·rw [if_pos h46] at HR;rw [h46] at d0;clear h46;go_enter Tryz.func38,Tryz.ntmps38;go_wp2_with fail;refine K.out.mono ?_;rintro e w1 ⟨rfl,b1⟩;have d1:=zb b1 d0;have B1:=hi9 b1;clear b1 d0;go_wp2_with fail;go_ret;exact⟨by rw [HR.out];rfl,B1.out⟩
  ·rw [if_neg h46] at HR;have f1:(zan P==46)=false:=beq_eq_false_iff_ne.2 h46;have f2:(zan P != 46)=true:=by rw [bne_iff_ne];exact h46
   generalize zan P=o at *;clear h46;go_enter Tryz.func38,Tryz.ntmps38;go_wp2_with fail;refine K.out.mono ?_;rintro e w1 ⟨rfl,b1⟩;have d1:=zb b1 d0;have B1:=hi9 b1;clear b1 d0;go_wp2_with fail;go_ret;exact⟨by rw [HR.out];rfl,B1.out⟩
 ·have HR:=hi9 (show zb4 P=zo P by unfold zb4;exact zB h0 _);have HE:=hi9 (jc h0);rw [HE.out] at K;generalize zo P=r at *;clear h h0;go_enter Tryz.func38,Tryz.ntmps38;go_wp2_with fail;refine K.out.mono ?_;rintro e w1 ⟨rfl,b1⟩;have B1:=hi9 b1;clear b1;go_wp2_with fail;go_ret;exact⟨by rw [HR.out,HE.out];rfl,B1.out⟩
structure Tl where
 A:Option Addr
 n:Nat
 c:Nat
 N:List ByteArray
def zcJ:List Tl→Int
 | []=>0
 | x :: r=>or2 (zX x.N) (zcJ r)
theorem zlA{L:List Tl}{i:Nat}(h:i<L.length):zcJ (L.drop i)=or2 (zX L[i].N) (zcJ (L.drop (i+1))):=by
 rw [List.drop_eq_getElem_cons h];rfl
def zbm(L:List Tl):Int:=if L.any (fun x=>decide (6<x.N.length)) then 4 else zcJ L
theorem zfO(a:Addr)(n c:Nat)(L:List Tl)(w:World)(hn:n=L.length)(hx:n≤8)(hl:∀k x,L[k]?=some x→w.cell? (a.add k)=some (.slice x.A x.n x.c)∧Txs w x.A x.n x.c x.N):
 Calls Tryz.prog 37 #[.slice (some a) n c] w fun e w'=>e = .returned (zao (zbm L))∧Below w.heap.size w w':=by
 have HL:=hi9 hn;have HT:=hi9 hl;clear hl hn;go_enter Tryz.func37,Tryz.ntmps37;go_wp2_with fail;go_loopw [12] (fun i wr=>∃k:Nat,i = .int .i64 k∧k≤n∧Hid (∀x∈L.take k,x.N.length≤6)∧w=wr) (fun i _=>n-(intOf i).toNat)
 case atStart=>exact⟨0,rfl,Nat.zero_le _,hi9 (fun x hx=>by simp at hx),rfl⟩
 case round =>
  obtain⟨k,rfl,hk,hF,rfl⟩:=hrel;by_cases hlt:k<n
  ·have hkl:k<L.length:=by rw [←HL.out];exact hlt
   obtain⟨q,ht⟩:=HT.out k _ (List.getElem?_eq_getElem hkl);have hm:=ht.max;unfold maxLen at hm;by_cases h6:6<L[k].n
   ·have HR:=hi9 (show zbm L=4 by
     unfold zbm
     rw [if_pos (List.any_eq_true.2 ⟨L[k],List.getElem_mem hkl,by rw [←ht.len];simpa using h6⟩)])
    have f1:decide (6<(L[k].n:Int))=true:=decide_eq_true (by omega)
    generalize L[k]=x at *
    clear hF h6 ht
    go_wp2_with fail
    go_ret
    exact⟨by rw [HR.out];rfl,Below.refl _ _⟩
   ·have HS:=hi9 (show∀x∈L.take (k+1),x.N.length≤6 from fun x hx=>by
     rw [List.take_succ_eq_append_getElem hkl,List.mem_append] at hx
     rcases hx with hx|hx
     ·exact hF.out x hx
     ·simp only [List.mem_cons,List.not_mem_nil,or_false] at hx
      subst hx;rw [←ht.len];omega)
    have f1:decide (6<(L[k].n:Int))=false:=decide_eq_false (by omega)
    generalize L[k]=x at *
    clear hF h6 ht
    go_wp2_with fail
    go_roundw
    case rel=>exact⟨k+1,by go_num,hlt,HS,trivial⟩
    case measure=>simp [intOf];omega
  ·have HR:=hi9 (show zbm L=zcJ L by
    unfold zbm
    rw [if_neg (by
     rw [List.any_eq_true]
     rintro ⟨x,hx,h6⟩
     have:=hF.out x (by rw [List.take_of_length_le (by rw [←HL.out];omega)];exact hx)
     simp at h6;omega)])
   clear hF hk
   go_wp2_with fail
   go_loopw [23] (fun i wo=>∃k:Nat,i = .int .i64 k∧k≤n∧Hid (zcJ L=zcJ (L.drop k))∧Hid (Below w.heap.size w wo)) (fun i _=>n-(intOf i).toNat)
   case atStart=>exact⟨0,rfl,Nat.zero_le _,hi9 (by simp),hi9 (Below.refl _ _)⟩
   case round =>
    obtain⟨k,rfl,hk,hF,hB⟩:=hrel;by_cases hlt:k<n
    ·have hkl:k<L.length:=by rw [←HL.out];exact hlt
     obtain⟨q,ht⟩:=HT.out k _ (List.getElem?_eq_getElem hkl);have q':=zb hB.out q;have hm:=ht.max;unfold maxLen at hm;have HS:=hi9 (hF.out.trans (zlA hkl));have HN:=hi9 (ht.keep hB.out);generalize L[k]=x at *;generalize hrest:zcJ (L.drop (k+1))=rest at *;have hlen:x.n=x.N.length:=ht.len;clear hF q ht;go_wp2_with fail;go_loopw [29] (fun i wj=>∃j:Nat,i = .int .i64 j∧j≤x.n∧Hid (zX x.N=zX (x.N.drop j))∧Hid (Below w.heap.size w wj)∧Hid (Txs wj x.A x.n x.c x.N)) (fun i _=>x.n-(intOf i).toNat)
     case atStart=>exact⟨0,rfl,Nat.zero_le _,hi9 (by simp),hB,HN⟩
     case round =>
      obtain⟨j,rfl,hj,hG,hB2,hN⟩:=hrel;by_cases hjt:j<x.n
      ·have hjl:j<x.N.length:=by omega
       obtain⟨b,eb,z0⟩:=hN.out.at_.cell hjl;rw [eb];have HS2:=hi9 (hG.out.trans (zgN hjl));have V:=hi9 (fun w'=>zaB x.N[j] w' (hN.out.ok _ (List.getElem_mem hjl)));generalize x.N[j]=y at *;clear hG;by_cases hf:zd y=0
       ·rw [hf,zs] at HS2;rw [hf,zM] at V;clear hf;go_wp2_with fail;refine(V.out _).mono ?_;rintro e w1 ⟨rfl,b1⟩;have B1:=hi9 (hB2.out.trans (b1.mono hB2.out.size));have N1:=hi9 (hN.out.keep b1);clear b1 hB2 hN z0;go_wp2_with fail;go_roundw
        case rel=>exact⟨j+1,by go_num,hjt,HS2,B1,by rw [←eb];exact N1⟩
        case measure=>simp [intOf];omega
       ·rw [zB hf] at HS2;have HE:=hi9 (jc hf);have HR2:=hi9 (show zbm L=zd y by rw [HR.out,HS.out,HS2.out,zB hf]);rw [HE.out] at V;generalize zd y=r at *;clear hf;go_wp2_with fail;refine(V.out _).mono ?_;rintro e w1 ⟨rfl,b1⟩;have B1:=hi9 (hB2.out.trans (b1.mono hB2.out.size));clear b1 hB2 hN z0;go_wp2_with fail;go_ret;exact⟨by rw [HR2.out,HE.out];rfl,B1.out⟩
      ·have HS2:=hi9 (show zcJ L=rest by
        rw [HS.out,hG.out,List.drop_eq_nil_of_le (by omega)];exact zs _)
       clear hG HS
       go_wp2_with fail
       go_roundw
       case rel=>exact⟨k+1,by go_num,hlt,hi9 (HS2.out.trans hrest.symm),hB2⟩
       case measure=>simp [intOf];omega
    ·have HS:=hi9 (show zbm L=0 by
      rw [HR.out,hF.out,List.drop_eq_nil_of_le (by rw [←HL.out];omega)];rfl)
     clear hF
     go_wp2_with fail
     go_ret
     exact⟨by rw [HS.out];rfl,hB.out⟩
end Go.Proofs.YtjcdeikbghjpkaaGreatDoor
