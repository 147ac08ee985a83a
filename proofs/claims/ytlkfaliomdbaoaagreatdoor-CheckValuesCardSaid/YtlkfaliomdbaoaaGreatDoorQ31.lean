/-
  check.join: the least type above two, or a panic. check's kindOf: If. (gen_chkkd.py) The head of a type: its op and name; types of one head; where it lies. ref ..
-/
import Derived.Test.YtlkfaliomdbaoaaGreatDoorQ2
import Derived.Test.YtlkfaliomdbaoaaGreatDoorQ5
import Derived.Test.YtlkfaliomdbaoaaGreatDoorQ18
import Derived.Test.YtlkfaliomdbaoaaGreatDoorQ19
import Derived.Test.YtlkfaliomdbaoaaGreatDoorQ20
import Derived.Test.YtlkfaliomdbaoaaGreatDoorQ22
import Derived.Test.YtlkfaliomdbaoaaGreatDoorQ26
import Derived.Test.YtlkfaliomdbaoaaGreatDoorQ30
set_option maxRecDepth 100000
set_option maxHeartbeats 4000000
namespace Go.Proofs.YtlkfaliomdbaoaaGreatDoor
open Go.RowKit Go.Wk Go.Sort
def JnX(w:World)(P Q:List Nd)(e:Ending)(w':World):Prop :=
 if joinE P Q=0 then∃(A:Option Addr) (n c:Nat),e = .returned (.slice A n c)∧Ns w' A n c (zdw P Q)∧Below w.heap.size w w'∧(∀a,A=some a→w.heap.size≤a.block) else e = .panicked (zcE 4)∧Below w.heap.size w w'
theorem znP{A1 A2:Option Addr}{n1 c1 n2 c2:Nat}{P Q:List Nd}{w:World}(h:Ns w A1 n1 c1 P)(k:Ns w A2 n2 c2 Q):
 Calls Tryz.prog 53 #[.slice A1 n1 c1,.slice A2 n2 c2] w (JnX w P Q):=by
 have K:=hi9 (h.kinds_JoinN k);clear h k;unfold JnX;by_cases he:joinE P Q=0
 ·simp only [if_pos he];go_enter Tryz.func53,Tryz.ntmps53;go_wp2_with fail;refine K.out.mono ?_;rintro e w1 ⟨A,n,c,rfl,N1,b1,l1⟩;have NN:=hi9 N1;have B1:=hi9 b1;have LL:=hi9 l1;clear N1 b1 l1 K;rw [he,zr];go_wp2_with fail;go_ret;exact⟨A,n,c,rfl,NN.out,B1.out,LL.out⟩
 ·simp only [if_neg he];go_enter Tryz.func53,Tryz.ntmps53;go_wp2_with fail;refine K.out.mono ?_;rintro e w1 ⟨A,n,c,rfl,N1,b1,l1⟩;have B1:=hi9 b1;clear N1 b1 l1 K;rw [zA he];generalize joinE P Q=ff at *;clear he;go_wp2_with fail;exact⟨rfl,rfl,B1.out⟩
theorem zhD{S:Nat→Prop}{A1 A2:Option Addr}{n1 c1 n2 c2:Nat}{a b:Kd}{w:World}(ha:KOk a)(hb:KOk b)(h:Ns w A1 n1 c1 a.flat)(k:Ns w A2 n2 c2 b.flat):
 Calls Tryz.prog 53 #[.slice A1 n1 c1,.slice A2 n2 c2] w (ji S w (zc2 (zl a b))):=by
 refine(znP h k).mono fun e w' hj=>?_;have hE:=ha.kin.joinE hb.kin;unfold JnX at hj;unfold zc2;rw [zad] at hE;by_cases g:200<(zl a b).sz
 ·rw [if_pos g] at hE ⊢;rw [hE,if_neg (by decide)] at hj;rw [hj.1];exact zQ hj.2
 ·rw [if_neg g] at hE ⊢;rw [if_pos hE] at hj;obtain⟨A,n,c,rfl,hN,hb',hl⟩:=hj;have hV:=(ha.kin.joined hb.kin hE).e;rw [hV] at hN;exact zJ hb' hN (fun a e => .inr (hl a e))
theorem zp8(S:Nat→Prop)(x:Xs)(N:Nat)(ih:KdC S x N)(A:Option Addr)(n c:Nat)(y:Nd)(ps:Exs)(p:Option Addr)(G:zW)(w:World)(hx:zef w x)(h:Ns w A n c (Ex.node y ps).flat)(hn:n≤4000)(hv:(Ex.node y ps).valid false)(hN:n≤N+1)(hF:zcI w p G)(hop:y.op=13)(a b z:Ex)(hps:ps = .cons a (.cons b (.cons z .nil))):
 Calls Tryz.prog 24 #[x.v,.slice A n c,.pointer p] w (ji S w (zhq x.t ps G)):=by
 have B0:=hi9 (za w x.o);have V0:=hi9 (zaZ w x);have X0:=hi9 hx;have F0:=hi9 hF;have CK:=hi9 (fun w' (hb:Below w.heap.size w w')=>zb8 A n c (.node y ps) false w' (h.keep hb) hn hv);have HLN:=hi9 (show n=ps.flat.length+1 by rw [h.len];simp [Ex.flat]);have HVP:=hi9 hv.2.2;have IH:=hi9 ih;have HN4:=hi9 hn;have HNN:=hi9 hN;subst hps;obtain⟨yo,yn,ys,yt⟩:=y;dsimp only at hop;subst hop;unfold Xs.o at B0 V0;unfold KdC at IH;unfold Xs.v at IH ⊢;simp only [Ex.head,Ex.parts,ndV] at CK;obtain⟨RR,hRR⟩:∃RR,RR=zhq x.t (.cons a (.cons b (.cons z .nil))) G:=⟨_,rfl⟩
 rw [←hRR];have HRR:=hi9 hRR;clear hx hF h hn hv hN ih hRR;go_enter Tryz.func24,Tryz.ntmps24;go_wp2_with fail;refine(CK.out _ B0.out).mono ?_;rintro e w1 ⟨A',c',V,rfl,hc,hS,hm,b1⟩;obtain⟨r,hr,⟨⟨A1,rfl,q0⟩,N0⟩⟩:=zbB hS hm (k:=0) (x:=a) rfl;obtain⟨r',hr',⟨⟨A2,e2,q2⟩,N2⟩⟩:=zbB hS hm (k:=1) (x:=b) rfl;obtain rfl:A1=A2:=Option.some.inj e2;obtain⟨r3,hr3,⟨⟨A3,e3,q4⟩,N4⟩⟩:=zbB hS hm (k:=2) (x:=z) rfl;obtain rfl:A1=A3:=Option.some.inj e3;rw [show A1.add 0=A1 from rfl] at q0;have hV2:2<V.length:=by rw [List.getElem?_eq_some_iff] at hr3;exact hr3.1
 have hV:1<V.length:=by omega
 have hV22:(2:Int)<(V.length:Int):=by omega
 have hV1:(1:Int)<(V.length:Int):=by omega
 have hV0:(0:Int)<(V.length:Int):=by omega
 have hV00:0<V.length:=by omega
 generalize V.length=m at *;have bN:=za w1 (.cells #[.int .i64 13,.int .i64 yn,.string ys,.string yt] 40);have b2:=b1.trans (bN.mono b1.size);have B2:=bh B0 b2;have V2:=hi9 (V0.out.keep b2);have F2:=hi9 (F0.out.keep B2.out);have X2:=hi9 (X0.out.keep B2.out);have Q0:=hi9 (zb bN q0);have Q2:=hi9 (zb bN q2);have Q4:=hi9 (zb bN q4);have M0:=hi9 (N0.keep bN);have M2:=hi9 (N2.keep bN);have M4:=hi9 (N4.keep bN);obtain⟨y0,-,-,-,-,-,-,-⟩:=zel w1 ⟨13,yn,ys,yt⟩;dsimp only at y0;clear hS hm b1 b2 bN N0 N2 N4 hr hr' hr3 e2 e3 q4 B0 V0 F0 X0 CK hc;have pa:=zV a;have pb:=zV b;have pz:=zV z;have hLN:a.flat.length+b.flat.length+z.flat.length+1=n:=by have:=HLN.out;simp [Exs.flat] at this;omega
 have hra:r.n=a.flat.length:=M0.out.len;have hrb:r'.n=b.flat.length:=M2.out.len;have hrz:r3.n=z.flat.length:=M4.out.len;have hn4:=HN4.out;have hnN:=HNN.out;have HA:=hi9 (show r.n≤4000∧r.n≤N by omega);have HB:=hi9 (show r'.n≤4000∧r'.n≤N by omega);have HZ:=hi9 (show r3.n≤4000∧r3.n≤N by omega);obtain⟨-,va,-,vb,-,vz,-⟩:=HVP.out;have HVZ:=hi9 vz;have HVA:=hi9 va;have HVB:=hi9 vb;clear pa pb pz hLN hra hrb hrz hn4 hnN va vb vz HLN HN4 HNN HVP;go_wp2_with fail;obtain⟨w2,hw2⟩:∃w2,w1.alloc (.cells #[.int .i64 13,.int .i64 yn,.string ys,.string yt] 40)=w2:=⟨_,rfl⟩
 rw [hw2] at B2 V2 F2 X2 Q0 Q2 Q4 M0 M2 M4 ⊢;clear hw2 y0;obtain⟨c0,c1,c2,c3,c4,c5,c6,c7⟩:=V2.out;have q0:=Q0.out;have q2:=Q2.out;have kc0:=cell_regrown c0;have kc1:=cell_regrown c1;have kc2:=cell_regrown c2;have kc3:=cell_regrown c3;have kc4:=cell_regrown c4;have kc5:=cell_regrown c5;have kc6:=cell_regrown c6;have kc7:=cell_regrown c7;have kq0:=cell_regrown q0;refine zaD (l := [_,_,_,_,_]) [0,1,2,3,4] 5 2 (by kernel_rfl) (by kernel_rfl) rfl (fun w'=>∃p:Regrown,w'=grow (redrawn w2 p.d) p.os) ⟨⟨w2.drawn+1,#[]⟩,by rw [grow_empty];rfl⟩ ?_
 repeat (first|go_big_quiet_step (fail)|quiet_step (fail))
 refine wpQuiet_nil ?_;rintro w2d ⟨⟨dd,os⟩,rfl⟩;have bd:=below_regrown w2 dd os;generalize grow (redrawn w2 dd) os=w2d at *;clear kc0 kc1 kc2 kc3 kc4 kc5 kc6 kc7 kq0;refine zq (i:=5) (by kernel_rfl) rfl (fun K' hK'=>?_);go_simp;have KA:=hi9 (IH.out _ _ _ a p G w2d (X2.out.keep bd) (M0.out.keep bd) HA.out.1 HVA.out HA.out.2 (F2.out.keep bd));have BD:=bh B2 bd;rcases qa:tyX x.t a G with u|ka
 ·rw [qa] at KA;clear c0 c1 c2 c3 c4 c5 c6 c7 q0 q2;refine KA.out.mono ?_;intro e w3 h3;obtain⟨rfl,b3⟩:=zaJ h3;have B3:=bh BD b3;clear b3 h3;go_wp2_with fail;exact⟨rfl,by rw [show RR = .error u from HRR.out.trans (by unfold zhq;rw [qa])];exact zQ B3.out⟩
 rw [qa] at KA;have hka:KOk ka:=by have:=zd7 X2.out.ok a false G HVA.out;rw [qa] at this;exact this
 refine KA.out.mono ?_;intro e w3 h3;obtain⟨A3,n3,m3,rfl,hN3,b3,l3⟩:=jM h3;have bb:=bd.trans (b3.mono bd.size);have B3:=bh B2 bb;have V3:=hi9 (V2.out.keep bb);have X3:=hi9 (X2.out.keep bb);have F3:=hi9 (F2.out.keep bb);have P0:=hi9 (zb bb Q0.out);have P2:=hi9 (zb bb Q2.out);have L0:=hi9 (M0.out.keep bb);have L2:=hi9 (M2.out.keep bb);have P4:=hi9 (zb bb Q4.out);have LZ:=hi9 (M4.out.keep bb);have NA:=hi9 hN3;clear h3 hN3 b3 l3 bb bd BD B2 V2 X2 F2 Q0 Q2 Q4 M0 M2 M4 KA c0 c1 c2 c3 c4 c5 c6 c7 q0 q2;go_wp2_with fail;refine hK'.out _ _ (fun _=>trivial) ?_;clear hK' K'
 try simp only [Act.put,List.setIfInBounds_toArray,List.set_cons_zero,List.set_cons_succ]
 refine zq (i:=6) (by kernel_rfl) rfl (fun K' hK'=>?_);go_simp;refine hK'.out _ _ (fun _=>trivial) ?_;clear hK' K';refine jv (by kernel_rfl) ?_;go_wp2_with fail;have bd:=jZ w3;have hHeld:(fun w':World=>Vst w' w.heap.size x∧w'.cell? A1=some (.slice r.A r.n r.c)∧w'.cell? ⟨A1.block,A1.off+1,none⟩=some (.slice r'.A r'.n r'.c)) w3.drew:=⟨V3.out.keep bd,zb bd P0.out,zb bd P2.out⟩
 have KE:=hi9 (zcv r.n r.A r.n r.c a false p G w3.drew (L0.out.keep bd) HA.out.1 HVA.out (Nat.le_refl _) (F3.out.keep bd));have BD3:=bh B3 bd;have X4:=hi9 (X3.out.keep bd);have L4:=hi9 (L2.out.keep bd);have NA4:=hi9 (NA.out.keep bd);have P5:=hi9 (zb bd P4.out);have LZ4:=hi9 (LZ.out.keep bd);have FD:=hi9 (F3.out.keep bd);clear bd;refine zac (fun w':World=>Vst w' w.heap.size x∧w'.cell? A1=some (.slice r.A r.n r.c)∧w'.cell? ⟨A1.block,A1.off+1,none⟩=some (.slice r'.A r'.n r'.c)) 11 (by kernel_rfl) hHeld (fun hHeld=>?_);refine zw (i:=0) (v := .agg #[.slice x.s.KA x.s.kn x.s.kc,.slice x.s.AA x.s.an x.s.ac,.string x.who,.string x.what,.string x.a.d.id,.slice x.a.WA x.a.wn x.a.wc,.slice x.a.TA x.a.tn x.a.tc,.slice x.a.NA x.a.nn x.a.nc]) rfl (by kernel_rfl) (by kernel_rfl) (by kernel_rfl) (Nat.le_refl _) (fun _ _ _ h=>h) (.inl ⟨by rfl,fun w' hSw=>?_⟩) hHeld ?_
 ·obtain⟨⟨s0,s1,s2,s3,s4,s5,s6,s7⟩,t0,t1⟩:=hSw;go_simp
 refine zw (i:=1) (v := .slice (some A1) m c') rfl (by kernel_rfl) (by kernel_rfl) (by kernel_rfl) (Nat.le_refl _) (fun _ _ _ h=>h) (.inl ⟨by rfl,fun w' hSw=>?_⟩) hHeld ?_
 ·obtain⟨⟨s0,s1,s2,s3,s4,s5,s6,s7⟩,t0,t1⟩:=hSw;go_simp
 refine zw (i:=2) (v := .pointer (some ⟨A1.block,A1.off+1,none⟩)) rfl (by kernel_rfl) (by kernel_rfl) (by kernel_rfl) (Nat.le_refl _) (fun _ _ _ h=>h) (.inl ⟨by rfl,fun w' hSw=>?_⟩) hHeld ?_
 ·obtain⟨⟨s0,s1,s2,s3,s4,s5,s6,s7⟩,t0,t1⟩:=hSw;go_simp
 refine zw (i:=3) (v := .slice r'.A r'.n r'.c) rfl (by kernel_rfl) (by kernel_rfl) (by kernel_rfl) (Nat.le_refl _) (fun _ _ _ h=>h) (.inl ⟨by rfl,fun w' hSw=>?_⟩) hHeld ?_
 ·obtain⟨⟨s0,s1,s2,s3,s4,s5,s6,s7⟩,t0,t1⟩:=hSw;go_simp
 refine zw (i:=4) (v := .slice (some A1) m c') rfl (by kernel_rfl) (by kernel_rfl) (by kernel_rfl) (Nat.le_refl _) (fun _ _ _ h=>h) (.inl ⟨by rfl,fun w' hSw=>?_⟩) hHeld ?_
 ·obtain⟨⟨s0,s1,s2,s3,s4,s5,s6,s7⟩,t0,t1⟩:=hSw;go_simp
 refine zw (i:=5) (v := .pointer (some A1)) rfl (by kernel_rfl) (by kernel_rfl) (by kernel_rfl) (Nat.le_refl _) (fun _ _ _ h=>h) (.inl ⟨by rfl,fun w' hSw=>?_⟩) hHeld ?_
 ·obtain⟨⟨s0,s1,s2,s3,s4,s5,s6,s7⟩,t0,t1⟩:=hSw;go_simp
 refine zw (i:=6) (v := .slice r.A r.n r.c) rfl (by kernel_rfl) (by kernel_rfl) (by kernel_rfl) (Nat.le_refl _) (fun _ _ _ h=>h) (.inl ⟨by rfl,fun w' hSw=>?_⟩) hHeld ?_
 ·obtain⟨⟨s0,s1,s2,s3,s4,s5,s6,s7⟩,t0,t1⟩:=hSw;go_simp
 refine zw (i:=7) (v := .pointer p) rfl (by kernel_rfl) (by kernel_rfl) (by kernel_rfl) (Nat.le_refl _) (fun _ _ _ h=>h) (.inl ⟨by rfl,fun w' hSw=>?_⟩) hHeld ?_
 ·obtain⟨⟨s0,s1,s2,s3,s4,s5,s6,s7⟩,t0,t1⟩:=hSw;go_simp
 refine zq (i:=8) (by kernel_rfl) rfl (fun K' hK'=>?_);go_simp;refine KE.out.mono ?_;rintro e w4 ⟨q4,rfl,hF4,b4⟩;have B4:=bh BD3 b4;have F4:=hi9 hF4;have X5:=hi9 (X4.out.keep b4);have L5:=hi9 (L4.out.keep b4);have NA5:=hi9 (NA4.out.keep b4);have P6:=hi9 (zb b4 P5.out);have LZ5:=hi9 (LZ4.out.keep b4);have FE:=hi9 (FD.out.keep b4);have hHeld4:(fun w':World=>Vst w' w.heap.size x∧w'.cell? A1=some (.slice r.A r.n r.c)∧w'.cell? ⟨A1.block,A1.off+1,none⟩=some (.slice r'.A r'.n r'.c)) w4:=⟨hHeld.1.keep b4,zb b4 hHeld.2.1,zb b4 hHeld.2.2⟩
 clear hF4 b4 BD3 X4 L4 NA4 KE V3 X3 F3 P0 P2 P4 P5 L0 L2 LZ LZ4 FD NA B3 hHeld;go_wp2_with fail;refine hK'.out _ _ (fun _=>hHeld4) ?_;clear hK' K';have KB:=hi9 (IH.out _ _ _ b q4 (zb7 a G) w4 X5.out L5.out HB.out.1 HVB.out HB.out.2 F4.out);refine zq (i:=9) (by kernel_rfl) rfl (fun K' hK'=>?_);go_simp;have BD:=B4;rcases qb:tyX x.t b (zb7 a G) with u|kb
 ·rw [qb] at KB;refine KB.out.mono ?_;intro e w5 h5;obtain⟨rfl,b5⟩:=zaJ h5;have B5:=bh BD b5;clear b5 h5;go_wp2_with fail;exact⟨rfl,by rw [show RR = .error u from HRR.out.trans (by unfold zhq zbw;rw [qa];simp only;rw [qb])];exact zQ B5.out⟩
 rw [qb] at KB;refine KB.out.mono ?_;intro e w5 h5;obtain⟨A5,n5,m5,rfl,hN5,b5,l5⟩:=jM h5;have B5:=bh B4 b5;have NA6:=hi9 (NA5.out.keep b5);have NB:=hi9 hN5;have hkb:KOk kb:=by have:=zd7 X5.out.ok b false (zb7 a G) HVB.out;rw [qb] at this;exact this
 have P7:=hi9 (zb b5 P6.out);have LZ6:=hi9 (LZ5.out.keep b5);have F6:=hi9 (FE.out.keep b5);have X6:=hi9 (X5.out.keep b5);have V6:=hi9 (hHeld4.1.keep b5);have hHeld5:w5.cell? A1=some (.slice r.A r.n r.c)∧w5.cell? ⟨A1.block,A1.off+1,none⟩=some (.slice r'.A r'.n r'.c):=⟨zb b5 hHeld4.2.1,zb b5 hHeld4.2.2⟩
 clear h5 hN5 b5 l5 BD B4 X5 L5 NA5 F4 KB hHeld4 P6 LZ5 FE;go_wp2_with fail;refine hK'.out _ _ (fun _=>⟨V6.out,hHeld5⟩) ?_;clear hK' K';refine zq (i:=10) (by kernel_rfl) rfl (fun K' hK'=>?_);go_simp;refine hK'.out _ _ (fun _=>⟨V6.out,hHeld5⟩) ?_;refine jv (by kernel_rfl) ?_;clear hK' K' hHeld5;obtain⟨c0,c1,c2,c3,c4,c5,c6,c7⟩:=V6.out;have q4:w5.cell? ⟨A1.block,A1.off+2,none⟩=some (.slice r3.A r3.n r3.c):=P7.out;go_wp2_with fail;have kc0:=cell_regrown c0;have kc1:=cell_regrown c1;have kc2:=cell_regrown c2;have kc3:=cell_regrown c3;have kc4:=cell_regrown c4;have kc5:=cell_regrown c5;have kc6:=cell_regrown c6;have kc7:=cell_regrown c7;have kq4:=cell_regrown q4;refine zaD (l := [_,_,_,_,_]) [0,1,2,3,4] 5 2 (by kernel_rfl) (by kernel_rfl) rfl (fun w'=>∃p:Regrown,w'=grow (redrawn w5 p.d) p.os) ⟨⟨w5.drawn+1,#[]⟩,by rw [grow_empty];rfl⟩ ?_
 repeat (first|go_big_quiet_step (fail)|quiet_step (fail))
 refine wpQuiet_nil ?_;rintro w5d ⟨⟨dd,os⟩,rfl⟩;have bd:=below_regrown w5 dd os;generalize grow (redrawn w5 dd) os=w5d at *;clear kc0 kc1 kc2 kc3 kc4 kc5 kc6 kc7 kq4;refine zq (i:=5) (by kernel_rfl) rfl (fun K' hK'=>?_);go_simp;have KZ:=hi9 (IH.out _ _ _ z p G w5d (X6.out.keep bd) (LZ6.out.keep bd) HZ.out.1 HVZ.out HZ.out.2 (F6.out.keep bd));have BD:=bh B5 bd;rcases qz:tyX x.t z G with u|kz
 ·rw [qz] at KZ;clear c0 c1 c2 c3 c4 c5 c6 c7 q4;refine KZ.out.mono ?_;intro e w6 h6;obtain⟨rfl,b6⟩:=zaJ h6;have B6:=bh BD b6;clear b6 h6;go_wp2_with fail;exact⟨rfl,by rw [show RR = .error u from HRR.out.trans (by unfold zhq zbw zlp zbw;rw [qa];simp only;rw [qb];simp only;rw [qz])];exact zQ B6.out⟩
 rw [qz] at KZ;have hkz:KOk kz:=by have:=zd7 X6.out.ok z false G HVZ.out;rw [qz] at this;exact this
 refine KZ.out.mono ?_;intro e w6 h6;obtain⟨A6,n6,m6,rfl,hN6,b6,l6⟩:=jM h6;have bb:=bd.trans (b6.mono bd.size);have B6:=bh B5 bb;have NC:=hi9 (NA6.out.keep bb);have NB7:=hi9 (NB.out.keep bb);have NZ:=hi9 hN6;clear h6 hN6 b6 l6 bb bd BD B5 V6 X6 F6 P7 LZ6 NA6 NB KZ IH c0 c1 c2 c3 c4 c5 c6 c7 q4;go_wp2_with fail;refine hK'.out _ _ (fun _=>trivial) ?_;clear hK' K'
 try simp only [Act.put,List.setIfInBounds_toArray,List.set_cons_zero,List.set_cons_succ]
 refine zq (i:=6) (by kernel_rfl) rfl (fun K' hK'=>?_);go_simp;refine hK'.out _ _ (fun _=>trivial) ?_;clear hK' K';refine jv (by kernel_rfl) ?_;have HRX:=hi9 (show RR=if zB [41] ka then zc2 (zl kb kz) else .error 2 from HRR.out.trans (by unfold zhq zbw zlp zbw;rw [qa];simp only;rw [qb];simp only;rw [qz]));clear HRR qa qb qz;have bx1:=zC w6 (.cells #[.int .i64 41] 3);have BX1:=bh B6 bx1;have KM1:=hi9 (zY (d:=1) [41] (NC.out.keep bx1) rfl (by decide) (jr w6 41 3));have NB8:=hi9 (NB7.out.keep bx1);have NZ8:=hi9 (NZ.out.keep bx1);clear bx1 NB7 NZ NC B6;by_cases g1:zB [41] ka=true
 case neg =>
  rw [if_neg g1] at KM1;have HF:=hi9 (show RR = .error 2 by rw [HRX.out,if_neg g1]);clear g1 HRX;go_wp2_with fail;refine KM1.out.mono ?_;rintro e w7 ⟨rfl,b7⟩;have B7:=bh BX1 b7;clear b7 KM1 BX1 NB8 NZ8;go_wp2_with fail;exact⟨rfl,by rw [HF.out];exact zQ B7.out⟩
 rw [if_pos g1] at KM1;have HT:=hi9 (show RR=zc2 (zl kb kz) by rw [HRX.out,if_pos g1]);clear g1 HRX;go_wp2_with fail;refine KM1.out.mono ?_;rintro e w7 ⟨rfl,b7⟩;have B7:=bh BX1 b7;have KJ:=hi9 (zhD (S:=S) hkb hkz (NB8.out.keep b7) (NZ8.out.keep b7));clear b7 KM1 BX1 NB8 NZ8;go_wp2_with fail;rcases qj:zc2 (zl kb kz) with u|kj
 ·rw [qj] at KJ;refine KJ.out.mono ?_;intro e w8 h8;obtain⟨rfl,b8⟩:=zaJ h8;have B8:=bh B7 b8;clear b8 h8;go_wp2_with fail;exact⟨rfl,by rw [HT.out,qj];exact zQ B8.out⟩
 rw [qj] at KJ;refine KJ.out.mono ?_;intro e w8 h8;obtain⟨A8,n8,m8,rfl,hN8,b8,l8⟩:=jM h8;have B8:=bh B7 b8;have N8:=hi9 hN8;have HL:=hi9 (jx B7.out l8);clear h8 hN8 b8 B7 l8;go_wp2_with fail;go_ret;rw [HT.out,qj];exact zJ B8.out N8.out HL.out
theorem zmv(k:Kd):∃(x:Int) (r:List Nd),k.flat=⟨opN k,x,nmN k,emp⟩:: r:=by
 cases k with
 | base x=>exact⟨_,_,rfl⟩
 | ent s=>exact⟨_,_,rfl⟩
 | set q=>exact⟨_,_,rfl⟩
 | fs f=>exact⟨_,_,rfl⟩
theorem zda{w:World}{A:Option Addr}{n c:Nat}{k:Kd}(h:Ns w A n c k.flat):∃a,A=some a∧1≤n∧w.cell? a=some (.int .i64 (opN k))∧w.cell? ⟨a.block,a.off+2,none⟩=some (.string (nmN k)):=by
 obtain⟨x,r,e⟩:=zmv k;obtain⟨a,ea,d0,d1,d2,d3⟩:=h.at_ 0 ⟨opN k,x,nmN k,emp⟩ (by rw [e];rfl);exact⟨a,ea,by rw [h.len];exact zaa k,d0,d2⟩
section
variable (a:Addr) (n c q:Nat) (xo xn:Int) (xs xt:ByteArray) (w:World) (hm:n≤maxLen) (hq:q<n) (d0:w.cell? (a.add (q*4))=some (.int .i64 xo)) (d1:w.cell? ⟨(a.add (q*4)).block,(a.add (q*4)).off+1,none⟩=some (.int .i64 xn)) (d2:w.cell? ⟨(a.add (q*4)).block,(a.add (q*4)).off+2,none⟩=some (.string xs)) (d3:w.cell? ⟨(a.add (q*4)).block,(a.add (q*4)).off+3,none⟩=some (.string xt))
include hm hq d0 d1 d2 d3
end
end Go.Proofs.YtlkfaliomdbaoaaGreatDoor
