/-
  check's kindOf: If. (gen_chkkd.py) check's named, got: the type of a name, of ..
-/
import Derived.Deep.Onto
import Derived.Test.YthifljpkgfpkiaaGreatDoorQ14
import Derived.Test.YthifljpkgfpkiaaGreatDoorQ31
import Derived.Test.YthifljpkgfpkiaaGreatDoorQ34
set_option maxRecDepth 100000
set_option maxHeartbeats 8000000
namespace Go.Proofs.YthifljpkgfpkiaaGreatDoor
open Go.RowKit Go.Wk Go.Sort
theorem xm{S:Nat->Prop}{A1 A2:Option Addr}{n1 c1 n2 c2:Nat}{a b:Kd}{w:World}(ha:KOk a)(hb:KOk b)(h:Ns w A1 n1 c1 a.flat)(k:Ns w A2 n2 c2 b.flat):
 Calls Tryz.prog 52 #[.slice A1 n1 c1,.slice A2 n2 c2] w (jT S w (ix (zI a b))):=by
 refine(NR h k).mono λe w' hj=>?_;have hE:=ha.kin.joinE hb.kin;unfold JnX at hj;unfold ix;rw [bW] at hE;by_cases g:200<(zI a b).sz
 ·rw [if_pos g] at hE ⊢;rw [hE,if_neg (by decide)] at hj;rw [hj.1];exact jt hj.2
 ·rw [if_neg g] at hE ⊢;rw [if_pos hE] at hj;obtain⟨A,n,c,rfl,hN,hb',hl⟩:=hj;have hV:=(ha.kin.joined hb.kin hE).e;rw [hV] at hN;exact jj hb' hN (λa e => .inr (hl a e))
theorem Xp(S:Nat->Prop)(x:Xs)(N:Nat)(ih:KdC S x N)(A:Option Addr)(n c:Nat)(y:Nd)(ps:Exs)(p:Option Addr)(G:jl)(w:World)(hx:oY w x)(h:Ns w A n c (Ex.node y ps).flat)(hn:n<=4000)(hv:(Ex.node y ps).valid false)(hN:n<=N+1)(hF:ll w p G)(hop:y.op=13)(a b z:Ex)(Rw:ps = .cons a (.cons b (.cons z .nil))):
 Calls Tryz.prog 22 #[x.v,.slice A n c,.pointer p] w (jT S w (rY x.t ps G)):=by
 have B0:=O (za w x.o);have V0:=O (eH w x);have X0:=O hx;have F0:=O hF;have CK:=O (λw' (hb:Below w.heap.size w w')=>iJ A n c (.node y ps) false w' (h.keep hb) hn hv);have fm:=O (show n=ps.flat.length+1 by rw [h.len];simp [Ex.flat]);have wm:=O hv.2.2;have IH:=O ih;have Fx:=O hn;have II:=O hN;subst Rw;obtain⟨yo,yn,ys,yt⟩:=y;dsimp only at hop;subst hop;unfold Xs.o at B0 V0;unfold KdC at IH;unfold Xs.v at IH ⊢;simp only [Ex.head,Ex.parts,ndV] at CK;obtain⟨RR,dA⟩:∃RR,RR=rY x.t (.cons a (.cons b (.cons z .nil))) G:=⟨_,rfl⟩
 rw [<-dA];have eZ:=O dA;clear hx hF h hn hv hN ih dA;go_enter Tryz.func22,Tryz.ntmps22;go_wp2_with fail;refine(CK.o _ B0.o).mono ?_;rintro e w1 ⟨A',c',V,rfl,hc,hS,hm,b1⟩;obtain⟨r,hr,⟨⟨A1,rfl,q0⟩,N0⟩⟩:=gU hS hm (k:=0) (x:=a) rfl;obtain⟨r',wh,⟨⟨A2,e2,q2⟩,N2⟩⟩:=gU hS hm (k:=1) (x:=b) rfl;obtain rfl:A1=A2:=Option.some.inj e2;obtain⟨r3,hr3,⟨⟨A3,e3,q4⟩,N4⟩⟩:=gU hS hm (k:=2) (x:=z) rfl;obtain rfl:A1=A3:=Option.some.inj e3;rw [show A1.add 0=A1 from rfl] at q0;have hV2:2<V.length:=by rw [List.getElem?_eq_some_iff] at hr3;exact hr3.1
 have hV:1<V.length:=by omega
 have hV22:(2:Int)<(V.length:Int):=by omega
 have hV1:(1:Int)<(V.length:Int):=by omega
 have hV0:(0:Int)<(V.length:Int):=by omega
 have hV00:0<V.length:=by omega
 generalize V.length=m at *;have bN:=za w1 (.cells #[.int .i64 13,.int .i64 yn,.string ys,.string yt] 47);have b2:=b1.trans (bN.mono b1.size);have B2:=bh B0 b2;have V2:=O (V0.o.keep b2);have F2:=O (F0.o.keep B2.o);have X2:=O (X0.o.keep B2.o);have Q0:=O (zb bN q0);have Q2:=O (zb bN q2);have Q4:=O (zb bN q4);have M0:=O (N0.keep bN);have M2:=O (N2.keep bN);have M4:=O (N4.keep bN);obtain⟨y0,-,-,-,-,-,-,-⟩:=pK w1 ⟨13,yn,ys,yt⟩;dsimp only at y0;clear hS hm b1 b2 bN N0 N2 N4 hr wh hr3 e2 e3 q4 B0 V0 F0 X0 CK hc;have pa:=jq a;have pb:=jq b;have pz:=jq z;have hLN:a.flat.length+b.flat.length+z.flat.length+1=n:=by have:=fm.o;simp [Exs.flat] at this;omega
 have hra:r.n=a.flat.length:=M0.o.len;have Yo:r'.n=b.flat.length:=M2.o.len;have hrz:r3.n=z.flat.length:=M4.o.len;have Ru:=Fx.o;have Z':=II.o;have HA:=O (show r.n<=4000/\r.n<=N by omega);have HB:=O (show r'.n<=4000/\r'.n<=N by omega);have HZ:=O (show r3.n<=4000/\r3.n<=N by omega);obtain⟨-,va,-,vb,-,vz,-⟩:=wm.o;have HVZ:=O vz;have FC:=O va;have W8:=O vb;clear pa pb pz hLN hra Yo hrz Ru Z' va vb vz fm Fx II wm;go_wp2_with fail;obtain⟨w2,hw2⟩:∃w2,w1.alloc (.cells #[.int .i64 13,.int .i64 yn,.string ys,.string yt] 47)=w2:=⟨_,rfl⟩
 rw [hw2] at B2 V2 F2 X2 Q0 Q2 Q4 M0 M2 M4 ⊢;clear hw2 y0;obtain⟨c0,c1,c2,c3,c4,c5,c6,c7⟩:=V2.o;have q0:=Q0.o;have q2:=Q2.o;have kc0:=cell_regrown c0;have kc1:=cell_regrown c1;have kc2:=cell_regrown c2;have kc3:=cell_regrown c3;have kc4:=cell_regrown c4;have kc5:=cell_regrown c5;have kc6:=cell_regrown c6;have kc7:=cell_regrown c7;have kq0:=cell_regrown q0;refine dR (l := [_,_,_,_,_]) [0,1,2,3,4] 5 2 (by kernel_rfl) (by kernel_rfl) rfl (λw'=>∃p:Regrown,w'=grow (redrawn w2 p.d) p.os) ⟨⟨w2.drawn+1,#[]⟩,by rw [grow_empty];rfl⟩ ?_
 repeat (first|go_big_quiet_step (fail)|quiet_step (fail))
 refine wpQuiet_nil ?_;rintro w2d ⟨⟨dd,os⟩,rfl⟩;have bd:=below_regrown w2 dd os;generalize grow (redrawn w2 dd) os=w2d at *;clear kc0 kc1 kc2 kc3 kc4 kc5 kc6 kc7 kq0;refine zA (i:=5) (by kernel_rfl) rfl (λK' hK'=>?_);go_simp;have KA:=O (IH.o _ _ _ a p G w2d (X2.o.keep bd) (M0.o.keep bd) HA.o.1 FC.o HA.o.2 (F2.o.keep bd));have BD:=bh B2 bd;rcases qa:tyX x.t a G with u|ka
 ·rw [qa] at KA;clear c0 c1 c2 c3 c4 c5 c6 c7 q0 q2;refine KA.o.mono ?_;intro e w3 h3;obtain⟨rfl,b3⟩:=dI h3;have B3:=bh BD b3;clear b3 h3;go_wp2_with fail;exact⟨rfl,by rw [show RR = .error u from eZ.o.trans (by unfold rY;rw [qa])];exact jt B3.o⟩
 rw [qa] at KA;have hka:KOk ka:=by have:=nj X2.o.ok a false G FC.o;rw [qa] at this;exact this
 refine KA.o.mono ?_;intro e w3 h3;obtain⟨A3,n3,m3,rfl,XZ,b3,l3⟩:=bM h3;have bb:=bd.trans (b3.mono bd.size);have B3:=bh B2 bb;have V3:=O (V2.o.keep bb);have X3:=O (X2.o.keep bb);have F3:=O (F2.o.keep bb);have P0:=O (zb bb Q0.o);have P2:=O (zb bb Q2.o);have L0:=O (M0.o.keep bb);have L2:=O (M2.o.keep bb);have P4:=O (zb bb Q4.o);have LZ:=O (M4.o.keep bb);have NA:=O XZ;clear h3 XZ b3 l3 bb bd BD B2 V2 X2 F2 Q0 Q2 Q4 M0 M2 M4 KA c0 c1 c2 c3 c4 c5 c6 c7 q0 q2;go_wp2_with fail;refine hK'.out _ _ (λ_=>trivial) ?_;clear hK' K'
 try simp only [Act.put,zL]
 refine zA (i:=6) (by kernel_rfl) rfl (λK' hK'=>?_);go_simp;refine hK'.out _ _ (λ_=>trivial) ?_;clear hK' K';refine jR (by kernel_rfl) ?_;go_wp2_with fail;have bd:=cn w3;have hHeld:(λw':World=>Vst w' w.heap.size x/\w'.cell? A1=some (.slice r.A r.n r.c)/\w'.cell? ⟨A1.block,A1.off+1,none⟩=some (.slice r'.A r'.n r'.c)) w3.drew:=⟨V3.o.keep bd,zb bd P0.o,zb bd P2.o⟩
 have KE:=O (kN r.n r.A r.n r.c a false p G w3.drew (L0.o.keep bd) HA.o.1 FC.o (Nat.le_refl _) (F3.o.keep bd));have YO:=bh B3 bd;have X4:=O (X3.o.keep bd);have L4:=O (L2.o.keep bd);have XJ:=O (NA.o.keep bd);have P5:=O (zb bd P4.o);have LZ4:=O (LZ.o.keep bd);have FD:=O (F3.o.keep bd);clear bd;refine a8 (λw':World=>Vst w' w.heap.size x/\w'.cell? A1=some (.slice r.A r.n r.c)/\w'.cell? ⟨A1.block,A1.off+1,none⟩=some (.slice r'.A r'.n r'.c)) 11 (by kernel_rfl) hHeld (λhHeld=>?_);refine ji 0 (.agg #[.slice x.s.KA x.s.kn x.s.kc,.slice x.s.AA x.s.an x.s.ac,.string x.who,.string x.what,.string x.a.d.id,.slice x.a.WA x.a.wn x.a.wc,.slice x.a.TA x.a.tn x.a.tc,.slice x.a.NA x.a.nn x.a.nc]) rfl (λw' hSw=>?_) hHeld ?_
 ·obtain⟨⟨s0,s1,s2,s3,s4,s5,s6,s7⟩,t0,t1⟩:=hSw;go_simp
 refine ji 1 (.slice (some A1) m c') rfl (λw' hSw=>?_) hHeld ?_
 ·obtain⟨⟨s0,s1,s2,s3,s4,s5,s6,s7⟩,t0,t1⟩:=hSw;go_simp
 refine ji 2 (.pointer (some ⟨A1.block,A1.off+1,none⟩)) rfl (λw' hSw=>?_) hHeld ?_
 ·obtain⟨⟨s0,s1,s2,s3,s4,s5,s6,s7⟩,t0,t1⟩:=hSw;go_simp
 refine ji 3 (.slice r'.A r'.n r'.c) rfl (λw' hSw=>?_) hHeld ?_
 ·obtain⟨⟨s0,s1,s2,s3,s4,s5,s6,s7⟩,t0,t1⟩:=hSw;go_simp
 refine ji 4 (.slice (some A1) m c') rfl (λw' hSw=>?_) hHeld ?_
 ·obtain⟨⟨s0,s1,s2,s3,s4,s5,s6,s7⟩,t0,t1⟩:=hSw;go_simp
 refine ji 5 (.pointer (some A1)) rfl (λw' hSw=>?_) hHeld ?_
 ·obtain⟨⟨s0,s1,s2,s3,s4,s5,s6,s7⟩,t0,t1⟩:=hSw;go_simp
 refine ji 6 (.slice r.A r.n r.c) rfl (λw' hSw=>?_) hHeld ?_
 ·obtain⟨⟨s0,s1,s2,s3,s4,s5,s6,s7⟩,t0,t1⟩:=hSw;go_simp
 refine ji 7 (.pointer p) rfl (λw' hSw=>?_) hHeld ?_
 ·obtain⟨⟨s0,s1,s2,s3,s4,s5,s6,s7⟩,t0,t1⟩:=hSw;go_simp
 refine zA (i:=8) (by kernel_rfl) rfl (λK' hK'=>?_);go_simp;refine KE.o.mono ?_;rintro e w4 ⟨q4,rfl,YE,b4⟩;have B4:=bh YO b4;have F4:=O YE;have X5:=O (X4.o.keep b4);have L5:=O (L4.o.keep b4);have XO:=O (XJ.o.keep b4);have P6:=O (zb b4 P5.o);have LZ5:=O (LZ4.o.keep b4);have FE:=O (FD.o.keep b4);have hHeld4:(λw':World=>Vst w' w.heap.size x/\w'.cell? A1=some (.slice r.A r.n r.c)/\w'.cell? ⟨A1.block,A1.off+1,none⟩=some (.slice r'.A r'.n r'.c)) w4:=⟨hHeld.1.keep b4,zb b4 hHeld.2.1,zb b4 hHeld.2.2⟩
 clear YE b4 YO X4 L4 XJ KE V3 X3 F3 P0 P2 P4 P5 L0 L2 LZ LZ4 FD NA B3 hHeld;go_wp2_with fail;refine hK'.out _ _ (λ_=>hHeld4) ?_;clear hK' K';have KB:=O (IH.o _ _ _ b q4 (cR a G) w4 X5.o L5.o HB.o.1 W8.o HB.o.2 F4.o);refine zA (i:=9) (by kernel_rfl) rfl (λK' hK'=>?_);go_simp;have BD:=B4;rcases qb:tyX x.t b (cR a G) with u|kb
 ·rw [qb] at KB;refine KB.o.mono ?_;intro e w5 h5;obtain⟨rfl,b5⟩:=dI h5;have B5:=bh BD b5;clear b5 h5;go_wp2_with fail;exact⟨rfl,by rw [show RR = .error u from eZ.o.trans (by unfold rY dU;rw [qa];simp only;rw [qb])];exact jt B5.o⟩
 rw [qb] at KB;refine KB.o.mono ?_;intro e w5 h5;obtain⟨A5,n5,m5,rfl,JK,b5,l5⟩:=bM h5;have B5:=bh B4 b5;have Yt:=O (XO.o.keep b5);have NB:=O JK;have hkb:KOk kb:=by have:=nj X5.o.ok b false (cR a G) W8.o;rw [qb] at this;exact this
 have P7:=O (zb b5 P6.o);have LZ6:=O (LZ5.o.keep b5);have F6:=O (FE.o.keep b5);have X6:=O (X5.o.keep b5);have V6:=O (hHeld4.1.keep b5);have hHeld5:w5.cell? A1=some (.slice r.A r.n r.c)/\w5.cell? ⟨A1.block,A1.off+1,none⟩=some (.slice r'.A r'.n r'.c):=⟨zb b5 hHeld4.2.1,zb b5 hHeld4.2.2⟩
 clear h5 JK b5 l5 BD B4 X5 L5 XO F4 KB hHeld4 P6 LZ5 FE;go_wp2_with fail;refine hK'.out _ _ (λ_=>⟨V6.o,hHeld5⟩) ?_;clear hK' K';refine zA (i:=10) (by kernel_rfl) rfl (λK' hK'=>?_);go_simp;refine hK'.out _ _ (λ_=>⟨V6.o,hHeld5⟩) ?_;refine jR (by kernel_rfl) ?_;clear hK' K' hHeld5;obtain⟨c0,c1,c2,c3,c4,c5,c6,c7⟩:=V6.o;have q4:w5.cell? ⟨A1.block,A1.off+2,none⟩=some (.slice r3.A r3.n r3.c):=P7.o;go_wp2_with fail;have kc0:=cell_regrown c0;have kc1:=cell_regrown c1;have kc2:=cell_regrown c2;have kc3:=cell_regrown c3;have kc4:=cell_regrown c4;have kc5:=cell_regrown c5;have kc6:=cell_regrown c6;have kc7:=cell_regrown c7;have kq4:=cell_regrown q4;refine dR (l := [_,_,_,_,_]) [0,1,2,3,4] 5 2 (by kernel_rfl) (by kernel_rfl) rfl (λw'=>∃p:Regrown,w'=grow (redrawn w5 p.d) p.os) ⟨⟨w5.drawn+1,#[]⟩,by rw [grow_empty];rfl⟩ ?_
 repeat (first|go_big_quiet_step (fail)|quiet_step (fail))
 refine wpQuiet_nil ?_;rintro w5d ⟨⟨dd,os⟩,rfl⟩;have bd:=below_regrown w5 dd os;generalize grow (redrawn w5 dd) os=w5d at *;clear kc0 kc1 kc2 kc3 kc4 kc5 kc6 kc7 kq4;refine zA (i:=5) (by kernel_rfl) rfl (λK' hK'=>?_);go_simp;have KZ:=O (IH.o _ _ _ z p G w5d (X6.o.keep bd) (LZ6.o.keep bd) HZ.o.1 HVZ.o HZ.o.2 (F6.o.keep bd));have BD:=bh B5 bd;rcases qz:tyX x.t z G with u|kz
 ·rw [qz] at KZ;clear c0 c1 c2 c3 c4 c5 c6 c7 q4;refine KZ.o.mono ?_;intro e w6 h6;obtain⟨rfl,b6⟩:=dI h6;have B6:=bh BD b6;clear b6 h6;go_wp2_with fail;exact⟨rfl,by rw [show RR = .error u from eZ.o.trans (by unfold rY dU yb dU;rw [qa];simp only;rw [qb];simp only;rw [qz])];exact jt B6.o⟩
 rw [qz] at KZ;have hkz:KOk kz:=by have:=nj X6.o.ok z false G HVZ.o;rw [qz] at this;exact this
 refine KZ.o.mono ?_;intro e w6 h6;obtain⟨A6,n6,m6,rfl,Wd,b6,l6⟩:=bM h6;have bb:=bd.trans (b6.mono bd.size);have B6:=bh B5 bb;have NC:=O (Yt.o.keep bb);have NB7:=O (NB.o.keep bb);have NZ:=O Wd;clear h6 Wd b6 l6 bb bd BD B5 V6 X6 F6 P7 LZ6 Yt NB KZ IH c0 c1 c2 c3 c4 c5 c6 c7 q4;go_wp2_with fail;refine hK'.out _ _ (λ_=>trivial) ?_;clear hK' K'
 try simp only [Act.put,zL]
 refine zA (i:=6) (by kernel_rfl) rfl (λK' hK'=>?_);go_simp;refine hK'.out _ _ (λ_=>trivial) ?_;clear hK' K';refine jR (by kernel_rfl) ?_;have Rp:=O (show RR=if zQ [41] ka then ix (zI kb kz) else .error 2 from eZ.o.trans (by unfold rY dU yb dU;rw [qa];simp only;rw [qb];simp only;rw [qz]));clear eZ qa qb qz;have bx1:=z8 w6 (.cells #[.int .i64 41] 3);have gZ:=bh B6 bx1;have cK:=O (jC (d:=1) [41] (NC.o.keep bx1) rfl (by decide) (au w6 41 3));have ZF:=O (NB7.o.keep bx1);have NZ8:=O (NZ.o.keep bx1);clear bx1 NB7 NZ NC B6;by_cases g1:zQ [41] ka=true
 case neg =>
  rw [if_neg g1] at cK;have HF:=O (show RR = .error 2 by rw [Rp.o,if_neg g1]);clear g1 Rp;go_wp2_with fail;refine cK.o.mono ?_;rintro e w7 ⟨rfl,b7⟩;have B7:=bh gZ b7;clear b7 cK gZ ZF NZ8;go_wp2_with fail;exact⟨rfl,by rw [HF.o];exact jt B7.o⟩
 rw [if_pos g1] at cK;have HT:=O (show RR=ix (zI kb kz) by rw [Rp.o,if_pos g1]);clear g1 Rp;go_wp2_with fail;refine cK.o.mono ?_;rintro e w7 ⟨rfl,b7⟩;have B7:=bh gZ b7;have KJ:=O (xm (S:=S) hkb hkz (ZF.o.keep b7) (NZ8.o.keep b7));clear b7 cK gZ ZF NZ8;go_wp2_with fail;rcases qj:ix (zI kb kz) with u|kj
 ·rw [qj] at KJ;refine KJ.o.mono ?_;intro e w8 h8;obtain⟨rfl,b8⟩:=dI h8;have B8:=bh B7 b8;clear b8 h8;go_wp2_with fail;exact⟨rfl,by rw [HT.o,qj];exact jt B8.o⟩
 rw [qj] at KJ;refine KJ.o.mono ?_;intro e w8 h8;obtain⟨A8,n8,m8,rfl,qm,b8,l8⟩:=bM h8;have B8:=bh B7 b8;have N8:=O qm;have HL:=O (aH B7.o l8);clear h8 qm b8 B7 l8;go_wp2_with fail;go_ret;rw [HT.o,qj];exact jj B8.o N8.o HL.o
theorem DZ(S:Nat->Prop)(x:Xs)(s:ByteArray)(w:World)(h:oY w x)(hS:∀a,x.a.NA=some a->S a.block):Calls Tryz.prog 54 #[x.v,.string s] w (jT S w (bH x.t s)):=by
 have V0:=O (eH w x);have B0:=O (za w x.o);have HC:=O (show x.a.d.P=(Kd.fs (lu x.a.d.P)).flat by obtain⟨f,hf⟩:=h.ok.ctx;have hf':Kin x.a.d.P (.fs f):=hf;rw [fB hf'];exact hf'.e);have HN:=O (h.a.ns.keep B0.o);have HW:=O (show x.who.size<=maxLen/\x.what.size<=maxLen from⟨h.who,h.what⟩);unfold Xs.o at V0 B0 HN;unfold Xs.v;clear h;by_cases g0:s=eo
 ·subst g0;have f0:(eo.toList == [112,114,105,110,99,105,112,97,108])=true:=beq_iff_eq.2 bV;rw [show bH x.t eo = .ok (.ent x.who) by unfold bH;rw [if_pos rfl] <;> rfl];obtain⟨c0,c1,c2,c3,c4,c5,c6,c7⟩:=V0.o;clear V0;have K:=O (λw=>dQ (S:=S) (o:=44) (s:=x.who) (k := .ent x.who) (w:=w) rfl HW.o.1);clear HN HC HW;go_enter Tryz.func54,Tryz.ntmps54;go_wp2_with fail;refine(K.o _).mono ?_;rintro e w1 ⟨b1,A,n,c,rfl,hN,hl⟩;have B1:=bh B0 b1;have N1:=O hN;have HL:=O (aH B0.o hl);clear b1 hN hl B0 K c0 c1 c2 c3 c4 c5 c6 c7;go_wp2_with fail;go_ret;exact jj B1.o N1.o HL.o
 by_cases g1:s=kd
 ·subst g1;have f1:(kd.toList == [97,99,116,105,111,110])=true:=beq_iff_eq.2 fp;have f0:(kd.toList == [112,114,105,110,99,105,112,97,108])=false:=beq_eq_false_iff_ne.2 (λq=>g0 (toList_inj (q.trans bV.symm)));rw [show bH x.t kd = .ok (.ent eG) by unfold bH;rw [if_neg g0];rw [if_pos rfl] <;> rfl];obtain⟨c0,c1,c2,c3,c4,c5,c6,c7⟩:=V0.o;clear V0 g0;have K:=O (λw=>dQ (S:=S) (o:=44) (s:=eG) (k := .ent eG) (w:=w) rfl (by decide));clear HN HC HW;go_enter Tryz.func54,Tryz.ntmps54;go_wp2_with fail;refine(K.o _).mono ?_;rintro e w1 ⟨b1,A,n,c,rfl,hN,hl⟩;have B1:=bh B0 b1;have N1:=O hN;have HL:=O (aH B0.o hl);clear b1 hN hl B0 K c0 c1 c2 c3 c4 c5 c6 c7;go_wp2_with fail;go_ret;exact jj B1.o N1.o HL.o
 by_cases g2:s=dq
 ·subst g2;have f2:(dq.toList == [114,101,115,111,117,114,99,101])=true:=beq_iff_eq.2 fQ;have f0:(dq.toList == [112,114,105,110,99,105,112,97,108])=false:=beq_eq_false_iff_ne.2 (λq=>g0 (toList_inj (q.trans bV.symm)));have f1:(dq.toList == [97,99,116,105,111,110])=false:=beq_eq_false_iff_ne.2 (λq=>g1 (toList_inj (q.trans fp.symm)));rw [show bH x.t dq = .ok (.ent x.what) by unfold bH;rw [if_neg g0];rw [if_neg g1];rw [if_pos rfl] <;> rfl];obtain⟨c0,c1,c2,c3,c4,c5,c6,c7⟩:=V0.o;clear V0 g0 g1;have K:=O (λw=>dQ (S:=S) (o:=44) (s:=x.what) (k := .ent x.what) (w:=w) rfl HW.o.2);clear HN HC HW;go_enter Tryz.func54,Tryz.ntmps54;go_wp2_with fail;refine(K.o _).mono ?_;rintro e w1 ⟨b1,A,n,c,rfl,hN,hl⟩;have B1:=bh B0 b1;have N1:=O hN;have HL:=O (aH B0.o hl);clear b1 hN hl B0 K c0 c1 c2 c3 c4 c5 c6 c7;go_wp2_with fail;go_ret;exact jj B1.o N1.o HL.o
 by_cases g3:s=dK
 ·subst g3;have f3:(dK.toList == [99,111,110,116,101,120,116])=true:=beq_iff_eq.2 nw;have f0:(dK.toList == [112,114,105,110,99,105,112,97,108])=false:=beq_eq_false_iff_ne.2 (λq=>g0 (toList_inj (q.trans bV.symm)));have f1:(dK.toList == [97,99,116,105,111,110])=false:=beq_eq_false_iff_ne.2 (λq=>g1 (toList_inj (q.trans fp.symm)));have f2:(dK.toList == [114,101,115,111,117,114,99,101])=false:=beq_eq_false_iff_ne.2 (λq=>g2 (toList_inj (q.trans fQ.symm)));rw [show bH x.t dK = .ok (.fs (lu x.a.d.P)) by unfold bH;rw [if_neg g0];rw [if_neg g1];rw [if_neg g2];rw [if_pos rfl] <;> rfl];obtain⟨c0,c1,c2,c3,c4,c5,c6,c7⟩:=V0.o;clear V0 g0 g1 g2;rw [HC.o] at HN;go_enter Tryz.func54,Tryz.ntmps54;go_wp2_with fail;go_ret;exact jj B0.o HN.o (λa e => .inl (hS a e))
 have f0:(s.toList == [112,114,105,110,99,105,112,97,108])=false:=beq_eq_false_iff_ne.2 (λq=>g0 (toList_inj (q.trans bV.symm)));have f1:(s.toList == [97,99,116,105,111,110])=false:=beq_eq_false_iff_ne.2 (λq=>g1 (toList_inj (q.trans fp.symm)));have f2:(s.toList == [114,101,115,111,117,114,99,101])=false:=beq_eq_false_iff_ne.2 (λq=>g2 (toList_inj (q.trans fQ.symm)));have f3:(s.toList == [99,111,110,116,101,120,116])=false:=beq_eq_false_iff_ne.2 (λq=>g3 (toList_inj (q.trans nw.symm)));rw [show bH x.t s = .error 3 by unfold bH;rw [if_neg g0,if_neg g1,if_neg g2,if_neg g3]];clear g0 g1 g2 g3 V0 HN HC HW;go_enter Tryz.func54,Tryz.ntmps54;go_wp2_with fail;exact⟨rfl,jt B0.o⟩
theorem QU(s:Sc)(t:ByteArray)(w:World)(h:lK w s):
 Calls Tryz.prog 15 #[s.v,.string t] w λe w'=>∃(Y:Kn) (hb:Bool),e = .returned (.tuple #[.agg #[.string Y.d.nm,.slice Y.UA Y.un Y.uc,.slice Y.NA Y.nn Y.nc],.bool hb])/\((hb=false->cN s.k t=none)/\(hb=true->∃i,∃hi:i<s.K.length,cN s.k t=some Y.d/\Y=s.K[i]))/\Below w.heap.size w w' :=
 (rG s t w h).mono λe w' ⟨hc,hb⟩=>by
  rcases hc with ⟨h1,h2⟩|⟨i,hi,h1,h2⟩
  ·exact⟨⟨⟨⟨#[]⟩,[],[]⟩,none,0,0,none,0,0⟩,false,h2,⟨λ_=>h1,λq=>(by cases q)⟩,hb⟩
  ·exact⟨s.K[i],true,h2,⟨λq=>(by cases q),λ_=>⟨i,hi,h1,rfl⟩⟩,hb⟩
theorem Pq(S:Nat->Prop)(x:Xs)(s:ByteArray)(b:Bool)(A:Option Addr)(n c:Nat)(w:World)(hA:∀a,A=some a->S a.block)(k:Ns w A n c (Kd.base 49).flat):
 Calls Tryz.prog 56 #[x.v,.slice A n c,.string s,.bool b] w (jT S w (.ok (.base 49))):=by
 have V0:=O (eH w x);have B0:=O (za w x.o);obtain⟨a0,ea0,hn1,d0,d2⟩:=mL k;have hn0:(0:Int)<(n:Int):=by omega
 have hn00:0<n:=hn1;have N0:=O (k.keep B0.o);unfold Xs.o at V0 B0 N0;unfold Xs.v;subst ea0;have e0:=zb B0.o d0;simp only [opN] at e0 d0;clear k d0 d2 V0;go_enter Tryz.func56,Tryz.ntmps56;go_wp2_with fail;go_ret;exact jj B0.o N0.o (λa e => .inl (hA a e))
theorem I'(S:Nat->Prop)(x:Xs)(k0:Kd)(s:ByteArray)(b:Bool)(A:Option Addr)(n c:Nat)(w:World)(k:Ns w A n c k0.flat)(h1:opN k0≠49)(h2:opN k0≠44)(h3:opN k0≠46):
 Calls Tryz.prog 56 #[x.v,.slice A n c,.string s,.bool b] w (jT S w (.error 2)):=by
 have V0:=O (eH w x);have B0:=O (za w x.o);obtain⟨a0,ea0,hn1,d0,d2⟩:=mL k;have hn0:(0:Int)<(n:Int):=by omega
 have hn00:0<n:=hn1;unfold Xs.o at V0 B0;unfold Xs.v;subst ea0;have e0:=zb B0.o d0;have f1:(opN k0==49)=false:=beq_eq_false_iff_ne.2 h1;have f2:(opN k0==44)=false:=beq_eq_false_iff_ne.2 h2;have f3:(opN k0==46)=false:=beq_eq_false_iff_ne.2 h3;generalize opN k0=oo at *;clear k d0 d2 V0 h1 h2 h3;go_enter Tryz.func56,Tryz.ntmps56;go_wp2_with fail;exact⟨rfl,jt B0.o⟩
theorem SS(S:Nat->Prop)(x:Xs)(g:Fl)(s:ByteArray)(b:Bool)(A:Option Addr)(n c:Nat)(w:World)(hA:∀a,A=some a->S a.block)(k:Ns w A n c (Kd.fs g).flat)(hg:KOk (.fs g)):
 Calls Tryz.prog 56 #[x.v,.slice A n c,.string s,.bool b] w (jT S w (gm g s b)):=by
 have V0:=O (eH w x);have B0:=O (za w x.o);obtain⟨a0,ea0,hn1,d0,d2⟩:=mL k;have hn0:(0:Int)<(n:Int):=by omega
 have hn00:0<n:=hn1;have Ru:n<=4000:=by rw [k.len,bW];have:=hg.2;omega
 have Ww:=O (λw' (hb:Below w.heap.size w w')=>k.keep hb);have NP:=O k;have LF:=O (lR.start (f:=g) hg.1);have YJ:=O (show 1+g.flat.length=n by rw [k.len];simp [Kd.flat];omega);have BL:=B0;unfold Xs.o at V0 B0 BL;unfold Xs.v;have rJ:=O (hA a0 ea0);clear hA;subst ea0;have e0:=zb B0.o d0;simp only [opN] at e0 d0;clear k d0 d2 V0;go_enter Tryz.func56,Tryz.ntmps56;go_wp2_with fail;have Rc:=NP.o.cap;have hmx:=NP.o.max;unfold maxLen at hmx;have UV:=O NP.o.len;go_loopw [11] (λu wr=>∃(q:Nat) (g':Fl),u = .int .i64 q/\Hid (lR (Kd.fs g).flat q g')/\Hid (q+g'.flat.length=n)/\Hid (gm g s b=gm g' s b)/\Hid (Below w.heap.size w wr)) (λu _=>n-(intOf u).toNat)
 case atStart=>exact⟨1,g,rfl,LF,YJ,O rfl,BL⟩
 case round =>
  clear LF YJ BL;obtain⟨q,g',rfl,hL,hT,hE,hB⟩:=hrel;by_cases hlt:q<n
  ·obtain⟨s1,m,k1,r,rfl⟩:∃s1 m k1 r,g' = .cons s1 m k1 r:=by
    cases g' with
    | nil=>have:=hT.o;simp [Fl.flat] at this;omega
    | cons s1 m k1 r=>exact⟨s1,m,k1,r,rfl⟩
   obtain⟨h1,h2⟩:=hL.o.head;have KB:=O (iu (some a0) n c (Kd.fs g).flat (q+1) k1 wr (Ww.o wr hB.o) Ru h1.over);have hle:q+1+k1.flat.length<=n:=by rw [UV.o];exact h1.le
   obtain⟨a,ea,d0,d1,d2,d3⟩:=(Ww.o wr hB.o).at_ q _ h1.nd;obtain rfl:a0=a:=Option.some.inj ea;have Mz:=O h1.seg;have Fy:=O h2;have v7:=O (show q+1+k1.flat.length+r.flat.length=n by have:=hT.o;simp only [Fl.flat,List.length_cons,List.length_append] at this;omega);have ay:=O (show gm (.cons s1 m k1 r) s b=if s1=s then(if m || b then .ok k1 else gm r s b) else gm r s b by
    obtain⟨⟨x0,v0,v1,v2,v3⟩,-⟩:=hL.o
    unfold gm
    simp only [Fl.find]
    by_cases e:s1=s
    ·subst e
     rw [if_pos rfl,if_pos rfl,CO v3]
    ·rw [if_neg e,if_neg e])
   have cg:=ct k1;simp only [C9] at d0 d1 d2 d3;clear hL hT h1 h2 d0 d3 ea;generalize k1.flat.length=l1 at *;go_wp2_with fail;refine KB.o.mono ?_;rintro e w5 ⟨rfl,b5⟩;have B5:=bh hB b5;have e1:=zb b5 d1;have e2:=zb b5 d2;clear b5 hB d1 d2 KB;have hqi:(q:Int)<(n:Int):=by omega
   by_cases hs:s1=s
   ·subst hs;rw [if_pos rfl] at ay;by_cases hmb:(m || b)=true
    ·rw [if_pos hmb] at ay;have NS:=tJ (Ww.o w5 B5.o) (i:=q+1) (j:=q+1+l1) (by omega) hle;rw [Mz.o] at NS;have N5:=O NS;have HR:=O (hE.o.trans ay.o);clear hE ay NS;rcases m with _|_
     ·rw [Bool.false_or] at hmb;subst hmb;simp only [Bool.false_eq_true,if_false] at e1;go_wp2_with fail;go_ret;rw [HR.o];exact jj B5.o N5.o (λa e => .inl (by injection e with e;subst e;exact rJ.o))
     ·simp only [if_true] at e1;clear hmb;go_wp2_with fail;go_ret;rw [HR.o];exact jj B5.o N5.o (λa e => .inl (by injection e with e;subst e;exact rJ.o))
    ·rw [if_neg hmb] at ay;have HR:=O (hE.o.trans ay.o);clear hE ay;rcases m with _|_
     ·rw [Bool.false_or] at hmb;obtain rfl:b=false:=by simpa using hmb
      simp only [Bool.false_eq_true,if_false] at e1;clear hmb;go_wp2_with fail;go_roundw
      case rel=>exact⟨q+1+l1,r,by go_num,Fy,v7,HR,B5⟩
      case measure=>simp [intOf];omega
     ·simp at hmb
   ·rw [if_neg hs] at ay;have HR:=O (hE.o.trans ay.o);have f6:(s1.toList==s.toList)=false:=beq_eq_false_iff_ne.2 (λq=>hs (toList_inj q));clear hE ay hs;generalize (if m=true then(1:Int) else 0)=mi at *;go_wp2_with fail;go_roundw
    case rel=>exact⟨q+1+l1,r,by go_num,Fy,v7,HR,B5⟩
    case measure=>simp [intOf];omega
  ·obtain rfl:g' = .nil:=by
    cases g' with
    | nil=>rfl
    | cons s1 m k1 r=>have:=hT.o;simp only [Fl.flat,List.length_cons] at this;omega
   have HR:=O hE.o;clear hL hT hE;go_wp2_with fail;exact⟨rfl,by rw [HR.o];exact jt hB.o⟩
theorem TT(S:Nat->Prop)(x:Xs)(u:ByteArray)(s:ByteArray)(b:Bool)(A:Option Addr)(n c:Nat)(w:World)(h:oY w x)(hS:∀y∈x.s.K,∀a,y.NA=some a->S a.block)(k:Ns w A n c (Kd.ent u).flat):
 Calls Tryz.prog 56 #[x.v,.slice A n c,.string s,.bool b] w (jT S w (mS x.t (.ent u) s b)):=by
 have V0:=O (eH w x);have B0:=O (za w x.o);obtain⟨a0,ea0,hn1,d0,d2⟩:=mL k;have hn0:(0:Int)<(n:Int):=by omega
 have hn00:0<n:=hn1;have K:=O (λw' (hb:Below w.heap.size w w')=>QU x.s u w' (h.s.keep hb));have HX:=O h;have Un:=O hS;clear hS;have HG:=O (show mS x.t (.ent u) s b=(match cN x.s.k u with|none => .error 3|some d=>gm (lu d.P) s b) from rfl);unfold Xs.o at V0 B0;unfold Xs.v;unfold Sc.v at K;subst ea0;have e0:=zb B0.o d0;have e2:=zb B0.o d2;have ha0:a0.block<w.heap.size:=block_lt_of_cell d0;simp only [opN,nmN] at e0 e2 d0;obtain⟨c0,c1,c2,c3,c4,c5,c6,c7⟩:=V0.o;generalize mS x.t (.ent u) s b=RR at *;clear h k d0 d2;go_enter Tryz.func56,Tryz.ntmps56;go_wp2_with fail;have hsz:(w.alloc (.cells #[.slice x.s.KA x.s.kn x.s.kc,.slice x.s.AA x.s.an x.s.ac,.string x.who,.string x.what,.string x.a.d.id,.slice x.a.WA x.a.wn x.a.wc,.slice x.a.TA x.a.tn x.a.tc,.slice x.a.NA x.a.nn x.a.nc] 67)).heap.size=w.heap.size+1:=by simp
 obtain⟨w0,hw0⟩:∃w0,w.alloc (.cells #[.slice x.s.KA x.s.kn x.s.kc,.slice x.s.AA x.s.an x.s.ac,.string x.who,.string x.what,.string x.a.d.id,.slice x.a.WA x.a.wn x.a.wc,.slice x.a.TA x.a.tn x.a.tc,.slice x.a.NA x.a.nn x.a.nc] 67)=w0:=⟨_,rfl⟩
 rw [hw0] at V0 B0 c0 c1 c2 c3 c4 c5 c6 c7 e0 e2 hsz ⊢;clear hw0 V0 e0 c2 c3 c4 c5 c6 c7;have bd:=cn w0;have bx:RowKit.Below w0.heap.size w0 (w0.alloc (.cells #[.string ⟨#[]⟩,.slice none 0 0,.slice none 0 0] 58)).drew:=(za w0 _).trans ((cn _).mono (za w0 _).size);have c0d:=zb bd c0;have c1d:=zb bd c1;have e2d:=zb bd e2;have c0x:=zb bx c0;have c1x:=zb bx c1;have e2x:=zb bx e2;have Bd:=bh B0 bd;have Bx:=bh B0 bx;have KD:=O (K.o w0.drew Bd.o);have KX:=O (K.o (w0.alloc (.cells #[.string ⟨#[]⟩,.slice none 0 0,.slice none 0 0] 58)).drew Bx.o);have CX:=O ((sE w0 (.string ⟨#[]⟩) (.slice none 0 0) (.slice none 0 0) 58).keep (cn _));have MN:some w.heap.size≠some (w.heap.size+1):=λe=>by injection e with e;omega
 have hnea:some a0.block≠some (w.heap.size+1):=λe=>by injection e with e;omega
 rw [hsz] at CX;clear bd bx K;go_region_held3 (λw':World=>w'.cell? ⟨w.heap.size,0,none⟩=some (.slice x.s.KA x.s.kn x.s.kc)/\w'.cell? ⟨w.heap.size,1,none⟩=some (.slice x.s.AA x.s.an x.s.ac)/\w'.cell? ⟨a0.block,a0.off+2,none⟩=some (.string u)) (first|(with_reducible exact⟨g0,g1,g2⟩)|(with_reducible exact⟨h0,h1,h2⟩)|(with_reducible exact⟨u0,u1,u2⟩)|(with_reducible exact⟨t0,t1,t2⟩)|(with_reducible exact⟨c0x,c1x,e2x⟩)|(with_reducible exact⟨c0d,c1d,e2d⟩)|(with_reducible exact⟨c0,c1,e2⟩)) (first
  |(go_at_call 15;(with_reducible refine KX.o.mono ?_);rintro e w5 ⟨Y,hb,rfl,hY,b5⟩;have B5:=bh Bx b5;have t0:=zb b5 c0x;have t1:=zb b5 c1x;have t2:=zb b5 e2x;have C5:=O (CX.o.keep b5);have g0:=(zl _ ⟨w.heap.size+1,2,none⟩ (.slice Y.NA Y.nn Y.nc)).cell ((zl _ ⟨w.heap.size+1,1,none⟩ (.slice Y.UA Y.un Y.uc)).cell ((zl w5 ⟨w.heap.size+1,0,none⟩ (.string Y.d.nm)).cell t0 MN) MN) MN;have g1:=(zl _ ⟨w.heap.size+1,2,none⟩ (.slice Y.NA Y.nn Y.nc)).cell ((zl _ ⟨w.heap.size+1,1,none⟩ (.slice Y.UA Y.un Y.uc)).cell ((zl w5 ⟨w.heap.size+1,0,none⟩ (.string Y.d.nm)).cell t1 MN) MN) MN;have g2:=(zl _ ⟨w.heap.size+1,2,none⟩ (.slice Y.NA Y.nn Y.nc)).cell ((zl _ ⟨w.heap.size+1,1,none⟩ (.slice Y.UA Y.un Y.uc)).cell ((zl w5 ⟨w.heap.size+1,0,none⟩ (.string Y.d.nm)).cell t2 hnea) hnea) hnea;obtain⟨y0,y1,y2,z0,z1,z2⟩:=C5.o)
  |(go_at_call 15;(with_reducible refine KD.o.mono ?_);rintro e w5 ⟨Y,hb,rfl,hY,b5⟩;have B5:=bh Bd b5;have t0:=zb b5 c0d;have t1:=zb b5 c1d;have t2:=zb b5 e2d;have h0:=zb (za w5 (.cells #[.string Y.d.nm,.slice Y.UA Y.un Y.uc,.slice Y.NA Y.nn Y.nc] 58)) t0;have h1:=zb (za w5 (.cells #[.string Y.d.nm,.slice Y.UA Y.un Y.uc,.slice Y.NA Y.nn Y.nc] 58)) t1;have h2:=zb (za w5 (.cells #[.string Y.d.nm,.slice Y.UA Y.un Y.uc,.slice Y.NA Y.nn Y.nc] 58)) t2;have u0:=zb (za w5 (.cells #[.string ⟨#[]⟩,.slice none 0 0,.slice none 0 0] 58)) t0;have u1:=zb (za w5 (.cells #[.string ⟨#[]⟩,.slice none 0 0,.slice none 0 0] 58)) t1;have u2:=zb (za w5 (.cells #[.string ⟨#[]⟩,.slice none 0 0,.slice none 0 0] 58)) t2))
 focus
  have B6:=bh B5 (za w5 (.cells #[.string Y.d.nm,.slice Y.UA Y.un Y.uc,.slice Y.NA Y.nn Y.nc] 58));have y2:=(sE w5 (.string Y.d.nm) (.slice Y.UA Y.un Y.uc) (.slice Y.NA Y.nn Y.nc) 58).c2;obtain⟨W6,YG⟩:∃W6,w5.alloc (.cells #[.string Y.d.nm,.slice Y.UA Y.un Y.uc,.slice Y.NA Y.nn Y.nc] 58)=W6:=⟨_,rfl⟩
  obtain⟨cb,hcb⟩:∃cb,w5.heap.size=cb:=⟨_,rfl⟩
  rw [hcb] at y2 ⊢;rw [YG] at y2 B6 ⊢;clear YG hcb t0 t1 t2 h0 h1 h2 u0 u1 u2 B5
 rotate_left
 focus
  have B6:=O (nK B5.o (show w.heap.size<=w.heap.size+1 by omega) (.string Y.d.nm) (.slice Y.UA Y.un Y.uc) (.slice Y.NA Y.nn Y.nc));have y2:=(C5.o.set (.string Y.d.nm) (.slice Y.UA Y.un Y.uc) (.slice Y.NA Y.nn Y.nc)).c2;obtain⟨W6,YG⟩:∃W6,(((w5.setCell ⟨w.heap.size+1,0,none⟩ (.string Y.d.nm)).setCell ⟨w.heap.size+1,1,none⟩ (.slice Y.UA Y.un Y.uc)).setCell ⟨w.heap.size+1,2,none⟩ (.slice Y.NA Y.nn Y.nc))=W6:=⟨_,rfl⟩
  rw [YG] at y2 B6 ⊢;obtain⟨cb,hcb⟩:∃cb,w.heap.size+1=cb:=⟨_,rfl⟩
  rw [hcb] at y2 ⊢;clear YG hcb t0 t1 t2 g0 g1 g2 C5 B5 y0 y1 z0 z1 z2
 rotate_left
 all_goals
  clear KD KX CX Bd Bx c0 c1 e2 c0d c1d e2d c0x c1x e2x b5 B0;rcases hb with _|_
  ·have HR:=O (show RR = .error 3 from HG.o.trans (by rw [hY.1 rfl]));clear hY HG HX y2;go_wp2_with fail;exact⟨rfl,by rw [HR.o];exact jt B6.o⟩
  ·obtain⟨i,hi,hN,Zb⟩:=hY.2 rfl;have kS:x.s.K[i].d∈x.s.k:=List.mem_map.2 ⟨_,List.getElem_mem hi,rfl⟩;obtain⟨g,yx⟩:=HX.o.ok.kds _ kS;obtain⟨-,-,-,-,-,de⟩:=HX.o.s.k.at_ i _ (List.getElem?_eq_getElem hi);have HR:=O (show RR=gm g s b from HG.o.trans (by rw [hN,Zb];simp only;rw [fB yx]));rw [<-Zb] at de yx;obtain⟨d,UA,un,uc,NA,n2,c2⟩:=Y;have n0:=de.ns;dsimp only at n0 yx y2;rw [yx.e] at n0;have hg:=Bt yx;obtain⟨a0,ea0,hn2,-,-⟩:=mL n0;have rJ:=O (show S a0.block from Un.o _ (List.getElem_mem hi) _ (by rw [<-Zb];exact ea0));subst ea0;have hn20:(0:Int)<(n2:Int):=by omega
   have Ru:n2<=4000:=by rw [n0.len,bW];have:=hg.2;omega
   have Ww:=O (λw' (hb:Below w.heap.size w w')=>n0.keep hb);have NP:=O n0;have LF:=O (lR.start (f:=g) hg.1);have YJ:=O (show 1+g.flat.length=n2 by rw [n0.len];simp [Kd.flat];omega);have BL:=B6;obtain rfl:=HR.o;clear HG hN de n0 yx kS HX B6 HR hY Zb;go_wp2_with fail;have Rc:=NP.o.cap;have hmx:=NP.o.max;unfold maxLen at hmx;have UV:=O NP.o.len;go_loopw [11] (λu wr=>∃(q:Nat) (g':Fl),u = .int .i64 q/\Hid (lR (Kd.fs g).flat q g')/\Hid (q+g'.flat.length=n2)/\Hid (gm g s b=gm g' s b)/\Hid (Below w.heap.size w wr)) (λu _=>n2-(intOf u).toNat)
   case atStart=>exact⟨1,g,rfl,LF,YJ,O rfl,BL⟩
   case round =>
    clear LF YJ BL;obtain⟨q,g',rfl,hL,hT,hE,hB⟩:=hrel;by_cases hlt:q<n2
    ·obtain⟨s1,m,k1,r,rfl⟩:∃s1 m k1 r,g' = .cons s1 m k1 r:=by
      cases g' with
      | nil=>have:=hT.o;simp [Fl.flat] at this;omega
      | cons s1 m k1 r=>exact⟨s1,m,k1,r,rfl⟩
     obtain⟨h1,h2⟩:=hL.o.head;have KB:=O (iu (some a0) n2 c2 (Kd.fs g).flat (q+1) k1 wr (Ww.o wr hB.o) Ru h1.over);have hle:q+1+k1.flat.length<=n2:=by rw [UV.o];exact h1.le
     obtain⟨a,ea,d0,d1,d2,d3⟩:=(Ww.o wr hB.o).at_ q _ h1.nd;obtain rfl:a0=a:=Option.some.inj ea;have Mz:=O h1.seg;have Fy:=O h2;have v7:=O (show q+1+k1.flat.length+r.flat.length=n2 by have:=hT.o;simp only [Fl.flat,List.length_cons,List.length_append] at this;omega);have ay:=O (show gm (.cons s1 m k1 r) s b=if s1=s then(if m || b then .ok k1 else gm r s b) else gm r s b by
      obtain⟨⟨x0,v0,v1,v2,v3⟩,-⟩:=hL.o
      unfold gm
      simp only [Fl.find]
      by_cases e:s1=s
      ·subst e
       rw [if_pos rfl,if_pos rfl,CO v3]
      ·rw [if_neg e,if_neg e])
     have cg:=ct k1;simp only [C9] at d0 d1 d2 d3;clear hL hT h1 h2 d0 d3 ea;generalize k1.flat.length=l1 at *;go_wp2_with fail;refine KB.o.mono ?_;rintro e w5 ⟨rfl,b5⟩;have B5:=bh hB b5;have e1:=zb b5 d1;have e2:=zb b5 d2;clear b5 hB d1 d2 KB;have hqi:(q:Int)<(n2:Int):=by omega
     by_cases hs:s1=s
     ·subst hs;rw [if_pos rfl] at ay;by_cases hmb:(m || b)=true
      ·rw [if_pos hmb] at ay;have NS:=tJ (Ww.o w5 B5.o) (i:=q+1) (j:=q+1+l1) (by omega) hle;rw [Mz.o] at NS;have N5:=O NS;have HR:=O (hE.o.trans ay.o);clear hE ay NS;rcases m with _|_
       ·rw [Bool.false_or] at hmb;subst hmb;simp only [Bool.false_eq_true,if_false] at e1;go_wp2_with fail;go_ret;rw [HR.o];exact jj B5.o N5.o (λa e => .inl (by injection e with e;subst e;exact rJ.o))
       ·simp only [if_true] at e1;clear hmb;go_wp2_with fail;go_ret;rw [HR.o];exact jj B5.o N5.o (λa e => .inl (by injection e with e;subst e;exact rJ.o))
      ·rw [if_neg hmb] at ay;have HR:=O (hE.o.trans ay.o);clear hE ay;rcases m with _|_
       ·rw [Bool.false_or] at hmb;obtain rfl:b=false:=by simpa using hmb
        simp only [Bool.false_eq_true,if_false] at e1;clear hmb;go_wp2_with fail;go_roundw
        case rel=>exact⟨q+1+l1,r,by go_num,Fy,v7,HR,B5⟩
        case measure=>simp [intOf];omega
       ·simp at hmb
     ·rw [if_neg hs] at ay;have HR:=O (hE.o.trans ay.o);have f6:(s1.toList==s.toList)=false:=beq_eq_false_iff_ne.2 (λq=>hs (toList_inj q));clear hE ay hs;generalize (if m=true then(1:Int) else 0)=mi at *;go_wp2_with fail;go_roundw
      case rel=>exact⟨q+1+l1,r,by go_num,Fy,v7,HR,B5⟩
      case measure=>simp [intOf];omega
    ·obtain rfl:g' = .nil:=by
      cases g' with
      | nil=>rfl
      | cons s1 m k1 r=>have:=hT.o;simp only [Fl.flat,List.length_cons] at this;omega
     have HR:=O hE.o;clear hL hT hE;go_wp2_with fail;exact⟨rfl,by rw [HR.o];exact jt hB.o⟩
theorem Lb(S:Nat->Prop)(x:Xs)(k:Kd)(s:ByteArray)(b:Bool)(A:Option Addr)(n c:Nat)(w:World)(h:oY w x)(hN:Ns w A n c k.flat)(hk:KOk k)(hA:∀a,A=some a->S a.block)(hS:∀y∈x.s.K,∀a,y.NA=some a->S a.block):
 Calls Tryz.prog 56 #[x.v,.slice A n c,.string s,.bool b] w (jT S w (mS x.t k s b)):=by
 cases k with
 | base o =>
  have hb:ah o:=hk.1
  by_cases wi:o=49
  ·subst wi
   exact Pq S x s b A n c w hA hN
  ·rw [show mS x.t (.base o) s b = .error 2 by unfold mS;exact if_neg wi]
   have e:opN (.base o)=o:=rfl;unfold ah at hb;exact I' S x (.base o) s b A n c w hN (by rw [e];exact wi) (by rw [e];omega) (by rw [e];omega)
 | ent u=>exact TT S x u s b A n c w h hS hN
 | set p=>exact I' S x (.set p) s b A n c w hN (show(45:Int)≠49 by decide) (show(45:Int)≠44 by decide) (show(45:Int)≠46 by decide)
 | fs g=>exact SS S x g s b A n c w hA hN hk
structure fJ(w:World)(B:Nat)(v:Value)(V:List Sl):Prop where
 own:w.ownsRow B 68 1 v V.length (V.map Sl.v)
 each:∀r∈V,Ns w r.A r.n r.c r.P
 apart:∀r∈V,bj r v.ownBlock
theorem fJ.nil(w:World)(B:Nat):fJ w B (.slice none 0 0) []:=⟨World.ownsRow_nil w B _ 1,(by intro r hr;cases hr),(by intro r hr;cases hr)⟩
theorem fJ.keep{w w':World}{B:Nat}{v:Value}{V:List Sl}(h:fJ w B v V)(hb:Below w.heap.size w w'):fJ w' B v V :=
 ⟨h.own.kept (zc hb none) (by cases hv:v.ownBlock <;> simp),λr hr=>(h.each r hr).keep hb,h.apart⟩
theorem fJ.row{w w':World}{B:Nat}{v:Value}{V:List Sl}{g:Option Nat}(h:fJ w B v V)(hg:w.grownBy w' g)(hne:v.ownBlock=none\/v.ownBlock≠g)(ha:∀r∈V,bj r g):fJ w' B v V :=
 ⟨h.own.kept hg hne,λr hr=>(h.each r hr).row hg (ha r hr),h.apart⟩
theorem fJ.snoc{w w':World}{B:Nat}{v v':Value}{V:List Sl}{r:Sl}{o:Obj}(h:fJ w B v V)(hr:Ns w r.A r.n r.c r.P)(ha:bj r v.ownBlock)
 (hown:w'.ownsRow B 68 1 v' (V.length+1) (V.map Sl.v ++ [r.v])) (hg:(w.alloc o).grownBy w' v.ownBlock) (hat:v'.ownBlock=v.ownBlock\/v'.ownBlock=some (w.alloc o).heap.size):fJ w' B v' (V ++ [r]):=by
 have hba:Below w.heap.size w (w.alloc o):=za w o;have hlt:∀x∈V ++ [r],Ns w x.A x.n x.c x.P/\bj x v.ownBlock:=by
  intro x hx;rcases List.mem_append.1 hx with h1|h1
  ·exact⟨h.each x h1,h.apart x h1⟩
  ·simp only [List.mem_cons,List.not_mem_nil,or_false] at h1;subst h1;exact⟨hr,ha⟩
 refine⟨?_,λx hx=>((hlt x hx).1.keep hba).row hg (hlt x hx).2,λx hx h0 a e=>?_⟩
 ·simpa using hown
 ·rcases hat with e'|e'
  ·rw [e'];exact(hlt x hx).2 h0 a e
  ·rw [e'];have:=(hlt x hx).1.at_.lt h0 a e;intro q;injection q with q;simp at q;omega
theorem fJ.at{w:World}{B:Nat}{v:Value}{V:List Sl}(h:fJ w B v V):∃A c,v = .slice A V.length c/\V.length<=c/\jM w A V:=by
 rcases h.own.2 with ⟨rfl,h0⟩|⟨g,cap,cur,rfl,_,_,hc,_⟩
 ·have:V = []:=List.eq_nil_of_length_eq_zero h0;subst this;exact⟨none,0,rfl,Nat.le_refl _,λk r hk=>by simp at hk⟩
 ·refine⟨some ⟨g,0,none⟩,cap,rfl,hc,λk r hk=>⟨_,rfl,?_,h.each r (List.mem_of_getElem? hk)⟩⟩;exact h.own.cells (g:=g) rfl k _ (by rw [List.getElem?_map,hk];rfl)
theorem VQ:(Tryz.prog.info? 68).map (λi=>(i.zero,i.size,i.bytes))=some (some (.slice none 0 0),1,24):=by kernel_rfl
theorem io{ops:Array Oper}{rest:List Oper}{o:Oper}{a:Act}{w:World}{Q:Exit->Act->World->Prop}(hgd:o.guard=none)(s x:Operand)
 (ho:o.op = .call { callee := .builtin .append,args:=#[s,x],argTypes:=#[68,68] })
 (base:Nat) (v:Value) (L:List Nd) (hs:a.eval s=v) (hrow:nZ w base v L) (A:Option Addr) (n c:Nat) (P:List Nd) (hx:a.eval x = .slice A n c) (hP:Ns w A n c P) (h0:0<P.length)
 (hl:L.length+P.length<=1000) (hbase:base<=w.heap.size)
 (h:∀v' w',nZ w' base v' (L ++ P)->Below base w w'->wpList Tryz.prog ops Q rest (a.put o.dst v') w'):wpList Tryz.prog ops Q (o :: rest) a w:=by
 have hi:=kF
 cases hq:Tryz.prog.info? 47 with
 | none=>rw [hq] at hi;cases hi
 | some i0 =>
  rw [hq] at hi
  simp only [Option.map_some,Option.some.injEq,Prod.mk.injEq] at hi
  obtain⟨a2,rfl,-⟩:=hP.at_.nd h0
  have HC:∀j u,(zD P)[j]?=some u->w.cell? (a2.add j)=some u:=hP.at_.cells
  have hn:=hP.len
  refine wpList_append_own w hgd s x _ ho base _ i0 _ 4 48 Tryz.underlying68 hq hi.1 hi.2.1 hi.2.2 (by decide) (by decide) v L.length (zD L) hs hrow.own a2 n c (zD P) hx (by rw [az,hn]) HC (bG _) (by unfold maxLen;omega) (by omega) hbase ?_
  intro v' w' h1 h2 _
  rw [hn,<-aP,<-List.length_append] at h1
  exact h v' w' ⟨h1⟩ ((Below.refl base w).grown h2 hbase (jk hrow.own))
theorem uS{ops:Array Oper}{o:Oper}{a:Act}{w:World}{K:Act->World->Prop}{Q:Exit->Act->World->Prop}{E:Prop}(hgd:o.guard=none)(s x:Operand)
 (ho:o.op = .call { callee := .builtin .append,args:=#[s,x],argTypes:=#[68,68] })
 (base:Nat) (v:Value) (n:Nat) (P Z:List Nd) (hs:a.eval s=v) (hrow:w.ownsRow base 47 4 v n (zD P)) (hn:n=P.length) (ad:Addr) (m c:Nat) (hx:a.eval x = .slice (some ad) m c) (hm:m=Z.length)
 (hnews:∀j u,(zD Z)[j]?=some u->w.cell? (ad.add j)=some u) (hl:0<m/\n+m<=1000000) (hbase:base<=w.heap.size)
 (h:∀A c' w',w'.ownsRow base 47 4 (.slice (some A) (n+m) c') (P ++ Z).length (zD (P ++ Z))->w.grownBy w' v.ownBlock->K (a.put o.dst (.slice (some A) (n+m) c')) w'):
 if Region.wanted o (yielded ops a.tmps)=true then Oper.wp Tryz.prog o a w K Q else E:=by
 have hi:=kF
 cases hq:Tryz.prog.info? 47 with
 | none=>rw [hq] at hi;cases hi
 | some i0 =>
  rw [hq] at hi
  simp only [Option.map_some,Option.some.injEq,Prod.mk.injEq] at hi
  refine step_append_lies w hgd s x _ ho base _ i0 _ 4 48 Tryz.underlying68 hq hi.1 hi.2.1 hi.2.2 (by decide) (by decide) v n (zD P) hs hrow ad m c (zD Z) hx (by rw [az,hm]) hnews (bG _) hl.1 (by unfold maxLen;omega) (by omega) hbase _ rfl ?_
  intro g cap w' h1 h2 h3 h4
  exact h _ _ w' (by rw [aP,List.length_append,<-hn,<-hm];exact h1) h2
theorem Ft{y:Ex}(h:y.valid true):∃fn e,y = .node fn (.cons e .nil)/\fn.op=7/\e.valid false:=by
 obtain⟨fn,ps⟩:=y;obtain⟨h1,h2,h3⟩:=h;unfold bP at h1;rw [Bool.and_eq_true] at h1;have h7:fn.op=7:=by simpa using h1.2
 have hp:zG fn=1:=by unfold zG;simp [h7]
 obtain⟨e,rfl⟩:=Aj (ps:=ps) (by omega);have hr:jG fn=false:=by unfold jG;rw [h7];rfl
 rw [hr] at h3;exact⟨fn,e,rfl,h7,h3.2.1⟩
theorem y9(S:Nat->Prop)(x:Xs)(N:Nat)(ih:KdC S x N)(y:Nd)(ps:Exs)(A:Option Addr)(n c:Nat)(V:List Sl)(p:Option Addr)(G:jl)(w:World)(hx:oY w x)(hy:lk y)(h6:y.n=(ps.len:Int))(hn:n=V.length)(hnc:n<=4000)(hV:jM w A V)(hm:V.map Sl.P=ps.list.map Ex.flat)(hv:ps.valid true emp)(hN:ps.flat.length<=N)(h4:ps.flat.length<=4000)(hF:ll w p G):
 Calls Tryz.prog 53 #[x.v,ndV y,.slice A n c,.pointer p] w (jT S w (fsR (tyF x.t ps G 1))):=by
 have B0:=O (za w x.o);have V0:=O (eH w x);have BN:=za (w.alloc x.o) (.cells #[.int .i64 y.op,.int .i64 y.n,.string y.s,.string y.t] 47);have B1:=bh B0 BN;have V1:=O (V0.o.keep BN);have X1:=O (hx.keep B1.o);have F1:=O (hF.keep B1.o);have S1:=O (hV.keep B1.o);obtain⟨-,y1,-,-,-,-,-,-⟩:=pK (w.alloc x.o) y;have hz:(w.alloc x.o).heap.size=w.heap.size+1:=by simp
 rw [hz] at y1;have IH:=O ih;have fm:=O hn;have HM:=O hm;have wm:=O hv;have II:=O hN;have Fx:=O h4;have H6:=O h6;have ZJ:=O (show -9223372036854775808<=y.n/\y.n<=9223372036854775807 from⟨hy.lo,hy.hi⟩);obtain⟨RR,dA⟩:∃RR,RR=tyF x.t ps G 1:=⟨_,rfl⟩
 rw [<-dA];have eZ:=O dA;unfold KdC at IH;unfold Xs.o at B1 V1 X1 F1 S1 y1;unfold Xs.v at IH ⊢;unfold ndV;clear hx hF hV hn hm hv hN h4 h6 dA B0 V0 BN hz ih;go_enter Tryz.func53,Tryz.ntmps53;go_wp2_with fail;have R0:=O (nZ.one ((w.alloc (.cells #[.slice x.s.KA x.s.kn x.s.kc,.slice x.s.AA x.s.an x.s.ac,.string x.who,.string x.what,.string x.a.d.id,.slice x.a.WA x.a.wn x.a.wc,.slice x.a.TA x.a.tn x.a.tc,.slice x.a.NA x.a.nn x.a.nc] 67)).alloc (.cells #[.int .i64 y.op,.int .i64 y.n,.string y.s,.string y.t] 47)) ⟨46,y.n,emp,emp⟩);have BL:=O (za ((w.alloc (.cells #[.slice x.s.KA x.s.kn x.s.kc,.slice x.s.AA x.s.an x.s.ac,.string x.who,.string x.what,.string x.a.d.id,.slice x.a.WA x.a.wn x.a.wc,.slice x.a.TA x.a.tn x.a.tc,.slice x.a.NA x.a.nn x.a.nc] 67)).alloc (.cells #[.int .i64 y.op,.int .i64 y.n,.string y.s,.string y.t] 47)) (.cells #[.int .i64 46,.int .i64 y.n,.string ⟨#[]⟩,.string ⟨#[]⟩] 47));obtain⟨W1,hW1⟩:∃W1,((w.alloc (.cells #[.slice x.s.KA x.s.kn x.s.kc,.slice x.s.AA x.s.an x.s.ac,.string x.who,.string x.what,.string x.a.d.id,.slice x.a.WA x.a.wn x.a.wc,.slice x.a.TA x.a.tn x.a.tc,.slice x.a.NA x.a.nn x.a.nc] 67)).alloc (.cells #[.int .i64 y.op,.int .i64 y.n,.string y.s,.string y.t] 47))=W1:=⟨_,rfl⟩
 have hz1:W1.heap.size=w.heap.size+1+1:=by rw [<-hW1];simp
 rw [hW1] at R0 BL B1 V1 X1 F1 S1 ⊢;rw [<-hz1];clear hW1 y1;have hlw:w.heap.size<W1.heap.size:=by omega
 clear hz1;go_loopw [9,18] (λout i wr=>∃(j:Nat) (L:List (ByteArray × Kd)) (r:Exs) (A0:Option Addr) (m0 k0:Nat) (s:ByteArray),i = .int .i64 j/\j<=n/\out = .slice A0 m0 k0/\L.length=j/\Hid (nZ wr W1.heap.size out (gn y.n L))/\Hid (RR=Cs L (tyF x.t r G (gn y.n L).length))/\Hid ((V.drop j).map Sl.P=r.list.map Ex.flat)/\Hid (r.valid true s)/\Hid (r.flat.length<=N/\r.flat.length<=4000)/\Hid ((gn y.n L).length<=200)/\Hid (Below W1.heap.size W1 wr)) (λ_ i _=>n-(intOf i).toNat)
 case atStart=>exact⟨0,[],ps,_,_,_,emp,rfl,Nat.zero_le _,rfl,rfl,R0,O (by rw [NW];exact eZ.o),O (by simpa using HM.o),wm,O ⟨II.o,Fx.o⟩,O (by simp [gn,kH,Fl.flat]),BL⟩
 case round =>
  clear R0 BL;obtain⟨j,L,r,A0,m0,k0,s,rfl,hj,rfl,hL,hR,hE,hD,hv,hsz,ci,hB⟩:=hrel;by_cases hlt:j<n
  ·have yB:j<V.length:=by rw [<-fm.o];exact hlt
   obtain⟨a,ea,q0,n0⟩:=S1.o.at yB;replace q0:=zb hB.o q0;have hdr:V.drop j=V[j] :: V.drop (j+1):=List.drop_eq_getElem_cons yB;obtain⟨y',r',rfl⟩:∃y' r',r = .cons y' r':=by
    cases r with
    | nil=>have h0:=congrArg List.length hD.o;rw [hdr] at h0;simp only [Exs.list,List.map_nil,List.map_cons,List.length_cons,List.length_nil] at h0;omega
    | cons y' r'=>exact⟨y',r',rfl⟩
   have Ws:=hD.o;rw [hdr] at Ws;simp only [List.map_cons,Exs.list,List.cons.injEq] at Ws;obtain⟨hP,Yr⟩:=Ws;have HDD:=O Yr;obtain⟨-,hvy,XI⟩:=hv.o;have HVR:=O XI;obtain⟨fn,e0,rfl,h7,WY⟩:=Ft hvy;have HVE:=O WY;rw [hP] at n0;subst ea;generalize V[j]=p0 at *;have oI:(Ex.node fn (.cons e0 .nil)).flat=fn :: e0.flat:=by simp [Ex.flat,Exs.flat]
   rw [oI] at n0;have HS:=hsz.o;simp only [Exs.flat,List.length_append,oI,List.length_cons] at HS;have Wb:=O (show r'.flat.length<=N/\r'.flat.length<=4000 by omega);have HEN:=O (show e0.flat.length<=N/\e0.flat.length<=4000 by omega);have HTF:=O (show pF x.t (.node fn (.cons e0 .nil)) G=tyX x.t e0 G by simp only [pF,dU]);obtain⟨a0,ea0,-,-,d2,-⟩:=n0.at_ 0 fn rfl;rw [show a0.add (0*4)=a0 from rfl] at d2;replace d2:=zb hB.o d2;have hfs:fn.s.size<=maxLen:=(n0.ok fn (by simp)).s;rw [ea0] at q0;have N0:=O n0;rw [ea0] at N0;have hp1':1<=p0.n:=by rw [n0.len];simp
   have lp:=O (show p0.n-1=e0.flat.length by rw [n0.len];simp);have hpc:=n0.cap;have hpm:=n0.max;unfold maxLen at hpm;have eY:(0:Int)<(p0.n:Int):=by omega
   have hni:(1:Int)<=(p0.n:Int):=by omega
   have hcne:p0.c≠1:=by have:=jq e0;have:=lp.o;omega
   have hp10:0<p0.n:=by omega
   have NL:=O (nT wr ⟨47,1,fn.s,emp⟩ ⟨hfs,Nat.zero_le _,by show _<=(1:Int);decide,by show(1:Int)<=_;decide⟩);have bl:=za wr (.cells #[.int .i64 47,.int .i64 1,.string fn.s,.string ⟨#[]⟩] 47);have RL:=O (hR.o.keep bl);have BX:=bh hB bl;have h2:=ci.o;have UT:=BX.o.size;rw [World.size_alloc] at UT;clear hD hv hvy XI WY hP Yr hdr n0 ea0 HS hsz bl h7;go_wp2_with (at_builtin;refine io rfl _ _ rfl W1.heap.size _ _ rfl RL.o _ _ _ [⟨47,1,fn.s,emp⟩] rfl NL.o (by simp) ?c1 ?c2 ?_)
   case c1=>omega
   intro v2 w2 hR2 hb2;obtain⟨A2,c2,e2,-,-,-⟩:=aM hR2.own;subst e2;have M7:=O (show(gn y.n L ++ [(⟨47,1,fn.s,emp⟩:Nd)]).length=(gn y.n L).length+1 by simp);obtain⟨m2,sN⟩:∃m2,m2=(gn y.n L ++ [(⟨47,1,fn.s,emp⟩:Nd)]).length:=⟨_,rfl⟩
   rw [<-sN] at hR2 M7 ⊢;have Fy:=O sN;have B2:=O (BX.o.trans hb2);have hm2l:m2<=201:=by rw [M7.o];omega
   clear hb2 sN BX RL NL UT hB hR d2 q0;go_wp2_with fail;have bd:=cn w2;have B3:=O (B2.o.trans (bd.mono B2.o.size));have hHeld:(λw':World=>Vst w' w.heap.size x) w2.drew:=V1.o.keep B3.o;have R3:=O (hR2.keep bd);have KI:=O (IH.o _ _ _ e0 p G w2.drew (X1.o.keep B3.o) (yL (N0.o.keep B3.o)) (by rw [lp.o];exact HEN.o.2) HVE.o (by rw [lp.o];exact HEN.o.1) (F1.o.keep B3.o));clear bd hR2 B2;refine a8 (λw':World=>Vst w' w.heap.size x) 9 (by kernel_rfl) hHeld (λhHeld=>?_);refine ji 0 (.slice A2 m2 c2) rfl (λw' hSw=>?_) hHeld ?_
   ·obtain⟨s0,s1,s2,s3,s4,s5,s6,s7⟩:=hSw;go_simp
   refine ji 1 (.agg #[.slice x.s.KA x.s.kn x.s.kc,.slice x.s.AA x.s.an x.s.ac,.string x.who,.string x.what,.string x.a.d.id,.slice x.a.WA x.a.wn x.a.wc,.slice x.a.TA x.a.tn x.a.tc,.slice x.a.NA x.a.nn x.a.nc]) rfl (λw' hSw=>?_) hHeld ?_
   ·obtain⟨s0,s1,s2,s3,s4,s5,s6,s7⟩:=hSw;go_simp
   refine ji 2 (.slice (some a0) p0.n p0.c) rfl (λw' hSw=>?_) hHeld ?_
   ·obtain⟨s0,s1,s2,s3,s4,s5,s6,s7⟩:=hSw;go_simp
   refine ji 3 (.slice (some (a0.add 4)) (p0.n-1) (p0.c-1)) rfl (λw' hSw=>?_) hHeld ?_
   ·obtain⟨s0,s1,s2,s3,s4,s5,s6,s7⟩:=hSw;go_simp
   refine ji 4 (.pointer p) rfl (λw' hSw=>?_) hHeld ?_
   ·obtain⟨s0,s1,s2,s3,s4,s5,s6,s7⟩:=hSw;go_simp
   refine zA (i:=5) (by kernel_rfl) rfl (λK' hK'=>?_);go_simp;rcases qk:tyX x.t e0 G with u|k
   ·rw [qk] at KI;refine KI.o.mono ?_;intro e w5 h5;obtain⟨rfl,b5⟩:=dI h5;have B5:=O (B3.o.trans (b5.mono B3.o.size));clear b5 h5;go_wp2_with fail;exact⟨rfl,by rw [show RR = .error u from hE.o.trans (PM (HTF.o.trans qk))];exact jt (bh B1 B5.o).o⟩
   rw [qk] at KI;refine KI.o.mono ?_;intro e w5 h5;obtain⟨A5,n5,m5,rfl,JK,b5,l5⟩:=bM h5;have B5:=O (B3.o.trans (b5.mono B3.o.size));have R5:=O (R3.o.keep b5);have N5:=O JK;have hk:=nj X1.o.ok e0 false G HVE.o;rw [qk] at hk;have HK:=O (show KOk k from hk);have hHeld5:(λw':World=>Vst w' w.heap.size x) w5:=V1.o.keep B5.o;clear h5 JK b5 l5 R3 KI B3 hk hHeld;go_wp2_with fail;refine hK'.out _ _ (λ_=>hHeld5) ?_;clear hK' K';obtain⟨a5,rfl,-,-,-⟩:=mL N5.o;have hn5:n5=k.sz:=by rw [N5.o.len,bW]
   have hk200:k.sz<=200:=HK.o.2;have hkp:0<n5:=by rw [N5.o.len];exact ct k
   have UW:=O hn5;have hn5l:n5<=200:=by omega
   have R5m:=R5.o.own;rw [<-Fy.o] at R5m;clear hn5;refine zA (i:=6) (by kernel_rfl) rfl (λK' hK'=>?_);refine uS rfl (.tmp 30) (.tmp 35) rfl W1.heap.size _ m2 (gn y.n L ++ [(⟨47,1,fn.s,emp⟩:Nd)]) k.flat rfl R5m Fy.o a5 n5 m5 rfl N5.o.len N5.o.at_.cells ⟨hkp,by omega⟩ B5.o.size ?_;intro A6 c6 w6 hown hgrow;have B6:=O (B5.o.grown hgrow B5.o.size (jk R5.o.own));have hHeld6:(λw':World=>Vst w' w.heap.size x) w6:=V1.o.keep B6.o;have R6:=O hown;clear hown hgrow B5 R5 R5m N5 hHeld5;refine hK'.out _ _ (λ_=>hHeld6) ?_;clear hK' K';refine zA (i:=7) (by kernel_rfl) rfl (λK' hK'=>?_);go_simp;have KF:=O (Cn (some A6) (m2+n5) c6 w6 (by omega));by_cases g:200<m2+n5
   ·rw [if_pos g] at KF;have HG:=O (show RR = .error 4 from hE.o.trans (Qc (HTF.o.trans qk) (by rw [<-M7.o,<-UW.o];exact g)));refine KF.o.mono ?_;rintro e w7 ⟨rfl,b7⟩;have B7:=O (B6.o.trans (b7.mono B6.o.size));clear b7;go_wp2_with fail;exact⟨rfl,by rw [HG.o];exact jt (bh B1 B7.o).o⟩
   rw [if_neg g] at KF;have hEE:=hE.o.trans (TM (HTF.o.trans qk) (by rw [<-M7.o,<-UW.o];exact g));have hlen:(gn y.n (L ++ [(fn.s,k)])).length=m2+n5:=by rw [Eu,<-M7.o,<-UW.o]
   rw [show(gn y.n L).length+1+k.sz=(gn y.n (L ++ [(fn.s,k)])).length by rw [Eu]] at hEE;have ZI:=O (show RR=Cs (L ++ [(fn.s,k)]) (tyF x.t r' G (gn y.n (L ++ [(fn.s,k)])).length) from hEE);have H27:=O (show(gn y.n (L ++ [(fn.s,k)])).length<=200 by rw [hlen];omega);have hL7:(L ++ [(fn.s,k)]).length=j+1:=by simp [hL]
   have R7:=O (show nZ w6 W1.heap.size (.slice (some A6) (m2+n5) c6) (gn y.n (L ++ [(fn.s,k)])) from⟨by rw [xP];exact R6.o⟩);clear hEE hlen M7 Fy R6;refine KF.o.mono ?_;rintro e w7 ⟨rfl,b7⟩;have B7:=O (B6.o.trans (b7.mono B6.o.size));have R8:=O (R7.o.keep b7);have hHeld7:(λw':World=>Vst w' w.heap.size x) w7:=V1.o.keep B7.o;clear b7 B6 R7 hHeld6 KF;go_wp2_with fail;refine hK'.out _ _ (λ_=>hHeld7) ?_;clear hK' K';refine zA (i:=8) (by kernel_rfl) rfl (λK' hK'=>?_);go_simp;refine hK'.out _ _ (λ_=>hHeld7) ?_;clear hK' K' hHeld7;refine jR (by kernel_rfl) ?_;go_wp2_with fail;go_roundw
   case rel=>exact⟨j+1,_,r',some A6,m2+n5,c6,fn.s,by go_num,hlt,rfl,hL7,R8,ZI,HDD,HVR,Wb,H27,B7⟩
   case measure=>simp [intOf];omega
  ·have hjn:j=n:=by omega
   have YN:r = .nil:=by
    have h0:=congrArg List.length hD.o;rw [List.length_map,List.length_map,List.length_drop,<-fm.o,hjn,Nat.sub_self] at h0
    cases r with
    | nil=>rfl
    | cons y' r'=>simp [Exs.list] at h0
   subst YN;have hLp:L.length=ps.len:=by
    have h0:=congrArg List.length HM.o;rw [List.length_map,List.length_map,mh] at h0;rw [hL,hjn,fm.o,h0]
   have dA:RR = .ok (kH L .nil):=hE.o.trans rfl;have ZH:gn y.n L=(Kd.fs (kH L .nil)).flat:=Oh (by rw [H6.o,hLp]);have hf:=Am X1.o.ok ps emp G 1 (by decide) wm.o;rw [<-eZ.o,dA] at hf;have YZ:=hR.o;rw [ZH] at YZ;obtain⟨A9,n9,c9,e9,N9⟩:=YZ.ns (by rw [<-ZH];have:=ci.o;omega) (Kd.valid.nds (show(Kd.fs (kH L .nil)).valid from hf.1) (by have:=hf.2;simp only [Kd.sz];omega));have H9:=O N9;have HQ:=O dA;have HOB:=O (λg hg=>jk YZ.own g hg);have BB:=bh B1 hB.o;injection e9 with q1 q2 q3;subst q1 q2 q3;clear hE hD hv hsz hR hB YZ N9 hf ZH hLp dA;go_wp2_with fail;go_ret;rw [HQ.o];exact jj BB.o H9.o (λa e => .inr (by subst e;exact Nat.le_trans B1.o.size (HOB.o _ rfl)))
end Go.Proofs.YthifljpkgfpkiaaGreatDoor
