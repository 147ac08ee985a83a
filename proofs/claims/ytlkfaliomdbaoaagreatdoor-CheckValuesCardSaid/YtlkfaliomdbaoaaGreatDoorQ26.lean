/-
  check's kindOf: what all ops have in common; And, If. (gen_chkkd.py) kinds.find: the field of a name, by halves. kinds.below: is a type below another one. ..
-/
import Derived.Test.YtlkfaliomdbaoaaGreatDoorQ2
import Derived.Test.YtlkfaliomdbaoaaGreatDoorQ3
import Derived.Test.YtlkfaliomdbaoaaGreatDoorQ10
import Derived.Test.YtlkfaliomdbaoaaGreatDoorQ12
import Derived.Test.YtlkfaliomdbaoaaGreatDoorQ19
import Derived.Test.YtlkfaliomdbaoaaGreatDoorQ21
import Derived.Test.YtlkfaliomdbaoaaGreatDoorQ22
import Derived.Test.YtlkfaliomdbaoaaGreatDoorQ25
set_option maxRecDepth 100000
set_option maxHeartbeats 4000000
namespace Go.Proofs.YtlkfaliomdbaoaaGreatDoor
open Go.RowKit Go.Wk Go.Sort
def KdC(S:Nat→Prop)(x:Xs)(N:Nat):Prop:=∀(A:Option Addr) (n c:Nat) (e:Ex) (p:Option Addr) (G:zW) (w:World),zef w x→Ns w A n c e.flat→n≤4000→e.valid false→n≤N→zcI w p G→
 Calls Tryz.prog 24 #[x.v,.slice A n c,.pointer p] w (ji S w (tyX x.t e G))
theorem zel(w:World)(y:Nd):Bx4 (w.alloc (.cells #[.int .i64 y.op,.int .i64 y.n,.string y.s,.string y.t] 40)) w.heap.size (.int .i64 y.op) (.int .i64 y.n) (.string y.s) (.string y.t):=za9 w _ _ _ _ _
theorem zpI(S:Nat→Prop)(x:Xs)(N:Nat)(ih:KdC S x N)(A:Option Addr)(n c:Nat)(y:Nd)(ps:Exs)(p:Option Addr)(G:zW)(w:World)(hx:zef w x)(h:Ns w A n c (Ex.node y ps).flat)(hn:n≤4000)(hv:(Ex.node y ps).valid false)(hN:n≤N+1)(hF:zcI w p G)(hop:y.op=11)(a b:Ex)(hps:ps = .cons a (.cons b .nil)):
 Calls Tryz.prog 24 #[x.v,.slice A n c,.pointer p] w (ji S w (zea x.t ps G)):=by
 have B0:=hi9 (za w x.o);have V0:=hi9 (zaZ w x);have X0:=hi9 hx;have F0:=hi9 hF;have CK:=hi9 (fun w' (hb:Below w.heap.size w w')=>zb8 A n c (.node y ps) false w' (h.keep hb) hn hv);have HLN:=hi9 (show n=ps.flat.length+1 by rw [h.len];simp [Ex.flat]);have HVP:=hi9 hv.2.2;have IH:=hi9 ih;have HN4:=hi9 hn;have HNN:=hi9 hN;subst hps;obtain⟨yo,yn,ys,yt⟩:=y;dsimp only at hop;subst hop;unfold Xs.o at B0 V0;unfold KdC at IH;unfold Xs.v at IH ⊢;simp only [Ex.head,Ex.parts,ndV] at CK;obtain⟨RR,hRR⟩:∃RR,RR=zea x.t (.cons a (.cons b .nil)) G:=⟨_,rfl⟩
 rw [←hRR];have HRR:=hi9 hRR;clear hx hF h hn hv hN ih hRR;go_enter Tryz.func24,Tryz.ntmps24;go_wp2_with fail;refine(CK.out _ B0.out).mono ?_;rintro e w1 ⟨A',c',V,rfl,hc,hS,hm,b1⟩;obtain⟨r,hr,⟨⟨A1,rfl,q0⟩,N0⟩⟩:=zbB hS hm (k:=0) (x:=a) rfl;obtain⟨r',hr',⟨⟨A2,e2,q2⟩,N2⟩⟩:=zbB hS hm (k:=1) (x:=b) rfl;obtain rfl:A1=A2:=Option.some.inj e2;rw [show A1.add 0=A1 from rfl] at q0;have hV:1<V.length:=by rw [List.getElem?_eq_some_iff] at hr';exact hr'.1
 have hV1:(1:Int)<(V.length:Int):=by omega
 have hV0:(0:Int)<(V.length:Int):=by omega
 have hV00:0<V.length:=by omega
 generalize V.length=m at *;have bN:=za w1 (.cells #[.int .i64 11,.int .i64 yn,.string ys,.string yt] 40);have b2:=b1.trans (bN.mono b1.size);have B2:=bh B0 b2;have V2:=hi9 (V0.out.keep b2);have F2:=hi9 (F0.out.keep B2.out);have X2:=hi9 (X0.out.keep B2.out);have Q0:=hi9 (zb bN q0);have Q2:=hi9 (zb bN q2);have M0:=hi9 (N0.keep bN);have M2:=hi9 (N2.keep bN);obtain⟨y0,-,-,-,-,-,-,-⟩:=zel w1 ⟨11,yn,ys,yt⟩;dsimp only at y0;clear hS hm b1 b2 bN N0 N2 hr hr' e2 B0 V0 F0 X0 CK hc;have pa:=zV a;have pb:=zV b;have hLN:a.flat.length+b.flat.length+1=n:=by have:=HLN.out;simp [Exs.flat] at this;omega
 have hra:r.n=a.flat.length:=M0.out.len;have hrb:r'.n=b.flat.length:=M2.out.len;have hn4:=HN4.out;have hnN:=HNN.out;have HA:=hi9 (show r.n≤4000∧r.n≤N by omega);have HB:=hi9 (show r'.n≤4000∧r'.n≤N by omega);obtain⟨-,va,-,vb,-⟩:=HVP.out;have HVA:=hi9 va;have HVB:=hi9 vb;clear pa pb hLN hra hrb hn4 hnN va vb HLN HN4 HNN HVP;go_wp2_with fail;obtain⟨w2,hw2⟩:∃w2,w1.alloc (.cells #[.int .i64 11,.int .i64 yn,.string ys,.string yt] 40)=w2:=⟨_,rfl⟩
 rw [hw2] at B2 V2 F2 X2 Q0 Q2 M0 M2 ⊢;clear hw2 y0;obtain⟨c0,c1,c2,c3,c4,c5,c6,c7⟩:=V2.out;have q0:=Q0.out;have q2:=Q2.out;have kc0:=cell_regrown c0;have kc1:=cell_regrown c1;have kc2:=cell_regrown c2;have kc3:=cell_regrown c3;have kc4:=cell_regrown c4;have kc5:=cell_regrown c5;have kc6:=cell_regrown c6;have kc7:=cell_regrown c7;have kq0:=cell_regrown q0;refine zaD (l := [_,_,_,_,_]) [0,1,2,3,4] 5 2 (by kernel_rfl) (by kernel_rfl) rfl (fun w'=>∃p:Regrown,w'=grow (redrawn w2 p.d) p.os) ⟨⟨w2.drawn+1,#[]⟩,by rw [grow_empty];rfl⟩ ?_
 repeat (first|go_big_quiet_step (fail)|quiet_step (fail))
 refine wpQuiet_nil ?_;rintro w2d ⟨⟨dd,os⟩,rfl⟩;have bd:=below_regrown w2 dd os;generalize grow (redrawn w2 dd) os=w2d at *;clear kc0 kc1 kc2 kc3 kc4 kc5 kc6 kc7 kq0;refine zq (i:=5) (by kernel_rfl) rfl (fun K' hK'=>?_);go_simp;have KA:=hi9 (IH.out _ _ _ a p G w2d (X2.out.keep bd) (M0.out.keep bd) HA.out.1 HVA.out HA.out.2 (F2.out.keep bd));have BD:=bh B2 bd;rcases qa:tyX x.t a G with u|ka
 ·rw [qa] at KA;clear c0 c1 c2 c3 c4 c5 c6 c7 q0 q2;refine KA.out.mono ?_;intro e w3 h3;obtain⟨rfl,b3⟩:=zaJ h3;have B3:=bh BD b3;clear b3 h3;go_wp2_with fail;exact⟨rfl,by rw [show RR = .error u from HRR.out.trans (by unfold zea;rw [qa])];exact zQ B3.out⟩
 rw [qa] at KA;have hka:KOk ka:=by have:=zd7 X2.out.ok a false G HVA.out;rw [qa] at this;exact this
 refine KA.out.mono ?_;intro e w3 h3;obtain⟨A3,n3,m3,rfl,hN3,b3,l3⟩:=jM h3;have bb:=bd.trans (b3.mono bd.size);have B3:=bh B2 bb;have V3:=hi9 (V2.out.keep bb);have X3:=hi9 (X2.out.keep bb);have F3:=hi9 (F2.out.keep bb);have P0:=hi9 (zb bb Q0.out);have P2:=hi9 (zb bb Q2.out);have L0:=hi9 (M0.out.keep bb);have L2:=hi9 (M2.out.keep bb);have NA:=hi9 hN3;clear h3 hN3 b3 l3 bb bd BD B2 V2 X2 F2 Q0 Q2 M0 M2 KA c0 c1 c2 c3 c4 c5 c6 c7 q0 q2;go_wp2_with fail;refine hK'.out _ _ (fun _=>trivial) ?_;clear hK' K'
 try simp only [Act.put,List.setIfInBounds_toArray,List.set_cons_zero,List.set_cons_succ]
 refine zq (i:=6) (by kernel_rfl) rfl (fun K' hK'=>?_);go_simp;refine hK'.out _ _ (fun _=>trivial) ?_;clear hK' K';refine jv (by kernel_rfl) ?_;go_wp2_with fail;have bd:=jZ w3;have hHeld:(fun w':World=>Vst w' w.heap.size x∧w'.cell? A1=some (.slice r.A r.n r.c)∧w'.cell? ⟨A1.block,A1.off+1,none⟩=some (.slice r'.A r'.n r'.c)) w3.drew:=⟨V3.out.keep bd,zb bd P0.out,zb bd P2.out⟩
 have KE:=hi9 (zcv r.n r.A r.n r.c a false p G w3.drew (L0.out.keep bd) HA.out.1 HVA.out (Nat.le_refl _) (F3.out.keep bd));have BD3:=bh B3 bd;have X4:=hi9 (X3.out.keep bd);have L4:=hi9 (L2.out.keep bd);have NA4:=hi9 (NA.out.keep bd);clear bd;refine zac (fun w':World=>Vst w' w.heap.size x∧w'.cell? A1=some (.slice r.A r.n r.c)∧w'.cell? ⟨A1.block,A1.off+1,none⟩=some (.slice r'.A r'.n r'.c)) 11 (by kernel_rfl) hHeld (fun hHeld=>?_);refine zw (i:=0) (v := .agg #[.slice x.s.KA x.s.kn x.s.kc,.slice x.s.AA x.s.an x.s.ac,.string x.who,.string x.what,.string x.a.d.id,.slice x.a.WA x.a.wn x.a.wc,.slice x.a.TA x.a.tn x.a.tc,.slice x.a.NA x.a.nn x.a.nc]) rfl (by kernel_rfl) (by kernel_rfl) (by kernel_rfl) (Nat.le_refl _) (fun _ _ _ h=>h) (.inl ⟨by rfl,fun w' hSw=>?_⟩) hHeld ?_
 ·obtain⟨⟨s0,s1,s2,s3,s4,s5,s6,s7⟩,t0,t1⟩:=hSw;go_simp
 refine zw (i:=1) (v := .slice (some A1) m c') rfl (by kernel_rfl) (by kernel_rfl) (by kernel_rfl) (Nat.le_refl _) (fun _ _ _ h=>h) (.inl ⟨by rfl,fun w' hSw=>?_⟩) hHeld ?_
 ·obtain⟨⟨s0,s1,s2,s3,s4,s5,s6,s7⟩,t0,t1⟩:=hSw;go_simp
 refine zw (i:=2) (v := .pointer (some ⟨A1.block,A1.off+1,none⟩)) rfl (by kernel_rfl) (by kernel_rfl) (by kernel_rfl) (Nat.le_refl _) (fun _ _ _ h=>h) (.inl ⟨by rfl,fun w' hSw=>?_⟩) hHeld ?_
 ·obtain⟨⟨s0,s1,s2,s3,s4,s5,s6,s7⟩,t0,t1⟩:=hSw;go_simp
 refine zw (i:=3) (v := .slice r'.A r'.n r'.c) rfl (by kernel_rfl) (by kernel_rfl) (by kernel_rfl) (Nat.le_refl _) (fun _ _ _ h=>h) (.inl ⟨by rfl,fun w' hSw=>?_⟩) hHeld ?_
 ·obtain⟨⟨s0,s1,s2,s3,s4,s5,s6,s7⟩,t0,t1⟩:=hSw;go_simp
 refine zw (i:=4) (v := .slice (some A1) m c') rfl (by kernel_rfl) (by kernel_rfl) (by kernel_rfl) (Nat.le_refl _) (fun _ _ _ h=>h) (.inl ⟨by rfl,fun w' hSw=>?_⟩) hHeld ?_
 ·obtain⟨⟨s0,s1,s2,s3,s4,s5,s6,s7⟩,t0,t1⟩:=hSw;go_simp
 refine zw (i:=5) (v := .pointer (some A1)) rfl (by kernel_rfl) (by kernel_rfl) (by kernel_rfl) (Nat.le_refl _) (fun _ _ _ h=>h) (.inl ⟨by rfl,fun w' hSw=>?_⟩) hHeld ?_
 ·obtain⟨⟨s0,s1,s2,s3,s4,s5,s6,s7⟩,t0,t1⟩:=hSw;go_simp
 refine zw (i:=6) (v := .slice r.A r.n r.c) rfl (by kernel_rfl) (by kernel_rfl) (by kernel_rfl) (Nat.le_refl _) (fun _ _ _ h=>h) (.inl ⟨by rfl,fun w' hSw=>?_⟩) hHeld ?_
 ·obtain⟨⟨s0,s1,s2,s3,s4,s5,s6,s7⟩,t0,t1⟩:=hSw;go_simp
 refine zw (i:=7) (v := .pointer p) rfl (by kernel_rfl) (by kernel_rfl) (by kernel_rfl) (Nat.le_refl _) (fun _ _ _ h=>h) (.inl ⟨by rfl,fun w' hSw=>?_⟩) hHeld ?_
 ·obtain⟨⟨s0,s1,s2,s3,s4,s5,s6,s7⟩,t0,t1⟩:=hSw;go_simp
 refine zq (i:=8) (by kernel_rfl) rfl (fun K' hK'=>?_);go_simp;refine KE.out.mono ?_;rintro e w4 ⟨q4,rfl,hF4,b4⟩;have B4:=bh BD3 b4;have F4:=hi9 hF4;have X5:=hi9 (X4.out.keep b4);have L5:=hi9 (L4.out.keep b4);have NA5:=hi9 (NA4.out.keep b4);have hHeld4:(fun w':World=>Vst w' w.heap.size x∧w'.cell? A1=some (.slice r.A r.n r.c)∧w'.cell? ⟨A1.block,A1.off+1,none⟩=some (.slice r'.A r'.n r'.c)) w4:=⟨hHeld.1.keep b4,zb b4 hHeld.2.1,zb b4 hHeld.2.2⟩
 clear hF4 b4 BD3 X4 L4 NA4 KE V3 X3 F3 P0 P2 L0 L2 NA B3 hHeld;go_wp2_with fail;refine hK'.out _ _ (fun _=>hHeld4) ?_;clear hK' K';have KB:=hi9 (IH.out _ _ _ b q4 (zb7 a G) w4 X5.out L5.out HB.out.1 HVB.out HB.out.2 F4.out);refine zq (i:=9) (by kernel_rfl) rfl (fun K' hK'=>?_);go_simp;have BD:=B4;rcases qb:tyX x.t b (zb7 a G) with u|kb
 ·rw [qb] at KB;refine KB.out.mono ?_;intro e w5 h5;obtain⟨rfl,b5⟩:=zaJ h5;have B5:=bh BD b5;clear b5 h5;go_wp2_with fail;exact⟨rfl,by rw [show RR = .error u from HRR.out.trans (by unfold zea zbw;rw [qa];simp only;rw [qb])];exact zQ B5.out⟩
 rw [qb] at KB;refine KB.out.mono ?_;intro e w5 h5;obtain⟨A5,n5,m5,rfl,hN5,b5,l5⟩:=jM h5;have B5:=bh B4 b5;have NA6:=hi9 (NA5.out.keep b5);have NB:=hi9 hN5;have hHeld5:(fun w':World=>Vst w' w.heap.size x∧w'.cell? A1=some (.slice r.A r.n r.c)∧w'.cell? ⟨A1.block,A1.off+1,none⟩=some (.slice r'.A r'.n r'.c)) w5:=⟨hHeld4.1.keep b5,zb b5 hHeld4.2.1,zb b5 hHeld4.2.2⟩
 clear h5 hN5 b5 l5 BD B4 X5 L5 NA5 F4 KB hHeld4 IH;go_wp2_with fail;refine hK'.out _ _ (fun _=>hHeld5) ?_;clear hK' K';refine zq (i:=10) (by kernel_rfl) rfl (fun K' hK'=>?_);go_simp;refine hK'.out _ _ (fun _=>hHeld5) ?_;refine jv (by kernel_rfl) ?_;clear hK' K' hHeld5;have HRX:=hi9 (show RR=if zB [41] ka && zB [41] kb then .ok (.base 41) else .error 2 from HRR.out.trans (by unfold zea zbw;rw [qa];simp only;rw [qb]));clear HRR qa qb;have bx1:=zC w5 (.cells #[.int .i64 41] 3);have BX1:=bh B5 bx1;have KM1:=hi9 (zY (d:=1) [41] (NA6.out.keep bx1) rfl (by decide) (jr w5 41 3));have NB1:=hi9 (NB.out.keep bx1);clear bx1 NB NA6 B5;by_cases g1:zB [41] ka=true
 case neg =>
  rw [if_neg g1] at KM1;have HF:=hi9 (show RR = .error 2 by rw [HRX.out,if_neg (fun q=>g1 (by rw [Bool.and_eq_true] at q;exact q.1))]);clear g1 HRX;go_wp2_with fail;refine KM1.out.mono ?_;rintro e w6 ⟨rfl,b6⟩;have B6:=bh BX1 b6;clear b6 KM1 BX1 NB1;go_wp2_with fail;exact⟨rfl,by rw [HF.out];exact zQ B6.out⟩
 rw [if_pos g1] at KM1;have G1:=hi9 g1;clear g1;go_wp2_with fail;refine KM1.out.mono ?_;rintro e w6 ⟨rfl,b6⟩;have B6:=bh BX1 b6;have NB6:=hi9 (NB1.out.keep b6);clear b6 KM1 BX1 NB1;have bx2:=zC w6 (.cells #[.int .i64 41] 3);have BX2:=bh B6 bx2;have KM2:=hi9 (zY (d:=1) [41] (NB6.out.keep bx2) rfl (by decide) (jr w6 41 3));clear bx2 NB6 B6;by_cases g2:zB [41] kb=true
 case neg =>
  rw [if_neg g2] at KM2;have HF:=hi9 (show RR = .error 2 by rw [HRX.out,if_neg (fun q=>g2 (by rw [Bool.and_eq_true] at q;exact q.2))]);clear g2 HRX;go_wp2_with fail;refine KM2.out.mono ?_;rintro e w7 ⟨rfl,b7⟩;have B7:=bh BX2 b7;clear b7 KM2 BX2;go_wp2_with fail;exact⟨rfl,by rw [HF.out];exact zQ B7.out⟩
 rw [if_pos g2] at KM2;have HT:=hi9 (show RR = .ok (.base 41) by rw [HRX.out,G1.out,g2];rfl);clear g2 HRX G1;go_wp2_with fail;refine KM2.out.mono ?_;rintro e w7 ⟨rfl,b7⟩;have B7:=bh BX2 b7;clear b7 KM2 BX2;go_wp2_with fail;refine(zaC (S:=S) (o:=41) (s:=emp) (k := .base 41) (w:=w7) rfl (by decide)).mono ?_;intro e w8 h8;obtain⟨A8,n8,m8,rfl,hN8,b8,l8⟩:=jM h8;have B8:=bh B7 b8;have N8:=hi9 hN8;have HL:=hi9 (jx B7.out l8);clear h8 hN8 b8 B7 l8;go_wp2_with fail;go_ret;rw [HT.out];exact zJ B8.out N8.out HL.out
theorem jL{w:World}{B:Nat→Prop}{k:Kd}{v:List Value}(h:KAt w B k v):∃(o n:Int) (s t:ByteArray) (p:Option Addr) (A:Option Addr) (m c:Nat),v = [.int .i64 o,.int .i64 n,.string s,.string t,.pointer p,.slice A m c]:=by
 cases k with
 | base x=>obtain⟨_,rfl⟩:=h;exact⟨_,_,_,_,_,_,_,_,rfl⟩
 | ent s=>obtain⟨_,rfl⟩:=h;exact⟨_,_,_,_,_,_,_,_,rfl⟩
 | set q=>obtain⟨_,_,_,rfl,_⟩:=h;exact⟨_,_,_,_,_,_,_,_,rfl⟩
 | fs f=>obtain⟨_,_,_,rfl,_⟩:=h;exact⟨_,_,_,_,_,_,_,_,rfl⟩
structure zpB(w:World)(B:Nat→Prop)(a:Addr)(y:Kfd):Prop where
 b:B a.block
 r:∃u,zgm w a (.string y.1 :: .bool y.2.1 :: u)∧KAt w B y.2.2 u
theorem FAt.at{w:World}{B:Nat→Prop}{A:Option Addr}{f:Fl}:∀ {i0:Nat},FAt w B A i0 f→∀(i:Nat) (y:Kfd),f.list[i]?=some y→∃a,A=some a∧zpB w B (a.add ((i0+i)*8)) y:=by
 induction f using Fl.rec (motive_1:=fun _=>True) with
 | nil=>intro i0 _ i y h;simp [Fl.list] at h
 | cons s m k r _ ih =>
  intro i0 h i y hy
  obtain⟨⟨a,u,e,h1,h2,h3⟩,h4⟩:=h
  cases i with
  | zero =>
   simp only [Fl.list,List.getElem?_cons_zero,Option.some.injEq] at hy
   subst hy
   exact⟨a,e,by rw [jI];exact h1,u,h2,h3⟩
  | succ i =>
   obtain⟨b,e2,h5⟩:=ih h4 i y (by simpa [Fl.list] using hy)
   exact⟨b,e2,by rw [show i0+(i+1)=i0+1+i by omega];exact h5⟩
 | _=>trivial
theorem nxa(a:Addr)(x d:Nat)(hd:0<d):(⟨(a.add x).block,(a.add x).off+d,none⟩:Addr)=(a.add x).add d:=by
 unfold Addr.add;by_cases hx:x=0
 ·subst hx;simp;omega
 ·simp [hx];omega
theorem zpB.cells{w:World}{B:Nat→Prop}{a:Addr}{x:Nat}{y:Kfd}(h:zpB w B (a.add x) y):∃(o n:Int) (s0 t0:ByteArray) (p A:Option Addr) (m c:Nat),KAt w B y.2.2 [.int .i64 o,.int .i64 n,.string s0,.string t0,.pointer p,.slice A m c]∧
 w.cell? (a.add x)=some (.string y.1)∧w.cell? ⟨(a.add x).block,(a.add x).off+1,none⟩=some (.bool y.2.1)∧w.cell? ⟨(a.add x).block,(a.add x).off+2,none⟩=some (.int .i64 o)∧w.cell? ⟨(a.add x).block,(a.add x).off+3,none⟩=some (.int .i64 n)∧
 w.cell? ⟨(a.add x).block,(a.add x).off+4,none⟩=some (.string s0)∧w.cell? ⟨(a.add x).block,(a.add x).off+5,none⟩=some (.string t0)∧w.cell? ⟨(a.add x).block,(a.add x).off+6,none⟩=some (.pointer p)∧w.cell? ⟨(a.add x).block,(a.add x).off+7,none⟩=some (.slice A m c):=by
 obtain⟨-,u,hr,hk⟩:=h;obtain⟨o,n,s0,t0,p,A,m,c,rfl⟩:=jL hk;refine⟨o,n,s0,t0,p,A,m,c,hk,?_,?_,?_,?_,?_,?_,?_,?_⟩
 ·have:=hr 0 _ rfl;rwa [show(a.add x).add 0=a.add x from rfl] at this
 all_goals rw [nxa _ _ _ (by omega)];exact hr _ _ rfl
theorem zjZ(nm:ByteArray)(b:Bool)(o n:Int)(s0 t0:ByteArray)(p A:Option Addr)(m c:Nat)(s:ByteArray)(w:World):
 Calls Tryz.prog 126 #[.agg #[.string nm,.bool b,.int .i64 o,.int .i64 n,.string s0,.string t0,.pointer p,.slice A m c],.string s] w fun e w'=>e = .returned (.int .i64 (je nm s))∧Below w.heap.size w w':=by
 have B0:=hi9 (za w (.cells #[.string nm,.bool b,.int .i64 o,.int .i64 n,.string s0,.string t0,.pointer p,.slice A m c] 122));go_enter Tryz.func126,Tryz.ntmps126;go_wp2_with fail;refine(strings_Compare nm s _).mono ?_;rintro e w1 ⟨rfl,rfl⟩;go_wp2_with fail;go_ret;exact⟨rfl,B0.out⟩
def zoG(w:World)(L:List Kfd)(s:ByteArray)(e:Ending)(w':World):Prop :=
 ∃(i:Nat) (h:Bool),e = .returned (.tuple #[.int .i64 i,.bool h])∧(h=true→∃hi:i<L.length,L[i].1=s)∧(h=false→∀y∈L,y.1≠s)∧Below w.heap.size w w'
theorem ziV(A:Option Addr)(n c:Nat)(f:Fl)(B:Nat→Prop)(s:ByteArray)(w:World)(hf:FAt w B A 0 f)(hn:n=f.list.length)(hl:n≤100000)(_:n≤c)(ha:f.asc)(hb:∀b,B b→b<w.heap.size):
 Calls Tryz.prog 125 #[.slice A n c,.string s,.func (.func 126) #[] #[]] w (zoG w f.list s):=by
 have eg:∀args w,(callFunc 126 args).run Tryz.prog w = .ok (.enter 126 args) w:=enters_of Tryz.func126 (by kernel_rfl) rfl;have HF:=hi9 (fun w' (h:Below w.heap.size w w')=>(hf.cong (w':=w') (fun b hB=>h.block b (hb b hB))).at);have HP:=hi9 (zga ha);have HN:=hi9 hn;have HS:=hi9 (show zeK f.list s 0 n from hn ▸ zeK.start f.list s);clear hf hn ha hb;generalize f.list=L at *;go_enter Tryz.func125,Tryz.ntmps125;go_wp2_with fail;go_loopw [9,10] (fun i j wr=>∃lo hi:Nat,hi≤n∧i = .int .i64 lo∧j = .int .i64 hi∧lo≤hi∧Hid (zeK L s lo hi)∧Hid (Below w.heap.size w wr)) (fun i j _=>(intOf j).toNat-(intOf i).toNat)
 case atStart=>exact⟨0,n,Nat.le_refl _,rfl,rfl,Nat.zero_le _,HS,Below.refl _ _⟩
 case round =>
  clear HS;obtain⟨lo,hi,hhi,rfl,rfl,hle,hH,hB⟩:=hrel;by_cases hlt:lo<hi
  ·obtain⟨m,hmid,hm1,hm2⟩:∃m:Nat,((lo:Int)+(hi:Int))/ 2=(m:Int)∧lo≤m∧m<hi:=⟨(lo+hi)/ 2,by omega,by omega,by omega⟩
   have hmn:m<n:=by omega
   have hml:m<L.length:=by rw [←HN.out];exact hmn
   obtain⟨a,rfl,hfd⟩:=HF.out wr hB.out m _ (List.getElem?_eq_getElem hml);rw [Nat.zero_add] at hfd;have HUP:=hi9 (fun hc=>hH.out.up HP.out hm1 hm2 hml hc);have HDN:=hi9 (fun hc=>hH.out.down HP.out hm1 hm2 hml hc);generalize L[m]=y at *;obtain⟨o,nn,s0,t0,p,A',m',c',-,q0,q1,q2,q3,q4,q5,q6,q7⟩:=hfd.cells;have KC:=hi9 (zjZ y.1 y.2.1 o nn s0 t0 p A' m' c' s wr);clear hfd;by_cases hc:je y.1 s<0
   ·have H2:=hi9 (HUP.out hc);generalize je y.1 s=cu at *;clear HUP HDN hH;go_wp2_with (go_at_fn 126;refine KC.out.mono ?_;rintro e w1 ⟨rfl,b1⟩);have B1:=bh hB b1;clear q0 q1 q2 q3 q4 q5 q6 q7 hB b1 KC;go_wp2_with fail;go_roundw
    case rel=>exact⟨m+1,hi,hhi,by go_num,rfl,by omega,H2,B1⟩
    case measure=>simp [intOf];omega
   ·have H2:=hi9 (HDN.out hc);generalize je y.1 s=cu at *;clear HUP HDN hH;go_wp2_with (go_at_fn 126;refine KC.out.mono ?_;rintro e w1 ⟨rfl,b1⟩);have B1:=bh hB b1;clear q0 q1 q2 q3 q4 q5 q6 q7 hB b1 KC;go_wp2_with fail;go_roundw
    case rel=>exact⟨lo,m,by omega,rfl,rfl,by omega,H2,B1⟩
    case measure=>simp [intOf];omega
  ·obtain rfl:lo=hi:=by omega
   have HFD:=hi9 (hH.out.found HP.out);by_cases hln:lo<n
   ·have hml:lo<L.length:=by rw [←HN.out];exact hln
    obtain⟨a,rfl,hfd⟩:=HF.out wr hB.out lo _ (List.getElem?_eq_getElem hml);rw [Nat.zero_add] at hfd;obtain⟨y,hy⟩:∃y,y=L[lo]:=⟨_,rfl⟩
    have HY:=hi9 hy;rw [←hy] at hfd;clear hy;obtain⟨o,nn,s0,t0,p,A',m',c',-,q0,q1,q2,q3,q4,q5,q6,q7⟩:=hfd.cells;have KC:=hi9 (zjZ y.1 y.2.1 o nn s0 t0 p A' m' c' s wr);clear hfd;go_wp2_with fail;refine KC.out.mono ?_;rintro e w1 ⟨rfl,b1⟩;have B1:=bh hB b1;clear q0 q1 q2 q3 q4 q5 q6 q7 b1 KC;by_cases hc:je y.1 s=0
    ·have H2:=hi9 (show∃hi:lo<L.length,L[lo].1=s from⟨hml,by rw [←HY.out];exact(zo.zero _ _).1 hc⟩);rw [hc];clear hc;go_wp2_with fail;go_ret2;exact⟨lo,true,rfl,fun _=>H2.out,fun h=>(nomatch h),B1.out⟩
    ·have H2:=hi9 (HFD.out.2 (fun hl e=>hc (by rw [HY.out,e];exact zo.self s)));have h0:(je y.1 s==0)=false:=by simpa using hc
     generalize je y.1 s=cu at *;clear hc;go_wp2_with fail;go_ret2;exact⟨lo,false,rfl,fun h=>(nomatch h),fun _=>H2.out,B1.out⟩
   ·have HNO:=hi9 (HFD.out.2 (fun hl=>absurd (by rw [HN.out];exact hl) hln));go_wp2_with fail;go_ret2;exact⟨lo,false,rfl,fun h=>(nomatch h),fun _=>HNO.out,hB.out⟩
def zlK(w:World)(B:Nat→Prop)(f:Fl)(s:ByteArray)(e:Ending)(w':World):Prop :=
 Below w.heap.size w w'∧match f.find s with
 | none=>e = .returned (.tuple #[.agg #[.string ⟨#[]⟩,.bool false,.int .i64 0,.int .i64 0,.string ⟨#[]⟩,.string ⟨#[]⟩,.pointer none,.slice none 0 0],.bool false])
 | some (m,k)=>∃u:List Value,e = .returned (.tuple #[.agg (.string s :: .bool m :: u).toArray,.bool true])∧KAt w' B k u
theorem zhV(A:Option Addr)(n c:Nat)(f:Fl)(B:Nat→Prop)(o nn:Int)(s0 t0:ByteArray)(p:Option Addr)(s:ByteArray)(w:World)(hf:FAt w B A 0 f)(hn:n=f.list.length)(hl:n≤100000)(hc:n≤c)(ha:f.asc)(hb:∀b,B b→b<w.heap.size):
 Calls Tryz.prog 99 #[.agg #[.int .i64 o,.int .i64 nn,.string s0,.string t0,.pointer p,.slice A n c],.string s] w (zlK w B f s):=by
 have hmf:∀(fn:Fn) (first cap:Array Value) (w:World),(Instr.makeFunc fn first cap).run Tryz.prog w = .ok (.func fn first cap) w:=fun _ _ _ _=>rfl;have HS:=hi9 (fun w' (h:Below w.heap.size w w')=>ziV A n c f B s w' (hf.cong (fun b hB=>h.block b (hb b hB))) hn hl hc ha (fun b hB=>Nat.lt_of_lt_of_le (hb b hB) h.size));have HF:=hi9 (fun w' (h:Below w.heap.size w w')=>(hf.cong (w':=w') (fun b hB=>h.block b (hb b hB))).at);have HN:=hi9 hn;have HA:=hi9 ha;have HBB:=hi9 hb;clear hf hn ha hb;go_enter Tryz.func99,Tryz.ntmps99;have X1:=hi9 (zS w (.int .i64 o) (.int .i64 nn) (.string s0) (.string t0) (.pointer p) (.slice A n c) 68);have B1:=hi9 (za w (.cells #[.int .i64 o,.int .i64 nn,.string s0,.string t0,.pointer p,.slice A n c] 68));go_wp2_with fail;have hsz:(w.alloc (.cells #[.int .i64 o,.int .i64 nn,.string s0,.string t0,.pointer p,.slice A n c] 68)).heap.size=w.heap.size+1:=by simp
 obtain⟨w1,hw1⟩:∃w1,w.alloc (.cells #[.int .i64 o,.int .i64 nn,.string s0,.string t0,.pointer p,.slice A n c] 68)=w1:=⟨_,rfl⟩
 rw [hw1] at X1 B1 hsz ⊢;rw [←hsz];clear hw1 hsz;have X2:=hi9 (X1.out.keep (za w1 (.cells #[.string ⟨#[]⟩,.bool false,.int .i64 0,.int .i64 0,.string ⟨#[]⟩,.string ⟨#[]⟩,.pointer none,.slice none 0 0] 122)));have Y2:=hi9 (zck w1 (.string ⟨#[]⟩) (.bool false) (.int .i64 0) (.int .i64 0) (.string ⟨#[]⟩) (.string ⟨#[]⟩) (.pointer none) (.slice none 0 0) 122);have B2:=bh B1 (za w1 (.cells #[.string ⟨#[]⟩,.bool false,.int .i64 0,.int .i64 0,.string ⟨#[]⟩,.string ⟨#[]⟩,.pointer none,.slice none 0 0] 122));obtain⟨w2,hw2⟩:∃w2,w1.alloc (.cells #[.string ⟨#[]⟩,.bool false,.int .i64 0,.int .i64 0,.string ⟨#[]⟩,.string ⟨#[]⟩,.pointer none,.slice none 0 0] 122)=w2:=⟨_,rfl⟩
 rw [hw2] at X2 Y2 B2 ⊢;clear hw2 X1;have HW:=hi9 B1.out.size;clear B1;refine(HS.out w2 B2.out).mono ?_;rintro e w3 ⟨i,hh,rfl,h1,h2,b3⟩;have X3:=hi9 (X2.out.keep b3);have Y3:=hi9 (Y2.out.keep b3);have B3:=bh B2 b3;clear X2 Y2 B2 b3 HS;obtain⟨c0,c1,c2,c3,c4,c5,-,-,-,-,-,-⟩:=X3.out;obtain⟨d0,d1,d2,d3,d4,d5,d6,d7,z0,z1,z2,z3,z4,z5,z6,z7⟩:=Y3.out
 cases hh with
 | false =>
  have HNF:=hi9 (zhI.2 (h2 rfl))
  clear h1 h2
  have Y4:=Y3.out.set (.string ⟨#[]⟩) (.bool false) (.int .i64 0) (.int .i64 0) (.string ⟨#[]⟩) (.string ⟨#[]⟩) (.pointer none) (.slice none 0 0)
  obtain⟨g0,g1,g2,g3,g4,g5,g6,g7,-,-,-,-,-,-,-,-⟩:=Y4
  go_wp2_with fail
  refine bodyPost_ret (v := .tuple #[.agg #[.string ⟨#[]⟩,.bool false,.int .i64 0,.int .i64 0,.string ⟨#[]⟩,.string ⟨#[]⟩,.pointer none,.slice none 0 0],.bool false]) (by simp [results,Tryz.results99,go_sem,g0,g1,g2,g3,g4,g5,g6,g7]) rfl ⟨?_,by rw [HNF.out]⟩
  exact zcn B3.out HW.out _ _ _ _ _ _ _ _
 | true =>
  obtain⟨hi,hs⟩:=h1 rfl
  clear h1 h2
  have hin:i<n:=by rw [HN.out];exact hi
  obtain⟨a,rfl,hfd⟩:=HF.out w3 B3.out i _ (List.getElem?_eq_getElem hi)
  rw [Nat.zero_add] at hfd
  have HFF:=hi9 (show f.find s=some (f.list[i].2.1,f.list[i].2.2) from(zaj HA.out).2 (by rw [←hs];exact List.getElem_mem hi))
  obtain⟨y,hy⟩:∃y,y=f.list[i]:=⟨_,rfl⟩
  rw [←hy] at hfd HFF hs
  clear hy
  obtain⟨o',n',s',t',p',A',m',c',hk,q0,q1,q2,q3,q4,q5,q6,q7⟩:=hfd.cells
  have HK:=hi9 hk
  rw [hs] at q0
  clear hk hfd hs
  have Y4:=Y3.out.set (.string s) (.bool y.2.1) (.int .i64 o') (.int .i64 n') (.string s') (.string t') (.pointer p') (.slice A' m' c')
  obtain⟨g0,g1,g2,g3,g4,g5,g6,g7,-,-,-,-,-,-,-,-⟩:=Y4
  go_wp2_with fail
  refine bodyPost_ret (v := .tuple #[.agg #[.string s,.bool y.2.1,.int .i64 o',.int .i64 n',.string s',.string t',.pointer p',.slice A' m' c'],.bool true]) (by simp [results,Tryz.results99,go_sem,g0,g1,g2,g3,g4,g5,g6,g7]) rfl ?_
  have BF:∀w',Below w.heap.size w w'→zlK w B f s (.returned (.tuple #[.agg #[.string s,.bool y.2.1,.int .i64 o',.int .i64 n',.string s',.string t',.pointer p',.slice A' m' c'],.bool true])) w':=fun w' hb=>by
   refine⟨hb,?_⟩;rw [HFF.out];exact⟨_,rfl,HK.out.cong fun b hB=>(hb.block b (HBB.out b hB)).trans (B3.out.block b (HBB.out b hB)).symm⟩
  refine BF _ ?_
  exact zcn B3.out HW.out _ _ _ _ _ _ _ _
theorem zcL(f:Fl):f.len=f.list.length:=by
 induction f using Fl.rec (motive_1:=fun _=>True) with
 | nil=>rfl
 | cons s m k r _ ih=>simp [Fl.len,Fl.list,ih]
 | _=>trivial
theorem zkX(f:Fl):f.len≤f.sz:=by
 induction f using Fl.rec (motive_1:=fun _=>True) with
 | nil=>exact Nat.le_refl _
 | cons s m k r _ ih=>simp only [Fl.len,Fl.sz];omega
 | _=>trivial
def opN:Kd→Int
 | .base x=>x
 | .ent _=>44
 | .set _=>45
 | .fs _=>46
def nmN:Kd→ByteArray
 | .ent s=>s
 | _=>emp
theorem zi2{w:World}{B:Nat→Prop}{k:Kd}{v:List Value}(h:KAt w B k v):∃(n:Int) (p:Option Addr) (A:Option Addr) (m c:Nat),v = [.int .i64 (opN k),.int .i64 n,.string (nmN k),.string emp,.pointer p,.slice A m c]:=by
 cases k with
 | base x=>obtain⟨_,rfl⟩:=h;exact⟨_,_,_,_,_,rfl⟩
 | ent s=>obtain⟨_,rfl⟩:=h;exact⟨_,_,_,_,_,rfl⟩
 | set q=>obtain⟨_,_,_,rfl,_⟩:=h;exact⟨_,_,_,_,_,rfl⟩
 | fs f=>obtain⟨_,_,_,rfl,_⟩:=h;exact⟨_,_,_,_,_,rfl⟩
theorem zcQ{x:Int}(h:(Kd.base x).valid):x=41∨x=42∨x=43∨x=48∨x=49:=h
theorem zmG{a b:Kd}(ha:a.valid)(hb:b.valid)(h1:opN a=opN b)(h2:nmN a=nmN b):
 (∃x,a = .base x∧b = .base x)∨(∃s,a = .ent s∧b = .ent s)∨(∃p q,a = .set p∧b = .set q)∨∃f g,a = .fs f∧b = .fs g:=by
 cases a with
 | base x =>
  have:=zcQ ha
  cases b with
  | base y=>simp only [opN] at h1;exact .inl ⟨x,rfl,by rw [h1]⟩
  | ent s=>simp only [opN] at h1;omega
  | set q=>simp only [opN] at h1;omega
  | fs g=>simp only [opN] at h1;omega
 | ent s =>
  cases b with
  | base y=>have:=zcQ hb;simp only [opN] at h1;omega
  | ent t=>simp only [nmN] at h2;exact .inr (.inl ⟨s,rfl,by rw [h2]⟩)
  | set q=>simp [opN] at h1
  | fs g=>simp [opN] at h1
 | set p =>
  cases b with
  | base y=>have:=zcQ hb;simp only [opN] at h1;omega
  | ent t=>simp [opN] at h1
  | set q=>exact .inr (.inr (.inl ⟨p,q,rfl,rfl⟩))
  | fs g=>simp [opN] at h1
 | fs f =>
  cases b with
  | base y=>have:=zcQ hb;simp only [opN] at h1;omega
  | ent t=>simp [opN] at h1
  | set q=>simp [opN] at h1
  | fs g=>exact .inr (.inr (.inr ⟨f,g,rfl,rfl⟩))
theorem zlt{a:Kd}(ha:a.valid)(h:opN a=49):a = .base 49:=by
 cases a with
 | base x=>simp only [opN] at h;rw [h]
 | _=>simp [opN] at h
theorem znj{a:Kd}(ha:a.valid)(h:opN a=48):a = .base 48:=by
 cases a with
 | base x=>simp only [opN] at h;rw [h]
 | _=>simp [opN] at h
def zbj(w:World)(R:Nat):Option (Kd × List Nd)→Ending→World→Prop
 | none,e,w'=>e = .panicked zgx∧w.grownBy w' (some R)
 | some (k,r),e,w'=>∃v:List Value,e = .returned (.agg v.toArray)∧KAt w' (fun b=>w.heap.size≤b) k v∧RdK w' R r∧w.grownBy w' (some R)
def zlH(R m:Nat):Prop:=∀(Q:List Nd) (w:World),RdK w R Q→Q.length≤m→Calls Tryz.prog 132 #[.pointer (some ⟨R,0,none⟩)] w (zbj w R (zs m Q))
def zpd(w:World)(R:Nat):Option (ByteArray × Bool × Kd × List Nd)→Ending→World→Prop
 | none,e,w'=>e = .panicked zgx∧w.grownBy w' (some R)
 | some (s,b,k,r),e,w'=>∃u:List Value,e = .returned (.agg (.string s :: .bool b :: u).toArray)∧KAt w' (fun b=>w.heap.size≤b) k u∧RdK w' R r∧w.grownBy w' (some R)
theorem RdK.but{w w':World}{R b:Nat}{Q:List Nd}(h:RdK w R Q)(hg:w.grownBy w' (some b))(hb:R<b):RdK w' R Q:=by
 obtain⟨⟨A,n,c,h1,h2,h3⟩,h4⟩:=h;have hne:some R≠some b:=fun e=>by injection e with e;omega
 refine⟨⟨A,n,c,hg.cell h1 hne,h2.but hg (fun h0 a e=>Nat.ne_of_lt (Nat.lt_trans (h3 h0 a e) hb)),h3⟩,?_⟩;exact(World.frozen?_of_block (a:=⟨R,0,none⟩) (hg.block R (block_lt_of_cell h1) hne)).trans h4
theorem zgD(w:World)(b:Nat)(y0 y1 y2 y3 y4 y5 y6 y7:Value):w.grownBy ((((((((w.setCell ⟨b,0,none⟩ y0).setCell ⟨b,1,none⟩ y1).setCell ⟨b,2,none⟩ y2).setCell ⟨b,3,none⟩ y3).setCell ⟨b,4,none⟩ y4).setCell ⟨b,5,none⟩ y5).setCell ⟨b,6,none⟩ y6).setCell ⟨b,7,none⟩ y7) (some b):=
 zd (zd (zd (zd (zd (zd (zd (zd (zdS w (some b)) (zg _ ⟨b,0,none⟩ _)) (zg _ ⟨b,1,none⟩ _)) (zg _ ⟨b,2,none⟩ _)) (zg _ ⟨b,3,none⟩ _)) (zg _ ⟨b,4,none⟩ _)) (zg _ ⟨b,5,none⟩ _)) (zg _ ⟨b,6,none⟩ _)) (zg _ ⟨b,7,none⟩ _)
theorem zeF(w:World)(b:Nat)(y0 y1 y2 y3 y4 y5 y6 y7:Value){g:Nat}(h:g≠b):((((((((w.setCell ⟨b,0,none⟩ y0).setCell ⟨b,1,none⟩ y1).setCell ⟨b,2,none⟩ y2).setCell ⟨b,3,none⟩ y3).setCell ⟨b,4,none⟩ y4).setCell ⟨b,5,none⟩ y5).setCell ⟨b,6,none⟩ y6).setCell ⟨b,7,none⟩ y7).heap[g]?=w.heap[g]?:=by
 iterate 8 rw [Below.heap_setCell _ _ _ g h]
theorem jg{w w4 W:World}{R b:Nat}(h:w.grownBy w4 (some R))(k:w4.grownBy W (some b))(hb:w.heap.size≤b):w.grownBy W (some R):=
 ⟨k.os.trans h.os,k.tape.trans h.tape,k.output.trans h.output,Nat.le_trans h.size k.size,fun i hi hn=>(k.block i (Nat.lt_of_lt_of_le hi h.size) (fun e=>by injection e with e;omega)).trans (h.block i hi hn)⟩
theorem zdU:emp.toList = []:=by rw [ByteArray.toList_eq];rfl
theorem zb5{w:World}{B:Nat→Prop}{k:Kd}{v:List Value}(h:KAt w B k v):∃(o n:Int) (s t:ByteArray) (p:Option Addr) (A:Option Addr) (m c:Nat),v = [.int .i64 o,.int .i64 n,.string s,.string t,.pointer p,.slice A m c]:=by
 cases k with
 | base x=>obtain⟨_,rfl⟩:=h;exact⟨_,_,_,_,_,_,_,_,rfl⟩
 | ent s=>obtain⟨_,rfl⟩:=h;exact⟨_,_,_,_,_,_,_,_,rfl⟩
 | set q=>obtain⟨_,_,_,rfl,_⟩:=h;exact⟨_,_,_,_,_,_,_,_,rfl⟩
 | fs f=>obtain⟨_,_,_,rfl,_⟩:=h;exact⟨_,_,_,_,_,_,_,_,rfl⟩
theorem zk8(R m:Nat)(ih:zlH R m)(x:ByteArray)(Q:List Nd)(w:World)(h:RdK w R Q)(hl:Q.length≤m+1):
 Calls Tryz.prog 152 #[.pointer (some ⟨R,0,none⟩),.string x] w (zpd w R (zcq m x Q)):=by
 have HR:=hi9 h;have IH:=hi9 ih;clear h ih;go_enter Tryz.func152,Tryz.ntmps152;go_wp2_with fail;have G0:=hi9 (zc (za w (.cells #[.string ⟨#[]⟩,.bool false,.int .i64 0,.int .i64 0,.string ⟨#[]⟩,.string ⟨#[]⟩,.pointer none,.slice none 0 0] 122)) (some R));have X0:=hi9 (zck w (.string ⟨#[]⟩) (.bool false) (.int .i64 0) (.int .i64 0) (.string ⟨#[]⟩) (.string ⟨#[]⟩) (.pointer none) (.slice none 0 0) 122);have R0:=hi9 (HR.out.keep (za w (.cells #[.string ⟨#[]⟩,.bool false,.int .i64 0,.int .i64 0,.string ⟨#[]⟩,.string ⟨#[]⟩,.pointer none,.slice none 0 0] 122)));have HRL:=hi9 (show R<w.heap.size by obtain⟨⟨_,_,_,h1,_⟩,_⟩:=HR.out;exact block_lt_of_cell h1);have HNE:=hi9 (show some w.heap.size≠some R from fun e=>by injection e with e;have:=HRL.out;omega);obtain⟨w0,hw0⟩:∃w0,w.alloc (.cells #[.string ⟨#[]⟩,.bool false,.int .i64 0,.int .i64 0,.string ⟨#[]⟩,.string ⟨#[]⟩,.pointer none,.slice none 0 0] 122)=w0:=⟨_,rfl⟩
 have HS0:=hi9 (show w.heap.size≤w0.heap.size by rw [←hw0];simp);rw [hw0] at G0 X0 R0 ⊢;clear hw0 HR;refine(zaV R Q w0 R0.out).mono ?_
 cases Q with
 | nil =>
  rintro e w1 ⟨rfl,g1⟩
  go_wp2_with fail
  exact⟨rfl,rfl,G0.out.trans g1⟩
 | cons y r =>
  rintro e w1 ⟨rfl,r1,g1⟩
  have G1:=hi9 (G0.out.trans g1)
  have X1:=hi9 (X0.out.but g1 HNE.out)
  have R1:=hi9 r1
  have HS1:=hi9 (Nat.le_trans HS0.out g1.size)
  have HYO:=hi9 (show zfO y by obtain⟨⟨_,_,_,_,h2,_⟩,_⟩:=R0.out;exact h2.ok y (by simp))
  have HW1:=hi9 (show R<w1.heap.size by have:=HRL.out;have:=HS1.out;omega)
  clear r1 g1 G0 X0 R0 HS0
  unfold ndV
  have HBAD:=hi9 (show¬zke x y→zcq m x (y :: r)=none from fun h=>if_neg h)
  have HGOOD:=hi9 (show zke x y→zcq m x (y :: r)=(match zs m r with|none=>none|some (k,r')=>some (y.s,y.n==1,k,r')) from fun h=>if_pos h)
  generalize zcq m x (y :: r)=PP at *
  by_cases ho:y.op=47
  ·have HO:=hi9 ho
   have KN:=hi9 (fun w=>jK y.s w HYO.out.s);rw [ho];clear ho;by_cases hn:y.n=0
   ·have HN:=hi9 hn;rw [hn];clear hn;rcases zO y.t with ht|⟨t1,t2,t3⟩
    ·have HT:=hi9 ht;rw [ht];clear ht;have B2:=hi9 (za w1 (.cells #[.int .i64 47,.int .i64 0,.string y.s,.string ⟨#[]⟩] 40));have V2:=hi9 (za9 w1 (.int .i64 47) (.int .i64 0) (.string y.s) (.string ⟨#[]⟩) 40);go_wp2_with fail;obtain⟨w2,hw2⟩:∃w2,w1.alloc (.cells #[.int .i64 47,.int .i64 0,.string y.s,.string ⟨#[]⟩] 40)=w2:=⟨_,rfl⟩
     rw [hw2] at B2 V2 ⊢;clear hw2;refine(KN.out w2).mono ?_;rintro e w3 ⟨rfl,b3⟩;have B3:=bh B2 b3;have V3:=hi9 (V2.out.keep b3);have G3:=hi9 (zd G1.out (zc B3.out (some R)));have R3:=hi9 (R1.out.keep B3.out);have X3:=hi9 (X1.out.keep B3.out);have HS3:=hi9 (Nat.le_trans HS1.out B3.out.size);clear b3 B2 V2 G1 R1 X1 HS1 KN B3;obtain⟨c0,c1,c2,c3,-,-,-,-⟩:=V3.out;by_cases hf:zf y.s=0
     ·have HF:=hi9 hf;rw [hf,zr];clear hf;rcases zd9 y.s x with ⟨l0,l1,l2⟩|hl2
      ·have HPG:=hi9 (HGOOD.out ⟨HO.out,by rw [HN.out];simp,HT.out,HF.out,l0⟩);have bd3:Below w3.heap.size w3 w3.drew:=⟨rfl,rfl,rfl,Nat.le_refl _,fun _ _=>rfl⟩
       have VD:=hi9 (V3.out.keep bd3);have XD:=hi9 (X3.out.keep bd3);have GD:=hi9 (zd G3.out (zc bd3 (some R)));have HSD:=hi9 (show w.heap.size≤w3.drew.heap.size from HS3.out);have HWD:=hi9 (show R<w1.heap.size from HW1.out);have IK:=hi9 (IH.out r w3.drew (R3.out.keep bd3) (by simp at hl;omega));clear bd3;obtain⟨e0,e1,e2,e3,-,-,-,-⟩:=VD.out;rcases hp:zs m r with _|⟨k,r'⟩
       ·have HPN:=hi9 (show PP=none by rw [HPG.out,hp]);have IK2:=hi9 (fun d os=>(IH.out r (grow (redrawn w3 d) os) (R3.out.keep (below_regrown w3 d os)) (by simp at hl;omega)));simp only [hp] at IK2;clear IK hp e0 e1 e2 e3 HPG;have k0:=cell_regrown c0;have k1:=cell_regrown c1;have k2:=cell_regrown c2;have k3:=cell_regrown c3;go_wp2_with fail;refine zcD (l := [_,_,_,_,_,_]) [0,1,2,3,4,5] [6] (by kernel_rfl) (by decide) (by kernel_rfl) rfl (fun w'=>∃p:Regrown,w'=grow (redrawn w3 p.d) p.os) (fun ch w'=>ch=zgx∧w3.grownBy w' (some R)) ⟨⟨w3.drawn+1,#[]⟩,by rw [grow_empty];rfl⟩ ?_ ?_
        ·rintro a' ch w' hd ⟨rfl,hg⟩;exact⟨hd,by rw [HPN.out];exact⟨rfl,zd G3.out hg⟩⟩
        ·repeat (first|go_big_quiet_step (fail)|quiet_step (fail))
         refine wpQuiet_nil ?_;refine⟨fun o ho=>?_,trivial⟩;injection ho with ho;subst ho;refine⟨by go_simp,?_⟩;rintro w' ⟨⟨d,os⟩,rfl⟩;go_wp2_with fail;refine(IK2.out d os).mono ?_;rintro e w4 ⟨rfl,g4⟩;exact⟨rfl,zd (zc (below_regrown w3 d os) _) g4⟩
       ·have HPN:=hi9 (show PP=some (y.s,y.n==1,k,r') by rw [HPG.out,hp]);rw [hp] at IK;clear hp;go_wp2_with fail;go_region_with (go_at_call 132;(refine IK.out.mono ?_);rintro e w4 ⟨v,rfl,hk,hr,g4⟩;(obtain⟨o,n,s0,t0,p,A,m0,cc,rfl⟩:=zb5 hk);(have HK4:=hi9 hk);(have HR4:=hi9 hr);(have G4:=hi9 g4);(obtain⟨u0,u1,u2,u3,-,-,-,-⟩:=VD.out.but g4 (by intro e;injection e with e;have:=HWD.out;omega));(obtain⟨d0,d1,d2,d3,d4,d5,d6,d7,z0,z1,z2,z3,z4,z5,z6,z7⟩:=XD.out.but g4 HNE.out);clear hk hr g4)
        all_goals
         have HPB:=hi9 (show PP=some (y.s,false,k,r') by rw [HPN.out,HN.out];rfl);have Y5:=(XD.out.but G4.out HNE.out).set (.string y.s) (.bool false) (.int .i64 o) (.int .i64 n) (.string s0) (.string t0) (.pointer p) (.slice A m0 cc);obtain⟨j0,j1,j2,j3,j4,j5,j6,j7,-,-,-,-,-,-,-,-⟩:=Y5;have gs:=zgD w4 w.heap.size (.string y.s) (.bool false) (.int .i64 o) (.int .i64 n) (.string s0) (.string t0) (.pointer p) (.slice A m0 cc);have hRb:=HRL.out;have R5:=hi9 (HR4.out.but gs hRb);have K5:=hi9 ((HK4.out.cong (fun g hg=>zeF w4 w.heap.size (.string y.s) (.bool false) (.int .i64 o) (.int .i64 n) (.string s0) (.string t0) (.pointer p) (.slice A m0 cc) (by have hq:w.heap.size<w3.drew.heap.size:=block_lt_of_cell XD.out.c0;have hg':w3.drew.heap.size≤g:=hg;omega))).mono (B':=fun b=>w.heap.size≤b) (fun b hb _=>Nat.le_trans HSD.out hb));have G5:=hi9 (show w.grownBy _ (some R) from jg (zd GD.out G4.out) gs (Nat.le_refl _));clear gs;go_wp2_with fail;refine bodyPost_ret (v := .agg #[.string y.s,.bool false,.int .i64 o,.int .i64 n,.string s0,.string t0,.pointer p,.slice A m0 cc]) (by simp [results,Tryz.results152,go_sem,j0,j1,j2,j3,j4,j5,j6,j7]) rfl ?_;rw [HPB.out];exact⟨[.int .i64 o,.int .i64 n,.string s0,.string t0,.pointer p,.slice A m0 cc],rfl,K5.out,R5.out,G5.out⟩
      ·have HPN:=hi9 (HBAD.out (fun h=>by rcases hl2 with h2|h2 <;> exact h2.1 h.2.2.2.2));have GB:=G3;rcases hl2 with ⟨-,l1⟩|⟨-,l1,l2⟩
       ·go_wp2_with fail;refine⟨rfl,?_⟩;rw [HPN.out];exact⟨rfl,GB.out⟩
       ·go_wp2_with fail;refine⟨rfl,?_⟩;rw [HPN.out];exact⟨rfl,GB.out⟩
     ·have HPN:=hi9 (HBAD.out (fun h=>hf h.2.2.2.1));rw [zA hf];generalize zf y.s=ff at *;clear hf;have GB:=G3;go_wp2_with fail;refine⟨rfl,?_⟩;rw [HPN.out];exact⟨rfl,GB.out⟩
    ·have HPN:=hi9 (HBAD.out (fun h=>t2 (by rw [h.2.2.1];exact zdU)));clear HBAD HGOOD;go_wp2_with fail;refine⟨rfl,?_⟩;rw [HPN.out];exact⟨rfl,zd G1.out (zc (za _ _) _)⟩
   ·by_cases hn1:y.n=1
    ·have hn:=hn1;clear hn1;have HN:=hi9 hn;rw [hn];clear hn;rcases zO y.t with ht|⟨t1,t2,t3⟩
     ·have HT:=hi9 ht;rw [ht];clear ht;have B2:=hi9 (za w1 (.cells #[.int .i64 47,.int .i64 1,.string y.s,.string ⟨#[]⟩] 40));have V2:=hi9 (za9 w1 (.int .i64 47) (.int .i64 1) (.string y.s) (.string ⟨#[]⟩) 40);go_wp2_with fail;obtain⟨w2,hw2⟩:∃w2,w1.alloc (.cells #[.int .i64 47,.int .i64 1,.string y.s,.string ⟨#[]⟩] 40)=w2:=⟨_,rfl⟩
      rw [hw2] at B2 V2 ⊢;clear hw2;refine(KN.out w2).mono ?_;rintro e w3 ⟨rfl,b3⟩;have B3:=bh B2 b3;have V3:=hi9 (V2.out.keep b3);have G3:=hi9 (zd G1.out (zc B3.out (some R)));have R3:=hi9 (R1.out.keep B3.out);have X3:=hi9 (X1.out.keep B3.out);have HS3:=hi9 (Nat.le_trans HS1.out B3.out.size);clear b3 B2 V2 G1 R1 X1 HS1 KN B3;obtain⟨c0,c1,c2,c3,-,-,-,-⟩:=V3.out;by_cases hf:zf y.s=0
      ·have HF:=hi9 hf;rw [hf,zr];clear hf;rcases zd9 y.s x with ⟨l0,l1,l2⟩|hl2
       ·have HPG:=hi9 (HGOOD.out ⟨HO.out,by rw [HN.out];simp,HT.out,HF.out,l0⟩);have bd3:Below w3.heap.size w3 w3.drew:=⟨rfl,rfl,rfl,Nat.le_refl _,fun _ _=>rfl⟩
        have VD:=hi9 (V3.out.keep bd3);have XD:=hi9 (X3.out.keep bd3);have GD:=hi9 (zd G3.out (zc bd3 (some R)));have HSD:=hi9 (show w.heap.size≤w3.drew.heap.size from HS3.out);have HWD:=hi9 (show R<w1.heap.size from HW1.out);have IK:=hi9 (IH.out r w3.drew (R3.out.keep bd3) (by simp at hl;omega));clear bd3;obtain⟨e0,e1,e2,e3,-,-,-,-⟩:=VD.out;rcases hp:zs m r with _|⟨k,r'⟩
        ·have HPN:=hi9 (show PP=none by rw [HPG.out,hp]);have IK2:=hi9 (fun d os=>(IH.out r (grow (redrawn w3 d) os) (R3.out.keep (below_regrown w3 d os)) (by simp at hl;omega)));simp only [hp] at IK2;clear IK hp e0 e1 e2 e3 HPG;have k0:=cell_regrown c0;have k1:=cell_regrown c1;have k2:=cell_regrown c2;have k3:=cell_regrown c3;go_wp2_with fail;refine zcD (l := [_,_,_,_,_,_]) [0,1,2,3,4,5] [6] (by kernel_rfl) (by decide) (by kernel_rfl) rfl (fun w'=>∃p:Regrown,w'=grow (redrawn w3 p.d) p.os) (fun ch w'=>ch=zgx∧w3.grownBy w' (some R)) ⟨⟨w3.drawn+1,#[]⟩,by rw [grow_empty];rfl⟩ ?_ ?_
         ·rintro a' ch w' hd ⟨rfl,hg⟩;exact⟨hd,by rw [HPN.out];exact⟨rfl,zd G3.out hg⟩⟩
         ·repeat (first|go_big_quiet_step (fail)|quiet_step (fail))
          refine wpQuiet_nil ?_;refine⟨fun o ho=>?_,trivial⟩;injection ho with ho;subst ho;refine⟨by go_simp,?_⟩;rintro w' ⟨⟨d,os⟩,rfl⟩;go_wp2_with fail;refine(IK2.out d os).mono ?_;rintro e w4 ⟨rfl,g4⟩;exact⟨rfl,zd (zc (below_regrown w3 d os) _) g4⟩
        ·have HPN:=hi9 (show PP=some (y.s,y.n==1,k,r') by rw [HPG.out,hp]);rw [hp] at IK;clear hp;go_wp2_with fail;go_region_with (go_at_call 132;(refine IK.out.mono ?_);rintro e w4 ⟨v,rfl,hk,hr,g4⟩;(obtain⟨o,n,s0,t0,p,A,m0,cc,rfl⟩:=zb5 hk);(have HK4:=hi9 hk);(have HR4:=hi9 hr);(have G4:=hi9 g4);(obtain⟨u0,u1,u2,u3,-,-,-,-⟩:=VD.out.but g4 (by intro e;injection e with e;have:=HWD.out;omega));(obtain⟨d0,d1,d2,d3,d4,d5,d6,d7,z0,z1,z2,z3,z4,z5,z6,z7⟩:=XD.out.but g4 HNE.out);clear hk hr g4)
         all_goals
          have HPB:=hi9 (show PP=some (y.s,true,k,r') by rw [HPN.out,HN.out];rfl);have Y5:=(XD.out.but G4.out HNE.out).set (.string y.s) (.bool true) (.int .i64 o) (.int .i64 n) (.string s0) (.string t0) (.pointer p) (.slice A m0 cc);obtain⟨j0,j1,j2,j3,j4,j5,j6,j7,-,-,-,-,-,-,-,-⟩:=Y5;have gs:=zgD w4 w.heap.size (.string y.s) (.bool true) (.int .i64 o) (.int .i64 n) (.string s0) (.string t0) (.pointer p) (.slice A m0 cc);have hRb:=HRL.out;have R5:=hi9 (HR4.out.but gs hRb);have K5:=hi9 ((HK4.out.cong (fun g hg=>zeF w4 w.heap.size (.string y.s) (.bool true) (.int .i64 o) (.int .i64 n) (.string s0) (.string t0) (.pointer p) (.slice A m0 cc) (by have hq:w.heap.size<w3.drew.heap.size:=block_lt_of_cell XD.out.c0;have hg':w3.drew.heap.size≤g:=hg;omega))).mono (B':=fun b=>w.heap.size≤b) (fun b hb _=>Nat.le_trans HSD.out hb));have G5:=hi9 (show w.grownBy _ (some R) from jg (zd GD.out G4.out) gs (Nat.le_refl _));clear gs;go_wp2_with fail;refine bodyPost_ret (v := .agg #[.string y.s,.bool true,.int .i64 o,.int .i64 n,.string s0,.string t0,.pointer p,.slice A m0 cc]) (by simp [results,Tryz.results152,go_sem,j0,j1,j2,j3,j4,j5,j6,j7]) rfl ?_;rw [HPB.out];exact⟨[.int .i64 o,.int .i64 n,.string s0,.string t0,.pointer p,.slice A m0 cc],rfl,K5.out,R5.out,G5.out⟩
       ·have HPN:=hi9 (HBAD.out (fun h=>by rcases hl2 with h2|h2 <;> exact h2.1 h.2.2.2.2));have GB:=G3;rcases hl2 with ⟨-,l1⟩|⟨-,l1,l2⟩
        ·go_wp2_with fail;refine⟨rfl,?_⟩;rw [HPN.out];exact⟨rfl,GB.out⟩
        ·go_wp2_with fail;refine⟨rfl,?_⟩;rw [HPN.out];exact⟨rfl,GB.out⟩
      ·have HPN:=hi9 (HBAD.out (fun h=>hf h.2.2.2.1));rw [zA hf];generalize zf y.s=ff at *;clear hf;have GB:=G3;go_wp2_with fail;refine⟨rfl,?_⟩;rw [HPN.out];exact⟨rfl,GB.out⟩
     ·have HPN:=hi9 (HBAD.out (fun h=>t2 (by rw [h.2.2.1];exact zdU)));clear HBAD HGOOD;go_wp2_with fail;refine⟨rfl,?_⟩;rw [HPN.out];exact⟨rfl,zd G1.out (zc (za _ _) _)⟩
    ·have HPN:=hi9 (HBAD.out (fun h=>h.2.1.elim hn hn1));have e0:(y.n != 0)=true:=by rw [bne_iff_ne];exact hn
     have e1:(y.n != 1)=true:=by rw [bne_iff_ne];exact hn1
     clear HBAD HGOOD hn hn1;go_wp2_with fail;refine⟨rfl,?_⟩;rw [HPN.out];exact⟨rfl,zd G1.out (zc (za _ _) _)⟩
  ·have HPN:=hi9 (HBAD.out (fun h=>ho h.1))
   have h1:(y.op != 47)=true:=by rw [bne_iff_ne];exact ho
   clear ho HBAD HGOOD;go_wp2_with fail;refine⟨rfl,?_⟩;rw [HPN.out];exact⟨rfl,zd G1.out (zc (za _ _) _)⟩
end Go.Proofs.YtlkfaliomdbaoaaGreatDoor
