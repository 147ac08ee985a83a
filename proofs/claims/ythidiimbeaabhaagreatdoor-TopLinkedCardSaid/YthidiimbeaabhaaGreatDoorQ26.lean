/-
  pol.Scoped: a scope as an expression. pol.Expr: a policy as an expression. ..
-/
import Derived.Deep.RegionHeld3
import Derived.Laws.AppendOwnNone
import Derived.Test.YthidiimbeaabhaaGreatDoorQ25
set_option maxRecDepth 100000
set_option maxHeartbeats 16000000
namespace Go.Proofs.YthidiimbeaabhaaGreatDoor
open Go.RowKit Go.Wk Go.Sort
theorem qU{o n:Int}{s:ByteArray}(ho : -9223372036854775808<=n/\n<=9223372036854775807)(hs:s.size<=maxLen):fC ⟨o,n,s,emp⟩:=⟨hs,Nat.zero_le _,ho.1,ho.2⟩
theorem vJ(v:ByteArray):(ar v).size=v.size+1:=by
 unfold ar;rw [ByteArray.size_append];show 1+v.size=v.size+1;omega
theorem BJ(W:World)(v a b:ByteArray)(hv:v.size<=1000)(ha:a.size<=maxLen)(hb:b.size<=maxLen):
 Hid (∀w4,w4=(((W.alloc (.cells #[.int .i64 8,.int .i64 0,.string v,.string ⟨#[]⟩] 47)).alloc (.cells #[.int .i64 8,.int .i64 0,.string (ar v),.string ⟨#[]⟩] 47)).alloc (.cells #[.int .i64 4,.int .i64 0,.string a,.string b] 47)).alloc (.cells #[.slice (some ⟨W.heap.size,0,none⟩) 1 1] 30)->
  jD w4 (some ⟨W.heap.size+1+1+1,0,none⟩) [⟨some ⟨W.heap.size,0,none⟩,1,1,jC v⟩]/\Ns w4 (some ⟨W.heap.size,0,none⟩) 1 1 (jC v)/\Ns w4 (some ⟨W.heap.size+1,0,none⟩) 1 1 (jC (ar v))/\Ns w4 (some ⟨W.heap.size+1+1,0,none⟩) 1 1 (aY (a,b))/\Below W.heap.size W w4):=by
 refine O ?_;rintro w4 rfl;have n1:Ns (W.alloc (.cells #[.int .i64 8,.int .i64 0,.string v,.string ⟨#[]⟩] 47)) (some ⟨W.heap.size,0,none⟩) 1 1 (jC v):=dS W ⟨8,0,v,emp⟩ (qU (by decide) (by unfold maxLen;omega));have b1:=za W (.cells #[.int .i64 8,.int .i64 0,.string v,.string ⟨#[]⟩] 47);have z1:(W.alloc (.cells #[.int .i64 8,.int .i64 0,.string v,.string ⟨#[]⟩] 47)).heap.size=W.heap.size+1:=by simp
 generalize W.alloc (.cells #[.int .i64 8,.int .i64 0,.string v,.string ⟨#[]⟩] 47)=W1 at *;have n2:Ns (W1.alloc (.cells #[.int .i64 8,.int .i64 0,.string (ar v),.string ⟨#[]⟩] 47)) (some ⟨W1.heap.size,0,none⟩) 1 1 (jC (ar v)):=dS W1 ⟨8,0,ar v,emp⟩ (qU (by decide) (by rw [vJ];unfold maxLen;omega));have b2:=za W1 (.cells #[.int .i64 8,.int .i64 0,.string (ar v),.string ⟨#[]⟩] 47);have z2:(W1.alloc (.cells #[.int .i64 8,.int .i64 0,.string (ar v),.string ⟨#[]⟩] 47)).heap.size=W1.heap.size+1:=by simp
 rw [z1] at n2 z2;generalize W1.alloc (.cells #[.int .i64 8,.int .i64 0,.string (ar v),.string ⟨#[]⟩] 47)=W2 at *;have n3:Ns (W2.alloc (.cells #[.int .i64 4,.int .i64 0,.string a,.string b] 47)) (some ⟨W2.heap.size,0,none⟩) 1 1 (aY (a,b)):=dS W2 ⟨4,0,a,b⟩ ⟨ha,hb,by show _<=(0:Int);decide,by show(0:Int)<=_;decide⟩;have b3:=za W2 (.cells #[.int .i64 4,.int .i64 0,.string a,.string b] 47);have z3:(W2.alloc (.cells #[.int .i64 4,.int .i64 0,.string a,.string b] 47)).heap.size=W2.heap.size+1:=by simp
 rw [z2] at n3 z3;generalize W2.alloc (.cells #[.int .i64 4,.int .i64 0,.string a,.string b] 47)=W3 at *;have b4:=za W3 (.cells #[.slice (some ⟨W.heap.size,0,none⟩) 1 1] 30);have n1':=((show Ns W1 (some ⟨W.heap.size,0,none⟩) 1 1 (jC v) from n1).keep b2).keep b3;have s1:=Bt W3 ⟨some ⟨W.heap.size,0,none⟩,1,1,jC v⟩ n1' 30;rw [z3] at s1;exact⟨s1,n1'.keep b4,((show Ns W2 (some ⟨W.heap.size+1,0,none⟩) 1 1 (jC (ar v)) from n2).keep b3).keep b4,(show Ns W3 (some ⟨W.heap.size+1+1,0,none⟩) 1 1 (aY (a,b)) from n3).keep b4,((b1.trans (b2.mono b1.size)).trans (b3.mono (b1.trans (b2.mono b1.size)).size)).trans (b4.mono ((b1.trans (b2.mono b1.size)).trans (b3.mono (b1.trans (b2.mono b1.size)).size)).size)⟩
theorem ip(s:Scp)(v:ByteArray)(w:World)(hs:lF s)(hv:v.size<=1000):
 Calls Tryz.prog 30 #[s.v,.string v] w (Fq w (zN s v)):=by
 obtain⟨o,t,⟨a,b⟩⟩:=s;obtain⟨ht,ha,hb⟩:=hs;dsimp only at ht ha hb;have b0:=za w (.cells #[.int .i64 o,.string t,.string a,.string b] 26);have X0:=jF w #[.int .i64 o,.string t,.string a,.string b] 26;have LL:=BJ (w.alloc (.cells #[.int .i64 o,.string t,.string a,.string b] 26)) v a b hv ha hb;rw [show(w.alloc (.cells #[.int .i64 o,.string t,.string a,.string b] 26)).heap.size=w.heap.size+1 from by simp] at LL;obtain⟨F1,N1,N2,N3,BF⟩:=LL.o _ rfl;have X4:=O (X0.keep (show Below _ _ _ from by rw [show(w.alloc (.cells #[.int .i64 o,.string t,.string a,.string b] 26)).heap.size=w.heap.size+1 from by simp];exact BF));have B4:=O (b0.trans (BF.mono (Nat.le_succ _)));have S4:=O F1;have M1:=O N1;have M2:=O N2;have M3:=O N3;have H24:=O (qU (o:=24) (n:=0) (by decide) ht);clear b0 X0 LL F1 N1 N2 N3 BF ht ha hb;unfold Scp.v;dsimp only;go_enter Tryz.func30,Tryz.ntmps30;go_wp2_with fail;refine(wV ⟨24,0,t,emp⟩ H24.o _ _ _ S4.o (Nat.succ_pos _) (by simp [jC])).mono ?_;rintro e w5 ⟨A5,m5,c5,rfl,hN5,b5⟩;have X5:=O (X4.o.keep b5);have B5:=bh B4 b5;have I5:=O hN5;have P1:=O (M1.o.keep b5);have P2:=O (M2.o.keep b5);have P3:=O (M3.o.keep b5);clear hN5 b5 X4 B4 S4 M1 M2 M3 H24;obtain⟨q0,-,-,-⟩:=X5.o.sc;by_cases g1:o=1
 ·subst g1;have E:=O (show zN ⟨1,t,(a,b)⟩ v=bg 14 ::(jC v ++ aY (a,b)) from rfl);rw [E.o];have S6:=O (h9 w5 ⟨some ⟨w.heap.size+1,0,none⟩,1,1,jC v⟩ ⟨some ⟨w.heap.size+1+1+1,0,none⟩,1,1,aY (a,b)⟩ P1.o P3.o 30);have b6:=O (za w5 (.cells #[.slice (some ⟨w.heap.size+1,0,none⟩) 1 1,.slice (some ⟨w.heap.size+1+1+1,0,none⟩) 1 1] 30));go_wp2_with fail;refine(eI (bg 14) ⟨by decide,by decide,by decide,by decide⟩ _ _ _ _ S6.o (Nat.succ_pos _) (Nat.succ_pos _) (by simp [jC,aY])).mono ?_;rintro e w7 ⟨A7,m7,c7,rfl,ob,b7⟩;have B7:=bh (bh B5 b6.o) b7;have N7:=O ob;clear ob b7;go_wp2_with fail;go_ret;exact⟨A7,m7,c7,rfl,by first|exact N7.o|(rw [E.o];exact N7.o),B7.o⟩
 by_cases g2:o=2
 ·subst g2;have E:=O (show zN ⟨2,t,(a,b)⟩ v=bg 20 ::(jC v ++ aY (a,b)) from rfl);rw [E.o];have S6:=O (h9 w5 ⟨some ⟨w.heap.size+1,0,none⟩,1,1,jC v⟩ ⟨some ⟨w.heap.size+1+1+1,0,none⟩,1,1,aY (a,b)⟩ P1.o P3.o 30);have b6:=O (za w5 (.cells #[.slice (some ⟨w.heap.size+1,0,none⟩) 1 1,.slice (some ⟨w.heap.size+1+1+1,0,none⟩) 1 1] 30));go_wp2_with fail;refine(eI (bg 20) ⟨by decide,by decide,by decide,by decide⟩ _ _ _ _ S6.o (Nat.succ_pos _) (Nat.succ_pos _) (by simp [jC,aY])).mono ?_;rintro e w7 ⟨A7,m7,c7,rfl,ob,b7⟩;have B7:=bh (bh B5 b6.o) b7;have N7:=O ob;clear ob b7;go_wp2_with fail;go_ret;exact⟨A7,m7,c7,rfl,by first|exact N7.o|(rw [E.o];exact N7.o),B7.o⟩
 by_cases g3:o=3
 ·subst g3;have E:=O (show zN ⟨3,t,(a,b)⟩ v=⟨24,0,t,emp⟩:: jC v from rfl);rw [E.o];go_wp2_with fail;go_ret;exact⟨A5,m5,c5,rfl,by first|exact I5.o|(rw [E.o];exact I5.o),B5.o⟩
 by_cases g4:o=4
 ·subst g4;have E:=O (show zN ⟨4,t,(a,b)⟩ v=bg 11 ::((⟨24,0,t,emp⟩:: jC v)++(bg 20 ::(jC v ++ aY (a,b)))) from rfl);rw [E.o];have S6:=O (h9 w5 ⟨some ⟨w.heap.size+1,0,none⟩,1,1,jC v⟩ ⟨some ⟨w.heap.size+1+1+1,0,none⟩,1,1,aY (a,b)⟩ P1.o P3.o 30);have b6:=O (za w5 (.cells #[.slice (some ⟨w.heap.size+1,0,none⟩) 1 1,.slice (some ⟨w.heap.size+1+1+1,0,none⟩) 1 1] 30));go_wp2_with fail;refine(eI (bg 20) ⟨by decide,by decide,by decide,by decide⟩ _ _ _ _ S6.o (Nat.succ_pos _) (Nat.succ_pos _) (by simp [jC,aY])).mono ?_;rintro e w7 ⟨A7,m7,c7,rfl,ob,b7⟩;have b67:=bh b6 b7;have B7:=bh B5 b67.o;have I7:=O (I5.o.keep b67.o);have S8:=O (h9 w7 ⟨A5,m5,c5,⟨24,0,t,emp⟩:: jC v⟩ ⟨A7,m7,c7,bg 20 ::(jC v ++ aY (a,b))⟩ I7.o ob 30);have b8:=O (za w7 (.cells #[.slice A5 m5 c5,.slice A7 m7 c7] 30));clear ob b7;go_wp2_with fail;refine(eI (bg 11) ⟨by decide,by decide,by decide,by decide⟩ _ _ _ _ S8.o (Nat.succ_pos _) (Nat.succ_pos _) (by simp [jC,aY])).mono ?_;rintro e w9 ⟨A9,m9,c9,rfl,hN9,b9⟩;have B9:=bh (bh B7 b8.o) b9;have N9:=O hN9;clear hN9 b9;go_wp2_with fail;go_ret;exact⟨A9,m9,c9,rfl,by first|exact N9.o|(rw [E.o];exact N9.o),B9.o⟩
 by_cases g5:o=5
 ·subst g5;have E:=O (show zN ⟨5,t,(a,b)⟩ v=bg 14 ::(jC v ++ jC (ar v)) from rfl);rw [E.o];have S6:=O (h9 w5 ⟨some ⟨w.heap.size+1,0,none⟩,1,1,jC v⟩ ⟨some ⟨w.heap.size+1+1,0,none⟩,1,1,jC (ar v)⟩ P1.o P2.o 30);have b6:=O (za w5 (.cells #[.slice (some ⟨w.heap.size+1,0,none⟩) 1 1,.slice (some ⟨w.heap.size+1+1,0,none⟩) 1 1] 30));go_wp2_with fail;refine(eI (bg 14) ⟨by decide,by decide,by decide,by decide⟩ _ _ _ _ S6.o (Nat.succ_pos _) (Nat.succ_pos _) (by simp [jC])).mono ?_;rintro e w7 ⟨A7,m7,c7,rfl,ob,b7⟩;have B7:=bh (bh B5 b6.o) b7;have N7:=O ob;clear ob b7;go_wp2_with fail;go_ret;exact⟨A7,m7,c7,rfl,by first|exact N7.o|(rw [E.o];exact N7.o),B7.o⟩
 by_cases g6:o=6
 ·subst g6;have E:=O (show zN ⟨6,t,(a,b)⟩ v=bg 20 ::(jC v ++ jC (ar v)) from rfl);rw [E.o];have S6:=O (h9 w5 ⟨some ⟨w.heap.size+1,0,none⟩,1,1,jC v⟩ ⟨some ⟨w.heap.size+1+1,0,none⟩,1,1,jC (ar v)⟩ P1.o P2.o 30);have b6:=O (za w5 (.cells #[.slice (some ⟨w.heap.size+1,0,none⟩) 1 1,.slice (some ⟨w.heap.size+1+1,0,none⟩) 1 1] 30));go_wp2_with fail;refine(eI (bg 20) ⟨by decide,by decide,by decide,by decide⟩ _ _ _ _ S6.o (Nat.succ_pos _) (Nat.succ_pos _) (by simp [jC])).mono ?_;rintro e w7 ⟨A7,m7,c7,rfl,ob,b7⟩;have B7:=bh (bh B5 b6.o) b7;have N7:=O ob;clear ob b7;go_wp2_with fail;go_ret;exact⟨A7,m7,c7,rfl,by first|exact N7.o|(rw [E.o];exact N7.o),B7.o⟩
 have f1:(o==1)=false:=beq_eq_false_iff_ne.2 g1;have f2:(o==2)=false:=beq_eq_false_iff_ne.2 g2;have f3:(o==3)=false:=beq_eq_false_iff_ne.2 g3;have f4:(o==4)=false:=beq_eq_false_iff_ne.2 g4;have f5:(o==5)=false:=beq_eq_false_iff_ne.2 g5;have f6:(o==6)=false:=beq_eq_false_iff_ne.2 g6;have E:=O (show zN ⟨o,t,(a,b)⟩ v=zw true by unfold zN;rw [if_neg g1,if_neg g2,if_neg g3,if_neg g4,if_neg g5,if_neg g6]);have N6:=O (dS w5 ⟨1,1,emp,emp⟩ ⟨by decide,by decide,by decide,by decide⟩);have B6:=bh B5 (za w5 (.cells #[.int .i64 1,.int .i64 1,.string ⟨#[]⟩,.string ⟨#[]⟩] 47));rw [E.o];clear g1 g2 g3 g4 g5 g6;go_wp2_with fail;go_ret;exact⟨_,1,1,rfl,by first|exact N6.o|(rw [E.o];exact N6.o),B6.o⟩
theorem l9(A:Option Addr)(n c:Nat)(P:List Nd)(B:Option Addr)(m d:Nat)(Q:List Nd)(w:World)(h:Ns w A n c P)(k:Ns w B m d Q)(h0:0<P.length)(k0:0<Q.length)(hl:P.length+Q.length<=1000):
 Calls Tryz.prog 28 #[.slice A n c,.slice B m d] w (Fq w (eD P Q)):=by
 have S6:=O (h9 w ⟨A,n,c,P⟩ ⟨B,m,d,Q⟩ h k 30);have b6:=O (za w (.cells #[.slice A n c,.slice B m d] 30));clear h k;go_enter Tryz.func28,Tryz.ntmps28;go_wp2_with fail;refine(eI (bg 11) ⟨by decide,by decide,by decide,by decide⟩ _ _ _ _ S6.o h0 k0 hl).mono ?_;rintro e w7 ⟨A7,m7,c7,rfl,ob,b7⟩;have B7:=bh b6 b7;have N7:=O ob;clear ob b7;go_wp2_with fail;go_ret;exact⟨A7,m7,c7,rfl,N7.o,B7.o⟩
def pM(p:Pol):List Nd:=if exprF p=0 then jR p else []
def iU(w:World)(p:Pol)(e:Ending)(w':World):Prop:=∃A n c,e = .returned (.tuple #[.slice A n c,zM (exprF p)])/\Ns w' A n c (pM p)/\Below w.heap.size w w'
theorem Ar{p:Pol}(h:polF p≠0):exprF p=polF p:=zG h _
theorem s7{p:Pol}(h:polF p=0):exprF p=if 200<(jR p).length then 4 else 0:=by
 unfold exprF;rw [h,zn]
theorem ic(w:World):Ns w none 0 0 []:=⟨rfl,Nat.le_refl _,Nat.zero_le _,λk x hx=>by simp at hx,λx hx=>by cases hx⟩
theorem nA(p:Pol)(w:World)(h:ag w p):Calls Tryz.prog 9 #[p.v] w (iU w p):=by
 have V0:=O (rx w p 29);have B0:=O (bT w p 29);have K0:=O (cI p _ (h.keep B0.o));unfold Pol.v at K0 ⊢;have HP:=O h;obtain⟨c0,c1,c2,c3,c4,c5,c6,c7,c8,c9,c10,c11,c12,c13,c14⟩:=V0.o.and;clear h;go_enter Tryz.func9,Tryz.ntmps9;go_wp2_with fail;refine K0.o.mono ?_;rintro e w1 ⟨rfl,b1⟩;have B1:=bh B0 b1;have V1:=O (V0.o.keep b1);clear b1 K0 B0 V0 c0 c1 c2 c3 c4 c5 c6 c7 c8 c9 c10 c11 c12 c13 c14;by_cases g:polF p=0
 case neg =>
  have HE:=O (Ar g);have HV:=O (show pM p = [] from if_neg (by rw [HE.o];exact g));have j7:=O (zl g);rw [j7.o];clear g;go_wp2_with fail;go_ret2;exact⟨none,0,0,by rw [HE.o,j7.o];rfl,by rw [HV.o];exact ic _,B1.o⟩
 have HF:=O (s7 g);obtain⟨-,-,-,-,kW,AQ⟩:=eN g;have HCL:=O (pG AQ);have I9:=O (dj AQ);have Hd:=O (show p.cn=p.C.length from HP.o.cs.len);have hcn:p.cn<=4:=by rw [Hd.o];exact kW
 rw [g,zf];clear g kW AQ;have D1:=O (λw' (_:Below w.heap.size w w')=>ip p.who zZ w' HP.o.who (by decide));have D2:=O (λw' (_:Below w.heap.size w w')=>ip p.act j8 w' HP.o.act (by decide));have D3:=O (λw' (_:Below w.heap.size w w')=>ip p.what jc w' HP.o.what (by decide));unfold Scp.v at D1 D2 D3;have L1:=cH p.who zZ;have L2:=cH p.act j8;have L3:=cH p.what jc;have HK0:=O (show fu p 0=eD (eD (zN p.who zZ) (zN p.act j8)) (zN p.what jc) from rfl);generalize zN p.who zZ=T1 at *;generalize zN p.act j8=T2 at *;generalize zN p.what jc=T3 at *;unfold zZ at D1;unfold j8 at D2;unfold jc at D3;have LA:∀P Q:List Nd,(eD P Q).length=P.length+Q.length+1:=λP Q=>by unfold eD;rw [List.length_cons,List.length_append]
 have HLA:=O LA;have Ly:=O L1;have Lt:=O L2;have HL3:=O L3;clear LA L1 L2 L3;have VD:=O (V1.o.keep (zo w1));have BD:=bh B1 (zo w1);go_wp2_with fail;go_region_held3 (λw':World=>w'.cell? ⟨w.heap.size,0,none⟩=some (.string p.name)/\w'.cell? ⟨w.heap.size,1,none⟩=some (.bool p.forbid)/\w'.cell? ⟨w.heap.size,2,none⟩=some (.int .i64 p.who.op)/\w'.cell? ⟨w.heap.size,3,none⟩=some (.string p.who.t)/\w'.cell? ⟨w.heap.size,4,none⟩=some (.string p.who.u.1)/\w'.cell? ⟨w.heap.size,5,none⟩=some (.string p.who.u.2)/\w'.cell? ⟨w.heap.size,6,none⟩=some (.int .i64 p.act.op)/\w'.cell? ⟨w.heap.size,7,none⟩=some (.string p.act.t)/\w'.cell? ⟨w.heap.size,8,none⟩=some (.string p.act.u.1)/\w'.cell? ⟨w.heap.size,9,none⟩=some (.string p.act.u.2)/\w'.cell? ⟨w.heap.size,10,none⟩=some (.int .i64 p.what.op)/\w'.cell? ⟨w.heap.size,11,none⟩=some (.string p.what.t)/\w'.cell? ⟨w.heap.size,12,none⟩=some (.string p.what.u.1)/\w'.cell? ⟨w.heap.size,13,none⟩=some (.string p.what.u.2)/\w'.cell? ⟨w.heap.size,14,none⟩=some (.slice p.CA p.cn p.cc)) (first|(with_reducible exact V6.o.and)|(with_reducible exact V5.o.and)|(with_reducible exact V4.o.and)|(with_reducible exact V3.o.and)|(with_reducible exact V2.o.and)|(with_reducible exact VD.o.and)|(with_reducible exact V1.o.and)) (first
  |(go_at_call 28;refine(l9 A4 m4 c4 (eD T1 T2) A5 m5 c5 T3 w5 N4.o N5.o (by rw [HLA.o];omega) (by have:=HL3.o;omega) (by rw [HLA.o];have:=Ly.o;have:=Lt.o;have:=HL3.o;omega)).mono ?_;rintro e w6 ⟨A6,m6,c6,rfl,hN,b6⟩;have N6:=O hN;have B6:=bh B5 b6;have V6:=O (V5.o.keep b6))
  |(go_at_call 30;(with_reducible refine(D3.o w4 B4.o).mono ?_);rintro e w5 ⟨A5,m5,c5,rfl,hN,b5⟩;have N5:=O hN;have B5:=bh B4 b5;have V5:=O (V4.o.keep b5);replace N4:=O (N4.o.keep b5))
  |(go_at_call 28;refine(l9 A2 m2 c2 T1 A3 m3 c3 T2 w3 N2.o N3.o (by have:=Ly.o;omega) (by have:=Lt.o;omega) (by have:=Ly.o;have:=Lt.o;omega)).mono ?_;rintro e w4 ⟨A4,m4,c4,rfl,hN,b4⟩;have N4:=O hN;have B4:=bh B3 b4;have V4:=O (V3.o.keep b4))
  |(go_at_call 30;(with_reducible refine(D2.o w2 B2.o).mono ?_);rintro e w3 ⟨A3,m3,c3,rfl,hN,b3⟩;have N3:=O hN;have B3:=bh B2 b3;have V3:=O (V2.o.keep b3);replace N2:=O (N2.o.keep b3))
  |(go_at_call 30;(with_reducible refine(D1.o _ BD.o).mono ?_);rintro e w2 ⟨A2,m2,c2,rfl,hN,b2⟩;have N2:=O hN;have B2:=bh BD b2;have V2:=O (VD.o.keep b2)))
 have M6:=N6;rw [<-HK0.o] at M6;have BX:=B6;obtain⟨c0,c1,c2,c3,c4,c5,c6',c7,c8,c9,c10,c11,c12,c13,c14⟩:=V6.o.and;clear N2 N3 N4 N5 N6 B2 B3 B4 B5 B6 V1 V2 V3 V4 V5 BD VD D1 D2 D3 HK0 B1;have HP6:=O (λw' (hb:Below w.heap.size w w')=>HP.o.cs.keep hb);go_wp2_with fail;go_loopw [6,31] (λv i wr=>∃(k:Nat) (A:Option Addr) (m c:Nat),v = .slice A m c/\i = .int .i64 k/\k<=p.cn/\Hid (Ns wr A m c (fu p k))/\Hid (Below w.heap.size w wr)) (λ_ i _=>p.cn-(intOf i).toNat)
 case atStart=>exact⟨0,A6,m6,_,rfl,rfl,Nat.zero_le _,M6,BX⟩
 case round =>
  obtain⟨k,A,m,c,rfl,rfl,hk,hN,hB⟩:=hrel;clear M6 BX c0 c1 c2 c3 c4 c5 c6' c7 c8 c9 c10 c11 c12 c13 c14 V6;by_cases hlt:k<p.cn
  ·have h1:k<p.C.length:=by rw [<-Hd.o];exact hlt
   have HS:=O (mV h1);obtain⟨hex,-⟩:=I9.o _ (List.getElem_mem h1);obtain⟨a,ea,q0,q1,hs⟩:=(HP6.o _ hB.o).at_ k _ (List.getElem?_eq_getElem h1);have uJ:=HCL.o k (by omega);have hcl2:=pL hex;have HSS:=O hs;generalize p.C[k]=x at *;rw [ea];have BB:=O (za wr (.cells #[.bool x.un,.slice x.A x.n x.c] 57));have HZ:=O hex;have Lj:=O uJ;have AM:=O hcl2;clear hs hex uJ hcl2 ea;cases od:x.un
   ·rw [od] at q0 BB;have LR:=O (show cZ x=x.P by unfold cZ;rw [od];rfl);rw [LR.o] at HS AM;clear od;go_wp2_with fail;refine(l9 A m c (fu p k) x.A x.n x.c x.P _ (hN.o.keep BB.o) (HSS.o.keep BB.o) (by have:=Lj.o;omega) (by have:=AM.o;omega) (by have:=Lj.o;have:=AM.o;omega)).mono ?_;rintro e w7 ⟨A7,m7,c7,rfl,ob,b7⟩;have B7:=bh hB (BB.o.trans (b7.mono BB.o.size));have N7:=O ob;rw [<-HS.o] at N7;clear ob b7 hN hB;go_wp2_with fail;go_roundw
    case rel=>exact⟨k+1,A7,m7,c7,rfl,by go_num,hlt,N7,B7⟩
    case measure=>simp [intOf];omega
   ·rw [od] at q0 BB;have LR:=O (show cZ x=bg 9 :: x.P by unfold cZ;rw [od];rfl);rw [LR.o] at HS AM;clear od;have hz:=(show(wr.alloc (.cells #[.bool true,.slice x.A x.n x.c] 57)).heap.size=wr.heap.size+1 from by simp)
    have S6:=Bt (wr.alloc (.cells #[.bool true,.slice x.A x.n x.c] 57)) ⟨x.A,x.n,x.c,x.P⟩ (HSS.o.keep BB.o) 30;rw [hz] at S6;have S6:=O S6;have BC:=O (BB.o.trans ((za (wr.alloc (.cells #[.bool true,.slice x.A x.n x.c] 57)) (.cells #[.slice x.A x.n x.c] 30)).mono BB.o.size));clear hz;go_wp2_with fail;refine(wV (bg 9) ⟨by decide,by decide,by decide,by decide⟩ _ _ _ S6.o (by show 0<x.P.length;have:=(jq.1 HZ.o);obtain⟨-,y,-,e⟩:=this;rw [e];exact j6 y) (by show x.P.length<=1000;have:=(jq.1 HZ.o).1;omega)).mono ?_;rintro e w6 ⟨A6,m6,c6,rfl,hN6,b6⟩;have B5:=bh BC b6;have B6:=bh hB B5.o;have N6:=O (hN.o.keep B5.o);have M6:=O hN6;clear hN6 b6 hN hB BC BB S6 B5;go_wp2_with fail;refine(l9 A m c (fu p k) A6 m6 c6 (bg 9 :: x.P) w6 N6.o M6.o (by have:=Lj.o;omega) (Nat.succ_pos _) (by have:=Lj.o;have:=AM.o;omega)).mono ?_;rintro e w7 ⟨A7,m7,c7,rfl,ob,b7⟩;have B7:=bh B6 b7;have N7:=O ob;rw [<-HS.o] at N7;clear ob b7;go_wp2_with fail;go_roundw
    case rel=>exact⟨k+1,A7,m7,c7,rfl,by go_num,hlt,N7,B7⟩
    case measure=>simp [intOf];omega
  ·have uL:=hN.o;rw [yQ (by rw [<-Hd.o];omega)] at uL;have HML:=O uL.len;have N2:=O uL;clear uL hN;by_cases g2:200<m
   ·have HE:=O (show exprF p=4 by rw [HF.o,if_pos (by rw [<-HML.o];exact g2)]);have HV:=O (show pM p = [] from if_neg (by rw [HE.o];decide));have f1:decide ((m:Int)> 200)=true:=decide_eq_true (by omega);go_wp2_with fail;go_ret2;exact⟨none,0,0,by rw [HE.o];rfl,by rw [HV.o];exact ic _,hB.o⟩
   ·have HE:=O (show exprF p=0 by rw [HF.o,if_neg (by rw [<-HML.o];exact g2)]);have HV:=O (show pM p=jR p from if_pos HE.o);have f1:decide ((m:Int)> 200)=false:=decide_eq_false (by omega);go_wp2_with fail;go_ret2;exact⟨A,m,c,by rw [HE.o];rfl,by rw [HV.o];exact N2.o,hB.o⟩
end Go.Proofs.YthidiimbeaabhaaGreatDoor
namespace Go.Proofs.YthidiimbeaabhaaGreatDoor
open Go.RowKit Go.Wk
def jK(s:Scp):Prop:=s.op=5\/s.op=6
instance (s:Scp):Decidable (jK s):=inferInstanceAs (Decidable (_\/_))
def jm(s:Scp)(u:Ud):Scp:=if jK s then⟨s.op-4,emp,u⟩ else s
def kZ(p:Pol)(who what:Ud):Pol := { p with who:=jm p.who who,what:=jm p.what what }
def cB(p:Pol)(who what:Ud):Int:=or2 (polF p) (or2 (if jK p.who then zq who else 0) (if jK p.what then zq what else 0))
def jU(who what:Ud)(n:Nd):Nd:=if n.op=8/\n.s=ar zZ then⟨4,0,who.1,who.2⟩ else if n.op=8/\n.s=ar jc then⟨4,0,what.1,what.2⟩ else n
theorem dA{who what:Ud}{n:Nd}(h:n.op≠8):jU who what n=n:=by
 unfold jU;rw [if_neg (λq=>h q.1),if_neg (λq=>h q.1)]
theorem gA{who what:Ud}{n:Nd}(h:n.s.data.toList.head?≠some 63):jU who what n=n:=by
 unfold jU;rw [if_neg (λq=>h (by rw [q.2];decide +kernel)),if_neg (λq=>h (by rw [q.2];decide +kernel))]
theorem iZ(who what:Ud)(k:Int)(h:k≠8):jU who what (bg k)=bg k:=dA h
theorem io{s:Scp}{v:ByteArray}{who what u:Ud}(hv:jU who what ⟨8,0,v,emp⟩=⟨8,0,v,emp⟩)(hs:jK s->jU who what ⟨8,0,ar v,emp⟩=⟨4,0,u.1,u.2⟩):(zN s v).map (jU who what)=zN (jm s u) v:=by
 have hi:jU who what ⟨24,0,s.t,emp⟩=⟨24,0,s.t,emp⟩:=dA (by show(24:Int)≠8;decide);have he:(aY s.u).map (jU who what)=aY s.u:=by
  unfold aY;rw [List.map_cons,List.map_nil,dA (by show(4:Int)≠8;decide)]
 have hw:(jC v).map (jU who what)=jC v:=by
  unfold jC;rw [List.map_cons,List.map_nil,hv]
 have Ep:=iZ who what 14 (by decide);have I2:=iZ who what 20 (by decide);have h11:=iZ who what 11 (by decide);by_cases h5:s.op=5
 ·have hl:(jC (ar v)).map (jU who what)=aY u:=by
   unfold jC aY;rw [List.map_cons,List.map_nil,hs (.inl h5)]
  have e:zN (jm s u) v=bg 14 ::(jC v ++ aY u):=by
   unfold jm;rw [if_pos (.inl h5)];unfold zN;rw [if_pos (show s.op-4=1 by omega)]
  rw [e];unfold zN;rw [if_neg (by omega),if_neg (by omega),if_neg (by omega),if_neg (by omega),if_pos h5,List.map_cons,List.map_append,hw,hl,Ep]
 by_cases h6:s.op=6
 ·have hl:(jC (ar v)).map (jU who what)=aY u:=by
   unfold jC aY;rw [List.map_cons,List.map_nil,hs (.inr h6)]
  have e:zN (jm s u) v=bg 20 ::(jC v ++ aY u):=by
   unfold jm;rw [if_pos (.inr h6)];unfold zN;rw [if_neg (show¬s.op-4=1 by omega),if_pos (show s.op-4=2 by omega)]
  rw [e];unfold zN;rw [if_neg (by omega),if_neg (by omega),if_neg (by omega),if_neg (by omega),if_neg (by omega),if_pos h6,List.map_cons,List.map_append,hw,hl,I2]
 have e:jm s u=s:=by
  unfold jm;rw [if_neg (λq=>q.elim h5 h6)]
 rw [e];unfold zN;split
 ·rw [List.map_cons,List.map_append,hw,he,Ep]
 ·split
  ·rw [List.map_cons,List.map_append,hw,he,I2]
  ·split
   ·rw [List.map_cons,hw,hi]
   ·split
    ·rw [List.map_cons,List.map_append,List.map_cons,List.map_cons,List.map_append,hw,he,hi,h11,I2]
    ·unfold zw;rw [List.map_cons,List.map_nil,dA (by show(1:Int)≠8;decide)]
theorem rf{who what:Ud}(a b:List Nd):(eD a b).map (jU who what)=eD (a.map (jU who what)) (b.map (jU who what)):=by
 unfold eD;rw [List.map_cons,List.map_append,iZ who what 11 (by decide)]
theorem sC{who what:Ud}:∀(L:List (List Nd)) (a:List Nd),(L.foldl eD a).map (jU who what)=(L.map λb=>b.map (jU who what)).foldl eD (a.map (jU who what))
 | [],_=>rfl
 | b :: r,a=>by rw [List.foldl_cons,sC r,rf,List.map_cons,List.foldl_cons]
theorem mq:∀ {C:List Cnd},am C=0->∀c∈C,jg c.P=0/\jI c.P=true
 | [],_,c,hc=>nomatch hc
 | d :: r,h,c,hc=>by
  unfold am at h;obtain⟨h1,h2⟩:=zt.1 h;rcases List.mem_cons.1 hc with rfl|hc
  ·unfold lG at h1;obtain⟨h3,h4⟩:=zt.1 h1;refine⟨h3,?_⟩;cases q:jI c.P
   ·rw [q] at h4;exact absurd h4 (by decide)
   ·rfl
  ·exact mq h2 c hc
theorem DC{who what:Ud}{c:Cnd}(h:jI c.P=true):(cZ c).map (jU who what)=cZ c:=by
 have e:c.P.map (jU who what)=c.P:=by
  unfold jI at h;rw [List.all_eq_true] at h;refine(List.map_congr_left λn hn=>?_).trans (List.map_id _);have h1:=h n hn;show jU who what n=n;by_cases h8:n.op=8
  ·refine gA λq=>?_;simp [h8,q] at h1
  ·exact dA h8
 unfold cZ;split
 ·rw [List.map_cons,e,iZ who what 9 (by decide)]
 ·exact e
theorem pR{p:Pol}(h:zV p.act false=0):¬jK p.act:=λq=>by
 unfold zV at h;rw [if_neg (λe=>by simp [show p.act.op=5\/p.act.op=6 from q] at e)] at h;exact absurd h (by decide)
theorem sy{p:Pol}{who what:Ud}(h:polF p=0):(jR p).map (jU who what)=jR (kZ p who what):=by
 unfold polF at h;obtain⟨-,h⟩:=zt.1 h;obtain⟨-,h⟩:=zt.1 h;obtain⟨ha,h⟩:=zt.1 h;obtain⟨-,h⟩:=zt.1 h;have hC:am p.C=0:=by
  by_cases g:4<p.C.length
  ·rw [if_pos g] at h;exact absurd h (by decide)
  ·rwa [if_neg g] at h
 have hc:(p.C.map cZ).map (λb=>b.map (jU who what))=p.C.map cZ:=by
  rw [List.map_map];exact List.map_congr_left λc hc=>DC (mq hC c hc).2
 have e1:(zN p.who zZ).map (jU who what)=zN (jm p.who who) zZ :=
  io (gA (by decide +kernel)) (λ_=>by unfold jU;rw [if_pos ⟨rfl,rfl⟩])
 have e2:(zN p.act j8).map (jU who what)=zN p.act j8:=by
  have:=io (s:=p.act) (v:=j8) (who:=who) (what:=what) (u:=who) (gA (by decide +kernel)) (λq=>absurd q (pR ha));rw [this];unfold jm;rw [if_neg (pR ha)]
 have e3:(zN p.what jc).map (jU who what)=zN (jm p.what what) jc :=
  io (gA (by decide +kernel)) (λ_=>by unfold jU;rw [if_neg (λq=>absurd q.2 (by decide +kernel)),if_pos ⟨rfl,rfl⟩])
 unfold jR;rw [sC,rf,rf,e1,e2,e3,hc];rfl
end Go.Proofs.YthidiimbeaabhaaGreatDoor
namespace Go.Proofs.YthidiimbeaabhaaGreatDoor
open Go.RowKit Go.Wk Go.Sort
theorem co(s:Scp)(w:World):Calls Tryz.prog 49 #[s.v] w λe w'=>e = .returned (.bool (decide (jK s)))/\Below w.heap.size w w':=by
 obtain⟨o,t,⟨a,b⟩⟩:=s;have B0:=O (za w (.cells #[.int .i64 o,.string t,.string a,.string b] 26));rw [show decide (jK ⟨o,t,(a,b)⟩)=decide (o=5\/o=6) from rfl];unfold Scp.v;dsimp only;by_cases h5:o=5
 ·subst h5;go_enter Tryz.func49,Tryz.ntmps49;go_wp2_with fail;go_ret;exact⟨rfl,B0.o⟩
 ·by_cases h6:o=6
  ·subst h6;clear h5;go_enter Tryz.func49,Tryz.ntmps49;go_wp2_with fail;go_ret;exact⟨rfl,B0.o⟩
  ·have f5:(o==5)=false:=beq_eq_false_iff_ne.2 h5;have f6:(o==6)=false:=beq_eq_false_iff_ne.2 h6;have HD:=O (show decide (o=5\/o=6)=false from decide_eq_false (λq=>q.elim h5 h6));clear h5 h6;go_enter Tryz.func49,Tryz.ntmps49;go_wp2_with fail;go_ret;exact⟨by rw [HD.o];rfl,B0.o⟩
def bM:List Int->Int
 | []=>0
 | r :: s=>or2 r (bM s)
theorem sO{R:List Int}{k:Nat}(h:k<R.length):bM (R.drop k)=or2 R[k] (bM (R.drop (k+1))):=by
 rw [List.drop_eq_getElem_cons h];rfl
theorem bj(R:List Int)(a:Addr)(n c:Nat)(w:World)(hn:n=R.length)(hm:n<=10)(h:∀k r,R[k]?=some r->w.cell? (a.add k)=some (zM r)):
 Calls Tryz.prog 23 #[.slice (some a) n c] w λe w'=>e = .returned (zM (bM R))/\w'=w:=by
 have HC:=O h;have HN:=O hn;clear h hn;go_enter Tryz.func23,Tryz.ntmps23;go_wp2_with fail;go_loopw [7] (λi wr=>∃k:Nat,i = .int .i64 k/\k<=n/\Hid (bM R=bM (R.drop k))/\wr=w) (λi _=>n-(intOf i).toNat)
 case atStart=>exact⟨0,rfl,Nat.zero_le _,O rfl,rfl⟩
 case round =>
  obtain⟨k,rfl,hk,hF,rfl⟩:=hrel;by_cases hlt:k<n
  ·have aV:k<R.length:=by rw [<-HN.o];exact hlt
   have q:=HC.o k _ (List.getElem?_eq_getElem aV);have HF:=O (hF.o.trans (sO aV));generalize R[k]=r at *;clear hF aV;by_cases g:r=0
   ·rw [g,zf] at q;rw [g,zn] at HF;clear g;go_wp2_with fail;go_roundw
    case rel=>exact⟨k+1,by go_num,hlt,HF,by first|rfl|trivial⟩
    case measure=>simp [intOf];omega
   ·have j7:=O (zl g);rw [j7.o] at q;rw [zG g] at HF;clear g;go_wp2_with fail;go_ret;exact⟨by rw [HF.o,j7.o];rfl,rfl⟩
  ·have HF:=O (show bM R=0 by rw [hF.o,List.drop_eq_nil_of_le (by rw [<-HN.o];omega)];rfl);clear hF;go_wp2_with fail;go_ret;exact⟨by rw [HF.o];rfl,rfl⟩
structure fg(w:World)(base:Nat)(v:Value)(N:List ByteArray):Prop where
 own:w.ownsRow base 9 1 v N.length (N.map Value.string)
theorem fL(w:World)(base:Nat):fg w base (.slice none 0 0) []:=⟨World.ownsRow_nil _ _ _ _⟩
theorem fg.keepN{w w':World}{base:Nat}{v:Value}{N:List ByteArray}(h:fg w base v N)(hb:Below w.heap.size w w'):fg w' base v N:=⟨h.own.kept (zj hb none) (by cases hv:v.ownBlock <;> simp)⟩
theorem fg.but{w w':World}{base:Nat}{v:Value}{N:List ByteArray}{g:Option Nat}(h:fg w base v N)(hg:w.grownBy w' g)(hn:v.ownBlock=none\/v.ownBlock≠g):fg w' base v N:=⟨h.own.kept hg hn⟩
theorem fg.txs{w:World}{base:Nat}{v:Value}{N:List ByteArray}(h:fg w base v N)(hN:∀x∈N,x.size<=maxLen)(hl:N.length<=1000000):∃A c,v = .slice A N.length c/\Txs w A N.length c N:=by
 rcases h.own.2 with ⟨rfl,h0⟩|⟨g,cap,cur,rfl,hB,hg,hc,hcm,_⟩
 ·have e:N = []:=List.eq_nil_of_length_eq_zero h0;subst e;exact⟨none,0,rfl,rfl,Nat.le_refl _,Nat.zero_le _,λk x hx=>by simp at hx,hN⟩
 ·refine⟨some ⟨g,0,none⟩,cap,rfl,rfl,hc,by unfold maxLen;omega,λk x hx=>⟨_,rfl,?_⟩,hN⟩;exact h.own.cells (g:=g) rfl k _ (by rw [List.getElem?_map,hx];rfl)
theorem jM{ops:Array Oper}{rest:List Oper}{o:Oper}{a:Act}{w:World}{Q:Exit->Act->World->Prop}(hgd:o.guard=none)(s x:Operand)
 (ho:o.op = .call { callee := .builtin .append,args:=#[s,x],argTypes:=#[38,38] })
 (base:Nat) (v:Value) (N:List ByteArray) (hs:a.eval s=v) (hrow:fg w base v N) (z:ByteArray) (ad:Addr) (m c:Nat) (hx:a.eval x = .slice (some ad) m c) (hm:m=1)
 (hnew:w.cell? ad=some (.string z)) (hl:N.length<=1000000) (hbase:base<=w.heap.size)
 (h:∀v' w',fg w' base v' (N ++ [z])->w.grownBy w' v.ownBlock->(v'.ownBlock=v.ownBlock\/v'.ownBlock=some w.heap.size)->wpList Tryz.prog ops Q rest (a.put o.dst v') w'):wpList Tryz.prog ops Q (o :: rest) a w:=by
 subst hm;obtain⟨i0,hi,hz0,hz1,hz2⟩:=info_parts iL;refine wpList_append_own_at w hgd s x _ ho base _ i0 _ 1 16 Tryz.underlying38 hi hz0 hz1 hz2 (by decide) (by decide) v N.length (N.map Value.string) hs hrow.own ad 1 c [.string z] hx rfl ?_ ?_ (by unfold maxLen;omega) (by omega) hbase ?_
 ·intro j u hu
  match j,hu with
  | 0,hu =>
   simp at hu
   subst hu
   exact hnew
 ·intro u hu;simp at hu;subst hu;rfl
 ·intro v' w' h1 h2 _ h4;refine h v' w' ⟨by rw [List.length_append,List.map_append];exact h1⟩ h2 h4
def ko(p:Pol):Bool:=decide (jK p.who)|| decide (jK p.what)
def sS(w:World)(p:Pol)(e:Ending)(w':World):Prop:=∃A n c,e = .returned (.tuple #[.slice A n c,.nilIface])/\decide (0<n)=ko p/\Below w.heap.size w w'
theorem vf(p:Pol)(w:World)(h:ag w p)(hp:polF p=0):Calls Tryz.prog 56 #[p.v] w (sS w p):=by
 have V0:=O (rx w p 29);have B0:=O (bT w p 29);have K0:=O (cI p _ (h.keep B0.o));rw [hp,zf] at K0;have S1:=O (λw'=>co p.who w');have S2:=O (λw'=>co p.what w');unfold Scp.v at S1 S2;unfold Pol.v at K0 ⊢;have HH:=O (show ko p=(decide (jK p.who)|| decide (jK p.what)) from rfl);generalize Li:decide (jK p.who)=d1 at *;generalize hd2:decide (jK p.what)=d2 at *;clear Li hd2;obtain⟨c0,c1,c2,c3,c4,c5,c6,c7,c8,c9,c10,c11,c12,c13,c14⟩:=V0.o.and;clear h hp;go_enter Tryz.func56,Tryz.ntmps56;go_wp2_with fail;refine K0.o.mono ?_;rintro e w1 ⟨rfl,b1⟩;have B1:=bh B0 b1;have V1:=O (V0.o.keep b1);clear b1 K0 B0 V0 c0 c1 c2 c3 c4 c5 c6 c7 c8 c9 c10 c11 c12 c13 c14;obtain⟨c0,c1,c2,c3,c4,c5,c6,c7,c8,c9,c10,c11,c12,c13,c14⟩:=V1.o.and;go_wp2_with fail;refine(S1.o _).mono ?_;rintro e w2 ⟨rfl,b2⟩;have B2:=bh B1 b2;have V2:=O (V1.o.keep b2);clear b2 B1 V1 S1 c0 c1 c2 c3 c4 c5 c6 c7 c8 c9 c10 c11 c12 c13 c14;obtain⟨c0,c1,c2,c3,c4,c5,c6,c7,c8,c9,c10,c11,c12,c13,c14⟩:=V2.o.and;cases d1
 ·go_wp2_with fail;refine(S2.o _).mono ?_;rintro e w3 ⟨rfl,b3⟩;have B3:=bh B2 b3;clear b3 B2 V2 S2 c0 c1 c2 c3 c4 c5 c6 c7 c8 c9 c10 c11 c12 c13 c14;cases d2
  ·go_wp2_with fail;go_ret2;exact⟨none,0,0,rfl,by rw [HH.o];rfl,B3.o⟩
  ·have N4:=zr (k:=0) (heap_alloc_last w3 (.cells #[.string ⟨#[63,114,101,115,111,117,114,99,101]⟩] 9)) rfl;go_wp2_with (at_builtin;refine jM rfl _ _ rfl w3.heap.size (.slice none 0 0) [] rfl (fL _ _) ⟨#[63,114,101,115,111,117,114,99,101]⟩ ⟨w3.heap.size,0,none⟩ 1 1 rfl rfl N4 (by simp) (by simp) ?_);intro v5 w5 hrow hgrow _;obtain⟨A5,c5,rfl,-⟩:=hrow.txs (by intro x hx;simp at hx;subst hx;decide) (by simp);have B5:=bh B3 ((za w3 (.cells #[.string ⟨#[63,114,101,115,111,117,114,99,101]⟩] 9)).grown hgrow (by simp) (λg hg=>by simp [Value.ownBlock] at hg));clear hrow hgrow N4;go_wp2_with fail;go_ret2;exact⟨A5,1,c5,rfl,by rw [HH.o];rfl,B5.o⟩
 ·have N4:=zr (k:=0) (heap_alloc_last w2 (.cells #[.string ⟨#[63,112,114,105,110,99,105,112,97,108]⟩] 9)) rfl;go_wp2_with (at_builtin;refine jM rfl _ _ rfl w2.heap.size (.slice none 0 0) [] rfl (fL _ _) ⟨#[63,112,114,105,110,99,105,112,97,108]⟩ ⟨w2.heap.size,0,none⟩ 1 1 rfl rfl N4 (by simp) (by simp) ?_);intro v5 w5 hrow hgrow _;have R5:=O hrow;have b5:=(za w2 (.cells #[.string ⟨#[63,112,114,105,110,99,105,112,97,108]⟩] 9)).grown hgrow (by simp) (λg hg=>by simp [Value.ownBlock] at hg);have B5:=bh B2 b5;have V5:=O (V2.o.keep b5);have HZ5:=O b5.size;have Kt:=O B2.o.size;clear hrow hgrow N4 b5 B2 V2 c0 c1 c2 c3 c4 c5 c6 c7 c8 c9 c10 c11 c12 c13 c14;obtain⟨c0,c1,c2,c3,c4,c5,c6,c7,c8,c9,c10,c11,c12,c13,c14⟩:=V5.o.and;obtain⟨A5,cp5,rfl,-⟩:=R5.o.txs (by intro x hx;simp at hx;subst hx;decide) (by simp);go_wp2_with fail;refine(S2.o _).mono ?_;rintro e w6 ⟨rfl,b6⟩;have B6:=bh B5 b6;have R6:=O (R5.o.keepN b6);have HZ6:=O (Nat.le_trans HZ5.o b6.size);clear b6 B5 V5 S2 R5 HZ5 c0 c1 c2 c3 c4 c5 c6 c7 c8 c9 c10 c11 c12 c13 c14;cases d2
  ·go_wp2_with fail;go_ret2;exact⟨A5,1,cp5,rfl,by rw [HH.o];rfl,B6.o⟩
  ·have N4:=zr (k:=0) (heap_alloc_last w6 (.cells #[.string ⟨#[63,114,101,115,111,117,114,99,101]⟩] 9)) rfl;have RA:=O (R6.o.keepN (za w6 (.cells #[.string ⟨#[63,114,101,115,111,117,114,99,101]⟩] 9)));go_wp2_with (at_builtin;refine jM rfl _ _ rfl w2.heap.size (.slice A5 1 cp5) [⟨#[63,112,114,105,110,99,105,112,97,108]⟩] rfl RA.o ⟨#[63,114,101,115,111,117,114,99,101]⟩ ⟨w6.heap.size,0,none⟩ 1 1 rfl rfl N4 (by simp) (by simp;exact Nat.le_succ_of_le HZ6.o) ?_);intro v7 w7 hrow hgrow _;obtain⟨A7,c7,rfl,-⟩:=hrow.txs (by intro x hx;simp at hx;rcases hx with rfl|rfl <;> decide) (by simp);have B7:=O ((B6.o.trans ((za w6 (.cells #[.string ⟨#[63,114,101,115,111,117,114,99,101]⟩] 9)).mono B6.o.size)).grown hgrow (Nat.le_trans B6.o.size (by simp)) (λg hg=>Nat.le_trans Kt.o (RA.o.own.lt g hg).1));clear hrow hgrow N4;go_wp2_with fail;go_ret2;exact⟨A7,2,c7,rfl,by rw [HH.o];rfl,B7.o⟩
theorem sr:Go.Maps.Keyed Tryz.prog 9:=Go.Maps.string_keyed Tryz.underlying9
theorem F'(w:World):(zeroValue 3).run Tryz.prog w = .ok (.int .i64 0) w:=by kernel_rfl
def fN(N:List ByteArray):List (ByteArray × Value):=N.zipIdx.map λp=>(p.1,.int .i64 p.2)
theorem vI(N:List ByteArray)(x:ByteArray):fN (N ++ [x])=fN N ++ [(x,.int .i64 N.length)]:=by
 unfold fN;rw [List.zipIdx_append,List.map_append];simp
theorem yJ(N:List ByteArray)(x:ByteArray):((fN N).any λp=>decide (p.1=x))=yC N x:=by
 have e:((fN N).any λp=>decide (p.1=x))=((fN N).map (·.1)).any λy=>decide (y=x):=by rw [List.any_map];rfl
 have e2:(fN N).map (·.1)=N:=by
  unfold fN;rw [List.map_map];exact List.zipIdx_map_fst 0 N
 rw [e,e2];rfl
theorem uU{ps:List Pol}{k:Nat}(h:k<ps.length)(L:List ByteArray):kp L (ps.drop k)=or2 (polF ps[k]) (or2 (if yC L ps[k].name then 6 else 0) (or2 (exprF ps[k]) (or2 (if ko ps[k] then 1 else 0) (kp (L ++ [ps[k].name]) (ps.drop (k+1)))))):=by
 rw [List.drop_eq_getElem_cons h];rfl
theorem xI(w:World)(p:Pol):Bxs (w.alloc (.cells #[.string p.name,.bool p.forbid,.int .i64 p.who.op,.string p.who.t,.string p.who.u.1,.string p.who.u.2,.int .i64 p.act.op,.string p.act.t,.string p.act.u.1,.string p.act.u.2,.int .i64 p.what.op,.string p.what.t,.string p.what.u.1,.string p.what.u.2,.slice p.CA p.cn p.cc] 29)) w.heap.size p.cs:=jF w _ _
theorem bk(A:Option Addr)(n c:Nat)(ps:List Pol)(w:World)(h:Pls w A n c ps):
 Calls Tryz.prog 25 #[.slice A n c] w λe w'=>e = .returned (zM (jN ps))/\Below w.heap.size w w':=by
 have Hf:=@run_makeMap Tryz.prog;have HN:=O h.len;have lZ:=h.max;unfold maxLen at lZ;by_cases h12:12<n
 ·have HR:=O (show jN ps=4 by unfold jN;rw [if_pos (by rw [<-HN.o];exact h12)]);have f1:decide ((n:Int)> 12)=true:=decide_eq_true (by omega);clear h h12;go_enter Tryz.func25,Tryz.ntmps25;go_wp2_with fail;go_ret;exact⟨by rw [HR.o];rfl,Below.refl _ _⟩
 have HR:=O (show jN ps=kp [] ps by unfold jN;rw [if_neg (by rw [<-HN.o];exact h12)]);have f1:decide ((n:Int)> 12)=false:=decide_eq_false (by omega);have HS:=O h;have h13:n<=12:=by omega
 clear h h12;go_enter Tryz.func25,Tryz.ntmps25;go_wp2_with fail;go_loopw [20] (λi wr=>∃k:Nat,i = .int .i64 k/\k<=n/\Hid (kp [] ps=kp ((ps.take k).map Pol.name) (ps.drop k))/\Hid (wr.ownsMap Tryz.prog 9 aD w.heap.size k (ig (fN ((ps.take k).map Pol.name))))/\Hid (Below w.heap.size w wr)) (λi _=>n-(intOf i).toNat)
 case atStart=>exact⟨0,rfl,Nat.zero_le _,O (by simp),O (World.ownsMap_made _ _ _ _),O (za _ _)⟩
 case round =>
  obtain⟨k,rfl,hk,hF,hO,hB⟩:=hrel;by_cases hlt:k<n
  ·have uI:k<ps.length:=by rw [<-HN.o];exact hlt
   have HF:=O (hF.o.trans (uU uI _));obtain⟨a,ea,D,-⟩:=(HS.o.keep hB.o).at_ k _ (List.getElem?_eq_getElem uI);have uK:=O (λw' (hb:Below w.heap.size w w')=>(let ⟨_,_,_,h⟩:=(HS.o.keep hb).at_ k _ (List.getElem?_eq_getElem uI);h:ag w' ps[k]));have HNL:=O (show((ps.take (k+1)).map Pol.name)=((ps.take k).map Pol.name)++ [ps[k].name] by rw [List.take_succ_eq_append_getElem uI,List.map_append];rfl);have HNN:=O (show((ps.take k).map Pol.name).length=k by rw [List.length_map,List.length_take];omega);generalize hNS1:((ps.take (k+1)).map Pol.name)=NS1 at *;generalize hNS:((ps.take k).map Pol.name)=NS at *;have zz:=O (uK.o w (Below.refl _ _)).name;have C1:=O (λw' (hb:Below w.heap.size w w')=>cI ps[k] w' (uK.o w' hb));have C2:=O (λw' (hb:Below w.heap.size w w')=>nA ps[k] w' (uK.o w' hb));have C3:=O (λw' (hb:Below w.heap.size w w') (h0:polF ps[k]=0)=>vf ps[k] w' (uK.o w' hb) h0);unfold Pol.v at C1 C2 C3;unfold iU at C2;unfold sS at C3;generalize ps[k]=p at *;obtain⟨d0,d1,d2,d3,d4,d5,d6,d7,d8,d9,d10,d11,d12,d13,d14⟩:=D;have BB:=O (bT wr p 29);have K1:=O (xI wr p);have Ev:=O hO.o.lt;have BP:=O (hB.o.trans (BB.o.mono hB.o.size));rw [ea];clear hF uK ea;go_wp2_with fail;refine(C1.o _ BP.o).mono ?_;rintro e w1 ⟨rfl,b1⟩;have BW:=O (BB.o.trans (b1.mono BB.o.size));have O1:=O (jr hO.o BW.o);have B1:=O (hB.o.trans (BW.o.mono hB.o.size));have X1:=O (K1.o.keep b1);clear b1 BB K1 hO hB BW BP C1 d0 d1 d2 d3 d4 d5 d6 d7 d8 d9 d10 d11 d12 d13 d14;by_cases g1:polF p=0
   case neg =>
    have j7:=O (zl g1);have HE:=O (show jN ps=polF p by rw [HR.o,HF.o,zG g1]);rw [j7.o];generalize polF p=r at *;clear g1;go_wp2_with fail;go_ret;exact⟨by rw [HE.o,j7.o];rfl,B1.o⟩
   rw [g1,zn] at HF;rw [g1,zf];have G1:=O g1;clear g1;obtain⟨c0,c1,c2,c3,c4,c5,c6,c7,c8,c9,c10,c11,c12,c13,c14⟩:=X1.o.vp.and;have HK:=O (show keyOf Tryz.prog 9 (.string p.name)=some (kg p.name) from WideMaps.keyOf_string_mk Tryz.underlying9 zz.o);have HA:=O ((sW (fN NS) p.name).trans (yJ NS p.name));go_wp2_with (at_lookup;refine wpList_lookup_own_ok _ rfl _ _ 122 rfl 9 3 sr Tryz.underlying122 aD (F' _) _ [] rfl w.heap.size k _ rfl O1.o _ _ rfl HK.o ?_);intro v qs hv;rw [HA.o];clear hv HA;by_cases g2:yC NS p.name=true
   ·rw [if_pos g2,zG (by decide)] at HF;have HE:=O (show jN ps=6 by rw [HR.o,HF.o]);rw [g2];clear g2;go_wp2_with fail;go_ret;exact⟨by rw [HE.o];rfl,B1.o⟩
   rw [if_neg g2,zn] at HF;rw [Bool.eq_false_iff.2 g2];clear g2;go_wp2_with (at_mapUpdate;refine wpList_mapUpdate_own _ rfl _ _ _ 122 rfl 9 3 sr Tryz.underlying122 aD w.heap.size k _ rfl O1.o (by unfold maxLen;omega) _ _ _ rfl rfl HK.o _ [] rfl ?_);intro w4 hown hgrow;have O4:=O (show w4.ownsMap Tryz.prog 9 aD w.heap.size (k+1) (ig (fN NS1)) by
    rw [HNL.o,vI,eb,HNN.o];exact hown)
   have B4:=O (B1.o.grown hgrow B1.o.size (λg hg=>by cases hg;exact Nat.le_refl _));have X4:=O (X1.o.but hgrow (by intro h;injection h with h;have:=Ev.o;omega));clear hown hgrow O1 B1 X1 HK c0 c1 c2 c3 c4 c5 c6 c7 c8 c9 c10 c11 c12 c13 c14;obtain⟨c0,c1,c2,c3,c4,c5,c6,c7,c8,c9,c10,c11,c12,c13,c14⟩:=X4.o.vp.and;go_wp2_with fail;refine(C2.o _ B4.o).mono ?_;rintro e w5 ⟨A5,n5,c5',rfl,-,b5⟩;have O5:=O (jr O4.o b5);have B5:=bh B4 b5;have X5:=O (X4.o.keep b5);clear b5 O4 B4 X4 C2 c0 c1 c2 c3 c4 c5 c6 c7 c8 c9 c10 c11 c12 c13 c14;by_cases g3:exprF p=0
   case neg =>
    rw [zG g3] at HF;have j7:=O (zl g3);have HE:=O (show jN ps=exprF p by rw [HR.o,HF.o]);rw [j7.o];generalize exprF p=r at *;clear g3;go_wp2_with fail;go_ret;exact⟨by rw [HE.o,j7.o];rfl,B5.o⟩
   rw [g3,zn] at HF;rw [g3,zf];clear g3;obtain⟨c0,c1,c2,c3,c4,c5,c6,c7,c8,c9,c10,c11,c12,c13,c14⟩:=X5.o.vp.and;go_wp2_with fail;refine(C3.o _ B5.o G1.o).mono ?_;rintro e w6 ⟨A6,n6,c6',rfl,Jg,b6⟩;have O6:=O (jr O5.o b6);have B6:=bh B5 b6;clear b6 O5 B5 X5 C3 c0 c1 c2 c3 c4 c5 c6 c7 c8 c9 c10 c11 c12 c13 c14;by_cases g4:0<n6
   ·have hs:ko p=true:=by rw [<-Jg];exact decide_eq_true g4
    rw [if_pos hs,zG (by decide)] at HF;have HE:=O (show jN ps=1 by rw [HR.o,HF.o]);have f2:decide ((n6:Int)> 0)=true:=decide_eq_true (by omega);clear hs Jg;go_wp2_with fail;go_ret;exact⟨by rw [HE.o];rfl,B6.o⟩
   ·have hs:¬ko p=true:=by rw [<-Jg];exact λq=>g4 (of_decide_eq_true q)
    rw [if_neg hs,zn,<-HNL.o] at HF;have f2:decide ((n6:Int)> 0)=false:=decide_eq_false (by omega);clear hs Jg;go_wp2_with fail;go_roundw
    case rel=>exact⟨k+1,by go_num,hlt,by rw [hNS1];exact HF,O (by rw [hNS1];exact O6.o),B6⟩
    case measure=>simp [intOf];omega
  ·have HE:=O (show jN ps=0 by rw [HR.o,hF.o,List.drop_eq_nil_of_le (by rw [<-HN.o];omega)];rfl);clear hF;go_wp2_with fail;go_ret;exact⟨by rw [HE.o];rfl,hB.o⟩
theorem dQ(w:World)(c0 c1:Array Value)(t0 t1:TypeId):Bxs ((w.alloc (.cells c0 t0)).alloc (.cells c1 t1)) w.heap.size c0.toList/\Bxs ((w.alloc (.cells c0 t0)).alloc (.cells c1 t1)) (w.heap.size+1) c1.toList/\Below w.heap.size w ((w.alloc (.cells c0 t0)).alloc (.cells c1 t1)):=by
 have hz:(w.alloc (.cells c0 t0)).heap.size=w.heap.size+1:=by simp
 have b1:=za w (.cells c0 t0);have y:=jF (w.alloc (.cells c0 t0)) c1 t1;rw [hz] at y;exact⟨(jF w c0 t0).keep (za _ _),y,b1.trans ((za _ _).mono b1.size)⟩
theorem qy(w:World)(c0 c1 c2:Array Value)(t0 t1 t2:TypeId):Bxs (((w.alloc (.cells c0 t0)).alloc (.cells c1 t1)).alloc (.cells c2 t2)) w.heap.size c0.toList/\Bxs (((w.alloc (.cells c0 t0)).alloc (.cells c1 t1)).alloc (.cells c2 t2)) (w.heap.size+1) c1.toList/\Bxs (((w.alloc (.cells c0 t0)).alloc (.cells c1 t1)).alloc (.cells c2 t2)) (w.heap.size+1+1) c2.toList/\Below w.heap.size w (((w.alloc (.cells c0 t0)).alloc (.cells c1 t1)).alloc (.cells c2 t2)):=by
 obtain⟨x,y,b⟩:=dQ w c0 c1 t0 t1;have hz:((w.alloc (.cells c0 t0)).alloc (.cells c1 t1)).heap.size=w.heap.size+1+1:=by simp
 generalize (w.alloc (.cells c0 t0)).alloc (.cells c1 t1)=W at *;have z:=jF W c2 t2;rw [hz] at z;exact⟨x.keep (za _ _),y.keep (za _ _),z,b.trans ((za _ _).mono b.size)⟩
theorem nF(w:World)(c0 c1 c2 c3:Array Value)(t0 t1 t2 t3:TypeId):Bxs ((((w.alloc (.cells c0 t0)).alloc (.cells c1 t1)).alloc (.cells c2 t2)).alloc (.cells c3 t3)) w.heap.size c0.toList/\Bxs ((((w.alloc (.cells c0 t0)).alloc (.cells c1 t1)).alloc (.cells c2 t2)).alloc (.cells c3 t3)) (w.heap.size+1) c1.toList/\Bxs ((((w.alloc (.cells c0 t0)).alloc (.cells c1 t1)).alloc (.cells c2 t2)).alloc (.cells c3 t3)) (w.heap.size+1+1) c2.toList/\Bxs ((((w.alloc (.cells c0 t0)).alloc (.cells c1 t1)).alloc (.cells c2 t2)).alloc (.cells c3 t3)) (w.heap.size+1+1+1) c3.toList/\Below w.heap.size w ((((w.alloc (.cells c0 t0)).alloc (.cells c1 t1)).alloc (.cells c2 t2)).alloc (.cells c3 t3)):=by
 obtain⟨x,y,z,b⟩:=qy w c0 c1 c2 t0 t1 t2;have hz:(((w.alloc (.cells c0 t0)).alloc (.cells c1 t1)).alloc (.cells c2 t2)).heap.size=w.heap.size+1+1+1:=by simp
 generalize ((w.alloc (.cells c0 t0)).alloc (.cells c1 t1)).alloc (.cells c2 t2)=W at *;have u:=jF W c3 t3;rw [hz] at u;exact⟨x.keep (za _ _),y.keep (za _ _),z.keep (za _ _),u,b.trans ((za _ _).mono b.size)⟩
theorem Bxs.set4{w:World}{b:Nat}{x0 x1 x2 x3:Value}(h:Bxs w b [x0,x1,x2,x3])(y0 y1 y2 y3:Value):Bxs ((((w.setCell ⟨b,0,none⟩ y0).setCell ⟨b,1,none⟩ y1).setCell ⟨b,2,none⟩ y2).setCell ⟨b,3,none⟩ y3) b [y0,y1,y2,y3] :=
 (((h.set 0 y0 (by simp)).set 1 y1 (by simp)).set 2 y2 (by simp)).set 3 y3 (by simp)
theorem aQ{B b:Nat}{a w:World}(h:Below B a w)(hb:B<=b)(k:Nat)(y0 y1 y2 y3:Value):Below B a ((((w.setCell ⟨b,k,none⟩ y0).setCell ⟨b,k+1,none⟩ y1).setCell ⟨b,k+2,none⟩ y2).setCell ⟨b,k+3,none⟩ y3):=
 (((h.setCell (p:=⟨b,k,none⟩) hb y0).setCell (p:=⟨b,k+1,none⟩) hb y1).setCell (p:=⟨b,k+2,none⟩) hb y2).setCell (p:=⟨b,k+3,none⟩) hb y3
def bA(s:Scp)(u:Ud):Int:=if jK s then zq u else 0
def bI(s:Scp)(u:Ud):Scp:=if bA s u=0 then jm s u else⟨0,emp,noU⟩
theorem Ai(o:Int)(t a b:ByteArray)(u:Ud)(w:World)(hu:u.1.size<=maxLen/\u.2.size<=maxLen)(hs:¬jK ⟨o,t,(a,b)⟩):
 Calls Tryz.prog 20 #[.agg #[.int .i64 o,.string t,.string a,.string b],.agg #[.string u.1,.string u.2]] w λe w'=>e = .returned (.tuple #[(bI ⟨o,t,(a,b)⟩ u).v,zM (bA ⟨o,t,(a,b)⟩ u)])/\Below w.heap.size w w':=by
 obtain⟨x,y,z,b0⟩:=qy w #[.int .i64 o,.string t,.string a,.string b] #[.string u.1,.string u.2] #[.int .i64 0,.string ⟨#[]⟩,.string ⟨#[]⟩,.string ⟨#[]⟩] 26 24 26;have CS:=O (λw'=>co ⟨o,t,(a,b)⟩ w');unfold Scp.v at CS;dsimp only at CS;rw [show decide (jK ⟨o,t,(a,b)⟩)=false from decide_eq_false hs] at CS;have CW:=O (λw'=>jP u.1 u.2 w' hu.1 hu.2);obtain⟨q0,q1,q2,q3⟩:=x.sc;have y0:=y.c 0 _ rfl;have y1:=y.c 1 _ rfl;have HE:=O (show bA ⟨o,t,(a,b)⟩ u=0 from if_neg hs);have HV:=O (show bI ⟨o,t,(a,b)⟩ u=⟨o,t,(a,b)⟩ by unfold bI;rw [HE.o,if_pos rfl];unfold jm;rw [if_neg hs]);clear hu hs;go_enter Tryz.func20,Tryz.ntmps20;go_wp2_with fail;obtain⟨W,hW⟩:∃W,(((w.alloc (.cells #[.int .i64 o,.string t,.string a,.string b] 26)).alloc (.cells #[.string u.1,.string u.2] 24)).alloc (.cells #[.int .i64 0,.string ⟨#[]⟩,.string ⟨#[]⟩,.string ⟨#[]⟩] 26))=W:=⟨_,rfl⟩
 rw [hW] at x y z b0 q0 q1 q2 q3 y0 y1 ⊢;have X:=O x;have Y:=O y;have Z:=O z;have B:=O b0;clear x y z b0 hW q0 q1 q2 q3 y0 y1;refine(CS.o _).mono ?_;rintro e w4 ⟨rfl,b4⟩;have B4:=bh B b4;have X4:=O (X.o.keep b4);have Y4:=O (Y.o.keep b4);have Z4:=O (Z.o.keep b4);clear b4 B X Y Z CS;obtain⟨q0,q1,q2,q3⟩:=X4.o.sc;have y0:=Y4.o.c 0 _ rfl;have y1:=Y4.o.c 1 _ rfl;obtain⟨r0,r1,r2,r3⟩:=Z4.o.sc;have f0:=Z4.o.z 0;have f1:=Z4.o.z 1;have f2:=Z4.o.z 2;have f3:=Z4.o.z 3;obtain⟨g0,g1,g2,g3⟩:=(show Bxs _ _ [.int .i64 o,.string t,.string a,.string b] from Z4.o.set4 (.int .i64 o) (.string t) (.string a) (.string b)).sc;go_wp2_with fail;refine bodyPost_ret (v := .tuple #[.agg #[.int .i64 o,.string t,.string a,.string b],.nilIface]) (by simp [results,Tryz.results20,go_sem,g0,g1,g2,g3]) rfl ⟨?_,aQ B4.o (by omega) 0 _ _ _ _⟩;rw [HE.o,HV.o];rfl
theorem DZ(t a b:ByteArray)(u:Ud)(w:World)(hu:u.1.size<=maxLen/\u.2.size<=maxLen):
 Calls Tryz.prog 20 #[.agg #[.int .i64 5,.string t,.string a,.string b],.agg #[.string u.1,.string u.2]] w λe w'=>e = .returned (.tuple #[(bI ⟨5,t,(a,b)⟩ u).v,zM (bA ⟨5,t,(a,b)⟩ u)])/\Below w.heap.size w w':=by
 obtain⟨x,y,z,b0⟩:=qy w #[.int .i64 5,.string t,.string a,.string b] #[.string u.1,.string u.2] #[.int .i64 0,.string ⟨#[]⟩,.string ⟨#[]⟩,.string ⟨#[]⟩] 26 24 26;have CS:=O (λw'=>co ⟨5,t,(a,b)⟩ w');unfold Scp.v at CS;dsimp only at CS;rw [show decide (jK ⟨5,t,(a,b)⟩)=true from rfl] at CS;have CW:=O (λw'=>jP u.1 u.2 w' hu.1 hu.2);obtain⟨q0,q1,q2,q3⟩:=x.sc;have y0:=y.c 0 _ rfl;have y1:=y.c 1 _ rfl;have HE:=O (show bA ⟨5,t,(a,b)⟩ u=zq u from if_pos (.inl rfl));have Gu:=O (λh0:zq u=0=>(show bI ⟨5,t,(a,b)⟩ u=⟨1,emp,u⟩ by unfold bI;rw [HE.o,if_pos h0];unfold jm;rw [if_pos (.inl rfl)];rfl));have Mg:=O (λh0:zq u≠0=>(show bI ⟨5,t,(a,b)⟩ u=⟨0,emp,noU⟩ by unfold bI;rw [HE.o,if_neg h0]));clear hu;go_enter Tryz.func20,Tryz.ntmps20;go_wp2_with fail;obtain⟨W,hW⟩:∃W,(((w.alloc (.cells #[.int .i64 5,.string t,.string a,.string b] 26)).alloc (.cells #[.string u.1,.string u.2] 24)).alloc (.cells #[.int .i64 0,.string ⟨#[]⟩,.string ⟨#[]⟩,.string ⟨#[]⟩] 26))=W:=⟨_,rfl⟩
 rw [hW] at x y z b0 q0 q1 q2 q3 y0 y1 ⊢;have X:=O x;have Y:=O y;have Z:=O z;have B:=O b0;clear x y z b0 hW q0 q1 q2 q3 y0 y1;refine(CS.o _).mono ?_;rintro e w4 ⟨rfl,b4⟩;have B4:=bh B b4;have X4:=O (X.o.keep b4);have Y4:=O (Y.o.keep b4);have Z4:=O (Z.o.keep b4);clear b4 B X Y Z CS;obtain⟨q0,q1,q2,q3⟩:=X4.o.sc;have y0:=Y4.o.c 0 _ rfl;have y1:=Y4.o.c 1 _ rfl;go_wp2_with fail;refine(CW.o _).mono ?_;rintro e w5 ⟨rfl,b5⟩;have B5:=bh B4 b5;have X5:=O (X4.o.keep b5);have Y5:=O (Y4.o.keep b5);have Z5:=O (Z4.o.keep b5);clear b5 B4 X4 Y4 Z4 CW q0 q1 q2 q3 y0 y1;obtain⟨q0,q1,q2,q3⟩:=X5.o.sc;have y0:=Y5.o.c 0 _ rfl;have y1:=Y5.o.c 1 _ rfl;obtain⟨r0,r1,r2,r3⟩:=Z5.o.sc;have f0:=Z5.o.z 0;have f1:=Z5.o.z 1;have f2:=Z5.o.z 2;have f3:=Z5.o.z 3;obtain⟨u1,u2⟩:=u;dsimp only at *;by_cases g:zq (u1,u2)=0
 ·have HV:=O (Gu.o g);rw [g,zf];have HF:=O g;clear g;obtain⟨g0,g1,g2,g3⟩:=(show Bxs _ _ [.int .i64 1,.string ⟨#[]⟩,.string u1,.string u2] from Z5.o.set4 (.int .i64 1) (.string ⟨#[]⟩) (.string u1) (.string u2)).sc;go_wp2_with fail;refine bodyPost_ret (v := .tuple #[.agg #[.int .i64 1,.string ⟨#[]⟩,.string u1,.string u2],.nilIface]) (by simp [results,Tryz.results20,go_sem,g0,g1,g2,g3]) rfl ⟨?_,aQ B5.o (by omega) 0 _ _ _ _⟩;rw [HE.o,HV.o,HF.o];rfl
 ·have HV:=O (Mg.o g);have j7:=O (zl g);rw [j7.o];clear g;obtain⟨g0,g1,g2,g3⟩:=(show Bxs _ _ [.int .i64 0,.string ⟨#[]⟩,.string ⟨#[]⟩,.string ⟨#[]⟩] from Z5.o.set4 (.int .i64 0) (.string ⟨#[]⟩) (.string ⟨#[]⟩) (.string ⟨#[]⟩)).sc;go_wp2_with fail;refine bodyPost_ret (v := .tuple #[.agg #[.int .i64 0,.string ⟨#[]⟩,.string ⟨#[]⟩,.string ⟨#[]⟩],.iface 80 (.int .i64 (zq (u1,u2)))]) (by simp [results,Tryz.results20,go_sem,g0,g1,g2,g3]) rfl ⟨?_,aQ B5.o (by omega) 0 _ _ _ _⟩;rw [HE.o,HV.o,j7.o];rfl
theorem De(t a b:ByteArray)(u:Ud)(w:World)(hu:u.1.size<=maxLen/\u.2.size<=maxLen):
 Calls Tryz.prog 20 #[.agg #[.int .i64 6,.string t,.string a,.string b],.agg #[.string u.1,.string u.2]] w λe w'=>e = .returned (.tuple #[(bI ⟨6,t,(a,b)⟩ u).v,zM (bA ⟨6,t,(a,b)⟩ u)])/\Below w.heap.size w w':=by
 obtain⟨x,y,z,b0⟩:=qy w #[.int .i64 6,.string t,.string a,.string b] #[.string u.1,.string u.2] #[.int .i64 0,.string ⟨#[]⟩,.string ⟨#[]⟩,.string ⟨#[]⟩] 26 24 26;have CS:=O (λw'=>co ⟨6,t,(a,b)⟩ w');unfold Scp.v at CS;dsimp only at CS;rw [show decide (jK ⟨6,t,(a,b)⟩)=true from rfl] at CS;have CW:=O (λw'=>jP u.1 u.2 w' hu.1 hu.2);obtain⟨q0,q1,q2,q3⟩:=x.sc;have y0:=y.c 0 _ rfl;have y1:=y.c 1 _ rfl;have HE:=O (show bA ⟨6,t,(a,b)⟩ u=zq u from if_pos (.inr rfl));have Gu:=O (λh0:zq u=0=>(show bI ⟨6,t,(a,b)⟩ u=⟨2,emp,u⟩ by unfold bI;rw [HE.o,if_pos h0];unfold jm;rw [if_pos (.inr rfl)];rfl));have Mg:=O (λh0:zq u≠0=>(show bI ⟨6,t,(a,b)⟩ u=⟨0,emp,noU⟩ by unfold bI;rw [HE.o,if_neg h0]));clear hu;go_enter Tryz.func20,Tryz.ntmps20;go_wp2_with fail;obtain⟨W,hW⟩:∃W,(((w.alloc (.cells #[.int .i64 6,.string t,.string a,.string b] 26)).alloc (.cells #[.string u.1,.string u.2] 24)).alloc (.cells #[.int .i64 0,.string ⟨#[]⟩,.string ⟨#[]⟩,.string ⟨#[]⟩] 26))=W:=⟨_,rfl⟩
 rw [hW] at x y z b0 q0 q1 q2 q3 y0 y1 ⊢;have X:=O x;have Y:=O y;have Z:=O z;have B:=O b0;clear x y z b0 hW q0 q1 q2 q3 y0 y1;refine(CS.o _).mono ?_;rintro e w4 ⟨rfl,b4⟩;have B4:=bh B b4;have X4:=O (X.o.keep b4);have Y4:=O (Y.o.keep b4);have Z4:=O (Z.o.keep b4);clear b4 B X Y Z CS;obtain⟨q0,q1,q2,q3⟩:=X4.o.sc;have y0:=Y4.o.c 0 _ rfl;have y1:=Y4.o.c 1 _ rfl;go_wp2_with fail;refine(CW.o _).mono ?_;rintro e w5 ⟨rfl,b5⟩;have B5:=bh B4 b5;have X5:=O (X4.o.keep b5);have Y5:=O (Y4.o.keep b5);have Z5:=O (Z4.o.keep b5);clear b5 B4 X4 Y4 Z4 CW q0 q1 q2 q3 y0 y1;obtain⟨q0,q1,q2,q3⟩:=X5.o.sc;have y0:=Y5.o.c 0 _ rfl;have y1:=Y5.o.c 1 _ rfl;obtain⟨r0,r1,r2,r3⟩:=Z5.o.sc;have f0:=Z5.o.z 0;have f1:=Z5.o.z 1;have f2:=Z5.o.z 2;have f3:=Z5.o.z 3;obtain⟨u1,u2⟩:=u;dsimp only at *;by_cases g:zq (u1,u2)=0
 ·have HV:=O (Gu.o g);rw [g,zf];have HF:=O g;clear g;obtain⟨g0,g1,g2,g3⟩:=(show Bxs _ _ [.int .i64 2,.string ⟨#[]⟩,.string u1,.string u2] from Z5.o.set4 (.int .i64 2) (.string ⟨#[]⟩) (.string u1) (.string u2)).sc;go_wp2_with fail;refine bodyPost_ret (v := .tuple #[.agg #[.int .i64 2,.string ⟨#[]⟩,.string u1,.string u2],.nilIface]) (by simp [results,Tryz.results20,go_sem,g0,g1,g2,g3]) rfl ⟨?_,aQ B5.o (by omega) 0 _ _ _ _⟩;rw [HE.o,HV.o,HF.o];rfl
 ·have HV:=O (Mg.o g);have j7:=O (zl g);rw [j7.o];clear g;obtain⟨g0,g1,g2,g3⟩:=(show Bxs _ _ [.int .i64 0,.string ⟨#[]⟩,.string ⟨#[]⟩,.string ⟨#[]⟩] from Z5.o.set4 (.int .i64 0) (.string ⟨#[]⟩) (.string ⟨#[]⟩) (.string ⟨#[]⟩)).sc;go_wp2_with fail;refine bodyPost_ret (v := .tuple #[.agg #[.int .i64 0,.string ⟨#[]⟩,.string ⟨#[]⟩,.string ⟨#[]⟩],.iface 80 (.int .i64 (zq (u1,u2)))]) (by simp [results,Tryz.results20,go_sem,g0,g1,g2,g3]) rfl ⟨?_,aQ B5.o (by omega) 0 _ _ _ _⟩;rw [HE.o,HV.o,j7.o];rfl
theorem aC(s:Scp)(u:Ud)(w:World)(hu:u.1.size<=maxLen/\u.2.size<=maxLen):
 Calls Tryz.prog 20 #[s.v,.agg #[.string u.1,.string u.2]] w λe w'=>e = .returned (.tuple #[(bI s u).v,zM (bA s u)])/\Below w.heap.size w w':=by
 obtain⟨o,t,⟨a,b⟩⟩:=s;by_cases h5:o=5
 ·subst h5;exact DZ t a b u w hu
 by_cases h6:o=6
 ·subst h6;exact De t a b u w hu
 exact Ai o t a b u w hu (λq=>q.elim h5 h6)
end Go.Proofs.YthidiimbeaabhaaGreatDoor
