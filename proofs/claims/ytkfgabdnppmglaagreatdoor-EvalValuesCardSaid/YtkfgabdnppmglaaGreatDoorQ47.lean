/-
  The document's two: a node with two parts. (gen_reftwo2.py) A row of Gots of the call's own. The reference's SetOf: the least above the last one, again and ..
-/
import Derived.Laws.OwnMore
import Derived.Deep.LoopGhost
import Derived.Deep.Onto
import Derived.Test.YtkfgabdnppmglaaGreatDoorQ23
import Derived.Test.YtkfgabdnppmglaaGreatDoorQ40
import Derived.Test.YtkfgabdnppmglaaGreatDoorQ44
import Derived.Test.YtkfgabdnppmglaaGreatDoorQ46
set_option maxRecDepth 100000
set_option maxHeartbeats 8000000
namespace Go.Proofs.YtkfgabdnppmglaaGreatDoor
open Go.RowKit Go.Wk Go.Sort
theorem zu6(S:Nat→Prop)(EA:Option Addr)(en ec:Nat)(A B:Option Addr)(n m c d:Nat)(P Q:List Nd)(w:World)(h:Ns w A n c P)(k:Ns w B m d Q)(h1:zc P=0)(h2:zc Q=0):
 Calls Tryz.prog 33 #[.slice EA en ec,.int .i64 14,.agg #[.slice A n c,.int .i64 0],.agg #[.slice B m d,.int .i64 0]] w (zD S w (.ok (zt (decide (zu P Q=0))))):=by
 have B0:=tB w A B n m c d;have X0:=tX w A B n m c d;have R0:=tR w A B n m c d;have KP:=hi9 (fun(o:Int) w' (hb:Below w.heap.size w w')=>zS A n c P o w' (h.keep hb) (zm h1));have KQ:=hi9 (fun(o:Int) w' (hb:Below w.heap.size w w')=>zS B m d Q o w' (k.keep hb) (zm h2));have HP:=hi9 h;have HQ:=hi9 k;have KN:=hi9 (fun w' (hb:Below w.heap.size w w')=>zeh A B n m c d P Q w' h.len k.len h.max k.max (h.keep hb).at_ (k.keep hb).at_ h.ok k.ok);have KTT:=hi9 (fun w=>show Calls Tryz.prog 60 #[.bool (zu P Q==0)] w fun e w'=>∃A n c,e = .returned (.slice A n c)∧(Ns w' A n c (zt (decide (zu P Q=0)))∧∀a,A=some a→w.heap.size≤a.block)∧Below w.heap.size w w' from jq (decide (zu P Q=0)) w);clear h k h1 h2 KP KQ;generalize decide (zu P Q=0)=bb at *;generalize zu P Q=cu at *;obtain⟨⟨x0,x1⟩,⟨y0,y1⟩⟩:=X0.out;go_enter Tryz.func33,Tryz.ntmps33;go_wp2_with fail;refine(KN.out _ B0.out).mono ?_;rintro e w1 ⟨rfl,b1⟩;have B1:=bh B0 b1;have X1:=hi9 (X0.out.keep b1);have R1:=hi9 (R0.out.keep b1);clear x0 x1 y0 y1;clear b1 B0 X0 R0;go_wp2_with fail;refine(KTT.out _).mono ?_;rintro e w2 ⟨AT,nT,cT,rfl,hN,b2⟩;have B2:=bh B1 b2;have NT:=hi9 hN.1;have HFR:=hi9 (j5 (S:=S) B1.out R1.out hN.2);have R2:=hi9 (R1.out.keep b2);clear b2 B1 R1 hN;go_wp2_with fail;refine(jr _ _ _ _).mono ?_;rintro e w3 ⟨rfl,b3⟩;have B3:=bh B2 b3;have R3:=hi9 (R2.out.keep b3);have NZ:=hi9 (NT.out.keep b3);clear b3 B2 R2;have RS:=R3.out.set (.slice AT nT cT) (.int .i64 0);obtain⟨s0,s1,-,-⟩:=RS;have GF:=hi9 (zA (S:=S) (r := .ok _) NZ.out HFR.out B3.out (show w.heap.size≤w.heap.size+1+1 by omega));obtain⟨r0,r1,z0,z1⟩:=R3.out;go_wp2_with fail;exact bodyPost_ret (v := .agg #[.slice AT nT cT,.int .i64 0]) (by simp [results,Tryz.results33,go_sem,s0,s1]) rfl GF.out
theorem zpV(S:Nat→Prop)(EA:Option Addr)(en ec:Nat)(A B:Option Addr)(n m c d:Nat)(P Q:List Nd)(w:World)(h:Ns w A n c P)(k:Ns w B m d Q)(h1:zc P=0)(h2:zc Q=0)(E:List En):
 Calls Tryz.prog 33 #[.slice EA en ec,.int .i64 25,.agg #[.slice A n c,.int .i64 0],.agg #[.slice B m d,.int .i64 0]] w (zD S w (jQ E 25 P Q)):=by
 have B0:=tB w A B n m c d;have X0:=tX w A B n m c d;have R0:=tR w A B n m c d;have KP:=hi9 (fun(o:Int) w' (hb:Below w.heap.size w w')=>zS A n c P o w' (h.keep hb) (zm h1));have KQ:=hi9 (fun(o:Int) w' (hb:Below w.heap.size w w')=>zS B m d Q o w' (k.keep hb) (zm h2));have HP:=hi9 h;have HQ:=hi9 k;have KS:=hi9 (fun w' (hb:Below w.heap.size w w')=>zhu (fun b=>S b∧b<w.heap.size) 25 (by omega) E A B n m c d P Q w' (h.keep hb) (k.keep hb) h1 h2);unfold zD at KS;clear h k h1 h2 KP KQ;unfold zD;obtain⟨rr,hrr⟩:∃rr,rr=jQ E 25 P Q:=⟨_,rfl⟩
 rw [←hrr] at KS ⊢;clear hrr;obtain⟨⟨x0,x1⟩,⟨y0,y1⟩⟩:=X0.out;go_enter Tryz.func33,Tryz.ntmps33;go_wp2_with fail;refine(KS.out _ B0.out).mono ?_;rintro e w1 ⟨AT,nT,cT,rfl,hN,hf,b1⟩;have B1:=bh B0 b1;have X1:=hi9 (X0.out.keep b1);have R1:=hi9 (R0.out.keep b1);clear x0 x1 y0 y1;have NT:=hi9 (And.intro hN (znj B0.out R0.out (by omega) hf));clear hN hf;clear b1 B0 X0 R0;have RS:=R1.out.set (.slice AT nT cT) (.int .i64 (zZ rr));obtain⟨s0,s1,-,-⟩:=RS;have GF:=hi9 (zA (S:=S) (r:=rr) NT.out.1 NT.out.2 B1.out (show w.heap.size≤w.heap.size+1+1 by omega));obtain⟨r0,r1,z0,z1⟩:=R1.out;go_wp2_with fail;exact bodyPost_ret (v := .agg #[.slice AT nT cT,.int .i64 (zZ rr)]) (by simp [results,Tryz.results33,go_sem,s0,s1]) rfl GF.out
theorem zqg(S:Nat→Prop)(EA:Option Addr)(en ec:Nat)(A B:Option Addr)(n m c d:Nat)(P Q:List Nd)(w:World)(h:Ns w A n c P)(k:Ns w B m d Q)(h1:zc P=0)(h2:zc Q=0)(E:List En):
 Calls Tryz.prog 33 #[.slice EA en ec,.int .i64 26,.agg #[.slice A n c,.int .i64 0],.agg #[.slice B m d,.int .i64 0]] w (zD S w (jQ E 26 P Q)):=by
 have B0:=tB w A B n m c d;have X0:=tX w A B n m c d;have R0:=tR w A B n m c d;have KP:=hi9 (fun(o:Int) w' (hb:Below w.heap.size w w')=>zS A n c P o w' (h.keep hb) (zm h1));have KQ:=hi9 (fun(o:Int) w' (hb:Below w.heap.size w w')=>zS B m d Q o w' (k.keep hb) (zm h2));have HP:=hi9 h;have HQ:=hi9 k;have KS:=hi9 (fun w' (hb:Below w.heap.size w w')=>zhu (fun b=>S b∧b<w.heap.size) 26 (by omega) E A B n m c d P Q w' (h.keep hb) (k.keep hb) h1 h2);unfold zD at KS;clear h k h1 h2 KP KQ;unfold zD;obtain⟨rr,hrr⟩:∃rr,rr=jQ E 26 P Q:=⟨_,rfl⟩
 rw [←hrr] at KS ⊢;clear hrr;obtain⟨⟨x0,x1⟩,⟨y0,y1⟩⟩:=X0.out;go_enter Tryz.func33,Tryz.ntmps33;go_wp2_with fail;refine(KS.out _ B0.out).mono ?_;rintro e w1 ⟨AT,nT,cT,rfl,hN,hf,b1⟩;have B1:=bh B0 b1;have X1:=hi9 (X0.out.keep b1);have R1:=hi9 (R0.out.keep b1);clear x0 x1 y0 y1;have NT:=hi9 (And.intro hN (znj B0.out R0.out (by omega) hf));clear hN hf;clear b1 B0 X0 R0;have RS:=R1.out.set (.slice AT nT cT) (.int .i64 (zZ rr));obtain⟨s0,s1,-,-⟩:=RS;have GF:=hi9 (zA (S:=S) (r:=rr) NT.out.1 NT.out.2 B1.out (show w.heap.size≤w.heap.size+1+1 by omega));obtain⟨r0,r1,z0,z1⟩:=R1.out;go_wp2_with fail;exact bodyPost_ret (v := .agg #[.slice AT nT cT,.int .i64 (zZ rr)]) (by simp [results,Tryz.results33,go_sem,s0,s1]) rfl GF.out
theorem zqn(S:Nat→Prop)(EA:Option Addr)(en ec:Nat)(A B:Option Addr)(n m c d:Nat)(P Q:List Nd)(w:World)(h:Ns w A n c P)(k:Ns w B m d Q)(h1:zc P=0)(h2:zc Q=0)(E:List En):
 Calls Tryz.prog 33 #[.slice EA en ec,.int .i64 27,.agg #[.slice A n c,.int .i64 0],.agg #[.slice B m d,.int .i64 0]] w (zD S w (jQ E 27 P Q)):=by
 have B0:=tB w A B n m c d;have X0:=tX w A B n m c d;have R0:=tR w A B n m c d;have KP:=hi9 (fun(o:Int) w' (hb:Below w.heap.size w w')=>zS A n c P o w' (h.keep hb) (zm h1));have KQ:=hi9 (fun(o:Int) w' (hb:Below w.heap.size w w')=>zS B m d Q o w' (k.keep hb) (zm h2));have HP:=hi9 h;have HQ:=hi9 k;have KS:=hi9 (fun w' (hb:Below w.heap.size w w')=>zhu (fun b=>S b∧b<w.heap.size) 27 (by omega) E A B n m c d P Q w' (h.keep hb) (k.keep hb) h1 h2);unfold zD at KS;clear h k h1 h2 KP KQ;unfold zD;obtain⟨rr,hrr⟩:∃rr,rr=jQ E 27 P Q:=⟨_,rfl⟩
 rw [←hrr] at KS ⊢;clear hrr;obtain⟨⟨x0,x1⟩,⟨y0,y1⟩⟩:=X0.out;go_enter Tryz.func33,Tryz.ntmps33;go_wp2_with fail;refine(KS.out _ B0.out).mono ?_;rintro e w1 ⟨AT,nT,cT,rfl,hN,hf,b1⟩;have B1:=bh B0 b1;have X1:=hi9 (X0.out.keep b1);have R1:=hi9 (R0.out.keep b1);clear x0 x1 y0 y1;have NT:=hi9 (And.intro hN (znj B0.out R0.out (by omega) hf));clear hN hf;clear b1 B0 X0 R0;have RS:=R1.out.set (.slice AT nT cT) (.int .i64 (zZ rr));obtain⟨s0,s1,-,-⟩:=RS;have GF:=hi9 (zA (S:=S) (r:=rr) NT.out.1 NT.out.2 B1.out (show w.heap.size≤w.heap.size+1+1 by omega));obtain⟨r0,r1,z0,z1⟩:=R1.out;go_wp2_with fail;exact bodyPost_ret (v := .agg #[.slice AT nT cT,.int .i64 (zZ rr)]) (by simp [results,Tryz.results33,go_sem,s0,s1]) rfl GF.out
theorem zu5(S:Nat→Prop)(EA:Option Addr)(en ec:Nat)(A B:Option Addr)(n m c d:Nat)(P Q:List Nd)(w:World)(h:Ns w A n c P)(k:Ns w B m d Q)(h1:zc P=0)(h2:zc Q=0)(E:List En)(hE:Es w EA en ec E)(hS:ji E=0):
 Calls Tryz.prog 33 #[.slice EA en ec,.int .i64 20,.agg #[.slice A n c,.int .i64 0],.agg #[.slice B m d,.int .i64 0]] w (zD S w (jQ E 20 P Q)):=by
 have B0:=tB w A B n m c d;have X0:=tX w A B n m c d;have R0:=tR w A B n m c d;have KP:=hi9 (fun(o:Int) w' (hb:Below w.heap.size w w')=>zS A n c P o w' (h.keep hb) (zm h1));have KQ:=hi9 (fun(o:Int) w' (hb:Below w.heap.size w w')=>zS B m d Q o w' (k.keep hb) (zm h2));have HP:=hi9 h;have HQ:=hi9 k;have KS:=hi9 (fun w' (hb:Below w.heap.size w w')=>zus (fun b=>S b∧b<w.heap.size) EA en ec E A B n m c d P Q w' (hE.keep hb) hS (h.keep hb) (k.keep hb) h1 h2);rw [show inX E P Q=jQ E 20 P Q from rfl] at KS;unfold zD at KS;clear h k h1 h2 KP KQ hE hS;unfold zD;obtain⟨rr,hrr⟩:∃rr,rr=jQ E 20 P Q:=⟨_,rfl⟩
 rw [←hrr] at KS ⊢;clear hrr;obtain⟨⟨x0,x1⟩,⟨y0,y1⟩⟩:=X0.out;go_enter Tryz.func33,Tryz.ntmps33;go_wp2_with fail;refine(KS.out _ B0.out).mono ?_;rintro e w1 ⟨AT,nT,cT,rfl,hN,hf,b1⟩;have B1:=bh B0 b1;have X1:=hi9 (X0.out.keep b1);have R1:=hi9 (R0.out.keep b1);clear x0 x1 y0 y1;have NT:=hi9 (And.intro hN (znj B0.out R0.out (by omega) hf));clear hN hf;clear b1 B0 X0 R0;have RS:=R1.out.set (.slice AT nT cT) (.int .i64 (zZ rr));obtain⟨s0,s1,-,-⟩:=RS;have GF:=hi9 (zA (S:=S) (r:=rr) NT.out.1 NT.out.2 B1.out (show w.heap.size≤w.heap.size+1+1 by omega));obtain⟨r0,r1,z0,z1⟩:=R1.out;go_wp2_with fail;exact bodyPost_ret (v := .agg #[.slice AT nT cT,.int .i64 (zZ rr)]) (by simp [results,Tryz.results33,go_sem,s0,s1]) rfl GF.out
theorem zuV(S:Nat→Prop)(EA:Option Addr)(en ec:Nat)(A B:Option Addr)(n m c d:Nat)(P Q:List Nd)(w:World)(h:Ns w A n c P)(k:Ns w B m d Q)(h1:zc P=0)(h2:zc Q=0)(op:Int)(hop:15≤op∧op≤19)(g:zf P≠2):
 Calls Tryz.prog 33 #[.slice EA en ec,.int .i64 op,.agg #[.slice A n c,.int .i64 0],.agg #[.slice B m d,.int .i64 0]] w (zD S w (.error 2)):=by
 have B0:=tB w A B n m c d;have X0:=tX w A B n m c d;have R0:=tR w A B n m c d;have KP:=hi9 (fun(o:Int) w' (hb:Below w.heap.size w w')=>zS A n c P o w' (h.keep hb) (zm h1));have KQ:=hi9 (fun(o:Int) w' (hb:Below w.heap.size w w')=>zS B m d Q o w' (k.keep hb) (zm h2));have HP:=hi9 h;have HQ:=hi9 k;have b14:(op==14)=false:=beq_eq_false_iff_ne.2 (by omega);have b20:(op==20)=false:=beq_eq_false_iff_ne.2 (by omega);have b25:(op==25)=false:=beq_eq_false_iff_ne.2 (by omega);have b26:(op==26)=false:=beq_eq_false_iff_ne.2 (by omega);have b27:(op==27)=false:=beq_eq_false_iff_ne.2 (by omega);have e14:¬op=14:=by omega
 have e20:¬op=20:=by omega
 have e25:¬op=25:=by omega
 have e26:¬op=26:=by omega
 have e27:¬op=27:=by omega
 have K5:=hi9 (KP.out 2 _ B0.out);rw [show(zf P==2)=false from beq_eq_false_iff_ne.2 g] at K5;clear h k h1 h2 g KP KQ hop;obtain⟨⟨x0,x1⟩,⟨y0,y1⟩⟩:=X0.out;go_enter Tryz.func33,Tryz.ntmps33;go_wp2_with fail;refine(K5.out).mono ?_;rintro e w1 ⟨rfl,b1⟩;have B1:=bh B0 b1;have X1:=hi9 (X0.out.keep b1);have R1:=hi9 (R0.out.keep b1);clear x0 x1 y0 y1;clear b1 B0 X0 R0;go_wp2_with fail;refine(jA _ _).mono ?_;rintro e w2 ⟨rfl,b2⟩;have B2:=bh B1 b2;have R2:=hi9 (R1.out.keep b2);clear b2 B1 R1;have RS:=R2.out.set (.slice none 0 0) (.int .i64 (2));obtain⟨s0,s1,-,-⟩:=RS;have GF:=hi9 (zA (S:=S) (r := .error (2)) (jv _) jB B2.out (show w.heap.size≤w.heap.size+1+1 by omega));obtain⟨r0,r1,z0,z1⟩:=R2.out;go_wp2_with fail;exact bodyPost_ret (v := .agg #[.slice none 0 0,.int .i64 (2)]) (by simp [results,Tryz.results33,go_sem,s0,s1]) rfl GF.out
theorem zsY(S:Nat→Prop)(EA:Option Addr)(en ec:Nat)(A B:Option Addr)(n m c d:Nat)(P Q:List Nd)(w:World)(h:Ns w A n c P)(k:Ns w B m d Q)(h1:zc P=0)(h2:zc Q=0)(op:Int)(hop:15≤op∧op≤19)(g:zf P=2)(g2:zf Q≠2):
 Calls Tryz.prog 33 #[.slice EA en ec,.int .i64 op,.agg #[.slice A n c,.int .i64 0],.agg #[.slice B m d,.int .i64 0]] w (zD S w (.error 2)):=by
 have B0:=tB w A B n m c d;have X0:=tX w A B n m c d;have R0:=tR w A B n m c d;have KP:=hi9 (fun(o:Int) w' (hb:Below w.heap.size w w')=>zS A n c P o w' (h.keep hb) (zm h1));have KQ:=hi9 (fun(o:Int) w' (hb:Below w.heap.size w w')=>zS B m d Q o w' (k.keep hb) (zm h2));have HP:=hi9 h;have HQ:=hi9 k;have b14:(op==14)=false:=beq_eq_false_iff_ne.2 (by omega);have b20:(op==20)=false:=beq_eq_false_iff_ne.2 (by omega);have b25:(op==25)=false:=beq_eq_false_iff_ne.2 (by omega);have b26:(op==26)=false:=beq_eq_false_iff_ne.2 (by omega);have b27:(op==27)=false:=beq_eq_false_iff_ne.2 (by omega);have e14:¬op=14:=by omega
 have e20:¬op=20:=by omega
 have e25:¬op=25:=by omega
 have e26:¬op=26:=by omega
 have e27:¬op=27:=by omega
 have K5:=hi9 (KP.out 2 _ B0.out);rw [show(zf P==2)=true from beq_iff_eq.2 g] at K5;have K6:=hi9 (KQ.out 2);rw [show(zf Q==2)=false from beq_eq_false_iff_ne.2 g2] at K6;clear h k h1 h2 g g2 KP KQ hop;obtain⟨⟨x0,x1⟩,⟨y0,y1⟩⟩:=X0.out;go_enter Tryz.func33,Tryz.ntmps33;go_wp2_with fail;refine(K5.out).mono ?_;rintro e w1 ⟨rfl,b1⟩;have B1:=bh B0 b1;have X1:=hi9 (X0.out.keep b1);have R1:=hi9 (R0.out.keep b1);clear x0 x1 y0 y1;clear b1 B0 X0 R0;obtain⟨⟨x0,x1⟩,⟨y0,y1⟩⟩:=X1.out;go_wp2_with fail;refine(K6.out _ B1.out).mono ?_;rintro e w2 ⟨rfl,b2⟩;have B2:=bh B1 b2;have X2:=hi9 (X1.out.keep b2);have R2:=hi9 (R1.out.keep b2);clear x0 x1 y0 y1;clear b2 B1 X1 R1;go_wp2_with fail;refine(jA _ _).mono ?_;rintro e w3 ⟨rfl,b3⟩;have B3:=bh B2 b3;have R3:=hi9 (R2.out.keep b3);clear b3 B2 R2;have RS:=R3.out.set (.slice none 0 0) (.int .i64 (2));obtain⟨s0,s1,-,-⟩:=RS;have GF:=hi9 (zA (S:=S) (r := .error (2)) (jv _) jB B3.out (show w.heap.size≤w.heap.size+1+1 by omega));obtain⟨r0,r1,z0,z1⟩:=R3.out;go_wp2_with fail;exact bodyPost_ret (v := .agg #[.slice none 0 0,.int .i64 (2)]) (by simp [results,Tryz.results33,go_sem,s0,s1]) rfl GF.out
theorem zu8(S:Nat→Prop)(EA:Option Addr)(en ec:Nat)(A B:Option Addr)(n m c d:Nat)(P Q:List Nd)(w:World)(h:Ns w A n c P)(k:Ns w B m d Q)(h1:zc P=0)(h2:zc Q=0)(g:zf P=2)(g2:zf Q=2):
 Calls Tryz.prog 33 #[.slice EA en ec,.int .i64 15,.agg #[.slice A n c,.int .i64 0],.agg #[.slice B m d,.int .i64 0]] w (zD S w (.ok (zt (decide ((hdN P).n<(hdN Q).n))))):=by
 have B0:=tB w A B n m c d;have X0:=tX w A B n m c d;have R0:=tR w A B n m c d;have KP:=hi9 (fun(o:Int) w' (hb:Below w.heap.size w w')=>zS A n c P o w' (h.keep hb) (zm h1));have KQ:=hi9 (fun(o:Int) w' (hb:Below w.heap.size w w')=>zS B m d Q o w' (k.keep hb) (zm h2));have HP:=hi9 h;have HQ:=hi9 k;have K5:=hi9 (KP.out 2 _ B0.out);rw [show(zf P==2)=true from beq_iff_eq.2 g] at K5;have K6:=hi9 (KQ.out 2);rw [show(zf Q==2)=true from beq_iff_eq.2 g2] at K6;have HP0:=hi9 (zm h1);have HQ0:=hi9 (zm h2);clear h k h1 h2 g g2 KP KQ;obtain⟨⟨x0,x1⟩,⟨y0,y1⟩⟩:=X0.out;go_enter Tryz.func33,Tryz.ntmps33;go_wp2_with fail;refine(K5.out).mono ?_;rintro e w1 ⟨rfl,b1⟩;have B1:=bh B0 b1;have X1:=hi9 (X0.out.keep b1);have R1:=hi9 (R0.out.keep b1);clear x0 x1 y0 y1;clear b1 B0 X0 R0;obtain⟨⟨x0,x1⟩,⟨y0,y1⟩⟩:=X1.out;go_wp2_with fail;refine(K6.out _ B1.out).mono ?_;rintro e w2 ⟨rfl,b2⟩;have B2:=bh B1 b2;have X2:=hi9 (X1.out.keep b2);have R2:=hi9 (R1.out.keep b2);clear x0 x1 y0 y1;clear b2 B1 X1 R1;obtain⟨⟨x0,x1⟩,⟨y0,y1⟩⟩:=X2.out;obtain⟨a3,e3,hn3,D3,ok3,-⟩:=jm (HP.out.keep B2.out) HP0.out;subst e3;obtain⟨a4,e4,hn4,D4,ok4,-⟩:=jm (HQ.out.keep B2.out) HQ0.out;subst e4;have d1:=D3.c1;have d2:=D4.c1;have hi:(0:Int)<(n:Int):=by omega
 have hi0:0<n:=hn3;have hj:(0:Int)<(m:Int):=by omega
 have hj0:0<m:=hn4;clear D3 D4 ok3 ok4;generalize (hdN P).n=x at *;generalize (hdN Q).n=y at *;go_wp2_with fail;refine(jq (decide (x<y)) _).mono ?_;rintro e w3 ⟨AT,nT,cT,rfl,hN,b3⟩;have B3:=bh B2 b3;have NT:=hi9 hN.1;have HFR:=hi9 (j5 (S:=S) B2.out R2.out hN.2);have R3:=hi9 (R2.out.keep b3);clear b3 B2 R2 hN;go_wp2_with fail;refine(jr _ _ _ _).mono ?_;rintro e w4 ⟨rfl,b4⟩;have B4:=bh B3 b4;have R4:=hi9 (R3.out.keep b4);have NZ:=hi9 (NT.out.keep b4);clear b4 B3 R3;have RS:=R4.out.set (.slice AT nT cT) (.int .i64 0);obtain⟨s0,s1,-,-⟩:=RS;have GF:=hi9 (zA (S:=S) (r := .ok _) NZ.out HFR.out B4.out (show w.heap.size≤w.heap.size+1+1 by omega));obtain⟨r0,r1,z0,z1⟩:=R4.out;go_wp2_with fail;exact bodyPost_ret (v := .agg #[.slice AT nT cT,.int .i64 0]) (by simp [results,Tryz.results33,go_sem,s0,s1]) rfl GF.out
theorem zvh(S:Nat→Prop)(EA:Option Addr)(en ec:Nat)(A B:Option Addr)(n m c d:Nat)(P Q:List Nd)(w:World)(h:Ns w A n c P)(k:Ns w B m d Q)(h1:zc P=0)(h2:zc Q=0)(g:zf P=2)(g2:zf Q=2):
 Calls Tryz.prog 33 #[.slice EA en ec,.int .i64 16,.agg #[.slice A n c,.int .i64 0],.agg #[.slice B m d,.int .i64 0]] w (zD S w (.ok (zt (decide ((hdN P).n≤(hdN Q).n))))):=by
 have B0:=tB w A B n m c d;have X0:=tX w A B n m c d;have R0:=tR w A B n m c d;have KP:=hi9 (fun(o:Int) w' (hb:Below w.heap.size w w')=>zS A n c P o w' (h.keep hb) (zm h1));have KQ:=hi9 (fun(o:Int) w' (hb:Below w.heap.size w w')=>zS B m d Q o w' (k.keep hb) (zm h2));have HP:=hi9 h;have HQ:=hi9 k;have K5:=hi9 (KP.out 2 _ B0.out);rw [show(zf P==2)=true from beq_iff_eq.2 g] at K5;have K6:=hi9 (KQ.out 2);rw [show(zf Q==2)=true from beq_iff_eq.2 g2] at K6;have HP0:=hi9 (zm h1);have HQ0:=hi9 (zm h2);clear h k h1 h2 g g2 KP KQ;obtain⟨⟨x0,x1⟩,⟨y0,y1⟩⟩:=X0.out;go_enter Tryz.func33,Tryz.ntmps33;go_wp2_with fail;refine(K5.out).mono ?_;rintro e w1 ⟨rfl,b1⟩;have B1:=bh B0 b1;have X1:=hi9 (X0.out.keep b1);have R1:=hi9 (R0.out.keep b1);clear x0 x1 y0 y1;clear b1 B0 X0 R0;obtain⟨⟨x0,x1⟩,⟨y0,y1⟩⟩:=X1.out;go_wp2_with fail;refine(K6.out _ B1.out).mono ?_;rintro e w2 ⟨rfl,b2⟩;have B2:=bh B1 b2;have X2:=hi9 (X1.out.keep b2);have R2:=hi9 (R1.out.keep b2);clear x0 x1 y0 y1;clear b2 B1 X1 R1;obtain⟨⟨x0,x1⟩,⟨y0,y1⟩⟩:=X2.out;obtain⟨a3,e3,hn3,D3,ok3,-⟩:=jm (HP.out.keep B2.out) HP0.out;subst e3;obtain⟨a4,e4,hn4,D4,ok4,-⟩:=jm (HQ.out.keep B2.out) HQ0.out;subst e4;have d1:=D3.c1;have d2:=D4.c1;have hi:(0:Int)<(n:Int):=by omega
 have hi0:0<n:=hn3;have hj:(0:Int)<(m:Int):=by omega
 have hj0:0<m:=hn4;clear D3 D4 ok3 ok4;generalize (hdN P).n=x at *;generalize (hdN Q).n=y at *;go_wp2_with fail;refine(jq (decide (x≤y)) _).mono ?_;rintro e w3 ⟨AT,nT,cT,rfl,hN,b3⟩;have B3:=bh B2 b3;have NT:=hi9 hN.1;have HFR:=hi9 (j5 (S:=S) B2.out R2.out hN.2);have R3:=hi9 (R2.out.keep b3);clear b3 B2 R2 hN;go_wp2_with fail;refine(jr _ _ _ _).mono ?_;rintro e w4 ⟨rfl,b4⟩;have B4:=bh B3 b4;have R4:=hi9 (R3.out.keep b4);have NZ:=hi9 (NT.out.keep b4);clear b4 B3 R3;have RS:=R4.out.set (.slice AT nT cT) (.int .i64 0);obtain⟨s0,s1,-,-⟩:=RS;have GF:=hi9 (zA (S:=S) (r := .ok _) NZ.out HFR.out B4.out (show w.heap.size≤w.heap.size+1+1 by omega));obtain⟨r0,r1,z0,z1⟩:=R4.out;go_wp2_with fail;exact bodyPost_ret (v := .agg #[.slice AT nT cT,.int .i64 0]) (by simp [results,Tryz.results33,go_sem,s0,s1]) rfl GF.out
theorem zuO(S:Nat→Prop)(EA:Option Addr)(en ec:Nat)(A B:Option Addr)(n m c d:Nat)(P Q:List Nd)(w:World)(h:Ns w A n c P)(k:Ns w B m d Q)(h1:zc P=0)(h2:zc Q=0)(op:Int)(hop:17≤op∧op≤19)(g:zf P=2)(g2:zf Q=2):
 Calls Tryz.prog 33 #[.slice EA en ec,.int .i64 op,.agg #[.slice A n c,.int .i64 0],.agg #[.slice B m d,.int .i64 0]] w (zD S w (z8 (zan op (hdN P).n (hdN Q).n) (zcZ (zaE op (hdN P).n (hdN Q).n)))):=by
 have B0:=tB w A B n m c d;have X0:=tX w A B n m c d;have R0:=tR w A B n m c d;have KP:=hi9 (fun(o:Int) w' (hb:Below w.heap.size w w')=>zS A n c P o w' (h.keep hb) (zm h1));have KQ:=hi9 (fun(o:Int) w' (hb:Below w.heap.size w w')=>zS B m d Q o w' (k.keep hb) (zm h2));have HP:=hi9 h;have HQ:=hi9 k;have b14:(op==14)=false:=beq_eq_false_iff_ne.2 (by omega);have b20:(op==20)=false:=beq_eq_false_iff_ne.2 (by omega);have b25:(op==25)=false:=beq_eq_false_iff_ne.2 (by omega);have b26:(op==26)=false:=beq_eq_false_iff_ne.2 (by omega);have b27:(op==27)=false:=beq_eq_false_iff_ne.2 (by omega);have e14:¬op=14:=by omega
 have e20:¬op=20:=by omega
 have e25:¬op=25:=by omega
 have e26:¬op=26:=by omega
 have e27:¬op=27:=by omega
 have K5:=hi9 (KP.out 2 _ B0.out);rw [show(zf P==2)=true from beq_iff_eq.2 g] at K5;have K6:=hi9 (KQ.out 2);rw [show(zf Q==2)=true from beq_iff_eq.2 g2] at K6;have HP0:=hi9 (zm h1);have HQ0:=hi9 (zm h2);have e15:¬op=15:=by omega
 have e16:¬op=16:=by omega
 have b15:(op==15)=false:=beq_eq_false_iff_ne.2 (by omega);have b16:(op==16)=false:=beq_eq_false_iff_ne.2 (by omega);obtain⟨-,-,-,-,ok3,-⟩:=jm h (zm h1);obtain⟨-,-,-,-,ok4,-⟩:=jm k (zm h2);have KD:=hi9 (fun w=>zlR op (hdN P).n (hdN Q).n w ⟨ok3.lo,ok3.hi⟩ ⟨ok4.lo,ok4.hi⟩);have HVI:=hi9 (zff op (hdN P).n (hdN Q).n);obtain⟨rr,hrr⟩:∃rr,rr=z8 (zan op (hdN P).n (hdN Q).n) (zcZ (zaE op (hdN P).n (hdN Q).n)):=⟨_,rfl⟩
 rw [←hrr];clear h k h1 h2 g g2 KP KQ hop ok3 ok4;by_cases z:zan op (hdN P).n (hdN Q).n=0
 ·have HT:=hi9 (show rr = .ok (zcZ (zaE op (hdN P).n (hdN Q).n)) by rw [hrr];unfold z8;rw [if_pos z]);rw [HT.out];rw [z] at KD;clear z HT hrr;generalize zaE op (hdN P).n (hdN Q).n=r at *;obtain⟨⟨x0,x1⟩,⟨y0,y1⟩⟩:=X0.out;go_enter Tryz.func33,Tryz.ntmps33;go_wp2_with fail;refine(K5.out).mono ?_;rintro e w1 ⟨rfl,b1⟩;have B1:=bh B0 b1;have X1:=hi9 (X0.out.keep b1);have R1:=hi9 (R0.out.keep b1);clear x0 x1 y0 y1;clear b1 B0 X0 R0;obtain⟨⟨x0,x1⟩,⟨y0,y1⟩⟩:=X1.out;go_wp2_with fail;refine(K6.out _ B1.out).mono ?_;rintro e w2 ⟨rfl,b2⟩;have B2:=bh B1 b2;have X2:=hi9 (X1.out.keep b2);have R2:=hi9 (R1.out.keep b2);clear x0 x1 y0 y1;clear b2 B1 X1 R1;obtain⟨⟨x0,x1⟩,⟨y0,y1⟩⟩:=X2.out;obtain⟨a3,e3,hn3,D3,ok3,-⟩:=jm (HP.out.keep B2.out) HP0.out;subst e3;obtain⟨a4,e4,hn4,D4,ok4,-⟩:=jm (HQ.out.keep B2.out) HQ0.out;subst e4;have d1:=D3.c1;have d2:=D4.c1;have hi:(0:Int)<(n:Int):=by omega
  have hi0:0<n:=hn3;have hj:(0:Int)<(m:Int):=by omega
  have hj0:0<m:=hn4;clear D3 D4 ok3 ok4;generalize (hdN P).n=x at *;generalize (hdN Q).n=y at *;go_wp2_with fail;refine(KD.out _).mono ?_;rintro e w3 ⟨rfl,rfl⟩;have N2:=hi9 (zdB w2 ⟨2,r,emp,emp⟩ ⟨Nat.zero_le _,Nat.zero_le _,HVI.out.1,HVI.out.2⟩);have HFR:=hi9 (j5 (S:=S) (A:=some ⟨w2.heap.size,0,none⟩) B2.out R2.out (fun a e=>by injection e with e;subst e;exact Nat.le_refl _));have R3:=hi9 (R2.out.keep (zb w2 (.cells #[.int .i64 2,.int .i64 r,.string ⟨#[]⟩,.string ⟨#[]⟩] 53)));have B3:=bh B2 (zb w2 (.cells #[.int .i64 2,.int .i64 r,.string ⟨#[]⟩,.string ⟨#[]⟩] 53));go_wp2_with fail;refine(jr _ _ _ _).mono ?_;rintro e w4 ⟨rfl,b4⟩;have B4:=bh B3 b4;have R4:=hi9 (R3.out.keep b4);have NZ:=hi9 (N2.out.keep b4);clear b4 B3 R3;have RS:=R4.out.set (.slice (some ⟨w2.heap.size,0,none⟩) 1 1) (.int .i64 0);obtain⟨s0,s1,-,-⟩:=RS;have GF:=hi9 (zA (S:=S) (r := .ok _) NZ.out HFR.out B4.out (show w.heap.size≤w.heap.size+1+1 by omega));obtain⟨r0,r1,z0,z1⟩:=R4.out;go_wp2_with fail;exact bodyPost_ret (v := .agg #[.slice (some ⟨w2.heap.size,0,none⟩) 1 1,.int .i64 0]) (by simp [results,Tryz.results33,go_sem,s0,s1]) rfl GF.out
 ·have HT:=hi9 (show rr = .error (zan op (hdN P).n (hdN Q).n) by rw [hrr];unfold z8;rw [if_neg z]);rw [HT.out];have f3:(zan op (hdN P).n (hdN Q).n != 0)=true:=by simpa using z
  clear z HT HVI hrr;generalize zaE op (hdN P).n (hdN Q).n=r at *;generalize zan op (hdN P).n (hdN Q).n=u at *;obtain⟨⟨x0,x1⟩,⟨y0,y1⟩⟩:=X0.out;go_enter Tryz.func33,Tryz.ntmps33;go_wp2_with fail;refine(K5.out).mono ?_;rintro e w1 ⟨rfl,b1⟩;have B1:=bh B0 b1;have X1:=hi9 (X0.out.keep b1);have R1:=hi9 (R0.out.keep b1);clear x0 x1 y0 y1;clear b1 B0 X0 R0;obtain⟨⟨x0,x1⟩,⟨y0,y1⟩⟩:=X1.out;go_wp2_with fail;refine(K6.out _ B1.out).mono ?_;rintro e w2 ⟨rfl,b2⟩;have B2:=bh B1 b2;have X2:=hi9 (X1.out.keep b2);have R2:=hi9 (R1.out.keep b2);clear x0 x1 y0 y1;clear b2 B1 X1 R1;obtain⟨⟨x0,x1⟩,⟨y0,y1⟩⟩:=X2.out;obtain⟨a3,e3,hn3,D3,ok3,-⟩:=jm (HP.out.keep B2.out) HP0.out;subst e3;obtain⟨a4,e4,hn4,D4,ok4,-⟩:=jm (HQ.out.keep B2.out) HQ0.out;subst e4;have d1:=D3.c1;have d2:=D4.c1;have hi:(0:Int)<(n:Int):=by omega
  have hi0:0<n:=hn3;have hj:(0:Int)<(m:Int):=by omega
  have hj0:0<m:=hn4;clear D3 D4 ok3 ok4;generalize (hdN P).n=x at *;generalize (hdN Q).n=y at *;go_wp2_with fail;refine(KD.out _).mono ?_;rintro e w3 ⟨rfl,rfl⟩;go_wp2_with fail;refine(jA _ _).mono ?_;rintro e w3 ⟨rfl,b3⟩;have B3:=bh B2 b3;have R3:=hi9 (R2.out.keep b3);clear b3 B2 R2;have RS:=R3.out.set (.slice none 0 0) (.int .i64 (u));obtain⟨s0,s1,-,-⟩:=RS;have GF:=hi9 (zA (S:=S) (r := .error (u)) (jv _) jB B3.out (show w.heap.size≤w.heap.size+1+1 by omega));obtain⟨r0,r1,z0,z1⟩:=R3.out;go_wp2_with fail;exact bodyPost_ret (v := .agg #[.slice none 0 0,.int .i64 (u)]) (by simp [results,Tryz.results33,go_sem,s0,s1]) rfl GF.out
theorem ztH(S:Nat→Prop)(op:Int)(hop:14≤op∧op≤20∨25≤op∧op≤27)(EA:Option Addr)(en ec:Nat)(E:List En)(A B:Option Addr)(n m c d:Nat)(P Q:List Nd)(w:World)(h:Ns w A n c P)(k:Ns w B m d Q)(h1:zc P=0)(h2:zc Q=0)(hE:Es w EA en ec E)(hS:ji E=0):
 Calls Tryz.prog 33 #[.slice EA en ec,.int .i64 op,.agg #[.slice A n c,.int .i64 0],.agg #[.slice B m d,.int .i64 0]] w (zD S w (jQ E op P Q)):=by
 by_cases h14:op=14
 ·subst h14;exact zu6 S EA en ec A B n m c d P Q w h k h1 h2
 by_cases h20:op=20
 ·subst h20;exact zu5 S EA en ec A B n m c d P Q w h k h1 h2 E hE hS
 by_cases h25:op=25
 ·subst h25;exact zpV S EA en ec A B n m c d P Q w h k h1 h2 E
 by_cases h26:op=26
 ·subst h26;exact zqg S EA en ec A B n m c d P Q w h k h1 h2 E
 by_cases h27:op=27
 ·subst h27;exact zqn S EA en ec A B n m c d P Q w h k h1 h2 E
 have hn:15≤op∧op≤19:=by omega
 by_cases g:zf P=2
 ·by_cases g2:zf Q=2
  ·by_cases h15:op=15
   ·subst h15;rw [show jQ E 15 P Q = .ok (zt (decide ((hdN P).n<(hdN Q).n))) by unfold jQ;simp [g,g2]];exact zu8 S EA en ec A B n m c d P Q w h k h1 h2 g g2
   by_cases h16:op=16
   ·subst h16;rw [show jQ E 16 P Q = .ok (zt (decide ((hdN P).n≤(hdN Q).n))) by unfold jQ;simp [g,g2]];exact zvh S EA en ec A B n m c d P Q w h k h1 h2 g g2
   rw [show jQ E op P Q=z8 (zan op (hdN P).n (hdN Q).n) (zcZ (zaE op (hdN P).n (hdN Q).n)) by unfold jQ;rw [if_neg h14,if_neg h20,if_neg h25,if_neg h26,if_neg h27,if_pos ⟨g,g2⟩,if_neg h15,if_neg h16]];exact zuO S EA en ec A B n m c d P Q w h k h1 h2 op (by omega) g g2
  ·rw [show jQ E op P Q = .error 2 by unfold jQ;rw [if_neg h14,if_neg h20,if_neg h25,if_neg h26,if_neg h27,if_neg (fun q=>g2 q.2)]];exact zsY S EA en ec A B n m c d P Q w h k h1 h2 op hn g g2
 ·rw [show jQ E op P Q = .error 2 by unfold jQ;rw [if_neg h14,if_neg h20,if_neg h25,if_neg h26,if_neg h27,if_neg (fun q=>g q.1)]];exact zuV S EA en ec A B n m c d P Q w h k h1 h2 op hn g
def zcs:List Sl→List Value
 | [] => []
 | r :: l => .slice r.A r.n r.c :: .int .i64 0 :: zcs l
theorem ziq:∀(a b:List Sl),zcs (a ++ b)=zcs a ++ zcs b
 | [],b=>rfl
 | r :: a,b=>by simp only [List.cons_append,zcs,ziq a b]
theorem zfZ:∀(a:List Sl) (k:Nat) (r:Sl),a[k]?=some r→(zcs a)[k*2]?=some (.slice r.A r.n r.c)∧(zcs a)[k*2+1]?=some (.int .i64 0)
 | [],k,r,h=>by simp at h
 | y :: a,0,r,h=>by simp at h;subst h;exact⟨rfl,rfl⟩
 | y :: a,k+1,r,h=>by
  have:=zfZ a k r (by simpa using h);rw [show(k+1)*2=k*2+1+1 by omega];simpa [zcs] using this
theorem zu9:(Tryz.prog.info? 30).map (fun i=>(i.zero,i.size,i.bytes))=some (some (.agg #[.slice none 0 0,.int .i64 0]),2,32):=by kernel_rfl
structure zcn(w:World)(B:Nat)(v:Value)(V:List Sl):Prop where
 own:w.ownsRow B 30 2 v V.length (zcs V)
 each:∀r∈V,Ns w r.A r.n r.c r.P
 apart:∀r∈V,zaC r v.ownBlock
theorem zcn.nil(w:World)(B:Nat):zcn w B (.slice none 0 0) []:=⟨⟨rfl,.inl ⟨rfl,rfl⟩⟩,(by intro r hr;cases hr),(by intro r hr;cases hr)⟩
theorem zcn.keep{w w':World}{B:Nat}{v:Value}{V:List Sl}(h:zcn w B v V)(hb:Below w.heap.size w w'):zcn w' B v V :=
 ⟨h.own.kept (zh hb none) (by cases hv:v.ownBlock <;> simp),fun r hr=>(h.each r hr).keep hb,h.apart⟩
theorem zcn.row{w w':World}{B:Nat}{v:Value}{V:List Sl}{g:Option Nat}(h:zcn w B v V)(hg:w.grownBy w' g)(hne:v.ownBlock=none∨v.ownBlock≠g)(ha:∀r∈V,zaC r g):zcn w' B v V :=
 ⟨h.own.kept hg hne,fun r hr=>(h.each r hr).row hg (ha r hr),h.apart⟩
theorem zcn.snoc{w w':World}{B:Nat}{v v':Value}{V:List Sl}{r:Sl}{o:Obj}(h:zcn w B v V)(hr:Ns w r.A r.n r.c r.P)(ha:zaC r v.ownBlock)
 (hown:w'.ownsRow B 30 2 v' (V.length+1) (zcs V ++ [.slice r.A r.n r.c,.int .i64 0])) (hg:(w.alloc o).grownBy w' v.ownBlock) (hat:v'.ownBlock=v.ownBlock∨v'.ownBlock=some (w.alloc o).heap.size):zcn w' B v' (V ++ [r]):=by
 have hba:Below w.heap.size w (w.alloc o):=zb w o;have hlt:∀x∈V ++ [r],Ns w x.A x.n x.c x.P∧zaC x v.ownBlock:=by
  intro x hx;rcases List.mem_append.1 hx with h1|h1
  ·exact⟨h.each x h1,h.apart x h1⟩
  ·simp only [List.mem_cons,List.not_mem_nil,or_false] at h1;subst h1;exact⟨hr,ha⟩
 refine⟨?_,fun x hx=>((hlt x hx).1.keep hba).row hg (hlt x hx).2,fun x hx h0 a e=>?_⟩
 ·rw [ziq,List.length_append];exact hown
 ·rcases hat with e'|e'
  ·rw [e'];exact(hlt x hx).2 h0 a e
  ·rw [e'];have:=(hlt x hx).1.at_.lt h0 a e;intro q;injection q with q;simp at q;omega
def ztX(w:World)(A:Option Addr)(V:List Sl):Prop :=
 ∀(k:Nat) (r:Sl),V[k]?=some r→∃a,A=some a∧w.cell? (a.add (k*2))=some (.slice r.A r.n r.c)∧w.cell? ⟨(a.add (k*2)).block,(a.add (k*2)).off+1,none⟩=some (.int .i64 0)∧Ns w r.A r.n r.c r.P
theorem ztX.keep{w w':World}{A:Option Addr}{V:List Sl}(h:ztX w A V)(hb:Below w.heap.size w w'):ztX w' A V :=
 fun k r hk=>let ⟨a,h1,h2,h3,h4⟩:=h k r hk;⟨a,h1,za hb h2,za hb h3,h4.keep hb⟩
theorem zcn.at{w:World}{B:Nat}{v:Value}{V:List Sl}(h:zcn w B v V):∃A c,v = .slice A V.length c∧ztX w A V:=by
 rcases h.own.2 with ⟨rfl,h0⟩|⟨g,cap,cur,rfl,_,_,hc,_⟩
 ·have:V = []:=List.eq_nil_of_length_eq_zero h0;subst this;exact⟨none,0,rfl,fun k r hk=>by simp at hk⟩
 ·refine⟨some ⟨g,0,none⟩,cap,rfl,fun k r hk=>⟨_,rfl,?_,?_,h.each r (List.mem_of_getElem? hk)⟩⟩
  ·exact h.own.cells (g:=g) rfl _ _ (zfZ V k r hk).1
  ·have:=h.own.cells (g:=g) rfl _ _ (zfZ V k r hk).2;rw [zbD] at this ⊢;simpa [Nat.add_assoc] using this
end Go.Proofs.YtkfgabdnppmglaaGreatDoor
namespace Go.Wk
theorem zeT(p:List Nd)(l:List (List Nd)):(zfx p l).length≤l.length+1:=by
 induction l with
 | nil=>simp [zfx]
 | cons q r ih =>
  simp only [zfx]
  split
  ·simp
  ·split
   ·simp
   ·simp;omega
theorem zhU(l:List (List Nd)):(jU l).length≤l.length:=by
 induction l with
 | nil=>simp [jU]
 | cons p r ih=>have:=zeT p (jU r);simp only [jU,List.length_cons];omega
def zdE(lo cur p:List Nd):List Nd :=
 if(lo.isEmpty || decide (0<zu p lo))&&(cur.isEmpty || decide (zu p cur<0)) then p else cur
def za9(lo:List Nd)(l:List (List Nd)):List Nd:=l.foldl (zdE lo) []
theorem znK{lo:List Nd}{l:List (List Nd)}{k:Nat}(h:k<l.length):za9 lo (l.take (k+1))=zdE lo (za9 lo (l.take k)) l[k]:=by
 unfold za9;rw [←List.take_append_getElem h,List.foldl_append];rfl
theorem zdv{lo cur p:List Nd}(h1:lo = []∨0<zu p lo)(h2:cur = []∨zu p cur<0):zdE lo cur p=p:=by
 unfold zdE;rw [if_pos];rw [Bool.and_eq_true,Bool.or_eq_true,Bool.or_eq_true,decide_eq_true_eq,decide_eq_true_eq,List.isEmpty_iff,List.isEmpty_iff];exact⟨h1,h2⟩
theorem znk{lo cur p:List Nd}(h1:lo≠ [])(h2:¬0<zu p lo):zdE lo cur p=cur:=by
 unfold zdE;rw [if_neg];rw [Bool.and_eq_true,Bool.or_eq_true,decide_eq_true_eq,List.isEmpty_iff];exact fun q=>q.1.elim h1 h2
theorem zgu{lo cur p:List Nd}(h1:cur≠ [])(h2:¬zu p cur<0):zdE lo cur p=cur:=by
 unfold zdE;rw [if_neg];rw [Bool.and_eq_true,Bool.or_eq_true,Bool.or_eq_true,decide_eq_true_eq,decide_eq_true_eq,List.isEmpty_iff,List.isEmpty_iff];exact fun q=>q.2.elim h1 h2
def toO:List Nd→Option (List Nd)
 | []=>none
 | x :: r=>some (x :: r)
theorem zsK{P:List Nd}(h:P≠ []):toO P=some P:=by
 cases P with
 | nil=>exact absurd rfl h
 | cons x r=>rfl
theorem zrS{lo cur p:List Nd}(hp:p≠ []):toO (zdE lo cur p)=zjS (toO lo) (toO cur) p:=by
 unfold zdE zjS;have e1:(lo.isEmpty || decide (0<zu p lo))=zd2 (toO lo) p:=by
  cases lo with
  | nil=>rfl
  | cons x r=>simp [toO,zd2]
 have e2:(cur.isEmpty || decide (zu p cur<0))=zlF (toO cur) p:=by
  cases cur with
  | nil=>rfl
  | cons x r=>simp [toO,zlF]
 rw [e1,e2];by_cases hb:(zd2 (toO lo) p && zlF (toO cur) p)=true
 ·rw [if_pos hb,if_pos hb];exact zsK hp
 ·rw [if_neg hb,if_neg hb]
theorem zuw(lo:List Nd)(l:List (List Nd)):∀cur,(∀p∈l,p≠ [])→toO (l.foldl (zdE lo) cur)=l.foldl (zjS (toO lo)) (toO cur):=by
 induction l with
 | nil=>intro cur _;rfl
 | cons p r ih =>
  intro cur h
  simp only [List.foldl_cons]
  rw [ih _ fun q hq=>h q (by simp [hq]),zrS (h p (by simp))]
theorem zr8{lo:List Nd}{l:List (List Nd)}(h:∀p∈l,p≠ []):toO (za9 lo l)=zeg (toO lo) l:=zuw lo l [] h
def zb6(L:List (List Nd)):Nat→List Nd
 | 0 => []
 | i+1=>(L[i]?).getD []
theorem zpa{l:List (List Nd)}(h:∀p∈l,p≠ []){i:Nat}(hi:i≤(jU l).length):toO (za9 (zb6 (jU l) i) l)=(jU l)[i]?:=by
 rw [zr8 h];rcases i with _|i
 ·exact ziZ l
 ·have hi':i<(jU l).length:=by omega
  have hn:(jU l)[i]≠ []:=h _ (zaM.1 (List.getElem_mem hi'));simp only [zb6,List.getElem?_eq_getElem hi',Option.getD_some];rw [zsK hn];exact zko l i hi'
theorem zqK{l:List (List Nd)}(h:∀p∈l,p≠ []){i:Nat}(hi:i<(jU l).length):za9 (zb6 (jU l) i) l=(jU l)[i]:=by
 have:=zpa h (Nat.le_of_lt hi);rw [List.getElem?_eq_getElem hi] at this
 cases hp:za9 (zb6 (jU l) i) l with
 | nil=>rw [hp] at this;cases this
 | cons x r=>rw [hp] at this;simpa [toO] using this
theorem zpI{l:List (List Nd)}(h:∀p∈l,p≠ []):za9 (zb6 (jU l) (jU l).length) l = []:=by
 have:=zpa h (Nat.le_refl (jU l).length);rw [List.getElem?_eq_none (Nat.le_refl _)] at this
 cases hp:za9 (zb6 (jU l) (jU l).length) l with
 | nil=>rfl
 | cons x r=>rw [hp] at this;cases this
end Go.Wk
namespace Go.Proofs.YtkfgabdnppmglaaGreatDoor
open Go.RowKit Go.Wk Go.Sort
theorem Ns.nodes{w:World}{A B:Option Addr}{n m c d:Nat}{P Q:List Nd}(h:Ns w A n c P)(k:Ns w B m d Q):
 Calls Tryz.prog 59 #[.slice A n c,.slice B m d] w fun e w'=>e = .returned (.int .i64 (zu P Q))∧Below w.heap.size w w' :=
 zeh A B n m c d P Q w h.len k.len h.max k.max h.at_ k.at_ h.ok k.ok
theorem Ns.zero{w:World}{A:Option Addr}{c:Nat}{P:List Nd}(h:Ns w A 0 c P):P = []:=List.eq_nil_of_length_eq_zero h.len.symm
theorem Ns.ne{w:World}{A:Option Addr}{n c:Nat}{P:List Nd}(h:Ns w A n c P)(hn:¬n=0):P≠ []:=fun e=>hn (by rw [h.len,e];rfl)
def zlk(w:World)(L:List (List Nd))(e:Ending)(w':World):Prop :=
 ∃(A:Option Addr) (n c:Nat),e = .returned (.tuple #[.slice A n c,.int .i64 (setE L)])∧Ns w' A n c (setV L)∧Below w.heap.size w w'∧∀a,A=some a→w.heap.size≤a.block
theorem zj7(n:Nat)(L:List (List Nd))(k:Nat):zbb n L k=jY n ::(L.take k).flatten:=rfl
theorem zqe(A:Option Addr)(n c:Nat)(V:List Sl)(w:World)(hn:n=V.length)(hm:n≤5864062014634)(hV:zag w A V):
 Calls Tryz.prog 30 #[.slice A n c] w (zlk w (V.map Sl.P)):=by
 obtain⟨i0,hi,hz0,hz1,hz2⟩:=info_parts zf6;have HV:=hi9 hV;have HN:=hi9 hn;have CF:=hi9 (zok A n c V w hn (by unfold maxLen;omega) hV);clear hV hn;by_cases hF:zax V=0
 ·have HF:=hi9 (show zcm (V.map Sl.P)=0 from hF);have HP:=hi9 (show∀p∈V.map Sl.P,p≠ [] from fun p hp e=>by
   have:=(zP.1 (zcH.1 hF p hp)).2.pos
   rw [e] at this;simp at this)
  have HLL:=hi9 (show(jU (V.map Sl.P)).length≤n by have:=zhU (V.map Sl.P);rw [List.length_map,←HN.out] at this;exact this);rw [hF] at CF;clear hF;go_enter Tryz.func30,Tryz.ntmps30;go_wp2_with fail;refine(CF.out).mono ?_;rintro e w1 ⟨rfl,b1⟩;have B1:=hi9 b1;clear b1 CF;have R0:=hi9 (World.ownsRow.mono (zha w1 (jY 0)) B1.out.size);have B2:=hi9 (B1.out.alloc B1.out.size (.cells #[.int .i64 5,.int .i64 0,.string ⟨#[]⟩,.string ⟨#[]⟩] 53));go_wp2_with fail;generalize hL:jU (V.map Sl.P)=L at *;have HL:=hi9 hL;clear hL;go_loopg [5,6,7,8] L.length (fun g out last _ _ wr=>∃i:Nat,i≤L.length∧L.length-i≤g∧(∃(A1:Option Addr) (n1 c1:Nat),last = .slice A1 n1 c1∧Hid (Ns w A1 n1 c1 (zb6 L i)))∧Hid ((zbb i L i).length≤200∧wr.ownsRow w.heap.size 53 4 out (zbb i L i).length (zO (zbb i L i)))∧Hid (Below w.heap.size w wr))
  case atStart=>exact⟨0,Nat.zero_le _,by omega,⟨none,0,0,rfl,jv _⟩,⟨by simp [zbb],R0.out⟩,B2⟩
  case round =>
   obtain⟨i,hiL,hg,⟨A1,n1,c1,rfl,N1⟩,hR,hB⟩:=hrel;have HK:=hi9 (show∀k,(h:k<V.length)→za9 (zb6 L i) ((V.map Sl.P).take (k+1))=zdE (zb6 L i) (za9 (zb6 L i) ((V.map Sl.P).take k)) V[k].P from fun k h=>by
    rw [znK (by rw [List.length_map];exact h)];simp)
   have HQ:=hi9 (show i<L.length→za9 (zb6 L i) (V.map Sl.P)=L[i]! from fun h=>by
    have e:=HL.out
    subst e
    rw [zqK HP.out h];simp [h])
   have HZ:=hi9 (show i=L.length→za9 (zb6 L i) (V.map Sl.P)= [] from fun h=>by
    have e:=HL.out
    subst e
    rw [h];exact zpI HP.out)
   have HE:=hi9 (show i<L.length→zb6 L (i+1)=L[i]!∧zbb (i+1) L (i+1)=jY ((i+1:Nat):Int)::((L.take i).flatten ++ L[i]!) from fun h=>by
    refine⟨by simp [zb6,h],?_⟩
    rw [zjM h,zj7,List.cons_append];simp [h])
   generalize hlo:zb6 L i=lo at N1 HK HQ HZ;clear hlo;go_wp2_with fail;go_loopw [7,8] (fun nx ii wk=>∃k:Nat,k≤n∧ii = .int .i64 k∧(∃(A2:Option Addr) (n2 c2:Nat),nx = .slice A2 n2 c2∧Hid (Ns w A2 n2 c2 (za9 lo ((V.map Sl.P).take k))))∧Hid (Below wr.heap.size wr wk)) (fun _ ii _=>n-(intOf ii).toNat)
   case atStart=>exact⟨0,Nat.zero_le _,rfl,⟨none,0,0,rfl,jv _⟩,Below.refl _ _⟩
   case round =>
    obtain⟨k,hk,rfl,⟨A2,n2,c2,rfl,N2⟩,hK⟩:=hrel;have BK:=j2 hB hK (Nat.le_refl _);by_cases hlt:k<n
    ·have h1:k<V.length:=by rw [←HN.out];exact hlt
     obtain⟨a,rfl,q,-⟩:=(HV.out.keep BK.out).at h1;obtain⟨-,-,-,hs0⟩:=HV.out.at h1;have HK1:=hi9 (HK.out k h1);generalize V[k]=r at *;have HS0:=hi9 hs0;clear hs0;generalize za9 lo ((V.map Sl.P).take k)=cur at *;by_cases l0:n1=0
     ·subst l0;by_cases m0:n2=0
      ·subst m0;have N3:=hi9 (show Ns w r.A r.n r.c (za9 lo ((V.map Sl.P).take (k+1))) by
        rw [HK1.out,zdv (.inl N1.out.zero) (.inl N2.out.zero)];exact HS0.out)
       go_wp2_with fail;go_roundw
       case rel=>exact⟨k+1,by omega,by go_num,⟨_,_,_,rfl,N3⟩,hK⟩
       case measure=>simp [intOf];omega
      ·have M0:((n2:Int)==0)=false:=beq_eq_false_iff_ne.2 (by omega);have NE2:=hi9 (N2.out.ne m0);have C:=hi9 ((HS0.out.keep BK.out).nodes (N2.out.keep BK.out));clear m0;go_wp2_with fail;refine(C.out).mono ?_;rintro e w3 ⟨rfl,b3⟩;have q3:=za b3 q;have K3:=bh hK b3;clear b3 C hK BK q;by_cases h2:zu r.P cur<0
       ·have N3:=hi9 (show Ns w r.A r.n r.c (za9 lo ((V.map Sl.P).take (k+1))) by
         rw [HK1.out,zdv (.inl N1.out.zero) (.inr h2)];exact HS0.out)
        go_wp2_with fail
        go_roundw
        case rel=>exact⟨k+1,by omega,by go_num,⟨_,_,_,rfl,N3⟩,K3⟩
        case measure=>simp [intOf];omega
       ·have N3:=hi9 (show Ns w A2 n2 c2 (za9 lo ((V.map Sl.P).take (k+1))) by
         rw [HK1.out,zgu NE2.out h2];exact N2.out)
        go_wp2_with fail
        go_roundw
        case rel=>exact⟨k+1,by omega,by go_num,⟨_,_,_,rfl,N3⟩,K3⟩
        case measure=>simp [intOf];omega
     ·have L0:((n1:Int)==0)=false:=beq_eq_false_iff_ne.2 (by omega);have NE1:=hi9 (N1.out.ne l0);have C:=hi9 ((HS0.out.keep BK.out).nodes (N1.out.keep BK.out));clear l0;go_wp2_with fail;refine(C.out).mono ?_;rintro e w3 ⟨rfl,b3⟩;have q3:=za b3 q;have K3:=bh hK b3;have B3:=bh BK b3;clear b3 C hK BK q;by_cases h1:0<zu r.P lo
      ·by_cases m0:n2=0
       ·subst m0;have N3:=hi9 (show Ns w r.A r.n r.c (za9 lo ((V.map Sl.P).take (k+1))) by
         rw [HK1.out,zdv (.inr h1) (.inl N2.out.zero)];exact HS0.out)
        go_wp2_with fail;go_roundw
        case rel=>exact⟨k+1,by omega,by go_num,⟨_,_,_,rfl,N3⟩,K3⟩
        case measure=>simp [intOf];omega
       ·have M0:((n2:Int)==0)=false:=beq_eq_false_iff_ne.2 (by omega);have NE2:=hi9 (N2.out.ne m0);have C:=hi9 ((HS0.out.keep B3.out).nodes (N2.out.keep B3.out));clear m0;go_wp2_with fail;refine(C.out).mono ?_;rintro e w4 ⟨rfl,b4⟩;have q4:=za b4 q3;have K4:=bh K3 b4;clear b4 C K3 B3 q3;by_cases h2:zu r.P cur<0
        ·have N3:=hi9 (show Ns w r.A r.n r.c (za9 lo ((V.map Sl.P).take (k+1))) by
          rw [HK1.out,zdv (.inr h1) (.inr h2)];exact HS0.out)
         go_wp2_with fail
         go_roundw
         case rel=>exact⟨k+1,by omega,by go_num,⟨_,_,_,rfl,N3⟩,K4⟩
         case measure=>simp [intOf];omega
        ·have N3:=hi9 (show Ns w A2 n2 c2 (za9 lo ((V.map Sl.P).take (k+1))) by
          rw [HK1.out,zgu NE2.out h2];exact N2.out)
         go_wp2_with fail
         go_roundw
         case rel=>exact⟨k+1,by omega,by go_num,⟨_,_,_,rfl,N3⟩,K4⟩
         case measure=>simp [intOf];omega
      ·have N3:=hi9 (show Ns w A2 n2 c2 (za9 lo ((V.map Sl.P).take (k+1))) by
        rw [HK1.out,znk NE1.out h1];exact N2.out)
       go_wp2_with fail
       go_roundw
       case rel=>exact⟨k+1,by omega,by go_num,⟨_,_,_,rfl,N3⟩,K3⟩
       case measure=>simp [intOf];omega
    ·obtain rfl:k=n:=by omega
     have N3:=hi9 (show Ns w A2 n2 c2 (za9 lo (V.map Sl.P)) by
      have:=N2.out
      rwa [List.take_of_length_le (by rw [List.length_map,←HN.out];exact Nat.le_refl _)] at this)
     have hszw:=BK.out.size;have rowK:=hR.out.2.kept (zh hK.out none) (by cases hv:u5.ownBlock <;> simp);have hO200:=hR.out.1;clear N2 hK hR hB;by_cases hlt2:i<L.length
     ·have N4:=hi9 (show Ns w A2 n2 c2 L[i]! by have:=N3.out;rwa [HQ.out hlt2] at this);have hmem:L[i]!∈L:=by simp [hlt2]
      have hv:=zcH.1 HF.out _ (zaM.1 (by rw [HL.out];exact hmem));obtain⟨hl2,hV2⟩:=zP.1 hv;have hpos:=hV2.pos;obtain⟨a2,rfl,-⟩:=N4.out.at_.nd hpos;have hn2:=N4.out.len;have M0:((n2:Int)==0)=false:=beq_eq_false_iff_ne.2 (by omega);have hn2':n2≤200:=by omega
      have HN2:=hi9 hn2;have HE1:=hi9 (HE.out hlt2);clear hmem hv hl2 hV2 hpos hn2 N3 HE HQ HZ;generalize L[i]! = X at *;rcases rowK.2 with ⟨-,h0⟩|⟨g,cap,cur,rfl,hgB,-⟩
      ·simp [zbb] at h0
      have c1':wr.cell? ⟨g,1,none⟩=some (.int .i64 i):=by
       rw [rowK.cellAt 1 (by simp [zbb];omega)];rfl
      have f1:=rowK.frozenAt 1;obtain⟨rowS,grS⟩:=rowK.stored 1 (.int .i64 ((i:Int)+1));rw [show(zO (zbb i L i)).set 1 (.int .i64 ((i:Int)+1))=zO (jY ((i:Int)+1)::(L.take i).flatten) from rfl] at rowS;have hlen0:0<(zbb i L i).length:=by simp [zbb]
      have HRS:=hi9 rowS;have NS:=hi9 ((N4.out.keep BK.out).but grS (fun h0 a e=>by have:=N4.out.at_.lt h0 a e;omega));have BS:=hi9 (BK.out.grown grS hszw (fun k hk=>by injection hk with hk;omega));have hszS:=BS.out.size;have hi8:i≤5864062014634:=by have:=HLL.out;omega
      clear rowK rowS grS;go_wp2_with (at_builtin;refine wpList_append_own _ rfl _ _ 25 rfl w.heap.size 53 i0 _ 4 48 Tryz.underlying25 hi hz0 hz1 hz2 rfl (by decide) _ (zbb i L i).length (zO (jY ((i:Int)+1)::(L.take i).flatten)) rfl HRS.out a2 n2 c2 (zO X) rfl (by rw [zaf,HN2.out]) NS.out.at_.cells (zaO _) ?c1 ?c2 ?c3 ?_)
      case c1=>unfold maxLen;omega
      case c2=>omega
      case c3=>exact hszS
      intro v1 w5 hown hgrow _;have B5:=hi9 (BS.out.grown hgrow hszS (zW HRS.out));have HX0:=hi9 (show(zbb i L i).length+n2=(zbb (i+1) L (i+1)).length∧zO (jY ((i:Int)+1)::(L.take i).flatten)++ zO X=zO (zbb (i+1) L (i+1)) by
       rw [HE1.out.2,zj7,←zaH]
       refine⟨by simp [HN2.out];omega,rfl⟩)
      rw [HX0.out.1,HX0.out.2] at hown;have OW:=hi9 hown;obtain⟨A5,c5,rfl,-⟩:=zaU hown;have OL:=hi9 (zm6 (n:=i+1) (L:=L) (i+1));have NL:=hi9 (show Ns w (some a2) n2 c2 (zb6 L (i+1)) by rw [HE1.out.1];exact N4.out);generalize hZ:zbb (i+1) L (i+1)=Z at *;have HZZ:=hi9 hZ;clear hown hgrow hZ HX0 HE1 NS HRS c1' f1;by_cases h200:200<Z.length
      ·have HEE:=hi9 (show setE (V.map Sl.P)=4 by
        unfold setE
        rw [HF.out,zx,HL.out,if_pos (by have:=OL.out;omega)])
       go_wp2_with fail
       go_ret2
       refine⟨none,0,0,by rw [HEE.out];rfl,by rw [zdM (by rw [HEE.out];decide)];exact jv _,B5.out,fun a e=>by cases e⟩
      ·go_wp2_with fail;go_roundg (L.length-(i+1))
       case measure=>omega
       case rel=>exact⟨i+1,by omega,Nat.le_refl _,⟨_,_,_,rfl,NL⟩,hi9 (by rw [HZZ.out];exact⟨by omega,OW.out⟩),B5⟩
     ·obtain rfl:i=L.length:=by omega
      have hp:=HZ.out rfl;have hn0:n2=0:=by have:=N3.out.len;rw [hp] at this;exact this
      subst hn0;obtain⟨A5,c5,rfl,hc5,hA5,hB5⟩:=zaU rowK;have HB5:=hi9 hB5;have HX:=hi9 (zlp (n:=L.length) (L:=L) (Nat.le_refl _));have HEE:=hi9 (show setE (V.map Sl.P)=0 by
       refine zgi.2 ⟨HF.out,?_⟩
       rw [HX.out] at hO200
       rw [HL.out]
       simpa using hO200)
      have NN:=hi9 (show Ns wr A5 (zbb L.length L L.length).length c5 (setV (V.map Sl.P)) by
       have e:setV (V.map Sl.P)=zbb L.length L L.length:=by
        rw [HX.out,zkH HEE.out,HL.out]
       rw [e]
       refine⟨rfl,hc5,by unfold maxLen;omega,hA5,?_⟩
       rw [HX.out]
       refine zoX (by have:=HLL.out;omega) fun P hP=>?_
       rw [←HL.out] at hP
       exact HV.out.nds P (zaM.1 hP))
      clear hp rowK hc5 hA5 hB5 N3 HQ HZ HE HK;go_wp2_with fail;go_ret2;exact⟨A5,_,c5,by rw [HEE.out];rfl,NN.out,BK.out,HB5.out⟩
 ·have HE:=hi9 (show setE (V.map Sl.P)=zax V∧setE (V.map Sl.P)≠0 by
   have e2:setE (V.map Sl.P)=zax V:=by unfold setE;exact jc hF _
   exact⟨e2,by rw [e2];exact hF⟩)
  have e0:(zax V != 0)=true:=by rw [bne_iff_ne];exact hF
  clear hF
  go_enter Tryz.func30,Tryz.ntmps30
  go_wp2_with fail
  refine(CF.out).mono ?_
  rintro e w1 ⟨rfl,b1⟩
  go_wp2_with fail
  go_ret2
  exact⟨none,0,0,by rw [HE.out.1];rfl,by rw [zdM HE.out.2];exact jv _,b1,fun a e=>by cases e⟩
end Go.Proofs.YtkfgabdnppmglaaGreatDoor
