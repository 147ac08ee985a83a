/-
  ref AskFault: what is wrong with a request. The document's Value. (gen_refvalue.py) EvalValues: the walk of the law. (gen_evvalues.py) EvalValues: the closed ..
-/
import Derived.Deep.RegionHeld3
import Derived.SevenTiedAt
import Derived.ChangeSame
import Derived.ChangeVars
import Derived.JoinedOf
import Derived.LaidLaws
import Derived.LaidHandle
import Derived.Stop.Joined
import Derived.Test.YtkfgabdnppmglaaGreatDoorRows
import Derived.Test.YtkfgabdnppmglaaGreatDoorCards
import Derived.Test.YtkfgabdnppmglaaGreatDoorTie
import Derived.Test.YtkfgabdnppmglaaGreatDoorQ19
import Derived.Test.YtkfgabdnppmglaaGreatDoorQ23
import Derived.Test.YtkfgabdnppmglaaGreatDoorQ26
import Derived.Test.YtkfgabdnppmglaaGreatDoorQ31
import Derived.Test.YtkfgabdnppmglaaGreatDoorQ39
import Derived.Test.YtkfgabdnppmglaaGreatDoorQ45
import Derived.Test.YtkfgabdnppmglaaGreatDoorQ48
set_option maxRecDepth 100000
set_option maxHeartbeats 8000000
namespace Go.Proofs.YtkfgabdnppmglaaGreatDoor
open Go.RowKit Go.Wk Go.Sort
theorem zkn(q:Rq)(w:World)(h:zfV w q):
 Calls Tryz.prog 9 #[q.v] w fun e w'=>e = .returned (.int .i64 (zdJ q.who q.act q.what q.P))∧Below w.heap.size w w':=by
 obtain⟨⟨s1,t1⟩,⟨s2,t2⟩,⟨s3,t3⟩,NA,nn,nc,P⟩:=q;have V0:=hi9 (zb1 w ⟨(s1,t1),(s2,t2),(s3,t3),NA,nn,nc,P⟩ 27);have B0:=hi9 (zb w (.cells #[.string s1,.string t1,.string s2,.string t2,.string s3,.string t3,.slice NA nn nc] 27));have C1:Hid (∀w,Calls Tryz.prog 20 #[.agg #[.string s1,.string t1]] w fun e w'=>e = .returned (.int .i64 (zw (s1,t1)))∧Below w.heap.size w w'):=hi9 (fun w=>zbG s1 t1 w h.w1 h.w2);have C2:Hid (∀w,Calls Tryz.prog 20 #[.agg #[.string s2,.string t2]] w fun e w'=>e = .returned (.int .i64 (zw (s2,t2)))∧Below w.heap.size w w'):=hi9 (fun w=>zbG s2 t2 w h.a1 h.a2);have C3:Hid (∀w,Calls Tryz.prog 20 #[.agg #[.string s3,.string t3]] w fun e w'=>e = .returned (.int .i64 (zw (s3,t3)))∧Below w.heap.size w w'):=hi9 (fun w=>zbG s3 t3 w h.t1 h.t2);have HN:=hi9 h.ns;have KV:=hi9 (fun w' hb=>zbB _ _ _ _ w' (h.ns.keep (w':=w') hb));dsimp only at HN KV;have HR:=hi9 (show zdJ (s1,t1) (s2,t2) (s3,t3) P=or2 (zw (s1,t1)) (or2 (zw (s2,t2)) (or2 (zw (s3,t3)) (or2 (zc P) (if zf P=6 then 0 else 2)))) from rfl);unfold Rq.v;dsimp only;generalize zdJ (s1,t1) (s2,t2) (s3,t3) P=F at *;generalize zw (s1,t1)=r1 at *;generalize zw (s2,t2)=r2 at *;generalize zw (s3,t3)=r3 at *;have hnx:=h.ns.max;have hnc:=h.ns.cap;unfold maxLen at hnx;dsimp only at hnx hnc;clear h;go_enter Tryz.func9,Tryz.ntmps9;go_wp2_with fail;refine(C1.out _).mono ?_;rintro e w1 ⟨rfl,b1⟩;have B1:=hi9 (B0.out.trans (b1.mono B0.out.size));have V1:=hi9 (V0.out.keep b1);clear b1 B0 V0;by_cases g1:r1=0
 ·subst g1;rw [zx] at HR;obtain⟨c0,c1,c2,c3,c4,c5,c6⟩:=V1.out;dsimp only at c0 c1 c2 c3 c4 c5 c6;go_wp2_with fail;refine(C2.out _).mono ?_;rintro e w2 ⟨rfl,b2⟩;have B2:=hi9 (B1.out.trans (b2.mono B1.out.size));have V2:=hi9 (V1.out.keep b2);clear b2 B1 V1 c0 c1 c2 c3 c4 c5 c6;by_cases g2:r2=0
  ·subst g2;rw [zx] at HR;obtain⟨c0,c1,c2,c3,c4,c5,c6⟩:=V2.out;dsimp only at c0 c1 c2 c3 c4 c5 c6;go_wp2_with fail;refine(C3.out _).mono ?_;rintro e w3 ⟨rfl,b3⟩;have B3:=hi9 (B2.out.trans (b3.mono B2.out.size));have V3:=hi9 (V2.out.keep b3);clear b3 B2 V2 c0 c1 c2 c3 c4 c5 c6;by_cases g3:r3=0
   ·subst g3;rw [zx] at HR;obtain⟨c0,c1,c2,c3,c4,c5,c6⟩:=V3.out;dsimp only at c0 c1 c2 c3 c4 c5 c6;go_wp2_with fail;refine(KV.out _ B3.out).mono ?_;rintro e w4 ⟨rfl,b4⟩;have B4:=hi9 (B3.out.trans (b4.mono B3.out.size));have V4:=hi9 (V3.out.keep b4);clear b4 B3 V3 c0 c1 c2 c3 c4 c5 c6;obtain⟨c0,c1,c2,c3,c4,c5,c6⟩:=V4.out;dsimp only at c0 c1 c2 c3 c4 c5 c6;by_cases g4:zc P=0
    ·obtain⟨a,rfl,hn1,d0,-⟩:=zrl (HN.out.keep B4.out) (zP.1 g4).2.pos;rw [g4,zx] at HR;rw [g4];by_cases g5:zf P=6
     ·rw [if_pos g5] at HR;rw [g5] at d0;clear g5 g4;go_wp2_with fail;go_ret;exact⟨by rw [HR.out];rfl,B4.out⟩
     ·rw [if_neg g5] at HR;have f1:(zf P != 6)=true:=by rw [bne_iff_ne];exact g5
      generalize zf P=o at *;clear g5 g4;go_wp2_with fail;go_ret;exact⟨by rw [HR.out];rfl,B4.out⟩
    ·rw [jc g4] at HR;have f1:(zc P==0)=false:=beq_eq_false_iff_ne.2 g4;generalize zc P=r4 at *;clear g4;go_wp2_with fail;go_ret;exact⟨by rw [HR.out];rfl,B4.out⟩
   ·rw [jc g3] at HR;have f1:(r3==0)=false:=beq_eq_false_iff_ne.2 g3;clear g3;go_wp2_with fail;go_ret;exact⟨by rw [HR.out];rfl,B3.out⟩
  ·rw [jc g2] at HR;have f1:(r2==0)=false:=beq_eq_false_iff_ne.2 g2;clear g2;go_wp2_with fail;go_ret;exact⟨by rw [HR.out];rfl,B2.out⟩
 ·rw [jc g1] at HR;have f1:(r1==0)=false:=beq_eq_false_iff_ne.2 g1;clear g1;go_wp2_with fail;go_ret;exact⟨by rw [HR.out];rfl,B1.out⟩
theorem zll(EA:Option Addr)(en ec:Nat)(E:List En)(q:Rq)(A:Option Addr)(n c:Nat)(P:List Nd)(w w':World)(hE:Es w EA en ec E)(hq:zfV w q)(hP:Ns w A n c P)(hd:zbC w)(hu:upF ⟨E,q.who,q.act,q.what,q.P⟩ P=0)(hb:Below w.heap.size w w'):
 Calls Tryz.prog 12 #[.slice EA en ec,q.v,.slice A n c,.int .i64 0] w' (zD (fun b=>b<w.heap.size) w' (zbI ⟨E,q.who,q.act,q.what,q.P⟩ P)):=by
 obtain⟨hok,h200,x,hx,e⟩:=zm2 hu;have hc:zdK w ⟨EA,en,ec,E,q,A,n,c,P⟩:=⟨hE,hq,hP,hd,hok⟩
 rw [zj0 hu hx e];exact zjZ w ⟨EA,en,ec,E,q,A,n,c,P⟩ hc (show n≤4000 by rw [hP.len];omega) x.flat.length x 0 w' (hc.keep hb) hb (show XAt P 0 false x by rw [e];exact XAt.all hx) (Nat.le_refl _)
theorem zoo(EA:Option Addr)(en ec:Nat)(E:List En)(q:Rq)(A:Option Addr)(n c:Nat)(P:List Nd)(w:World)(hE:Es w EA en ec E)(hq:zfV w q)(hP:Ns w A n c P)(hd:zbC w):
 Calls Tryz.prog 4 #[.slice EA en ec,q.v,.slice A n c] w (zD (fun b=>b<w.heap.size) w (zbI ⟨E,q.who,q.act,q.what,q.P⟩ P)):=by
 have C1:=hi9 (fun w' (hb:Below w.heap.size w w')=>zig EA en ec E w' (hE.keep hb));have C2:=hi9 (fun w' (hb:Below w.heap.size w w')=>zkn q w' (hq.keep hb));have C3:=hi9 (fun w' (hb:Below w.heap.size w w')=>zp6 A n c P w' (hP.keep hb));have KW:=hi9 (fun w' (hb:Below w.heap.size w w') (hu:upF ⟨E,q.who,q.act,q.what,q.P⟩ P=0)=>zll EA en ec E q A n c P w w' hE hq hP hd hu hb);have V0:=hi9 (show∀u:Int,u≠0→upF ⟨E,q.who,q.act,q.what,q.P⟩ P=u→zbI ⟨E,q.who,q.act,q.what,q.P⟩ P = .error u from fun u h e=>by unfold zbI;rw [e,if_neg h]);have U0:=hi9 (show upF ⟨E,q.who,q.act,q.what,q.P⟩ P=or2 (ji E) (or2 (zdJ q.who q.act q.what q.P) (jL P)) from rfl);obtain⟨rr,hrr⟩:∃rr,rr=zbI ⟨E,q.who,q.act,q.what,q.P⟩ P:=⟨_,rfl⟩
 have HB2:=hi9 (show ji E≠0→rr = .error (ji E) from fun h=>hrr.trans (V0.out _ h (by rw [U0.out,jc h])));have HB3:=hi9 (show ji E=0→zdJ q.who q.act q.what q.P≠0→rr = .error (zdJ q.who q.act q.what q.P) from fun h1 h=>hrr.trans (V0.out _ h (by rw [U0.out,h1,zx,jc h])));have HB4:=hi9 (show ji E=0→zdJ q.who q.act q.what q.P=0→jL P≠0→rr = .error (jL P) from fun h1 h2 h=>hrr.trans (V0.out _ h (by rw [U0.out,h1,zx,h2,zx])));have HU:=hi9 (show ji E=0→zdJ q.who q.act q.what q.P=0→jL P=0→upF ⟨E,q.who,q.act,q.what,q.P⟩ P=0 from fun h1 h2 h3=>by rw [U0.out,h1,zx,h2,zx,h3]);rw [←hrr] at KW ⊢;have B1:Below w.heap.size w (w.alloc (.cells #[.string q.who.1,.string q.who.2,.string q.act.1,.string q.act.2,.string q.what.1,.string q.what.2,.slice q.NA q.nn q.nc] 27)):=zb w _;have B0:=hi9 (show Below w.heap.size w ((w.alloc (.cells #[.string q.who.1,.string q.who.2,.string q.act.1,.string q.act.2,.string q.what.1,.string q.what.2,.slice q.NA q.nn q.nc] 27)).alloc (.cells #[.slice none 0 0,.int .i64 0] 30)) from B1.trans ((zb (w.alloc (.cells #[.string q.who.1,.string q.who.2,.string q.act.1,.string q.act.2,.string q.what.1,.string q.what.2,.slice q.NA q.nn q.nc] 27)) _).mono B1.size));have W0:=hi9 ((zb1 w q 27).keep (zb (w.alloc (.cells #[.string q.who.1,.string q.who.2,.string q.act.1,.string q.act.2,.string q.what.1,.string q.what.2,.slice q.NA q.nn q.nc] 27)) (.cells #[.slice none 0 0,.int .i64 0] 30)));have R0:=hi9 (zcC w (.cells #[.string q.who.1,.string q.who.2,.string q.act.1,.string q.act.2,.string q.what.1,.string q.what.2,.slice q.NA q.nn q.nc] 27) 30);unfold zD Rq.v at KW;unfold Rq.v at C2 ⊢;obtain⟨f1,hf1⟩:∃f1,f1=ji E:=⟨_,rfl⟩
 obtain⟨f2,hf2⟩:∃f2,f2=zdJ q.who q.act q.what q.P:=⟨_,rfl⟩
 obtain⟨f3,hf3⟩:∃f3,f3=jL P:=⟨_,rfl⟩
 rw [←hf1] at C1 HB2 HB3 HB4 HU;rw [←hf2] at C2 HB3 HB4 HU;rw [←hf3] at C3 HB4 HU;clear hE hq hP hd V0 U0 hrr B1 hf1 hf2 hf3;go_enter Tryz.func4,Tryz.ntmps4;go_wp2_with fail;refine(C1.out _ B0.out).mono ?_;rintro e w1 ⟨rfl,b1⟩;have B1:=bh B0 b1;have W1:=hi9 (W0.out.keep b1);have R1:=hi9 (R0.out.keep b1);clear b1 B0 W0 R0;by_cases s1:f1=0
 case neg =>
  have HRE:=hi9 (HB2.out s1);have hf:(f1==0)=false:=beq_eq_false_iff_ne.2 s1;have hg:(f1 != 0)=true:=by simpa using s1
  clear s1;go_wp2_with fail;refine(jA f1 w1).mono ?_;rintro e w9 ⟨rfl,b9⟩;have B9:=bh B1 b9;have R9:=hi9 (R1.out.keep b9);have N9:=hi9 (show Ns w9 none 0 0 (zju (.error f1)) from jv _);have RS:=R9.out.set (.slice none 0 0) (.int .i64 f1);obtain⟨s0,s1,-,-⟩:=RS;have GF:=hi9 (zA (S:=fun b=>b<w.heap.size) (r := .error f1) N9.out (jB (S:=fun b=>b<w.heap.size) (w:=w) (rb:=w.heap.size+1)) B9.out (show w.heap.size≤w.heap.size+1 by omega));obtain⟨r0,r1,z0,z1⟩:=R9.out;go_wp2_with fail;exact bodyPost_ret (v := .agg #[.slice none 0 0,.int .i64 f1]) (by simp [results,Tryz.results4,go_sem,s0,s1]) rfl (by rw [HRE.out];exact GF.out)
 subst s1;obtain⟨k0,k1,k2,k3,k4,k5,k6⟩:=W1.out;go_wp2_with fail;refine(C2.out _ B1.out).mono ?_;rintro e w2 ⟨rfl,b2⟩;have B2:=bh B1 b2;have W2:=hi9 (W1.out.keep b2);have R2:=hi9 (R1.out.keep b2);clear b2 B1 W1 R1 k0 k1 k2 k3 k4 k5 k6;by_cases s2:f2=0
 case neg =>
  have HRE:=hi9 (HB3.out (by trivial) s2);have hf:(f2==0)=false:=beq_eq_false_iff_ne.2 s2;have hg:(f2 != 0)=true:=by simpa using s2
  clear s2;go_wp2_with fail;refine(jA f2 w2).mono ?_;rintro e w9 ⟨rfl,b9⟩;have B9:=bh B2 b9;have R9:=hi9 (R2.out.keep b9);have N9:=hi9 (show Ns w9 none 0 0 (zju (.error f2)) from jv _);have RS:=R9.out.set (.slice none 0 0) (.int .i64 f2);obtain⟨s0,s1,-,-⟩:=RS;have GF:=hi9 (zA (S:=fun b=>b<w.heap.size) (r := .error f2) N9.out (jB (S:=fun b=>b<w.heap.size) (w:=w) (rb:=w.heap.size+1)) B9.out (show w.heap.size≤w.heap.size+1 by omega));obtain⟨r0,r1,z0,z1⟩:=R9.out;go_wp2_with fail;exact bodyPost_ret (v := .agg #[.slice none 0 0,.int .i64 f2]) (by simp [results,Tryz.results4,go_sem,s0,s1]) rfl (by rw [HRE.out];exact GF.out)
 subst s2;obtain⟨k0,k1,k2,k3,k4,k5,k6⟩:=W2.out;go_wp2_with fail;refine(C3.out _ B2.out).mono ?_;rintro e w3 ⟨rfl,b3⟩;have B3:=bh B2 b3;have W3:=hi9 (W2.out.keep b3);have R3:=hi9 (R2.out.keep b3);clear b3 B2 W2 R2 k0 k1 k2 k3 k4 k5 k6;by_cases s3:f3=0
 case neg =>
  have HRE:=hi9 (HB4.out (by trivial) (by trivial) s3);have hf:(f3==0)=false:=beq_eq_false_iff_ne.2 s3;have hg:(f3 != 0)=true:=by simpa using s3
  clear s3;go_wp2_with fail;refine(jA f3 w3).mono ?_;rintro e w9 ⟨rfl,b9⟩;have B9:=bh B3 b9;have R9:=hi9 (R3.out.keep b9);have N9:=hi9 (show Ns w9 none 0 0 (zju (.error f3)) from jv _);have RS:=R9.out.set (.slice none 0 0) (.int .i64 f3);obtain⟨s0,s1,-,-⟩:=RS;have GF:=hi9 (zA (S:=fun b=>b<w.heap.size) (r := .error f3) N9.out (jB (S:=fun b=>b<w.heap.size) (w:=w) (rb:=w.heap.size+1)) B9.out (show w.heap.size≤w.heap.size+1 by omega));obtain⟨r0,r1,z0,z1⟩:=R9.out;go_wp2_with fail;exact bodyPost_ret (v := .agg #[.slice none 0 0,.int .i64 f3]) (by simp [results,Tryz.results4,go_sem,s0,s1]) rfl (by rw [HRE.out];exact GF.out)
 subst s3;obtain⟨k0,k1,k2,k3,k4,k5,k6⟩:=W3.out;go_wp2_with fail;refine(KW.out _ B3.out (HU.out (by trivial) (by trivial) (by trivial))).mono ?_;rintro e w4 ⟨A4,n4,c4,rfl,hN,hf,b4⟩;have B4:=bh B3 b4;have N4:=hi9 hN;have FX:=hi9 (show∀a,A4=some a→(a.block<w.heap.size∨w.heap.size≤a.block)∧a.block≠w.heap.size+1 from fun a e=>by
  have h2:w.heap.size+1<w3.heap.size:=block_lt_of_cell R3.out.c0
  rcases hf a e with h|h
  ·exact⟨.inl h,by omega⟩
  ·exact⟨.inr (by omega),by omega⟩)
 have R4:=hi9 (R3.out.keep b4);clear b4 hN hf k0 k1 k2 k3 k4 k5 k6;have RS:=R4.out.set (.slice A4 n4 c4) (.int .i64 (zZ rr));obtain⟨s0,s1,-,-⟩:=RS;have GF:=hi9 (zA (S:=fun b=>b<w.heap.size) (r:=rr) N4.out FX.out B4.out (show w.heap.size≤w.heap.size+1 by omega));obtain⟨r0,r1,z0,z1⟩:=R4.out;go_wp2_with fail;exact bodyPost_ret (v := .agg #[.slice A4 n4 c4,.int .i64 (zZ rr)]) (by simp [results,Tryz.results4,go_sem,s0,s1]) rfl GF.out
theorem Vq.but{w w':World}{b:Nat}{q:Rq}{g:Nat}(h:Vq w b q)(hg:w.grownBy w' (some g))(h1:b≠g):Vq w' b q:=by
 have e1:some b≠some g:=fun e=>by injection e with e;exact h1 e
 exact⟨hg.cell h.c0 e1,hg.cell h.c1 e1,hg.cell h.c2 e1,hg.cell h.c3 e1,hg.cell h.c4 e1,hg.cell h.c5 e1,hg.cell h.c6 e1⟩
theorem zgX(A0:Option Addr)(n0 c0:Nat)(E:List En)(q:Rq)(A2:Option Addr)(n2 c2:Nat)(P2:List Nd)(w:World)(hE:Es w A0 n0 c0 E)(hq:zfV w q)(hP:Ns w A2 n2 c2 P2)(hg:zbC w):
 Calls Tryz.prog 3 #[.slice A0 n0 c0,q.v,.slice A2 n2 c2] w fun e w'=>e = .returned (.bool true)∧Below w.heap.size w w':=by
 have HR:=hi9 (fun w' (hb:Below w.heap.size w w')=>zoo A0 n0 c0 E q A2 n2 c2 P2 w' (hE.keep hb) (hq.keep hb) (hP.keep hb) (hg.keep hb));have HVl:=hi9 (fun w' (hb:Below w.heap.size w w')=>znx A0 n0 c0 E q A2 n2 c2 P2 w' (hE.keep hb) (hq.keep hb) (hP.keep hb) (hg.keep hb));obtain⟨rr,hrr⟩:∃rr,rr=zbI ⟨E,q.who,q.act,q.what,q.P⟩ P2:=⟨_,rfl⟩
 rw [←hrr] at HR HVl;have HT:=hi9 (fun w' (hb:Below w.heap.size w w')=>znH (zZ rr) (zZ rr) w' (hg.keep hb));have V0:=zb1 w q 27;have B0:=hi9 (zb w (.cells #[.string q.who.1,.string q.who.2,.string q.act.1,.string q.act.2,.string q.what.1,.string q.what.2,.slice q.NA q.nn q.nc] 27));unfold zD Rq.v at HR;unfold zeV Rq.v at HVl;unfold Rq.v;clear hE hq hP hg hrr;go_enter Tryz.func3,Tryz.ntmps3;go_wp2_with fail;obtain⟨w1,hw1⟩:∃w1,(w.alloc (.cells #[.string q.who.1,.string q.who.2,.string q.act.1,.string q.act.2,.string q.what.1,.string q.what.2,.slice q.NA q.nn q.nc] 27))=w1:=⟨_,rfl⟩
 have hz1:w.heap.size<w1.heap.size:=by rw [←hw1];simp [go_sem]
 rw [hw1] at B0 V0 ⊢;have V1:=hi9 V0;clear hw1 V0;refine(HR.out _ B0.out).mono ?_;rintro e w2 ⟨A3,n3,c3,rfl,hN,-,b2⟩;have bz:=zb w2 (.cells #[.slice A3 n3 c3,.int .i64 (zZ rr)] 30);have B2:=bh (bh B0 b2) bz;have N2:=hi9 (hN.keep bz);have V2:=hi9 ((V1.out.keep b2).keep bz);have G2:=hi9 (zf4 w2 A3 n3 c3 (zZ rr) 30);obtain⟨k0,k1,k2,k3,k4,k5,k6⟩:=V2.out;clear bz hN b2;go_wp2_with fail;refine(HVl.out _ B2.out).mono ?_;rintro e w4 ⟨A4,n4,c4,rfl,hN,b4⟩;have B4:=bh B2 b4;have N4:=hi9 hN;have N3:=hi9 (N2.out.keep b4);have G4:=hi9 (G2.out.keep b4);obtain⟨g0,g1⟩:=G4.out;clear k0 k1 k2 k3 k4 k5 k6 hN b4 N2 G2 V2;go_wp2_with fail;refine(HT.out _ B4.out).mono ?_;rintro e w5 ⟨rfl,b5⟩;have B5:=bh B4 b5;have N6:=hi9 (N4.out.keep b5);have N5:=hi9 (N3.out.keep b5);have g0:=za b5 g0;clear b5 g1 N4 N3;have hs:=zhV A4 A3 n4 n3 c4 c3 _ _ w5 N6.out.len N5.out.len N6.out.max N5.out.max N6.out.at_ N5.out.at_;rw [decide_eq_true (show zu (zju rr) (zju rr)=0 from zV.self _)] at hs;have KS:=hi9 hs;rw [beq_self_eq_true];clear hs;go_wp2_with fail;refine KS.out.mono ?_;rintro e w6 ⟨rfl,b6⟩;have B6:=bh B5 b6;go_wp2_with fail;go_ret;exact⟨rfl,B6.out⟩
end Go.Proofs.YtkfgabdnppmglaaGreatDoor
namespace Go.Proofs.YtkfgabdnppmglaaGreatDoor
open Go Go.ChangeShapes Go.WideShapes
theorem zc0:Tryz.prog.funcNamed Rows.evalValuesRow.func=some 3:=by kernel_rfl
theorem zi6:Rows.evalValuesRow.wfByText (OpenSpec.ofChange Rows.evalValuesSpec)=true:=by kernel_rfl
theorem zg0:Tryz.prog.mainIs=some (Rows.evalValuesCard.stood.harness.1,Rows.evalValuesCard.stood.harness.2.toList):=by kernel_rfl
theorem zf3:true=Tryz.prog.looks []:=by kernel_rfl
theorem zgW:false=Rows.evalValuesRow.goesBy Tryz.prog:=by kernel_rfl
theorem zgZ:Tryz.f3.isInstance Tryz.prog Rows.evalValuesRow.origin Rows.evalValuesRow.targs:=of_decide_eq_true (by kernel_rfl)
theorem zgY:Tryz.f3.isWrapper Tryz.prog Rows.evalValuesRow.wrapper Rows.evalValuesRow.mainSum:=by unfold Func.isWrapper;rw [if_neg (by decide +kernel)];exact⟨rfl,rfl⟩
theorem zjl:(Rows.evalValuesRow.wf (OpenSpec.ofChange Rows.evalValuesSpec))=true:=by kernel_rfl
theorem zjp:(laidOutB Tryz.prog)=true:=by kernel_rfl
theorem zi2:(mapsRowed Tryz.prog)=true:=by kernel_rfl
theorem zi0:(Tryz.f3.params.all (Tryz.prog.readableRec ·))=true:=by kernel_rfl
theorem zi1:(namedTie Tryz.prog Rows.evalValuesRow.named Rows.evalValuesSpec.vars)=true:=by kernel_rfl
theorem zje:((Rows.evalValuesRow.stops == []))=true:=by kernel_rfl
theorem zji:((Tryz.prog.stops == []))=true:=by kernel_rfl
theorem zjC:((Rows.evalValuesRow.knobs == []))=true:=by kernel_rfl
theorem zja:((Tryz.prog.stopKnobs == []))=true:=by kernel_rfl
theorem zim:((Rows.evalValuesRow.inPlace==Tryz.prog.inPlace 3))=true:=by kernel_rfl
theorem ziI:((Rows.evalValuesRow.unfollowed==Tryz.prog.unfollowed 3))=true:=by kernel_rfl
theorem zh6:((Rows.evalValuesRow.recurses==Tryz.prog.recurses 3))=true:=by kernel_rfl
theorem zij:((Rows.evalValuesRow.named==Tryz.prog.varsNamed 3))=true:=by kernel_rfl
theorem ziD:((Rows.evalValuesRow.maps==(Tryz.f3.params.toList ++ Rows.evalValuesSpec.plain.varTypes Tryz.prog).any (Tryz.prog.mapsRec ·)))=true:=by kernel_rfl
theorem zhs:((Rows.evalValuesRow.ifaces==(Tryz.f3.params.toList ++ Rows.evalValuesSpec.plain.varTypes Tryz.prog).any (Tryz.prog.ifacesRec ·)))=true:=by kernel_rfl
theorem zhT:((Rows.evalValuesRow.mapsOut==Tryz.prog.mapsAmong Tryz.f3.resultTypes.toList))=true:=by kernel_rfl
theorem zhM:((Rows.evalValuesRow.loops==(Tryz.f3.params.toList ++ Rows.evalValuesSpec.plain.varTypes Tryz.prog).any (Tryz.prog.loopsFrom ·)))=true:=by kernel_rfl
theorem ziw:((Rows.evalValuesRow.wideKeys==(Tryz.f3.params.toList ++ Rows.evalValuesSpec.plain.varTypes Tryz.prog ++ Tryz.f3.resultTypes.toList).any (Tryz.prog.wideKeysFrom ·)))=true:=by kernel_rfl
theorem zh7:(Rows.evalValuesSpec.vars.all (Tryz.prog.varReadable ·))=true:=by kernel_rfl
theorem zhS:(Tryz.f3.resultTypes.all (fun t=>Tryz.prog.readableRec t && decide (t<Tryz.prog.types.size)))=true:=by kernel_rfl
theorem ziH:((Rows.evalValuesRow.ifacesOut==Tryz.f3.resultTypes.toList.any (Tryz.prog.ifacesRec ·)))=true:=by kernel_rfl
theorem ziK:((Rows.evalValuesRow.loopsOut==Tryz.f3.resultTypes.toList.any (Tryz.prog.loopsFrom ·)))=true:=by kernel_rfl
theorem zhp:((Rows.evalValuesRow.plainKeys==Tryz.prog.plainKeys))=true:=by kernel_rfl
theorem zh3:(Rows.evalValuesRow.shortTexts.isNone)=true:=by kernel_rfl
theorem ziC:(Tryz.prog.stopsHeard)=true:=by kernel_rfl
theorem ziV:(Tryz.prog.mayEnter)=true:=by kernel_rfl
theorem ziE:((Rows.evalValuesRow.lifted==Tryz.prog.liftsFinal))=true:=by kernel_rfl
theorem zhX:((Tryz.prog.make==some Rows.evalValuesRow.make))=true:=by kernel_rfl
theorem ziN:((Rows.evalValuesRow.kinds==(if Rows.evalValuesRow.domain.isEmpty then [] else Tryz.f3.params.toList.map fun t=>match Tryz.prog.underlying t with|some (.int k)=>some k|_=>none)))=true:=by kernel_rfl
theorem ziG:((Rows.evalValuesRow.pinned==Rows.evalValuesRow.pinnedBy))=true:=by kernel_rfl
theorem zhI:((Rows.evalValuesRow.veiled==(Tryz.f3.params.toList ++ Rows.evalValuesSpec.plain.varTypes Tryz.prog ++ Tryz.f3.resultTypes.toList).any (Tryz.prog.veiledRec ·)))=true:=by kernel_rfl
theorem ziX:(Rows.evalValuesRow.veiledFits Tryz.prog Tryz.f3.params.toList (Tryz.f3.params.toList ++ Rows.evalValuesSpec.plain.varTypes Tryz.prog ++ Tryz.f3.resultTypes.toList))=true:=by kernel_rfl
theorem jn{a b:Bool}(h:a=true)(k:b=true):(a && b)=true:=by rw [h,k];rfl
theorem zeS:joinedFacts Tryz.prog 3 Tryz.f3 Rows.evalValuesSpec Rows.evalValuesRow=true:=by
 unfold joinedFacts;exact(jn (jn (jn (jn (jn (jn (jn (jn (jn (jn (jn (jn (jn (jn (jn (jn (jn (jn (jn (jn (jn (jn (jn (jn (jn (jn (jn (jn (jn (jn (jn zjl zjp) zi2) zi0) zi1) zje) zji) zjC) zja) zim) ziI) zh6) zij) ziD) zhs) zhT) zhM) ziw) zh7) zhS) ziH) ziK) zhp) zh3) ziC) ziV) ziE) zhX) ziN) ziG) zhI) ziX)
end Go.Proofs.YtkfgabdnppmglaaGreatDoor
namespace Go.Proofs.YtkfgabdnppmglaaGreatDoor
open Go.ChangeShapes Go.WideShapes Go.RowKit
def zo3:DataW Unit:=Rows.laid_errors_errorType
def zuu:String:=match zo3 with | .iface n _=>n|_ => ""
theorem zsA:(Tryz.prog.cutTypes.find? (·.1==zuu)).map (·.2)=some 191:=by kernel_rfl
theorem zsf:Tryz.prog.globalNamed "errors.errorType"=some 0:=by kernel_rfl
theorem zu0:((List.range 369).filter fun t=>Tryz.prog.rowNamed t [101,114,114,111,114])= [33]:=by kernel_rfl
theorem zpR:Tryz.prog.types.size=369:=by kernel_rfl
def zcX:List (String × DataW Unit):= [("errors.errorType",zo3)]
theorem zih{W:World}(h:laidMetH Tryz.prog zcX W):zbC W:=by
 have h':laidMet Tryz.prog [] W∧handlesMet Tryz.prog zcX W:=h;obtain⟨name,u,ty,e1,e2,e3,e4,e5⟩:=h'.2 _ (List.mem_singleton.2 rfl);have en:name = [101,114,114,111,114]:=(Option.some.inj e1).symm;subst en;obtain rfl:=Option.some.inj (zsA.symm.trans e2);have hm:ty∈(List.range 369).filter fun t=>Tryz.prog.rowNamed t [101,114,114,111,114]:=List.mem_filter.2 ⟨List.mem_range.2 (by rw [←zpR];exact e3),e4⟩;rw [zu0] at hm;obtain rfl:=List.mem_singleton.1 hm;have hh:typeHandle Tryz.prog 33 = .pointer (some ⟨2,33,none⟩):=by kernel_rfl
 rw [hh] at e5;have:=World.var?_cell zsf e5 0;exact this
noncomputable def zj6(os:Os):World :=
 let w0:=World.holding Tryz.prog os ⟨#[],#[],[]⟩
 {w0 with heap:=w0.heap.modify 0 fun
   | .cells _ t frozen => .cells #[.iface 191 (.agg #[.pointer (some ⟨2,33,none⟩)])] t frozen
   | o=>o }
theorem zjD(os:Os)(args:Array Value):laidMetH Tryz.prog zcX ((zj6 os).forCall (fun _ _=>0) ⟨#[],args,[]⟩).memory :=
 laidMetH_of_parts (laidMet_nil _ _) (by kernel_rfl)
end Go.Proofs.YtkfgabdnppmglaaGreatDoor
namespace Go.Proofs.YtkfgabdnppmglaaGreatDoor
open Go Go.ChangeShapes Go.WideShapes Go.ChangeAt Go.RowKit Go.Wk
open Go.ChangeMaps (open_string)
theorem zfk(os:Os)(started:os.Started)(H:Type)(enc:TypeId × Value→H):
 ReturnsInHanded {} Tryz.checked os 3 .any (fun w args=>(Rows.evalValuesSpec.pre enc Tryz.prog Tryz.f3 [] false w args∧laidMetH Tryz.prog zcX w)∧sizedMet enc Tryz.prog Tryz.f3 (OpenSpec.ofChange Rows.evalValuesSpec) false w args) (Rows.evalValuesSpec.post enc Tryz.prog Tryz.f3 false true false false):=by
 refine returnsInHanded_of_change_and (C:=Tryz.checked) (X:=fun w _=>laidMetH Tryz.prog zcX w) (fun _ _ _ hh h=>h.of_heap hh) own started (by kernel_rfl) Tryz.func3
  (ChangeSpec.witness_at (enc:=enc) (C:=Tryz.checked) (os:=os) (X:=fun w _=>laidMetH Tryz.prog zcX w) false (zj6 os) #[.slice none 0 0,.agg #[.string ⟨#[]⟩,.string ⟨#[]⟩,.string ⟨#[]⟩,.string ⟨#[]⟩,.string ⟨#[]⟩,.string ⟨#[]⟩,.slice none 0 0],.slice none 0 0] 8 rfl (by kernel_rfl) (by kernel_rfl) (by kernel_rfl) (by kernel_rfl) (by kernel_rfl) (zjD os _)) ?_
 intro W base args ds gs before hval0 hW _ _ hL _;have hg:=zih hL;have hval:∀(j:Nat) t v,Tryz.f3.params[j]?=some t→args[j]?=some v→Value.okWide Tryz.prog W .any base t v:=hval0;have hW0:=hW;obtain⟨p,q,hA0,_,_,_,_⟩:=hW;have hA:DataW.TrodAll enc Tryz.prog W 0 (fun _=>true) true Tryz.f3.params.toList args.toList ds p:=hA0;rw [Tryz.params3] at hA hval;clear hA0 hval0;obtain⟨v0,vs0,d0,ds0,p0,q0,hargs,rfl,rfl,h0,r0⟩:=trodAll_cons hA;obtain⟨v1,vs1,d1,ds1,p1,q1,rfl,rfl,rfl,h1,r1⟩:=trodAll_cons r0;obtain⟨v2,vs2,d2,ds2,p2,q2,rfl,rfl,rfl,h2,r2⟩:=trodAll_cons r1;obtain⟨rfl,rfl,rfl⟩:=trodAll_nil r2;obtain⟨args⟩:=args;simp only at hargs;subst hargs;obtain⟨A0,n0,c0,E0,rfl,sx0⟩:=zpM (hval 0 22 v0 rfl rfl) h0;obtain⟨x1,rfl,sx1⟩:=zkZ (hval 1 27 v1 rfl rfl) h1;obtain⟨A2,n2,c2,P2,rfl,sx2⟩:=znS (hval 2 25 v2 rfl rfl) h2;refine(zgX A0 n0 c0 E0 x1 A2 n2 c2 P2 W sx0 sx1 sx2 hg).mono fun e W' ⟨he,hb'⟩=>?_;subst he;refine⟨_,rfl,zsz zo6 (by kernel_rfl) (by rfl) Tryz.underlying4 rfl ?_ hW0 hb'⟩;intro ds hlen;rw [Tryz.params3] at hlen
 match ds,hlen with
 | [e0,e1,e2],_=>rfl
theorem zg4:Rows.evalValuesRow.holds Tryz.pinned (OpenSpec.ofChange Rows.evalValuesSpec):=
 OpenClaim.holds_of_wide 3 Tryz.f3 rfl rfl rfl rfl rfl rfl rfl ⟨rfl,rfl,rfl,rfl,rfl⟩ rfl rfl rfl rfl rfl zc0 Tryz.func3 zeS
  zgZ zgY
  (fun os started H enc _=>zfk os started H enc)
theorem EvalValues_holds:Rows.EvalValuesCardSaid :=
 Claim7.holds_tied_plain_at .later [] [.handle] true Rows.evalValuesCard.stood.harness true
  zg4 (fun _ h=>by cases h) zi6 (fun _ h=>by cases h) evalValues_row_tie rfl ⟨rfl,rfl⟩ zg0 rfl
  (fun f fn hf hfn=>by
   obtain rfl:f=3:=Option.some.inj (zc0.symm.trans hf)|>.symm
   obtain rfl:fn=Tryz.f3:=(Option.some.inj (Tryz.func3.symm.trans hfn)).symm
   exact⟨zf3,fun j t ht=>by
    rw [Tryz.params3] at ht
    have hm:=Array.mem_of_getElem? ht
    simp only [List.mem_toArray,List.mem_cons,List.not_mem_nil,or_false] at hm
    rcases hm with rfl|rfl|rfl
    all_goals exact(show Tryz.prog.wantsStandIn _=false by kernel_rfl)⟩)
  zgW
#print axioms EvalValues_holds
end Go.Proofs.YtkfgabdnppmglaaGreatDoor
