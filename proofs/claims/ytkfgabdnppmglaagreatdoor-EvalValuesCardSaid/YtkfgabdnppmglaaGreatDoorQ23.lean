/-
  The reference's ValueEnd at sets and records; ValueFault. The reference's ValueEnd outright; ValueFault and Faults. val.SetOf: the set of values. errors.As at ..
-/
import Derived.LaidEql
import Derived.Stop.Asserts
import Derived.RowKitTokens
import Derived.WalkKit
import Derived.Defers
import Derived.Laws.Pointers
import Derived.Laws.LoneSync
import Derived.RegionCalls
import Derived.Test.YtkfgabdnppmglaaGreatDoorQ1
import Derived.Test.YtkfgabdnppmglaaGreatDoorQ16
import Derived.Test.YtkfgabdnppmglaaGreatDoorQ19
import Derived.Test.YtkfgabdnppmglaaGreatDoorQ21
import Derived.Test.YtkfgabdnppmglaaGreatDoorQ22
set_option maxRecDepth 100000
set_option maxHeartbeats 8000000
namespace Go.Proofs.YtkfgabdnppmglaaGreatDoor
open Go.RowKit Go.Wk Go.Sort
theorem ztr(a:Addr)(P:List Nd)(n c p m:Nat)(w:World)(hn:n=P.length)(hc:n≤c)(hm:n≤maxLen)(hp:p<n)(hP:jp w (some a) P)(hO:zaj P)(hs:zB (P[p]'(by omega))=true)
 (h5:(P[p]'(by omega)).op=5) (ih:zuE P (some a) n c m) (hfu:n-p<m+1):
 Calls Tryz.prog 52 #[.slice (some a) n c,.int .i64 p,.bool false] w fun e w'=>e = .returned (.int .i64 (zb2 (z7 P (zn P m) (P[p]'(by omega)).n.toNat none (p+1))))∧Below w.heap.size w w':=by
 have HM:=hi9 hm;unfold maxLen at hm;have HP:=hi9 hP;have HN:=hi9 hn;have HO:=hi9 hO;have IH:=hi9 ih;have hp':p<P.length:=by omega
 obtain⟨b,hb0,D⟩:=hP.nd hp';injection hb0 with hb0;subst hb0;have V:=hi9 (fun w=>zaZ P[p] w (hO.at hp').s (hO.at hp').t);unfold ndV at V;obtain⟨d0,d1,d2,d3⟩:=D;obtain⟨-,-,-,hhi⟩:=hO.at hp';rw [hs] at V;rw [h5] at V d0;have D0:=zeN w P[p] 53;rw [h5] at D0;have X:=hi9 h5;generalize P[p]=x at *;have hx0:0≤x.n:=by
  unfold zB at hs;rw [h5] at hs;simp at hs;exact hs.1.1
 clear hs hO h5 hP hn ih;go_enter Tryz.func52,Tryz.ntmps52;go_wp2_with fail;refine(V.out _).mono ?_;rintro e w1 ⟨rfl,hb⟩;have D1:=hi9 (D0.keep hb);obtain⟨x0,x1,x2,x3⟩:=D1.out;rw [X.out] at x0;have B:=hi9 (zy hb);clear hb D0;go_wp2_with fail;clear x0 x1 x2 x3 d0 d1 d2 d3;go_loopw [8,9,10,11] (fun en la i _ wr=>∃(k q:Nat) (lo:Option Nat),en = .int .i64 q∧la = .int .i64 (zb2 lo)∧i = .int .i64 k∧(k:Int)≤x.n∧Hid (∀l,lo=some l→l<q)∧q≤n∧p<q∧
  Hid (z7 P (zn P m) x.n.toNat none (p+1)=z7 P (zn P m) (x.n.toNat-k) lo q)∧Hid (Nd4 wr ⟨w.heap.size,0,none⟩ x)∧Hid (Below w.heap.size w wr)) (fun _ _ i _ _=>(x.n-intOf i).toNat)
 case atStart=>exact⟨0,p+1,none,by go_num,rfl,rfl,hx0,(by intro l hl;cases hl),by omega,by omega,rfl,D1.out,B.out⟩
 case round =>
  obtain⟨k,q,lo,rfl,rfl,rfl,hk,hlo,hq,hpq,hE,hD,hB⟩:=hrel;obtain⟨x0,x1,x2,x3⟩:=hD.out;rw [X.out] at x0;by_cases hlt:(k:Int)<x.n
  ·have N:=hi9 (HP.out.keep hB.out);have C:=hi9 (IH.out.1 q wr N.out (by omega));rcases hf:zn P m q with _|e
   ·have HF:=hi9 (hE.out.trans (zfA (by omega) hf));rw [hf] at C;simp only [zb2] at C;clear hf hE;go_wp2_with fail;refine(C.out).mono ?_;rintro e w2 ⟨rfl,b2⟩;go_wp2_with fail;go_ret;exact⟨zQ (by rw [HF.out];rfl),(hB.out.trans (b2.mono hB.out.size))⟩
   ·have HF:=hi9 hf;have hpe:=jG _ _ _ hf;rw [←HN.out] at hpe;rw [hf] at C;simp only [zb2] at C;clear hf;rcases lo with _|l
    ·have HG:=hi9 (hE.out.trans (zca (by omega) HF.out rfl));clear hE hlo;simp only [zb2];go_wp2_with fail;refine(C.out).mono ?_;rintro e w2 ⟨rfl,b2⟩;have B2:=hi9 (hB.out.trans (b2.mono hB.out.size));have D2:=hi9 (hD.out.keep b2);clear b2 x0 x1 x2 x3;go_wp2_with fail;refine wp_region_quiet_below (by kernel_rfl) (by kernel_rfl) ?_
     repeat (first|go_big_quiet_step (fail)|quiet_step (fail))
     refine wpQuiet_nil ?_;intro w3 hw';have B3:=hi9 (show Below w2.heap.size w2 w3 by obtain⟨⟨d,os⟩,rfl⟩:=hw';exact below_regrown _ _ _);clear hw';go_wp2_with fail;refine wp_region_quiet_below (by kernel_rfl) (by kernel_rfl) ?_
     repeat (first|go_big_quiet_step (fail)|quiet_step (fail))
     refine wpQuiet_nil ?_;intro w4 hw';have B4:=hi9 (show Below w3.heap.size w3 w4 by obtain⟨⟨d,os⟩,rfl⟩:=hw';exact below_regrown _ _ _);clear hw';go_wp2_with fail;go_roundw
     case rel=>exact⟨k+1,e,some q,rfl,rfl,by go_num,by omega,(by intro l hl;cases hl;exact hpe.1),by omega,by omega,HG,hi9 ((D2.out.keep B3.out).keep B4.out),j2 (j2 B2 B3 (Nat.le_refl _)) B4 (Nat.le_refl _)⟩
     case measure=>simp [intOf];omega
    ·have hlq:=hlo.out l rfl;clear hlo;have sN:=fun w2 (hb:Below wr.heap.size wr w2)=>zeh (some (a.add (l*4))) (some (a.add (q*4))) (q-l) (e-q) (c-l) (c-q) (seg P l q) (seg P q e) w2 (jH (by rw [←HN.out];omega)).symm (jH (by rw [←HN.out];omega)).symm (Nat.le_trans (by omega) HM.out) (Nat.le_trans (by omega) HM.out)
      ((N.out.keep hb).seg l q) ((N.out.keep hb).seg q e) (HO.out.seg l q) (HO.out.seg q e)
     have hr:zfe P (some l) q e=decide (zu (seg P l q) (seg P q e)<0):=rfl;generalize zu (seg P l q) (seg P q e)=v at *;have SN:=hi9 sN;simp only [zb2];clear sN;by_cases hv:v<0
     ·have HG:=hi9 (hE.out.trans (zca (by omega) HF.out (by rw [hr];exact decide_eq_true hv)));clear hE hr;go_wp2_with fail;refine(C.out).mono ?_;rintro e w2 ⟨rfl,b2⟩;have B2:=hi9 (hB.out.trans (b2.mono hB.out.size));have D2:=hi9 (hD.out.keep b2);have k0:=cell_regrown D2.out.c0;rw [X.out] at k0;have s1:=rq (w:=w2) (fun w' h=>SN.out w' (b2.trans (h.mono b2.size)));clear b2 x0 x1 x2 x3;go_wp2_with fail;refine wp_region_quiet_below (by kernel_rfl) (by kernel_rfl) ?_
      repeat (first|go_big_quiet_step (exact s1 _ _)|quiet_step (exact s1 _ _))
      refine wpQuiet_nil ?_;intro w3 hw';have B3:=hi9 (show Below w2.heap.size w2 w3 by obtain⟨⟨d,os⟩,rfl⟩:=hw';exact below_regrown _ _ _);clear hw';clear k0 s1;have k0:=cell_regrown (D2.out.keep B3.out).c0;rw [X.out] at k0;go_wp2_with fail;refine wp_region_quiet_below (by kernel_rfl) (by kernel_rfl) ?_
      repeat (first|go_big_quiet_step (fail)|quiet_step (fail))
      refine wpQuiet_nil ?_;intro w4 hw';have B4:=hi9 (show Below w3.heap.size w3 w4 by obtain⟨⟨d,os⟩,rfl⟩:=hw';exact below_regrown _ _ _);clear hw';go_wp2_with fail;go_roundw
      case rel=>exact⟨k+1,e,some q,rfl,rfl,by go_num,by omega,(by intro l hl;cases hl;exact hpe.1),by omega,by omega,HG,hi9 ((D2.out.keep B3.out).keep B4.out),j2 (j2 B2 B3 (Nat.le_refl _)) B4 (Nat.le_refl _)⟩
      case measure=>simp [intOf];omega
     ·have HG:=hi9 (hE.out.trans (zeW (by omega) HF.out (by rw [hr];exact decide_eq_false hv)));clear hE hr;go_wp2_with fail;refine(C.out).mono ?_;rintro e w2 ⟨rfl,b2⟩;have B2:=hi9 (hB.out.trans (b2.mono hB.out.size));have D2:=hi9 (hD.out.keep b2);have k0:=cell_regrown D2.out.c0;rw [X.out] at k0;have s1:=rq (w:=w2) (fun w' h=>SN.out w' (b2.trans (h.mono b2.size)));clear b2 x0 x1 x2 x3;go_wp2_with fail;refine wp_region_quiet_below (by kernel_rfl) (by kernel_rfl) ?_
      repeat (first|go_big_quiet_step (exact s1 _ _)|quiet_step (exact s1 _ _))
      refine wpQuiet_nil ?_;intro w3 hw';have B3:=hi9 (show Below w2.heap.size w2 w3 by obtain⟨⟨d,os⟩,rfl⟩:=hw';exact below_regrown _ _ _);clear hw';clear k0 s1;go_wp2_with fail;go_ret;exact⟨zQ (by rw [HG.out];rfl),(j2 B2 B3 (Nat.le_refl _)).out⟩
  ·have HG:=hi9 (hE.out.trans (by rw [show x.n.toNat-k=0 by omega];rfl:_=some q));clear hE hlo;go_wp2_with fail;go_ret;exact⟨zQ (by rw [HG.out];rfl),hB.out⟩
theorem ztl(a:Addr)(P:List Nd)(n c p m:Nat)(w:World)(hn:n=P.length)(_hc:n≤c)(hm:n≤maxLen)(hp:p<n)(hP:jp w (some a) P)(hO:zaj P)(hs:zB (P[p]'(by omega))=true)
 (h5:(P[p]'(by omega)).op=6) (ih:zuE P (some a) n c m) (hfu:n-p<m+1):
 Calls Tryz.prog 52 #[.slice (some a) n c,.int .i64 p,.bool false] w fun e w'=>e = .returned (.int .i64 (zb2 (zY P (zn P m) (P[p]'(by omega)).n.toNat .empty (p+1))))∧Below w.heap.size w w':=by
 have HM:=hi9 hm;unfold maxLen at hm;have HP:=hi9 hP;have HN:=hi9 hn;have HO:=hi9 hO;have IH:=hi9 ih;have hp':p<P.length:=by omega
 obtain⟨b,hb0,D⟩:=hP.nd hp';injection hb0 with hb0;subst hb0;have V:=hi9 (fun w=>zaZ P[p] w (hO.at hp').s (hO.at hp').t);unfold ndV at V;obtain⟨d0,d1,d2,d3⟩:=D;obtain⟨-,-,-,hhi⟩:=hO.at hp';rw [hs] at V;rw [h5] at V d0;have D0:=zeN w P[p] 53;rw [h5] at D0;have X:=hi9 h5;generalize P[p]=x at *;have hx0:0≤x.n:=by
  unfold zB at hs;rw [h5] at hs;simp at hs;exact hs.1.1
 clear hs hO h5 hP hn ih;go_enter Tryz.func52,Tryz.ntmps52;go_wp2_with fail;refine(V.out _).mono ?_;rintro e w1 ⟨rfl,hb⟩;have D1:=hi9 (D0.keep hb);obtain⟨x0,x1,x2,x3⟩:=D1.out;rw [X.out] at x0;have B:=hi9 (zy hb);clear hb D0;go_wp2_with fail;clear x0 x1 x2 x3 d0 d1 d2 d3;go_loopw [8,9,10,11] (fun en la i _ wr=>∃(k q:Nat) (lo:Option Nat) (ls:ByteArray),en = .int .i64 q∧la = .int .i64 (zb2 lo)∧i = .int .i64 k∧(k:Int)≤x.n∧Hid ((lo=none∧ls = .empty)∨∃(l:Nat) (h:l<P.length),lo=some l∧P[l].s=ls)∧q≤n∧p<q∧
  Hid (zY P (zn P m) x.n.toNat .empty (p+1)=zY P (zn P m) (x.n.toNat-k) ls q)∧Hid (Nd4 wr ⟨w.heap.size,0,none⟩ x)∧Hid (Below w.heap.size w wr)) (fun _ _ i _ _=>(x.n-intOf i).toNat)
 case atStart=>exact⟨0,p+1,none,.empty,by go_num,rfl,rfl,hx0,.inl ⟨rfl,rfl⟩,by omega,by omega,rfl,D1.out,B.out⟩
 case round =>
  obtain⟨k,q,lo,ls,rfl,rfl,rfl,hk,hlo,hq,hpq,hE,hD,hB⟩:=hrel;obtain⟨x0,x1,x2,x3⟩:=hD.out;rw [X.out] at x0;by_cases hlt:(k:Int)<x.n
  ·have N:=hi9 (HP.out.keep hB.out);have C:=hi9 (IH.out.2 q wr N.out (by omega));rcases hf:zaG P m q with _|e
   ·have HF:=hi9 (hE.out.trans (zkx (by omega) hf));rw [hf] at C;simp only [zb2] at C;clear hf hE;go_wp2_with fail;refine(C.out).mono ?_;rintro e w2 ⟨rfl,b2⟩;go_wp2_with fail;go_ret;exact⟨zQ (by rw [HF.out];rfl),(hB.out.trans (b2.mono hB.out.size))⟩
   ·obtain⟨hq',f7,fs,fe⟩:=zjz hf;have hpe:=jG _ _ _ fe;rw [←HN.out] at hpe;rw [hf] at C;simp only [zb2] at C;have FP:=hi9 (zqN f7 fs);have HY:=hi9 (show∀s0,jk s0 P[q].s<0→jV P s0 q=some P[q].s from fun s0 h=>zgn hq' (by rw [f7,fs,decide_eq_true h];rfl));have HZ:=hi9 (show∀s0,¬jk s0 P[q].s<0→jV P s0 q=none from fun s0 h=>zeE hq' (by rw [decide_eq_false h];simp));have FE:=hi9 fe;have HQ:=hi9 hq';have hqn:q<n:=by omega
    clear hf f7 fs fe;rcases hlo.out with ⟨rfl,rfl⟩|⟨l,hl,rfl,rfl⟩
    ·have HG:=hi9 (hE.out.trans (zdj (by omega) (HY.out _ FP.out) FE.out));clear hE hlo;simp only [zb2];go_wp2_with fail;refine(C.out).mono ?_;rintro e w2 ⟨rfl,b2⟩;have B2:=hi9 (hB.out.trans (b2.mono hB.out.size));have D2:=hi9 (hD.out.keep b2);clear b2 x0 x1 x2 x3;go_wp2_with fail;refine wp_region_quiet_below (by kernel_rfl) (by kernel_rfl) ?_
     repeat (first|go_big_quiet_step (fail)|quiet_step (fail))
     refine wpQuiet_nil ?_;intro w3 hw';have B3:=hi9 (show Below w2.heap.size w2 w3 by obtain⟨⟨d,os⟩,rfl⟩:=hw';exact below_regrown _ _ _);clear hw';go_wp2_with fail;refine wp_region_quiet_below (by kernel_rfl) (by kernel_rfl) ?_
     repeat (first|go_big_quiet_step (fail)|quiet_step (fail))
     refine wpQuiet_nil ?_;intro w4 hw';have B4:=hi9 (show Below w3.heap.size w3 w4 by obtain⟨⟨d,os⟩,rfl⟩:=hw';exact below_regrown _ _ _);clear hw';go_wp2_with fail;go_roundw
     case rel=>exact⟨k+1,e,some q,_,rfl,rfl,by go_num,by omega,.inr ⟨q,HQ.out,rfl,rfl⟩,by omega,by omega,HG,hi9 ((D2.out.keep B3.out).keep B4.out),j2 (j2 B2 B3 (Nat.le_refl _)) B4 (Nat.le_refl _)⟩
     case measure=>simp [intOf];omega
    ·have sN:=hi9 (fun w2=>zcT P[l].s P[q].s w2 (HO.out.at hl).s (HO.out.at hq').s);have hln:l<n:=by rw [HN.out];exact hl
     have E1:=hi9 (show∀w2,Below wr.heap.size wr w2→Nd4 w2 (a.add (l*4)) P[l] from fun w2 hb=>by
      obtain⟨a',e',h⟩:=(N.out.keep hb).nd hl;cases e';exact h)
     have E2:=hi9 (show∀w2,Below wr.heap.size wr w2→Nd4 w2 (a.add (q*4)) P[q] from fun w2 hb=>by
      obtain⟨a',e',h⟩:=(N.out.keep hb).nd hq';cases e';exact h)
     have hkN:k<x.n.toNat:=by omega
     have hyes:=hi9 (fun h:jk P[l].s P[q].s<0=>hE.out.trans (zdj hkN (HY.out _ h) FE.out));have hno:=hi9 (fun h:¬jk P[l].s P[q].s<0=>hE.out.trans (zbw (f:=zn P m) hkN (HZ.out P[l].s h)));have HQQ:=hi9 (show∃h:q<P.length,P[q].s=P[q].s from⟨HQ.out,rfl⟩);generalize hyl:P[l]=y at *;generalize hzl:P[q]=z at *;have HZL:=hi9 hzl;generalize jk y.s z.s=v at *;clear hE hlo hyl hzl HY HZ FP;simp only [zb2];by_cases hv:v<0
     ·have HG:=hi9 (hyes.out hv);clear hyes hno;go_wp2_with fail;refine(C.out).mono ?_;rintro e w2 ⟨rfl,b2⟩;have B2:=hi9 (hB.out.trans (b2.mono hB.out.size));have D2:=hi9 (hD.out.keep b2);have b2':=hi9 b2;have k0:=cell_regrown D2.out.c0;rw [X.out] at k0;clear b2 x0 x1 x2 x3;go_wp2_with fail;refine wp_region_quiet_below (by kernel_rfl) (by kernel_rfl) ?_
      repeat (first|go_big_quiet_step (fail)|quiet_step (fail))
      refine wpQuiet_nil ?_;intro w3 hw';have B3:=hi9 (show Below w2.heap.size w2 w3 by obtain⟨⟨d,os⟩,rfl⟩:=hw';exact below_regrown _ _ _);clear hw';clear k0;have k0:=cell_regrown (D2.out.keep B3.out).c0;rw [X.out] at k0;have b3':=bh b2' B3.out;have k1:=cell_regrown (E1.out _ b3'.out).c2;have k2:=cell_regrown (E2.out _ b3'.out).c2;have s1:=rq (w:=w3) (fun w' _=>sN.out w');go_wp2_with fail;refine wp_region_quiet_below (by kernel_rfl) (by kernel_rfl) ?_
      repeat (first|go_big_quiet_step (exact s1 _ _)|quiet_step (exact s1 _ _))
      refine wpQuiet_nil ?_;intro w4 hw';have B4:=hi9 (show Below w3.heap.size w3 w4 by obtain⟨⟨d,os⟩,rfl⟩:=hw';exact below_regrown _ _ _);clear hw';clear k0 k1 k2 s1;go_wp2_with fail;go_roundw
      case rel=>exact⟨k+1,e,some q,_,rfl,rfl,by go_num,by omega,.inr ⟨q,HQ.out,rfl,congrArg Nd.s HZL.out⟩,by omega,by omega,HG,hi9 ((D2.out.keep B3.out).keep B4.out),j2 (j2 B2 B3 (Nat.le_refl _)) B4 (Nat.le_refl _)⟩
      case measure=>simp [intOf];omega
     ·have HG:=hi9 (hno.out hv);clear hyes hno;go_wp2_with fail;refine(C.out).mono ?_;rintro e w2 ⟨rfl,b2⟩;have B2:=hi9 (hB.out.trans (b2.mono hB.out.size));have D2:=hi9 (hD.out.keep b2);have b2':=hi9 b2;have k0:=cell_regrown D2.out.c0;rw [X.out] at k0;clear b2 x0 x1 x2 x3;go_wp2_with fail;refine wp_region_quiet_below (by kernel_rfl) (by kernel_rfl) ?_
      repeat (first|go_big_quiet_step (fail)|quiet_step (fail))
      refine wpQuiet_nil ?_;intro w3 hw';have B3:=hi9 (show Below w2.heap.size w2 w3 by obtain⟨⟨d,os⟩,rfl⟩:=hw';exact below_regrown _ _ _);clear hw';clear k0;have k0:=cell_regrown (D2.out.keep B3.out).c0;rw [X.out] at k0;have b3':=bh b2' B3.out;have k1:=cell_regrown (E1.out _ b3'.out).c2;have k2:=cell_regrown (E2.out _ b3'.out).c2;have s1:=rq (w:=w3) (fun w' _=>sN.out w');go_wp2_with fail;refine wp_region_quiet_below (by kernel_rfl) (by kernel_rfl) ?_
      repeat (first|go_big_quiet_step (exact s1 _ _)|quiet_step (exact s1 _ _))
      refine wpQuiet_nil ?_;intro w4 hw';have B4:=hi9 (show Below w3.heap.size w3 w4 by obtain⟨⟨d,os⟩,rfl⟩:=hw';exact below_regrown _ _ _);clear hw';clear k0 k1 k2 s1;go_wp2_with fail;go_ret;exact⟨zQ (by rw [HG.out];rfl),(j2 (j2 B2 B3 (Nat.le_refl _)) B4 (Nat.le_refl _)).out⟩
  ·have HG:=hi9 (hE.out.trans (by rw [show x.n.toNat-k=0 by omega];rfl:_=some q));clear hE hlo;go_wp2_with fail;go_ret;exact⟨zQ (by rw [HG.out];rfl),hB.out⟩
theorem zkI(A:Option Addr)(P:List Nd)(n c:Nat)(hn:n=P.length)(hc:n≤c)(hm:n≤maxLen)(hO:zaj P)(m:Nat):zuE P A n c m:=by
 have field:∀m,(∀(q:Nat) (w:World),jp w A P→n-q<m→Calls Tryz.prog 52 #[.slice A n c,.int .i64 q,.bool false] w fun e w'=>e = .returned (.int .i64 (zb2 (zn P m q)))∧Below w.heap.size w w')→
  (∀(q:Nat) (w:World),jp w A P→n-q≤m→Calls Tryz.prog 52 #[.slice A n c,.int .i64 q,.bool true] w fun e w'=>e = .returned (.int .i64 (zb2 (zaG P m q)))∧Below w.heap.size w w'):=by
  intro m h q w hP hf
  by_cases hp:q<n
  ·have hp':q<P.length:=by omega
   obtain⟨a,rfl,D⟩:=hP.nd hp';by_cases hc:(decide (P[q].op=7)&& zB P[q])=true
   ·have e:zaG P m q=zn P m (q+1):=by unfold zaG;rw [List.getElem?_eq_getElem hp'];simp only [hc,if_true]
    rw [e];simp only [Bool.and_eq_true,decide_eq_true_eq] at hc;exact zqc a n c q P[q] _ w hm hp D (hO.at hp') hc.2 hc.1 (hi9 fun w' hb=>by
     have:=h (q+1) w' (hP.keep hb) (by omega)
     simpa using this)
   ·have e:zaG P m q=none:=by unfold zaG;rw [List.getElem?_eq_getElem hp'];simp only [hc];rfl
    rw [e];exact zkY a n c q true P[q] w hp D (hO.at hp') (by
     rw [Bool.not_eq_true] at hc
     rcases hd:decide (P[q].op=7)<;> rcases hs:zB P[q] <;> simp_all)
  ·have e:zaG P m q=none:=by unfold zaG;rw [List.getElem?_eq_none (by omega)]
   rw [e];exact zoO A n c q true w (by omega)
 induction m with
 | zero=>exact⟨fun q w _ h=>by omega,field 0 (fun q w _ h=>by omega)⟩
 | succ m ih =>
  refine⟨?_,field (m+1) ?_⟩
  all_goals
   intro p w hP hf;by_cases hp:p<n
   ·have hp':p<P.length:=by omega
    obtain⟨a,rfl,D⟩:=hP.nd hp';have e:zn P (m+1) p=if zB P[p] then(if P[p].op=5 then z7 P (zn P m) P[p].n.toNat none (p+1) else if P[p].op=6 then zY P (zn P m) P[p].n.toNat .empty (p+1) else if P[p].op=7 then none else some (p+1)) else none:=by
     simp only [zn,List.getElem?_eq_getElem hp']
    rw [e];by_cases hs:zB P[p]=true
    ·rw [if_pos hs];by_cases h5:P[p].op=5
     ·rw [if_pos h5];exact ztr a P n c p m w hn hc hm hp hP hO hs h5 ih hf
     rw [if_neg h5];by_cases h6:P[p].op=6
     ·rw [if_pos h6];exact ztl a P n c p m w hn hc hm hp hP hO hs h6 ih hf
     rw [if_neg h6];by_cases h7:P[p].op=7
     ·rw [if_pos h7];exact zkY a n c p false P[p] w hp D (hO.at hp') (by simp [h7])
     rw [if_neg h7];exact zqX a n c p P[p] w hm hp D (hO.at hp') hs (beq_eq_false_iff_ne.2 h5) (beq_eq_false_iff_ne.2 h6) (beq_eq_false_iff_ne.2 h7)
    ·rw [if_neg hs];exact zkY a n c p false P[p] w hp D (hO.at hp') (by simp [hs])
   ·have e:zn P (m+1) p=none:=by
     simp only [zn,List.getElem?_eq_none (by omega:P.length≤p)]
    rw [e]
    exact zoO A n c p false w (by omega)
theorem zbB(A:Option Addr)(n c:Nat)(P:List Nd)(w:World)(h:Ns w A n c P):
 Calls Tryz.prog 23 #[.slice A n c] w fun e w'=>e = .returned (.int .i64 (zc P))∧Below w.heap.size w w':=by
 obtain⟨hn,hc,hm,hP,hO⟩:=h;have C:=hi9 ((zkI A P n c hn hc hm hO (n+1)).1 0 w hP (by omega));by_cases h:200<n
 ·have H:=hi9 (show zc P=4 by unfold zc;rw [if_pos (by omega)]);clear C;unfold maxLen at hm;clear hn hP hO;go_enter Tryz.func23,Tryz.ntmps23;go_wp2_with fail;go_ret;exact⟨zQ H.out.symm,Below.refl _ _⟩
 ·have H:=hi9 (show zc P=if zn P (n+1) 0=some n then 0 else 1 by unfold zc;rw [if_neg (by omega),←hn]);unfold maxLen at hm;clear hn hP hO;rcases he:zn P (n+1) 0 with _|e
  ·rw [he] at C H;rw [if_neg (by simp)] at H;simp only [zb2] at C;go_enter Tryz.func23,Tryz.ntmps23;go_wp2_with fail;refine(C.out).mono ?_;rintro e w1 ⟨rfl,b1⟩;have hne:((-1:Int) !=(n:Int))=true:=by rw [bne_iff_ne];omega
   go_wp2_with fail;go_ret;exact⟨zQ H.out.symm,b1⟩
  ·rw [he] at C H;clear he;simp only [zb2] at C;by_cases he:e=n
   ·subst he;rw [if_pos rfl] at H;go_enter Tryz.func23,Tryz.ntmps23;go_wp2_with fail;refine(C.out).mono ?_;rintro e w1 ⟨rfl,b1⟩;go_wp2_with fail;go_ret;exact⟨zQ H.out.symm,b1⟩
   ·rw [if_neg (by intro q;injection q with q;exact he q)] at H;have hne:(e != n)=true:=by rw [bne_iff_ne];exact he
    clear he;go_enter Tryz.func23,Tryz.ntmps23;go_wp2_with fail;refine(C.out).mono ?_;rintro e w1 ⟨rfl,b1⟩;go_wp2_with fail;go_ret;exact⟨zQ H.out.symm,b1⟩
def zax(V:List Sl):Int:=zcm (V.map (·.P))
theorem zgF{V:List Sl}{k:Nat}(h:k<V.length):zax (V.drop k)=or2 (zc V[k].P) (zax (V.drop (k+1))):=by
 unfold zax;rw [List.drop_eq_getElem_cons h];rfl
theorem zfq{V:List Sl}{k:Nat}(h:V.length≤k):zax (V.drop k)=0:=by
 unfold zax;rw [List.drop_of_length_le h];rfl
theorem zok(A:Option Addr)(n c:Nat)(V:List Sl)(w:World)(hn:n=V.length)(hm:n≤maxLen)(hV:zag w A V):
 Calls Tryz.prog 58 #[.slice A n c] w fun e w'=>e = .returned (.int .i64 (zax V))∧Below w.heap.size w w':=by
 unfold maxLen at hm;have HV:=hi9 hV;have HN:=hi9 hn;clear hV hn;go_enter Tryz.func58,Tryz.ntmps58;go_wp2_with fail;go_loopw [3,4] (fun i _ wr=>∃k:Nat,k≤n∧i = .int .i64 k∧Hid (zax V=zax (V.drop k))∧Hid (Below w.heap.size w wr)) (fun i _ _=>n-(intOf i).toNat)
 case atStart=>exact⟨0,Nat.zero_le _,rfl,rfl,Below.refl _ _⟩
 case round =>
  obtain⟨k,hk,rfl,hE,hB⟩:=hrel;by_cases hlt:k<n
  ·have h1:k<V.length:=by rw [←HN.out];exact hlt
   obtain⟨a,rfl,q,hs⟩:=(HV.out.keep hB.out).at h1;have HA:=hi9 (hE.out.trans (zgF h1));have C:=hi9 (zbB _ _ _ _ _ hs);generalize V[k]=r at *;clear hE hs;by_cases h0:zc r.P=0
   ·rw [h0] at C HA;clear h0;go_wp2_with fail;refine(C.out).mono ?_;rintro e w1 ⟨rfl,b1⟩;go_wp2_with fail;go_roundw
    case rel=>exact⟨k+1,by omega,by go_num,HA,bh hB (b1)⟩
    case measure=>simp [intOf];omega
   ·have HB:=hi9 (HA.out.trans (jc h0 _));have h2:(zc r.P != 0)=true:=by rw [bne_iff_ne];exact h0
    clear h0 HA;go_wp2_with fail;refine(C.out).mono ?_;rintro e w1 ⟨rfl,b1⟩;go_wp2_with fail;go_ret;exact⟨zQ HB.out.symm,(bh hB b1).out⟩
  ·have HA:=hi9 (hE.out.trans (zfq (by rw [←HN.out];omega)));clear hE;go_wp2_with fail;go_ret;exact⟨zQ HA.out.symm,hB.out⟩
def zqT(w:World)(B:Nat)(v:Value)(V:List Sl)(e:Ending)(w':World):Prop :=
 e = .returned (.tuple #[])∧∃V':List Sl,V'.Perm V∧V'.Pairwise (fun a b=>zu a.P b.P≤0)∧zT w' B v V'∧w.grownBy w' v.ownBlock
theorem zlo{V:List Sl}(h:zlN V):V.Pairwise (fun a b=>zu a.P b.P≤0):=
 List.pairwise_iff_getElem.2 fun i j _ hj hij=>h i j hij hj
theorem zr2(w:World)(B:Nat)(v:Value)(V:List Sl)(h:zT w B v V)(hs:V.length≤5864062014634):
 Calls Tryz.prog 149 #[v,.func (.func 116) #[] #[]] w (zqT w B v V):=by
 rcases h.own.2 with ⟨rfl,h0⟩|⟨g,cap,cur,rfl,_⟩
 ·have:V = []:=List.eq_nil_of_length_eq_zero h0;subst this;exact(zpK w none 0 _).mono fun e w' ⟨h1,h2⟩=>⟨h1,[],List.Perm.refl _,List.Pairwise.nil,by rw [h2];exact h,by rw [h2];exact World.grownBy.refl _ _⟩
 ·exact(zrd w B g cap V h hs).mono fun e w' ⟨h1,V',h2,h3,h4,h5⟩=>⟨h1,V',h2,zlo h3,h4,h5⟩
def zmX(w:World)(B:Nat)(v:Value)(V:List Sl)(e:Ending)(w':World):Prop:=∃v',e = .returned v'∧zT w' B v' (jo V)∧w.grownBy w' v.ownBlock
theorem znc(w:World):Calls Tryz.prog 150 #[.slice none 0 0,.func (.func 151) #[] #[]] w fun e w'=>e = .returned (.slice none 0 0)∧w=w':=by
 go_enter Tryz.func150,Tryz.ntmps150;go_wp2;go_ret;exact⟨rfl,rfl⟩
theorem zmI(w:World)(B:Nat)(v:Value)(V:List Sl)(h:zT w B v V)(hs:V.length≤5864062014634):
 Calls Tryz.prog 150 #[v,.func (.func 151) #[] #[]] w (zmX w B v V):=by
 rcases h.own.2 with ⟨rfl,h0⟩|⟨g,cap,cur,rfl,_⟩
 ·have:V = []:=List.eq_nil_of_length_eq_zero h0;subst this;exact(znc w).mono fun e w' ⟨h1,h2⟩=>⟨_,h1,by rw [←h2];exact zT.nil _ _,by rw [←h2];exact World.grownBy.refl _ _⟩
 ·exact(zlj w B g cap V h hs).mono fun e w' ⟨h1,h2,h3⟩=>⟨_,h1,h2,h3⟩
def zmr(w:World)(L:List (List Nd))(e:Ending)(w':World):Prop :=
 ∃(A:Option Addr) (n c:Nat),e = .returned (.tuple #[.slice A n c,j3 (setE L)])∧Ns w' A n c (setV L)∧(∀a,A=some a→w.heap.size≤a.block)∧Below w.heap.size w w'
theorem jv(w:World):Ns w none 0 0 []:=⟨rfl,Nat.le_refl _,Nat.zero_le _,fun k x hx=>by simp at hx,fun x hx=>by cases hx⟩
def zbb(n:Nat)(L:List (List Nd))(k:Nat):List Nd:=jY n ::(L.take k).flatten
theorem zjM{n:Nat}{L:List (List Nd)}{k:Nat}(h:k<L.length):zbb n L (k+1)=zbb n L k ++ L[k]:=by
 unfold zbb;rw [←List.take_append_getElem h,List.flatten_append];simp
theorem zm6{n:Nat}{L:List (List Nd)}(k:Nat):(zbb n L k).length≤L.flatten.length+1:=by
 unfold zbb
 conv=>rhs;rw [←List.take_append_drop k L]
 rw [List.flatten_append];simp only [List.length_cons,List.length_append];omega
theorem zlp{n:Nat}{L:List (List Nd)}{k:Nat}(h:L.length≤k):zbb n L k=jY n :: L.flatten:=by
 unfold zbb;rw [List.take_of_length_le h]
theorem zpp{L:List (List Nd)}(h:∀P∈L,zaj P):zaj L.flatten:=fun x hx=>let ⟨P,hP,hx⟩:=List.mem_flatten.1 hx;h P hP x hx
theorem zoX{n:Nat}{L:List (List Nd)}(hn:n≤5864062014634)(h:∀P∈L,zaj P):zaj (jY n :: L.flatten):=by
 intro x hx;rcases List.mem_cons.1 hx with rfl|hx
 ·exact⟨Nat.zero_le _,Nat.zero_le _,by show _≤(n:Int);omega,by show(n:Int)≤_;omega⟩
 ·exact zpp h x hx
theorem zha(w:World)(x:Nd):(w.alloc (.cells #[.int .i64 x.op,.int .i64 x.n,.string x.s,.string x.t] 53)).ownsRow w.heap.size 53 4 (.slice (some ⟨w.heap.size,0,none⟩) 1 1) 1 (zO [x]):=
 ⟨rfl,.inr ⟨_,1,_,rfl,Nat.le_refl _,heap_alloc_new w _,Nat.le_refl _,by unfold maxLen;omega,rfl,rfl⟩⟩
theorem zag.nds{w:World}{A:Option Addr}{V:List Sl}(h:zag w A V):∀P∈V.map Sl.P,zaj P:=by
 intro P hP;obtain⟨r,hr,rfl⟩:=List.mem_map.1 hP;obtain⟨k,hk,rfl⟩:=List.getElem_of_mem hr;obtain⟨-,-,-,q⟩:=h.at hk;exact q.ok
theorem zod(A:Option Addr)(n c:Nat)(V:List Sl)(w:World)(hn:n=V.length)(hm:n≤5864062014634)(hV:zag w A V):
 Calls Tryz.prog 121 #[.slice A n c] w (zmr w (V.map Sl.P)):=by
 obtain⟨i0,hi,hz0,hz1,hz2⟩:=info_parts zf6;have HV:=hi9 hV;have HN:=hi9 hn;clear hV hn;go_enter Tryz.func121,Tryz.ntmps121;go_wp2_with fail;go_loopw [5,6,13] (fun _ _ i wr=>∃k:Nat,k≤n∧i = .int .i64 k∧Hid (zax V=zax (V.drop k))∧Hid (Below w.heap.size w wr)) (fun _ _ i _=>n-(intOf i).toNat)
 case atStart=>exact⟨0,Nat.zero_le _,rfl,rfl,Below.refl _ _⟩
 case round =>
  obtain⟨k,hk,rfl,hE,hB⟩:=hrel;by_cases hlt:k<n
  ·have h1:k<V.length:=by rw [←HN.out];exact hlt
   obtain⟨a,rfl,q,hs⟩:=(HV.out.keep hB.out).at h1;have HA:=hi9 (hE.out.trans (zgF h1));have C:=hi9 (zU hs);generalize V[k]=r at *;clear hE hs;by_cases h0:zc r.P=0
   ·rw [h0,zo] at C;rw [h0] at HA;clear h0;go_wp2_with fail;refine(C.out).mono ?_;rintro e w1 ⟨rfl,b1⟩;go_wp2_with fail;go_roundw
    case rel=>exact⟨k+1,by omega,by go_num,HA,bh hB b1⟩
    case measure=>simp [intOf];omega
   ·have HE:=hi9 (show setE (V.map Sl.P)=zc r.P∧setE (V.map Sl.P)≠0 by
     have e:zcm (V.map Sl.P)=zc r.P:=HA.out.trans (jc h0 _)
     have e2:setE (V.map Sl.P)=zc r.P:=by unfold setE;rw [e,jc h0]
     exact⟨e2,by rw [e2];exact h0⟩)
    have hev:=zC h0
    have HEV:=hi9 (zC h0)
    rw [hev] at C
    clear h0 hev
    go_wp2_with fail
    refine(C.out).mono ?_
    rintro e w1 ⟨rfl,b1⟩
    go_wp2_with fail
    go_ret2
    refine⟨none,0,0,by rw [HE.out.1,HEV.out];rfl,by rw [zdM HE.out.2];exact jv _,(fun a e=>nomatch e),(bh hB b1).out⟩
  ·have HF:=hi9 (show zcm (V.map Sl.P)=0 from hE.out.trans (zfq (by rw [←HN.out];omega)));have C1:=hi9 (zpN A n c V wr HN.out (by omega) (HV.out.keep hB.out));clear hE;go_wp2_with fail;refine C1.out.mono ?_;rintro e w1 ⟨v,rfl,hO1,b1⟩;have C2:=hi9 (zr2 w1 wr.heap.size v V hO1 (by rw [←HN.out];exact hm));have OB1:=hi9 (zW hO1.own);have B1:=hi9 b1;clear hO1 b1;go_wp2_with fail;refine C2.out.mono ?_;rintro e w2 ⟨rfl,V',hp,hso,hO2,hg2⟩;have C3:=hi9 (zmI w2 wr.heap.size v V' hO2 (by rw [hp.length_eq,←HN.out];exact hm));have B2:=hi9 (B1.out.grown hg2 B1.out.size OB1.out);have HS:=hi9 (show(jo V').map Sl.P=jU (V.map Sl.P) by
    rw [zlt hso]
    exact znN fun x=>(hp.map Sl.P).mem_iff)
   have HL:=hi9 (show(jo V').length≤n by have:=zna V';rw [hp.length_eq,←HN.out] at this;exact this);clear hp hso hO2 hg2 C1 C2 B1;go_wp2_with fail;refine C3.out.mono ?_;rintro e w3 ⟨v3,rfl,hO3,hg3⟩;have B3:=hi9 (hB.out.trans ((B2.out.grown hg3 B2.out.size OB1.out).mono hB.out.size));obtain⟨A3,c3,rfl,-,hS3⟩:=hO3.at
   generalize jo V'=U at *;have HU:=hi9 hS3;have hUn:=HL.out;clear hO3 hg3 hS3 C3 B2 OB1 hB HL;have R0:=hi9 (zha w3 (jY U.length));have HP:=hi9 (show∀r∈U,zc r.P=0 from fun r hr=>zcH.1 HF.out r.P (zaM.1 (by rw [←HS.out];exact List.mem_map_of_mem hr)));go_wp2_with fail;go_loopw [8,10,35] (fun v _ i wr=>∃k:Nat,k≤U.length∧i = .int .i64 k∧Hid ((zbb U.length (U.map Sl.P) k).length≤200∧wr.ownsRow w3.heap.size 53 4 v (zbb U.length (U.map Sl.P) k).length (zO (zbb U.length (U.map Sl.P) k)))∧Hid (Below w3.heap.size w3 wr)) (fun _ _ i _=>U.length-(intOf i).toNat)
   case atStart=>exact⟨0,Nat.zero_le _,rfl,⟨by simp [zbb],R0.out⟩,zb _ _⟩
   case round =>
    obtain⟨k,hk,rfl,hR,hB⟩:=hrel;have hsz:=hB.out.size;by_cases hlt:k<U.length
    ·have hlm:k<(U.map Sl.P).length:=by rw [List.length_map];exact hlt
     have HO:=hi9 (zjM (n:=U.length) hlm);obtain⟨a,rfl,q,hs⟩:=(HU.out.keep hB.out).at hlt;have hv:=HP.out _ (List.getElem_mem hlt);have hg:(U.map Sl.P)[k]=U[k].P:=by simp
     rw [hg] at HO;clear hg;generalize U[k]=r at *;obtain⟨hl2,hV2⟩:=zP.1 hv;obtain⟨a2,ea,-⟩:=hs.at_.nd hV2.pos;rw [ea] at q;have HC:=hi9 (show∀j u,(zO r.P)[j]?=some u→wr.cell? (a2.add j)=some u from by
      have:=hs.at_
      rw [ea] at this
      exact this.cells)
     have HRN:=hi9 hs.len;have hrn:r.n≤200:=by rw [hs.len];exact hl2
     have hol:=hR.out.1;clear hs hv hl2 hV2 ea;go_wp2_with (at_builtin;refine wpList_append_own _ rfl _ _ 25 rfl w3.heap.size 53 i0 _ 4 48 Tryz.underlying25 hi hz0 hz1 hz2 rfl (by decide) _ (zbb U.length (U.map Sl.P) k).length (zO (zbb U.length (U.map Sl.P) k)) rfl hR.out.2 a2 r.n r.c (zO r.P) rfl (by rw [zaf,HRN.out]) HC.out (zaO _) ?c1 ?c2 ?c3 ?_)
     case c1=>unfold maxLen;omega
     case c2=>omega
     case c3=>exact hsz
     intro v1 w5 hown hgrow _;have B5:=hi9 (hB.out.grown hgrow hsz (zW hR.out.2));rw [HRN.out,←zaH,←List.length_append,←HO.out] at hown;have OW:=hi9 hown;obtain⟨A5,c5,rfl,-⟩:=zaU hown;have OL:=hi9 (zm6 (n:=U.length) (L:=U.map Sl.P) (k+1));generalize hX:zbb U.length (U.map Sl.P) (k+1)=X at *;have HX:=hi9 hX;clear hown hgrow hX hB hR HO HC q;by_cases h200:200<X.length
     ·have HE:=hi9 (show setE (V.map Sl.P)=4 by
       unfold setE
       rw [HF.out,zx,←HS.out,if_pos (by have:=OL.out;omega)])
      go_wp2_with fail
      go_ret2
      refine⟨none,0,0,by rw [HE.out];rfl,by rw [zdM (by rw [HE.out];decide)];exact jv _,(fun a e=>nomatch e),B3.out.trans (B5.out.mono B3.out.size)⟩
     ·go_wp2_with fail;go_roundw
      case rel=>exact⟨k+1,by omega,by go_num,hi9 (by rw [HX.out];exact⟨by omega,OW.out⟩),B5⟩
      case measure=>simp [intOf];omega
    ·obtain⟨A5,c5,rfl,hc5,hA5,hF5⟩:=zaU hR.out.2;have HF5:=hi9 (show∀a,A5=some a→w.heap.size≤a.block from fun a e=>Nat.le_trans B3.out.size (hF5 a e));have HX:=hi9 (zlp (n:=U.length) (L:=U.map Sl.P) (k:=k) (by rw [List.length_map];omega));have HE:=hi9 (show setE (V.map Sl.P)=0 by
      refine zgi.2 ⟨HF.out,?_⟩
      have:=hR.out.1
      rw [HX.out,HS.out] at this
      simpa using this)
     have NN:=hi9 (show Ns wr A5 (zbb U.length (U.map Sl.P) k).length c5 (setV (V.map Sl.P)) by
      have e:setV (V.map Sl.P)=zbb U.length (U.map Sl.P) k:=by
       rw [HX.out,zkH HE.out,←HS.out,List.length_map]
      rw [e]
      refine⟨rfl,hc5,by have:=hR.out.1;unfold maxLen;omega,hA5,?_⟩
      rw [HX.out]
      exact zoX (by omega) HU.out.nds)
     have B6:=hi9 (B3.out.trans (hB.out.mono B3.out.size));clear hR hB hc5 hA5 hF5;go_wp2_with fail;go_ret2;exact⟨A5,_,c5,by rw [HE.out];rfl,NN.out,HF5.out,B6.out⟩
end Go.Proofs.YtkfgabdnppmglaaGreatDoor
namespace Go.Proofs.YtkfgabdnppmglaaGreatDoor
open Go.RowKit Go.Extern.Stop Go.Stop Go.Extern
theorem zr3(t:Addr)(w:World):(ReflectliteValue.unpack (.iface 95 (.pointer (some t)))).run Tryz.prog w
 = .ok (.agg #[.pointer (some ⟨2,95,none⟩),.pointer (some ⟨w.heap.size,0,none⟩),.int .u64 150]) (w.alloc (.cells #[.pointer (some t)] 95)):=by kernel_rfl
theorem zvk(a:Addr)(w:World):(ReflectliteValue.methodAny (ReflectliteValue.valueError "reflectlite.Value.Type" 0) (fun t _ _ _=>ReflectliteType.toType t) #[.agg #[.pointer (some ⟨2,95,none⟩),.pointer (some a),.int .u64 150]]).run Tryz.prog w
 = .ok (.iface 191 (.agg #[.pointer (some ⟨2,95,none⟩)])) w:=by kernel_rfl
theorem zn9(h:Value)(w:World):(Go.method 469 191 (.agg #[h]) "Kind").run Tryz.prog w = .ok (247,h) w:=by kernel_rfl
theorem zvi(w:World):((ReflectliteType.abiMethod fun t=>(fun a:Nat=>Value.int IntKind.u8 (a:Int))<$> Rtype.kind t) #[.pointer (some ⟨2,95,none⟩)]).run Tryz.prog w = .ok (.int .u8 22) w:=by kernel_rfl
theorem zvg(w:World):((ReflectliteType.abiMethod fun t=>(fun a:Nat=>Value.int IntKind.u8 (a:Int))<$> Rtype.kind t) #[.pointer (some ⟨2,28,none⟩)]).run Tryz.prog w = .ok (.int .u8 2) w:=by kernel_rfl
theorem rlm(z:Sem Value)(f:TypeId→Addr→Nat→Nat→Sem Value)(v:Value):
 ReflectliteValue.method z f #[v]=(do match ←ReflectliteValue.parts v with|none=>z|some (t,a,fl)=>f t a fl (fl % 32)):=rfl
theorem zsT(a:Addr)(w:World):(ReflectliteValue.parts (.agg #[.pointer (some ⟨2,95,none⟩),.pointer (some a),.int .u64 150])).run Tryz.prog w = .ok (some (95,a,150)) w:=by kernel_rfl
theorem zuM(a p:Addr)(W:World)(ha:W.cell? a=some (.pointer (some p))):
 (ReflectliteValue.method (ReflectliteValue.valueError "reflectlite.Value.IsNil" 0) ReflectliteValue.isNil #[.agg #[.pointer (some ⟨2,95,none⟩),.pointer (some a),.int .u64 150]]).run Tryz.prog W = .ok (.bool false) W:=by
 rw [rlm];simp only [Sem.run_bind,zsT,Result.andThen];simp [ReflectliteValue.isNil,loadVar,isAgg,underlying,Tryz.underlying95,ha,Result.andThen]
theorem zoj(h:Value)(w:World):(Go.method 469 191 (.agg #[h]) "Elem").run Tryz.prog w = .ok (257,.agg #[h]) w:=by kernel_rfl
theorem zf1(h:Value)(w:World):(Go.method 469 191 (.agg #[h]) "Implements").run Tryz.prog w = .ok (258,.agg #[h]) w:=by kernel_rfl
theorem zeG(h:Value)(w:World):(Go.method 469 191 (.agg #[h]) "AssignableTo").run Tryz.prog w = .ok (255,.agg #[h]) w:=by kernel_rfl
theorem zvd(w:World):(ReflectliteType.method ReflectliteType.elem #[.agg #[.pointer (some ⟨2,95,none⟩)]]).run Tryz.prog w = .ok (.iface 191 (.agg #[.pointer (some ⟨2,28,none⟩)])) w:=by kernel_rfl
theorem znd(w:World):(ReflectliteType.relation "Implements" ReflectliteType.implements_ #[.agg #[.pointer (some ⟨2,28,none⟩)],.iface 191 (.agg #[.pointer (some ⟨2,33,none⟩)])]).run Tryz.prog w = .ok (.bool true) w:=by kernel_rfl
theorem ztk(v:Value)(w:World):(ReflectliteType.typeOf #[.iface 28 v]).run Tryz.prog w = .ok (.iface 191 (.agg #[.pointer (some ⟨2,28,none⟩)])) w:=by kernel_rfl
theorem zlv(w:World):(ReflectliteType.relation "AssignableTo" ReflectliteType.assignableTo #[.agg #[.pointer (some ⟨2,28,none⟩)],.iface 191 (.agg #[.pointer (some ⟨2,28,none⟩)])]).run Tryz.prog w = .ok (.bool true) w:=by kernel_rfl
theorem zsM(n:Int)(w:World):(ReflectliteValue.unpack (.iface 28 (.int .i64 n))).run Tryz.prog w
 = .ok (.agg #[.pointer (some ⟨2,28,none⟩),.pointer (some ⟨w.heap.size,0,none⟩),.int .u64 130]) (w.alloc (.cells #[.int .i64 n] 28)):=by kernel_rfl
theorem ztF(w:World):(Rtype.elem? 95).run Tryz.prog w = .ok (some 28) w:=by kernel_rfl
theorem mkE(p:Addr)(w:World):(ReflectliteValue.mk 28 p ReflectliteValue.flagAddr).run Tryz.prog w = .ok (.agg #[.pointer (some ⟨2,28,none⟩),.pointer (some p),.int .u64 386]) w:=by kernel_rfl
theorem zur(a p:Addr)(W:World)(ha:W.cell? a=some (.pointer (some p))):
 (ReflectliteValue.method (ReflectliteValue.valueError "reflectlite.Value.Elem" 0) ReflectliteValue.elem #[.agg #[.pointer (some ⟨2,95,none⟩),.pointer (some a),.int .u64 150]]).run Tryz.prog W
  = .ok (.agg #[.pointer (some ⟨2,28,none⟩),.pointer (some p),.int .u64 386]) W:=by
 rw [rlm];simp only [Sem.run_bind,zsT,Result.andThen];simp [ReflectliteValue.elem,loadVar,isAgg,underlying,Tryz.underlying95,ha,Result.andThen,ztF,mkE]
theorem rls(v x:Value):ReflectliteValue.set #[v,x]=(do
 let (some (dst,a,fl),some (src,b,_)):=(←ReflectliteValue.parts v,←ReflectliteValue.parts x)
  | unsupported (.noEntry "extern/(internal/reflectlite.Value).Set.zeroValue")
 if fl / ReflectliteValue.flagAddr % 2==0 then unsupported (.noEntry "extern/(internal/reflectlite.Value).Set.unaddressable")
 let val ←loadVar src b
 if ←Rtype.directlyAssignable dst src then storeVar dst a val
 else if ←Rtype.implements dst src then
  if(←Rtype.kind src)==20 then
   match val with
   | .nilIface=>unsupported (.noEntry "extern/reflectlite: a nil value of one interface type handed on as a value of another")
   | _=>storeVar dst a val
  else storeVar dst a (.iface src val)
 else panicString ("reflectlite.Set: value of type " ++(←Rtype.spelt src)++ " is not assignable to type " ++(←Rtype.spelt dst))
 pure (.tuple #[])):=rfl
theorem ztv(a:Addr)(w:World):(ReflectliteValue.parts (.agg #[.pointer (some ⟨2,28,none⟩),.pointer (some a),.int .u64 386])).run Tryz.prog w = .ok (some (28,a,386)) w:=by kernel_rfl
theorem zuI(a:Addr)(w:World):(ReflectliteValue.parts (.agg #[.pointer (some ⟨2,28,none⟩),.pointer (some a),.int .u64 130])).run Tryz.prog w = .ok (some (28,a,130)) w:=by kernel_rfl
theorem zt9(w:World):(Rtype.directlyAssignable 28 28).run Tryz.prog w = .ok true w:=by kernel_rfl
theorem zuW(ta b:Addr)(n:Int)(old:Value)(W:World)(hb:W.cell? b=some (.int .i64 n))(ht:W.cell? ta=some old)(hf:W.frozen? ta=false):
 (ReflectliteValue.set #[.agg #[.pointer (some ⟨2,28,none⟩),.pointer (some ta),.int .u64 386],.agg #[.pointer (some ⟨2,28,none⟩),.pointer (some b),.int .u64 130]]).run Tryz.prog W
  = .ok (.tuple #[]) (W.setCell ta (.int .i64 n)):=by
 rw [rls];simp only [Sem.run_bind,ztv,zuI,Result.andThen];simp [ReflectliteValue.flagAddr,loadVar,isAgg,underlying,Tryz.underlying28,hb,Result.andThen,zt9,storeVar,Value.cells,storeCells,Addr.add];rw [run_store Tryz.prog W ta _ _ (by rfl)];simp [ht,hf]
theorem zkO(n:Int)(t:Addr)(old:Value)(w:World)(hg:w.cell? ⟨0,0,none⟩=some (.iface 191 (.agg #[.pointer (some ⟨2,33,none⟩)])))(ht0:w.cell? t=some old)(hf0:w.frozen? t=false):
 Calls Tryz.prog 48 #[.iface 28 (.int .i64 n),.iface 95 (.pointer (some t))] w fun ev w'=>ev = .returned (.bool true)∧w'=(((((w.alloc (.cells #[.pointer (some t)] 95)).alloc (.cells #[.pointer (some ⟨2,95,none⟩),.pointer (some ⟨w.heap.size,0,none⟩),.int .u64 150] 142)).alloc (.cells #[.pointer (some ⟨2,95,none⟩),.pointer (some ⟨w.heap.size,0,none⟩),.int .u64 150] 142)).alloc (.cells #[.int .i64 n] 28)).setCell t (.int .i64 n)):=by
 have h6:=@run_callFunc_extern Tryz.prog 93 _ (fun args=>ReflectliteValue.unpack (args.getD 0 (.tuple #[]))) Tryz.func93 (by kernel_rfl) (by kernel_rfl) (by kernel_rfl) (by kernel_rfl);have h7:=@run_callFunc_extern Tryz.prog 94 _ (ReflectliteValue.methodAny (ReflectliteValue.valueError "reflectlite.Value.Type" 0) (fun t _ _ _=>ReflectliteType.toType t)) Tryz.func94 (by kernel_rfl) (by kernel_rfl) (by kernel_rfl) (by kernel_rfl)
 have h8:=@run_callFunc_extern Tryz.prog 95 _ (ReflectliteValue.method (ReflectliteValue.valueError "reflectlite.Value.IsNil" 0) ReflectliteValue.isNil) Tryz.func95 (by kernel_rfl) (by kernel_rfl) (by kernel_rfl) (by kernel_rfl)
 have h27:=@run_callFunc_extern Tryz.prog 247 _ (ReflectliteType.abiMethod fun t=>do pure (.int .u8 (←Rtype.kind t))) Tryz.func247 (by kernel_rfl) (by kernel_rfl) (by kernel_rfl) (by kernel_rfl);have h37:=@run_callFunc_extern Tryz.prog 257 _ (ReflectliteType.method ReflectliteType.elem) Tryz.func257 (by kernel_rfl) (by kernel_rfl) (by kernel_rfl) (by kernel_rfl);have h38:=@run_callFunc_extern Tryz.prog 258 _ (ReflectliteType.relation "Implements" ReflectliteType.implements_) Tryz.func258 (by kernel_rfl) (by kernel_rfl) (by kernel_rfl) (by kernel_rfl)
 have h10:=@run_callFunc_extern Tryz.prog 138 _ (ReflectliteType.typeOf) Tryz.func138 (by kernel_rfl) (by kernel_rfl) (by kernel_rfl) (by kernel_rfl);have h35:=@run_callFunc_extern Tryz.prog 255 _ (ReflectliteType.relation "AssignableTo" ReflectliteType.assignableTo) Tryz.func255 (by kernel_rfl) (by kernel_rfl) (by kernel_rfl) (by kernel_rfl)
 have h11:=@run_callFunc_extern Tryz.prog 139 _ (ReflectliteValue.method (ReflectliteValue.valueError "reflectlite.Value.Elem" 0) ReflectliteValue.elem) Tryz.func139 (by kernel_rfl) (by kernel_rfl) (by kernel_rfl) (by kernel_rfl)
 have h12:=@run_callFunc_extern Tryz.prog 140 _ (ReflectliteValue.set) Tryz.func140 (by kernel_rfl) (by kernel_rfl) (by kernel_rfl) (by kernel_rfl);have tO:=ztk;have mA:=zeG;have a25:=zlv;have v25:=zsM;have f6:=zr3;have f7:=zvk;have mK:=zn9;have mE:=zoj;have mI:=zf1;have k27:=zvi;have k25:=zvg;have e27:=zvd;have i25:=znd;have n8:=zuM ⟨w.heap.size,0,none⟩ t ((w.alloc (.cells #[.pointer (some t)] 95)).alloc (.cells #[.pointer (some ⟨2,95,none⟩),.pointer (some ⟨w.heap.size,0,none⟩),.int .u64 150] 142)) (by simp);have hlt:0<w.heap.size:=by
  rcases Nat.eq_zero_or_pos w.heap.size with h0|h
  ·simp [World.cell?,h0] at hg
  ·exact h
 have hg2:((w.alloc (.cells #[.pointer (some t)] 95)).alloc (.cells #[.pointer (some ⟨2,95,none⟩),.pointer (some ⟨w.heap.size,0,none⟩),.int .u64 150] 142)).cell? ⟨0,0,none⟩=some (.iface 191 (.agg #[.pointer (some ⟨2,33,none⟩)])):=by
  rw [World.cell?_alloc_lt _ _ ⟨0,0,none⟩ (by simp),World.cell?_alloc_lt _ _ ⟨0,0,none⟩ hlt];exact hg
 have htl:t.block<w.heap.size:=by
  rcases Nat.lt_or_ge t.block w.heap.size with h|h
  ·exact h
  ·simp [World.cell?,Array.getElem?_eq_none h] at ht0
 have el:=zur ⟨w.heap.size,0,none⟩ t (((w.alloc (.cells #[.pointer (some t)] 95)).alloc (.cells #[.pointer (some ⟨2,95,none⟩),.pointer (some ⟨w.heap.size,0,none⟩),.int .u64 150] 142)).alloc (.cells #[.pointer (some ⟨2,95,none⟩),.pointer (some ⟨w.heap.size,0,none⟩),.int .u64 150] 142)) (by rw [World.cell?_alloc_lt _ _ ⟨w.heap.size,0,none⟩ (by simp;omega)];simp);have st:=zuW t ⟨w.heap.size+1+1+1,0,none⟩ n old ((((w.alloc (.cells #[.pointer (some t)] 95)).alloc (.cells #[.pointer (some ⟨2,95,none⟩),.pointer (some ⟨w.heap.size,0,none⟩),.int .u64 150] 142)).alloc (.cells #[.pointer (some ⟨2,95,none⟩),.pointer (some ⟨w.heap.size,0,none⟩),.int .u64 150] 142)).alloc (.cells #[.int .i64 n] 28))
  (by rw [World.cell?_alloc_at _ _ _ _ (by simp)];rfl)
  (by rw [World.cell?_alloc_lt _ _ t (by simp;omega),World.cell?_alloc_lt _ _ t (by simp;omega),World.cell?_alloc_lt _ _ t (by simp;omega),World.cell?_alloc_lt _ _ t htl];exact ht0)
  (by rw [World.frozen?_alloc_old _ _ t (by simp;omega),World.frozen?_alloc_old _ _ t (by simp;omega),World.frozen?_alloc_old _ _ t (by simp;omega),World.frozen?_alloc_old _ _ t (Nat.ne_of_lt htl)];exact hf0)
 go_enter Tryz.func48,Tryz.ntmps48;go_wp2;refine wp_loop_rounds 1 ?_;rw [rounds_succ];go_wp2;go_ret;exact⟨rfl,rfl⟩
end Go.Proofs.YtkfgabdnppmglaaGreatDoor
namespace Go.Proofs.YtkfgabdnppmglaaGreatDoor
open Go.RowKit
def zbC(w:World):Prop:=w.cell? ⟨0,0,none⟩=some (.iface 191 (.agg #[.pointer (some ⟨2,33,none⟩)]))
theorem zbC.keep{w w':World}(h:zbC w)(hb:Below w.heap.size w w'):zbC w':=za hb h
theorem zbC.pos{w:World}(h:zbC w):0<w.heap.size:=block_lt_of_cell h
theorem zbC.alloc{w:World}(h:zbC w)(o:Obj):zbC (w.alloc o):=h.keep ((Below.refl _ _).alloc (Nat.le_refl _) _)
theorem zbC.drewN{w:World}(h:zbC w)(n:Nat):zbC (w.drewN n):=h
theorem zbC.drew{w:World}(h:zbC w):zbC w.drew:=h
theorem zrD(w:World):Calls Tryz.prog 19 #[.nilIface] w fun e w'=>e = .returned (.int .i64 0)∧Below w.heap.size w w':=by
 go_enter Tryz.func19,Tryz.ntmps19;go_wp2;go_ret;exact⟨rfl,Below.refl _ _⟩
theorem zsB(n:Int)(w:World)(hg:zbC w):Calls Tryz.prog 19 #[.iface 28 (.int .i64 n)] w fun e w'=>e = .returned (.int .i64 n)∧Below w.heap.size w w':=by
 have h1:=hg.alloc (.cells #[.int .i64 0] 28);have c1:=zkO n ⟨w.heap.size,0,none⟩ (.int .i64 0) (w.alloc (.cells #[.int .i64 0] 28)) h1 (by simp) (by simp);have C1:=hi9 c1;clear c1 h1;go_enter Tryz.func19,Tryz.ntmps19;go_wp2_with (go_at_call 48;refine C1.out.mono ?_;rintro e w' ⟨rfl,rfl⟩);go_ret;refine⟨rfl,?_⟩;exact(by(repeat' (first|exact Below.refl _ _|refine Below.alloc ?_ ?_ _|refine Below.setCell ?_ ?_ _|refine Below.drew ?_|refine Below.drewN ?_ _))<;>(try simp)<;> omega)
theorem zop(n:Int)(w:World)(hg:zbC w):Calls Tryz.prog 19 #[j3 n] w fun e w'=>e = .returned (.int .i64 n)∧Below w.heap.size w w':=by
 by_cases h:n=0
 ·subst h;exact zrD w
 ·rw [zC h];exact zsB n w hg
theorem znH(n k:Int)(w:World)(hg:zbC w):Calls Tryz.prog 6 #[j3 n,.int .i64 k] w fun e w'=>e = .returned (.bool (n==k))∧Below w.heap.size w w':=by
 have C1:=hi9 (zop n w hg);go_enter Tryz.func6,Tryz.ntmps6;go_wp2_with (go_at_call 19;refine C1.out.mono ?_;rintro e w' ⟨rfl,hb⟩);go_ret;exact⟨rfl,hb⟩
theorem zfI(w:World):(callFunc 209 #[]).run Tryz.prog w = .ok (.value (.tuple #[])) w:=run_call_mark0 Tryz.func209 (by kernel_rfl) (by kernel_rfl) (by kernel_rfl) .disable (by kernel_rfl) w
theorem zgJ(w:World):(callFunc 211 #[]).run Tryz.prog w = .ok (.value (.tuple #[])) w:=run_call_mark0 Tryz.func211 (by kernel_rfl) (by kernel_rfl) (by kernel_rfl) .enable (by kernel_rfl) w
theorem zlc(a:Addr)(w:World):(callFunc 212 #[.pointer (some a)]).run Tryz.prog w = .ok (.value (.tuple #[])) w:=run_call_marked Tryz.func212 (by kernel_rfl) (by kernel_rfl) (by kernel_rfl) .acquire (by kernel_rfl) a w
theorem zeO(a:Addr)(w:World):(callFunc 214 #[.pointer (some a)]).run Tryz.prog w = .ok (.value (.tuple #[])) w:=run_call_marked Tryz.func214 (by kernel_rfl) (by kernel_rfl) (by kernel_rfl) .releaseMerge (by kernel_rfl) a w
theorem zhm(a:Addr)(x:Value)(u:FrameMode)(w:World)(hc:w.cell? a=some x)(hz:w.frozen? a=false):
 CallsD Tryz.prog 171 #[.pointer (some a),.bool true] u w fun e u' w'=>u'=u∧(e = .returned (.tuple #[])∧w'=w.drew.setCell a (.int .u32 1)):=by
 have hc':w.drew.cell? a=some x:=by go_simp
 have hz':w.drew.frozen? a=false:=by go_simp
 have hst:=run_call_store (P:=Tryz.prog) Tryz.func190 (by kernel_rfl) (by kernel_rfl) (by kernel_rfl) (by kernel_rfl) (k := .u32) (y:=1) hc' hz';go_enter_d Tryz.func171,Tryz.ntmps171;go_wp2;go_region_calls
 all_goals (go_end0;exact⟨rfl,rfl⟩)
theorem zgT(a:Addr)(u:FrameMode)(w:World)(hc:w.cell? a=some (.int .i32 1))(hz:w.frozen? a=false):
 CallsD Tryz.prog 170 #[.pointer (some a)] u w fun e u' w'=>u'=u∧(e = .returned (.tuple #[])∧w'=w.setCell a (.int .i32 0)):=by
 have hd:=zfI;have he:=zgJ;have hr:=zeO;have hadd:=run_call_add (P:=Tryz.prog) Tryz.func215 (by kernel_rfl) (by kernel_rfl) (by kernel_rfl) .i32 (by kernel_rfl) (y := -1) (s:=0) hc hz (by simp [go_sem];rfl);have hcv:=run_convert_to_unsafe (P:=Tryz.prog) (src:=296) (dst:=139) Tryz.underlying296 Tryz.underlying139 (by kernel_rfl) hc;go_enter_d Tryz.func170,Tryz.ntmps170;go_wp2;go_end0;go_wp2;go_end0;exact⟨rfl,rfl⟩
theorem zpW(a:Addr)(w:World)(hc:w.cell? a=some (.int .i32 0))(hz:w.frozen? a=false):
 Calls Tryz.prog 169 #[.pointer (some a)] w fun e w'=>e = .returned (.tuple #[])∧w'=w.setCell a (.int .i32 1):=by
 have hd:=zfI;have he:=zgJ;have ha:=zlc;have hcas:=run_call_cas_hit (P:=Tryz.prog) Tryz.func210 (by kernel_rfl) (by kernel_rfl) (by kernel_rfl) .i32 (by kernel_rfl) (y:=1) hc hz;have hc':(w.setCell a (.int .i32 1)).cell? a=some (.int .i32 1):=World.cell?_setCell_same w a _ hc;have hcv:=run_convert_to_unsafe (P:=Tryz.prog) (src:=296) (dst:=139) Tryz.underlying296 Tryz.underlying139 (by kernel_rfl) hc';go_enter Tryz.func169,Tryz.ntmps169;go_wp2
 first|go_end0|(simp only [Exit.inBlock,Exit.then];refine bodyPost_ret (results_none rfl _ _ _) rfl ?_)|refine bodyPost_ret (results_none rfl _ _ _) rfl ?_
 go_wp2;go_end0;exact⟨rfl,rfl⟩
end Go.Proofs.YtkfgabdnppmglaaGreatDoor
