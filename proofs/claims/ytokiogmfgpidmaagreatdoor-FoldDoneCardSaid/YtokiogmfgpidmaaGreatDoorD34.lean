/-
  De Morgan; what is not asked for. Plain laws of evaluation. No program in ..
-/
import Derived.Test.YtokiogmfgpidmaaGreatDoorD33
set_option maxRecDepth 100000
set_option maxHeartbeats 2000000
namespace Go.Proofs.YtokiogmfgpidmaaGreatDoor
open Go.RowKit Go.Wk
theorem Xt{V:List Nd}(h:zc V=0)(h1:zf V=1):V=zI true\/V=zI false:=by
 obtain⟨hl,hv⟩:=zH.1 h;have hpos:=hv.pos
 match V,hpos with
 | x :: r,_ =>
  have hx:x.op=1:=h1
  unfold IsV at hv
  simp only [zl,List.getElem?_cons_zero] at hv
  by_cases hs:zq x=true
  ·rw [if_pos hs,if_neg (by omega),if_neg (by omega),if_neg (by omega)] at hv
   have hr:r = []:=by simpa using hv
   subst hr;unfold zq at hs;rw [if_pos hx] at hs;simp only [Bool.and_eq_true,Bool.or_eq_true,decide_eq_true_eq] at hs;obtain⟨⟨hn,h2⟩,h3⟩:=hs;rcases hn with hn|hn
   ·right;rw [show x=⟨1,0,emp,emp⟩ from Nd.ext4 hx hn (Ga h2) (Ga h3)];rfl
   ·left;rw [show x=⟨1,1,emp,emp⟩ from Nd.ext4 hx hn (Ga h2) (Ga h3)];rfl
  ·rw [if_neg hs] at hv;cases hv
end Go.Proofs.YtokiogmfgpidmaaGreatDoor
namespace Go.Proofs.YtokiogmfgpidmaaGreatDoor
open Go.RowKit Go.Wk Go.Sort
def PU(w:World)(r:Except Int (Option (List Nd)))(e:Ending)(w':World):Prop :=
 Below w.heap.size w w'/\match r with
  | .error k=>e = .panicked (Gd k)
  | .ok none=>e = .returned (.slice none 0 0)
  | .ok (some V)=>∃a n c,e = .returned (.slice (some a) n c)/\Ns w' (some a) n c V
theorem WZ{E:List En}{u:Ud}{k:Nat}(h:k<E.length):((E.drop k).find? λx=>decide (x.u=u))=if E[k].u=u then some E[k] else(E.drop (k+1)).find? λx=>decide (x.u=u):=by
 rw [List.drop_eq_getElem_cons h,List.find?_cons];by_cases g:E[k].u=u
 ·simp [g]
 ·simp [g]
theorem zjo{w:World}{R:Nat}{k:Cx}(_h:Gh w R k)(A:Option Addr)(n c:Nat)(V:List Nd)(hv:Ns w A n c V)(h0:0<V.length)(h6:zf V=6):
 Calls Tryz.prog 104 #[.pointer (some ⟨R,0,none⟩),.slice A n c] w (PU w (vZ k.E V)):=by
 have K:=O (LM A n c V 6 w hv h0);have f1:(zf V==6)=true:=beq_iff_eq.2 h6;rw [f1] at K;have HR:=O (show vZ k.E V = .ok (some V) by unfold vZ;rw [if_pos h6]);have HV:=O hv;obtain⟨a,rfl,-⟩:=jY hv h0;rw [HR.o];clear hv h0 h6 f1;go_enter Tryz.func104,Tryz.ntmps104;go_wp2_with fail;refine K.o.mono ?_;rintro e w1 ⟨rfl,b1⟩;have B1:=O b1;clear b1 K;go_wp2_with fail;go_ret;exact⟨B1.o,a,n,c,rfl,HV.o.keep B1.o⟩
theorem zk3{w:World}{R:Nat}{k:Cx}(_h:Gh w R k)(A:Option Addr)(n c:Nat)(V:List Nd)(hv:Ns w A n c V)(h0:0<V.length)(h6:zf V≠6)(h4:zf V≠4):
 Calls Tryz.prog 104 #[.pointer (some ⟨R,0,none⟩),.slice A n c] w (PU w (vZ k.E V)):=by
 have K:=O (LM A n c V 6 w hv h0);have K2:=O (λw' hb=>LM A n c V 4 w' (hv.keep (w':=w') hb) h0);have f1:(zf V==6)=false:=beq_eq_false_iff_ne.2 h6;have f2:(zf V==4)=false:=beq_eq_false_iff_ne.2 h4;rw [f1] at K;rw [f2] at K2;have HR:=O (show vZ k.E V = .error 2 by unfold vZ;rw [if_neg h6,if_neg h4]);rw [HR.o];clear hv h0 h6 h4 f1 f2;go_enter Tryz.func104,Tryz.ntmps104;go_wp2_with fail;refine K.o.mono ?_;rintro e w1 ⟨rfl,b1⟩;have B1:=O b1;clear b1 K;go_wp2_with fail;refine(K2.o _ B1.o).mono ?_;rintro e w2 ⟨rfl,b2⟩;have B2:=bh B1 b2;clear b2 B1 K2;go_wp2_with fail;exact⟨rfl,B2.o,rfl⟩
theorem zif{w:World}{R:Nat}{k:Cx}(h:Gh w R k)(A:Option Addr)(n c:Nat)(V:List Nd)(hv:Ns w A n c V)(h0:0<V.length)(h4:zf V=4):
 Calls Tryz.prog 104 #[.pointer (some ⟨R,0,none⟩),.slice A n c] w (PU w (vZ k.E V)):=by
 have K:=O (LM A n c V 6 w hv h0);have K2:=O (λw' hb=>LM A n c V 4 w' (hv.keep (w':=w') hb) h0);have KU:=O (λw' hb=>TV A n c V w' (hv.keep (w':=w') hb) h0);have f1:(zf V==6)=false:=by rw [h4];rfl
 have f2:(zf V==4)=true:=beq_iff_eq.2 h4;rw [f1] at K;rw [f2] at K2;have HR:=O (show vZ k.E V = .ok ((k.E.find? λx=>decide (x.u=jc V)).map En.P) by unfold vZ;rw [if_neg (by rw [h4];decide),if_pos h4]);rw [HR.o];have HE:=O h.es;have HVA:=O (λx (hx:x∈k.E)=>zk (Qn (sM.1 h.e).2.1 hx).1);have c0:=h.c0;have Ng:=O HE.o.len;have hmx:=HE.o.max;unfold maxLen at hmx;unfold udV at KU;generalize jc V=u at *;clear hv h0 h4 f1 f2;go_enter Tryz.func104,Tryz.ntmps104;go_wp2_with fail;refine K.o.mono ?_;rintro e w1 ⟨rfl,b1⟩;have B1:=O b1;clear b1 K;go_wp2_with fail;refine(K2.o _ B1.o).mono ?_;rintro e w2 ⟨rfl,b2⟩;have B2:=bh B1 b2;replace c0:=za B2.o c0;clear b2 B1 K2;go_wp2_with fail;go_loopw [21] (λi wr=>∃j:Nat,i = .int .i64 j/\j<=k.en/\Hid ((k.E.find? λx=>decide (x.u=u))=(k.E.drop j).find? λx=>decide (x.u=u))/\Hid (Below w.heap.size w wr)) (λi _=>k.en-(intOf i).toNat)
 case atStart=>exact⟨0,rfl,Nat.zero_le _,O rfl,B2⟩
 case round =>
  obtain⟨j,rfl,hj,hF,hB⟩:=hrel;by_cases hlt:j<k.en
  ·have Ma:j<k.E.length:=by rw [<-Ng.o];exact hlt
   obtain⟨a,hea,q0,q1,q2,q3,hok⟩:=(HE.o.keep hB.o).at_ j k.E[j] (List.getElem?_eq_getElem Ma);rw [hea];have hF2:=hF.o.trans (WZ Ma);have HV:=O (HVA.o k.E[j] (List.getElem_mem Ma));generalize k.E[j]=x at *;have V0:=O (XH wr x 96);have B3:=bh hB (zb wr (.cells #[.string x.u.1,.string x.u.2,.slice x.UA x.un x.uc,.slice x.NA x.nn x.nc] 96));have SX:=O (hok.keep (zb wr (.cells #[.string x.u.1,.string x.u.2,.slice x.UA x.un x.uc,.slice x.NA x.nn x.nc] 96)));have HB3:=B3;obtain⟨w3,hw3⟩:∃w3,wr.alloc (.cells #[.string x.u.1,.string x.u.2,.slice x.UA x.un x.uc,.slice x.NA x.nn x.nc] 96)=w3:=⟨_,rfl⟩
   rw [hw3] at V0 B3 SX HB3;have R1:=rq (w:=w3) (λw' hb=>KU.o w' (B3.o.trans (hb.mono B3.o.size)));obtain⟨v0,v1,v2,v3⟩:=V0.o;have k0:=cell_regrown v0;have k1:=cell_regrown v1;by_cases he:x.u=u
   ·rw [if_pos he] at hF2;have HN:=O hF2;have hb1:(x.u.1.toList==u.1.toList)=true:=by rw [he];exact beq_self_eq_true _
    have hb2:(x.u.2.toList==u.2.toList)=true:=by rw [he];exact beq_self_eq_true _
    clear he hF hF2;go_wp2_with fail;refine wp_region_quiet_below (by kernel_rfl) (by kernel_rfl) ?_
    repeat (first|go_big_quiet_step (with_reducible exact R1 _ _)|quiet_step (with_reducible exact R1 _ _))
    refine wpQuiet_nil ?_;intro w4 hw';have b4:=O (show Below w3.heap.size w3 w4 by obtain⟨⟨d,os⟩,rfl⟩:=hw';exact below_regrown _ _ _);clear hw';have B4:=bh B3 b4.o;have V4:=O (V0.o.keep b4.o);have HO4:=O (SX.o.keep b4.o);clear k0 k1 v0 v1 v2 v3 V0 SX;obtain⟨v0,v1,v2,v3⟩:=V4.o;go_wp2_with fail;go_ret;rw [HN.o];obtain⟨a4,ha4,-⟩:=jY HO4.o.ns HV.o;refine⟨B4.o,a4,x.nn,x.nc,by rw [<-ha4];rfl,by rw [<-ha4];exact HO4.o.ns⟩
   ·rw [if_neg he] at hF2;have HN:=O hF2;have hne:(x.u.1.toList==u.1.toList)=false\/((x.u.1.toList==u.1.toList)=true/\(x.u.2.toList==u.2.toList)=false):=MX he;clear he hF hF2;rcases hne with h1|⟨h1,h2⟩
    all_goals
     go_wp2_with fail;refine wp_region_quiet_below (by kernel_rfl) (by kernel_rfl) ?_
     repeat (first|go_big_quiet_step (with_reducible exact R1 _ _)|quiet_step (with_reducible exact R1 _ _))
     refine wpQuiet_nil ?_;intro w4 hw';have b4:=O (show Below w3.heap.size w3 w4 by obtain⟨⟨d,os⟩,rfl⟩:=hw';exact below_regrown _ _ _);clear hw';have B4:=bh B3 b4.o;clear k0 k1 v0 v1 v2 v3 V0;go_wp2_with fail;go_roundw
     case rel=>exact⟨j+1,by go_num,by omega,HN,B4⟩
     case measure=>simp [intOf];omega
  ·have HN:=O (show(k.E.find? λx=>decide (x.u=u))=none by
    rw [hF.o,List.drop_of_length_le (by rw [<-Ng.o];omega)];rfl)
   clear hF;go_wp2_with fail;go_ret;rw [HN.o];exact⟨hB.o,rfl⟩
theorem So{w:World}{R:Nat}{k:Cx}(h:Gh w R k)(A:Option Addr)(n c:Nat)(V:List Nd)(hv:Ns w A n c V)(h0:0<V.length):
 Calls Tryz.prog 104 #[.pointer (some ⟨R,0,none⟩),.slice A n c] w (PU w (vZ k.E V)):=by
 by_cases h6:zf V=6
 ·exact zjo h A n c V hv h0 h6
 by_cases h4:zf V=4
 ·exact zif h A n c V hv h0 h4
 ·exact zk3 h A n c V hv h0 h6 h4
end Go.Proofs.YtokiogmfgpidmaaGreatDoor
namespace Go.Proofs
end Go.Proofs
