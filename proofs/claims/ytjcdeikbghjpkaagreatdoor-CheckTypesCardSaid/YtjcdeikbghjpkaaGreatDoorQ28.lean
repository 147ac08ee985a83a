/-
  The reference's order of nodes. The reference's ValueEnd, ValueFault and Faults. The reference's ValueEnd at sets and records; ValueFault. The reference's ..
-/
import Derived.Test.YtjcdeikbghjpkaaGreatDoorQ3
import Derived.Test.YtjcdeikbghjpkaaGreatDoorQ9
import Derived.Test.YtjcdeikbghjpkaaGreatDoorQ15
import Derived.Test.YtjcdeikbghjpkaaGreatDoorQ17
import Derived.Test.YtjcdeikbghjpkaaGreatDoorQ18
import Derived.Test.YtjcdeikbghjpkaaGreatDoorQ22
import Derived.Test.YtjcdeikbghjpkaaGreatDoorQ26
import Derived.Test.YtjcdeikbghjpkaaGreatDoorQ27
set_option maxRecDepth 100000
set_option maxHeartbeats 4000000
namespace Go.Proofs.YtjcdeikbghjpkaaGreatDoor
open Go.RowKit Go.Wk Go.Sort
theorem zgZ{P Q:List Nd}{k:Nat}(h:P.length≤k∨Q.length≤k)(h1:k≤P.length)(h2:k≤Q.length):zW (P.drop k) (Q.drop k)=zbE P.length Q.length:=by
 by_cases a:P.length≤k
 ·by_cases b:Q.length≤k
  ·rw [zc0 a b];unfold zbE;split <;>(try split)<;> omega
  ·rw [zg3 a (by omega)];unfold zbE;rw [if_pos (by omega)]
 ·rw [zg4 (by omega) (by omega)];unfold zbE;rw [if_neg (by omega),if_pos (by omega)]
theorem zjE(A B:Option Addr)(n m c d:Nat)(P Q:List Nd)(w:World)(hn:n=P.length)(hm:m=Q.length)(hln:n≤maxLen)(_hlm:m≤maxLen)(hP:jM w A P)(hQ:jM w B Q)(oP:zaj P)(oQ:zaj Q):
 Calls Tryz.prog 66 #[.slice A n c,.slice B m d] w fun e w'=>e = .returned (.int .i64 (zW P Q))∧Below w.heap.size w w':=by
 unfold maxLen at hln _hlm;have HN:=hi9 hn;have HM:=hi9 hm;have HP:=hi9 hP;have HQ:=hi9 hQ;have OP:=hi9 oP;have OQ:=hi9 oQ;clear hn hm hP hQ oP oQ;go_enter Tryz.func66,Tryz.ntmps66;go_wp2_with fail;go_loopw [4,5] (fun _ i wr=>∃k:Nat,k≤n∧k≤m∧i = .int .i64 k∧Hid (zW P Q=zW (P.drop k) (Q.drop k))∧Hid (Below w.heap.size w wr)) (fun _ i _=>n-(intOf i).toNat)
 case atStart=>exact⟨0,Nat.zero_le _,Nat.zero_le _,rfl,rfl,Below.refl _ _⟩
 case round =>
  obtain⟨k,hkn,hkm,rfl,hc,hbel⟩:=hrel;by_cases h1:k<n
  ·have h1':k<P.length:=by rw [←HN.out];exact h1
   obtain⟨a,rfl,D⟩:=(HP.out.keep hbel.out).nd h1';by_cases h2:k<m
   ·have h2':k<Q.length:=by rw [←HM.out];exact h2
    obtain⟨b,rfl,E⟩:=(HQ.out.keep hbel.out).nd h2';have HA:=hi9 (hc.out.trans (zdo h1' h2'));have N1:=fun w=>zbp P[k].op Q[k].op w;have N2:=fun w=>zbp P[k].n Q[k].n w;have N3:=fun w=>zcj P[k].s Q[k].s w (OP.out.at h1').s (OQ.out.at h2').s;have N4:=fun w=>zcj P[k].t Q[k].t w (OP.out.at h1').t (OQ.out.at h2').t;have HX:zg6 P[k] Q[k]=or4 (zbE P[k].op Q[k].op) (zbE P[k].n Q[k].n) (zO P[k].s Q[k].s) (zO P[k].t Q[k].t):=rfl;rw [HX] at HA;generalize P[k]=x at *;generalize Q[k]=y at *;generalize zbE x.op y.op=v1 at *;generalize zbE x.n y.n=v2 at *;generalize zO x.s y.s=v3 at *;generalize zO x.t y.t=v4 at *;clear hc HX;have k1:=cell_regrown D.c0;have k2:=cell_regrown E.c0;have s1:=rqs (w:=wr) N1;have M2:=hi9 N2;have M3:=hi9 N3;have M4:=hi9 N4;have HD:=hi9 D;have HE:=hi9 E;clear N1 N2 N3 N4 D E;go_wp2_with fail;refine wp_region_quiet_below (by kernel_rfl) (by kernel_rfl) ?_
    repeat (first|go_big_quiet_step (exact s1 _ _)|quiet_step (exact s1 _ _))
    refine wpQuiet_nil ?_;intro w1 hw';have B1:=hi9 (show Below wr.heap.size wr w1 by obtain⟨⟨d,os⟩,rfl⟩:=hw';exact below_regrown _ _ _);clear hw';clear k1 k2 s1;by_cases e1:v1=0
    ·subst e1;have k1:=cell_regrown (HD.out.keep B1.out).c1;have k2:=cell_regrown (HE.out.keep B1.out).c1;have s1:=rqs (w:=w1) M2.out;go_wp2_with fail;refine wp_region_quiet_below (by kernel_rfl) (by kernel_rfl) ?_
     repeat (first|go_big_quiet_step (exact s1 _ _)|quiet_step (exact s1 _ _))
     refine wpQuiet_nil ?_;intro w2 hw';have B2:=hi9 (show Below w1.heap.size w1 w2 by obtain⟨⟨d,os⟩,rfl⟩:=hw';exact below_regrown _ _ _);clear hw';replace B2:=bh B1 B2.out;clear k1 k2 s1;by_cases e2:v2=0
     ·subst e2;have k1:=cell_regrown (HD.out.keep B2.out).c2;have k2:=cell_regrown (HE.out.keep B2.out).c2;have s1:=rq (w:=w2) (fun w' _=>M3.out w');go_wp2_with fail;refine wp_region_quiet_below (by kernel_rfl) (by kernel_rfl) ?_
      repeat (first|go_big_quiet_step (exact s1 _ _)|quiet_step (exact s1 _ _))
      refine wpQuiet_nil ?_;intro w3 hw';have B3:=hi9 (show Below w2.heap.size w2 w3 by obtain⟨⟨d,os⟩,rfl⟩:=hw';exact below_regrown _ _ _);clear hw';replace B3:=bh B2 B3.out;clear k1 k2 s1;by_cases e3:v3=0
      ·subst e3;have k1:=cell_regrown (HD.out.keep B3.out).c3;have k2:=cell_regrown (HE.out.keep B3.out).c3;have s1:=rq (w:=w3) (fun w' _=>M4.out w');go_wp2_with fail;refine wp_region_quiet_below (by kernel_rfl) (by kernel_rfl) ?_
       repeat (first|go_big_quiet_step (exact s1 _ _)|quiet_step (exact s1 _ _))
       refine wpQuiet_nil ?_;intro w4 hw';have B4:=hi9 (show Below w3.heap.size w3 w4 by obtain⟨⟨d,os⟩,rfl⟩:=hw';exact below_regrown _ _ _);clear hw';replace B4:=bh B3 B4.out;clear k1 k2 s1;by_cases e4:v4=0
       ·subst e4;have HB:=hi9 (HA.out.trans (show _=zW (P.drop (k+1)) (Q.drop (k+1)) from rfl));go_wp2_with fail;go_roundw
        case rel=>exact⟨k+1,by omega,by omega,by go_num,HB,zhL hbel B4 (Nat.le_refl _)⟩
        case measure=>simp [intOf];omega
       ·have HB:=hi9 (HA.out.trans (show _=v4 by unfold or4;rw [zs,zs,zs,zB e4]));have e4':(v4 != 0)=true:=by rw [bne_iff_ne];exact e4
        clear e4;go_wp2_with fail;go_ret;exact⟨jI HB.out.symm,(zhL hbel B4 (Nat.le_refl _)).out⟩
      ·have HB:=hi9 (HA.out.trans (show _=v3 by unfold or4;rw [zs,zs,zB e3,zB e3]));have e3':(v3 != 0)=true:=by rw [bne_iff_ne];exact e3
       have e3'':(v3==0)=false:=beq_eq_false_iff_ne.2 e3;clear e3;go_wp2_with fail;go_ret;exact⟨jI HB.out.symm,(zhL hbel B3 (Nat.le_refl _)).out⟩
     ·have HB:=hi9 (HA.out.trans (show _=v2 by unfold or4;rw [zs,zB e2,zB e2]));have e3':(v2 != 0)=true:=by rw [bne_iff_ne];exact e2
      have e3'':(v2==0)=false:=beq_eq_false_iff_ne.2 e2;clear e2;go_wp2_with fail;go_ret;exact⟨jI HB.out.symm,(zhL hbel B2 (Nat.le_refl _)).out⟩
    ·have HB:=hi9 (HA.out.trans (show _=v1 by unfold or4;rw [zB e1,zB e1]));have e3':(v1 != 0)=true:=by rw [bne_iff_ne];exact e1
     have e3'':(v1==0)=false:=beq_eq_false_iff_ne.2 e1;clear e1;go_wp2_with fail;go_ret;exact⟨jI HB.out.symm,(zhL hbel B1 (Nat.le_refl _)).out⟩
   ·have HB:=hi9 (hc.out.trans (zgZ (.inr (by rw [←HM.out];omega)) (by rw [←HN.out];omega) (by rw [←HM.out];omega)));rw [←HN.out,←HM.out] at HB;clear hc;go_wp2_with fail;refine(zbp _ _ _).mono ?_;rintro e w1 ⟨rfl,rfl⟩;go_wp2_with fail;go_ret;exact⟨jI HB.out.symm,hbel.out⟩
  ·have HB:=hi9 (hc.out.trans (zgZ (.inl (by rw [←HN.out];omega)) (by rw [←HN.out];omega) (by rw [←HM.out];omega)));rw [←HN.out,←HM.out] at HB;clear hc;go_wp2_with fail;refine(zbp _ _ _).mono ?_;rintro e w1 ⟨rfl,rfl⟩;go_wp2_with fail;go_ret;exact⟨jI HB.out.symm,hbel.out⟩
end Go.Proofs.YtjcdeikbghjpkaaGreatDoor
namespace Go.Wk
end Go.Wk
namespace Go.Proofs.YtjcdeikbghjpkaaGreatDoor
open Go.RowKit Go.Wk Go.Sort
end Go.Proofs.YtjcdeikbghjpkaaGreatDoor
namespace Go.Wk
end Go.Wk
namespace Go.Proofs.YtjcdeikbghjpkaaGreatDoor
open Go.RowKit Go.Wk Go.Sort
set_option linter.unusedSectionVars false
theorem zle{w:World}{A:Option Addr}{n c:Nat}{P:List Nd}(h:Ns w A n c P)(hp:0<P.length):∃a,A=some a∧1≤n∧w.cell? a=some (.int .i64 (zan P))∧w.cell? ⟨a.block,a.off+2,none⟩=some (.string (zsf P)):=by
 cases P with
 | nil=>simp at hp
 | cons x r =>
  obtain⟨a,ea,d0,d1,d2,d3⟩:=h.at_ 0 x rfl
  exact⟨a,ea,by rw [h.len];simp,d0,d2⟩
section
variable (a b:Addr) (n c m d:Nat) (o1 o2:Int) (s1 s2:ByteArray) (w:World) (hn:1≤n) (hm:1≤m) (hl:n≤4000) (hl2:m≤4000) (hnc:n≤c) (hmd:m≤d) (d0:w.cell? a=some (.int .i64 o1)) (d2:w.cell? ⟨a.block,a.off+2,none⟩=some (.string s1)) (e0:w.cell? b=some (.int .i64 o2)) (e2:w.cell? ⟨b.block,b.off+2,none⟩=some (.string s2))
include hn hm hl hl2 hnc hmd d0 d2 e0 e2
end
theorem zo5.cell{w:World}{A:Option Addr}{N:List ByteArray}(h:zo5 w A N){k:Nat}(hk:k<N.length):∃a,A=some a∧w.cell? (a.add k)=some (.string N[k]):=h k N[k] (List.getElem?_eq_getElem hk)
theorem zcw(A:Option Addr)(n c:Nat)(N:List ByteArray)(w:World)(h:Txs w A n c N):
 Calls Tryz.prog 57 #[.slice A n c] w fun e w'=>e = .returned (.int .i64 (zX N))∧w=w':=by
 have HL:=hi9 h.len;have HT:=hi9 h.at_;have HO:=hi9 h.ok;have hm:=h.max;unfold maxLen at hm;clear h;go_enter Tryz.func57,Tryz.ntmps57;go_wp2_with fail;go_loopw [3] (fun i wr=>∃k:Nat,i = .int .i64 k∧k≤n∧Hid (zX N=zX (N.drop k))∧wr=w) (fun i _=>n-(intOf i).toNat)
 case atStart=>exact⟨0,rfl,Nat.zero_le _,hi9 (by simp),rfl⟩
 case round =>
  obtain⟨k,rfl,hk,hF,rfl⟩:=hrel;by_cases hlt:k<n
  ·have hkn:k<N.length:=by rw [←HL.out];exact hlt
   obtain⟨a,rfl,q⟩:=HT.out.cell hkn;have HS:=hi9 (hF.out.trans (zgN hkn));have V:=hi9 (jR N[k] wr (HO.out _ (List.getElem_mem hkn)));generalize N[k]=s at *;clear hF;by_cases hf:zd s=0
   ·rw [hf,zs] at HS;rw [hf] at V;clear hf;go_wp2_with fail;refine V.out.mono ?_;rintro e w1 ⟨rfl,rfl⟩;go_wp2_with fail;go_roundw
    case rel=>exact⟨k+1,by go_num,hlt,HS,trivial⟩
    case measure=>simp [intOf];omega
   ·rw [zB hf] at HS;have f1:(zd s==0)=false:=beq_eq_false_iff_ne.2 hf;have f2:(zd s != 0)=true:=by rw [bne_iff_ne];exact hf
    generalize zd s=r at *;clear hf;go_wp2_with fail;refine V.out.mono ?_;rintro e w1 ⟨rfl,rfl⟩;go_wp2_with fail;go_ret;exact⟨by rw [HS.out];rfl,rfl⟩
  ·have HS:=hi9 (show zX N=0 by
    rw [hF.out,List.drop_eq_nil_of_le (by rw [←HL.out];omega)];rfl)
   clear hF
   go_wp2_with fail
   go_ret
   exact⟨by rw [HS.out];rfl,rfl⟩
theorem zd1(A:Option Addr)(n c:Nat)(P:List Nd)(w:World)(h:Ns w A n c P):
 Calls Tryz.prog 58 #[.slice A n c] w fun e w'=>e = .returned (.int .i64 (zb4 P))∧Below w.heap.size w w':=by
 have K:=hi9 (zjk A n c P w h);by_cases h0:zo P=0
 ·obtain⟨k,hk⟩:=znD h0;obtain⟨a,rfl,hn1,d0,-⟩:=zle h (by rw [hk.e];have:=jL k;omega);rw [h0] at K;have HR:=hi9 (show zb4 P=if zan P=46 then 0 else 2 by unfold zb4;rw [h0];rfl);have hm:=h.max;unfold maxLen at hm;clear h hk h0;by_cases h46:zan P=46
  ·rw [if_pos h46] at HR;rw [h46] at d0;clear h46;go_enter Tryz.func58,Tryz.ntmps58;go_wp2_with fail;refine K.out.mono ?_;rintro e w1 ⟨rfl,b1⟩;have d1:=zb b1 d0;have B1:=hi9 b1;clear b1 d0;go_wp2_with fail;go_ret;exact⟨by rw [HR.out];rfl,B1.out⟩
  ·rw [if_neg h46] at HR;have f1:(zan P==46)=false:=beq_eq_false_iff_ne.2 h46;have f2:(zan P != 46)=true:=by rw [bne_iff_ne];exact h46
   generalize zan P=o at *;clear h46;go_enter Tryz.func58,Tryz.ntmps58;go_wp2_with fail;refine K.out.mono ?_;rintro e w1 ⟨rfl,b1⟩;have d1:=zb b1 d0;have B1:=hi9 b1;clear b1 d0;go_wp2_with fail;go_ret;exact⟨by rw [HR.out];rfl,B1.out⟩
 ·have HR:=hi9 (show zb4 P=zo P by unfold zb4;exact zB h0 _);have f1:(zo P==0)=false:=beq_eq_false_iff_ne.2 h0;generalize zo P=r at *;clear h h0;go_enter Tryz.func58,Tryz.ntmps58;go_wp2_with fail;refine K.out.mono ?_;rintro e w1 ⟨rfl,b1⟩;have B1:=hi9 b1;clear b1;go_wp2_with fail;go_ret;exact⟨by rw [HR.out];rfl,B1.out⟩
theorem zgs{N:List ByteArray}{s:ByteArray}{k:Nat}(hk:k<N.length)(h:jS (N.take k) s=false)(hn:N[k]≠s):jS (N.take (k+1)) s=false:=by
 rw [List.take_succ_eq_append_getElem hk];unfold jS at *;rw [List.any_append,h];simp only [List.any_cons,List.any_nil,Bool.or_false,Bool.false_or,decide_eq_false_iff_not];exact fun e=>hn ((zt.zero _ _).1 e)
theorem zjH(s:ByteArray)(A:Option Addr)(n c:Nat)(N:List ByteArray)(w:World)(h:Txs w A n c N):
 Calls Tryz.prog 14 #[.string s,.slice A n c] w fun e w'=>e = .returned (.bool (jS N s))∧w=w':=by
 have HL:=hi9 h.len;have HT:=hi9 h.at_;have hm:=h.max;unfold maxLen at hm;clear h;go_enter Tryz.func14,Tryz.ntmps14;go_wp2_with fail;go_loopw [5] (fun i wr=>∃k:Nat,i = .int .i64 k∧k≤n∧Hid (jS (N.take k) s=false)∧wr=w) (fun i _=>n-(intOf i).toNat)
 case atStart=>exact⟨0,rfl,Nat.zero_le _,hi9 rfl,rfl⟩
 case round =>
  obtain⟨k,rfl,hk,hF,rfl⟩:=hrel;by_cases hlt:k<n
  ·have hkn:k<N.length:=by rw [←HL.out];exact hlt
   obtain⟨a,rfl,q⟩:=HT.out.cell hkn;by_cases hs:N[k]=s
   ·have HR:=hi9 (show jS N s=true from zde.2 (by rw [←hs];exact List.getElem_mem hkn));rw [hs] at q;clear hF hs;go_wp2_with fail;go_ret;exact⟨by rw [HR.out];rfl,rfl⟩
   ·have HF:=hi9 (zgs hkn hF.out hs);have f6:(N[k].toList==s.toList)=false:=beq_eq_false_iff_ne.2 (fun q=>hs (toList_inj q));generalize N[k]=y at *;clear hF hs;go_wp2_with fail;go_roundw
    case rel=>exact⟨k+1,by go_num,hlt,HF,trivial⟩
    case measure=>simp [intOf];omega
  ·have HR:=hi9 (show jS N s=false by
    have:=hF.out
    rwa [List.take_of_length_le (by rw [←HL.out];omega)] at this)
   clear hF
   go_wp2_with fail
   go_ret
   exact⟨by rw [HR.out];rfl,rfl⟩
structure Vs(w:World)(b:Nat)(s:Sc):Prop where
 c0:w.cell? ⟨b,0,none⟩=some (.slice s.KA s.kn s.kc)
 c1:w.cell? ⟨b,1,none⟩=some (.slice s.AA s.an s.ac)
theorem Vs.keep{w w':World}{b:Nat}{s:Sc}(h:Vs w b s)(hb:Below w.heap.size w w'):Vs w' b s:=⟨zb hb h.c0,zb hb h.c1⟩
theorem zb9(w:World)(s:Sc)(t:TypeId):Vs (w.alloc (.cells #[.slice s.KA s.kn s.kc,.slice s.AA s.an s.ac] t)) w.heap.size s :=
 ⟨zx (heap_alloc_last w _) rfl,zx (heap_alloc_last w _) rfl⟩
structure Vk(w:World)(b:Nat)(x:Kn):Prop where
 c0:w.cell? ⟨b,0,none⟩=some (.string x.d.nm)
 c1:w.cell? ⟨b,1,none⟩=some (.slice x.UA x.un x.uc)
 c2:w.cell? ⟨b,2,none⟩=some (.slice x.NA x.nn x.nc)
theorem Vk.keep{w w':World}{b:Nat}{x:Kn}(h:Vk w b x)(hb:Below w.heap.size w w'):Vk w' b x:=⟨zb hb h.c0,zb hb h.c1,zb hb h.c2⟩
theorem zrc(w:World)(x:Kn)(t:TypeId):Vk (w.alloc (.cells #[.string x.d.nm,.slice x.UA x.un x.uc,.slice x.NA x.nn x.nc] t)) w.heap.size x :=
 ⟨zx (heap_alloc_last w _) rfl,zx (heap_alloc_last w _) rfl,zx (heap_alloc_last w _) rfl⟩
theorem zgE(a b c:Int):or2 (or2 a b) c=or2 a (or2 b c):=by
 by_cases h:a=0
 ·rw [h,zs,zs]
 ·rw [zB h,zB h,zB h]
theorem zpg{N:List ByteArray}{s:ByteArray}{k i:Nat}(hk:k≤i)(h:jS (N.take k) s=true):jS (N.take i) s=true:=by
 rw [zde] at *;exact List.mem_of_mem_take (i:=k) (by rwa [List.take_take,Nat.min_eq_left hk])
def zc4(f:Int)(N:List ByteArray)(s:ByteArray)(k:Nat):Int:=or2 f (if jS (N.take k) s then 6 else 0)
theorem zn7{f:Int}{N:List ByteArray}{s:ByteArray}{k i:Nat}(hk:k≤i)(h:zc4 f N s k≠0):zc4 f N s i=zc4 f N s k:=by
 unfold zc4 at *;by_cases hf:f=0
 ·rw [hf,zs] at h ⊢;rw [zs];by_cases hh:jS (N.take k) s=true
  ·rw [if_pos hh,if_pos (zpg hk hh)]
  ·rw [if_neg hh] at h;exact absurd rfl h
 ·rw [zB hf,zB hf]
theorem zjZ{f:Int}{N:List ByteArray}{s:ByteArray}{k:Nat}(hk:k<N.length)(h:zc4 f N s k=0):zc4 f N s (k+1)=if N[k]=s then 6 else 0:=by
 unfold zc4 at *;rw [jk] at h;obtain⟨h1,h2⟩:=h;rw [h1,zs];have hh:jS (N.take k) s=false:=by
  cases hb:jS (N.take k) s with
  | false=>rfl
  | true=>rw [hb] at h2;cases h2
 by_cases e:N[k]=s
 ·have hm:jS (N.take (k+1)) s=true:=zde.2 (by rw [List.take_succ_eq_append_getElem hk,e];simp);rw [if_pos e,if_pos hm]
 ·rw [if_neg e,if_neg];rw [zgs hk hh e];simp
theorem zjg(s:Sc)(i:Nat)(w:World)(h:zcO w s)(hi:i<s.K.length)(h8:s.K.length≤8):
 Calls Tryz.prog 24 #[s.v,.int .i64 i] w fun e w'=>e = .returned (.int .i64 (kdF ((s.K.take i).map fun x=>x.d.nm) s.K[i].d))∧Below w.heap.size w w':=by
 obtain⟨KA,kn,kc,K,AA,an,ac,L⟩:=s;have hk:=h.k;simp only at hi h8 hk;obtain⟨a,ea,d0,d1,d2,hok⟩:=hk.at_ i _ (List.getElem?_eq_getElem hi);subst ea;have HK:=hi9 hk;have hkn:=hk.len;have hkc:=hk.cap;have hik:i<kn:=by omega
 have hkm:kn≤8:=by omega
 have HKL:=hi9 hkn;have hl:(a.add (i*3)).block<w.heap.size:=block_lt_of_cell d0;have KN:=hi9 (fun w=>jR K[i].d.nm w hok.s);have KU:=hi9 (fun w' (hb:Below w.heap.size w w')=>zcw _ _ _ _ w' (hok.us.keep hb));have KR:=hi9 (fun w' (hb:Below w.heap.size w w')=>zd1 _ _ _ _ w' (hok.ns.keep hb));have HUL:=hi9 hok.us.len;have hux:=hok.us.max;unfold maxLen at hux;have HNM:=hi9 (fun j (hj:j<K.length)=>show(K.map fun x=>x.d.nm)[j]?=some K[j].d.nm by rw [List.getElem?_map,List.getElem?_eq_getElem hj];rfl);have HT:=hi9 (List.map_take (f:=fun x:Kn=>x.d.nm) (l:=K) (i:=i));have V0:=hi9 (zb9 w ⟨some a,kn,kc,K,AA,an,ac,L⟩ 25);have B0:=hi9 (za w (.cells #[.slice (some a) kn kc,.slice AA an ac] 25));generalize hx:K[i]=x at *;have W0:=hi9 (zrc (w.alloc (.cells #[.slice (some a) kn kc,.slice AA an ac] 25)) x 79);have B1:=hi9 (B0.out.trans ((za (w.alloc (.cells #[.slice (some a) kn kc,.slice AA an ac] 25)) (.cells #[.string x.d.nm,.slice x.UA x.un x.uc,.slice x.NA x.nn x.nc] 79)).mono (by simp)));have V1:=hi9 (V0.out.keep (za (w.alloc (.cells #[.slice (some a) kn kc,.slice AA an ac] 25)) (.cells #[.string x.d.nm,.slice x.UA x.un x.uc,.slice x.NA x.nn x.nc] 79)));clear hk h hok hx hkn hi h8 V0 B0;unfold Sc.v;dsimp only;go_enter Tryz.func24,Tryz.ntmps24;go_wp2_with fail;refine(KN.out _).mono ?_;rintro e w1 ⟨rfl,rfl⟩;go_wp2_with fail;have HT0:Hid (zc4 (zd x.d.nm) (K.map fun x=>x.d.nm) x.d.nm 0=zd x.d.nm):=hi9 (by
  unfold zc4
  by_cases hf:zd x.d.nm=0
  ·rw [hf,zs];rfl
  ·exact zB hf _)
 go_loopw [6,7] (fun e j wr=>∃k:Nat,j = .int .i64 k∧k≤i∧e = .int .i64 (zc4 (zd x.d.nm) (K.map fun x=>x.d.nm) x.d.nm k)∧Hid (Below w.heap.size w wr)∧Hid (Vs wr w.heap.size ⟨some a,kn,kc,K,AA,an,ac,L⟩)∧Hid (Vk wr (w.heap.size+1) x)) (fun _ j _=>i-(intOf j).toNat)
 case atStart=>exact⟨0,rfl,Nat.zero_le _,by rw [HT0.out],B1,V1,hi9 (by simpa using W0.out)⟩
 case round =>
  obtain⟨k,rfl,hk,rfl,hB,hV,hW⟩:=hrel;have HK0:=hi9 (fun h=>zn7 (f:=zd x.d.nm) (N:=K.map fun x=>x.d.nm) (s:=x.d.nm) hk h);obtain⟨ee,hee⟩:∃ee,ee=zc4 (zd x.d.nm) (K.map fun x=>x.d.nm) x.d.nm k:=⟨_,rfl⟩
  rw [←hee] at HK0;have HEE:=hi9 hee;rw [←hee];obtain⟨v0,v1⟩:=hV.out;obtain⟨y0,y1,y2⟩:=hW.out;dsimp only at v0 v1;clear hee V1 W0 B1;by_cases hlt:k<i∧ee=0
  ·obtain⟨hlt,he0⟩:=hlt;have hkK:k<K.length:=by rw [←HKL.out];omega
   have hkk:k<kn:=by omega
   obtain⟨a',ea,q0,-,-,-⟩:=(HK.out.keep hB.out).at_ k _ (List.getElem?_eq_getElem hkK);injection ea with ea;subst ea;have HS:=hi9 (show zc4 (zd x.d.nm) (K.map fun x=>x.d.nm) x.d.nm (k+1)=if K[k].d.nm=x.d.nm then 6 else 0 by
    have h:=zjZ (f:=zd x.d.nm) (N:=K.map fun x=>x.d.nm) (s:=x.d.nm) (k:=k) (by rw [List.length_map];exact hkK) (HEE.out.symm.trans he0)
    rwa [List.getElem_map] at h)
   generalize K[k]=z at *;have k0:=cell_regrown v0;have k1:=cell_regrown q0;have k2:=cell_regrown y0;subst he0;clear q0;go_wp2_with fail;refine wp_region_quiet_below (by kernel_rfl) (by kernel_rfl) ?_
   repeat (first|go_big_quiet_step (fail)|quiet_step (fail))
   refine wpQuiet_nil ?_;intro w6 hw';have B6:=hi9 (show Below wr.heap.size wr w6 by obtain⟨⟨d,os⟩,rfl⟩:=hw';exact below_regrown _ _ _);clear hw';have B7:=zhL hB B6 (Nat.le_refl _);have V7:=hi9 (hV.out.keep B6.out);have W7:=hi9 (hW.out.keep B6.out);clear k0 k1 k2 B6 hB hV hW v0 v1 y0 y1 y2;by_cases hz:z.d.nm=x.d.nm
   ·rw [if_pos hz] at HS;have f1:(z.d.nm.toList==x.d.nm.toList)=true:=by rw [hz];exact beq_self_eq_true _
    rw [f1];clear f1 hz;go_wp2_with fail;go_roundw
    case rel=>exact⟨k+1,by go_num,by omega,by rw [HS.out],B7,V7,W7⟩
    case measure=>simp [intOf];omega
   ·rw [if_neg hz] at HS;have f1:(z.d.nm.toList==x.d.nm.toList)=false:=beq_eq_false_iff_ne.2 (fun q=>hz (toList_inj q));rw [f1];clear f1 hz;go_wp2_with fail;go_roundw
    case rel=>exact⟨k+1,by go_num,by omega,by rw [HS.out],B7,V7,W7⟩
    case measure=>simp [intOf];omega
  ·have HF:=hi9 (show zc4 (zd x.d.nm) (K.map fun x=>x.d.nm) x.d.nm i=ee by
    rcases Nat.lt_or_ge k i with h|h
    ·have h0:ee≠0:=fun e=>hlt ⟨h,e⟩
     rw [HK0.out h0,HEE.out]
    ·have:k=i:=by omega
     rw [←this,HEE.out])
   have HKD:=hi9 (show kdF ((K.take i).map fun x=>x.d.nm) x.d=or2 ee (or2 (if 6<x.un then 4 else 0) (or2 (zX x.d.up) (zb4 x.d.P))) by
    unfold kdF
    rw [HT.out,←HF.out,HUL.out]
    unfold zc4
    rw [zgE])
   by_cases he0:ee=0
   ·have hki:k=i:=by
     rcases Nat.lt_or_ge k i with h|h
     ·exact absurd ⟨h,he0⟩ hlt
     ·omega
    subst he0
    rw [zs] at HKD
    subst hki
    clear hlt HK0 HEE HF
    by_cases h6:6<x.un
    ·have HR:=hi9 (HKD.out.trans (by rw [if_pos h6];rfl:_=(4:Int)))
     have f1:decide (6<(x.un:Int))=true:=decide_eq_true (by omega);clear h6;go_wp2_with fail;go_ret;exact⟨by rw [HR.out];rfl,hB.out⟩
    ·have HR:=hi9 (HKD.out.trans (by rw [if_neg h6,zs]:_=or2 (zX x.d.up) (zb4 x.d.P)))
     have f1:decide (6<(x.un:Int))=false:=decide_eq_false (by omega);have U1:=hi9 (KU.out wr hB.out);have R1:=hi9 (KR.out wr hB.out);clear h6 HKD;by_cases hn:zX x.d.up=0
     ·rw [hn,zs] at HR;rw [hn] at U1;clear hn;generalize zb4 x.d.P=rr at *;go_wp2_with fail;refine U1.out.mono ?_;rintro e w6 ⟨rfl,rfl⟩;go_wp2_with fail;refine R1.out.mono ?_;rintro e w7 ⟨rfl,b7⟩;have B7:=hi9 (hB.out.trans (b7.mono hB.out.size));clear b7;go_wp2_with fail;go_ret;exact⟨by rw [HR.out];rfl,B7.out⟩
     ·rw [zB hn] at HR;have f2:(zX x.d.up==0)=false:=beq_eq_false_iff_ne.2 hn;generalize zX x.d.up=rn at *;clear hn R1;go_wp2_with fail;refine U1.out.mono ?_;rintro e w6 ⟨rfl,rfl⟩;go_wp2_with fail;go_ret;exact⟨by rw [HR.out];rfl,hB.out⟩
   ·have HR:=hi9 (HKD.out.trans (zB he0 _))
    have f1:(ee==0)=false:=beq_eq_false_iff_ne.2 he0;have f2:(decide (k<i)&&(ee==0))=false:=by rw [f1,Bool.and_false]
    clear hlt HK0 HEE HF HKD he0;go_wp2_with fail
    all_goals (go_ret;exact⟨by rw [HR.out];rfl,hB.out⟩)
structure Va(w:World)(b:Nat)(x:An):Prop where
 c0:w.cell? ⟨b,0,none⟩=some (.string x.d.id)
 c1:w.cell? ⟨b,1,none⟩=some (.slice x.WA x.wn x.wc)
 c2:w.cell? ⟨b,2,none⟩=some (.slice x.TA x.tn x.tc)
 c3:w.cell? ⟨b,3,none⟩=some (.slice x.NA x.nn x.nc)
theorem Va.keep{w w':World}{b:Nat}{x:An}(h:Va w b x)(hb:Below w.heap.size w w'):Va w' b x:=⟨zb hb h.c0,zb hb h.c1,zb hb h.c2,zb hb h.c3⟩
theorem zpH(w:World)(x:An)(t:TypeId):Va (w.alloc (.cells #[.string x.d.id,.slice x.WA x.wn x.wc,.slice x.TA x.tn x.tc,.slice x.NA x.nn x.nc] t)) w.heap.size x :=
 ⟨zx (heap_alloc_last w _) rfl,zx (heap_alloc_last w _) rfl,zx (heap_alloc_last w _) rfl,zx (heap_alloc_last w _) rfl⟩
theorem zkY(s:Sc)(i:Nat)(w:World)(h:zcO w s)(hi:i<s.L.length)(h8:s.L.length≤8):
 Calls Tryz.prog 25 #[s.v,.int .i64 i] w fun e w'=>e = .returned (.int .i64 (adF ((s.L.take i).map fun x=>x.d.id) s.L[i].d))∧Below w.heap.size w w':=by
 obtain⟨AA,an,ac,L,KA,kn,kc,K⟩:=s;have hk:=h.a;simp only at hi h8 hk;obtain⟨a,ea,d0,d1,d2,d3,hok⟩:=hk.at_ i _ (List.getElem?_eq_getElem hi);subst ea;have HK:=hi9 hk;have hkn:=hk.len;have hkc:=hk.cap;have hik:i<kn:=by omega
 have hkm:kn≤8:=by omega
 have HKL:=hi9 hkn;have hl:(a.add (i*4)).block<w.heap.size:=block_lt_of_cell d0;have KN:=hi9 (fun w=>zbZ K[i].d.id w hok.s);have KU:=hi9 (fun w' (hb:Below w.heap.size w w')=>zcw _ _ _ _ w' (hok.ws.keep hb));have KU2:=hi9 (fun w' (hb:Below w.heap.size w w')=>zcw _ _ _ _ w' (hok.ts.keep hb));have KR:=hi9 (fun w' (hb:Below w.heap.size w w')=>zd1 _ _ _ _ w' (hok.ns.keep hb));have HUL:=hi9 hok.ws.len;have HUL2:=hi9 hok.ts.len;have hux:=hok.ws.max;have hux2:=hok.ts.max;unfold maxLen at hux hux2;have HNM:=hi9 (fun j (hj:j<K.length)=>show(K.map fun x=>x.d.id)[j]?=some K[j].d.id by rw [List.getElem?_map,List.getElem?_eq_getElem hj];rfl);have HT:=hi9 (List.map_take (f:=fun x:An=>x.d.id) (l:=K) (i:=i));have V0:=hi9 (zb9 w ⟨AA,an,ac,L,some a,kn,kc,K⟩ 25);have B0:=hi9 (za w (.cells #[.slice AA an ac,.slice (some a) kn kc] 25));generalize hx:K[i]=x at *;have W0:=hi9 (zpH (w.alloc (.cells #[.slice AA an ac,.slice (some a) kn kc] 25)) x 43);have B1:=hi9 (B0.out.trans ((za (w.alloc (.cells #[.slice AA an ac,.slice (some a) kn kc] 25)) (.cells #[.string x.d.id,.slice x.WA x.wn x.wc,.slice x.TA x.tn x.tc,.slice x.NA x.nn x.nc] 43)).mono (by simp)));have V1:=hi9 (V0.out.keep (za (w.alloc (.cells #[.slice AA an ac,.slice (some a) kn kc] 25)) (.cells #[.string x.d.id,.slice x.WA x.wn x.wc,.slice x.TA x.tn x.tc,.slice x.NA x.nn x.nc] 43)));clear hk h hok hx hkn hi h8 V0 B0;unfold Sc.v;dsimp only;go_enter Tryz.func25,Tryz.ntmps25;go_wp2_with fail;refine(KN.out _).mono ?_;rintro e w1 ⟨rfl,b1⟩;have hsz:(w.alloc (.cells #[.slice AA an ac,.slice (some a) kn kc] 25)).heap.size=w.heap.size+1:=by simp
 have W0':=W0.out;rw [hsz] at W0';have V2:=hi9 (V1.out.keep b1);have W2:=hi9 (W0'.keep b1);have B2:=hi9 (B1.out.trans (b1.mono B1.out.size));clear b1 W0 W0' V1 B1 hsz;go_wp2_with fail;have HT0:Hid (zc4 (zk x.d.id) (K.map fun x=>x.d.id) x.d.id 0=zk x.d.id):=hi9 (by
  unfold zc4
  by_cases hf:zk x.d.id=0
  ·rw [hf,zs];rfl
  ·exact zB hf _)
 go_loopw [6,7] (fun e j wr=>∃k:Nat,j = .int .i64 k∧k≤i∧e = .int .i64 (zc4 (zk x.d.id) (K.map fun x=>x.d.id) x.d.id k)∧Hid (Below w.heap.size w wr)∧Hid (Vs wr w.heap.size ⟨AA,an,ac,L,some a,kn,kc,K⟩)∧Hid (Va wr (w.heap.size+1) x)) (fun _ j _=>i-(intOf j).toNat)
 case atStart=>exact⟨0,rfl,Nat.zero_le _,by rw [HT0.out],B2,V2,W2⟩
 case round =>
  obtain⟨k,rfl,hk,rfl,hB,hV,hW⟩:=hrel;have HK0:=hi9 (fun h=>zn7 (f:=zk x.d.id) (N:=K.map fun x=>x.d.id) (s:=x.d.id) hk h);obtain⟨ee,hee⟩:∃ee,ee=zc4 (zk x.d.id) (K.map fun x=>x.d.id) x.d.id k:=⟨_,rfl⟩
  rw [←hee] at HK0;have HEE:=hi9 hee;rw [←hee];obtain⟨v0,v1⟩:=hV.out;obtain⟨y0,y1,y2,y3⟩:=hW.out;dsimp only at v0 v1;clear hee V2 W2 B2;by_cases hlt:k<i∧ee=0
  ·obtain⟨hlt,he0⟩:=hlt;have hkK:k<K.length:=by rw [←HKL.out];omega
   have hkk:k<kn:=by omega
   obtain⟨a',ea,q0,-,-,-,-⟩:=(HK.out.keep hB.out).at_ k _ (List.getElem?_eq_getElem hkK);injection ea with ea;subst ea;have HS:=hi9 (show zc4 (zk x.d.id) (K.map fun x=>x.d.id) x.d.id (k+1)=if K[k].d.id=x.d.id then 6 else 0 by
    have h:=zjZ (f:=zk x.d.id) (N:=K.map fun x=>x.d.id) (s:=x.d.id) (k:=k) (by rw [List.length_map];exact hkK) (HEE.out.symm.trans he0)
    rwa [List.getElem_map] at h)
   generalize K[k]=z at *;have k0:=cell_regrown v1;have k1:=cell_regrown q0;have k2:=cell_regrown y0;subst he0;clear q0;go_wp2_with fail;refine wp_region_quiet_below (by kernel_rfl) (by kernel_rfl) ?_
   repeat (first|go_big_quiet_step (fail)|quiet_step (fail))
   refine wpQuiet_nil ?_;intro w6 hw';have B6:=hi9 (show Below wr.heap.size wr w6 by obtain⟨⟨d,os⟩,rfl⟩:=hw';exact below_regrown _ _ _);clear hw';have B7:=zhL hB B6 (Nat.le_refl _);have V7:=hi9 (hV.out.keep B6.out);have W7:=hi9 (hW.out.keep B6.out);clear k0 k1 k2 B6 hB hV hW v0 v1 y0 y1 y2 y3;by_cases hz:z.d.id=x.d.id
   ·rw [if_pos hz] at HS;have f1:(z.d.id.toList==x.d.id.toList)=true:=by rw [hz];exact beq_self_eq_true _
    rw [f1];clear f1 hz;go_wp2_with fail;go_roundw
    case rel=>exact⟨k+1,by go_num,by omega,by rw [HS.out],B7,V7,W7⟩
    case measure=>simp [intOf];omega
   ·rw [if_neg hz] at HS;have f1:(z.d.id.toList==x.d.id.toList)=false:=beq_eq_false_iff_ne.2 (fun q=>hz (toList_inj q));rw [f1];clear f1 hz;go_wp2_with fail;go_roundw
    case rel=>exact⟨k+1,by go_num,by omega,by rw [HS.out],B7,V7,W7⟩
    case measure=>simp [intOf];omega
  ·have HF:=hi9 (show zc4 (zk x.d.id) (K.map fun x=>x.d.id) x.d.id i=ee by
    rcases Nat.lt_or_ge k i with h|h
    ·have h0:ee≠0:=fun e=>hlt ⟨h,e⟩
     rw [HK0.out h0,HEE.out]
    ·have:k=i:=by omega
     rw [←this,HEE.out])
   have HKD:=hi9 (show adF ((K.take i).map fun x=>x.d.id) x.d=or2 ee (or2 (if 6<x.wn∨6<x.tn then 4 else 0) (or2 (zX x.d.who) (or2 (zX x.d.what) (zb4 x.d.P)))) by
    unfold adF
    rw [HT.out,←HF.out,HUL.out,HUL2.out]
    unfold zc4
    rw [zgE])
   by_cases he0:ee=0
   ·have hki:k=i:=by
     rcases Nat.lt_or_ge k i with h|h
     ·exact absurd ⟨h,he0⟩ hlt
     ·omega
    subst he0
    rw [zs] at HKD
    subst hki
    clear hlt HK0 HEE HF
    by_cases h6:6<x.wn∨6<x.tn
    ·have HR:=hi9 (HKD.out.trans (by rw [if_pos h6];rfl:_=(4:Int)))
     by_cases h61:6<x.wn
     ·have f1:decide (6<(x.wn:Int))=true:=decide_eq_true (by omega);clear h6 h61;go_wp2_with fail;go_ret;exact⟨by rw [HR.out];rfl,hB.out⟩
     ·have f1:decide (6<(x.wn:Int))=false:=decide_eq_false (by omega);have f2:decide (6<(x.tn:Int))=true:=decide_eq_true (by omega);clear h6 h61;go_wp2_with fail;go_ret;exact⟨by rw [HR.out];rfl,hB.out⟩
    ·have HR:=hi9 (HKD.out.trans (by rw [if_neg h6,zs]:_=or2 (zX x.d.who) (or2 (zX x.d.what) (zb4 x.d.P))))
     have f1:decide (6<(x.wn:Int))=false:=decide_eq_false (by omega);have f2:decide (6<(x.tn:Int))=false:=decide_eq_false (by omega);have U1:=hi9 (KU.out wr hB.out);have U2:=hi9 (KU2.out wr hB.out);have R1:=hi9 (KR.out wr hB.out);clear h6 HKD;by_cases hn:zX x.d.who=0
     ·rw [hn,zs] at HR;rw [hn] at U1;clear hn;by_cases hn2:zX x.d.what=0
      ·rw [hn2,zs] at HR;rw [hn2] at U2;clear hn2;generalize zb4 x.d.P=rr at *;go_wp2_with fail;refine U1.out.mono ?_;rintro e w6 ⟨rfl,rfl⟩;go_wp2_with fail;refine U2.out.mono ?_;rintro e w6 ⟨rfl,rfl⟩;go_wp2_with fail;refine R1.out.mono ?_;rintro e w7 ⟨rfl,b7⟩;have B7:=hi9 (hB.out.trans (b7.mono hB.out.size));clear b7;go_wp2_with fail;go_ret;exact⟨by rw [HR.out];rfl,B7.out⟩
      ·rw [zB hn2] at HR;have f3:(zX x.d.what==0)=false:=beq_eq_false_iff_ne.2 hn2;generalize zX x.d.what=rn at *;clear hn2 R1;go_wp2_with fail;refine U1.out.mono ?_;rintro e w6 ⟨rfl,rfl⟩;go_wp2_with fail;refine U2.out.mono ?_;rintro e w6 ⟨rfl,rfl⟩;go_wp2_with fail;go_ret;exact⟨by rw [HR.out];rfl,hB.out⟩
     ·rw [zB hn] at HR;have f3:(zX x.d.who==0)=false:=beq_eq_false_iff_ne.2 hn;generalize zX x.d.who=rn at *;clear hn R1 U2;go_wp2_with fail;refine U1.out.mono ?_;rintro e w6 ⟨rfl,rfl⟩;go_wp2_with fail;go_ret;exact⟨by rw [HR.out];rfl,hB.out⟩
   ·have HR:=hi9 (HKD.out.trans (zB he0 _))
    have f1:(ee==0)=false:=beq_eq_false_iff_ne.2 he0;have f2:(decide (k<i)&&(ee==0))=false:=by rw [f1,Bool.and_false]
    clear hlt HK0 HEE HF HKD he0;go_wp2_with fail
    all_goals (go_ret;exact⟨by rw [HR.out];rfl,hB.out⟩)
end Go.Proofs.YtjcdeikbghjpkaaGreatDoor
