/-
  name.Unquote: what was quoted. The library's variable internal/bytealg.MaxLen: ..
-/
import Derived.Test.YtokiogmfgpidmaaGreatDoorD5
import Derived.Test.YtokiogmfgpidmaaGreatDoorD7
import Derived.Test.YtokiogmfgpidmaaGreatDoorD22
set_option maxRecDepth 100000
set_option maxHeartbeats 4000000
namespace Go.Proofs.YtokiogmfgpidmaaGreatDoor
open Go.RowKit Go.Wk
end Go.Proofs.YtokiogmfgpidmaaGreatDoor
namespace Go.Proofs.YtokiogmfgpidmaaGreatDoor
open Go.RowKit
end Go.Proofs.YtokiogmfgpidmaaGreatDoor
namespace Go.Proofs.YtokiogmfgpidmaaGreatDoor
open Go.RowKit Go.Wk
theorem IP(w:World)(x y:Value)(t:TypeId):(w.alloc (.cells #[x,y] t)).cell? ⟨w.heap.size,0,none⟩=some x/\(w.alloc (.cells #[x,y] t)).cell? ⟨w.heap.size,1,none⟩=some y :=
 ⟨jk (heap_alloc_last w _) rfl,jk (heap_alloc_last w _) rfl⟩
theorem UC(a b:ByteArray)(w:World)(ha:a.size<=maxLen)(hb:b.size<=maxLen):
 Calls Tryz.prog 49 #[.agg #[.string a,.string b]] w λe w'=>e = .returned (.tuple #[.string (zlf (a,b)),fa (jd (a,b))])/\Below w.heap.size w w':=by
 have KC:=O (λw=>Gj a w ha);have KQ:=O (λw=>zdg b w hb);have CC:=O (IP w (.string a) (.string b) 36);have B0:=O (zb w (.cells #[.string a,.string b] 36));by_cases h1:zh a=0
 ·have HE:=O (show jd (a,b)=zt b from if_pos h1);rw [h1,zm] at KC;have hna:=zl3 h1;by_cases h2:zt b=0
  ·have HV:=O (show zlf (a,b)=wrt (a,b) from if_pos (LV.2 ⟨h1,h2⟩));have hq:=M7 b.data.toList;have htb:=zlp h2;have hqs:(Wk.quoted b).size<=122:=by rw [zad];rw [Ob] at hq;omega
   have HS:=O (zlG (a,b));unfold zk2 at KQ;rw [h2,zm,if_pos rfl] at KQ;rw [HE.o,HV.o,h2,zm];clear h1 h2 hq;go_enter Tryz.func49,Tryz.ntmps49;go_wp2_with fail;obtain⟨w0,hw0⟩:∃w0,w.alloc (.cells #[.string a,.string b] 36)=w0:=⟨_,rfl⟩
   rw [hw0] at CC B0 ⊢;clear hw0;refine(KC.o w0).mono ?_;rintro e w1 ⟨rfl,b1⟩;have B1:=bh B0 b1;have c0:=za b1 CC.o.1;have c1:=za b1 CC.o.2;clear KC B0 CC;go_wp2_with fail;refine(KQ.o w1).mono ?_;rintro e w2 ⟨rfl,b2⟩;have B2:=bh B1 b2;have d0:=za b2 c0;have d1:=za b2 c1;clear KQ B1 c0 c1 b1 b2;generalize Wk.quoted b=q at *;go_wp2_with fail;go_ret2;exact⟨by rw [<-HS.o];rfl,B2.o⟩
  ·have HV:=O (show zlf (a,b)=⟨#[]⟩ from if_neg (λh=>h2 (LV.1 h).2));rw [zy h2] at KQ;rw [HE.o,HV.o,zy h2];clear h1 h2;go_enter Tryz.func49,Tryz.ntmps49;go_wp2_with fail;obtain⟨w0,hw0⟩:∃w0,w.alloc (.cells #[.string a,.string b] 36)=w0:=⟨_,rfl⟩
   rw [hw0] at CC B0 ⊢;clear hw0;refine(KC.o w0).mono ?_;rintro e w1 ⟨rfl,b1⟩;have B1:=bh B0 b1;have c0:=za b1 CC.o.1;have c1:=za b1 CC.o.2;clear KC B0 CC;go_wp2_with fail;refine(KQ.o w1).mono ?_;rintro e w2 ⟨rfl,b2⟩;have B2:=bh B1 b2;clear KQ B1 c0 c1 b1 b2;go_wp2_with fail;go_ret2;exact⟨rfl,B2.o⟩
 ·have HE:=O (show jd (a,b)=zh a from if_neg h1);have HV:=O (show zlf (a,b)=⟨#[]⟩ from if_neg (λh=>h1 (LV.1 h).1));rw [zy h1] at KC;rw [HE.o,HV.o,zy h1];clear h1;go_enter Tryz.func49,Tryz.ntmps49;go_wp2_with fail;obtain⟨w0,hw0⟩:∃w0,w.alloc (.cells #[.string a,.string b] 36)=w0:=⟨_,rfl⟩
  rw [hw0] at CC B0 ⊢;clear hw0;refine(KC.o w0).mono ?_;rintro e w1 ⟨rfl,b1⟩;have B1:=bh B0 b1;clear KC B0 CC b1;go_wp2_with fail;go_ret2;exact⟨rfl,B1.o⟩
structure Vr2(w:World)(b:Nat)(x y:Value):Prop where
 c0:w.cell? ⟨b,0,none⟩=some x
 c1:w.cell? ⟨b,1,none⟩=some y
 z0:w.frozen? ⟨b,0,none⟩=false
 z1:w.frozen? ⟨b,1,none⟩=false
theorem Vr2.keep{w w':World}{b:Nat}{x y:Value}(h:Vr2 w b x y)(hb:Below w.heap.size w w'):Vr2 w' b x y :=
 have hl:=block_lt_of_cell h.c0
 ⟨za hb h.c0,za hb h.c1,by rw [(Oa hb).2 b 0 hl];exact h.z0,by rw [(Oa hb).2 b 1 hl];exact h.z1⟩
theorem ot(w:World)(x y:Value)(t:TypeId):Vr2 (w.alloc (.cells #[x,y] t)) w.heap.size x y :=
 ⟨(IP w x y t).1,(IP w x y t).2,by simp,by simp⟩
theorem Vr2.set{w:World}{b:Nat}{x y:Value}(h:Vr2 w b x y)(x' y':Value):Vr2 ((w.setCell ⟨b,0,none⟩ x').setCell ⟨b,1,none⟩ y') b x' y':=by
 have h1:(w.setCell ⟨b,0,none⟩ x').cell? ⟨b,1,none⟩=some y:=(World.cell?_setCell_other _ ⟨b,0,none⟩ ⟨b,1,none⟩ _ (by intro e;injection e with _ e;cases e)).trans h.c1;refine⟨(World.cell?_setCell_other _ ⟨b,1,none⟩ ⟨b,0,none⟩ _ (by intro e;injection e with _ e;cases e)).trans (World.cell?_setCell_same _ _ _ h.c0),World.cell?_setCell_same _ _ _ h1,?_,?_⟩
 ·rw [World.frozen?_setCell,World.frozen?_setCell];exact h.z0
 ·rw [World.frozen?_setCell,World.frozen?_setCell];exact h.z1
def RV(w:World)(A:Option Addr)(P:List Ud):Prop :=
 ∀(k:Nat) (x:Ud),P[k]?=some x->∃a,A=some a/\w.cell? (a.add (k*2))=some (.string x.1)/\w.cell? ⟨(a.add (k*2)).block,(a.add (k*2)).off+1,none⟩=some (.string x.2)
theorem RV.keep{w w':World}{A:Option Addr}{P:List Ud}(h:RV w A P)(hb:Below w.heap.size w w'):RV w' A P :=
 λk x hx=>let ⟨a,h1,h2,h3⟩:=h k x hx;⟨a,h1,za hb h2,za hb h3⟩
theorem RV.but{w w':World}{A:Option Addr}{P:List Ud}{g:Option Nat}(h:RV w A P)(hg:w.grownBy w' g)(hR:∀a,A=some a->g≠some a.block):RV w' A P:=by
 intro k x hx;obtain⟨a,h1,h2,h3⟩:=h k x hx;have hn:some a.block≠g:=λe=>hR a h1 e.symm;have hb:=vW a (k*2);exact⟨a,h1,hg.cell h2 (by rw [hb];exact hn),hg.cell h3 (by rw [hb];exact hn)⟩
structure Us(w:World)(A:Option Addr)(n c:Nat)(P:List Ud):Prop where
 len:n=P.length
 cap:n<=c
 max:n<=maxLen
 at_:RV w A P
 ok:∀x∈P,x.1.size<=maxLen/\x.2.size<=maxLen
theorem Us.keep{w w':World}{A:Option Addr}{n c:Nat}{P:List Ud}(h:Us w A n c P)(hb:Below w.heap.size w w'):Us w' A n c P:=⟨h.len,h.cap,h.max,h.at_.keep hb,h.ok⟩
theorem Us.but{w w':World}{A:Option Addr}{n c:Nat}{P:List Ud}{g:Option Nat}(h:Us w A n c P)(hg:w.grownBy w' g)(hR:∀a,A=some a->g≠some a.block):Us w' A n c P:=⟨h.len,h.cap,h.max,h.at_.but hg hR,h.ok⟩
theorem Us.take{w:World}{A:Option Addr}{n c k:Nat}{P:List Ud}(h:Us w A n c P)(hk:k<=n):Us w A k c (P.take k):=
 {len:=by rw [List.length_take,<-h.len];omega
  cap:=Nat.le_trans hk h.cap
  max:=Nat.le_trans hk h.max
  at_:=λj x hx=>by
   rw [List.getElem?_take] at hx
   split at hx
   ·exact h.at_ j x hx
   ·cases hx
  ok:=λx hx=>h.ok x (List.mem_of_mem_take hx)}
structure En where
 u:Ud
 UA:Option Addr
 un:Nat
 uc:Nat
 ups:List Ud
 NA:Option Addr
 nn:Nat
 nc:Nat
 P:List Nd
def En.v(e:En):Value := .agg #[.string e.u.1,.string e.u.2,.slice e.UA e.un e.uc,.slice e.NA e.nn e.nc]
structure zfF(w:World)(e:En):Prop where
 t:e.u.1.size<=maxLen
 i:e.u.2.size<=maxLen
 us:Us w e.UA e.un e.uc e.ups
 ns:Ns w e.NA e.nn e.nc e.P
theorem zfF.keep{w w':World}{e:En}(h:zfF w e)(hb:Below w.heap.size w w'):zfF w' e:=⟨h.t,h.i,h.us.keep hb,h.ns.keep hb⟩
def Mn(e:En):Int:=if 6<e.ups.length then 4 else if Ge [] e.ups=0 then(if zc e.P=0 then(if zf e.P=6 then 0 else 2) else zc e.P) else Ge [] e.ups
theorem W7{P:List Ud}{k:Nat}(h:k<P.length)(x:Ud):CO (P.take (k+1)) x=(CO (P.take k) x || decide (P[k]=x)):=by
 unfold CO;rw [List.take_succ_eq_append_getElem h,List.any_append];simp
theorem MX{x y:Ud}(h:x≠y):(x.1.toList==y.1.toList)=false\/((x.1.toList==y.1.toList)=true/\(x.2.toList==y.2.toList)=false):=by
 by_cases h1:x.1=y.1
 ·refine .inr ⟨by rw [h1];simp,beq_eq_false_iff_ne.2 λe=>h ?_⟩;have h2:=toList_inj e;cases x;cases y;simp only at h1 h2;rw [h1,h2]
 ·exact .inl (beq_eq_false_iff_ne.2 λe=>h1 (toList_inj e))
theorem zec(A:Option Addr)(n c:Nat)(P:List Ud)(x:Ud)(w:World)(h:Us w A n c P):
 Calls Tryz.prog 134 #[.slice A n c,.agg #[.string x.1,.string x.2]] w λe w'=>(∃k:Int,e = .returned (.int .i64 k)/\(0<=k↔CO P x=true))/\Below w.heap.size w w':=by
 have V0:=O (ot w (.string x.1) (.string x.2) 36);have B0:=O (zb w (.cells #[.string x.1,.string x.2] 36));have HL:=O h.len;have HM:=h.max;unfold maxLen at HM;have HA:=O (h.at_);clear h;go_enter Tryz.func134,Tryz.ntmps134;go_wp2_with fail;obtain⟨w0,hw0⟩:∃w0,w.alloc (.cells #[.string x.1,.string x.2] 36)=w0:=⟨_,rfl⟩
 rw [hw0] at V0 B0 ⊢;clear hw0;go_loopw [5,8] (λ_ i wr=>∃k:Nat,k<=n/\i = .int .i64 k/\Hid (CO (P.take k) x=false)/\Hid (Below w.heap.size w wr)/\Hid (Vr2 wr w.heap.size (.string x.1) (.string x.2))) (λ_ i _=>n-(intOf i).toNat)
 case atStart=>exact⟨0,Nat.zero_le _,rfl,rfl,B0,V0⟩
 case round =>
  clear B0 V0;obtain⟨k,hk,rfl,hN,hB,hV⟩:=hrel;by_cases hlt:k<n
  ·have ve:k<P.length:=by rw [<-HL.o];exact hlt
   have HT:=O (W7 ve x);obtain⟨a,rfl,q0,q1⟩:=(HA.o.keep hB.o) k _ (List.getElem?_eq_getElem ve);have v0:=cell_regrown hV.o.c0;have v1:=cell_regrown hV.o.c1;by_cases he:P[k]=x
   ·have HY:=O (show CO P x=true from i8.2 (he ▸ List.getElem_mem ve));rw [he] at q0 q1;have k0:=cell_regrown q0;have k1:=cell_regrown q1;clear he q0 q1 HT;go_wp2_with fail;refine wp_region_quiet_below (by kernel_rfl) (by kernel_rfl) ?_
    repeat (first|go_big_quiet_step (fail)|quiet_step (fail))
    refine wpQuiet_nil ?_;intro w1 hw';have B1:=O (show Below wr.heap.size wr w1 by obtain⟨⟨d,os⟩,rfl⟩:=hw';exact below_regrown _ _ _);clear hw';have BX:=oz hB B1 (Nat.le_refl _);clear k0 k1 v0 v1 hB B1;go_wp2_with fail;go_ret;exact⟨⟨k,rfl,by rw [HY.o];simp⟩,BX.o⟩
   ·rw [decide_eq_false he,Bool.or_false,hN.o] at HT;have k0:=cell_regrown q0;have k1:=cell_regrown q1;have hne:(x.1.toList==P[k].1.toList)=false\/((x.1.toList==P[k].1.toList)=true/\(x.2.toList==P[k].2.toList)=false):=MX (λe=>he e.symm);clear he q0 q1;generalize P[k]=y at *;rcases hne with h1|⟨h1,h2⟩
    ·go_wp2_with fail;refine wp_region_quiet_below (by kernel_rfl) (by kernel_rfl) ?_
     repeat (first|go_big_quiet_step (fail)|quiet_step (fail))
     refine wpQuiet_nil ?_;intro w1 hw';have B1:=O (show Below wr.heap.size wr w1 by obtain⟨⟨d,os⟩,rfl⟩:=hw';exact below_regrown _ _ _);clear hw';have BX:=oz hB B1 (Nat.le_refl _);have VX:=O (hV.o.keep B1.o);clear k0 k1 v0 v1 hB B1 hV;go_wp2_with fail;go_roundw
     case rel=>exact⟨k+1,by omega,by go_num,HT,BX,VX⟩
     case measure=>simp [intOf];omega
    ·go_wp2_with fail;refine wp_region_quiet_below (by kernel_rfl) (by kernel_rfl) ?_
     repeat (first|go_big_quiet_step (fail)|quiet_step (fail))
     refine wpQuiet_nil ?_;intro w1 hw';have B1:=O (show Below wr.heap.size wr w1 by obtain⟨⟨d,os⟩,rfl⟩:=hw';exact below_regrown _ _ _);clear hw';have BX:=oz hB B1 (Nat.le_refl _);have VX:=O (hV.o.keep B1.o);clear k0 k1 v0 v1 hB B1 hV;go_wp2_with fail;go_roundw
     case rel=>exact⟨k+1,by omega,by go_num,HT,BX,VX⟩
     case measure=>simp [intOf];omega
  ·have HN:=O (show CO P x=false by rw [<-hN.o,List.take_of_length_le (by rw [<-HL.o];omega)]);go_wp2_with fail;go_ret;exact⟨⟨-1,rfl,by rw [HN.o];simp⟩,hB.o⟩
theorem Wt(A:Option Addr)(n c:Nat)(P:List Ud)(x:Ud)(w:World)(h:Us w A n c P):
 Calls Tryz.prog 92 #[.slice A n c,.agg #[.string x.1,.string x.2]] w λe w'=>e = .returned (.bool (CO P x))/\Below w.heap.size w w':=by
 have B0:=O (zb w (.cells #[.string x.1,.string x.2] 36));have K:=O (λw' hb=>zec A n c P x w' (h.keep hb));clear h;go_enter Tryz.func92,Tryz.ntmps92;go_wp2_with fail;refine(K.o _ B0.o).mono ?_;rintro e w1 ⟨⟨k,rfl,hk⟩,b1⟩;have B1:=bh B0 b1;have HK:=O (show decide (0<=k)=CO P x by
  rcases hu:CO P x with _|_
  ·exact decide_eq_false (λh=>by have:=hk.1 h;rw [hu] at this;cases this)
  ·exact decide_eq_true (hk.2 hu))
 clear hk b1 B0;go_wp2_with fail;go_ret;exact⟨by rw [<-HK.o];rfl,B1.o⟩
structure Vr4(w:World)(b:Nat)(x:En):Prop where
 c0:w.cell? ⟨b,0,none⟩=some (.string x.u.1)
 c1:w.cell? ⟨b,1,none⟩=some (.string x.u.2)
 c2:w.cell? ⟨b,2,none⟩=some (.slice x.UA x.un x.uc)
 c3:w.cell? ⟨b,3,none⟩=some (.slice x.NA x.nn x.nc)
theorem Vr4.keep{w w':World}{b:Nat}{x:En}(h:Vr4 w b x)(hb:Below w.heap.size w w'):Vr4 w' b x:=⟨za hb h.c0,za hb h.c1,za hb h.c2,za hb h.c3⟩
theorem XH(w:World)(x:En)(t:TypeId):Vr4 (w.alloc (.cells #[.string x.u.1,.string x.u.2,.slice x.UA x.un x.uc,.slice x.NA x.nn x.nc] t)) w.heap.size x :=
 ⟨jk (heap_alloc_last w _) rfl,jk (heap_alloc_last w _) rfl,jk (heap_alloc_last w _) rfl,jk (heap_alloc_last w _) rfl⟩
theorem zhI{L:List Ud}{k:Nat}(h:k<L.length):Ge (L.take k) (L.drop k)=if jd L[k]=0 then(if CO (L.take k) L[k]=true then 6 else Ge (L.take (k+1)) (L.drop (k+1))) else jd L[k]:=by
 rw [List.drop_eq_getElem_cons h,List.take_succ_eq_append_getElem h];rfl
theorem zk4(x:En)(w:World)(h:zfF w x):
 Calls Tryz.prog 52 #[x.v] w λe w'=>e = .returned (fa (Mn x))/\Below w.heap.size w w':=by
 have V0:=O (XH w x 96);obtain⟨u,UA,un,uc,ups,NA,nn,nc,P⟩:=x;obtain⟨-,-,ZI,Gy⟩:=h;have KW:=O (λ(u:Ud) (hu:u.1.size<=maxLen/\u.2.size<=maxLen) w=>UC u.1 u.2 w hu.1 hu.2);have KC:=O (λ(k:Nat) (hk:k<=un) (u:Ud) w' hb=>Wt UA k uc (ups.take k) u w' ((ZI.keep (w':=w') hb).take hk));have KV:=O (λw' hb=>zT (Gy.keep (w':=w') hb));have HU:=O ZI;have HN:=O Gy;have B0:=O (zb w (.cells #[.string u.1,.string u.2,.slice UA un uc,.slice NA nn nc] 96));have hlen:=ZI.len;have zhh:=ZI.cap;dsimp only at hlen zhh V0 KC KV HU HN;clear ZI Gy;unfold En.v;dsimp only;by_cases h6:6<un
 ·have HE:=O (show Mn ⟨u,UA,un,uc,ups,NA,nn,nc,P⟩=4 by unfold Mn;rw [if_pos (by dsimp only;omega)]);rw [HE.o];clear hlen;go_enter Tryz.func52,Tryz.ntmps52;go_wp2_with fail;go_ret;exact⟨rfl,B0.o⟩
 ·have HE:=O (show Mn ⟨u,UA,un,uc,ups,NA,nn,nc,P⟩=if Ge [] ups=0 then(if zc P=0 then(if zf P=6 then 0 else 2) else zc P) else Ge [] ups by unfold Mn;rw [if_neg (by dsimp only;omega)]);generalize Mn ⟨u,UA,un,uc,ups,NA,nn,nc,P⟩=EF at *;have HL:=O hlen;have hd:decide ((6:Int)<(un:Int))=false:=decide_eq_false (by omega);clear hlen;go_enter Tryz.func52,Tryz.ntmps52;go_wp2_with fail;obtain⟨w0,hw0⟩:∃w0,w.alloc (.cells #[.string u.1,.string u.2,.slice UA un uc,.slice NA nn nc] 96)=w0:=⟨_,rfl⟩
  rw [hw0] at V0 B0 ⊢;clear hw0;go_loopw [3,4,5,6,16] (λ_ _ _ _ i wr=>∃k:Nat,k<=un/\i = .int .i64 k/\Hid (Ge [] ups=Ge (ups.take k) (ups.drop k))/\Hid (Below w.heap.size w wr)/\Hid (Vr4 wr w.heap.size ⟨u,UA,un,uc,ups,NA,nn,nc,P⟩)) (λ_ _ _ _ i _=>un-(intOf i).toNat)
  case atStart=>exact⟨0,Nat.zero_le _,rfl,rfl,B0,V0⟩
  case round =>
   clear B0 V0;obtain⟨k,hk,rfl,hF,hB,hV⟩:=hrel;obtain⟨c0,c1,c2,c3⟩:=hV.o;dsimp only at c0 c1 c2 c3;by_cases hlt:k<un
   ·have ve:k<ups.length:=by rw [<-HL.o];exact hlt
    have HS:=O (zhI ve);obtain⟨a,rfl,q0,q1⟩:=(HU.o.at_.keep hB.o) k _ (List.getElem?_eq_getElem ve);have hok:=HU.o.ok _ (List.getElem_mem ve);have K1:=O (KW.o ups[k] hok);have K2:=O (KC.o k hk ups[k]);generalize ups[k]=p at *;go_wp2_with fail;have B1:=bh hB (zb wr (.cells #[.string p.1,.string p.2] 36));have V1:=O (hV.o.keep (zb wr (.cells #[.string p.1,.string p.2] 36)));have P1:=O (ot wr (.string p.1) (.string p.2) 36);obtain⟨w1,WF⟩:∃w1,wr.alloc (.cells #[.string p.1,.string p.2] 36)=w1:=⟨_,rfl⟩
    rw [WF] at V1 B1 P1 ⊢;clear WF hB hV c0 c1 c2 c3 q0 q1;refine(K1.o w1).mono ?_;rintro e w2 ⟨rfl,b2⟩;have B2:=bh B1 b2;have V2:=O (V1.o.keep b2);have P2:=O (P1.o.keep b2);clear K1 b2 B1 V1 P1;by_cases hu:jd (p.1,p.2)=0
    ·have hu':jd p=0:=hu;rw [hu,zm];rw [if_pos hu'] at HS;clear hu hu';have k2:=cell_regrown V2.o.c2;have v0:=cell_regrown P2.o.c0;have v1:=cell_regrown P2.o.c1;have KK:=rq (w:=w2) (λw' hb=>K2.o w' (B2.o.trans (hb.mono B2.o.size)));dsimp only at k2;go_wp2_with fail;refine wp_region_quiet_below (by kernel_rfl) (by kernel_rfl) ?_
     repeat (first|go_big_quiet_step (exact KK _ _)|quiet_step (exact KK _ _))
     refine wpQuiet_nil ?_;intro w3 hw';have b3:=O (show Below w2.heap.size w2 w3 by obtain⟨⟨d,os⟩,rfl⟩:=hw';exact below_regrown _ _ _);clear hw';have B3:=bh B2 b3.o;have V3:=O (V2.o.keep b3.o);clear k2 v0 v1 KK b3 B2 V2 P2 K2;rcases hh:CO (ups.take k) p with _|_
     ·rw [hh,if_neg (by decide)] at HS;have HF:=O (hF.o.trans HS.o);clear hh HS hF;go_wp2_with fail;go_roundw
      case rel=>exact⟨k+1,by omega,by go_num,HF,B3,V3⟩
      case measure=>simp [intOf];omega
     ·rw [hh,if_pos rfl] at HS;have HF:=O (hF.o.trans HS.o);have Kq:=O (show EF=6 by rw [HE.o,HF.o];rfl);clear hh HS hF;go_wp2_with fail;go_ret;exact⟨by rw [Kq.o];rfl,B3.o⟩
    ·have hu':jd p≠0:=hu;rw [if_neg hu'] at HS;have Kq:=O (show EF=jd (p.1,p.2) by rw [HE.o,hF.o,HS.o,if_neg hu']);rw [zy hu];have ZG:=O hu;clear hu hu' HS hF;generalize jd (p.1,p.2)=f at *;go_wp2_with fail;go_ret;exact⟨by rw [Kq.o,zy ZG.o];rfl,B2.o⟩
   ·have HF:=O (show Ge [] ups=0 by rw [hF.o,List.drop_of_length_le (by rw [<-HL.o];omega)];rfl);have Kq:=O (show EF=if zc P=0 then(if zf P=6 then 0 else 2) else zc P by rw [HE.o,if_pos HF.o]);have K3:=O (λw' hb=>KV.o w' hb);clear hF;go_wp2_with fail;refine(K3.o wr hB.o).mono ?_;rintro e w2 ⟨rfl,b2⟩;have B2:=bh hB b2;have V2:=O (hV.o.keep b2);clear hB hV c0 c1 c2 c3 b2;by_cases hv:zc P=0
    ·have hpos:=(zH.1 hv).2.pos;obtain⟨a,rfl,D⟩:=(HN.o.at_.keep B2.o).nd hpos;rw [show a.add (0*4)=a from rfl] at D;have hop:zf P=P[0].op:=bW hpos;have hn0:0<nn:=by rw [HN.o.len];exact hpos
     rw [hv,zm];rw [if_pos hv,hop] at Kq;obtain⟨d0,-,-,-⟩:=D;obtain⟨op,ho⟩:∃op,op=P[0].op:=⟨_,rfl⟩
     rw [<-ho] at d0 Kq;have e3:=V2.o.c3;dsimp only at e3;clear hv hop ho;by_cases h6o:op=6
     ·rw [if_pos h6o] at Kq;subst h6o;go_wp2_with fail;go_ret;exact⟨by rw [Kq.o];rfl,B2.o⟩
     ·rw [if_neg h6o] at Kq;have h6i:(op != 6)=true:=by simp;exact h6o
      clear h6o;go_wp2_with fail;go_ret;exact⟨by rw [Kq.o];rfl,B2.o⟩
    ·rw [if_neg hv] at Kq;rw [zy hv];have hvn:=O hv;clear hv;generalize zc P=f at *;go_wp2_with fail;go_ret;exact⟨by rw [Kq.o,zy hvn.o];rfl,B2.o⟩
end Go.Proofs.YtokiogmfgpidmaaGreatDoor
namespace Go.Proofs.YtokiogmfgpidmaaGreatDoor
open Go.RowKit Go.Wk Go.Maps
def udV(u:Ud):Value := .agg #[.string u.1,.string u.2]
def UOk(u:Ud):Prop:=u.1.size<=maxLen/\u.2.size<=maxLen
def Ka(u:Ud):Lit := .string (keyBytes [.string u.1.data.toList,.string u.2.data.toList])
theorem s5:Keyed Tryz.prog 36 :=
 Keyed.of_law (deep_law_laid zeD (m:=4) (by decide) (of_decide_eq_true (by kernel_rfl)) (by kernel_rfl) (by kernel_rfl))
theorem zdA(D:Nat)(u:Ud)(h:UOk u):Tryz.prog.keyLits (D+2) 36 (udV u).cells.toList=some [.string u.1.data.toList,.string u.2.data.toList]:=by
 obtain⟨h1,h2⟩:=h;simp [udV,Value.cells,Program.keyLits,Tryz.underlying36,Tryz.underlying9,W6,MO,h1,h2]
theorem zgV:0<Tryz.prog.types.size:=of_decide_eq_true (by kernel_rfl)
theorem IA(u:Ud)(h:UOk u):keyOf Tryz.prog 36 (udV u)=some (Ka u):=by
 have hk:Tryz.prog.keyType 36=true:=by kernel_rfl
 have hf:(udV u).formed Tryz.prog 36=true:=by
  unfold udV Value.formed;rw [Tryz.underlying36,W6];rfl
 obtain⟨D,hD⟩:∃D,Tryz.prog.types.size+1=D+2:=⟨Tryz.prog.types.size-1,by have:=zgV;omega⟩
 unfold keyOf;rw [Tryz.underlying36,hk,hf,hD,zdA D u h];rfl
theorem zaT{u v:Ud}(hu:UOk u)(hv:UOk v)(h:Ka u=Ka v):u=v:=by
 have:=s5.inj (IA u hu) (h ▸ IA v hv);unfold udV at this;injection this with this;have h1:=congrArg (λa:Array Value=>a.toList) this;simp only [List.cons.injEq,Value.string.injEq,and_true] at h1;exact Prod.ext h1.1 h1.2
theorem zak(u:Ud):WideAt.IsKeyLit (Ka u):=trivial
def IU(L:List (Ud × Value)):DataW Value:=L.foldl (λD p=>D.put (Ka p.1) (.held p.2)) (.map [])
theorem Md(L:List (Ud × Value))(p:Ud × Value):IU (L ++ [p])=(IU L).put (Ka p.1) (.held p.2):=by simp [IU]
theorem Ue(L:List (Ud × Value)):IsMap (IU L):=by
 refine Mh (C:=λL=>IsMap (IU L)) isMap_empty (λL p ih=>?_) L;rw [Md];exact ih.put _ _
def Ld:List (Ud × Value)->Ud->Option Value
 | [],_=>none
 | x :: r,p=>match Ld r p with
  | some v=>some v
  | none=>if x.1=p then some x.2 else none
theorem zda(L:List (Ud × Value))(x:Ud × Value)(p:Ud):Ld (L ++ [x]) p=if x.1=p then some x.2 else Ld L p:=by
 induction L with
 | nil=>rfl
 | cons y r ih =>
  simp only [List.cons_append,Ld,ih]
  by_cases h:x.1=p
  ·rw [if_pos h,if_pos h]
  ·rw [if_neg h,if_neg h]
theorem P6(L:List (Ud × Value))(p:Ud)(hp:UOk p)(z:Value)(hL:∀x∈L,UOk x.1):(IU L).atKey (Ka p) (.held z)= .held ((Ld L p).getD z):=by
 revert hL;refine Mh (C:=λL=>(∀x∈L,UOk x.1)->(IU L).atKey (Ka p) (.held z)= .held ((Ld L p).getD z)) (λ_=>rfl) (λL x ih hL=>?_) L;rw [Md,zda];by_cases h:x.1=p
 ·subst h;rw [if_pos rfl,atKey_put_same (Ue L) (zak _)];rfl
 ·rw [if_neg h,atKey_put_other (λe=>h (zaT (hL x (by simp)) hp e.symm))];exact ih (λy hy=>hL y (by simp [hy]))
theorem UO{L:List (Ud × Value)}{p:Ud}(h:∀x∈L,x.1≠p):Ld L p=none:=by
 induction L with
 | nil=>rfl
 | cons y r ih=>simp only [Ld];rw [ih (λx hx=>h x (by simp [hx]))];exact if_neg (h y (by simp))
theorem zdi{L:List (Ud × Value)}(hn:(L.map (·.1)).Nodup){x:Ud × Value}(hx:x∈L):Ld L x.1=some x.2:=by
 induction L with
 | nil=>cases hx
 | cons y r ih =>
  rw [List.map_cons,List.nodup_cons] at hn
  simp only [Ld]
  rcases List.mem_cons.1 hx with rfl|hx
  ·rw [UO (λz hz e=>hn.1 (List.mem_map.2 ⟨z,hz,e⟩))];exact if_pos rfl
  ·rw [ih hn.2 hx]
theorem Wu{H:Type}{P:Program}{k:TypeId}{R:Value->Option (DataW H × List MemPlace)}{w w':World}{b n:Nat}{D:DataW H}(h:w.ownsMap P k R b n D)(hb:w'.heap[b]?=w.heap[b]?):w'.ownsMap P k R b n D :=
 let ⟨es,clock,h1,r⟩:=h
 ⟨es,clock,hb.trans h1,r⟩
theorem ee{P:Program}(w:World){ops:Array Oper}{rest:List Oper}{o:Oper}{a:Act}{Q:Exit->Act->World->Prop}
 (hg:o.guard=none) (m x:Operand) (t:TypeId) (hop:o.op=Op.lookup t m x false)
 (k e:TypeId) (K:Keyed P k) (ht:P.underlying t=some (.map k e)) {z:Value} (hz:(zeroValue e).run P w = .ok z w) (b n:Nat) (D:DataW Value)
 (hm:a.eval m = .map (some b)) (hown:w.ownsMap P k FB b n D) (key:Value) (kl:Lit) (hx:a.eval x=key) (hkey:keyOf P k key=some kl) (u:Value) (hu:D.atKey kl (.held z)= .held u)
 (hK:wpList P ops Q rest (a.put o.dst u) w):
 wpList P ops Q (o :: rest) a w:=by
 refine wpList_plain hg λK' hK'=>?_;obtain⟨v,ps,hrun,hv⟩:=hown.lookup K ht hz (zd := .held z) (zp := []) rfl hkey;have:v=u:=by
  unfold FB at hv;rw [hu] at hv;simp at hv;exact hv.1
 subst this;unfold Oper.wp;simp [execOp,hop,hm,hx,hrun,Result.andThen];exact hK' _ _ hK
def zet(w:World)(A:Option Addr)(E:List En):Prop:=∀(k:Nat) (x:En),E[k]?=some x->∃a,A=some a/\
 w.cell? (a.add (k*4))=some (.string x.u.1)/\w.cell? ⟨(a.add (k*4)).block,(a.add (k*4)).off+1,none⟩=some (.string x.u.2)/\
 w.cell? ⟨(a.add (k*4)).block,(a.add (k*4)).off+2,none⟩=some (.slice x.UA x.un x.uc)/\w.cell? ⟨(a.add (k*4)).block,(a.add (k*4)).off+3,none⟩=some (.slice x.NA x.nn x.nc)/\zfF w x
theorem zet.keep{w w':World}{A:Option Addr}{E:List En}(h:zet w A E)(hb:Below w.heap.size w w'):zet w' A E :=
 λk x hx=>let ⟨a,h1,h2,h3,h4,h5,h6⟩:=h k x hx;⟨a,h1,za hb h2,za hb h3,za hb h4,za hb h5,h6.keep hb⟩
structure Es(w:World)(A:Option Addr)(n c:Nat)(E:List En):Prop where
 len:n=E.length
 cap:n<=c
 max:n<=maxLen
 at_:zet w A E
theorem Es.keep{w w':World}{A:Option Addr}{n c:Nat}{E:List En}(h:Es w A n c E)(hb:Below w.heap.size w w'):Es w' A n c E:=⟨h.len,h.cap,h.max,h.at_.keep hb⟩
theorem Es.uok{w:World}{A:Option Addr}{n c:Nat}{E:List En}(h:Es w A n c E):∀x∈E,UOk x.u:=λx hx=>by
 obtain⟨k,hk,rfl⟩:=List.getElem_of_mem hx;obtain⟨_,_,_,_,_,_,h6⟩:=h.at_ k _ (List.getElem?_eq_getElem hk);exact⟨h6.t,h6.i⟩
def CN(E:List En):List (Ud × Value):=E.map λx=>(x.u,x.v)
theorem Z5{E:List En}(h:∀x∈E,UOk x.u):∀y∈CN E,UOk y.1:=λy hy=>by
 obtain⟨x,hx,rfl⟩:=List.mem_map.1 hy;exact h x hx
def zmB:Value := .agg #[.string ⟨#[]⟩,.string ⟨#[]⟩,.slice none 0 0,.slice none 0 0]
theorem zhO(w:World):(zeroValue 96).run Tryz.prog w = .ok zmB w:=by kernel_rfl
theorem zd8{E:List En}{k:Nat}(h:k<E.length):CN (E.take (k+1))=CN (E.take k)++ [(E[k].u,E[k].v)]:=by
 unfold CN;rw [List.take_succ_eq_append_getElem h,List.map_append];rfl
theorem TO(A:Option Addr)(n c:Nat)(E:List En)(w:World)(h:Es w A n c E)(hn:n<=1000000):
 Calls Tryz.prog 53 #[.slice A n c] w λe w'=>∃b,e = .returned (.map (some b))/\w.heap.size<=b/\w'.ownsMap Tryz.prog 36 FB b n (IU (CN E))/\Below w.heap.size w w':=by
 have hmm:=@run_makeMap Tryz.prog;have HE:=O h.at_;have HL:=O h.len;have HUO:=O h.uok;clear h;go_enter Tryz.func53,Tryz.ntmps53;go_wp2_with fail;go_loopw [5,9] (λ_ i wr=>∃k:Nat,k<=n/\i = .int .i64 k/\Hid (wr.ownsMap Tryz.prog 36 FB w.heap.size k (IU (CN (E.take k))))/\Hid (Below w.heap.size w wr)) (λ_ i _=>n-(intOf i).toNat)
 case atStart=>exact⟨0,Nat.zero_le _,rfl,O (World.ownsMap_made _ _ _ _),O ((Below.refl _ _).alloc (Nat.le_refl _) _)⟩
 case round =>
  obtain⟨k,hk,rfl,hO,hB⟩:=hrel;by_cases hlt:k<n
  ·have ve:k<E.length:=by rw [<-HL.o];exact hlt
   obtain⟨a,rfl,q0,q1,q2,q3,-⟩:=(HE.o.keep hB.o) k _ (List.getElem?_eq_getElem ve);have HK:=O (IA E[k].u (HUO.o _ (List.getElem_mem ve)));have HP:=O (zd8 ve);generalize E[k]=x at *;have O1:=O (t8 hO.o (zb wr (.cells #[.string x.u.1,.string x.u.2,.slice x.UA x.un x.uc,.slice x.NA x.nn x.nc] 96)));have B1:=bh hB (zb wr (.cells #[.string x.u.1,.string x.u.2,.slice x.UA x.un x.uc,.slice x.NA x.nn x.nc] 96));go_wp2_with (at_mapUpdate;refine wpList_mapUpdate_own _ rfl _ _ _ 103 rfl 36 96 s5 Tryz.underlying103 FB w.heap.size k _ rfl O1.o (by unfold maxLen;omega) _ _ _ rfl rfl HK.o _ [] rfl ?_);intro w4 hown hgrow;have O4:=O (show w4.ownsMap Tryz.prog 36 FB w.heap.size (k+1) (IU (CN (E.take (k+1)))) by
    rw [HP.o,Md];exact hown)
   have B4:=O (B1.o.grown hgrow B1.o.size (λg hg=>by cases hg;exact Nat.le_refl _));clear hown hgrow O1 B1 hO hB q0 q1 q2 q3;go_wp2_with fail;go_roundw
   case rel=>exact⟨k+1,by omega,by go_num,O4,B4⟩
   case measure=>simp [intOf];omega
  ·have HP:=O (show CN E=CN (E.take k) by rw [List.take_of_length_le (by rw [<-HL.o];omega)]);have hkn:k=n:=by omega
   subst hkn;go_wp2_with fail;go_ret;exact⟨w.heap.size,rfl,Nat.le_refl _,by rw [HP.o];exact hO.o,hB.o⟩
end Go.Proofs.YtokiogmfgpidmaaGreatDoor
namespace Go.Proofs.YtokiogmfgpidmaaGreatDoor
open Go.RowKit Go.Wk
theorem zcM(x e:En)(b:Nat)(w:World)(hv:Vr4 w b e):
 Calls Tryz.prog 51 #[x.v,.pointer (some ⟨b,0,none⟩)] w λr w'=>r = .returned (.bool (decide (x.u=e.u)))/\Below w.heap.size w w':=by
 have B0:=O (zb w (.cells #[.string x.u.1,.string x.u.2,.slice x.UA x.un x.uc,.slice x.NA x.nn x.nc] 96));obtain⟨e0,e1,-,-⟩:=hv.keep B0.o;clear hv;have HD:=O (show decide (x.u=e.u)=(x.u.1.toList==e.u.1.toList && x.u.2.toList==e.u.2.toList) by
  by_cases he:x.u=e.u
  ·rw [he];simp
  ·rcases MX he with h1|⟨h1,h2⟩
   ·rw [decide_eq_false he,h1];rfl
   ·rw [decide_eq_false he,h1,h2];rfl)
 obtain⟨d,hd⟩:∃d,d=decide (x.u=e.u):=⟨_,rfl⟩
 rw [<-hd] at HD ⊢;clear hd;unfold En.v;obtain⟨⟨p1,p2⟩,UA,un,uc,ups,NA,nn,nc,P⟩:=x;generalize e.u=q at *;dsimp only at *;rcases h1:(p1.toList==q.1.toList) with _|_
 ·rw [h1] at HD;go_enter Tryz.func51,Tryz.ntmps51;go_wp2_with fail;go_ret;exact⟨by rw [HD.o];rfl,B0.o⟩
 ·rcases h2:(p2.toList==q.2.toList) with _|_
  ·rw [h1,h2] at HD;go_enter Tryz.func51,Tryz.ntmps51;go_wp2_with fail;go_ret;exact⟨by rw [HD.o];rfl,B0.o⟩
  ·rw [h1,h2] at HD;go_enter Tryz.func51,Tryz.ntmps51;go_wp2_with fail;go_ret;exact⟨by rw [HD.o];rfl,B0.o⟩
def OM(E:List En)(u:Ud):Bool:=E.any λx=>decide (x.u=u)
theorem zbg{E:List En}{u:Ud}:OM E u=true↔∃x∈E,x.u=u:=by simp [OM]
theorem zfE{E:List En}{k:Nat}(h:k<E.length)(u:Ud):OM (E.take (k+1)) u=(OM (E.take k) u || decide (E[k].u=u)):=by
 unfold OM;rw [List.take_succ_eq_append_getElem h,List.any_append];simp
theorem Es.take{w:World}{A:Option Addr}{n c k:Nat}{E:List En}(h:Es w A n c E)(hk:k<=n):Es w A k c (E.take k):=
 ⟨by rw [List.length_take,<-h.len];omega,Nat.le_trans hk h.cap,Nat.le_trans hk h.max,λj x hx=>by
  rw [List.getElem?_take] at hx
  split at hx
  ·exact h.at_ j x hx
  ·cases hx⟩
theorem VA(A:Option Addr)(n c:Nat)(E:List En)(e:En)(b:Nat)(w:World)(h:Es w A n c E)(hv:Vr4 w b e):
 Calls Tryz.prog 91 #[.slice A n c,.func (.func 51) #[] #[.pointer (some ⟨b,0,none⟩)]] w
  λr w'=>(∃k:Int,r = .returned (.int .i64 k)/\(0<=k↔OM E e.u=true))/\Below w.heap.size w w':=by
 have eg:∀args w,(callFunc 51 args).run Tryz.prog w = .ok (.enter 51 args) w:=enters_of Tryz.func51 (by kernel_rfl) rfl;have K:=O (λx w' hb=>zcM x e b w' (hv.keep (w':=w') hb));have HL:=O h.len;have HM:=h.max;unfold maxLen at HM;have HA:=O (h.at_);clear h hv;generalize e.u=u at *;go_enter Tryz.func91,Tryz.ntmps91;go_wp2_with fail;go_loopw [5,8] (λ_ i wr=>∃k:Nat,k<=n/\i = .int .i64 k/\Hid (OM (E.take k) u=false)/\Hid (Below w.heap.size w wr)) (λ_ i _=>n-(intOf i).toNat)
 case atStart=>exact⟨0,Nat.zero_le _,rfl,rfl,O (Below.refl _ _)⟩
 case round =>
  obtain⟨k,hk,rfl,hN,hB⟩:=hrel;by_cases hlt:k<n
  ·have ve:k<E.length:=by rw [<-HL.o];exact hlt
   have HT:=O (zfE ve u);obtain⟨a,rfl,q0,q1,q2,q3,-⟩:=(HA.o.keep hB.o) k _ (List.getElem?_eq_getElem ve);have KX:=O (K.o E[k] wr hB.o);have HY:=O (show decide (E[k].u=u)=true->OM E u=true from λhe=>zbg.2 ⟨_,List.getElem_mem ve,of_decide_eq_true he⟩);generalize E[k]=x at *;unfold En.v at KX;rcases hd:decide (x.u=u) with _|_
   ·rw [hd,Bool.or_false,hN.o] at HT;rw [hd] at KX;clear hd;go_wp2_with (go_at_fn 51;refine KX.o.mono ?_;rintro e w1 ⟨rfl,b1⟩);have B1:=bh hB b1;clear q0 q1 q2 q3 hB b1 KX;go_wp2_with fail;go_roundw
    case rel=>exact⟨k+1,by omega,by go_num,HT,B1⟩
    case measure=>simp [intOf];omega
   ·rw [hd] at KX;have HZ:=O (HY.o hd);clear hd HT;go_wp2_with (go_at_fn 51;refine KX.o.mono ?_;rintro e w1 ⟨rfl,b1⟩);have B1:=bh hB b1;clear q0 q1 q2 q3 hB b1 KX;go_wp2_with fail;go_ret;exact⟨⟨k,rfl,by rw [HZ.o];simp⟩,B1.o⟩
  ·have HN:=O (show OM E u=false by rw [<-hN.o,List.take_of_length_le (by rw [<-HL.o];omega)]);go_wp2_with fail;go_ret;exact⟨⟨-1,rfl,by rw [HN.o];simp⟩,hB.o⟩
theorem PZ(A:Option Addr)(n c:Nat)(E:List En)(e:En)(b:Nat)(w:World)(h:Es w A n c E)(hv:Vr4 w b e):
 Calls Tryz.prog 50 #[.slice A n c,.func (.func 51) #[] #[.pointer (some ⟨b,0,none⟩)]] w
  λr w'=>r = .returned (.bool (OM E e.u))/\Below w.heap.size w w':=by
 have K:=O (VA A n c E e b w h hv);clear h hv;go_enter Tryz.func50,Tryz.ntmps50;go_wp2_with fail;refine K.o.mono ?_;rintro r w1 ⟨⟨k,rfl,hk⟩,b1⟩;have B1:=O b1;have HK:=O (show decide (0<=k)=OM E e.u by
  rcases hu:OM E e.u with _|_
  ·exact decide_eq_false (λh=>by have:=hk.1 h;rw [hu] at this;cases this)
  ·exact decide_eq_true (hk.2 hu))
 clear hk b1;go_wp2_with fail;go_ret;exact⟨by rw [<-HK.o];rfl,B1.o⟩
end Go.Proofs.YtokiogmfgpidmaaGreatDoor
namespace Go.Wk
def Ml(K M:List Ud):Nat:=(K.filter λp => !CO M p).length
theorem ZZ(K M:List Ud):Ml K M<=K.length:=List.length_filter_le _ _
theorem TI{K M M':List Ud}(h:∀x∈M,x∈M'):Ml K M'<=Ml K M:=by
 induction K with
 | nil=>exact Nat.le_refl _
 | cons x K ih =>
  unfold Ml at ih ⊢
  simp only [List.filter_cons]
  by_cases h1:CO M x=true
  ·rw [i8.2 (h x (i8.1 h1)),h1];simpa using ih
  ·have XC:CO M x=false:=by simpa using h1
   rw [XC];by_cases h2:CO M' x=true
   ·rw [h2];simp;omega
   ·have h2':CO M' x=false:=by simpa using h2
    rw [h2'];simp;omega
theorem zdf{K M:List Ud}{p:Ud}(hp:p∈K)(hn:p ∉ M):Ml K (M ++ [p])<Ml K M:=by
 induction K with
 | nil=>cases hp
 | cons x K ih =>
  have hle:=TI (K:=K) (M:=M) (M':=M ++ [p]) (λy hy=>List.mem_append_left _ hy)
  unfold Ml at ih hle ⊢
  simp only [List.filter_cons]
  by_cases hx:x=p
  ·subst hx
   have h1:CO M x=false:=zjO.2 hn;have h2:CO (M ++ [x]) x=true:=i8.2 (by simp);rw [h1,h2];simp;omega
  ·have hpk:p∈K:=by
    rcases List.mem_cons.1 hp with h|h
    ·exact absurd h.symm hx
    ·exact h
   have:=ih hpk;have e:CO (M ++ [p]) x=CO M x:=by
    rw [Bool.eq_iff_iff,i8,i8,List.mem_append];constructor
    ·rintro (h|h)
     ·exact h
     ·simp only [List.mem_cons,List.not_mem_nil,or_false] at h;exact absurd h hx
    ·exact λh => .inl h
   rw [e];by_cases h1:CO M x=true
   ·rw [h1];simpa using this
   ·have XC:CO M x=false:=by simpa using h1
    rw [XC];simp;omega
structure znT(G:List (Ud × List Ud))(u:Ud)(M M':List Ud):Prop where
 sub:∀x∈M,x∈M'
 sound:∀x∈M',x∈M\/Abv G u x
 here:∀p,Stp G u p->p∈M'
 shut:∀x∈M',x ∉ M->∀p,Stp G x p->p∈M'
theorem zjq{G:List (Ud × List Ud)}{u:Ud}{M':List Ud}(h:znT G u [] M')(x:Ud):x∈M'↔Abv G u x :=
 ⟨λhx=>(h.sound x hx).resolve_left (by simp),Ub (C:=λy=>y∈M') (λy hy p hp=>h.shut y hy (by simp) p hp) h.here x⟩
theorem zgh{G:List (Ud × List Ud)}{a:Ud}{M':List Ud}(h:znT G a [a] M')(x:Ud):x∈M'↔x=a\/Abv G a x:=by
 constructor
 ·intro hx;rcases h.sound x hx with h1|h1
  ·simp only [List.mem_cons,List.not_mem_nil,or_false] at h1;exact .inl h1
  ·exact .inr h1
 ·rintro (rfl|h1)
  ·exact h.sub _ (by simp)
  ·exact Ub (C:=λy=>y∈M') (λy hy p hp=>by
    by_cases e:y=a
    ·subst e;exact h.here p hp
    ·exact h.shut y hy (by simpa using e) p hp) h.here x h1
end Go.Wk
namespace Go.Proofs.YtokiogmfgpidmaaGreatDoor
open Go.RowKit Go.Wk Go.Maps
theorem Us.but0{w w':World}{A:Option Addr}{n c:Nat}{P:List Ud}{g:Option Nat}(h:Us w A n c P)(hg:w.grownBy w' g)(hR:0<P.length->∀a,A=some a->g≠some a.block):Us w' A n c P:=by
 rcases Nat.eq_zero_or_pos P.length with h0|h0
 ·have:P = []:=List.eq_nil_of_length_eq_zero h0;subst this;exact⟨h.len,h.cap,h.max,λk x hx=>by simp at hx,h.ok⟩
 ·exact h.but hg (hR h0)
structure Mx(w:World)(bs bm:Nat)(E:List En):Prop where
 map:w.ownsMap Tryz.prog 36 FB bs E.length (IU (CN E))
 ne:bs≠bm
 ups:∀x∈E,Us w x.UA x.un x.uc x.ups
 ap:∀x∈E,0<x.ups.length->∀a,x.UA=some a->some bm≠some a.block
theorem Mx.grown{w w':World}{bs bm:Nat}{E:List En}(h:Mx w bs bm E)(hg:w.grownBy w' (some bm)):Mx w' bs bm E :=
 ⟨Wu h.map (hg.block bs h.map.lt (λe=>h.ne (by injection e))),h.ne,λx hx=>(h.ups x hx).but0 hg (h.ap x hx),h.ap⟩
def Ww(M:List Ud):List (Ud × Value):=M.map λp=>(p,.int .i64 1)
def Nh(w:World)(bm:Nat)(M:List Ud):Prop:=w.ownsMap Tryz.prog 36 FB bm M.length (IU (Ww M))
theorem QS(M:List Ud)(p:Ud):Ld (Ww M) p=if CO M p=true then some (.int .i64 1) else none:=by
 induction M with
 | nil=>rfl
 | cons x r ih =>
  have:CO (x :: r) p=(decide (x=p)|| CO r p):=rfl
  simp only [Ww,List.map_cons,Ld]
  have ih':Ld (List.map (λp=>(p,Value.int .i64 1)) r) p=if CO r p=true then some (.int .i64 1) else none:=ih
  rw [ih',this]
  by_cases h1:CO r p=true
  ·rw [h1];simp
  ·have XC:CO r p=false:=by simpa using h1
   rw [XC];by_cases h2:x=p
   ·simp [h2]
   ·simp [h2]
theorem Zt{M:List Ud}(h:∀x∈M,UOk x):∀y∈Ww M,UOk y.1:=λy hy=>by
 obtain⟨x,hx,rfl⟩:=List.mem_map.1 hy;exact h x hx
def jn(E:List En):List (Ud × List Ud):=E.map λx=>(x.u,x.ups)
def vY(E:List En):List Ud:=E.flatMap λx=>x.ups
theorem zdo{w:World}{bs bm:Nat}{E:List En}(h:Mx w bs bm E)(hn:(E.map En.u).Nodup)(hok:∀x∈E,UOk x.u)(u:Ud)(hu:UOk u):
 ∃(ty id:ByteArray) (UA:Option Addr) (un uc:Nat) (ups:List Ud) (NA:Option Addr) (nn nc:Nat),
  (IU (CN E)).atKey (Ka u) (.held zmB)= .held (.agg #[.string ty,.string id,.slice UA un uc,.slice NA nn nc])/\Us w UA un uc ups/\
  (0<ups.length->∀a,UA=some a->some bm≠some a.block)/\(∀p,Stp (jn E) u p↔p∈ups)/\∀p∈ups,p∈vY E:=by
 by_cases hx:∃x∈E,x.u=u
 ·obtain⟨x,hx,rfl⟩:=hx;refine⟨x.u.1,x.u.2,x.UA,x.un,x.uc,x.ups,x.NA,x.nn,x.nc,?_,h.ups x hx,h.ap x hx,λp=>⟨?_,λhp=>⟨(x.u,x.ups),List.mem_map.2 ⟨x,hx,rfl⟩,rfl,hp⟩⟩,λp hp=>List.mem_flatMap.2 ⟨x,hx,hp⟩⟩
  ·rw [P6 _ _ (hok x hx) _ (Z5 hok)];have:Ld (CN E) x.u=some x.v:=zdi (x:=(x.u,x.v)) (by rw [CN,List.map_map];exact hn) (List.mem_map.2 ⟨x,hx,rfl⟩);rw [this];rfl
  ·rintro ⟨e,he,h1,h2⟩;obtain⟨y,hy,rfl⟩:=List.mem_map.1 he;have:y=x:=by
    obtain⟨i,hi,rfl⟩:=List.getElem_of_mem hy;obtain⟨j,hj,rfl⟩:=List.getElem_of_mem hx;have hp:=List.pairwise_iff_getElem.1 hn;rcases Nat.lt_trichotomy i j with hlt|he|hlt
    ·have q:=hp i j (by simpa using hi) (by simpa using hj) hlt;rw [List.getElem_map,List.getElem_map] at q;exact absurd h1 q
    ·subst he;rfl
    ·have q:=hp j i (by simpa using hj) (by simpa using hi) hlt;rw [List.getElem_map,List.getElem_map] at q;exact absurd h1.symm q
   subst this;exact h2
 ·refine⟨⟨#[]⟩,⟨#[]⟩,none,0,0,[],none,0,0,?_,⟨rfl,Nat.le_refl _,Nat.zero_le _,λk x hx=>by simp at hx,λx hx=>by cases hx⟩,λh=>absurd h (by simp),λp=>⟨?_,λh=>by cases h⟩,λp hp=>by cases hp⟩
  ·rw [P6 _ _ hu _ (Z5 hok),UO]
   ·rfl
   ·intro y hy e;obtain⟨z,hz,rfl⟩:=List.mem_map.1 hy;exact hx ⟨z,hz,e⟩
  ·rintro ⟨e,he,h1,h2⟩;obtain⟨y,hy,rfl⟩:=List.mem_map.1 he;exact absurd ⟨y,hy,h1⟩ hx
structure Mid(E:List En)(u:Ud)(ups M Mk:List Ud)(k:Nat)(w wr:World)(bm:Nat):Prop where
 sub:∀x∈M,x∈Mk
 sound:∀x∈Mk,x∈M\/Abv (jn E) u x
 here:∀p∈ups.take k,p∈Mk
 shut:∀x∈Mk,x ∉ M->∀p,Stp (jn E) x p->p∈Mk
 ok:∀x∈Mk,UOk x
 cnt:Mk.length+Ml (vY E) Mk<=M.length+Ml (vY E) M
 met:Nh wr bm Mk
 grow:w.grownBy wr (some bm)
def zlB(E:List En)(u:Ud)(M:List Ud)(w:World)(bm:Nat)(e:Ending)(w':World):Prop :=
 e = .returned (.tuple #[])/\∃M',znT (jn E) u M M'/\(∀x∈M',UOk x)/\M'.length+Ml (vY E) M'<=M.length+Ml (vY E) M/\Nh w' bm M'/\w.grownBy w' (some bm)
theorem zh1(x y:Value)(A B:Option Addr)(n c m d:Nat)(w:World):(Instr.field 96 (.agg #[x,y,.slice A n c,.slice B m d]) 1).run Tryz.prog w = .ok (.slice A n c) w:=by kernel_rfl
theorem Mo(w:World):(zeroValue 3).run Tryz.prog w = .ok (.int .i64 0) w:=by kernel_rfl
theorem Xy(E:List En)(bs bm:Nat)(hn:(E.map En.u).Nodup)(hok:∀x∈E,UOk x.u):∀(m:Nat) (w:World) (u:Ud) (M:List Ud),UOk u->(∀x∈M,UOk x)->Ml (vY E) M<m->M.length+Ml (vY E) M<=1000000->
 Mx w bs bm E->Nh w bm M->Calls Tryz.prog 54 #[.map (some bs),udV u,.map (some bm)] w (zlB E u M w bm):=by
 intro m
 induction m with
 | zero=>intro w u M _ _ h;omega
 | succ m ih =>
  intro w u M hu hM hm hc hS hMet
  obtain⟨ty,id,UA,un,uc,ups,NA,nn,nc,hat,ZI,hap,hstp,hin⟩:=zdo hS hn hok u hu
  have HS:=O hS
  have HMet:=O hMet
  have HAT:=O hat
  have HUS:=O ZI
  have HK:=O (IA u hu)
  have HSTP:=O hstp
  have HIN:=O hin
  have HAP:=O hap
  have HUL:=O ZI.len
  have zoG:=ZI.max
  unfold maxLen at zoG
  clear hS hMet hat ZI hstp hin hap
  unfold udV at HK ⊢
  have G0:=O (World.grownBy_alloc w (.cells #[.string u.1,.string u.2] 36) (some bm))
  have S0:=O (HS.o.grown G0.o)
  have M0:=O (show Nh _ bm M from t8 HMet.o (zb w (.cells #[.string u.1,.string u.2] 36)))
  have U0:=O (HUS.o.keep (zb w (.cells #[.string u.1,.string u.2] 36)))
  clear HS HMet HUS
  go_enter Tryz.func54,Tryz.ntmps54
  go_wp2_with (at_lookup;refine ee _ rfl _ _ 103 rfl 36 96 s5 Tryz.underlying103 (zhO _) bs E.length _ rfl S0.o.map _ _ rfl HK.o _ HAT.o ?_)
  obtain⟨w0,hw0⟩:∃w0,w.alloc (.cells #[.string u.1,.string u.2] 36)=w0:=⟨_,rfl⟩
  rw [hw0] at G0 S0 M0 U0 ⊢
  clear hw0 HK HAT
  have hfu:=zh1 (.string ty) (.string id) UA NA un uc nn nc
  go_wp2_with fail
  rw [hfu]
  clear hfu
  go_wp2_with fail
  go_loopw [7,13] (λ_ i wr=>∃(k:Nat) (Mk:List Ud),k<=un/\i = .int .i64 k/\Hid (Mid E u ups M Mk k w0 wr bm)) (λ_ i _=>un-(intOf i).toNat)
  case atStart=>exact⟨0,M,Nat.zero_le _,rfl,⟨λ_ h=>h,λ_ h => .inl h,λp h=>by simp at h,λx h h2=>absurd h h2,hM,Nat.le_refl _,M0.o,⟨rfl,rfl,rfl,Nat.le_refl _,λ_ _ _=>rfl⟩⟩⟩
  case round =>
   obtain⟨k,Mk,hk,rfl,IJ⟩:=hrel;by_cases hlt:k<un
   ·have ve:k<ups.length:=by rw [<-HUL.o];exact hlt
    have SR:=O (S0.o.grown IJ.o.grow);have UR:=O (U0.o.but0 IJ.o.grow HAP.o);obtain⟨a,rfl,q0,q1⟩:=UR.o.at_ k _ (List.getElem?_eq_getElem ve);have hpk:=HIN.o _ (List.getElem_mem ve);have hps:=(HSTP.o _).2 (List.getElem_mem ve);have hpo:UOk ups[k]:=UR.o.ok _ (List.getElem_mem ve);have htk:ups.take (k+1)=ups.take k ++ [ups[k]]:=List.take_succ_eq_append_getElem ve;generalize ups[k]=p at *;have HKp:=O (IA p hpo);have Lc:=O htk;have HPK:=O hpk;have ZJ:=O hps;have HPO:=O hpo;clear htk hpk hps hpo;unfold udV at HKp;have G1:=O (IJ.o.grow.trans (World.grownBy_alloc wr (.cells #[.string p.1,.string p.2] 36) (some bm)));have M1:=O (show Nh _ bm Mk from t8 IJ.o.met (zb wr (.cells #[.string p.1,.string p.2] 36)));have P1:=O (ot wr (.string p.1) (.string p.2) 36);have S1:=O (SR.o.grown (World.grownBy_alloc wr (.cells #[.string p.1,.string p.2] 36) (some bm)));have ZK:=O (P6 (Ww Mk) p HPO.o (.int .i64 0) (Zt IJ.o.ok));rw [QS] at ZK;by_cases hp:p∈Mk
    ·rw [if_pos (i8.2 hp)] at ZK;have HP:=O hp;clear hp;go_wp2_with (at_lookup;refine ee _ rfl _ _ 105 rfl 36 3 s5 Tryz.underlying105 (Mo _) bm Mk.length _ rfl M1.o _ _ rfl HKp.o _ ZK.o ?_);go_wp2_with fail;go_roundw
     case rel =>
      refine⟨k+1,Mk,by omega,by go_num,O ⟨IJ.o.sub,IJ.o.sound,λy hy=>?_,IJ.o.shut,IJ.o.ok,IJ.o.cnt,M1.o,G1.o⟩⟩;rw [Lc.o] at hy;rcases List.mem_append.1 hy with hy|hy
      ·exact IJ.o.here y hy
      ·simp only [List.mem_cons,List.not_mem_nil,or_false] at hy;subst hy;exact HP.o
     case measure=>simp [intOf];omega
    ·rw [if_neg (λe=>hp (i8.1 e))] at ZK;have hum:=zdf HPK.o hp;have HP:=O hp;clear hp;go_wp2_with (first|(at_lookup;refine ee _ rfl _ _ 105 rfl 36 3 s5 Tryz.underlying105 (Mo _) bm Mk.length _ rfl M1.o _ _ rfl HKp.o _ ZK.o ?_)|(at_mapUpdate;refine wpList_mapUpdate_own _ rfl _ _ _ 105 rfl 36 3 s5 Tryz.underlying105 FB bm Mk.length _ rfl M1.o (by have:=IJ.o.cnt;unfold maxLen;omega) _ _ _ rfl rfl HKp.o _ [] rfl ?_));intro w4 hown hgrow;have hbl:=M1.o.lt;have hbw:bm<wr.heap.size:=IJ.o.met.lt;have M4:=O (show Nh w4 bm (Mk ++ [p]) by
      unfold Nh
      have e:Ww (Mk ++ [p])=Ww Mk ++ [(p,.int .i64 1)]:=by simp [Ww]
      rw [e,Md,List.length_append];exact hown)
     have G4:=O (G1.o.trans hgrow);have S4:=O (S1.o.grown hgrow);have ZC:w4.heap[wr.heap.size]?=(wr.alloc (.cells #[.string p.1,.string p.2] 36)).heap[wr.heap.size]?:=hgrow.block _ (by simp) (by intro e;injection e with e;omega);have c0:w4.cell? ⟨wr.heap.size,0,none⟩=some (.string p.1):=(World.cell?_of_block (a:=⟨wr.heap.size,0,none⟩) ZC).trans P1.o.c0;have c1:w4.cell? ⟨wr.heap.size,1,none⟩=some (.string p.2):=(World.cell?_of_block (a:=⟨wr.heap.size,1,none⟩) ZC).trans P1.o.c1;have hcnt:=IJ.o.cnt;have hmono:=TI (K:=vY E) IJ.o.sub;have hlen1:(Mk ++ [p]).length=Mk.length+1:=by simp
     have KI:=O (ih w4 p (Mk ++ [p]) HPO.o (λy hy=>by
      rcases List.mem_append.1 hy with hy|hy
      ·exact IJ.o.ok y hy
      ·simp only [List.mem_cons,List.not_mem_nil,or_false] at hy;subst hy;exact HPO.o) (by omega) (by omega) S4.o M4.o)
     unfold udV at KI;clear hown hgrow hbl hbw ZC M1 P1 S1 G1 q0 q1 SR UR ZK;go_wp2_with fail;refine(KI.o).mono ?_;rintro e w5 ⟨rfl,M5,hA,hok5,hc5,hm5,hg5⟩;go_wp2_with fail;go_roundw
     case rel =>
      have zoA:∀y∈Mk,y∈M5:=λy hy=>hA.sub y (List.mem_append_left _ hy);have hpM:p∈M5:=hA.sub p (by simp);refine⟨k+1,M5,by omega,by go_num,O ⟨λy hy=>zoA y (IJ.o.sub y hy),λy hy=>?_,λy hy=>?_,λy hy hyM q hq=>?_,hok5,by omega,hm5,G4.o.trans hg5⟩⟩
      ·rcases hA.sound y hy with h|h
       ·rcases List.mem_append.1 h with h|h
        ·exact IJ.o.sound y h
        ·simp only [List.mem_cons,List.not_mem_nil,or_false] at h;subst h;exact .inr (.one ZJ.o)
       ·exact .inr (.more ZJ.o h)
      ·rw [Lc.o] at hy;rcases List.mem_append.1 hy with hy|hy
       ·exact zoA y (IJ.o.here y hy)
       ·simp only [List.mem_cons,List.not_mem_nil,or_false] at hy;subst hy;exact hpM
      ·by_cases h1:y∈Mk
       ·exact zoA q (IJ.o.shut y h1 hyM q hq)
       ·by_cases h2:y=p
        ·subst h2;exact hA.here q hq
        ·exact hA.shut y hy (by
          intro h
          rcases List.mem_append.1 h with h|h
          ·exact h1 h
          ·simp only [List.mem_cons,List.not_mem_nil,or_false] at h;exact h2 h) q hq
     case measure=>simp [intOf];omega
   ·have htk:ups.take k=ups:=List.take_of_length_le (by rw [<-HUL.o];omega);go_wp2_with fail;go_end0;refine⟨rfl,Mk,⟨IJ.o.sub,IJ.o.sound,λq hq=>IJ.o.here q (by rw [htk];exact(HSTP.o q).1 hq),IJ.o.shut⟩,IJ.o.ok,IJ.o.cnt,IJ.o.met,G0.o.trans IJ.o.grow⟩
end Go.Proofs.YtokiogmfgpidmaaGreatDoor
