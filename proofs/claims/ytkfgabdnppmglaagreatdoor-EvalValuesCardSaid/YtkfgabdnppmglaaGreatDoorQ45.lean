/-
  The reference's Ups and Over: those above one, step by step. The reference's StoreFault: what is wrong with a store.
-/
import Derived.Test.YtkfgabdnppmglaaGreatDoorQ15
import Derived.Test.YtkfgabdnppmglaaGreatDoorQ23
import Derived.Test.YtkfgabdnppmglaaGreatDoorQ28
import Derived.Test.YtkfgabdnppmglaaGreatDoorQ44
set_option maxRecDepth 100000
set_option maxHeartbeats 8000000
namespace Go.Proofs.YtkfgabdnppmglaaGreatDoor
open Go.RowKit Go.Wk
structure zeY(w:World)(B:Nat)(v:Value)(m:Nat)(u:Ud)(L:List Ud):Prop where
 len:m=L.length+1
 own:w.ownsRow B 24 2 v m (zab (u :: L))
theorem zeY.keep{w w':World}{B m:Nat}{v:Value}{u:Ud}{L:List Ud}(h:zeY w B v m u L)(hb:Below w.heap.size w w'):zeY w' B v m u L:=⟨h.len,jS h.own hb⟩
theorem zeY.us{w:World}{B m:Nat}{v:Value}{u:Ud}{L:List Ud}(h:zeY w B v m u L)(hu:UOk u)(hL:∀x∈L,UOk x)(hl:L.length≤1000):∃A c,v = .slice A m c∧Us w A m c (u :: L):=by
 have e:m=(u :: L).length:=by rw [h.len];rfl
 have h2:=h.own;rw [e] at h2 ⊢;exact zpY h2 (fun x hx=>by
  rcases List.mem_cons.1 hx with rfl|hx
  ·exact hu
  ·exact hL x hx) (by simp;omega)
theorem zuo{w:World}{A:Option Addr}{n c:Nat}{E:List En}(h:Es w A n c E){u y:Ud}(hy:Abv (jj E) u y):UOk y:=by
 have:∀p q,Stp (jj E) p q→UOk q:=fun p q ⟨e,he,_,h2⟩=>by
  obtain⟨x,hx,rfl⟩:=List.mem_map.1 he;exact(h.enok x hx).us.ok q h2
 induction hy with
 | one s=>exact this _ _ s
 | more _ _ ih=>exact ih
theorem zrF(B:Nat)(v:Value)(m:Nat)(z:Ud)(L:List Ud)(p:Ud)(w:World)(h:zeY w B v m z L)(hB:B≤w.heap.size)(hl:L.length≤1000)(hz:UOk z)(hL:∀x∈L,UOk x):
 Calls Tryz.prog 99 #[v,udV p] w fun e w'=>∃v' m',e = .returned v'∧zeY w' B v' m' z (zjq L p)∧w.grownBy w' v.ownBlock:=by
 obtain⟨i0,hi,hz0,hz1,hz2⟩:=info_parts zup;obtain⟨A,c,rfl,hus⟩:=h.us hz hL hl;have HM:=hi9 h.len;have hm1:m≤1001:=by have:=h.len;omega
 have hm2:1≤m:=by have:=h.len;omega
 have HO:=hi9 h;have HU:=hi9 hus;have B0:=hi9 (zb w (.cells #[.string p.1,.string p.2] 24));have P0:=hi9 (j8 w (.string p.1) (.string p.2) 24);clear h hus hz hL;unfold udV;go_enter Tryz.func99,Tryz.ntmps99;go_wp2_with fail;obtain⟨w0,hw0⟩:∃w0,w.alloc (.cells #[.string p.1,.string p.2] 24)=w0:=⟨_,rfl⟩
 rw [hw0] at P0 B0 ⊢;clear hw0;go_loopw [5] (fun i wr=>∃k:Nat,k≤L.length∧i = .int .i64 (k+1:Nat)∧Hid (zaV (L.take k) p=false)∧Hid (Below w.heap.size w wr)∧Hid (Vr2 wr w.heap.size (.string p.1) (.string p.2))) (fun i _=>m-(intOf i).toNat)
 case atStart=>exact⟨0,Nat.zero_le _,rfl,rfl,B0,P0⟩
 case round =>
  clear B0 P0;obtain⟨k,hk,rfl,hN,hB',hV⟩:=hrel;by_cases hlt:k<L.length
  ·have hkm:k+1<m:=by have:=HM.out;omega
   have HT:=hi9 (zgg hlt p);obtain⟨a,rfl,q0,q1⟩:=(HU.out.keep hB'.out).at_ (k+1) L[k] (by simp [hlt]);have v0:=cell_regrown hV.out.c0;have v1:=cell_regrown hV.out.c1;by_cases he:L[k]=p
   ·have HY:=hi9 (show zjq L p=L from if_pos (jZ.2 (he ▸ List.getElem_mem hlt)));rw [he] at q0 q1;have k0:=cell_regrown q0;have k1:=cell_regrown q1;clear he q0 q1 HT;go_wp2_with fail;refine wp_region_quiet_below (by kernel_rfl) (by kernel_rfl) ?_
    repeat (first|go_big_quiet_step (fail)|quiet_step (fail))
    refine wpQuiet_nil ?_;intro w1 hw';have B1:=hi9 (show Below wr.heap.size wr w1 by obtain⟨⟨d,os⟩,rfl⟩:=hw';exact below_regrown _ _ _);clear hw';have BX:=j2 hB' B1 (Nat.le_refl _);clear k0 k1 v0 v1 hB' B1;go_wp2_with fail;go_ret;exact⟨_,m,rfl,by rw [HY.out];exact HO.out.keep BX.out,zh BX.out _⟩
   ·rw [decide_eq_false he,Bool.or_false,hN.out] at HT;have k0:=cell_regrown q0;have k1:=cell_regrown q1;have hne:=zcq he;clear he q0 q1;generalize L[k]=y at *;rcases hne with h1|⟨h1,h2⟩
    ·go_wp2_with fail;refine wp_region_quiet_below (by kernel_rfl) (by kernel_rfl) ?_
     repeat (first|go_big_quiet_step (fail)|quiet_step (fail))
     refine wpQuiet_nil ?_;intro w1 hw';have B1:=hi9 (show Below wr.heap.size wr w1 by obtain⟨⟨d,os⟩,rfl⟩:=hw';exact below_regrown _ _ _);clear hw';have BX:=j2 hB' B1 (Nat.le_refl _);have VX:=hi9 (hV.out.keep B1.out);clear k0 k1 v0 v1 hB' B1 hV;go_wp2_with fail;go_roundw
     case rel=>exact⟨k+1,by omega,by go_num,HT,BX,VX⟩
     case measure=>simp [intOf];omega
    ·go_wp2_with fail;refine wp_region_quiet_below (by kernel_rfl) (by kernel_rfl) ?_
     repeat (first|go_big_quiet_step (fail)|quiet_step (fail))
     refine wpQuiet_nil ?_;intro w1 hw';have B1:=hi9 (show Below wr.heap.size wr w1 by obtain⟨⟨d,os⟩,rfl⟩:=hw';exact below_regrown _ _ _);clear hw';have BX:=j2 hB' B1 (Nat.le_refl _);have VX:=hi9 (hV.out.keep B1.out);clear k0 k1 v0 v1 hB' B1 hV;go_wp2_with fail;go_roundw
     case rel=>exact⟨k+1,by omega,by go_num,HT,BX,VX⟩
     case measure=>simp [intOf];omega
  ·have hkm:¬k+1<m:=by have:=HM.out;omega
   have HN:=hi9 (show zjq L p=L ++ [p] by
    have e:zaV L p=false:=by rw [←hN.out,List.take_of_length_le (by omega)]
    unfold zjq;rw [e];rfl)
   obtain⟨c0,c1,-,-⟩:=hV.out;have HC:=hi9 (jW wr (zab [p]) 24);have O1:=hi9 ((jS HO.out.own hB'.out).alloc (.cells (zab [p]).toArray 24));have HB2:=hB'.out.size;go_wp2_with (at_builtin;go_loud (refine wpList_append_own _ rfl _ _ 57 rfl B 24 i0 _ 2 32 Tryz.underlying57 hi hz0 hz1 hz2 rfl (by decide) _ m (zab (z :: L)) rfl O1.out ⟨_,0,none⟩ 1 1 (zab [p]) rfl rfl HC.out (zni _) ?c1 ?c2 ?c3 ?_))
   case c1=>unfold maxLen;omega
   case c2=>omega
   case c3=>simp;omega
   intro v1 w1 hown hgrow _;have OW:=hi9 hown;have GW:=hi9 (((zh hB'.out _).trans (World.grownBy_alloc wr _ _)).trans hgrow);clear hown hgrow O1 HC c0 c1;go_wp2_with fail;go_ret;exact⟨_,m+1,rfl,⟨by rw [HN.out,List.length_append,HM.out];simp,by rw [HN.out,←List.cons_append,zis];exact OW.out⟩,GW.out⟩
def zvo(w:World)(E:List En)(u:Ud)(e:Ending)(w':World):Prop :=
 ∃(A:Option Addr) (n c:Nat) (L:List Ud),e = .returned (.slice A n c)∧Us w' A n c L∧(∀y,y∈L↔Abv (jj E) u y)∧L.Nodup∧L.length≤900∧Below w.heap.size w w'
theorem zrz(w:World)(u:Ud):zeY (w.alloc (.cells #[.string u.1,.string u.2] 24)) w.heap.size (.slice (some ⟨w.heap.size,0,none⟩) 1 1) 1 u [] :=
 ⟨rfl,rfl,.inr ⟨_,1,_,rfl,Nat.le_refl _,heap_alloc_new w _,Nat.le_refl _,by unfold maxLen;omega,rfl,rfl⟩⟩
theorem zeY.base{w:World}{B m:Nat}{v:Value}{u:Ud}{L:List Ud}(h:zeY w B v m u L):∀g,v.ownBlock=some g→B≤g:=zW h.own
theorem zse{E:List En}{k:Nat}(h:k<E.length)(h':k<(jj E).length):(jj E)[k]=(E[k].u,E[k].ups):=by
 simp [jj]
theorem zpD(E:List En):(jj E).flatMap (·.2)=zaA E:=by
 unfold jj zaA;rw [List.flatMap_map]
theorem zs4{w:World}{A:Option Addr}{m c:Nat}{u:Ud}{L:List Ud}(h:Us w A m c (u :: L)):∃a,A=some a∧Us w (some (a.add 2)) (m-1) (c-1) L:=by
 obtain⟨a,e,-⟩:=h.at_ 0 u rfl;have hl:=h.len;have hc:=h.cap;have hm:=h.max;rw [List.length_cons] at hl;refine⟨a,e,by omega,by omega,by omega,fun k x hx=>?_,fun x hx=>h.ok x (by simp [hx])⟩;obtain⟨b,e2,q1,q2⟩:=h.at_ (k+1) x (by simpa using hx);rw [e] at e2;injection e2 with e2;subst e2;refine⟨_,rfl,?_⟩;rw [add_add,show 2+k*2=(k+1)*2 by omega];exact⟨q1,q2⟩
theorem ztI(A:Option Addr)(n c:Nat)(E:List En)(u:Ud)(w:World)(h:Es w A n c E)(hu:UOk u)(ha:(zaA E).length≤900):
 Calls Tryz.prog 51 #[.slice A n c,udV u,.int .i64 n] w (zvo w E u):=by
 have HG:=hi9 (show n=(jj E).length by rw [h.len,jj,List.length_map]);have HLE:=hi9 (show∀(L L':List Ud),Grw (jj E) u L L'→L'.length≤900 from fun L L' g=>by
  have:=g.len
  rw [zpD] at this
  omega)
 have HOK:=hi9 (fun(L L':List Ud) (g:Grw (jj E) u L L') (y:Ud) (hy:y∈L')=>zuo h (g.sound y hy));have HH:=hi9 h;have HL:=hi9 h.len;have HU:=hi9 hu;have hmax:=h.max;unfold maxLen at hmax;clear h ha hu;unfold udV;go_enter Tryz.func51,Tryz.ntmps51;go_wp2_with fail;have B0:=hi9 (zb w (.cells #[.string u.1,.string u.2] 24));have hsz:(w.alloc (.cells #[.string u.1,.string u.2] 24)).heap.size=w.heap.size+1:=by simp
 obtain⟨w0,hw0⟩:∃w0,w.alloc (.cells #[.string u.1,.string u.2] 24)=w0:=⟨_,rfl⟩
 rw [hw0] at B0 hsz ⊢;rw [←hsz];clear hw0 hsz;have R1:=hi9 (zrz w0 u);have B1:=bh B0 (zb w0 (.cells #[.string u.1,.string u.2] 24));have HB0:=hi9 (show w.heap.size≤w0.heap.size from B0.out.size);have HB1:=hi9 (show w0.heap.size≤(w0.alloc (.cells #[.string u.1,.string u.2] 24)).heap.size by simp);obtain⟨w1,hw1⟩:∃w1,w0.alloc (.cells #[.string u.1,.string u.2] 24)=w1:=⟨_,rfl⟩
 rw [hw1] at R1 B1 HB1 ⊢;clear hw1 B0;generalize w0.heap.size=b0 at *;go_loopw [7,8,9,11,12,13] (fun out f s _ _ _ wr=>∃(t fr m:Nat) (L:List Ud),t≤n∧f = .int .i64 fr∧s = .int .i64 t∧fr≤m∧Hid (Bfs (jj E) u t fr L)∧Hid (zeY wr b0 out m u L)∧Hid (Below w.heap.size w wr)∧Hid (b0≤wr.heap.size)) (fun _ _ s _ _ _ _=>n-(intOf s).toNat)
 case atStart=>exact⟨0,0,1,[],Nat.zero_le _,rfl,rfl,Nat.zero_le _,hi9 (Bfs.start _ _),R1,B1,HB1⟩
 case round =>
  clear R1 B1 HB1;obtain⟨t,fr,m,L,ht,rfl,rfl,hfr,hF,hR,hB,hb0⟩:=hrel;obtain⟨A1,c1,hv1,hus1⟩:=hR.out.us HU.out (HOK.out _ _ hF.out.fnd) (Nat.le_trans (HLE.out _ _ hF.out.fnd) (by omega));have HU1:=hi9 hus1;subst hv1;clear hus1;have HML:=hi9 hR.out.len;have hmb:m≤901:=by have:=hR.out.len;have:=HLE.out _ _ hF.out.fnd;omega
  by_cases hlt:t<n
  ·go_wp2_with fail;go_loopw [7,11,12,13] (fun out i _ _ wk=>∃(i' m':Nat) (L':List Ud),i'≤m∧i = .int .i64 i'∧Hid (zjn (jj E) u L i' L')∧Hid (zeY wk b0 out m' u L')∧Hid (Below w.heap.size w wk)∧Hid (b0≤wk.heap.size)) (fun _ i _ _ _=>m-(intOf i).toNat)
   case atStart=>exact⟨fr,m,L,hfr,rfl,hi9 (zjn.start hF.out),hR,hB,hb0⟩
   case round =>
    clear hR hB hb0 HU1;obtain⟨i',m',L',hi,rfl,hM1,hR,hB,hb0⟩:=hrel;by_cases hli:i'<m
    ·have hil:i'<(u :: L).length:=by rw [List.length_cons];have:=HML.out;omega
     go_wp2_with fail;go_loopw [7,12,13] (fun out k _ wk=>∃(k' m2:Nat) (L2:List Ud),k'≤n∧k = .int .i64 k'∧Hid (zld (jj E) u (u :: L)[i'] L' k' L2)∧Hid (zeY wk b0 out m2 u L2)∧Hid (Below w.heap.size w wk)∧Hid (b0≤wk.heap.size)) (fun _ k _ _=>n-(intOf k).toNat)
     case atStart=>exact⟨0,m',L',Nat.zero_le _,rfl,hi9 (zld.start hM1.out.grw),hR,hB,hb0⟩
     case round =>
      clear hR hB hb0;obtain⟨k',m2,L2,hk,rfl,hM2,hR,hB,hb0⟩:=hrel;by_cases hlk:k'<n
      ·have hkl:k'<E.length:=by rw [←HL.out];exact hlk
       have HGA:=hi9 (zse hkl (by rw [←HG.out];exact hlk));obtain⟨A2,c2,hv2,hus2⟩:=hR.out.us HU.out (HOK.out _ _ hM2.out.grw) (Nat.le_trans (HLE.out _ _ hM2.out.grw) (by omega));subst hv2;have HG2:=hi9 (hM1.out.grw.trans hM2.out.grw);obtain⟨a2,ea2,z0,z1⟩:=hus2.at_ i' _ (HG2.out.get hil);have hm2:m≤m2:=by
        have h1:=hR.out.len;have h2:=HML.out;obtain⟨R,e⟩:=HG2.out.pre;rw [e,List.length_append] at h1;omega
       subst ea2;have hc2:=hus2.cap;have hl2:=HLE.out _ _ hM2.out.grw;have HR2:=hi9 hR.out.len;have HZ:=hi9 (show(u :: L)[i']=u∨(u :: L)[i']∈L2 from by
        rcases List.mem_cons.1 (List.getElem_mem hil) with e|e
        ·exact .inl e
        ·exact .inr (HG2.out.sub _ e))
       clear hus2;obtain⟨z,hz⟩:∃z,z=(u :: L)[i']:=⟨_,rfl⟩
       rw [←hz] at z0 z1 HZ hM2;have HZE:=hi9 hz;clear hz;obtain⟨a,rfl,q0,q1,q2,-,hxo⟩:=(HH.out.keep hB.out).at_ k' _ (List.getElem?_eq_getElem hkl);obtain⟨x,hx⟩:∃x,x=E[k']:=⟨_,rfl⟩
       rw [←hx] at q0 q1 q2 hxo HGA;have HXE:=hi9 (show E[k']?=some x by rw [List.getElem?_eq_getElem hkl,hx]);clear hx;have v0:=cell_regrown z0;have v1:=cell_regrown z1;by_cases he:x.u=z
       ·have HE:=hi9 he;rw [he] at q0 q1;have k0:=cell_regrown q0;have k1:=cell_regrown q1;clear q0 q1 z0 z1 he;go_wp2_with fail;refine wp_region_quiet_below (by kernel_rfl) (by kernel_rfl) ?_
        repeat (first|go_big_quiet_step (fail)|quiet_step (fail))
        refine wpQuiet_nil ?_;intro w5 hw';have b5:=hi9 (show Below wr.heap.size wr w5 by obtain⟨⟨d,os⟩,rfl⟩:=hw';exact below_regrown _ _ _);clear hw';have B5:=bh hB b5.out;have R5:=hi9 (hR.out.keep b5.out);have HB5:=hi9 (Nat.le_trans hb0.out b5.out.size);have q2':=za b5.out q2;have HU5:=hi9 (hxo.us.keep b5.out);have HUL:=hi9 hxo.us.len;have hum:=hxo.us.max;unfold maxLen at hum;clear k0 k1 v0 v1 hB hR hb0 b5 q2 hxo HU5 q2';go_wp2_with fail;go_loopw [7,13] (fun out p wk=>∃(p' m3:Nat) (L3:List Ud),p'≤x.un∧p = .int .i64 p'∧Hid (zkc (jj E) u x.ups L2 p' L3)∧Hid (zeY wk b0 out m3 u L3)∧Hid (Below w.heap.size w wk)∧Hid (b0≤wk.heap.size)) (fun _ p _=>x.un-(intOf p).toNat)
        case atStart=>exact⟨0,m2,L2,Nat.zero_le _,rfl,hi9 (zkc.start hM2.out.grw),R5,B5,HB5⟩
        case round =>
         clear R5 B5 HB5;obtain⟨p',m3,L3,hp,rfl,hM3,hR,hB,hb0⟩:=hrel;obtain⟨a',ea,-,-,q2,-,hxo⟩:=(HH.out.keep hB.out).at_ k' x HXE.out;injection ea with ea;subst ea;by_cases hlp:p'<x.un
         ·have hlp':p'<x.ups.length:=by rw [←HUL.out];exact hlp
          obtain⟨b,eb,q3,q4⟩:=hxo.us.at_ p' _ (List.getElem?_eq_getElem hlp');rw [eb] at q2;have HM4:=hi9 (hM3.out.next hlp' HZ.out (show Stp (jj E) z x.ups[p'] from⟨(x.u,x.ups),by rw [←HGA.out];exact List.getElem_mem _,HE.out,List.getElem_mem hlp'⟩));have HK:=hi9 (zrF b0 u7 m3 u L3 x.ups[p'] wr hR.out hb0.out (Nat.le_trans (HLE.out _ _ hM3.out.grw) (by omega)) HU.out (HOK.out _ _ hM3.out.grw));generalize x.ups[p']=p at *;unfold udV at HK;clear hxo eb;go_wp2_with fail;refine HK.out.mono ?_;rintro e w6 ⟨v6,m6,rfl,hrow,hgr⟩;have R6:=hi9 hrow;have B6:=hi9 (hB.out.grown hgr hB.out.size (fun g hg=>Nat.le_trans HB0.out (hR.out.base g hg)));have HB6:=hi9 (Nat.le_trans hb0.out hgr.size);clear hrow hgr HK hR hB hb0 q2 q3 q4;go_wp2_with fail;go_roundw
          case rel=>exact⟨p'+1,m6,zjq L3 p,by omega,by go_num,HM4,R6,B6,HB6⟩
          case measure=>simp [intOf];omega
         ·have HM4:=hi9 (hM2.out.next hM3.out.grw (by rw [←HG.out];exact hlk) (fun _=>by rw [HGA.out];exact hM3.out.done (by rw [←HUL.out];omega)));rw [HZE.out] at HM4;clear hxo;go_wp2_with fail;go_roundw
          case rel=>exact⟨k'+1,m3,L3,by omega,by go_num,HM4,hR,hB,hb0⟩
          case measure=>simp [intOf];omega
       ·have HN:=hi9 he;have k0:=cell_regrown q0;have k1:=cell_regrown q1;have hne:=zcq he;clear q0 q1 q2 z0 z1 he hxo;have HM3:=hi9 (hM2.out.next hM2.out.grw.self (by rw [←HG.out];exact hlk) (fun e=>absurd (by rw [←e,HGA.out]) HN.out));rcases hne with h1|⟨h1,h2⟩
        ·rw [HZE.out] at HM3;go_wp2_with fail;refine wp_region_quiet_below (by kernel_rfl) (by kernel_rfl) ?_
         repeat (first|go_big_quiet_step (fail)|quiet_step (fail))
         refine wpQuiet_nil ?_;intro w5 hw';have b5:=hi9 (show Below wr.heap.size wr w5 by obtain⟨⟨d,os⟩,rfl⟩:=hw';exact below_regrown _ _ _);clear hw';have B5:=bh hB b5.out;have R5:=hi9 (hR.out.keep b5.out);have HB5:=hi9 (Nat.le_trans hb0.out b5.out.size);clear k0 k1 v0 v1 hB hR hb0 b5;go_wp2_with fail;go_roundw
         case rel=>exact⟨k'+1,m2,L2,by omega,by go_num,HM3,R5,B5,HB5⟩
         case measure=>simp [intOf];omega
        ·rw [HZE.out] at HM3;go_wp2_with fail;refine wp_region_quiet_below (by kernel_rfl) (by kernel_rfl) ?_
         repeat (first|go_big_quiet_step (fail)|quiet_step (fail))
         refine wpQuiet_nil ?_;intro w5 hw';have b5:=hi9 (show Below wr.heap.size wr w5 by obtain⟨⟨d,os⟩,rfl⟩:=hw';exact below_regrown _ _ _);clear hw';have B5:=bh hB b5.out;have R5:=hi9 (hR.out.keep b5.out);have HB5:=hi9 (Nat.le_trans hb0.out b5.out.size);clear k0 k1 v0 v1 hB hR hb0 b5;go_wp2_with fail;go_roundw
         case rel=>exact⟨k'+1,m2,L2,by omega,by go_num,HM3,R5,B5,HB5⟩
         case measure=>simp [intOf];omega
      ·have HM4:=hi9 (hM1.out.next hM2.out.grw hil (hM2.out.done (by rw [←HG.out];omega)));go_wp2_with fail;go_roundw
       case rel=>exact⟨i'+1,m2,L2,by omega,by go_num,HM4,hR,hB,hb0⟩
       case measure=>simp [intOf];omega
    ·have HM5:=hi9 (show Bfs (jj E) u (t+1) m L' by
      have:=zjn.done hF.out hM1.out (by rw [List.length_cons,←HML.out];omega)
      rwa [←HML.out] at this)
     have hmm:m≤m':=by
      have h1:=hR.out.len;have h2:=HML.out;obtain⟨R,e⟩:=hM1.out.grw.pre;rw [e,List.length_append] at h1;omega
     go_wp2_with fail
     go_roundw
     case rel=>exact⟨t+1,m,m',L',by omega,rfl,by go_num,hmm,HM5,hR,hB,hb0⟩
     case measure=>simp [intOf];omega
  ·have HALL:=hi9 (hF.out.all (by rw [←HG.out];omega));obtain⟨a1,ea1,hus2⟩:=zs4 HU1.out;have HU2:=hi9 hus2;have HND:=hi9 hF.out.fnd.nd;have HLL:=hi9 (HLE.out _ _ hF.out.fnd);have hm1:1≤m:=by have:=HML.out;omega
   have hcm:=HU1.out.cap;subst ea1;clear hus2;go_wp2_with fail
   ·rename_i h1;have hL0:L = []:=List.eq_nil_of_length_eq_zero (by have:=HML.out;omega);go_ret;exact⟨_,_,_,L,rfl,⟨by have:=HML.out;omega,by omega,by unfold maxLen;omega,fun k x hx=>by rw [hL0] at hx;simp at hx,fun x hx=>by rw [hL0] at hx;cases hx⟩,HALL.out,HND.out,HLL.out,hB.out⟩
   ·go_ret;exact⟨_,m-1,c1-1,L,rfl,by simpa [Addr.add] using HU2.out,HALL.out,HND.out,HLL.out,hB.out⟩
theorem zrU(A:Option Addr)(n c:Nat)(E:List En)(u t:Ud)(w:World)(h:Es w A n c E)(hu:UOk u)(ha:(zaA E).length≤900):
 Calls Tryz.prog 22 #[.slice A n c,udV u,udV t,.int .i64 n] w fun e w'=>(∃b:Bool,e = .returned (.bool b)∧(b=true↔Abv (jj E) u t))∧Below w.heap.size w w':=by
 have HK:=hi9 (fun w' hb=>ztI A n c E u w' (h.keep (w':=w') hb) hu ha);clear h hu ha;unfold udV at HK ⊢;go_enter Tryz.func22,Tryz.ntmps22;go_wp2_with fail;have B0:=hi9 (zb w (.cells #[.string u.1,.string u.2] 24));have hsz:(w.alloc (.cells #[.string u.1,.string u.2] 24)).heap.size=w.heap.size+1:=by simp
 obtain⟨w0,hw0⟩:∃w0,w.alloc (.cells #[.string u.1,.string u.2] 24)=w0:=⟨_,rfl⟩
 rw [hw0] at B0 hsz ⊢;rw [←hsz];clear hw0 hsz;have P1:=hi9 (j8 w0 (.string t.1) (.string t.2) 24);have B1:=bh B0 (zb w0 (.cells #[.string t.1,.string t.2] 24));obtain⟨w1,hw1⟩:∃w1,w0.alloc (.cells #[.string t.1,.string t.2] 24)=w1:=⟨_,rfl⟩
 rw [hw1] at P1 B1 ⊢;clear hw1 B0;refine(HK.out w1 B1.out).mono ?_;rintro e w2 ⟨A2,n2,c2,L,rfl,hus,hall,hnd,hll,b2⟩;have P2:=hi9 (P1.out.keep b2);have B2:=bh B1 b2;have HU:=hi9 hus;have HL:=hi9 hus.len;have HALL:=hi9 hall;have hmx:n2≤900:=by rw [hus.len];exact hll
 clear hus hall hnd b2 HK P1 B1 hll;go_wp2_with fail;go_loopw [10] (fun i wr=>∃k:Nat,k≤n2∧i = .int .i64 k∧Hid (t ∉ L.take k)∧Hid (Below w2.heap.size w2 wr)) (fun i _=>n2-(intOf i).toNat)
 case atStart=>exact⟨0,Nat.zero_le _,rfl,hi9 (by simp),Below.refl _ _⟩
 case round =>
  obtain⟨k,hk,rfl,hN,hB⟩:=hrel;by_cases hlt:k<n2
  ·have hlt':k<L.length:=by rw [←HL.out];exact hlt
   have HTK:=hi9 (List.take_succ_eq_append_getElem hlt');have HM:=hi9 (List.getElem_mem hlt');obtain⟨a,rfl,q0,q1⟩:=(HU.out.keep hB.out).at_ k _ (List.getElem?_eq_getElem hlt');obtain⟨d0,d1,-,-⟩:=P2.out.keep hB.out;have BW:=bh B2 hB.out;generalize L[k]=y at *;have k0:=cell_regrown q0;have k1:=cell_regrown q1;have v0:=cell_regrown d0;have v1:=cell_regrown d1;by_cases he:y=t
   ·have HY:=hi9 (show Abv (jj E) u t from(HALL.out t).1 (he ▸ HM.out));rw [he] at k0 k1;clear he q0 q1 d0 d1 HM HTK;go_wp2_with fail;refine wp_region_quiet_below (by kernel_rfl) (by kernel_rfl) ?_
    repeat (first|go_big_quiet_step (fail)|quiet_step (fail))
    refine wpQuiet_nil ?_;intro w5 hw';have b5:=hi9 (show Below wr.heap.size wr w5 by obtain⟨⟨d,os⟩,rfl⟩:=hw';exact below_regrown _ _ _);clear hw';have B5:=bh BW b5.out;clear k0 k1 v0 v1;go_wp2_with fail;go_ret;exact⟨⟨true,rfl,fun _=>HY.out,fun _=>rfl⟩,B5.out⟩
   ·have HN2:=hi9 (show t ∉ L.take (k+1) from fun hm=>by
     rw [HTK.out] at hm
     rcases List.mem_append.1 hm with hm|hm
     ·exact hN.out hm
     ·simp only [List.mem_cons,List.not_mem_nil,or_false] at hm;exact he hm.symm)
    have hne:=zcq he
    clear he q0 q1 d0 d1 HM HTK
    rcases hne with h1|⟨h1,h2⟩
    ·go_wp2_with fail
     refine wp_region_quiet_below (by kernel_rfl) (by kernel_rfl) ?_
     repeat (first|go_big_quiet_step (fail)|quiet_step (fail))
     refine wpQuiet_nil ?_;intro w5 hw';have b5:=hi9 (show Below wr.heap.size wr w5 by obtain⟨⟨d,os⟩,rfl⟩:=hw';exact below_regrown _ _ _);clear hw';have B5:=j2 hB b5 (Nat.le_refl _);clear k0 k1 v0 v1;go_wp2_with fail;go_roundw
     case rel=>exact⟨k+1,by omega,by go_num,HN2,B5⟩
     case measure=>simp [intOf];omega
    ·go_wp2_with fail
     refine wp_region_quiet_below (by kernel_rfl) (by kernel_rfl) ?_
     repeat (first|go_big_quiet_step (fail)|quiet_step (fail))
     refine wpQuiet_nil ?_;intro w5 hw';have b5:=hi9 (show Below wr.heap.size wr w5 by obtain⟨⟨d,os⟩,rfl⟩:=hw';exact below_regrown _ _ _);clear hw';have B5:=j2 hB b5 (Nat.le_refl _);clear k0 k1 v0 v1;go_wp2_with fail;go_roundw
     case rel=>exact⟨k+1,by omega,by go_num,HN2,B5⟩
     case measure=>simp [intOf];omega
  ·have HY:=hi9 (show¬Abv (jj E) u t from fun h=>hN.out (by rw [List.take_of_length_le (by rw [←HL.out];omega)];exact(HALL.out t).2 h));have BW:=bh B2 hB.out;go_wp2_with fail;go_ret;exact⟨⟨false,rfl,fun h=>(nomatch h),fun h=>absurd h HY.out⟩,BW.out⟩
theorem zmY(u:Ud)(hu:u.1.size≤maxLen∧u.2.size≤maxLen)(w:World):
 Calls Tryz.prog 20 #[.agg #[.string u.1,.string u.2]] w fun e w'=>e = .returned (.int .i64 (zw (u.1,u.2)))∧Below w.heap.size w w':=zbG u.1 u.2 w hu.1 hu.2
theorem zgO(x:En)(w:World)(h:zkw w x):
 Calls Tryz.prog 21 #[x.v] w fun e w'=>e = .returned (.int .i64 (zbz x))∧Below w.heap.size w w':=by
 have V0:=hi9 (zhf w x 59);obtain⟨u,UA,un,uc,ups,NA,nn,nc,P⟩:=x;obtain⟨-,-,hus,hns⟩:=h;have KU:=hi9 zmY;have KV:=hi9 (fun w' hb=>zbB _ _ _ _ w' (hns.keep (w':=w') hb));have HU:=hi9 hus;have HN:=hi9 hns;have B0:=hi9 (zb w (.cells #[.string u.1,.string u.2,.slice UA un uc,.slice NA nn nc] 59));have hlen:=hus.len;have hcap:=hus.cap;dsimp only at hlen hcap V0 KV HU HN;clear hus hns;unfold En.v;dsimp only;by_cases h6:6<un
 ·have HE:=hi9 (show zbz ⟨u,UA,un,uc,ups,NA,nn,nc,P⟩=4 by unfold zbz;rw [if_pos (by dsimp only;omega)]);rw [HE.out];clear hlen;go_enter Tryz.func21,Tryz.ntmps21;go_wp2_with fail;go_ret;exact⟨rfl,B0.out⟩
 ·have HE:=hi9 (show zbz ⟨u,UA,un,uc,ups,NA,nn,nc,P⟩=if j1 [] ups=0 then(if zc P=0 then(if zf P=6 then 0 else 2) else zc P) else j1 [] ups by unfold zbz;rw [if_neg (by dsimp only;omega)]);generalize zbz ⟨u,UA,un,uc,ups,NA,nn,nc,P⟩=EF at *;have HL:=hi9 hlen;have hd:decide ((6:Int)<(un:Int))=false:=decide_eq_false (by omega);clear hlen;go_enter Tryz.func21,Tryz.ntmps21;go_wp2_with fail;obtain⟨w0,hw0⟩:∃w0,w.alloc (.cells #[.string u.1,.string u.2,.slice UA un uc,.slice NA nn nc] 59)=w0:=⟨_,rfl⟩
  rw [hw0] at V0 B0 ⊢;clear hw0;go_loopw [3,5] (fun i _ wr=>∃k:Nat,k≤un∧i = .int .i64 k∧Hid (j1 [] ups=j1 (ups.take k) (ups.drop k))∧Hid (Below w.heap.size w wr)∧Hid (Vr4 wr w.heap.size ⟨u,UA,un,uc,ups,NA,nn,nc,P⟩)) (fun i _ _=>un-(intOf i).toNat)
  case atStart=>exact⟨0,Nat.zero_le _,rfl,rfl,B0,V0⟩
  case round =>
   clear B0 V0;obtain⟨k,hk,rfl,hF,hB,hV⟩:=hrel;obtain⟨c0,c1,c2,c3⟩:=hV.out;dsimp only at c0 c1 c2 c3;by_cases hlt:k<un
   ·have hlt':k<ups.length:=by rw [←HL.out];exact hlt
    have HS:=hi9 (zly hlt');obtain⟨a,rfl,q0,q1⟩:=(HU.out.at_.keep hB.out) k _ (List.getElem?_eq_getElem hlt');have hok:=HU.out.ok _ (List.getElem_mem hlt');have K1:=hi9 (KU.out ups[k] hok wr);have HXK:=hi9 (List.getElem?_eq_getElem hlt');generalize ups[k]=p at *;go_wp2_with fail;refine K1.out.mono ?_;rintro e w2 ⟨rfl,b2⟩;have B2:=bh hB b2;have V2:=hi9 (hV.out.keep b2);clear K1 b2 hB hV c0 c1 c2 c3 q0 q1;obtain⟨c0,c1,c2,c3⟩:=V2.out;dsimp only at c0 c1 c2 c3;by_cases hu:zw (p.1,p.2)=0
    ·have hu':zw p=0:=hu;rw [hu];rw [if_pos hu'] at HS;clear hu hu';go_wp2_with fail;go_loopw [5] (fun j wj=>∃q:Nat,q≤k∧j = .int .i64 q∧Hid (zaV (ups.take q) p=false)∧Hid (Below w2.heap.size w2 wj)) (fun j _=>k-(intOf j).toNat)
     case atStart=>exact⟨0,Nat.zero_le _,rfl,hi9 rfl,Below.refl _ _⟩
     case round =>
      clear c0 c1 c2 c3;obtain⟨q,hq,rfl,hH,hJ⟩:=hrel;have BJ:=bh B2 hJ.out;have VJ:=hi9 (V2.out.keep hJ.out);obtain⟨c0,c1,c2,c3⟩:=VJ.out;dsimp only at c0 c1 c2 c3;by_cases hlq:q<k
      ·have hlq':q<ups.length:=by omega
       have HT:=hi9 (zgg hlq' p);obtain⟨a',ea,q0,q1⟩:=(HU.out.at_.keep BJ.out) q _ (List.getElem?_eq_getElem hlq');injection ea with ea;subst ea;obtain⟨a',ea,r0,r1⟩:=(HU.out.at_.keep BJ.out) k _ HXK.out;injection ea with ea;subst ea;have HM:=hi9 (show ups[q]=p→zaV (ups.take k) p=true from fun e=>jZ.2 (by
        rw [←e]
        exact List.mem_take_iff_getElem.2 ⟨q,by omega,rfl⟩))
       generalize ups[q]=y at *;have v0:=cell_regrown r0;have v1:=cell_regrown r1;have k2:=cell_regrown c2;by_cases he:y=p
       ·have HE2:=hi9 (show EF=6 by
         have:=HS.out
         rw [HM.out he,if_pos rfl] at this
         rw [HE.out,hF.out,this];rfl)
        rw [he] at q0 q1
        have k0:=cell_regrown q0
        have k1:=cell_regrown q1
        clear he q0 q1 r0 r1 HT HM HS hF
        go_wp2_with fail
        refine wp_region_quiet_below (by kernel_rfl) (by kernel_rfl) ?_
        repeat (first|go_big_quiet_step (fail)|quiet_step (fail))
        refine wpQuiet_nil ?_
        intro w5 hw'
        have b5:=hi9 (show Below wr.heap.size wr w5 by obtain⟨⟨d,os⟩,rfl⟩:=hw';exact below_regrown _ _ _)
        clear hw'
        have B5:=bh BJ b5.out
        clear k0 k1 k2 v0 v1
        go_wp2_with fail
        go_ret
        exact⟨zQ HE2.out.symm,B5.out⟩
       ·rw [decide_eq_false he,Bool.or_false,hH.out] at HT;have hne:=zcq he;have k0:=cell_regrown q0;have k1:=cell_regrown q1;clear he q0 q1 r0 r1 HM;rcases hne with h1|⟨h1,h2⟩
        ·go_wp2_with fail;refine wp_region_quiet_below (by kernel_rfl) (by kernel_rfl) ?_
         repeat (first|go_big_quiet_step (fail)|quiet_step (fail))
         refine wpQuiet_nil ?_;intro w5 hw';have b5:=hi9 (show Below wr.heap.size wr w5 by obtain⟨⟨d,os⟩,rfl⟩:=hw';exact below_regrown _ _ _);clear hw';have B5:=j2 hJ b5 (Nat.le_refl _);clear k0 k1 k2 v0 v1;go_wp2_with fail;go_roundw
         case rel=>exact⟨q+1,by omega,by go_num,HT,B5⟩
         case measure=>simp [intOf];omega
        ·go_wp2_with fail;refine wp_region_quiet_below (by kernel_rfl) (by kernel_rfl) ?_
         repeat (first|go_big_quiet_step (fail)|quiet_step (fail))
         refine wpQuiet_nil ?_;intro w5 hw';have b5:=hi9 (show Below wr.heap.size wr w5 by obtain⟨⟨d,os⟩,rfl⟩:=hw';exact below_regrown _ _ _);clear hw';have B5:=j2 hJ b5 (Nat.le_refl _);clear k0 k1 k2 v0 v1;go_wp2_with fail;go_roundw
         case rel=>exact⟨q+1,by omega,by go_num,HT,B5⟩
         case measure=>simp [intOf];omega
      ·have HF:=hi9 (show j1 [] ups=j1 (ups.take (k+1)) (ups.drop (k+1)) by
        have h1:=HS.out
        have h2:=hH.out
        rw [show q=k by omega] at h2
        rw [h2,if_neg (by decide)] at h1
        exact hF.out.trans h1)
       clear HS hF
       go_wp2_with fail
       go_roundw
       case rel=>exact⟨k+1,by omega,by go_num,HF,BJ,VJ⟩
       case measure=>simp [intOf];omega
    ·have hu':zw p≠0:=hu;rw [if_neg hu'] at HS;have HE2:=hi9 (show EF=zw (p.1,p.2) by rw [HE.out,hF.out,HS.out,if_neg hu']);have hun:(zw (p.1,p.2) != 0)=true:=by rw [bne_iff_ne];exact hu
     clear hu hu' HS hF;generalize zw (p.1,p.2)=f at *;go_wp2_with fail;go_ret;exact⟨zQ HE2.out.symm,B2.out⟩
   ·have HF:=hi9 (show j1 [] ups=0 by rw [hF.out,List.drop_of_length_le (by rw [←HL.out];omega)];rfl);have HE2:=hi9 (show EF=if zc P=0 then(if zf P=6 then 0 else 2) else zc P by rw [HE.out,if_pos HF.out]);clear hF;go_wp2_with fail;refine(KV.out wr hB.out).mono ?_;rintro e w2 ⟨rfl,b2⟩;have B2:=bh hB b2;have V2:=hi9 (hV.out.keep b2);clear hB hV c0 c1 c2 c3 b2;by_cases hv:zc P=0
    ·have hpos:=(zP.1 hv).2.pos;obtain⟨a,rfl,D⟩:=(HN.out.at_.keep B2.out).nd hpos;rw [show a.add (0*4)=a from rfl] at D;have hop:zf P=P[0].op:=jO hpos;have hn0:0<nn:=by rw [HN.out.len];exact hpos
     rw [hv];rw [if_pos hv,hop] at HE2;obtain⟨d0,-,-,-⟩:=D;obtain⟨op,ho⟩:∃op,op=P[0].op:=⟨_,rfl⟩
     rw [←ho] at d0 HE2;have e3:=V2.out.c3;dsimp only at e3;clear hv hop ho;by_cases h6o:op=6
     ·rw [if_pos h6o] at HE2;subst h6o;go_wp2_with fail;go_ret;exact⟨zQ HE2.out.symm,B2.out⟩
     ·rw [if_neg h6o] at HE2;have h6i:(op != 6)=true:=by simp;exact h6o
      clear h6o;go_wp2_with fail;go_ret;exact⟨zQ HE2.out.symm,B2.out⟩
    ·rw [if_neg hv] at HE2;have hv0:(zc P==0)=false:=by simp;exact hv
     clear hv;generalize zc P=f at *;go_wp2_with fail;go_ret;exact⟨zQ HE2.out.symm,B2.out⟩
theorem zif{L:List En}{M:List En}(h:jP M L=0):(zaA L).length≤6*L.length:=zdd L fun x hx=>((ze7 L M h).1 x hx).2
open Classical in
noncomputable def zkj(E:List En)(u t:Ud):Bool:=decide (Abv (jj E) u t)
theorem zeU{E:List En}{u t:Ud}:zkj E u t=true↔Abv (jj E) u t:=by unfold zkj;exact @decide_eq_true_iff _ (_)
theorem zgh(A:Option Addr)(n c:Nat)(E:List En)(u t:Ud)(w:World)(h:Es w A n c E)(hu:UOk u)(ha:(zaA E).length≤900):
 Calls Tryz.prog 22 #[.slice A n c,udV u,udV t,.int .i64 n] w fun e w'=>e = .returned (.bool (zkj E u t))∧Below w.heap.size w w' :=
 (zrU A n c E u t w h hu ha).mono fun e w' ⟨⟨b,he,hb⟩,h2⟩=>⟨by rw [he,show b=zkj E u t from Bool.eq_iff_iff.2 (hb.trans zeU.symm)],h2⟩
theorem zig(A:Option Addr)(n c:Nat)(E:List En)(w:World)(h:Es w A n c E):
 Calls Tryz.prog 8 #[.slice A n c] w fun e w'=>e = .returned (.int .i64 (ji E))∧Below w.heap.size w w':=by
 have hlen:=h.len;by_cases h16:16<n
 ·have HE:=hi9 (show ji E=4 by unfold ji;rw [if_pos (by omega)]);rw [HE.out];clear hlen h;go_enter Tryz.func8,Tryz.ntmps8;go_wp2_with fail;go_ret;exact⟨rfl,Below.refl _ _⟩
 ·have HE:=hi9 (show ji E=_ by unfold ji;rw [if_neg (by omega)]);generalize ji E=SF at *;have HH:=hi9 h;have HUO:=hi9 h.uok;have HL:=hi9 hlen;have hd:decide ((16:Int)<(n:Int))=false:=decide_eq_false (by omega);clear hlen h;go_enter Tryz.func8,Tryz.ntmps8;go_wp2_with fail;go_loopw [3,4,5] (fun i _ _ wr=>∃k:Nat,k≤n∧i = .int .i64 k∧Hid (jP [] E=jP (E.take k) (E.drop k))∧Hid (Below w.heap.size w wr)) (fun i _ _ _=>n-(intOf i).toNat)
  case atStart=>exact⟨0,Nat.zero_le _,rfl,rfl,hi9 (Below.refl _ _)⟩
  case round =>
   obtain⟨k,hk,rfl,hF,hB⟩:=hrel;by_cases hlt:k<n
   ·have hlt':k<E.length:=by rw [←HL.out];exact hlt
    have HS:=hi9 (zjH hlt');have HXE:=hi9 (List.getElem?_eq_getElem hlt');obtain⟨a,rfl,q0,q1,q2,q3,hxo⟩:=(HH.out.at_.keep hB.out) k _ (List.getElem?_eq_getElem hlt');have hok:=HUO.out _ (List.getElem_mem hlt');generalize E[k]=x at *;have KU:=hi9 (zmY x.u hok wr);have KE:=hi9 (fun w' hb=>zgO x w' (hxo.keep (w':=w') hb));unfold En.v at KE;have HXO:=hi9 hxo;clear hxo hok;go_wp2_with fail;refine KU.out.mono ?_;rintro e w2 ⟨rfl,b2⟩;have B2:=bh hB b2;have KE2:=hi9 (fun w' (hb:Below w2.heap.size w2 w')=>KE.out w' (b2.trans (hb.mono b2.size)));clear KU KE b2 hB q0 q1 q2 q3;by_cases hu:zw x.u=0
    ·have hu':zw (x.u.1,x.u.2)=0:=hu;rw [if_pos hu] at HS;rw [hu'];clear hu hu';go_wp2_with fail;go_loopw [4,5] (fun e j wj=>∃q:Nat,q≤k∧j = .int .i64 q∧Hid ((e = .int .i64 0∧zdh (E.take q) x.u=false)∨(e = .int .i64 6∧zdh (E.take k) x.u=true))∧Hid (Below w2.heap.size w2 wj)) (fun _ j _=>k-(intOf j).toNat)
     case atStart=>exact⟨0,Nat.zero_le _,rfl,hi9 (.inl ⟨rfl,rfl⟩),Below.refl _ _⟩
     case round =>
      obtain⟨q,hq,rfl,hH,hJ⟩:=hrel;have BJ:=bh B2 hJ.out;rcases hH.out with ⟨rfl,hN⟩|⟨rfl,hY⟩
      ·by_cases hlq:q<k
       ·have hlq':q<E.length:=by omega
        have HT:=hi9 (zjO hlq' x.u);obtain⟨a',ea,z0,z1,-,-,-⟩:=(HH.out.at_.keep BJ.out) q _ (List.getElem?_eq_getElem hlq');injection ea with ea;subst ea;obtain⟨a',ea,r0,r1,-,-,-⟩:=(HH.out.at_.keep BJ.out) k x HXE.out;injection ea with ea;subst ea;have HM:=hi9 (show E[q].u=x.u→zdh (E.take k) x.u=true from fun e=>zhD.2 ⟨E[q],List.mem_take_iff_getElem.2 ⟨q,by omega,rfl⟩,e⟩);generalize E[q]=y at *;have v0:=cell_regrown r0;have v1:=cell_regrown r1;by_cases he:y.u=x.u
        ·have HM2:=hi9 (HM.out he);rw [he] at z0 z1;have k0:=cell_regrown z0;have k1:=cell_regrown z1;clear he z0 z1 r0 r1 HT HM;go_wp2_with fail;refine wp_region_quiet_below (by kernel_rfl) (by kernel_rfl) ?_
         repeat (first|go_big_quiet_step (fail)|quiet_step (fail))
         refine wpQuiet_nil ?_;intro w5 hw';have b5:=hi9 (show Below wr.heap.size wr w5 by obtain⟨⟨d,os⟩,rfl⟩:=hw';exact below_regrown _ _ _);clear hw';have B5:=j2 hJ b5 (Nat.le_refl _);clear k0 k1 v0 v1;go_wp2_with fail;go_roundw
         case rel=>exact⟨q+1,by omega,by go_num,hi9 (.inr ⟨rfl,HM2.out⟩),B5⟩
         case measure=>simp [intOf];omega
        ·rw [decide_eq_false he,Bool.or_false,hN] at HT;have hne:=zcq he;have k0:=cell_regrown z0;have k1:=cell_regrown z1;clear he z0 z1 r0 r1 HM;rcases hne with h1|⟨h1,h2⟩
         ·go_wp2_with fail;refine wp_region_quiet_below (by kernel_rfl) (by kernel_rfl) ?_
          repeat (first|go_big_quiet_step (fail)|quiet_step (fail))
          refine wpQuiet_nil ?_;intro w5 hw';have b5:=hi9 (show Below wr.heap.size wr w5 by obtain⟨⟨d,os⟩,rfl⟩:=hw';exact below_regrown _ _ _);clear hw';have B5:=j2 hJ b5 (Nat.le_refl _);clear k0 k1 v0 v1;go_wp2_with fail;go_roundw
          case rel=>exact⟨q+1,by omega,by go_num,hi9 (.inl ⟨rfl,HT.out⟩),B5⟩
          case measure=>simp [intOf];omega
         ·go_wp2_with fail;refine wp_region_quiet_below (by kernel_rfl) (by kernel_rfl) ?_
          repeat (first|go_big_quiet_step (fail)|quiet_step (fail))
          refine wpQuiet_nil ?_;intro w5 hw';have b5:=hi9 (show Below wr.heap.size wr w5 by obtain⟨⟨d,os⟩,rfl⟩:=hw';exact below_regrown _ _ _);clear hw';have B5:=j2 hJ b5 (Nat.le_refl _);clear k0 k1 v0 v1;go_wp2_with fail;go_roundw
          case rel=>exact⟨q+1,by omega,by go_num,hi9 (.inl ⟨rfl,HT.out⟩),B5⟩
          case measure=>simp [intOf];omega
       ·rw [show q=k by omega] at hN;rw [hN,if_neg (by decide)] at HS;obtain⟨a',ea,r0,r1,r2,r3,-⟩:=(HH.out.at_.keep BJ.out) k x HXE.out;injection ea with ea;subst ea;have KE3:=hi9 (KE2.out wr hJ.out);clear hN hH;go_wp2_with fail;refine KE3.out.mono ?_;rintro e w6 ⟨rfl,b6⟩;have B6:=bh BJ b6;clear b6 KE3 r0 r1 r2 r3;by_cases hE:zbz x=0
        ·rw [if_pos hE] at HS;rw [hE];have HF:=hi9 (hF.out.trans HS.out);clear HS hE hF;go_wp2_with fail;go_roundw
         case rel=>exact⟨k+1,by omega,by go_num,HF,B6⟩
         case measure=>simp [intOf];omega
        ·rw [if_neg hE] at HS;have HE2:=hi9 (show SF=zbz x by rw [HE.out,hF.out,HS.out,if_neg hE]);have h0:(zbz x != 0)=true:=by rw [bne_iff_ne];exact hE
         clear hE HS hF;generalize zbz x=f at *;go_wp2_with fail;go_ret;exact⟨zQ HE2.out.symm,B6.out⟩
      ·rw [hY,if_pos rfl] at HS;have HE2:=hi9 (show SF=6 by rw [HE.out,hF.out,HS.out];rfl);clear hY HS hF hH;by_cases hlq:q<k
       ·go_wp2_with fail;go_ret;exact⟨zQ HE2.out.symm,BJ.out⟩
       ·go_wp2_with fail;go_ret;exact⟨zQ HE2.out.symm,BJ.out⟩
    ·have hu':zw (x.u.1,x.u.2)≠0:=hu;rw [if_neg hu] at HS;have HE2:=hi9 (show SF=zw (x.u.1,x.u.2) by rw [HE.out,hF.out,HS.out,if_neg hu]);have h0:(zw (x.u.1,x.u.2) != 0)=true:=by rw [bne_iff_ne];exact hu'
     have h1:(zw (x.u.1,x.u.2)==0)=false:=by simpa using hu'
     clear hu hu' HS hF;generalize zw (x.u.1,x.u.2)=f at *;go_wp2_with fail;go_loopw [4,5] (fun e j wj=>e = .int .i64 f∧j = .int .i64 0∧wj=w2) (fun _ j _=>k-(intOf j).toNat)
     case atStart=>exact⟨rfl,rfl,rfl⟩
     case round =>
      obtain⟨rfl,rfl,rfl⟩:=hrel;rcases Nat.eq_zero_or_pos k with hk0|hk0
      ·subst hk0;go_wp2_with fail;go_ret;exact⟨zQ HE2.out.symm,B2.out⟩
      ·go_wp2_with fail;go_ret;exact⟨zQ HE2.out.symm,B2.out⟩
   ·have HF:=hi9 (show jP [] E=0 by rw [hF.out,List.drop_of_length_le (by rw [←HL.out];omega)];rfl);have HA:=hi9 (show(zaA E).length≤900 from by have:=zif HF.out;have:=HL.out;omega);have HE7:=hi9 (show(∃x∈E,Abv (jj E) x.u x.u)→SF=7 from fun h=>by
     have e:=HE.out
     rw [if_pos HF.out,if_pos h] at e;exact e)
    have HE0:=hi9 (show¬(∃x∈E,Abv (jj E) x.u x.u)→SF=0 from fun h=>by
     have e:=HE.out
     rw [if_pos HF.out,if_neg h] at e;exact e)
    obtain⟨w2,rfl⟩:∃w2:World,w2=wr:=⟨_,rfl⟩
    have B2:=hB;clear hF hB HE;go_wp2_with fail;go_loopw [6] (fun i wr=>∃k:Nat,k≤n∧i = .int .i64 k∧Hid (∀y∈E.take k,¬Abv (jj E) y.u y.u)∧Hid (Below w2.heap.size w2 wr)) (fun i _=>n-(intOf i).toNat)
    case atStart=>exact⟨0,Nat.zero_le _,rfl,hi9 (fun y hy=>by simp at hy),Below.refl _ _⟩
    case round =>
     obtain⟨k,hk,rfl,hN,hB⟩:=hrel;have BW:=bh B2 hB.out;by_cases hlt:k<n
     ·have hlt':k<E.length:=by rw [←HL.out];exact hlt
      obtain⟨a,rfl,q0,q1,-,-,-⟩:=(HH.out.at_.keep BW.out) k _ (List.getElem?_eq_getElem hlt');have hok:=HUO.out _ (List.getElem_mem hlt');have HM:=hi9 (List.getElem_mem hlt');have HTK:=hi9 (List.take_succ_eq_append_getElem hlt');generalize E[k]=x at *;have hq:∀w',Below wr.heap.size wr w'→Below w.heap.size w w':=fun w' hb=>BW.out.trans (hb.mono BW.out.size);have KO:=rq (w:=wr) (v := .bool (zkj E x.u x.u)) (fun w' hb=>zgh (some a) n c E x.u x.u w' (HH.out.keep (hq w' hb)) hok HA.out);unfold udV at KO;have k0:=cell_regrown q0;have k1:=cell_regrown q1;clear hq q0 q1;go_wp2_with fail;refine wp_region_quiet_below (by kernel_rfl) (by kernel_rfl) ?_
      repeat (first|go_big_quiet_step (exact KO _ _)|quiet_step (exact KO _ _))
      refine wpQuiet_nil ?_;intro w6 hw';have b6:=hi9 (show Below wr.heap.size wr w6 by obtain⟨⟨d,os⟩,rfl⟩:=hw';exact below_regrown _ _ _);clear hw';have B6:=j2 hB b6 (Nat.le_refl _);have BW6:=bh BW b6.out;clear k0 k1 KO;rcases ho:zkj E x.u x.u with _|_
      ·have HN2:=hi9 (show∀y∈E.take (k+1),¬Abv (jj E) y.u y.u from fun y hy=>by
        rw [HTK.out] at hy
        rcases List.mem_append.1 hy with hy|hy
        ·exact hN.out y hy
        ·simp only [List.mem_cons,List.not_mem_nil,or_false] at hy
         subst hy
         intro h
         rw [zeU.2 h] at ho;cases ho)
       clear ho
       go_wp2_with fail
       go_roundw
       case rel=>exact⟨k+1,by omega,by go_num,HN2,B6⟩
       case measure=>simp [intOf];omega
      ·have HE2:=hi9 (HE7.out ⟨x,HM.out,zeU.1 ho⟩);clear ho;go_wp2_with fail;go_ret;exact⟨zQ HE2.out.symm,BW6.out⟩
     ·have HE2:=hi9 (HE0.out (fun⟨y,hy,h⟩=>hN.out y (by rw [List.take_of_length_le (by rw [←HL.out];omega)];exact hy) h));go_wp2_with fail;go_ret;exact⟨zQ HE2.out.symm,BW.out⟩
end Go.Proofs.YtkfgabdnppmglaaGreatDoor
