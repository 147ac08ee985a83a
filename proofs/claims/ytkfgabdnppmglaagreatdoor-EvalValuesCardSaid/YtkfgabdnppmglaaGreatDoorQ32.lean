/-
  The reference's RecOf: the fields by their ranks. The program's RecOf: a map from the names to the values, then the names in their order.
-/
import Derived.Laws.OwnMore
import Derived.WalkKit
import Derived.StringKeys
import Derived.Maps.OwnSet
import Derived.Maps.AppendAt
import Derived.Test.YtkfgabdnppmglaaGreatDoorQ3
import Derived.Test.YtkfgabdnppmglaaGreatDoorQ7
import Derived.Test.YtkfgabdnppmglaaGreatDoorQ12
import Derived.Test.YtkfgabdnppmglaaGreatDoorQ18
import Derived.Test.YtkfgabdnppmglaaGreatDoorQ22
import Derived.Test.YtkfgabdnppmglaaGreatDoorQ23
import Derived.Test.YtkfgabdnppmglaaGreatDoorQ26
import Derived.Test.YtkfgabdnppmglaaGreatDoorQ31
set_option maxRecDepth 100000
set_option maxHeartbeats 1600000
namespace Go.Wk
theorem zng{N:List ByteArray}{x:Fld}{r:List Fld}:zal N (x :: r)=or2 (zg x.1) (or2 (if zds N x.1 then 6 else 0) (or2 (zc x.2) (zal (N ++ [x.1]) r))):=rfl
theorem zsk{N:List ByteArray}{L:List (List Nd)}(hl:N.length=L.length){k:Nat}(h:k<N.length):
 zal (N.take k) ((N.zip L).drop k)=or2 (zg N[k]) (or2 (if zds (N.take k) N[k] then 6 else 0) (or2 (zc (L[k]'(by omega))) (zal (N.take (k+1)) ((N.zip L).drop (k+1))))):=by
 have hz:k<(N.zip L).length:=by simp;omega
 rw [List.drop_eq_getElem_cons hz,zng,List.getElem_zip,List.take_append_getElem h]
theorem zp8{N:List ByteArray}{j:Nat}(h:j<N.length)(s:ByteArray):zds (N.take (j+1)) s=(zds (N.take j) s || decide (jk N[j] s=0)):=by
 unfold zds;rw [←List.take_append_getElem h,List.any_append];simp
theorem zrE{N:List ByteArray}{L:List (List Nd)}(hl:N.length=L.length){k:Nat}(h:k<N.length):
 (zK ((N.zip L).take (k+1))).length=(zK ((N.zip L).take k)).length+(1+(L[k]'(by omega)).length):=by
 have hz:k<(N.zip L).length:=by simp;omega
 rw [zeC _ _ hz,List.length_append,List.getElem_zip];simp;omega
theorem zg3(Z:List Fld)(p:Fld→Bool):(zK (Z.filter p)).length≤(zK Z).length:=by
 induction Z with
 | nil=>simp
 | cons x r ih =>
  simp only [List.filter_cons,zK,List.length_cons,List.length_append]
  split
  ·simp only [zK,List.length_cons,List.length_append];omega
  ·omega
theorem zst(Z:List Fld):Z.length≤(zK Z).length:=by
 induction Z with
 | nil=>simp
 | cons x r ih=>simp only [zK,List.length_cons,List.length_append];omega
theorem zmW(Z:List Fld)(p:Fld→Bool){i:Nat}(h:i<Z.length):(Z.take (i+1)).filter p=(Z.take i).filter p ++ if p Z[i]=true then [Z[i]] else []:=by
 rw [←List.take_append_getElem h,List.filter_append,List.filter_cons];simp
end Go.Wk
namespace Go.Proofs.YtkfgabdnppmglaaGreatDoor
open Go.RowKit Go.Wk Go.Sort
def zf8(w:World)(N:List ByteArray)(L:List (List Nd))(e:Ending)(w':World):Prop :=
 ∃(A:Option Addr) (n c:Nat),e = .returned (.tuple #[.slice A n c,.int .i64 (zam N L)])∧Ns w' A n c (zcz N L)∧Below w.heap.size w w'∧∀a,A=some a→w.heap.size≤a.block
theorem zdZ{w w':World}{N:List ByteArray}{L:List (List Nd)}{x:Int}(h:zam N L=x)(h0:x≠0)(hb:Below w.heap.size w w'):zf8 w N L (.returned (.tuple #[.slice none 0 0,.int .i64 x])) w' :=
 ⟨none,0,0,by rw [h],by rw [zhl (by rw [h];exact h0)];exact jv _,hb,fun a e=>by cases e⟩
theorem ziU.at{w:World}{A:Option Addr}{N:List ByteArray}(h:ziU w A N){k:Nat}(hk:k<N.length):∃a,A=some a∧w.cell? (a.add k)=some (.string N[k]):=h k N[k] (List.getElem?_eq_getElem hk)
theorem zlY{Z:List Fld}(h:∀y∈Z,y.1.size≤maxLen∧zaj y.2):zaj (zK Z):=by
 induction Z with
 | nil=>intro x hx;cases hx
 | cons y r ih =>
  intro x hx
  simp only [zK] at hx
  rcases List.mem_cons.1 hx with rfl|hx
  ·exact⟨(h y (by simp)).1,Nat.zero_le _,by show _≤(0:Int);omega,by show(0:Int)≤_;omega⟩
  ·rcases List.mem_append.1 hx with hx|hx
   ·exact(h y (by simp)).2 x hx
   ·exact ih (fun z hz=>h z (by simp [hz])) x hx
theorem zqz{a b:ByteArray}(ha:a.size≤maxLen)(hb:b.size≤maxLen)(w:World):∀w',Below w.heap.size w w'→Calls Tryz.prog 55 #[.string a,.string b] w' fun e w''=>e = .returned (.int .i64 (jk a b))∧Below w'.heap.size w' w'' :=
 fun w' _=>zcT a b w' ha hb
theorem znL(A:Option Addr)(n c:Nat)(N:List ByteArray)(A':Option Addr)(m c':Nat)(V:List Sl)(w:World)(hn:n=N.length)(hn2:n≤5864062014634*2)(hT:ziU w A N)(hz:∀x∈N,x.size≤maxLen)(hm:m=V.length)(hm2:m≤5864062014634)(hV:zag w A' V):
 Calls Tryz.prog 31 #[.slice A n c,.slice A' m c'] w (zf8 w N (V.map Sl.P)):=by
 obtain⟨i0,hi,hz0,hz1,hz2⟩:=info_parts zf6;have HT:=hi9 hT;have HV:=hi9 hV;have HN:=hi9 hn;have HM:=hi9 hm;have HZ:=hi9 hz;clear hT hV hz;by_cases hnm:n=m
 ·subst hnm;have HL:=hi9 (show N.length=(V.map Sl.P).length by rw [List.length_map,←hn,←hm]);have HR:=hi9 (show zam N (V.map Sl.P)=or2 (zal [] (N.zip (V.map Sl.P))) (if 200<(zK (N.zip (V.map Sl.P))).length+1 then 4 else 0) by unfold zam;rw [if_pos HL.out]);have HLV:=hi9 (show∀k,(h:k<V.length)→∀h',(V.map Sl.P)[k]'h'=V[k].P from fun k h h'=>by simp);generalize V.map Sl.P=L at *;clear hn hm;go_enter Tryz.func31,Tryz.ntmps31;go_wp2_with fail;go_loopw [6,7,8,9] (fun z i _ _ wr=>∃(k:Nat) (s:Int),k≤n∧i = .int .i64 k∧z = .int .i64 s∧0≤s∧s≤500∧Hid (s≤200→s=((zK ((N.zip L).take k)).length:Int)+1)∧Hid (200<s→200<(zK (N.zip L)).length+1)∧Hid (zal [] (N.zip L)=zal (N.take k) ((N.zip L).drop k))∧Hid (∀j,(h:j<V.length)→j<k→zc V[j].P=0)∧Hid (Below w.heap.size w wr)) (fun _ i _ _ _=>n-(intOf i).toNat)
  case atStart=>exact⟨0,1,Nat.zero_le _,rfl,rfl,by omega,by omega,hi9 (fun _=>by simp [zK]),hi9 (fun h=>by omega),hi9 (by simp),hi9 (fun j _ h=>by omega),Below.refl _ _⟩
  case round =>
   obtain⟨k,s,hk,rfl,rfl,hs0,hs1,hS,hF,hC,hO,hB⟩:=hrel;by_cases hlt:k<n
   ·have hk1:k<N.length:=by rw [←HN.out];exact hlt
    have hk2:k<V.length:=by rw [←HM.out];exact hlt
    obtain⟨a,rfl,c0⟩:=(HT.out.keep hB.out).at hk1;obtain⟨b,rfl,c1,hs⟩:=(HV.out.keep hB.out).at hk2;have HC:=hi9 (hC.out.trans (zsk HL.out hk1));have hkl:k<L.length:=by rw [←HL.out];exact hk1
    have eL:L[k]=V[k].P:=HLV.out k hk2 hkl;have HFL:=hi9 (zrE HL.out hk1);rw [eL] at HC HFL;have zz:=HZ.out _ (List.getElem_mem hk1);have C1:=hi9 (zaX N[k] wr zz);have N1:=hi9 hs;clear hC eL hs;by_cases h1:zg N[k]=0
    ·rw [h1,zx] at HC;rw [h1] at C1;clear h1;go_wp2_with fail;refine(C1.out).mono ?_;rintro e w1 ⟨rfl,rfl⟩;go_wp2_with fail;go_loopw [9] (fun j wj=>∃q:Nat,q≤k∧j = .int .i64 q∧Hid (zds (N.take q) N[k]=false)∧Hid (Below wr.heap.size wr wj)) (fun j _=>k-(intOf j).toNat)
     case atStart=>exact⟨0,Nat.zero_le _,rfl,hi9 rfl,Below.refl _ _⟩
     case round =>
      obtain⟨q,hq,rfl,hH,hJ⟩:=hrel;by_cases hlq:q<k
      ·have hq1:q<N.length:=by omega
       have d0:=za hJ.out c0;obtain⟨a2,ha2,d1⟩:=(HT.out.keep (j2 hB hJ (Nat.le_refl _)).out).at hq1;injection ha2 with ha2;subst ha2;have k0:=cell_regrown d0;have k1:=cell_regrown d1;have HS:=hi9 (zp8 hq1 N[k]);have BJ:=j2 hB hJ (Nat.le_refl _);go_wp2_with fail;refine wp_region_quiet_below (by kernel_rfl) (by kernel_rfl) ?_
       repeat (first|go_big_quiet_step (fail)|quiet_step (fail))
       refine wpQuiet_nil ?_;intro w2 hw';have B2:=hi9 (show Below wr.heap.size wr w2 by obtain⟨⟨d,os⟩,rfl⟩:=hw';exact below_regrown _ _ _);clear hw';have B3:=j2 hJ B2 (Nat.le_refl _);have BJ3:=j2 BJ B2 (by have:=BJ.out.size;omega);clear hJ B2 k0 k1 d0 d1 BJ;by_cases he:N[q]=N[k]
       ·have HE:=hi9 (show zam N L=6 by
         have hh:zds (N.take k) N[k]=true:=zhw.2 (by
          rw [←he]
          exact List.getElem_mem (l:=N.take k) (n:=q) (by simp;omega)|> fun h=>by simpa using h)
         have e:=HC.out
         rw [hh,if_pos rfl] at e
         rw [HR.out,e];rfl)
        have e1:(N[q].toList==N[k].toList)=true:=by rw [he];exact beq_self_eq_true _
        rw [e1]
        clear he HS HC hH e1
        go_wp2
        go_ret2
        exact zdZ HE.out (by decide) BJ3.out
       ·have H2:=hi9 (show zds (N.take (q+1)) N[k]=false by
         rw [HS.out,hH.out,Bool.false_or,decide_eq_false_iff_not]
         exact fun z=>he ((jx.zero _ _).1 z))
        have e1:(N[q].toList==N[k].toList)=false:=beq_eq_false_iff_ne.2 (fun z=>he (toList_inj z))
        rw [e1]
        clear he HS hH e1
        go_wp2
        go_roundw
        case rel=>exact⟨q+1,by omega,by go_num,H2,B3⟩
        case measure=>simp [intOf];omega
      ·have HH:=hi9 (show zds (N.take k) N[k]=false by have:=hH.out;rwa [show q=k by omega] at this);have HC2:=hi9 (HC.out.trans (by rw [HH.out,if_neg (by simp),zx]:_=or2 (zc V[k].P) (zal (N.take (k+1)) ((N.zip L).drop (k+1)))));have BJ:=j2 hB hJ (Nat.le_refl _);have d1:=za hJ.out c1;have N2:=hi9 (N1.out.keep hJ.out);have C2:=hi9 (zbB _ _ _ _ _ N2.out);clear HC hH HH hJ hB c0 c1 N1 C1;by_cases h2:zc V[k].P=0
       ·rw [h2,zx] at HC2;rw [h2] at C2;have O2:=hi9 (show∀j,(h:j<V.length)→j<k+1→zc V[j].P=0 from fun j h hj=>by
         rcases Nat.lt_or_ge j k with h3|h3
         ·exact hO.out j h h3
         ·have:j=k:=by omega
          subst this;exact h2)
        have hP2:=(zP.1 h2).1;have HNL:=hi9 N2.out.len;have hvn:V[k].n≤200:=by rw [N2.out.len];exact hP2
        have HP2:=hi9 hP2;clear hP2;clear h2;go_wp2_with fail;refine(C2.out).mono ?_;rintro e w3 ⟨rfl,b3⟩;have d2:=za b3 d1;have B3:=bh BJ b3;clear b3 BJ d1 C2 N2;by_cases h200:s≤200
        ·have HS2:=hi9 (show s+(1+(V[k].n:Int))=((zK ((N.zip L).take (k+1))).length:Int)+1 by
          have h1:=hS.out h200
          have h2:=HFL.out
          have h3:=HNL.out
          omega)
         have HF2:=hi9 (show 200<s+(1+(V[k].n:Int))→200<(zK (N.zip L)).length+1 from fun h=>by
          have h1:=HS2.out
          have h2:=zbU (N.zip L) (k+1)
          omega)
         go_wp2_with fail
         go_roundw
         case rel=>exact⟨k+1,s+(1+(V[k].n:Int)),by omega,by go_num,rfl,by omega,by omega,hi9 (fun _=>HS2.out),HF2,HC2,O2,B3⟩
         case measure=>simp [intOf];omega
        ·go_wp2_with fail;go_roundw
         case rel=>exact⟨k+1,s,by omega,by go_num,rfl,by omega,by omega,hi9 (fun h=>by omega),hF,HC2,O2,B3⟩
         case measure=>simp [intOf];omega
       ·have HE:=hi9 (show zam N L=zc V[k].P by
         have e:=HC2.out.trans (jc h2 _)
         rw [HR.out,e,jc h2])
        have H2:=hi9 h2
        have e2:(zc V[k].P != 0)=true:=by rw [bne_iff_ne];exact h2
        clear h2 HC2
        go_wp2_with fail
        refine(C2.out).mono ?_
        rintro e w3 ⟨rfl,b3⟩
        have B3:=bh BJ b3
        clear b3
        go_wp2_with fail
        go_ret2
        exact zdZ HE.out H2.out B3.out
    ·have HE:=hi9 (show zam N L=zg N[k] by
      have e:=HC.out.trans (jc h1 _)
      rw [HR.out,e,jc h1])
     have H1:=hi9 h1
     have e1:(zg N[k] != 0)=true:=by rw [bne_iff_ne];exact h1
     clear h1 HC
     go_wp2_with fail
     refine(C1.out).mono ?_
     rintro e w1 ⟨rfl,rfl⟩
     go_wp2_with fail
     go_ret2
     exact zdZ HE.out H1.out hB.out
   ·have hkn:k=n:=by omega
    have HC0:=hi9 (show zal [] (N.zip L)=0 by
     rw [hC.out,List.drop_of_length_le (by rw [List.length_zip,←HL.out,←HN.out];omega)];rfl)
    have HS0:=hi9 (show s≤200→s=((zK (N.zip L)).length:Int)+1 from fun h=>by
     have:=hS.out h
     rwa [List.take_of_length_le (by rw [List.length_zip,←HL.out,←HN.out];omega)] at this)
    clear hC hS hkn;by_cases h200:s≤200
    ·have HE:=hi9 (show zam N L=0 by
      rw [HR.out,HC0.out,zx,if_neg (by have:=HS0.out h200;omega)])
     have HV0:=hi9 (zkf HE.out)
     have hfl:(zK (N.zip L)).length≤199:=by have:=HS0.out h200;omega
     obtain⟨-,hnd,-⟩:=zd9.1 HC0.out
     have HPK:=hi9 (fun r hr=>zvj hnd r hr)
     have hlz:(N.zip L).length=n:=by rw [List.length_zip,←HL.out,←HN.out];omega
     have hls:(zaB (N.zip L)).length=n:=by rw [(j6 _).length_eq,hlz]
     have HFS:=hi9 (show∀r,(zK ((zaB (N.zip L)).take r)).length≤199 from fun r=>Nat.le_trans (zbU _ r) (by rw [zdf (j6 _)];exact hfl))
     have HFF:=hi9 (show∀r i,(zK (((N.zip L).take i).filter fun x=>decide (ju (N.zip L) x.1=r))).length≤199 from fun r i=>Nat.le_trans (zg3 _ _) (Nat.le_trans (zbU _ i) hfl))
     have hn200:n≤200:=by have:=zst (N.zip L);omega
     have HZ1:=hi9 (show∀i,(h:i<N.length)→∃h',(N.zip L)[i]'h'=(N[i],V[i]'(by rw [←HM.out,HN.out];exact h)|>.P) from fun i h=>by
      have h2:i<L.length:=by rw [←HL.out];exact h
      refine⟨by rw [List.length_zip];omega,?_⟩
      rw [List.getElem_zip,HLV.out i (by rw [←HM.out,HN.out];exact h) h2])
     have HOK:=hi9 (show∀x∈N.zip L,zaj x.2 from fun x hx=>by
      obtain⟨i,hi,rfl⟩:=List.getElem_of_mem hx
      have hi1:i<N.length:=by rw [List.length_zip] at hi;omega
      obtain⟨h',e⟩:=HZ1.out i hi1
      rw [e]
      obtain⟨-,-,-,q⟩:=HV.out.at (k:=i) (by rw [←HM.out,HN.out];exact hi1)
      exact q.ok)
     generalize hZ:N.zip L=Z at *
     have HZZ:=hi9 hZ
     generalize hSS:zaB Z=S at *
     have HSS:=hi9 hSS
     have R0:=hi9 (zha wr (zM n))
     have HVF:=hi9 (show∀j,(h:j<V.length)→zc V[j].P=0 from fun j h=>hO.out j h (by have:=HM.out;omega))
     clear hnd hfl hZ hSS HS0 hF hO HC0 HR
     obtain⟨w0,rfl⟩:∃w0:World,w0=wr:=⟨_,rfl⟩
     have B0:=hB
     clear hB
     go_wp2_with fail
     go_loopw [10,11,12,13,14] (fun o r _ _ _ wk=>∃r':Nat,r'≤n∧r = .int .i64 r'∧Hid (wk.ownsRow w0.heap.size 53 4 o (zM n :: zK (S.take r')).length (zO (zM n :: zK (S.take r'))))∧Hid (Below w0.heap.size w0 wk)) (fun _ r _ _ _ _=>n-(intOf r).toNat)
     case atStart=>exact⟨0,Nat.zero_le _,rfl,R0,zb _ _⟩
     case round =>
      obtain⟨r,hr,rfl,hR,hB⟩:=hrel;by_cases hlr:r<n
      ·go_wp2_with fail;go_loopw [10,12,13,14] (fun o i _ _ wk=>∃i':Nat,i'≤n∧i = .int .i64 i'∧Hid (wk.ownsRow w0.heap.size 53 4 o (zM n ::(zK (S.take r)++ zK ((Z.take i').filter fun x=>decide (ju Z x.1=r)))).length (zO (zM n ::(zK (S.take r)++ zK ((Z.take i').filter fun x=>decide (ju Z x.1=r))))))∧Hid (Below w0.heap.size w0 wk)) (fun _ i _ _ _=>n-(intOf i).toNat)
       case atStart=>exact⟨0,Nat.zero_le _,rfl,hi9 (by simpa [zK] using hR.out),hB⟩
       case round =>
        clear hR hB;obtain⟨i,hi',rfl,hR,hB⟩:=hrel;obtain⟨w4,rfl⟩:∃w4:World,w4=wr:=⟨_,rfl⟩
        by_cases hli:i<n
        ·have hi1:i<N.length:=by rw [←HN.out];exact hli
         have hi2:i<V.length:=by rw [←HM.out];exact hli
         obtain⟨hiz,eiz⟩:=HZ1.out i hi1;have BW:=j2 B0 hB (by have:=B0.out.size;omega);obtain⟨a,rfl,c0⟩:=(HT.out.keep BW.out).at hi1;have zi:=HZ.out _ (List.getElem_mem hi1);have EIZ:=hi9 eiz;clear eiz;go_wp2_with fail;go_loopw [13,14] (fun ah j wk=>∃j':Nat,j'≤n∧j = .int .i64 j'∧ah = .int .i64 (ju (Z.take j') N[i])∧Hid (Below w4.heap.size w4 wk)) (fun _ j _=>n-(intOf j).toNat)
         case atStart=>exact⟨0,Nat.zero_le _,rfl,rfl,Below.refl _ _⟩
         case round =>
          obtain⟨j,hj,rfl,rfl,hJ⟩:=hrel;have hah:=zpP (Z.take j) N[i];have hah2:(Z.take j).length≤200:=by simp;omega
          by_cases hlj:j<n
          ·have hj1:j<N.length:=by rw [←HN.out];exact hlj
           obtain⟨hjz,ejz⟩:=HZ1.out j hj1;have HST:=hi9 (show ju (Z.take (j+1)) N[i]=ju (Z.take j) N[i]+if jk N[j] N[i]<0 then 1 else 0 by rw [zmU _ _ _ hjz,ejz]);have d0:=za hJ.out c0;obtain⟨a2,ha2,d1⟩:=(HT.out.keep (j2 BW hJ (by have:=BW.out.size;omega)).out).at hj1;injection ha2 with ha2;subst ha2;have zj:=HZ.out _ (List.getElem_mem hj1);have K:=rq (w:=wr) (zqz zj zi wr);have k0:=cell_regrown d0;have k1:=cell_regrown d1;clear ejz;go_wp2_with fail;refine wp_region_quiet_below (by kernel_rfl) (by kernel_rfl) ?_
           repeat (first|go_big_quiet_step (exact K _ _)|quiet_step (exact K _ _))
           refine wpQuiet_nil ?_;intro w5 hw';have B5:=hi9 (show Below wr.heap.size wr w5 by obtain⟨⟨d,os⟩,rfl⟩:=hw';exact below_regrown _ _ _);clear hw';have BJ:=j2 hJ B5 (by have:=hJ.out.size;omega);clear K k0 k1 d0 d1 hJ B5;by_cases hc:jk N[j] N[i]<0
           ·rw [decide_eq_true hc];have HA2:=hi9 (show((ju (Z.take (j+1)) N[i]:Nat):Int)=(ju (Z.take j) N[i]:Nat)+1 by rw [HST.out,if_pos hc];omega);clear hc HST;go_wp2_with fail;go_roundw
            case rel=>exact⟨j+1,by omega,by go_num,by rw [HA2.out],BJ⟩
            case measure=>simp [intOf];omega
           ·rw [decide_eq_false hc];have HA2:=hi9 (show((ju (Z.take (j+1)) N[i]:Nat):Int)=(ju (Z.take j) N[i]:Nat) by rw [HST.out,if_neg hc];omega);clear hc HST;go_wp2_with fail;go_roundw
            case rel=>exact⟨j+1,by omega,by go_num,by rw [HA2.out],BJ⟩
            case measure=>simp [intOf];omega
          ·have ez:Z.take j=Z:=List.take_of_length_le (by omega);rw [ez] at hah;rw [ez];have RK:=hi9 (hR.out.kept (zh hJ.out none) (by cases hv:u10.ownBlock <;> simp));have BK:=j2 hB hJ (by have:=hB.out.size;omega);have d0:=za hJ.out c0;have HFT:=hi9 (zmW Z (fun x=>decide (ju Z x.1=r)) hiz);have BWJ:=j2 BW hJ (by have:=BW.out.size;omega);have hl1:=HFS.out r;have hl2:=HFF.out r i;clear hJ hR hB BW c0 ez hah2;by_cases hq:ju Z N[i]=r
           ·have e1:(((ju Z N[i]:Nat):Int)==(r:Int))=true:=by rw [hq];exact beq_self_eq_true _
            obtain⟨b,rfl,q,hs⟩:=(HV.out.keep BWJ.out).at hi2;have hv:=HVF.out i hi2;obtain⟨hv2,hV2⟩:=zP.1 hv;obtain⟨a2,ea,-⟩:=hs.at_.nd hV2.pos;rw [ea] at q;have EA:=hi9 ea;have HCS:=hi9 (show∀w',Below wr.heap.size wr w'→∀j u,(zO V[i].P)[j]?=some u→w'.cell? (a2.add j)=some u from fun w' hw=>by
             have:=hs.at_.keep hw
             rw [ea] at this
             exact this.cells)
            have HRN:=hi9 hs.len;have hrn:V[i].n≤200:=by rw [hs.len];exact hv2
            have HOLD:=hi9 (show a2.block<w.heap.size by
             obtain⟨-,-,-,hs0⟩:=HV.out.at hi2
             exact hs0.at_.lt hV2.pos a2 ea)
            have HROW:=hi9 (show zM n ::(zK (S.take r)++ zK ((Z.take (i+1)).filter fun x=>decide (ju Z x.1=r)))=((zM n ::(zK (S.take r)++ zK ((Z.take i).filter fun x=>decide (ju Z x.1=r))))++ [zaS N[i]])++ V[i].P by
             rw [HFT.out,EIZ.out,if_pos (by simp only [decide_eq_true_eq];exact hq),zdz,zga]
             simp)
            have hX0:(zM n ::(zK (S.take r)++ zK ((Z.take i).filter fun x=>decide (ju Z x.1=r)))).length≤400:=by simp;omega
            generalize hX:zM n ::(zK (S.take r)++ zK ((Z.take i).filter fun x=>decide (ju Z x.1=r)))=X at RK HROW hX0;have hsz:=BK.out.size;clear hX hs hv hv2 hV2 ea HFT;rw [show((ju Z N[i]:Nat):Int)=(r:Int) by rw [hq]];clear e1 hq hah;go_wp2_with (at_builtin;refine wpList_append_own _ rfl _ _ 25 rfl w0.heap.size 53 i0 _ 4 48 Tryz.underlying25 hi hz0 hz1 hz2 rfl (by decide) _ X.length (zO X) rfl (RK.out.alloc _) ⟨_,0,none⟩ 1 1 (zO [zaS N[i]]) rfl rfl (jW _ _ _) (zaO _) ?c1 ?c2 ?c3 ?_)
            case c1=>unfold maxLen;omega
            case c2=>omega
            case c3=>simp;omega
            intro v1 w6 hown hgrow _;have B6:=hi9 ((BK.out.alloc BK.out.size _).grown hgrow (by simp;omega) (fun g hg=>by have:=zW RK.out g hg;omega));have BW6:=j2 B0 B6 (by have:=B0.out.size;omega);have OW:=hi9 (show w6.ownsRow w0.heap.size 53 4 v1 (X ++ [zaS N[i]]).length (zO (X ++ [zaS N[i]])) by
             rw [List.length_append,zaH];exact hown)
            have h16:(X ++ [zaS N[i]]).length≤401:=by simp;omega
            obtain⟨b6,hb6,q6,hs6⟩:=(HV.out.keep BW6.out).at hi2;injection hb6 with hb6;subst hb6;rw [EA.out] at q6;have HC6:=hi9 (show∀j u,(zO V[i].P)[j]?=some u→w6.cell? (a2.add j)=some u from by
             have:=hs6.at_
             rw [EA.out] at this
             exact this.cells)
            clear hown hgrow RK HCS hs6 EA q d0;generalize hX1:X ++ [zaS N[i]]=X1 at OW HROW h16;clear hX1;have hsz6:=B6.out.size;go_wp2_with (at_builtin;refine wpList_append_own _ rfl _ _ 25 rfl w0.heap.size 53 i0 _ 4 48 Tryz.underlying25 hi hz0 hz1 hz2 rfl (by decide) _ X1.length (zO X1) rfl OW.out a2 V[i].n V[i].c (zO V[i].P) rfl (by simp [zaf,HRN.out]) HC6.out (zaO _) ?c1 ?c2 ?c3 ?_)
            case c1=>unfold maxLen;omega
            case c2=>omega
            case c3=>omega
            intro v2 w7 hown2 hgrow2 _;have OW2:=hi9 (show w7.ownsRow w0.heap.size 53 4 v2 (X1 ++ V[i].P).length (zO (X1 ++ V[i].P)) by
             rw [List.length_append,zaH,←HRN.out];exact hown2)
            have B7:=hi9 (B6.out.grown hgrow2 (by omega) (fun g hg=>by have:=zW OW.out g hg;omega));rw [←HROW.out] at OW2;clear hown2 hgrow2 OW B6 HROW;go_wp2_with fail;go_roundw
            case rel=>exact⟨i+1,by omega,by go_num,OW2,B7⟩
            case measure=>simp [intOf];omega
           ·have e1:(((ju Z N[i]:Nat):Int)==(r:Int))=false:=beq_eq_false_iff_ne.2 (fun z=>hq (by omega));have RK2:=hi9 (show wr.ownsRow w0.heap.size 53 4 u10 (zM n ::(zK (S.take r)++ zK ((Z.take (i+1)).filter fun x=>decide (ju Z x.1=r)))).length (zO (zM n ::(zK (S.take r)++ zK ((Z.take (i+1)).filter fun x=>decide (ju Z x.1=r))))) by
             rw [HFT.out,EIZ.out,if_neg (by simp only [decide_eq_true_eq];exact hq),List.append_nil]
             exact RK.out)
            clear hq HFT RK;go_wp2_with fail;go_roundw
            case rel=>exact⟨i+1,by omega,by go_num,RK2,BK⟩
            case measure=>simp [intOf];omega
        ·have HPR:=hi9 (show(Z.take i).filter (fun x=>decide (ju Z x.1=r))= [S[r]'(by omega)] by
          rw [List.take_of_length_le (by omega)];exact HPK.out r (by omega))
         have HT2:=hi9 (show zM n ::(zK (S.take r)++ zK ((Z.take i).filter fun x=>decide (ju Z x.1=r)))=zM n :: zK (S.take (r+1)) by
          rw [HPR.out,zeC S r (by omega),zga])
         have R2:=hi9 (by have:=hR.out;rw [HT2.out] at this;exact this)
         clear hR HPR HT2
         go_wp2_with fail
         go_roundw
         case rel=>exact⟨r+1,by omega,by go_num,R2,hB⟩
         case measure=>simp [intOf];omega
      ·obtain⟨A5,c5,rfl,hc5,hA5,hF5⟩:=zaU hR.out;have HF5:=hi9 hF5;have HX:=hi9 (show zM n :: zK (S.take r)=zcz N L by
        rw [HV0.out,List.take_of_length_le (by omega),←HN.out])
       have hlen:(zM n :: zK (S.take r)).length≤200:=by have:=HFS.out r;simp;omega
       have NN:=hi9 (show Ns wr A5 (zM n :: zK (S.take r)).length c5 (zcz N L) by
        rw [←HX.out]
        refine⟨rfl,hc5,by unfold maxLen;omega,hA5,?_⟩
        intro x hx
        rcases List.mem_cons.1 hx with rfl|hx
        ·exact⟨Nat.zero_le _,Nat.zero_le _,by show _≤(n:Int);omega,by show(n:Int)≤_;omega⟩
        ·refine zlY (Z:=S.take r) (fun y hy=>?_) x hx
         have hy2:y∈Z:=by
          have:=List.mem_of_mem_take hy
          rw [←HSS.out] at this
          exact(j6 Z).mem_iff.1 this
         refine⟨?_,HOK.out y hy2⟩
         obtain⟨t,ht,rfl⟩:=List.getElem_of_mem hy2
         have ht1:t<N.length:=by rw [←HN.out];omega
         obtain⟨h',e⟩:=HZ1.out t ht1
         rw [e]
         exact HZ.out _ (List.getElem_mem ht1))
       have B6:=j2 B0 hB (by have:=B0.out.size;omega);clear hR hB hc5 hA5 hF5;go_wp2_with fail;go_ret2;exact⟨A5,_,c5,by rw [HE.out];rfl,NN.out,B6.out,fun a e=>Nat.le_trans B0.out.size (HF5.out a e)⟩
    ·have HE:=hi9 (show zam N L=4 by
      rw [HR.out,HC0.out,zx,if_pos (hF.out (by omega))])
     clear HS0
     go_wp2_with fail
     go_ret2
     exact zdZ HE.out (by decide) hB.out
 ·have HE:=hi9 (show zam N (V.map Sl.P)=1 by unfold zam;rw [if_neg (by rw [List.length_map,←hn,←hm];exact hnm)]);have e0:(n != m)=true:=by rw [bne_iff_ne];exact hnm
  clear hnm hn hm;go_enter Tryz.func31,Tryz.ntmps31;go_wp2_with fail;go_ret2;exact zdZ HE.out (by decide) (Below.refl _ _)
end Go.Proofs.YtkfgabdnppmglaaGreatDoor
namespace Go.Proofs.YtkfgabdnppmglaaGreatDoor
open Go.RowKit Go.Wk Go.Sort Go.Maps
def ziJ(w:World)(N:List ByteArray)(L:List (List Nd))(e:Ending)(w':World):Prop :=
 ∃(A:Option Addr) (n c:Nat),e = .returned (.tuple #[.slice A n c,j3 (zam N L)])∧Ns w' A n c (zcz N L)∧(∀a,A=some a→w.heap.size≤a.block)∧Below w.heap.size w w'
theorem zfC{w w':World}{N:List ByteArray}{L:List (List Nd)}{x:Int}(h:zam N L=x)(h0:x≠0)(hb:Below w.heap.size w w'):ziJ w N L (.returned (.tuple #[.slice none 0 0,j3 x])) w' :=
 ⟨none,0,0,by rw [h],by rw [zhl (by rw [h];exact h0)];exact jv _,(fun a e=>nomatch e),hb⟩
theorem zia:Keyed Tryz.prog 9:=string_keyed Tryz.underlying9
theorem zmp(w:World):(zeroValue 25).run Tryz.prog w = .ok (.slice none 0 0) w:=by kernel_rfl
def zcF(N:List ByteArray)(V:List Sl)(k:Nat):List (ByteArray × Value):=(N.zip (V.map Sl.v)).take k
theorem zeA{P:Program}(w:World){ops:Array Oper}{rest:List Oper}{o:Oper}{a:Act}{Q:Exit→Act→World→Prop}
 (hg:o.guard=none) (m x:Operand) (t:TypeId) (hop:o.op=Op.lookup t m x false)
 (k e:TypeId) (K:Keyed P k) (ht:P.underlying t=some (.map k e)) {z:Value} (hz:(zeroValue e).run P w = .ok z w) (b n:Nat) (D:DataW Value)
 (hm:a.eval m = .map (some b)) (hown:w.ownsMap P k zbg b n D) (key:Value) (kl:Lit) (hx:a.eval x=key) (hkey:keyOf P k key=some kl) (u:Value) (hu:D.atKey kl (.held z)= .held u)
 (hK:wpList P ops Q rest (a.put o.dst u) w):
 wpList P ops Q (o :: rest) a w:=by
 refine wpList_plain hg fun K' hK'=>?_;obtain⟨v,ps,hrun,hv⟩:=hown.lookup K ht hz (zd := .held z) (zp := []) rfl hkey;have:v=u:=by
  unfold zbg at hv;rw [hu] at hv;simp at hv;exact hv.1
 subst this;unfold Oper.wp;simp [execOp,hop,hm,hx,hrun,Result.andThen];exact hK' _ _ hK
theorem zdR{w:World}{B:Nat}{v:Value}{k:Nat}{xs:List Value}(h:w.ownsRow B 9 1 v k xs):∃A c,v = .slice A k c∧∀j u,xs[j]?=some u→∃a,A=some a∧w.cell? (a.add j)=some u:=by
 have h1:=h.1;rcases h.2 with ⟨rfl,h0⟩|⟨g,cap,cur,rfl,_⟩
 ·refine⟨none,0,by rw [h0],fun j u hj=>?_⟩;have:j<xs.length:=(List.getElem?_eq_some_iff.1 hj).1;omega
 ·exact⟨some ⟨g,0,none⟩,cap,rfl,fun j u hj=>⟨_,rfl,h.cells (g:=g) rfl j u hj⟩⟩
theorem ziO{W:World}{base base':Nat}{e e':TypeId}{size size':Nat}{v v':Value}{k k':Nat}{xs xs':List Value}(h:W.ownsRow base e size v k xs)(h':W.ownsRow base' e' size' v' k' xs')(hne:e≠e'):v.ownBlock=none∨v.ownBlock≠v'.ownBlock:=by
 rcases h.2 with ⟨rfl,_⟩|⟨g,cap,cur,rfl,_,hgb,_⟩
 ·exact .inl rfl
 ·refine .inr fun e0=>?_;rcases h'.2 with ⟨rfl,_⟩|⟨g',cap',cur',rfl,_,hgb',_⟩
  ·simp [Value.ownBlock] at e0
  ·have:g=g':=by simpa [Value.ownBlock] using e0
   subst this;rw [hgb] at hgb';simp at hgb';exact hne hgb'.2
theorem zoC{N:List ByteArray}{V:List Sl}{k:Nat}(h1:k<N.length)(h2:k<V.length):zcF N V (k+1)=zcF N V k ++ [(N[k],V[k].v)]:=by
 have hz:k<(N.zip (V.map Sl.v)).length:=by simp;omega
 unfold zcF;rw [←List.take_append_getElem hz,List.getElem_zip,List.getElem_map]
theorem zgD{N:List ByteArray}{V:List Sl}(hl:N.length=V.length)(k:Nat):(zcF N V k).map (·.1)=N.take k:=by
 unfold zcF;rw [List.map_take];congr 1;rw [List.map_fst_zip (by simp;omega)]
theorem zsL{N:List ByteArray}{V:List Sl}(hl:N.length=V.length)(k:Nat)(s:ByteArray):((zcF N V k).any fun p=>decide (p.1=s))=zds (N.take k) s:=by
 have e:((zcF N V k).any fun p=>decide (p.1=s))=((zcF N V k).map (·.1)).any fun x=>decide (x=s):=by rw [List.any_map];rfl
 rw [e,zgD hl];unfold zds;congr 1;funext x;have:=jx.zero x s;simp [this]
theorem znD(A:Option Addr)(n c:Nat)(N:List ByteArray)(A':Option Addr)(m c':Nat)(V:List Sl)(w:World)(hn:n=N.length)(hn2:n≤5864062014634*2)(hT:ziU w A N)(hz:∀x∈N,x.size≤maxLen)(hm:m=V.length)(hm2:m≤5864062014634)(hV:zag w A' V):
 Calls Tryz.prog 120 #[.slice A n c,.slice A' m c'] w (ziJ w N (V.map Sl.P)):=by
 have hmm:=@run_makeMap Tryz.prog;obtain⟨i0,hi,hz0,hz1,hz2⟩:=info_parts zf6;have HT:=hi9 hT;have HV:=hi9 hV;have HN:=hi9 hn;have HM:=hi9 hm;have HZ:=hi9 hz;clear hT hV hz;by_cases hnm:n=m
 ·subst hnm;have HL:=hi9 (show N.length=(V.map Sl.P).length by rw [List.length_map,←hn,←hm]);have HR:=hi9 (show zam N (V.map Sl.P)=or2 (zal [] (N.zip (V.map Sl.P))) (if 200<(zK (N.zip (V.map Sl.P))).length+1 then 4 else 0) by unfold zam;rw [if_pos HL.out]);have HLV:=hi9 (show∀k,(h:k<V.length)→∀h',(V.map Sl.P)[k]'h'=V[k].P from fun k h h'=>by simp);generalize V.map Sl.P=L at *;clear hn hm;go_enter Tryz.func120,Tryz.ntmps120;go_wp2_with fail;go_loopw [7,8,9,10,11,12,25] (fun _ _ _ _ _ _ i wr=>∃k:Nat,k≤n∧i = .int .i64 k∧Hid (wr.ownsMap Tryz.prog 9 zbg w.heap.size k (zfU (zcF N V k)))∧Hid (zal [] (N.zip L)=zal (N.take k) ((N.zip L).drop k))∧Hid (∀j,(h:j<V.length)→j<k→zc V[j].P=0)∧Hid (Below w.heap.size w wr)) (fun _ _ _ _ _ _ i _=>n-(intOf i).toNat)
  case atStart=>exact⟨0,Nat.zero_le _,rfl,hi9 (World.ownsMap_made _ _ _ _),hi9 (by simp),hi9 (fun j _ h=>by omega),hi9 ((Below.refl _ _).alloc (Nat.le_refl _) _)⟩
  case round =>
   obtain⟨k,hk,rfl,hO,hC,hF,hB⟩:=hrel;by_cases hlt:k<n
   ·have hk1:k<N.length:=by rw [←HN.out];exact hlt
    have hk2:k<V.length:=by rw [←HM.out];exact hlt
    obtain⟨a,rfl,c0⟩:=(HT.out.keep hB.out).at hk1;obtain⟨b,rfl,c1,hs⟩:=(HV.out.keep hB.out).at hk2;have HC:=hi9 (hC.out.trans (zsk HL.out hk1));have hkl:k<L.length:=by rw [←HL.out];exact hk1
    have eL:L[k]=V[k].P:=HLV.out k hk2 hkl;rw [eL] at HC;have zz:=HZ.out _ (List.getElem_mem hk1);have C1:=hi9 (zbl N[k] wr zz);have N1:=hi9 hs;clear hC eL hs;by_cases h1:zg N[k]=0
    ·rw [h1,zx] at HC;rw [h1,zo] at C1;clear h1;go_wp2_with fail;refine(C1.out).mono ?_;rintro e w1 ⟨rfl,b1⟩;have O1:=hi9 (zay hO.out b1);have B1:=bh hB b1;have d1:=za b1 c1;have N2:=hi9 (N1.out.keep b1);have HK:=hi9 (show keyOf Tryz.prog 9 (.string N[k])=some (zfM N[k]) from WideMaps.keyOf_string_mk Tryz.underlying9 zz);have HA:=hi9 ((zsO (zcF N V k) N[k]).trans (zsL (by rw [←HN.out,HM.out]) k N[k]));clear C1 N1 c0 c1 b1 hO hB;go_wp2_with (at_lookup;refine wpList_lookup_own_ok _ rfl _ _ 222 rfl 9 25 zia Tryz.underlying222 zbg (zmp _) _ [] rfl w.heap.size k _ rfl O1.out _ _ rfl HK.out ?_);intro v ps hv;rw [HA.out];clear hv HA;have HH:=hi9 (show zds (N.take k) N[k]=true→zam N L=6 from fun hh=>by
      have e:=HC.out
      rw [hh,if_pos rfl] at e
      rw [HR.out,e];rfl)
     have HH2:=hi9 (show zds (N.take k) N[k]=false→zal [] (N.zip L)=or2 (zc V[k].P) (zal (N.take (k+1)) ((N.zip L).drop (k+1))) from fun hh=>by
      have e:=HC.out
      rwa [hh,if_neg (by simp),zx] at e)
     clear HC;generalize zds (N.take k) N[k]=q at *
     cases q with
     | true =>
      have HE:=hi9 (HH.out rfl)
      clear HH HH2
      go_wp2_with fail
      go_ret2
      exact zfC HE.out (by decide) B1.out
     | false =>
      have HC2:=hi9 (HH2.out rfl)
      clear HH HH2
      have C2:=hi9 (zU N2.out)
      by_cases h2:zc V[k].P=0
      ·rw [h2,zx] at HC2
       rw [h2,zo] at C2;have O2:=hi9 (show∀j,(h:j<V.length)→j<k+1→zc V[j].P=0 from fun j h hj=>by
        rcases Nat.lt_or_ge j k with h3|h3
        ·exact hF.out j h h3
        ·have:j=k:=by omega
         subst this;exact h2)
       clear h2 hF;go_wp2_with fail;refine(C2.out).mono ?_;rintro e w3 ⟨rfl,b3⟩;have d3:=za b3 d1;have B3:=bh B1 b3;have O3:=hi9 (zay O1.out b3);clear b3 C2 B1 O1 d1 N2;go_wp2_with (at_mapUpdate;refine wpList_mapUpdate_own _ rfl _ _ _ 222 rfl 9 25 zia Tryz.underlying222 zbg w.heap.size k _ rfl O3.out (by unfold maxLen;omega) _ _ _ rfl rfl HK.out _ [] rfl ?_);intro w4 hown hgrow;have O4:=hi9 (show w4.ownsMap Tryz.prog 9 zbg w.heap.size (k+1) (zfU (zcF N V (k+1))) by
        rw [zoC hk1 hk2,zen];exact hown)
       have B4:=hi9 (B3.out.grown hgrow B3.out.size (fun g hg=>by cases hg;exact Nat.le_refl _));clear hown hgrow O3 B3;go_wp2_with fail;go_roundw
       case rel=>exact⟨k+1,by omega,by go_num,O4,HC2,O2,B4⟩
       case measure=>simp [intOf];omega
      ·have HE:=hi9 (show zam N L=zc V[k].P by
        have e:=HC2.out.trans (jc h2 _)
        rw [HR.out,e,jc h2])
       have H2:=hi9 h2
       have HEV:=hi9 (zC h2)
       have hev:=zC h2
       rw [hev] at C2
       clear h2 HC2 hev
       go_wp2_with fail
       refine(C2.out).mono ?_
       rintro e w3 ⟨rfl,b3⟩
       go_wp2_with fail
       go_ret2
       have:=zfC (w:=w) (L:=L) HE.out H2.out (bh B1 b3).out
       rw [HEV.out] at this
       exact this
    ·have HE:=hi9 (show zam N L=zg N[k] by
      have e:=HC.out.trans (jc h1 _)
      rw [HR.out,e,jc h1])
     have H1:=hi9 h1
     have HEV:=hi9 (zC h1)
     have hev:=zC h1
     rw [hev] at C1
     clear h1 HC hev
     go_wp2_with fail
     refine(C1.out).mono ?_
     rintro e w1 ⟨rfl,b1⟩
     go_wp2_with fail
     go_ret2
     have:=zfC (w:=w) (L:=L) HE.out H1.out (bh hB b1).out
     rw [HEV.out] at this
     exact this
   ·have HC0:=hi9 (show zal [] (N.zip L)=0 by
     rw [hC.out,List.drop_of_length_le (by rw [List.length_zip,←HL.out,←HN.out];omega)];rfl)
    have HVF:=hi9 (show∀j,(h:j<V.length)→zc V[j].P=0 from fun j h=>hF.out j h (by have:=HM.out;omega))
    have HRE:=hi9 (show zam N L=if 200<(zK (N.zip L)).length+1 then 4 else 0 by rw [HR.out,HC0.out,zx])
    obtain⟨-,hnd,-⟩:=zd9.1 HC0.out
    have hzn:(N.zip L).map (·.1)=N:=List.map_fst_zip (by rw [HL.out];exact Nat.le_refl _)
    have hls:(zaB (N.zip L)).length=n:=by rw [(j6 _).length_eq,List.length_zip,←HL.out,←HN.out];omega
    have HSN:=hi9 (show(zhN N).map encStr=(zaB (N.zip L)).map fun x=>Value.string x.1 by
     have h:=zlf hnd
     rw [hzn] at h
     unfold zhN
     rw [←h,List.map_map]
     apply List.map_congr_left
     intro x _
     simp [encStr])
    have HIX:=hi9 (show∀r,(h:r<(zaB (N.zip L)).length)→∃i,∃h1:i<N.length,∃h2:i<V.length,(zaB (N.zip L))[r]=(N[i],V[i].P)∧(zfU (zcF N V k)).atKey (zfM N[i]) (.held (.slice none 0 0))= .held V[i].v from fun r h=>by
     have hm:=(j6 (N.zip L)).mem_iff.1 (List.getElem_mem h)
     obtain⟨i,hi,e⟩:=List.getElem_of_mem hm
     rw [List.length_zip] at hi
     have h1:i<N.length:=by omega
     have h2:i<V.length:=by rw [←HM.out,HN.out];exact h1
     refine⟨i,h1,h2,?_,?_⟩
     ·rw [←e,List.getElem_zip,HLV.out i h2 (by omega)]
     ·refine ztm (p:=(N[i],V[i].v)) ?_ ?_ _
      ·rw [zgD (by rw [←HN.out,HM.out])]
       exact(hzn ▸ hnd).sublist (List.take_sublist _ _)
      ·unfold zcF
       rw [List.take_of_length_le (by simp;have:=HN.out;omega)]
       have hz:i<(N.zip (V.map Sl.v)).length:=by simp;omega
       have:(N.zip (V.map Sl.v))[i]=(N[i],V[i].v):=by rw [List.getElem_zip,List.getElem_map]
       rw [←this];exact List.getElem_mem hz)
    have HFS:=hi9 (show∀r,(zK ((zaB (N.zip L)).take r)).length≤(zK (N.zip L)).length from fun r=>Nat.le_trans (zbU _ r) (by rw [zdf (j6 _)];exact Nat.le_refl _))
    have HFA:=hi9 (show(zK (zaB (N.zip L))).length=(zK (N.zip L)).length from by rw [zdf (j6 _)])
    have HSZ:=hi9 (show∀x∈N.zip L,x.1.size≤maxLen∧zaj x.2 from fun x hx=>by
     obtain⟨i,hi,rfl⟩:=List.getElem_of_mem hx
     rw [List.length_zip] at hi
     have h1:i<N.length:=by omega
     have h2:i<V.length:=by rw [←HM.out,HN.out];exact h1
     rw [List.getElem_zip,HLV.out i h2 (by omega)]
     obtain⟨-,-,-,q⟩:=HV.out.at (k:=i) h2
     exact⟨HZ.out _ (List.getElem_mem h1),q.ok⟩)
    have HRV:=hi9 (fun h:zam N L=0=>zkf h)
    have HMEM:=hi9 (show∀x∈zaB (N.zip L),x∈N.zip L from fun x hx=>(j6 _).mem_iff.1 hx)
    generalize hSS:zaB (N.zip L)=S at *
    generalize zfU (zcF N V k)=D at *
    clear hC hF hnd hzn hSS HC0 HR
    have R0:=hi9 (zha wr (zM n))
    obtain⟨w0,rfl⟩:∃w0:World,w0=wr:=⟨_,rfl⟩
    have B1:=hi9 ((Below.refl w0.heap.size w0).alloc (Nat.le_refl _) (.cells #[.int .i64 (zM n).op,.int .i64 (zM n).n,.string (zM n).s,.string (zM n).t] 53))
    have B2:=hi9 (B1.out.alloc B1.out.size (.cells #[.slice A n c] 70))
    have CS:=hi9 (zmB (w0.heap.size+1) w.heap.size A c N (by rw [←HN.out];omega) ((w0.alloc (.cells #[.int .i64 (zM n).op,.int .i64 (zM n).n,.string (zM n).s,.string (zM n).t] 53)).alloc (.cells #[.slice A n c] 70)) (by simp) (Nat.le_trans hB.out.size B2.out.size)
     (by have:=(Boxed.new (w0.alloc (.cells #[.int .i64 (zM n).op,.int .i64 (zM n).n,.string (zM n).s,.string (zM n).t] 53)) 70 (.slice A n c)).cell;rw [World.size_alloc] at this;rw [←HN.out];exact this) (HT.out.keep (hB.out.trans (B2.out.mono hB.out.size))) (fun a ha h0=>by
      obtain⟨b,hb,q⟩:=HT.out 0 N[0] (List.getElem?_eq_getElem h0)
      rw [ha] at hb
      injection hb with hb
      subst hb
      have:=block_lt_of_cell q
      rwa [zch] at this))
    go_wp2_with fail
    refine(callsIn_wide.1 (zp2 Fence.wide 5 trivial rfl _ _ _ _)).mono ?_
    rintro e w2 ⟨rfl,rfl⟩
    rw [World.size_alloc]
    go_wp2_with fail
    refine(CS.out).mono ?_
    rintro e w3 ⟨v,rfl,hrow,hb⟩
    rw [HSN.out] at hrow
    obtain⟨A5,c5,rfl,-⟩:=zdR hrow
    have HS5:=hi9 hrow
    have B3:=hi9 (B2.out.trans (hb.mono B2.out.size))
    have O3:=hi9 (zay hO.out (B3.out))
    have B4:=hi9 (hB.out.trans (B3.out.mono hB.out.size))
    have R3:=hi9 (((R0.out.alloc (.cells #[.slice A n c] 70)).kept (zh hb none) (by simp [Value.ownBlock])))
    clear hrow CS HSN B1 B2 hb R0
    have HN2:=hi9 HN.out.symm
    rw [←HN.out]
    have hfn:w.heap.size<w0.heap.size:=hO.out.lt
    go_wp2_with fail
    generalize hB5:((w0.alloc (.cells #[.int .i64 (zM n).op,.int .i64 (zM n).n,.string (zM n).s,.string (zM n).t] 53)).alloc (.cells #[.slice A n c] 70)).heap.size=B5 at *
    clear hB5
    go_loopw [13,15,66] (fun o _ i wk=>∃r:Nat,r≤n∧i = .int .i64 r∧(zM n :: zK (S.take r)).length≤200∧Hid (wk.ownsRow w0.heap.size 53 4 o (zM n :: zK (S.take r)).length (zO (zM n :: zK (S.take r))))∧Hid (wk.ownsRow B5 9 1 (.slice A5 n c5) n (S.map fun x=>Value.string x.1))∧Hid (Below w0.heap.size w0 wk)) (fun _ _ i _=>n-(intOf i).toNat)
    case atStart=>exact⟨0,Nat.zero_le _,rfl,by simp [zK],R3,hi9 (by have:=HS5.out;rw [←HN.out] at this;exact this),B3⟩
    case round =>
     clear R3 HS5 O3;obtain⟨r,hr,rfl,hl2,hR,hS,hBk⟩:=hrel;by_cases hlr:r<n
     ·have hr1:r<S.length:=by omega
      obtain⟨i,h1,h2,eS,hat⟩:=HIX.out r hr1;obtain⟨A6,c6,e6,hc6⟩:=zdR hS.out;injection e6 with ea _ ec;subst ea;obtain⟨a,rfl,c0⟩:=hc6 r (.string S[r].1) (by rw [List.getElem?_map,List.getElem?_eq_getElem hr1];rfl);clear hc6 ec;have BW:=hi9 (hB.out.trans (hBk.out.mono hB.out.size));obtain⟨b,hb',q,hs⟩:=(HV.out.keep BW.out).at h2;have hv:=HVF.out i h2;obtain⟨hv2,hV2⟩:=zP.1 hv;obtain⟨a2,ea,-⟩:=hs.at_.nd hV2.pos;have HRN:=hi9 hs.len;have hrn:V[i].n≤200:=by rw [hs.len];exact hv2
      have HSL:=hi9 hs;have EA:=hi9 ea;have HROW:=hi9 (show zM n :: zK (S.take (r+1))=((zM n :: zK (S.take r))++ [zaS N[i]])++ V[i].P by
       rw [zeC S r hr1,eS];simp)
      rw [eS] at c0;have HAT:=hi9 hat;have zi:=HZ.out _ (List.getElem_mem h1);have HK:=hi9 (show keyOf Tryz.prog 9 (.string N[i])=some (zfM N[i]) from WideMaps.keyOf_string_mk Tryz.underlying9 zi);have RK:=hR;generalize hX:zM n :: zK (S.take r)=X at RK HROW hl2;have hsz:=hBk.out.size;clear hX hs hv hv2 hV2 ea hR eS hat q hb';go_wp2_with (at_builtin;refine wpList_append_own _ rfl _ _ 25 rfl w0.heap.size 53 i0 _ 4 48 Tryz.underlying25 hi hz0 hz1 hz2 rfl (by decide) _ X.length (zO X) rfl (RK.out.alloc _) ⟨_,0,none⟩ 1 1 (zO [zaS N[i]]) rfl rfl (jW _ _ _) (zaO _) ?c1 ?c2 ?c3 ?_)
      case c1=>unfold maxLen;omega
      case c2=>omega
      case c3=>first|omega|(simp;omega)
      intro v1 w6 hown hgrow _;have B6:=hi9 ((hBk.out.alloc hBk.out.size _).grown hgrow (by simp;omega) (fun g hg=>by have:=zW RK.out g hg;omega));have S6:=hi9 ((hS.out.alloc _).kept hgrow (by have:=ziO hS.out RK.out (by decide);exact this));have O6:=hi9 (zay hO.out B6.out);have BW6:=hi9 (hB.out.trans (B6.out.mono hB.out.size));have OW:=hi9 (show w6.ownsRow w0.heap.size 53 4 v1 (X ++ [zaS N[i]]).length (zO (X ++ [zaS N[i]])) by
       rw [List.length_append,zaH];exact hown)
      have h16:(X ++ [zaS N[i]]).length≤201:=by simp;omega
      have HC6:=hi9 (show∀j u,(zO V[i].P)[j]?=some u→w6.cell? (a2.add j)=some u from by
       obtain⟨b6,hb6,q6,hs6⟩:=(HV.out.keep BW6.out).at h2
       have:=hs6.at_
       rw [EA.out] at this
       exact this.cells)
      have EV:V[i].v = .slice (some a2) V[i].n V[i].c:=by unfold Sl.v;rw [EA.out]
      rw [EV] at HAT;clear hown hgrow RK hS hBk HSL BW c0;generalize hX1:X ++ [zaS N[i]]=X1 at OW HROW h16;clear hX1;have hsz6:=B6.out.size;go_wp2_with (first|(at_lookup;refine zeA _ rfl _ _ 222 rfl 9 25 zia Tryz.underlying222 (zmp _) w.heap.size k _ rfl O6.out _ _ rfl HK.out _ HAT.out ?_)|(at_builtin;refine wpList_append_own _ rfl _ _ 25 rfl w0.heap.size 53 i0 _ 4 48 Tryz.underlying25 hi hz0 hz1 hz2 rfl (by decide) _ X1.length (zO X1) rfl OW.out a2 V[i].n V[i].c (zO V[i].P) rfl (by simp [zaf,HRN.out]) HC6.out (zaO _) ?c1 ?c2 ?c3 ?_))
      case c1=>unfold maxLen;omega
      case c2=>omega
      case c3=>omega
      intro v2 w7 hown2 hgrow2 _;have B7:=hi9 (B6.out.grown hgrow2 (by omega) (fun g hg=>by have:=zW OW.out g hg;omega));have S7:=hi9 (S6.out.kept hgrow2 (ziO S6.out OW.out (by decide)));have OW2:=hi9 (show w7.ownsRow w0.heap.size 53 4 v2 (X1 ++ V[i].P).length (zO (X1 ++ V[i].P)) by
       rw [List.length_append,zaH,←HRN.out];exact hown2)
      rw [←HROW.out] at OW2;have BW7:=hi9 (hB.out.trans (B7.out.mono hB.out.size));have hf:=HFS.out (r+1);obtain⟨A7,c7,rfl,-,-,-⟩:=zaU OW2.out;clear hown2 hgrow2 OW B6 HROW S6 O6 BW6 HC6 HAT;by_cases h200:200<(zM n :: zK (S.take (r+1))).length
      ·have HE:=hi9 (show zam N L=4 by
        rw [HRE.out,if_pos (by simp at h200;omega)])
       generalize (zM n :: zK (S.take (r+1))).length=G at h200
       go_wp2_with fail
       go_ret2
       exact zfC HE.out (by decide) BW7.out
      ·have hl7:(zM n :: zK (S.take (r+1))).length≤200:=by omega
       obtain⟨G,hG⟩:∃G,G=(zM n :: zK (S.take (r+1))).length:=⟨_,rfl⟩
       have OW3:=OW2;rw [←hG] at h200 OW3;rw [←hG];have HG:=hi9 hG;clear hG;go_wp2_with fail;go_roundw
       case rel=>exact⟨r+1,by omega,by go_num,hl7,by rw [HG.out];exact OW2,S7,B7⟩
       case measure=>simp [intOf];omega
     ·have HTK:=hi9 (show S.take r=S from List.take_of_length_le (by omega));rw [HTK.out] at hl2 hR;have HE:=hi9 (show zam N L=0 by
       rw [HRE.out,if_neg (by have:=HFA.out;simp at hl2;omega)])
      obtain⟨A8,c8,rfl,hc8,hA8,hF8⟩:=zaU hR.out;have HF8:=hi9 (show∀a,A8=some a→w.heap.size≤a.block from fun a e=>Nat.le_trans hB.out.size (hF8 a e));have NN:=hi9 (show Ns wr A8 (zM n :: zK S).length c8 (zcz N L) by
       rw [HRV.out HE.out,←HN.out]
       refine⟨rfl,hc8,by unfold maxLen;omega,hA8,?_⟩
       intro x hx
       rcases List.mem_cons.1 hx with rfl|hx
       ·exact⟨Nat.zero_le _,Nat.zero_le _,by show _≤(n:Int);omega,by show(n:Int)≤_;omega⟩
       ·exact zlY (Z:=S) (fun y hy=>HSZ.out y (HMEM.out y hy)) x hx)
      have BW:=hi9 (hB.out.trans (hBk.out.mono hB.out.size));clear hR hS hc8 hA8 hF8;go_wp2_with fail;go_ret2;exact⟨A8,_,c8,by rw [HE.out];rfl,NN.out,HF8.out,BW.out⟩
 ·have HE:=hi9 (show zam N (V.map Sl.P)=1 by unfold zam;rw [if_neg (by rw [List.length_map,←hn,←hm];exact hnm)]);have e0:(n != m)=true:=by rw [bne_iff_ne];exact hnm
  clear hnm hn hm;go_enter Tryz.func120,Tryz.ntmps120;go_wp2_with fail;go_ret2;exact zfC (x:=1) HE.out (by decide) (Below.refl _ _)
end Go.Proofs.YtkfgabdnppmglaaGreatDoor
