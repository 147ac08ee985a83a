/-
  ref joinRecs: the least above two types of records; ref JoinKinds.
-/
import Derived.Test.YtjcdeikbghjpkaaGreatDoorQ30
import Derived.Test.YtjcdeikbghjpkaaGreatDoorQ34
set_option maxRecDepth 100000
set_option maxHeartbeats 8000000
namespace Go.Wk
def zb8(f g:Fl):Nat→List ByteArray
 | 0 => []
 | 1=>f.list.map (·.1)
 | _=>f.list.map (·.1)++ g.list.map (·.1)
theorem znC{L:List Kfd}{j:Nat}(h:j<L.length)(pre:List ByteArray):pre ++(L.take (j+1)).map (·.1)=(pre ++(L.take j).map (·.1))++ [L[j].1]:=by
 rw [List.take_succ_eq_append_getElem h,List.map_append,List.append_assoc];rfl
theorem zmQ{J:List Kfd}{i m:Nat}(h:∀y∈J,y.1.size≤m):(zcK J i).size≤m:=by
 cases i with
 | zero=>exact Nat.zero_le _
 | succ i =>
  show((J[i]?.map (·.1)).getD emp).size≤m
  rcases hx:J[i]? with _|y
  ·exact Nat.zero_le _
  ·exact h y (List.mem_of_getElem? hx)
end Go.Wk
namespace Go.Proofs.YtjcdeikbghjpkaaGreatDoor
open Go.RowKit Go.Wk Go.Sort
theorem zrS{f g:Fl}{a b:Addr}{n c m d:Nat}{wk:World}{B k:Nat}(hk:k<2)(c0:wk.cell? ⟨B,0,none⟩=some (.slice (some a) n c))(c1:wk.cell? ⟨B,1,none⟩=some (.slice (some b) m d))(hvf:f.validFrom emp)(hvg:g.validFrom emp)(ha:Ns wk (some a) n c (Kd.fs f).flat)(hb:Ns wk (some b) m d (Kd.fs g).flat)(hn:n≤2000)(hm:m≤2000):
 ∃(hh:Fl) (x:Addr) (p q:Nat),wk.cell? ⟨B,k,none⟩=some (.slice (some x) p q)∧Ns wk (some x) p q (Kd.fs hh).flat∧hh.validFrom emp∧p≤2000∧zb8 f g (k+1)=zb8 f g k ++ hh.list.map (·.1):=by
 rcases (show k=0∨k=1 by omega) with rfl|rfl
 ·exact⟨f,a,n,c,c0,ha,hvf,hn,by simp [zb8]⟩
 ·exact⟨g,b,m,d,c1,hb,hvg,hm,by simp [zb8]⟩
theorem zso(N:Nat)(ih:zsO N)(f g:Fl)(hfs:f.sz≤N)(hsz:f.sz+g.sz≤1998)(hvf:f.validFrom emp)(hvg:g.validFrom emp)(A B:Option Addr)(n c m d:Nat)(w:World)(h:Ns w A n c (Kd.fs f).flat)(k:Ns w B m d (Kd.fs g).flat):
 Calls Tryz.prog 63 #[.slice A n c,.slice B m d] w (JnR w (.fs (jC f g (jK g f))) (fun _=>False)):=by
 obtain⟨i0,hi,hz0,hz1,hz2⟩:=info_parts zc5;have hkf:(Kd.fs f).valid:=hvf;have hkg:(Kd.fs g).valid:=hvg;have haf:f.asc:=hkf.ok.1;have hag:g.asc:=hkg.ok.1;obtain⟨a,rfl,hn1,-,-⟩:=zaI h;obtain⟨b,rfl,hm1,-,-⟩:=zaI k;have hn2:n≤2000:=by rw [h.len,jd];simp only [Kd.sz];omega
 have hm2:m≤2000:=by rw [k.len,jd];simp only [Kd.sz];omega
 have hnc:=h.cap;have hmd:=k.cap;have hjs:(jC f g (jK g f)).sz≤1999:=by
  have h1:=ziC hkf.ok hkg.ok;have h2:zm (.fs f) (.fs g)= .fs (jC f g (jK g f)):=by simp [zm,za5,isNone]
  rw [h2] at h1;simp only [Kd.sz] at h1;omega
 have hjv:(Kd.fs (jC f g (jK g f))).valid:=by
  have h2:zm (.fs f) (.fs g)= .fs (jC f g (jK g f)):=by simp [zm,za5,isNone]
  rw [←h2];exact zay _ _ _ (Nat.le_refl _) hkf hkg
 have HJL:=hi9 (show(zav f g).length≤1999 by
  unfold zav
  rw [zeC]
  have:=zgR (jC f g (jK g f))
  rw [zjK] at this
  omega)
 have HOL:=hi9 (fun(x:Int) i=>show(zP x (zav f g) i).length≤2000 by
  have h1:=zqY x (zav f g) i
  unfold zav at h1
  rw [zef] at h1
  unfold zav
  omega)
 have KA:=hi9 (fun s w' (hs:s.size≤maxLen) (hb:Below w.heap.size w w')=>zbY f hvf (some a) n c s w' (h.keep hb) (by omega) hs);have KB:=hi9 (fun s w' (hs:s.size≤maxLen) (hb:Below w.heap.size w w')=>zbY g hvg (some b) m d s w' (k.keep hb) (by omega) hs);have LA:=hi9 (za9.start hvf);have LB:=hi9 (za9.start hvg);have HA:=hi9 h;have HB:=hi9 k;have HVF:=hi9 hvf;have HVG:=hi9 hvg;have HNX:=hi9 (fun i hi nx hx=>zrM hvf hvg haf hag (i:=i) hi (nx:=nx) hx);have HJA:=hi9 (fun i hi=>zsa haf hag (i:=i) hi);have HSZ:=hi9 (fun s m k m' k' (e1:f.find s=some (m,k)) (e2:g.find s=some (m',k'))=>show k.sz≤N∧k.sz+k'.sz≤2000 from⟨by have:=zbG e1;omega,by have:=zbG e1;have:=zbG e2;omega⟩);have HJN:=hi9 (fun(y:Kfd) (hy:y∈zav f g)=>show y.1.size≤maxLen∧y.1.size≤100 by
  have:=zic (zjG (f:=jC f g (jK g f)) (x:=emp) hjv y hy).1
  exact⟨by unfold maxLen;omega,by omega⟩)
 have HALL:=hi9 (zqz (f:=f) (g:=g));have HKV:=hi9 (fun(hl:(Kd.fs (jC f g (jK g f))).sz≤1000000)=>Kd.valid.nds hjv hl);have HJS:=hi9 hjs;have R0:=hi9 (zhq w ⟨46,0,emp,emp⟩);have B1:=hi9 (za w (.cells #[.int .i64 46,.int .i64 0,.string ⟨#[]⟩,.string ⟨#[]⟩] 41));generalize hJ:zav f g=J at *;generalize hF:jC f g (jK g f)=jf at *;have HABL:=hi9 (show a.block<w.heap.size from h.at_.lt (by rw [←h.len];omega) a rfl);have HBBL:=hi9 (show b.block<w.heap.size from k.at_.lt (by rw [←k.len];omega) b rfl);have IH:=hi9 ih;clear h k ih hfs hsz hkf hkg haf hag hjs hjv hJ hF;go_enter Tryz.func63,Tryz.ntmps63;go_wp2_with fail;go_loopg [5,6] J.length (fun g out last wr=>∃i:Nat,i≤J.length∧J.length-i≤g∧last = .string (zcK J i)∧Hid (wr.ownsRow w.heap.size 41 4 out (zP i J i).length (zh (zP i J i)))∧Hid (Below w.heap.size w wr))
 case atStart=>exact⟨0,Nat.zero_le _,by omega,rfl,R0.out,B1⟩
 case round =>
  obtain⟨i,hiJ,hg,rfl,hR,hB⟩:=hrel;obtain⟨W1,rfl⟩:∃W1,W1=wr:=⟨_,rfl⟩
  have hls:(zcK J i).size≤maxLen:=zmQ fun y hy=>(HJN.out y hy).1;have HNI:=hi9 (fun nx hx=>HNX.out i hiJ nx hx);have HLN:=hi9 (show∀hl:i<J.length,zcK J (i+1)=J[i].1 from fun hl=>by simp [zcK,List.getElem?_eq_getElem hl]);generalize zcK J i=last at *;have BB:=hi9 (za W1 (.cells #[.slice (some a) n c,.slice (some b) m d] 26));have HC:=hi9 (zV W1 [.slice (some a) n c,.slice (some b) m d] 26);have HC0:=hi9 (show(W1.alloc (.cells #[.slice (some a) n c,.slice (some b) m d] 26)).cell? ⟨W1.heap.size,0,none⟩=some (.slice (some a) n c) from HC.out 0 _ rfl);have HC1:=hi9 (show(W1.alloc (.cells #[.slice (some a) n c,.slice (some b) m d] 26)).cell? ⟨W1.heap.size,1,none⟩=some (.slice (some b) m d) from HC.out 1 _ rfl);clear HC;go_wp2_with fail;go_loopw [7,9] (fun nx kk wk=>∃(k:Nat) (s:ByteArray),kk = .int .i64 k∧k≤2∧nx = .string s∧s.size≤maxLen∧Hid (zbi (zb8 f g k) last s)∧Hid (Below W1.heap.size W1 wk)∧Hid (wk.cell? ⟨W1.heap.size,0,none⟩=some (.slice (some a) n c))∧Hid (wk.cell? ⟨W1.heap.size,1,none⟩=some (.slice (some b) m d))) (fun _ kk _=>2-(intOf kk).toNat)
  case atStart=>exact⟨0,emp,rfl,by omega,rfl,Nat.zero_le _,zbi.nil _,BB,HC0,HC1⟩
  case round =>
   obtain⟨k,s,rfl,hk,rfl,hss,hN,hK,hC0,hC1⟩:=hrel;obtain⟨W2,rfl⟩:∃W2,W2=wr:=⟨_,rfl⟩
   have BK:=zhL hB hK (Nat.le_refl _);by_cases hk2:k<2
   ·obtain⟨hh,x,p,q,cx,nsx,vx,px,ex⟩:=zrS (f:=f) (g:=g) hk2 hC0.out hC1.out HVF.out HVG.out (HA.out.keep BK.out) (HB.out.keep BK.out) hn2 hm2;have FO:=hi9 (zfN hh vx (some x) p q W2 nsx (by omega));have NX:=hi9 nsx;have EX:=hi9 ex;have LX:=hi9 (za9.start vx);have VX:=hi9 vx;have hhl:hh.len<p:=by
     rw [nsx.len,Kd.flat,List.length_cons];have:=zgR hh;omega
    have HLH:=hi9 (zeC hh);have hlt:W1.heap.size<W2.heap.size:=block_lt_of_cell cx;clear nsx ex vx;go_wp2_with fail;refine FO.out.mono ?_;rintro e w5 ⟨A5,c5,rfl,hc5,hI5,b5⟩;have I5:=hi9 hI5;have B5:=hi9 b5;have cx5:=hi9 (zb b5 cx);clear hI5 b5 FO cx;go_wp2_with fail;go_loopw [7,11] (fun nx ii wj=>∃(j:Nat) (s:ByteArray),ii = .int .i64 j∧j≤hh.len∧nx = .string s∧s.size≤maxLen∧Hid (zbi (zb8 f g k ++(hh.list.take j).map (·.1)) last s)∧Hid (Below w5.heap.size w5 wj)) (fun _ ii _=>hh.len-(intOf ii).toNat)
    case atStart=>exact⟨0,s,rfl,Nat.zero_le _,rfl,hss,hi9 (by simpa using hN.out),Below.refl _ _⟩
    case round =>
     obtain⟨j,nx,rfl,hj,rfl,hsn,hM,hJ⟩:=hrel;have BJ:=hi9 (B5.out.trans (hJ.out.mono B5.out.size));by_cases hlt2:j<hh.len
     ·have hjl:j<hh.list.length:=by rw [HLH.out];exact hlt2
      obtain⟨qq,hq,hfd⟩:=LX.out.at j _ (List.getElem?_eq_getElem hjl);obtain⟨ai,rfl,hci⟩:=(I5.out.keep hJ.out) j qq hq;obtain⟨a',ea,p0,p1,p2,p3⟩:=(NX.out.keep BJ.out).at_ qq _ hfd.nd;injection ea with ea;subst ea;have hqn:qq<p:=by rw [NX.out.len];exact(List.getElem?_eq_some_iff.1 hfd.nd).1
      have hys:=(NX.out.ok _ (List.mem_of_getElem? hfd.nd)).s;have HST:=hi9 (show zbi (zb8 f g k ++(hh.list.take (j+1)).map (·.1)) last (zcz last nx hh.list[j].1) by
       rw [znC hjl]
       exact hM.out.step (zfT VX.out _ (List.getElem_mem hjl)))
      have cxj:=zb hJ.out cx5.out;simp only [zbM] at p2 hys;generalize hh.list[j]=y at *;obtain⟨ys,ym,yk⟩:=y;simp only at p2 hys HST;clear hfd p0 p1 p3 hq hM;have k0:=cell_regrown cxj;have k1:=cell_regrown hci;have k2:=cell_regrown p2;go_wp2_with fail;refine wp_region_quiet_below (by kernel_rfl) (by kernel_rfl) ?_
      repeat (first|go_big_quiet_step (fail)|quiet_step (fail))
      refine wpQuiet_nil ?_;intro w6 hw';have B6:=hi9 (show Below wr.heap.size wr w6 by obtain⟨⟨d,os⟩,rfl⟩:=hw';exact below_regrown _ _ _);clear hw';clear k0 k1 k2 cxj hci p2;have J6:=zhL hJ B6 (Nat.le_refl _);have T1:=hi9 (zcj ys last w6 hys hls);clear hJ B6 BJ;go_wp2_with fail;refine T1.out.mono ?_;rintro e w7 ⟨rfl,b7⟩;have J7:=hi9 (J6.out.trans (b7.mono J6.out.size));clear b7 T1 J6;by_cases h1:0<zO ys last
      ·rcases zfP nx with rfl|⟨h2,hne1,hne2⟩
       ·have HST2:=hi9 (show zbi (zb8 f g k ++(hh.list.take (j+1)).map (·.1)) last ys by
         have:=HST.out
         unfold zcz at this
         rwa [if_pos ⟨h1,.inl rfl⟩] at this)
        go_wp2_with fail
        go_roundw
        case rel=>exact⟨j+1,ys,by go_num,hlt2,rfl,hys,HST2,J7⟩
        case measure=>simp [intOf];omega
       ·have T2:=hi9 (zcj ys nx w7 hys hsn);go_wp2_with fail;refine T2.out.mono ?_;rintro e w8 ⟨rfl,b8⟩;have J8:=hi9 (J7.out.trans (b8.mono J7.out.size));clear b8 T2 J7;by_cases h3:zO ys nx<0
        ·have HST2:=hi9 (show zbi (zb8 f g k ++(hh.list.take (j+1)).map (·.1)) last ys by
          have:=HST.out
          unfold zcz at this
          rwa [if_pos ⟨h1,.inr h3⟩] at this)
         go_wp2_with fail
         go_roundw
         case rel=>exact⟨j+1,ys,by go_num,hlt2,rfl,hys,HST2,J8⟩
         case measure=>simp [intOf];omega
        ·have HST2:=hi9 (show zbi (zb8 f g k ++(hh.list.take (j+1)).map (·.1)) last nx by
          have:=HST.out
          unfold zcz at this
          rwa [if_neg (fun h=>h.2.elim h2 h3)] at this)
         go_wp2_with fail
         go_roundw
         case rel=>exact⟨j+1,nx,by go_num,hlt2,rfl,hsn,HST2,J8⟩
         case measure=>simp [intOf];omega
      ·have HST2:=hi9 (show zbi (zb8 f g k ++(hh.list.take (j+1)).map (·.1)) last nx by
        have:=HST.out
        unfold zcz at this
        rwa [if_neg (fun h=>h1 h.1)] at this)
       go_wp2_with fail
       go_roundw
       case rel=>exact⟨j+1,nx,by go_num,hlt2,rfl,hsn,HST2,J7⟩
       case measure=>simp [intOf];omega
     ·have HN2:=hi9 (show zbi (zb8 f g (k+1)) last nx by
       have:=hM.out
       rw [List.take_of_length_le (by rw [HLH.out];omega)] at this
       rw [EX.out];exact this)
      have K2:=hi9 (hK.out.trans (BJ.out.mono hK.out.size))
      have c0':=hi9 (zb BJ.out hC0.out)
      have c1':=hi9 (zb BJ.out hC1.out)
      clear hM hN hJ I5 NX LX VX EX
      go_wp2_with fail
      go_roundw
      case rel=>exact⟨k+1,nx,by go_num,by omega,rfl,hsn,HN2,K2,c0',c1'⟩
      case measure=>simp [intOf];omega
   ·obtain rfl:k=2:=by omega
    have HNM:=hi9 (HNI.out s hN.out);have hRk:=hi9 (hR.out.kept (zc hK.out none) (by cases hv:u5.ownBlock <;> simp));clear hN HNI hC0 hC1 hR hB;by_cases hiL:i<J.length
    ·obtain⟨hs1,hs2⟩:=HNM.out.1 hiL;have HJX:=hi9 (HJA.out i hiL);have HST:=hi9 (fun(z:Int)=>zjF (J:=J) hiL z);have HLS:=hi9 (HLN.out hiL);have hjl:=HJL.out;have HO1:=hi9 (HOL.out i i);have HO2:=hi9 (HOL.out ((i+1:Nat):Int) (i+1));have HYL0:=hi9 (show(J[i].2.2).flat.length≤2000 by
      have h1:=HOL.out 0 (i+1)
      rw [zjF hiL] at h1
      simp only [List.length_cons,List.length_append] at h1
      omega)
     clear HNM HJA HLN;generalize J[i]=y at *;obtain⟨ys,ym,yk⟩:=y;simp only at hs1 HJX HST HLS HYL0;have HYL:=HYL0;subst hs1;rcases zfP s with hne|⟨-,hne1,hne2⟩
     ·exact absurd hne hs2
     have CA:=hi9 (KA.out s W2 hss BK.out);rcases hRk.out.2 with ⟨-,h0⟩|⟨gb,cap,cur,hu5,hgB,-⟩
     ·simp [zP] at h0
     subst hu5;have hgw:gb<W2.heap.size:=zd9 hRk.out gb rfl;go_wp2_with fail;refine CA.out.mono ?_;rintro e w3 ⟨rfl,b3⟩;have B3:=hi9 (BK.out.trans (b3.mono BK.out.size));have R3:=hi9 (z8 hRk.out b3);have hz3:=b3.size;have CB:=hi9 (KB.out s w3 hss B3.out);clear b3 CA BK;go_wp2_with fail;refine CB.out.mono ?_;rintro e w4 ⟨rfl,b4⟩;have B4:=hi9 (B3.out.trans (b4.mono B3.out.size));have R4:=hi9 (z8 R3.out b4);have hz4:=b4.size;clear b4 CB B3 R3 hRk;have PA:=hi9 (fun q m k w' (hf:zff (Kd.fs f).flat q s m k) (hb:Below w.heap.size w w')=>zce _ q s m k hf a n c w' (HA.out.keep hb));have PB:=hi9 (fun q m k w' (hf:zff (Kd.fs g).flat q s m k) (hb:Below w.heap.size w w')=>zce _ q s m k hf b _ d w' (HB.out.keep hb));have BX4:=hi9 (B4.out.alloc B4.out.size (.cells #[.int .i64 47,.int .i64 0,.string s,.string ⟨#[]⟩] 41));have RX4:=hi9 (R4.out.alloc (.cells #[.int .i64 47,.int .i64 0,.string s,.string ⟨#[]⟩] 41));have XC:=zV w4 [.int .i64 47,.int .i64 0,.string s,.string ⟨#[]⟩] 41;have X0:=hi9 (show(w4.alloc (.cells #[.int .i64 47,.int .i64 0,.string s,.string ⟨#[]⟩] 41)).cell? ⟨w4.heap.size,0,none⟩=some (.int .i64 47) from XC 0 _ rfl);have X1:=hi9 (show(w4.alloc (.cells #[.int .i64 47,.int .i64 0,.string s,.string ⟨#[]⟩] 41)).cell? ⟨w4.heap.size,1,none⟩=some (.int .i64 0) from XC 1 _ rfl);have X2:=hi9 (show(w4.alloc (.cells #[.int .i64 47,.int .i64 0,.string s,.string ⟨#[]⟩] 41)).cell? ⟨w4.heap.size,2,none⟩=some (.string s) from XC 2 _ rfl);have X3:=hi9 (show(w4.alloc (.cells #[.int .i64 47,.int .i64 0,.string s,.string ⟨#[]⟩] 41)).cell? ⟨w4.heap.size,3,none⟩=some (.string ⟨#[]⟩) from XC 3 _ rfl);have XF:=hi9 (show(w4.alloc (.cells #[.int .i64 47,.int .i64 0,.string s,.string ⟨#[]⟩] 41)).frozen? ⟨w4.heap.size,1,none⟩=false by have h:=heap_alloc_new w4 (.cells #[.int .i64 47,.int .i64 0,.string s,.string ⟨#[]⟩] 41);unfold World.frozen?;rw [h];simp);clear XC B4 R4;have HX:=HJX.out;have habl:a.block<w.heap.size∧b.block<w.heap.size:=⟨HABL.out,HBBL.out⟩
     obtain⟨habl1,habl2⟩:=habl;rcases hff:f.find s with _|⟨m1,k1⟩
     ·rcases hgf:g.find s with _|⟨m2,k2⟩
      ·rw [hff,hgf] at HX;cases HX
      ·rw [hff,hgf] at HX;simp only [jn,Option.some.injEq,Prod.mk.injEq] at HX;obtain⟨rfl,rfl⟩:=HX;obtain⟨q2,hq2,hfd2⟩:=zbo LB.out hgf;rw [zcv hff,hq2];have FD:=hi9 hfd2;clear hfd2 hff hgf hq2;go_wp2_with fail;refine(PB.out q2 m2 k2 _ FD.out BX4.out).mono ?_;rintro e wz ⟨rfl,b5⟩;have Bz:=hi9 (BX4.out.trans (b5.mono BX4.out.size));have NO:=hi9 (zex FD.out (HB.out.keep Bz.out));have Rz:=hi9 (z8 RX4.out b5);have Y0:=hi9 (zb b5 X0.out);have Y1:=hi9 (zb b5 X1.out);have Y2:=hi9 (zb b5 X2.out);have Y3:=hi9 (zb b5 X3.out);clear b5 X0 X1 X2 X3 XF RX4 BX4 PA PB;have NB:=hi9 (show(b.add ((q2+1)*4)).block≠gb by rw [jx];omega);have hgx:gb<w4.heap.size:=by omega
       have hgne:gb≠w4.heap.size:=by omega
       have hxz:w4.heap.size<wz.heap.size:=block_lt_of_cell Y0.out;have hlen:=HO1.out;have hlen0:0<(zP (i:Int) J i).length:=by simp [zP]
       have c1':wz.cell? ⟨gb,1,none⟩=some (.int .i64 i):=by
        rw [Rz.out.cellAt 1 (by simp [zP];omega)];rfl
       have f1:=Rz.out.frozenAt 1;obtain⟨rowS,grS⟩:=Rz.out.stored 1 (.int .i64 ((i:Int)+1));rw [show(zh (zP (i:Int) J i)).set 1 (.int .i64 ((i:Int)+1))=zh (zP ((i:Int)+1) J i) from rfl] at rowS;have RS:=hi9 rowS;have NS:=hi9 (NO.out.but grS (fun _ b e=>by injection e with e;subst e;exact NB.out));have BS:=hi9 (Bz.out.grown grS Bz.out.size (fun k hk=>by injection hk with hk;omega));have Z0:=hi9 (grS.cell Y0.out (fun e=>hgne (Option.some.inj e).symm));have Z1:=hi9 (grS.cell Y1.out (fun e=>hgne (Option.some.inj e).symm));have Z2:=hi9 (grS.cell Y2.out (fun e=>hgne (Option.some.inj e).symm));have Z3:=hi9 (grS.cell Y3.out (fun e=>hgne (Option.some.inj e).symm));have hss:=BS.out.size;clear rowS grS Rz NO Bz;have CN:=zV (wz.setCell ⟨gb,1,none⟩ (.int .i64 ((i:Int)+1))) (zh [⟨47,0,s,⟨#[]⟩⟩]) 41;rw [show(wz.setCell ⟨gb,1,none⟩ (.int .i64 ((i:Int)+1))).heap.size=wz.heap.size by simp [World.setCell]] at CN;obtain⟨y0,y1,y2,y3⟩:=And.intro Y0.out (And.intro Y1.out (And.intro Y2.out Y3.out));go_wp2_with (at_builtin;refine wpList_append_own _ rfl _ _ 26 rfl w.heap.size 41 i0 _ 4 48 Tryz.underlying26 hi hz0 hz1 hz2 rfl (by decide) _ (zP (i:Int) J i).length (zh (zP ((i:Int)+1) J i)) rfl (RS.out.alloc _) ⟨wz.heap.size,0,none⟩ 1 1 (zh [⟨47,0,s,⟨#[]⟩⟩]) rfl rfl CN (je _) ?c1 ?c2 ?c3 ?_)
       case c1=>unfold maxLen;omega
       case c2=>omega
       case c3=>simp;omega
       intro v1 w6 hown hgrow _;have hown':w6.ownsRow w.heap.size 41 4 v1 (zP ((i:Int)+1) J i ++ [(⟨47,0,s,⟨#[]⟩⟩:Nd)]).length (zh (zP ((i:Int)+1) J i ++ [(⟨47,0,s,⟨#[]⟩⟩:Nd)])):=by
        rw [zK,List.length_append];exact hown
       obtain⟨A6,c6,rfl,-⟩:=ji hown';have hl6:(zP ((i:Int)+1) J i ++ [(⟨47,0,s,⟨#[]⟩⟩:Nd)]).length=(zP (i:Int) J i).length+1:=by rw [List.length_append];rfl
       rw [hl6] at hown';rw [hl6];have HL6:=hi9 hl6;have O6:=hi9 hown';have N6:=hi9 ((NS.out.keep (za _ _)).but (R:=gb) hgrow (fun _ b e=>by injection e with e;subst e;exact NB.out));have B6:=hi9 (zaT BS.out (Nat.le_refl _) RS.out _ hgrow);have hs6:=B6.out.size;have hykl:k2.flat.length≤2000:=HYL.out;clear CN hown hown' hgrow hl6 y0 y1 y2 y3 Z0 Z1 Z2 Z3 NS BS RS c1' f1 Y0 Y1 Y2 Y3;go_wp2_with (at_builtin;refine wpList_append_own _ rfl _ _ 26 rfl w.heap.size 41 i0 _ 4 48 Tryz.underlying26 hi hz0 hz1 hz2 rfl (by decide) _ ((zP (i:Int) J i).length+1) (zh (zP ((i:Int)+1) J i ++ [(⟨47,0,s,⟨#[]⟩⟩:Nd)])) rfl O6.out _ k2.flat.length _ (zh k2.flat) rfl (jm _) N6.out.at_.cells (je _) ?d1 ?d2 ?d3 ?_)
       case d1=>unfold maxLen;omega
       case d2=>omega
       case d3=>exact hs6
       intro v2 w7 hown2 hgrow2 _;have B7:=hi9 (B6.out.grown hgrow2 hs6 (zD O6.out));have O7:=hi9 (show w7.ownsRow w.heap.size 41 4 v2 (zP ((i+1:Nat):Int) J (i+1)).length (zh (zP ((i+1:Nat):Int) J (i+1))) by
        have e:zP ((i+1:Nat):Int) J (i+1)=(zP ((i:Int)+1) J i ++ [(⟨47,0,s,⟨#[]⟩⟩:Nd)])++ k2.flat:=by
         rw [HST.out];simp [zP,zbM,emp]
        rw [e,zK,List.length_append,HL6.out]
        exact hown2)
       obtain⟨A7,c7,rfl,-⟩:=ji O7.out;clear hown2 hgrow2 O6 N6 B6;go_wp2_with fail;go_roundg (J.length-(i+1))
       case measure=>omega
       case rel=>exact⟨i+1,by omega,Nat.le_refl _,by rw [HLS.out],O7,B7⟩
     ·rcases hgf:g.find s with _|⟨m2,k2⟩
      ·rw [hff,hgf] at HX;simp only [jn,Option.some.injEq,Prod.mk.injEq] at HX;obtain⟨rfl,rfl⟩:=HX;obtain⟨q2,hq2,hfd2⟩:=zbo LA.out hff;rw [zcv hgf,hq2];have FD:=hi9 hfd2;have hq0:decide ((q2:Int)<0)=false:=decide_eq_false (by omega);clear hfd2 hff hgf hq2;go_wp2_with fail;refine(PA.out q2 m1 k1 _ FD.out BX4.out).mono ?_;rintro e wz ⟨rfl,b5⟩;have Bz:=hi9 (BX4.out.trans (b5.mono BX4.out.size));have NO:=hi9 (zex FD.out (HA.out.keep Bz.out));have Rz:=hi9 (z8 RX4.out b5);have Y0:=hi9 (zb b5 X0.out);have Y1:=hi9 (zb b5 X1.out);have Y2:=hi9 (zb b5 X2.out);have Y3:=hi9 (zb b5 X3.out);clear b5 X0 X1 X2 X3 XF RX4 BX4 PA PB;have NB:=hi9 (show(a.add ((q2+1)*4)).block≠gb by rw [jx];omega);have hgx:gb<w4.heap.size:=by omega
       have hgne:gb≠w4.heap.size:=by omega
       have hxz:w4.heap.size<wz.heap.size:=block_lt_of_cell Y0.out;have hlen:=HO1.out;have hlen0:0<(zP (i:Int) J i).length:=by simp [zP]
       have c1':wz.cell? ⟨gb,1,none⟩=some (.int .i64 i):=by
        rw [Rz.out.cellAt 1 (by simp [zP];omega)];rfl
       have f1:=Rz.out.frozenAt 1;obtain⟨rowS,grS⟩:=Rz.out.stored 1 (.int .i64 ((i:Int)+1));rw [show(zh (zP (i:Int) J i)).set 1 (.int .i64 ((i:Int)+1))=zh (zP ((i:Int)+1) J i) from rfl] at rowS;have RS:=hi9 rowS;have NS:=hi9 (NO.out.but grS (fun _ b e=>by injection e with e;subst e;exact NB.out));have BS:=hi9 (Bz.out.grown grS Bz.out.size (fun k hk=>by injection hk with hk;omega));have Z0:=hi9 (grS.cell Y0.out (fun e=>hgne (Option.some.inj e).symm));have Z1:=hi9 (grS.cell Y1.out (fun e=>hgne (Option.some.inj e).symm));have Z2:=hi9 (grS.cell Y2.out (fun e=>hgne (Option.some.inj e).symm));have Z3:=hi9 (grS.cell Y3.out (fun e=>hgne (Option.some.inj e).symm));have hss:=BS.out.size;clear rowS grS Rz NO Bz;have CN:=zV (wz.setCell ⟨gb,1,none⟩ (.int .i64 ((i:Int)+1))) (zh [⟨47,0,s,⟨#[]⟩⟩]) 41;rw [show(wz.setCell ⟨gb,1,none⟩ (.int .i64 ((i:Int)+1))).heap.size=wz.heap.size by simp [World.setCell]] at CN;obtain⟨y0,y1,y2,y3⟩:=And.intro Y0.out (And.intro Y1.out (And.intro Y2.out Y3.out));go_wp2_with (at_builtin;refine wpList_append_own _ rfl _ _ 26 rfl w.heap.size 41 i0 _ 4 48 Tryz.underlying26 hi hz0 hz1 hz2 rfl (by decide) _ (zP (i:Int) J i).length (zh (zP ((i:Int)+1) J i)) rfl (RS.out.alloc _) ⟨wz.heap.size,0,none⟩ 1 1 (zh [⟨47,0,s,⟨#[]⟩⟩]) rfl rfl CN (je _) ?c1 ?c2 ?c3 ?_)
       case c1=>unfold maxLen;omega
       case c2=>omega
       case c3=>simp;omega
       intro v1 w6 hown hgrow _;have hown':w6.ownsRow w.heap.size 41 4 v1 (zP ((i:Int)+1) J i ++ [(⟨47,0,s,⟨#[]⟩⟩:Nd)]).length (zh (zP ((i:Int)+1) J i ++ [(⟨47,0,s,⟨#[]⟩⟩:Nd)])):=by
        rw [zK,List.length_append];exact hown
       obtain⟨A6,c6,rfl,-⟩:=ji hown';have hl6:(zP ((i:Int)+1) J i ++ [(⟨47,0,s,⟨#[]⟩⟩:Nd)]).length=(zP (i:Int) J i).length+1:=by rw [List.length_append];rfl
       rw [hl6] at hown';rw [hl6];have HL6:=hi9 hl6;have O6:=hi9 hown';have N6:=hi9 ((NS.out.keep (za _ _)).but (R:=gb) hgrow (fun _ b e=>by injection e with e;subst e;exact NB.out));have B6:=hi9 (zaT BS.out (Nat.le_refl _) RS.out _ hgrow);have hs6:=B6.out.size;have hykl:k1.flat.length≤2000:=HYL.out;clear CN hown hown' hgrow hl6 y0 y1 y2 y3 Z0 Z1 Z2 Z3 NS BS RS c1' f1 Y0 Y1 Y2 Y3;go_wp2_with (at_builtin;refine wpList_append_own _ rfl _ _ 26 rfl w.heap.size 41 i0 _ 4 48 Tryz.underlying26 hi hz0 hz1 hz2 rfl (by decide) _ ((zP (i:Int) J i).length+1) (zh (zP ((i:Int)+1) J i ++ [(⟨47,0,s,⟨#[]⟩⟩:Nd)])) rfl O6.out _ k1.flat.length _ (zh k1.flat) rfl (jm _) N6.out.at_.cells (je _) ?d1 ?d2 ?d3 ?_)
       case d1=>unfold maxLen;omega
       case d2=>omega
       case d3=>exact hs6
       intro v2 w7 hown2 hgrow2 _;have B7:=hi9 (B6.out.grown hgrow2 hs6 (zD O6.out));have O7:=hi9 (show w7.ownsRow w.heap.size 41 4 v2 (zP ((i+1:Nat):Int) J (i+1)).length (zh (zP ((i+1:Nat):Int) J (i+1))) by
        have e:zP ((i+1:Nat):Int) J (i+1)=(zP ((i:Int)+1) J i ++ [(⟨47,0,s,⟨#[]⟩⟩:Nd)])++ k1.flat:=by
         rw [HST.out];simp [zP,zbM,emp]
        rw [e,zK,List.length_append,HL6.out]
        exact hown2)
       obtain⟨A7,c7,rfl,-⟩:=ji O7.out;clear hown2 hgrow2 O6 N6 B6;go_wp2_with fail;go_roundg (J.length-(i+1))
       case measure=>omega
       case rel=>exact⟨i+1,by omega,Nat.le_refl _,by rw [HLS.out],O7,B7⟩
      ·rw [hff,hgf] at HX;simp only [jn,Option.some.injEq,Prod.mk.injEq] at HX;obtain⟨rfl,rfl⟩:=HX;obtain⟨q1,hq1,hfd1⟩:=zbo LA.out hff;obtain⟨q2,hq2,hfd2⟩:=zbo LB.out hgf;rw [hq1,hq2];have FD1:=hi9 hfd1;have FD2:=hi9 hfd2;have hz12:=HSZ.out _ _ _ _ _ hff hgf;have hq01:decide ((q1:Int)<0)=false:=decide_eq_false (by omega);have hq02:decide ((q2:Int)<0)=false:=decide_eq_false (by omega);have hq1n:q1<n:=by rw [HA.out.len];exact(List.getElem?_eq_some_iff.1 hfd1.nd).1
       have hq2m:q2<m:=by rw [HB.out.len];exact(List.getElem?_eq_some_iff.1 hfd2.nd).1
       have JK:=hi9 (fun w' (hb:Below w.heap.size w w')=>IH.out k1 k2 hz12.1 hz12.2 FD1.out.valid FD2.out.valid _ _ _ _ _ _ w' (zex FD1.out (HA.out.keep hb)) (zex FD2.out (HB.out.keep hb)));clear hfd1 hfd2 hff hgf hq1 hq2;go_wp2_with fail;refine(PA.out q1 m1 k1 _ FD1.out BX4.out).mono ?_;rintro e w5 ⟨rfl,b5⟩;have B5:=hi9 (BX4.out.trans (b5.mono BX4.out.size));have R5:=hi9 (z8 RX4.out b5);have X50:=hi9 (zb b5 X0.out);have X51:=hi9 (zb b5 X1.out);have X52:=hi9 (zb b5 X2.out);have X53:=hi9 (zb b5 X3.out);have XF5:=hi9 ((b5.frozen (p:=⟨w4.heap.size,1,none⟩) (by simp)).trans XF.out);clear b5 X0 X1 X2 X3 XF RX4 BX4 PA;go_wp2_with fail;refine(PB.out q2 m2 k2 _ FD2.out B5.out).mono ?_;rintro e w6 ⟨rfl,b6⟩;have B6:=hi9 (B5.out.trans (b6.mono B5.out.size));have R6:=hi9 (z8 R5.out b6);have hx5:w4.heap.size<w5.heap.size:=block_lt_of_cell X50.out;have X60:=hi9 (zb b6 X50.out);have X61:=hi9 (zb b6 X51.out);have X62:=hi9 (zb b6 X52.out);have X63:=hi9 (zb b6 X53.out);have XF6:=hi9 ((b6.frozen (p:=⟨w4.heap.size,1,none⟩) hx5).trans XF5.out);have JK6:=hi9 (JK.out w6 B6.out);clear b6 X50 X51 X52 X53 XF5 R5 B5 PB JK;go_wp2_with fail;refine(JK6.out).mono ?_;rintro e w7 ⟨A7,c7,rfl,n7,b7,hD⟩;obtain⟨a7,rfl,-,-,-⟩:=zaI n7;have B7:=hi9 (B6.out.trans (b7.mono B6.out.size));have R7:=hi9 (z8 R6.out b7);have hx6:w4.heap.size<w6.heap.size:=block_lt_of_cell X60.out;have X70:=hi9 (zb b7 X60.out);have X71:=hi9 (zb b7 X61.out);have X72:=hi9 (zb b7 X62.out);have X73:=hi9 (zb b7 X63.out);have XF7:=hi9 ((b7.frozen (p:=⟨w4.heap.size,1,none⟩) hx6).trans XF6.out);have hx7:w4.heap.size<w7.heap.size:=block_lt_of_cell X70.out;have NB:=hi9 (show a7.block≠gb from by
        rcases hD a7 rfl with h|⟨x,hx,hxb⟩|⟨x,hx,hxb⟩
        ·omega
        ·injection hx with hx;rw [←hxb,←hx,jx];omega
        ·injection hx with hx;rw [←hxb,←hx,jx];omega)
       have NX4:=hi9 (show a7.block≠w4.heap.size from by
        rcases hD a7 rfl with h|⟨x,hx,hxb⟩|⟨x,hx,hxb⟩
        ·omega
        ·injection hx with hx;rw [←hxb,←hx,jx];omega
        ·injection hx with hx;rw [←hxb,←hx,jx];omega)
       have N7:=hi9 n7;clear b7 X60 X61 X62 X63 XF6 R6 B6 JK6 hD n7;obtain⟨a',ea,-,p1,-,-⟩:=(HA.out.keep B7.out).at_ q1 _ FD1.out.nd;injection ea with ea;subst ea;obtain⟨a',ea,-,p2,-,-⟩:=(HB.out.keep B7.out).at_ q2 _ FD2.out.nd;injection ea with ea;subst ea;simp only [zbM] at p1 p2;clear FD1 FD2;cases m1
       ·simp only [Bool.false_eq_true,if_false] at p1;obtain⟨wz,hwz⟩:∃wz,wz=w7:=⟨_,rfl⟩
        subst hwz;have Bz:=B7;have Rz:=R7;have NO:=N7;have Y0:=X70;have Y1:=X71;have Y2:=X72;have Y3:=X73;clear B7 R7 N7 X70 X71 X72 X73 XF7;have hgx:gb<w4.heap.size:=by omega
        have hgne:gb≠w4.heap.size:=by omega
        have hxz:w4.heap.size<wz.heap.size:=block_lt_of_cell Y0.out;have hlen:=HO1.out;have hlen0:0<(zP (i:Int) J i).length:=by simp [zP]
        have c1':wz.cell? ⟨gb,1,none⟩=some (.int .i64 i):=by
         rw [Rz.out.cellAt 1 (by simp [zP];omega)];rfl
        have f1:=Rz.out.frozenAt 1;obtain⟨rowS,grS⟩:=Rz.out.stored 1 (.int .i64 ((i:Int)+1));rw [show(zh (zP (i:Int) J i)).set 1 (.int .i64 ((i:Int)+1))=zh (zP ((i:Int)+1) J i) from rfl] at rowS;have RS:=hi9 rowS;have NS:=hi9 (NO.out.but grS (fun _ b e=>by injection e with e;subst e;exact NB.out));have BS:=hi9 (Bz.out.grown grS Bz.out.size (fun k hk=>by injection hk with hk;omega));have Z0:=hi9 (grS.cell Y0.out (fun e=>hgne (Option.some.inj e).symm));have Z1:=hi9 (grS.cell Y1.out (fun e=>hgne (Option.some.inj e).symm));have Z2:=hi9 (grS.cell Y2.out (fun e=>hgne (Option.some.inj e).symm));have Z3:=hi9 (grS.cell Y3.out (fun e=>hgne (Option.some.inj e).symm));have hss:=BS.out.size;clear rowS grS Rz NO Bz;have CN:=zV (wz.setCell ⟨gb,1,none⟩ (.int .i64 ((i:Int)+1))) (zh [⟨47,0,s,⟨#[]⟩⟩]) 41;rw [show(wz.setCell ⟨gb,1,none⟩ (.int .i64 ((i:Int)+1))).heap.size=wz.heap.size by simp [World.setCell]] at CN;obtain⟨y0,y1,y2,y3⟩:=And.intro Y0.out (And.intro Y1.out (And.intro Y2.out Y3.out));go_wp2_with (at_builtin;refine wpList_append_own _ rfl _ _ 26 rfl w.heap.size 41 i0 _ 4 48 Tryz.underlying26 hi hz0 hz1 hz2 rfl (by decide) _ (zP (i:Int) J i).length (zh (zP ((i:Int)+1) J i)) rfl (RS.out.alloc _) ⟨wz.heap.size,0,none⟩ 1 1 (zh [⟨47,0,s,⟨#[]⟩⟩]) rfl rfl CN (je _) ?c1 ?c2 ?c3 ?_)
        case c1=>unfold maxLen;omega
        case c2=>omega
        case c3=>simp;omega
        intro v1 w6 hown hgrow _;have hown':w6.ownsRow w.heap.size 41 4 v1 (zP ((i:Int)+1) J i ++ [(⟨47,0,s,⟨#[]⟩⟩:Nd)]).length (zh (zP ((i:Int)+1) J i ++ [(⟨47,0,s,⟨#[]⟩⟩:Nd)])):=by
         rw [zK,List.length_append];exact hown
        obtain⟨A6,c6,rfl,-⟩:=ji hown';have hl6:(zP ((i:Int)+1) J i ++ [(⟨47,0,s,⟨#[]⟩⟩:Nd)]).length=(zP (i:Int) J i).length+1:=by rw [List.length_append];rfl
        rw [hl6] at hown';rw [hl6];have HL6:=hi9 hl6;have O6:=hi9 hown';have N6:=hi9 ((NS.out.keep (za _ _)).but (R:=gb) hgrow (fun _ b e=>by injection e with e;subst e;exact NB.out));have B6:=hi9 (zaT BS.out (Nat.le_refl _) RS.out _ hgrow);have hs6:=B6.out.size;have hykl:(zm k1 k2).flat.length≤2000:=HYL.out;clear CN hown hown' hgrow hl6 y0 y1 y2 y3 Z0 Z1 Z2 Z3 NS BS RS c1' f1 Y0 Y1 Y2 Y3;go_wp2_with (at_builtin;refine wpList_append_own _ rfl _ _ 26 rfl w.heap.size 41 i0 _ 4 48 Tryz.underlying26 hi hz0 hz1 hz2 rfl (by decide) _ ((zP (i:Int) J i).length+1) (zh (zP ((i:Int)+1) J i ++ [(⟨47,0,s,⟨#[]⟩⟩:Nd)])) rfl O6.out _ (zm k1 k2).flat.length _ (zh (zm k1 k2).flat) rfl (jm _) N6.out.at_.cells (je _) ?d1 ?d2 ?d3 ?_)
        case d1=>unfold maxLen;omega
        case d2=>omega
        case d3=>exact hs6
        intro v2 w7 hown2 hgrow2 _;have B7:=hi9 (B6.out.grown hgrow2 hs6 (zD O6.out));have O7:=hi9 (show w7.ownsRow w.heap.size 41 4 v2 (zP ((i+1:Nat):Int) J (i+1)).length (zh (zP ((i+1:Nat):Int) J (i+1))) by
         have e:zP ((i+1:Nat):Int) J (i+1)=(zP ((i:Int)+1) J i ++ [(⟨47,0,s,⟨#[]⟩⟩:Nd)])++(zm k1 k2).flat:=by
          rw [HST.out];simp [zP,zbM,emp]
         rw [e,zK,List.length_append,HL6.out]
         exact hown2)
        obtain⟨A7,c7,rfl,-⟩:=ji O7.out;clear hown2 hgrow2 O6 N6 B6;go_wp2_with fail;go_roundg (J.length-(i+1))
        case measure=>omega
        case rel=>exact⟨i+1,by omega,Nat.le_refl _,by rw [HLS.out],O7,B7⟩
       ·simp only [if_true] at p1;cases m2
        ·simp only [Bool.false_eq_true,if_false] at p2;obtain⟨wz,hwz⟩:∃wz,wz=w7:=⟨_,rfl⟩
         subst hwz;have Bz:=B7;have Rz:=R7;have NO:=N7;have Y0:=X70;have Y1:=X71;have Y2:=X72;have Y3:=X73;clear B7 R7 N7 X70 X71 X72 X73 XF7;have hgx:gb<w4.heap.size:=by omega
         have hgne:gb≠w4.heap.size:=by omega
         have hxz:w4.heap.size<wz.heap.size:=block_lt_of_cell Y0.out;have hlen:=HO1.out;have hlen0:0<(zP (i:Int) J i).length:=by simp [zP]
         have c1':wz.cell? ⟨gb,1,none⟩=some (.int .i64 i):=by
          rw [Rz.out.cellAt 1 (by simp [zP];omega)];rfl
         have f1:=Rz.out.frozenAt 1;obtain⟨rowS,grS⟩:=Rz.out.stored 1 (.int .i64 ((i:Int)+1));rw [show(zh (zP (i:Int) J i)).set 1 (.int .i64 ((i:Int)+1))=zh (zP ((i:Int)+1) J i) from rfl] at rowS;have RS:=hi9 rowS;have NS:=hi9 (NO.out.but grS (fun _ b e=>by injection e with e;subst e;exact NB.out));have BS:=hi9 (Bz.out.grown grS Bz.out.size (fun k hk=>by injection hk with hk;omega));have Z0:=hi9 (grS.cell Y0.out (fun e=>hgne (Option.some.inj e).symm));have Z1:=hi9 (grS.cell Y1.out (fun e=>hgne (Option.some.inj e).symm));have Z2:=hi9 (grS.cell Y2.out (fun e=>hgne (Option.some.inj e).symm));have Z3:=hi9 (grS.cell Y3.out (fun e=>hgne (Option.some.inj e).symm));have hss:=BS.out.size;clear rowS grS Rz NO Bz;have CN:=zV (wz.setCell ⟨gb,1,none⟩ (.int .i64 ((i:Int)+1))) (zh [⟨47,0,s,⟨#[]⟩⟩]) 41;rw [show(wz.setCell ⟨gb,1,none⟩ (.int .i64 ((i:Int)+1))).heap.size=wz.heap.size by simp [World.setCell]] at CN;obtain⟨y0,y1,y2,y3⟩:=And.intro Y0.out (And.intro Y1.out (And.intro Y2.out Y3.out));go_wp2_with (at_builtin;refine wpList_append_own _ rfl _ _ 26 rfl w.heap.size 41 i0 _ 4 48 Tryz.underlying26 hi hz0 hz1 hz2 rfl (by decide) _ (zP (i:Int) J i).length (zh (zP ((i:Int)+1) J i)) rfl (RS.out.alloc _) ⟨wz.heap.size,0,none⟩ 1 1 (zh [⟨47,0,s,⟨#[]⟩⟩]) rfl rfl CN (je _) ?c1 ?c2 ?c3 ?_)
         case c1=>unfold maxLen;omega
         case c2=>omega
         case c3=>simp;omega
         intro v1 w6 hown hgrow _;have hown':w6.ownsRow w.heap.size 41 4 v1 (zP ((i:Int)+1) J i ++ [(⟨47,0,s,⟨#[]⟩⟩:Nd)]).length (zh (zP ((i:Int)+1) J i ++ [(⟨47,0,s,⟨#[]⟩⟩:Nd)])):=by
          rw [zK,List.length_append];exact hown
         obtain⟨A6,c6,rfl,-⟩:=ji hown';have hl6:(zP ((i:Int)+1) J i ++ [(⟨47,0,s,⟨#[]⟩⟩:Nd)]).length=(zP (i:Int) J i).length+1:=by rw [List.length_append];rfl
         rw [hl6] at hown';rw [hl6];have HL6:=hi9 hl6;have O6:=hi9 hown';have N6:=hi9 ((NS.out.keep (za _ _)).but (R:=gb) hgrow (fun _ b e=>by injection e with e;subst e;exact NB.out));have B6:=hi9 (zaT BS.out (Nat.le_refl _) RS.out _ hgrow);have hs6:=B6.out.size;have hykl:(zm k1 k2).flat.length≤2000:=HYL.out;clear CN hown hown' hgrow hl6 y0 y1 y2 y3 Z0 Z1 Z2 Z3 NS BS RS c1' f1 Y0 Y1 Y2 Y3;go_wp2_with (at_builtin;refine wpList_append_own _ rfl _ _ 26 rfl w.heap.size 41 i0 _ 4 48 Tryz.underlying26 hi hz0 hz1 hz2 rfl (by decide) _ ((zP (i:Int) J i).length+1) (zh (zP ((i:Int)+1) J i ++ [(⟨47,0,s,⟨#[]⟩⟩:Nd)])) rfl O6.out _ (zm k1 k2).flat.length _ (zh (zm k1 k2).flat) rfl (jm _) N6.out.at_.cells (je _) ?d1 ?d2 ?d3 ?_)
         case d1=>unfold maxLen;omega
         case d2=>omega
         case d3=>exact hs6
         intro v2 w7 hown2 hgrow2 _;have B7:=hi9 (B6.out.grown hgrow2 hs6 (zD O6.out));have O7:=hi9 (show w7.ownsRow w.heap.size 41 4 v2 (zP ((i+1:Nat):Int) J (i+1)).length (zh (zP ((i+1:Nat):Int) J (i+1))) by
          have e:zP ((i+1:Nat):Int) J (i+1)=(zP ((i:Int)+1) J i ++ [(⟨47,0,s,⟨#[]⟩⟩:Nd)])++(zm k1 k2).flat:=by
           rw [HST.out];simp [zP,zbM,emp]
          rw [e,zK,List.length_append,HL6.out]
          exact hown2)
         obtain⟨A7,c7,rfl,-⟩:=ji O7.out;clear hown2 hgrow2 O6 N6 B6;go_wp2_with fail;go_roundg (J.length-(i+1))
         case measure=>omega
         case rel=>exact⟨i+1,by omega,Nat.le_refl _,by rw [HLS.out],O7,B7⟩
        ·simp only [if_true] at p2;have x1:=X71.out;have xf:=XF7.out;have hne7:(a.add (q1*4)).block≠w4.heap.size:=by rw [jx];omega
         have gs:w7.grownBy (w7.setCell ⟨w4.heap.size,1,none⟩ (.int .i64 1)) (some w4.heap.size):=zg w7 ⟨w4.heap.size,1,none⟩ (.int .i64 1);have hgne0:gb≠w4.heap.size:=by omega
         have Bz:=hi9 (B7.out.grown gs B7.out.size (fun k hk=>by injection hk with hk;omega));have Rz:=hi9 (R7.out.kept gs (.inr (fun e=>hgne0 (Option.some.inj e))));have NA7:=hi9 (show a7.block≠w4.heap.size from NX4.out);have NO:=hi9 (N7.out.but gs (fun _ b e=>by injection e with e;subst e;exact NA7.out));have Y1:=hi9 (World.cell?_setCell_same w7 ⟨w4.heap.size,1,none⟩ (.int .i64 1) x1);have Y0:=hi9 ((World.cell?_setCell_other w7 ⟨w4.heap.size,1,none⟩ ⟨w4.heap.size,0,none⟩ (.int .i64 1) (by simp)).trans X70.out);have Y2:=hi9 ((World.cell?_setCell_other w7 ⟨w4.heap.size,1,none⟩ ⟨w4.heap.size,2,none⟩ (.int .i64 1) (by simp)).trans X72.out);have Y3:=hi9 ((World.cell?_setCell_other w7 ⟨w4.heap.size,1,none⟩ ⟨w4.heap.size,3,none⟩ (.int .i64 1) (by simp)).trans X73.out);have g1:w7.cell? ⟨gb,1,none⟩=some (.int .i64 i):=by
          rw [R7.out.cellAt 1 (by simp [zP];have:=HO1.out;omega)];rfl
         have gf:=R7.out.frozenAt 1;have z0:=X70.out;have z2:=X72.out;have z3:=X73.out;clear gs B7 R7 N7 X70 X71 X72 X73 XF7;have hgx:gb<w4.heap.size:=by omega
         have hgne:gb≠w4.heap.size:=by omega
         have hxz:w4.heap.size<(w7.setCell ⟨w4.heap.size,1,none⟩ (.int .i64 1)).heap.size:=block_lt_of_cell Y0.out;have hlen:=HO1.out;have hlen0:0<(zP (i:Int) J i).length:=by simp [zP]
         have c1':(w7.setCell ⟨w4.heap.size,1,none⟩ (.int .i64 1)).cell? ⟨gb,1,none⟩=some (.int .i64 i):=by
          rw [Rz.out.cellAt 1 (by simp [zP];omega)];rfl
         have f1:=Rz.out.frozenAt 1;obtain⟨rowS,grS⟩:=Rz.out.stored 1 (.int .i64 ((i:Int)+1));rw [show(zh (zP (i:Int) J i)).set 1 (.int .i64 ((i:Int)+1))=zh (zP ((i:Int)+1) J i) from rfl] at rowS;have RS:=hi9 rowS;have NS:=hi9 (NO.out.but grS (fun _ b e=>by injection e with e;subst e;exact NB.out));have BS:=hi9 (Bz.out.grown grS Bz.out.size (fun k hk=>by injection hk with hk;omega));have Z0:=hi9 (grS.cell Y0.out (fun e=>hgne (Option.some.inj e).symm));have Z1:=hi9 (grS.cell Y1.out (fun e=>hgne (Option.some.inj e).symm));have Z2:=hi9 (grS.cell Y2.out (fun e=>hgne (Option.some.inj e).symm));have Z3:=hi9 (grS.cell Y3.out (fun e=>hgne (Option.some.inj e).symm));have hss:=BS.out.size;clear rowS grS Rz NO Bz;have CN:=zV ((w7.setCell ⟨w4.heap.size,1,none⟩ (.int .i64 1)).setCell ⟨gb,1,none⟩ (.int .i64 ((i:Int)+1))) (zh [⟨47,1,s,⟨#[]⟩⟩]) 41;rw [show((w7.setCell ⟨w4.heap.size,1,none⟩ (.int .i64 1)).setCell ⟨gb,1,none⟩ (.int .i64 ((i:Int)+1))).heap.size=w7.heap.size by simp [World.setCell]] at CN;obtain⟨y0,y1,y2,y3⟩:=And.intro Y0.out (And.intro Y1.out (And.intro Y2.out Y3.out));go_wp2_with (at_builtin;refine wpList_append_own _ rfl _ _ 26 rfl w.heap.size 41 i0 _ 4 48 Tryz.underlying26 hi hz0 hz1 hz2 rfl (by decide) _ (zP (i:Int) J i).length (zh (zP ((i:Int)+1) J i)) rfl (RS.out.alloc _) ⟨w7.heap.size,0,none⟩ 1 1 (zh [⟨47,1,s,⟨#[]⟩⟩]) rfl rfl CN (je _) ?c1 ?c2 ?c3 ?_)
         case c1=>unfold maxLen;omega
         case c2=>omega
         case c3=>simp;omega
         intro v1 w6 hown hgrow _;have hown':w6.ownsRow w.heap.size 41 4 v1 (zP ((i:Int)+1) J i ++ [(⟨47,1,s,⟨#[]⟩⟩:Nd)]).length (zh (zP ((i:Int)+1) J i ++ [(⟨47,1,s,⟨#[]⟩⟩:Nd)])):=by
          rw [zK,List.length_append];exact hown
         obtain⟨A6,c6,rfl,-⟩:=ji hown';have hl6:(zP ((i:Int)+1) J i ++ [(⟨47,1,s,⟨#[]⟩⟩:Nd)]).length=(zP (i:Int) J i).length+1:=by rw [List.length_append];rfl
         rw [hl6] at hown';rw [hl6];have HL6:=hi9 hl6;have O6:=hi9 hown';have N6:=hi9 ((NS.out.keep (za _ _)).but (R:=gb) hgrow (fun _ b e=>by injection e with e;subst e;exact NB.out));have B6:=hi9 (zaT BS.out (Nat.le_refl _) RS.out _ hgrow);have hs6:=B6.out.size;have hykl:(zm k1 k2).flat.length≤2000:=HYL.out;clear CN hown hown' hgrow hl6 y0 y1 y2 y3 Z0 Z1 Z2 Z3 NS BS RS c1' f1 Y0 Y1 Y2 Y3;go_wp2_with (at_builtin;refine wpList_append_own _ rfl _ _ 26 rfl w.heap.size 41 i0 _ 4 48 Tryz.underlying26 hi hz0 hz1 hz2 rfl (by decide) _ ((zP (i:Int) J i).length+1) (zh (zP ((i:Int)+1) J i ++ [(⟨47,1,s,⟨#[]⟩⟩:Nd)])) rfl O6.out _ (zm k1 k2).flat.length _ (zh (zm k1 k2).flat) rfl (jm _) N6.out.at_.cells (je _) ?d1 ?d2 ?d3 ?_)
         case d1=>unfold maxLen;omega
         case d2=>omega
         case d3=>exact hs6
         intro v2 w7 hown2 hgrow2 _;have B7:=hi9 (B6.out.grown hgrow2 hs6 (zD O6.out));have O7:=hi9 (show w7.ownsRow w.heap.size 41 4 v2 (zP ((i+1:Nat):Int) J (i+1)).length (zh (zP ((i+1:Nat):Int) J (i+1))) by
          have e:zP ((i+1:Nat):Int) J (i+1)=(zP ((i:Int)+1) J i ++ [(⟨47,1,s,⟨#[]⟩⟩:Nd)])++(zm k1 k2).flat:=by
           rw [HST.out];simp [zP,zbM,emp]
          rw [e,zK,List.length_append,HL6.out]
          exact hown2)
         obtain⟨A7,c7,rfl,-⟩:=ji O7.out;clear hown2 hgrow2 O6 N6 B6;go_wp2_with fail;go_roundg (J.length-(i+1))
         case measure=>omega
         case rel=>exact⟨i+1,by omega,Nat.le_refl _,by rw [HLS.out],O7,B7⟩
    ·have hiE:i=J.length:=by omega
     have hs0:s=⟨#[]⟩:=HNM.out.2 hiE;subst hs0;have HA2:=hi9 (show zP (i:Int) J i=(Kd.fs jf).flat by rw [hiE];exact HALL.out);obtain⟨A5,c5,hu5,-⟩:=ji hRk.out;subst hu5;have hsz:(Kd.fs jf).sz≤1000000:=by have:=HJS.out;simp only [Kd.sz];omega
     have NK:=hi9 (HKV.out hsz);have HLL:=hi9 (HOL.out i i);clear hsz HNM HJA HLN HOL;go_wp2_with fail;go_ret;have R9:=hRk.out;have hl9:=HLL.out;rw [HA2.out] at R9 hl9;refine⟨A5,c5,by rw [HA2.out];rfl,zjR R9 (by omega) NK.out,BK.out,fun y hy => .inl ?_⟩;subst hy;exact zD R9 _ rfl
theorem zhB:∀N:Nat,zsO N
 | 0=>fun k1 _ h=>by cases k1 <;> simp [Kd.sz] at h
 | N+1=>by
  intro k1 k2 hsz hs2 v1 v2 A B n c m d w h k;obtain⟨a,ea,hn1,d0,d2⟩:=zaI h;obtain⟨b,eb,hm1,e0,e2⟩:=zaI k;have hl:n≤4000:=by rw [h.len,jd];omega
  have hl2:m≤4000:=by rw [k.len,jd];omega
  by_cases h49:opN k1=49
  ·rw [zht v1 h49,zeD (by trivial) v2.ok,za1 rfl,ea,eb];refine(zp7 a b n c m d _ _ _ _ w hn1 hm1 hl hl2 h.cap k.cap d0 d2 e0 e2 h49).mono ?_;rintro e w' ⟨rfl,hb⟩;subst eb;exact⟨some b,d,by rw [k.len],by have:=k.keep hb;rwa [k.len] at this,hb,fun x hx => .inr (.inr ⟨b,rfl,by injection hx with hx;rw [hx]⟩)⟩
  by_cases g49:opN k2=49
  ·rw [zht v2 g49,za1 rfl,ea,eb];refine(zrU a b n c m d _ _ _ _ w hn1 hm1 hl hl2 h.cap k.cap d0 d2 e0 e2 h49 g49).mono ?_;rintro e w' ⟨rfl,hb⟩;subst ea;exact⟨some a,c,by rw [h.len],by have:=h.keep hb;rwa [h.len] at this,hb,fun x hx => .inr (.inl ⟨a,rfl,by injection hx with hx;rw [hx]⟩)⟩
  by_cases hd:opN k1≠opN k2∨nmN k1≠nmN k2
  ·have hr:zm k1 k2 = .base 48:=by
    by_cases a48:opN k1=48
    ·rw [zk0 v1 a48,zeD (by trivial) v2.ok,zby rfl]
    ·by_cases b48:opN k2=48
     ·rw [zk0 v2 b48,zby rfl]
     ·exact znY v1 v2 h49 b48 a48 g49 hd
   rw [hr,ea,eb]
   refine(zs4 a b n c m d _ _ _ _ w hn1 hm1 hl hl2 h.cap k.cap d0 d2 e0 e2 h49 g49 ?_).mono fun e w' hh=>zkt hh
   by_cases ho:opN k1=opN k2
   ·refine .inr ⟨hd.resolve_left (fun q=>q ho),fun e45=>?_,fun e46=>?_⟩
    ·refine hd.elim (fun q=>q ho) fun q=>q ?_;have:∀k:Kd,k.valid→opN k=45→nmN k=emp:=fun k v e=>by
      cases k with
      | base x=>rfl
      | ent s=>simp [opN] at e
      | set q=>rfl
      | fs f=>rfl
     rw [this k1 v1 e45,this k2 v2 (ho ▸ e45)]
    ·refine hd.elim (fun q=>q ho) fun q=>q ?_;have:∀k:Kd,k.valid→opN k=46→nmN k=emp:=fun k v e=>by
      cases k with
      | base x=>rfl
      | ent s=>simp [opN] at e
      | set q=>rfl
      | fs f=>rfl
     rw [this k1 v1 e46,this k2 v2 (ho ▸ e46)]
   ·exact .inl ho
  ·have ho:opN k1=opN k2:=Decidable.byContradiction fun e=>hd (.inl e);have hs:nmN k1=nmN k2:=Decidable.byContradiction fun e=>hd (.inr e);have same:opN k1≠45→opN k1≠46→zm k1 k2=k1→Calls Tryz.prog 32 #[.slice A n c,.slice B m d] w (JnR w (zm k1 k2) fun g=>InB A g∨InB B g):=fun q1 q2 hr=>by
    rw [hr,ea,eb];refine(zr3 a b n c m d _ _ _ _ w hn1 hm1 hl hl2 h.cap k.cap d0 d2 e0 e2 h49 q1 q2 ho hs).mono ?_;rintro e w' ⟨rfl,hb⟩;subst ea;exact⟨some a,c,by rw [h.len],by have:=h.keep hb;rwa [h.len] at this,hb,fun x hx => .inr (.inl ⟨a,rfl,by injection hx with hx;rw [hx]⟩)⟩
   rcases zjD v1 v2 ho hs with ⟨x,rfl,rfl⟩|⟨s,rfl,rfl⟩|⟨p,q,rfl,rfl⟩|⟨f,g,rfl,rfl⟩
   ·have hx:=zds v1;exact same (by have:opN (.base x)=x:=rfl;omega) (by have:opN (.base x)=x:=rfl;omega) (zeE v1.ok)
   ·exact same (show(44:Int)≠45 by decide) (show(44:Int)≠46 by decide) (zeE v1.ok)
   ·have hr:zm (.set p) (.set q)= .set (zm p q):=by simp [zm,za5,isNone]
    simp only [Kd.sz] at hsz hs2;rw [hr];exact(zsP N (zhB N) p q (by omega) (by omega) v1 v2 A B n c m d w h k).mono fun e w' hh=>zkt hh
   ·have hr:zm (.fs f) (.fs g)= .fs (jC f g (jK g f)):=by simp [zm,za5,isNone]
    simp only [Kd.sz] at hsz hs2;rw [hr];have HR:=hi9 (zso N (zhB N) f g (by omega) (by omega) v1 v2 A B n c m d w h k);have hnc:=h.cap;have hmd:=k.cap;subst ea eb;have k0:=cell_regrown d0;have k1:=cell_regrown e0;simp only [opN] at d0 e0;clear h k same hr hsz hs2 v1 v2 h49 g49 hd ho hs d2 e2;go_enter Tryz.func32,Tryz.ntmps32;go_wp2_with fail;refine HR.out.mono ?_;rintro e w1 ⟨A1,c1,rfl,h1,h2,h3⟩;have H1:=hi9 h1;have H2:=hi9 h2;have H3:=hi9 h3;clear h1 h2 h3;go_wp2_with fail;go_ret;exact zkt ⟨A1,c1,rfl,H1.out,H2.out,H3.out⟩
end Go.Proofs.YtjcdeikbghjpkaaGreatDoor
