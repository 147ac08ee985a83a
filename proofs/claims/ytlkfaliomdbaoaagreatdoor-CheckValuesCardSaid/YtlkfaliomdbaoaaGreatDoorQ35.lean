/-
  check's kindOf: the ops whose parts are all looked at first. (gen_chkrest.py) check's kindOf. (gen_chkko.py) check.Type's deferred function: what was told as a ..
-/
import Derived.Test.YtlkfaliomdbaoaaGreatDoorQ15
import Derived.Test.YtlkfaliomdbaoaaGreatDoorQ19
import Derived.Test.YtlkfaliomdbaoaaGreatDoorQ24
import Derived.Test.YtlkfaliomdbaoaaGreatDoorQ31
import Derived.Test.YtlkfaliomdbaoaaGreatDoorQ32
import Derived.Test.YtlkfaliomdbaoaaGreatDoorQ34
set_option maxRecDepth 100000
set_option maxHeartbeats 16000000
namespace Go.Proofs.YtlkfaliomdbaoaaGreatDoor
open Go.RowKit Go.Wk Go.Sort
theorem zkT(S:Nat→Prop)(x:Xs)(op:Int)(L:List Kd)(A:Option Addr)(n c:Nat)(V:List Sl)(w:World)(hn:n=V.length)(hn2:n≤4000)(hV:zal w A V)(hm:V.map Sl.P=L.map Kd.flat)
 (hop:((op=9∨op=10∨21≤op∧op≤24)∧L.length=1)∨((op=12∨14≤op∧op≤20∨25≤op∧op≤27)∧L.length=2)) (h22:op≠22) (hk:∀k∈L,KOk k):
 Calls Tryz.prog 59 #[x.v,.int .i64 op,.slice A n c] w (ji S w (zU op L)):=by
 by_cases g1:op=9∨op=12
 ·exact zmC S x op L A n c V w hn hn2 hV hm g1
 by_cases g2:op=10∨op=17∨op=18∨op=19
 ·exact zoh S x op L A n c V w hn hn2 hV hm g2
 by_cases g3:op=15∨op=16
 ·exact znW S x op L A n c V w hn hn2 hV hm g3
 by_cases g4:op=14
 ·subst g4;exact zoU S x L A n c w
 rcases hop with ⟨h,hl⟩|⟨h,hl⟩
 ·match L,hl with
  | [k0],_ =>
   by_cases g5:op=23
   ·subst g5;exact zmM S x k0 [] A n c V w hn hn2 hV hm
   by_cases g6:op=24
   ·subst g6;exact zo3 S x k0 [] A n c V w hn hn2 hV hm
   obtain rfl:op=21:=by omega
   exact zna S x k0 [] A n c V w hn hn2 hV hm
 ·match L,hl with
  | [k0,k1],_ =>
   by_cases g5:op=25
   ·subst g5;exact znf S x k0 [k1] A n c V w hn hn2 hV hm
   by_cases g6:op=26
   ·subst g6;exact znG S x k0 k1 A n c V w hn hn2 hV hm
   by_cases g7:op=27
   ·subst g7;exact zne S x k0 k1 A n c V w hn hn2 hV hm
   obtain rfl:op=20:=by omega
   refine zoW S x k0 k1 A n c V w hn hn2 hV hm fun z e=>?_
   have hb:jm z:=by have:=(hk k1 (by simp)).1;rw [e] at this;exact this
   unfold jm at hb
   omega
theorem zpg(S:Nat→Prop)(x:Xs)(N:Nat)(ih:KdC S x N)(A:Option Addr)(n c:Nat)(y:Nd)(ps:Exs)(p:Option Addr)(G:zW)(w:World)(hx:zef w x)(h:Ns w A n c (Ex.node y ps).flat)(hn:n≤4000)(hv:(Ex.node y ps).valid false)(hN:n≤N+1)(hF:zcI w p G)(hS:∀a,x.a.NA=some a→S a.block)(hSK:∀y∈x.s.K,∀a,y.NA=some a→S a.block)(hSL:∀b,S b→b<w.heap.size)(h11:y.op≠11)(h13:y.op≠13)(h6:y.op≠6):
 Calls Tryz.prog 24 #[x.v,.slice A n c,.pointer p] w (ji S w (tyX x.t (.node y ps) G)):=by
 have B0:=hi9 (za w x.o);have V0:=hi9 (zaZ w x);have X0:=hi9 hx;have F0:=hi9 hF;have CK:=hi9 (fun w' (hb:Below w.heap.size w w')=>zb8 A n c (.node y ps) false w' (h.keep hb) hn hv);have HLN:=hi9 (show n=ps.flat.length+1 by rw [h.len];simp [Ex.flat]);have HVP:=hi9 hv.2.2;have IH:=hi9 ih;have HN4:=hi9 hn;have HNN:=hi9 hN;have H3:=hi9 (And.intro h11 (And.intro h13 h6));have HY:=hi9 (h.ok y (by simp [Ex.flat]));have HL4:=hi9 (show ps.len≤4000 by have h1:=zbi ps;have h2:=HLN.out;omega);obtain⟨RR,hRR⟩:∃RR,RR=tyX x.t (.node y ps) G:=⟨_,rfl⟩
 rw [←hRR];have HRR:=hi9 (hRR.trans (zn1 h11 h13 h6));have HHD:=hi9 hv.1;have HSA:=hi9 hS;have HSK:=hi9 hSK;have HSL:=hi9 hSL;have HPN:=hi9 hv.2.1;obtain⟨yo,yn,ys,yt⟩:=y;dsimp only at h11 h13 h6;have f11:(yo==11)=false:=beq_eq_false_iff_ne.2 h11;have f13:(yo==13)=false:=beq_eq_false_iff_ne.2 h13;have f6:(yo==6)=false:=beq_eq_false_iff_ne.2 h6;unfold Xs.o at B0 V0;unfold KdC at IH;unfold Xs.v at IH ⊢;simp only [Ex.head,Ex.parts,ndV] at CK;clear hS hSK hSL hx hF h hn hv hN ih hRR h11 h13 h6;go_enter Tryz.func24,Tryz.ntmps24;go_wp2_with fail;refine(CK.out _ B0.out).mono ?_;rintro e w1 ⟨A',c',V,rfl,hc,hS,hm,b1⟩;have bN:=za w1 (.cells #[.int .i64 yo,.int .i64 yn,.string ys,.string yt] 40);have b2:=b1.trans (bN.mono b1.size);have B2:=bh B0 b2;have V2:=hi9 (V0.out.keep b2);have F2:=hi9 (F0.out.keep B2.out);have X2:=hi9 (X0.out.keep B2.out);have S2:=hi9 (hS.keep bN);have HM:=hi9 hm;have HVL:=hi9 (show V.length=ps.len by have h0:=congrArg List.length hm;rw [List.length_map,List.length_map,zdd] at h0;exact h0);obtain⟨y0,-,y2,-,-,-,-,-⟩:=zel w1 ⟨yo,yn,ys,yt⟩;dsimp only at y0 y2;have Y2:=hi9 (And.intro y0 y2);clear hS hm b1 b2 bN B0 V0 F0 X0 CK hc y2;obtain⟨m,hmV⟩:∃m,m=V.length:=⟨_,rfl⟩
 have HMV:=hi9 hmV;rw [←hmV];clear hmV;go_wp2_with fail;obtain⟨w2,hw2⟩:∃w2,w1.alloc (.cells #[.int .i64 yo,.int .i64 yn,.string ys,.string yt] 40)=w2:=⟨_,rfl⟩
 rw [hw2] at B2 V2 F2 X2 S2 Y2 ⊢;clear hw2 y0;obtain⟨i0,hi,hz0,hz1,hz2⟩:=info_parts zpN;have HVP0:=hi9 (show ps.valid false emp from by have h0:=HVP.out;rwa [show jU (⟨yo,yn,ys,yt⟩:Nd)=false from decide_eq_false H3.out.2.2] at h0);have hm4:m≤4000:=by rw [HMV.out,HVL.out];exact HL4.out
 go_loopw [14,91] (fun ks i wr=>∃(j:Nat) (L:List Kd) (r:Exs) (U:List Sl) (s:ByteArray),i = .int .i64 j∧j≤m∧U.length=j∧Hid (U.map Sl.P=L.map Kd.flat)∧Hid (zbo wr w2.heap.size ks U)∧Hid (tyS x.t ps G=zk3 L (tyS x.t r G))∧Hid ((V.drop j).map Sl.P=r.list.map Ex.flat)∧Hid (r.valid false s)∧Hid (r.flat.length≤N∧r.flat.length≤4000)∧Hid (∀k∈L,KOk k)∧Hid (∀r∈U,∀a,r.A=some a→S a.block∨w2.heap.size≤a.block)∧Hid (Below w2.heap.size w2 wr)) (fun _ i _=>m-(intOf i).toNat)
 case atStart=>exact⟨0,[],ps,[],emp,rfl,Nat.zero_le _,rfl,hi9 rfl,hi9 (zbo.nil _ _),hi9 (zom _).symm,hi9 (by simpa using HM.out),HVP0,hi9 (by have h1:=HLN.out;have h2:=HNN.out;have h3:=HN4.out;omega),hi9 (fun k hk=>nomatch hk),hi9 (fun k hk=>nomatch hk),hi9 (Below.refl _ _)⟩
 case round =>
  obtain⟨j,L,r,U,s,rfl,hj,hU,hUL,hO,hE,hD,hv,hsz,hK,hLc,hB⟩:=hrel;by_cases hlt:j<m
  ·have hjv:j<V.length:=by rw [←HMV.out];exact hlt
   obtain⟨a,ea,q0,n0⟩:=S2.out.at hjv;replace q0:=zb hB.out q0;have hdr:V.drop j=V[j] :: V.drop (j+1):=List.drop_eq_getElem_cons hjv;obtain⟨e0,r',rfl⟩:∃e0 r',r = .cons e0 r':=by
    cases r with
    | nil=>have h0:=congrArg List.length hD.out;rw [hdr] at h0;simp only [Exs.list,List.map_nil,List.map_cons,List.length_cons,List.length_nil] at h0;omega
    | cons e0 r'=>exact⟨e0,r',rfl⟩
   have hD2:=hD.out;rw [hdr] at hD2;simp only [List.map_cons,Exs.list,List.cons.injEq] at hD2;obtain⟨hP,hDD⟩:=hD2;have HDD:=hi9 hDD;obtain⟨-,hve,hvr⟩:=hv.out;have HVR:=hi9 hvr;rw [hP] at n0;subst ea;generalize V[j]=p0 at *;have HS:=hsz.out;simp only [Exs.flat,List.length_append] at HS;have HSZ2:=hi9 (show r'.flat.length≤N∧r'.flat.length≤4000 by omega);have KI:=hi9 (IH.out _ _ _ e0 p G wr (X2.out.keep hB.out) (n0.keep hB.out) (by rw [n0.len];omega) hve (by rw [n0.len];omega) (F2.out.keep hB.out));have hok:=zd7 X2.out.ok e0 false G hve;obtain⟨c0,c1,c2,c3,c4,c5,c6,c7⟩:=V2.out.keep hB.out;clear hD hv hvr hve hP hDD hdr n0 HS hsz;go_wp2_with fail;rcases qk:tyX x.t e0 G with u|k
   ·rw [qk] at KI;refine KI.out.mono ?_;intro e w5 h5;obtain⟨rfl,b5⟩:=zaJ h5;have B5:=hi9 (hB.out.trans (b5.mono hB.out.size));clear b5 h5;go_wp2_with fail;exact⟨rfl,by rw [show RR = .error u from HRR.out.trans (by rw [hE.out,zon qk];rfl)];exact zQ (bh B2 B5.out).out⟩
   rw [qk] at KI hok;have HK:=hi9 (show KOk k from hok);have HE5:=hi9 (hE.out.trans (zpm qk));refine KI.out.mono ?_;intro e w5 h5;obtain⟨A5,n5,m5,rfl,hN5,b5,l5⟩:=jM h5;have B5:=hi9 (hB.out.trans (b5.mono hB.out.size));have O5:=hi9 (hO.out.keep b5);have N5:=hi9 hN5;have hw2:w.heap.size≤w2.heap.size:=B2.out.size;have AP:Hid (zaA ⟨A5,n5,m5,k.flat⟩ u14.ownBlock):=by
    intro h0 a' e' q';have h1:=jB hO.out.own a'.block q';have h2:=zcc hO.out.own a'.block q';rcases l5 a' e' with h3|h3
    ·have:=HSL.out _ h3;omega
    ·omega
   have L5:=hi9 (show∀a,A5=some a→S a.block∨w2.heap.size≤a.block from fun a e=>(l5 a e).imp id (fun q=>Nat.le_trans hB.out.size q));have hsz5:=B5.out.size;clear h5 hN5 b5 l5 KI hok hE hO hB q0 c0 c1 c2 c3 c4 c5 c6 c7 qk;go_wp2_with (at_builtin;refine wpList_append_own_at _ rfl _ _ 105 rfl w2.heap.size 61 i0 _ 1 24 Tryz.underlying105 hi hz0 hz1 hz2 rfl (by decide) _ U.length (U.map Sl.v) rfl (O5.out.own.alloc _) ⟨_,0,none⟩ 1 1 [.slice A5 n5 m5] rfl rfl (cell_one_new _ _ _) (by intro u hu;simp only [List.mem_cons,List.not_mem_nil,or_false] at hu;subst hu;rfl) ?c1 ?c2 ?c3 ?_)
   case c1=>unfold maxLen;omega
   case c2=>omega
   case c3=>simp;omega
   intro v1 w6 hown hgrow _ hat;have B6:=hi9 ((B5.out.alloc B5.out.size _).grown hgrow (by simp;omega) (jB O5.out.own));have O6:=hi9 (O5.out.snoc (r:=⟨A5,n5,m5,k.flat⟩) N5.out AP.out (by rw [hU];exact hown) hgrow (by simpa using hat));have HU6:=hi9 (show(U ++ [(⟨A5,n5,m5,k.flat⟩:Sl)]).map Sl.P=(L ++ [k]).map Kd.flat by simp [hUL.out]);have HK6:=hi9 (show∀z∈L ++ [k],KOk z from fun z hz=>by
    rcases List.mem_append.1 hz with h1|h1
    ·exact hK.out z h1
    ·rw [List.mem_singleton.1 h1];exact HK.out)
   have HL6:=hi9 (show∀z∈U ++ [(⟨A5,n5,m5,k.flat⟩:Sl)],∀a,z.A=some a→S a.block∨w2.heap.size≤a.block from fun z hz=>by
    rcases List.mem_append.1 hz with h1|h1
    ·exact hLc.out z h1
    ·rw [List.mem_singleton.1 h1];exact L5.out)
   have hl6:(U ++ [(⟨A5,n5,m5,k.flat⟩:Sl)]).length=j+1:=by simp [hU]
   clear hown hgrow hat AP L5 O5 N5 B5 hUL hK hLc HK hsz5;go_wp2_with fail;go_roundw
   case rel=>exact⟨j+1,L ++ [k],r',_,e0.head.s,by go_num,hlt,hl6,HU6,O6,HE5,HDD,HVR,HSZ2,HK6,HL6,B6⟩
   case measure=>simp [intOf];omega
  ·have hjm:j=m:=by omega
   have hrn:r = .nil:=by
    have h0:=congrArg List.length hD.out;rw [List.length_map,List.length_map,List.length_drop,←HMV.out,hjm,Nat.sub_self] at h0
    cases r with
    | nil=>rfl
    | cons y' r'=>simp [Exs.list] at h0
   subst hrn;have HT:=hi9 (show tyS x.t ps G = .ok L from hE.out.trans (by simp [zk3,tyS]));have HR:=hi9 (show RR=zds x.t ⟨yo,yn,ys,yt⟩ ps G L from HRR.out.trans (by rw [HT.out];rfl));have HLP:=hi9 (zlP HT.out);obtain⟨AU,cU,eU,hcU,SU⟩:=hO.out.at
   subst eU;obtain⟨mu,hmu⟩:∃mu,mu=U.length:=⟨_,rfl⟩
   have HMU:=hi9 hmu;rw [←hmu] at hcU ⊢;have HSU:=hi9 SU;have y0:=zb hB.out Y2.out.1;have y2:=zb hB.out Y2.out.2;obtain⟨c0,c1,c2,c3,c4,c5,c6,c7⟩:=V2.out.keep hB.out;have BR:=bh B2 hB.out;clear hE hD hv hsz hO SU hmu;by_cases h1:yo=1
   case pos =>
    subst h1;have HV:=hi9 (show RR = .ok (Kd.base 41) from HR.out.trans (by simp [zds]));go_wp2_with fail;refine(zaC (S:=S) (o:=41) (s:=emp) (k:=Kd.base 41) (w:=wr) rfl (by decide)).mono ?_;intro e w8 h8;obtain⟨A8,n8,m8,rfl,hN8,b8,l8⟩:=jM h8;have B8:=bh BR b8;have N8:=hi9 hN8;have HL:=hi9 (jx BR.out l8);clear h8 hN8 b8 l8 BR;go_wp2_with fail;go_ret;rw [HV.out];exact zJ B8.out N8.out HL.out
   by_cases h2:yo=2
   case pos =>
    subst h2;have HV:=hi9 (show RR = .ok (Kd.base 42) from HR.out.trans (by simp [zds]));go_wp2_with fail;refine(zaC (S:=S) (o:=42) (s:=emp) (k:=Kd.base 42) (w:=wr) rfl (by decide)).mono ?_;intro e w8 h8;obtain⟨A8,n8,m8,rfl,hN8,b8,l8⟩:=jM h8;have B8:=bh BR b8;have N8:=hi9 hN8;have HL:=hi9 (jx BR.out l8);clear h8 hN8 b8 l8 BR;go_wp2_with fail;go_ret;rw [HV.out];exact zJ B8.out N8.out HL.out
   by_cases h3:yo=3
   case pos =>
    subst h3;have HV:=hi9 (show RR = .ok (Kd.base 43) from HR.out.trans (by simp [zds]));go_wp2_with fail;refine(zaC (S:=S) (o:=43) (s:=emp) (k:=Kd.base 43) (w:=wr) rfl (by decide)).mono ?_;intro e w8 h8;obtain⟨A8,n8,m8,rfl,hN8,b8,l8⟩:=jM h8;have B8:=bh BR b8;have N8:=hi9 hN8;have HL:=hi9 (jx BR.out l8);clear h8 hN8 b8 l8 BR;go_wp2_with fail;go_ret;rw [HV.out];exact zJ B8.out N8.out HL.out
   by_cases h4:yo=4
   case pos =>
    subst h4;have HV:=hi9 (show RR = .ok (Kd.ent ys) from HR.out.trans (by simp [zds]));go_wp2_with fail;refine(zaC (S:=S) (o:=44) (s:=ys) (k:=Kd.ent ys) (w:=wr) rfl HY.out.s).mono ?_;intro e w8 h8;obtain⟨A8,n8,m8,rfl,hN8,b8,l8⟩:=jM h8;have B8:=bh BR b8;have N8:=hi9 hN8;have HL:=hi9 (jx BR.out l8);clear h8 hN8 b8 l8 BR;go_wp2_with fail;go_ret;rw [HV.out];exact zJ B8.out N8.out HL.out
   by_cases h8:yo=8
   case pos =>
    subst h8;have KN:=hi9 (zja S x ys wr (X2.out.keep hB.out) HSA.out);unfold Xs.v at KN;have HV:=hi9 (show RR=jY x.t ys from HR.out.trans (by simp [zds]));go_wp2_with fail;rcases qr:jY x.t ys with u|kk
    ·rw [qr] at KN;refine KN.out.mono ?_;intro e w8 h8;obtain⟨rfl,b8⟩:=zaJ h8;have B8:=bh BR b8;clear b8 h8;go_wp2_with fail;exact⟨rfl,by rw [HV.out,qr];exact zQ B8.out⟩
    rw [qr] at KN;refine KN.out.mono ?_;intro e w8 h8;obtain⟨A8,n8,m8,rfl,hN8,b8,l8⟩:=jM h8;have B8:=bh BR b8;have N8:=hi9 hN8;have HL:=hi9 (jx BR.out l8);clear h8 hN8 b8 l8 BR;go_wp2_with fail;go_ret;rw [HV.out,qr];exact zJ B8.out N8.out HL.out
   by_cases h5:yo=5
   case pos =>
    subst h5;have HV:=hi9 (show RR=zaR (.base 49) L from HR.out.trans (by simp [zds]));go_wp2_with fail;refine(zeB 49 emp wr (by decide)).mono ?_;rintro e w8 ⟨rfl,⟨-,N8⟩,b8⟩;have B8:=bh BR b8;have S8:=hi9 (HSU.out.keep b8);have HN8:=hi9 (show Ns w8 (some ⟨wr.heap.size,0,none⟩) 1 1 (Kd.base 49).flat from N8);clear N8 b8 c0 c1 c2 c3 c4 c5 c6 c7 y0 y2 HR;have HUU:=hi9 (show U.length=L.length by have:=congrArg List.length hUL.out;simpa using this);have hmu4:mu≤4000:=by rw [HMU.out,hU];omega
    go_wp2_with fail;go_loopw [17,130] (fun kv i wj=>∃(t:Nat) (kk:Kd) (Ak:Option Addr) (nk ck:Nat),i = .int .i64 t∧t≤mu∧kv = .slice Ak nk ck∧Hid (Ns wj Ak nk ck kk.flat)∧Hid (KOk kk)∧Hid (zaR (.base 49) L=zaR kk (L.drop t))∧Hid (Below w8.heap.size w8 wj)) (fun _ i _=>mu-(intOf i).toNat)
    case atStart=>exact⟨0,.base 49,_,_,_,rfl,Nat.zero_le _,rfl,HN8,hi9 (zbK (by decide)),hi9 (by simp),hi9 (Below.refl _ _)⟩
    case round =>
     obtain⟨t,kk,Ak,nk,ck,rfl,ht,rfl,hNk,hKk,hJ,hBj⟩:=hrel;have hbj:=hBj.out;clear hbj;by_cases hlt9:t<mu
     ·have htU:t<U.length:=by rw [←HMU.out];exact hlt9
      have htL:t<L.length:=by rw [←HUU.out];exact htU
      obtain⟨aU,eAU,q0,n0⟩:=(S8.out.keep hBj.out).at htU;have hP:U[t].P=(L[t]).flat:=by
       have:=congrArg (fun l=>l[t]?) hUL.out;simpa [htU,htL] using this
      rw [hP] at n0;have hkt:=hK.out _ (List.getElem_mem htL);have hJJ:=hJ.out;rw [List.drop_eq_getElem_cons htL] at hJJ;rw [zaR] at hJJ;have KJ:=hi9 (zhD (S:=fun _=>False) hKk.out hkt hNk.out n0);have hval:=zab _ kk L[t] (Nat.le_refl _) hKk.out.1 hkt.1;subst eAU;generalize U[t]=r0 at *;generalize L[t]=kt at *;have B9:=bh B8 hBj.out;clear hP n0 hkt hNk hKk hJ;unfold zc2 at KJ;by_cases g:200<(zl kk kt).sz
      ·rw [if_pos g] at hJJ KJ;have HX:=hi9 (HV.out.trans hJJ);clear hJJ g;go_wp2_with fail;refine KJ.out.mono ?_;intro e w10 h10;obtain⟨rfl,b10⟩:=zaJ h10;have B10:=bh B9 b10;clear b10 h10;go_wp2_with fail;exact⟨rfl,by rw [HX.out];exact zQ B10.out⟩
      ·rw [if_neg g] at hJJ KJ;have HX:=hi9 hJJ;have HKK:=hi9 (show KOk (zl kk kt) from⟨hval,by omega⟩);clear hJJ g hval;go_wp2_with fail;refine KJ.out.mono ?_;intro e w10 h10;obtain⟨A10,n10,m10,rfl,hN10,b10,-⟩:=jM h10;have B10:=hi9 (hBj.out.trans (b10.mono hBj.out.size));have N10:=hi9 hN10;clear h10 hN10 b10 hBj B9 KJ q0;go_wp2_with fail;go_roundw
       case rel=>exact⟨t+1,_,A10,n10,m10,by go_num,hlt9,rfl,N10,HKK,HX,B10⟩
       case measure=>simp [intOf];omega
     ·have htm:L.drop t = []:=List.drop_eq_nil_of_le (by rw [←HUU.out,←HMU.out];omega);have hJJ:=hJ.out;rw [htm,zaR] at hJJ;have HX:=hi9 (HV.out.trans hJJ);have B9:=bh B8 hBj.out;clear hJ htm hJJ;go_wp2_with fail;refine(zeB 45 emp wr (by decide)).mono ?_;rintro e w10 ⟨rfl,⟨hR10,-⟩,b10⟩;have B10:=bh B9 b10;have R10:=hi9 hR10;have NK:=hi9 (hNk.out.keep b10);have hks:=hKk.out.2;have hkl:kk.flat.length=kk.sz:=zad kk;have hsw:w.heap.size≤wr.heap.size:=B9.out.size;have hs10:wr.heap.size≤w10.heap.size:=b10.size;clear hR10 b10 B9 hNk;go_wp2_with (at_builtin;refine zb3 rfl _ _ rfl wr.heap.size _ _ rfl R10.out _ _ _ kk.flat rfl NK.out (zaa kk) ?c1 ?c2 ?_)
      case c1=>show 1+kk.flat.length≤1000;omega
      case c2=>omega
      intro v11 w11 hR11 hb11;have hR12:zdL w11 wr.heap.size v11 (Kd.set kk).flat:=hR11;obtain⟨A11,c11,e11,-,-,-⟩:=zaN hR12.own;subst e11;have hl11:(Kd.set kk).flat.length=kk.sz+1:=by rw [zad];rfl
      rw [hl11] at hR12 ⊢;have B11:=hi9 (B10.out.trans (hb11.mono hsw));have R12:=hi9 hR12;have KF:=hi9 (ziT A11 (kk.sz+1) c11 w11 (by omega));have HX2:=hi9 (show RR=if 200<kk.sz+1 then .error 4 else .ok (.set kk) from HX.out);have HVS:=hi9 (show(Kd.set kk).valid from hKk.out.1);clear hR11 hR12 hb11 R10 NK hl11 HX;by_cases g:200<kk.sz+1
      ·rw [if_pos g] at KF;have HE:=hi9 (show RR = .error 4 by rw [HX2.out,if_pos g]);go_wp2_with fail;refine KF.out.mono ?_;rintro e w12 ⟨rfl,b12⟩;have B12:=bh B11 b12;clear b12 KF;go_wp2_with fail;exact⟨rfl,by rw [HE.out];exact zQ B12.out⟩
      ·rw [if_neg g] at KF;have HE:=hi9 (show RR = .ok (.set kk) by rw [HX2.out,if_neg g]);go_wp2_with fail;refine KF.out.mono ?_;rintro e w12 ⟨rfl,b12⟩;have B12:=bh B11 b12;have R13:=R12.out.keep b12;obtain⟨A13,n13,c13,e13,N13⟩:=R13.ns (by rw [zad];show kk.sz+1≤1000;omega) (Kd.valid.nds HVS.out (show kk.sz+1≤1000000 by omega));have HLC:=hi9 (show∀a,A11=some a→w.heap.size≤a.block from fun a e=>by subst e;exact Nat.le_trans hsw (jB R13.own _ rfl));injection e13 with q1 q2 q3;subst q1 q2 q3;have H13:=hi9 N13;clear b12 KF R13 N13;go_wp2_with fail;go_ret;rw [HE.out];exact zJ B12.out H13.out (fun a e => .inr (HLC.out a e))
   by_cases h22:yo=22
   case pos =>
    subst h22;have hpl:ps.len=1:=by have h0:=HPN.out;simp [zL] at h0;omega
    obtain⟨ea,rfl⟩:=zip hpl;obtain⟨k0,rfl⟩:∃k0,L = [k0]:=by
     have h0:=HLP.out;rw [hpl] at h0
     match L,h0 with
     | [k0],_=>exact⟨k0,rfl⟩
    have e0:U[0]?.map Sl.P=some k0.flat:=by have:=congrArg (fun l=>l[0]?) hUL.out;simpa using this
    obtain⟨r0,hr0,hp0⟩:=Option.map_eq_some_iff.1 e0;obtain⟨aU,eAU,qU,nU⟩:=HSU.out 0 r0 hr0;rw [hp0] at nU;have p0:V[0]?.map Sl.P=some ea.flat:=by have:=congrArg (fun l=>l[0]?) HM.out;simpa [Exs.list] using this
    obtain⟨v0,hv0,hq0⟩:=Option.map_eq_some_iff.1 p0;obtain⟨aV,eAV,qV0,nV0⟩:=S2.out 0 v0 hv0;rw [hq0] at nV0;subst eAU eAV;rw [show aU.add 0=aU from rfl] at qU;rw [show aV.add 0=aV from rfl] at qV0;have qV:=zb hB.out qV0;have nV:=nV0.keep hB.out;have hmu0:0<mu:=by rw [HMU.out];exact(List.getElem?_eq_some_iff.1 hr0).1
    have hmu1:(0:Int)<(mu:Int):=by omega
    have hm0:0<m:=by rw [HMV.out];exact(List.getElem?_eq_some_iff.1 hv0).1
    have hm1:(0:Int)<(m:Int):=by omega
    have hLr:=hLc.out r0 (List.mem_of_getElem? hr0);have hk0:=hK.out k0 (by simp);have FR:=F2.out.keep hB.out;have HV:=hi9 (show RR=zft x.t k0 ys (za7 G ea.flat ys) from HR.out.trans (by simp [zds,znN]));have R1:=rq (w:=wr) (fun w' hb=>zma p G v0.A v0.n v0.c ea.flat ys w' (FR.keep hb) (nV.keep hb));have KG:=hi9 (fun w' (hb:Below wr.heap.size wr w')=>zl4 (fun b=>S b∨w2.heap.size≤b) x k0 ys (za7 G ea.flat ys) r0.A r0.n r0.c w' (X2.out.keep (hB.out.trans (hb.mono hB.out.size))) (nU.keep hb) hk0 hLr (fun z hz a e => .inl (HSK.out z hz a e)));unfold Xs.v at KG;have hw2:w.heap.size≤w2.heap.size:=B2.out.size;have hsz2:w2.heap.size≤wr.heap.size:=hB.out.size;generalize za7 G ea.flat ys=kn at *;clear hLr hk0 FR nU nV nV0 qV0 hr0 hp0 e0 hv0 hq0 p0 HR HSU hUL hK hLc hU;go_wp2_with fail;have kc0:=cell_regrown c0;have kc1:=cell_regrown c1;have kc2:=cell_regrown c2;have kc3:=cell_regrown c3;have kc4:=cell_regrown c4;have kc5:=cell_regrown c5;have kc6:=cell_regrown c6;have kc7:=cell_regrown c7;have kqU:=cell_regrown qU;have kqV:=cell_regrown qV;have ky2:=cell_regrown y2;refine zaD (l := [_,_,_,_,_,_,_,_,_,_,_,_,_]) [0,1,2,3,4,5,6,7,8,9,10,11,12] 13 2 (by kernel_rfl) (by kernel_rfl) rfl (fun w'=>∃p:Regrown,w'=grow (redrawn wr p.d) p.os) ⟨⟨wr.drawn+1,#[]⟩,by rw [grow_empty];rfl⟩ ?_
    repeat (first|go_big_quiet_step (with_reducible exact R1 _ _)|quiet_step (with_reducible exact R1 _ _))
    refine wpQuiet_nil ?_;rintro wrd ⟨⟨dd,os⟩,rfl⟩;have bd:=below_regrown wr dd os;generalize grow (redrawn wr dd) os=wrd at *;clear kc0 kc1 kc2 kc3 kc4 kc5 kc6 kc7 kqU kqV ky2;refine zq (i:=13) (by kernel_rfl) rfl (fun K' hK'=>?_);go_simp;have KN:=KG.out wrd bd;have BD:=bh BR bd;have hszd:wr.heap.size≤wrd.heap.size:=bd.size;clear c0 c1 c2 c3 c4 c5 c6 c7 qU qV y2 y0 R1;rcases qr:zft x.t k0 ys kn with u|kk
    ·rw [qr] at KN;refine KN.mono ?_;intro e w8 h8;obtain⟨rfl,b8⟩:=zaJ h8;have B8:=bh BD b8;clear b8 h8;go_wp2_with fail;exact⟨rfl,by rw [HV.out,qr];exact zQ B8.out⟩
    rw [qr] at KN;refine KN.mono ?_;intro e w8 h8;obtain⟨A8,n8,m8,rfl,hN8,b8,l8⟩:=jM h8;have B8:=bh BD b8;have N8:=hi9 hN8;have HL:=hi9 (show∀a,A8=some a→S a.block∨w.heap.size≤a.block from fun a e=>by
     rcases l8 a e with (h|h)|h
     ·exact .inl h
     ·exact .inr (by omega)
     ·exact .inr (by omega))
    clear h8 hN8 b8 l8 BD BR bd KN KG;go_wp2_with fail;refine hK'.out _ _ (fun _=>trivial) ?_;clear hK' K'
    try simp only [Act.put,List.setIfInBounds_toArray,List.set_cons_zero,List.set_cons_succ]
    refine zq (i:=14) (by kernel_rfl) rfl (fun K' hK'=>?_);go_simp;refine hK'.out _ _ (fun _=>trivial) ?_;clear hK' K';refine jv (by kernel_rfl) ?_;go_wp2_with fail;go_ret;rw [HV.out,qr];exact zJ B8.out N8.out HL.out
   have e1:(yo==1)=false:=beq_eq_false_iff_ne.2 h1;have e2:(yo==2)=false:=beq_eq_false_iff_ne.2 h2;have e3:(yo==3)=false:=beq_eq_false_iff_ne.2 h3;have e4:(yo==4)=false:=beq_eq_false_iff_ne.2 h4;have e8:(yo==8)=false:=beq_eq_false_iff_ne.2 h8;have e5:(yo==5)=false:=beq_eq_false_iff_ne.2 h5;have e22:(yo==22)=false:=beq_eq_false_iff_ne.2 h22;have HOP:=hi9 (zox (y:=⟨yo,yn,ys,yt⟩) HHD.out HPN.out h1 h2 h3 h4 h5 H3.out.2.2 h8 H3.out.1 H3.out.2.1);have KN:=hi9 (zkT S x yo L AU mu cU U wr HMU.out (by rw [HMU.out,hU];omega) HSU.out hUL.out (by rw [HLP.out];exact HOP.out) h22 hK.out);unfold Xs.v at KN;have HV:=hi9 (show RR=zU yo L from HR.out.trans (by unfold zds;rw [if_neg h1,if_neg h2,if_neg h3,if_neg h4,if_neg h8,if_neg h5,if_neg h22]));go_wp2_with fail;rcases qr:zU yo L with u|kk
   ·rw [qr] at KN;refine KN.out.mono ?_;intro e w8 h8;obtain⟨rfl,b8⟩:=zaJ h8;have B8:=bh BR b8;clear b8 h8;go_wp2_with fail;exact⟨rfl,by rw [HV.out,qr];exact zQ B8.out⟩
   rw [qr] at KN;refine KN.out.mono ?_;intro e w8 h8;obtain⟨A8,n8,m8,rfl,hN8,b8,l8⟩:=jM h8;have B8:=bh BR b8;have N8:=hi9 hN8;have HL:=hi9 (jx BR.out l8);clear h8 hN8 b8 l8 BR;go_wp2_with fail;go_ret;rw [HV.out,qr];exact zJ B8.out N8.out HL.out
theorem zpC(S:Nat→Prop)(x:Xs)(N:Nat)(ih:KdC S x N)(A:Option Addr)(n c:Nat)(y:Nd)(ps:Exs)(p:Option Addr)(G:zW)(w:World)(hx:zef w x)(h:Ns w A n c (Ex.node y ps).flat)(hn:n≤4000)(hv:(Ex.node y ps).valid false)(hN:n≤N+1)(hF:zcI w p G)(h6:y.op=6):
 Calls Tryz.prog 24 #[x.v,.slice A n c,.pointer p] w (ji S w (tyX x.t (.node y ps) G)):=by
 have B0:=hi9 (za w x.o);have V0:=hi9 (zaZ w x);have X0:=hi9 hx;have F0:=hi9 hF;have CK:=hi9 (fun w' (hb:Below w.heap.size w w')=>zb8 A n c (.node y ps) false w' (h.keep hb) hn hv);have HLN:=hi9 (show n=ps.flat.length+1 by rw [h.len];simp [Ex.flat]);have HVP:=hi9 hv.2.2;have IH:=hi9 ih;have HN4:=hi9 hn;have HNN:=hi9 hN;have HY:=hi9 (h.ok y (by simp [Ex.flat]));obtain⟨RR,hRR⟩:∃RR,RR=tyX x.t (.node y ps) G:=⟨_,rfl⟩
 rw [←hRR];have HRR:=hi9 (hRR.trans (zoY h6));have HPN:=hi9 hv.2.1;obtain⟨yo,yn,ys,yt⟩:=y;dsimp only at h6;subst h6;unfold Xs.o at B0 V0;simp only [Ex.head,Ex.parts,ndV] at CK;have HREC:=hi9 (fun A' n' c' V w' (h1:zef w' x) (h2:n'=V.length) (h3:n'≤4000) (h4:zal w' A' V) (h5:V.map Sl.P=ps.list.map Ex.flat) (h7:zcI w' p G)=>ziC S x N IH.out ⟨6,yn,ys,yt⟩ ps A' n' c' V p G w' h1 HY.out (by have:=HPN.out;simp [zL] at this;exact this.symm) h2 h3 h4 h5 (by have h0:=HVP.out;rwa [show jU (⟨6,yn,ys,yt⟩:Nd)=true from rfl] at h0) (by have h1:=HLN.out;have h2:=HNN.out;omega) (by have h1:=HLN.out;have h2:=HN4.out;omega) h7);unfold Xs.v ndV at HREC;unfold Xs.v;clear hx hF h hn hv hN ih hRR IH;go_enter Tryz.func24,Tryz.ntmps24;go_wp2_with fail;refine(CK.out _ B0.out).mono ?_;rintro e w1 ⟨A',c',V,rfl,hc,hS,hm,b1⟩;have bN:=za w1 (.cells #[.int .i64 6,.int .i64 yn,.string ys,.string yt] 40);have b2:=b1.trans (bN.mono b1.size);have B2:=bh B0 b2;have V2:=hi9 (V0.out.keep b2);have HVL:=hi9 (show V.length≤4000 by have h0:=congrArg List.length hm;rw [List.length_map,List.length_map,zdd] at h0;have h1:=zbi ps;have h2:=HLN.out;have h3:=HN4.out;omega);have KR:=hi9 (HREC.out A' V.length c' V _ (X0.out.keep B2.out) rfl HVL.out (hS.keep bN) hm (F0.out.keep B2.out));obtain⟨y0,y1,y2,y3,-,-,-,-⟩:=zel w1 ⟨6,yn,ys,yt⟩;dsimp only at y0 y1 y2 y3;have Y:=hi9 (And.intro y0 (And.intro y1 (And.intro y2 y3)));clear hS hm b1 b2 bN F0 X0 CK hc HREC B0 V0;obtain⟨c0,c1,c2,c3,c4,c5,c6,c7⟩:=V2.out;generalize V.length=m at *;go_wp2_with fail;rcases qr:fsR (tyF x.t ps G 1) with u|kk
 ·rw [qr] at KR;refine KR.out.mono ?_;intro e w8 h8;obtain⟨rfl,b8⟩:=zaJ h8;have B8:=bh B2 b8;clear b8 h8;go_wp2_with fail;exact⟨rfl,by rw [HRR.out,qr];exact zQ B8.out⟩
 ·rw [qr] at KR;refine KR.out.mono ?_;intro e w8 h8;obtain⟨A8,n8,m8,rfl,hN8,b8,l8⟩:=jM h8;have B8:=bh B2 b8;have N8:=hi9 hN8;have HL:=hi9 (jx B2.out l8);clear h8 hN8 b8 l8;go_wp2_with fail;go_ret;rw [HRR.out,qr];exact zJ B8.out N8.out HL.out
theorem zo0:∀ {ps:Exs},(ps.len:Int)=2→∃a b,ps = .cons a (.cons b .nil)
 | .nil,h=>by simp [Exs.len] at h
 | .cons a .nil,h=>by simp [Exs.len] at h
 | .cons a (.cons b .nil),_=>⟨a,b,rfl⟩
 | .cons a (.cons b (.cons c r)),h=>by simp [Exs.len] at h;omega
theorem zlU:∀ {ps:Exs},(ps.len:Int)=3→∃a b c,ps = .cons a (.cons b (.cons c .nil))
 | .nil,h=>by simp [Exs.len] at h
 | .cons a .nil,h=>by simp [Exs.len] at h
 | .cons a (.cons b .nil),h=>by simp [Exs.len] at h
 | .cons a (.cons b (.cons c .nil)),_=>⟨a,b,c,rfl⟩
 | .cons a (.cons b (.cons c (.cons d r))),h=>by simp [Exs.len] at h;omega
theorem zeu(x:Xs):∀N:Nat,KdC (fun b=>b<x.D) x N
 | 0=>fun A n c e p G w hx h hn hv hN hF=>absurd h.len (by cases e;simp [Ex.flat];omega)
 | N+1=>fun A n c e p G w hx h hn hv hN hF=>by
  have ih:=zeu x N;obtain⟨y,ps⟩:=e;by_cases h11:y.op=11
  ·obtain⟨a,b,hps⟩:=zo0 (ps:=ps) (by have:=hv.2.1;rw [this];simp [zL,h11]);have:=zpI _ x N ih A n c y ps p G w hx h hn hv hN hF h11 a b hps;rwa [show tyX x.t (.node y ps) G=zea x.t ps G by rw [tyX,if_pos h11]]
  by_cases h13:y.op=13
  ·obtain⟨a,b,z,hps⟩:=zlU (ps:=ps) (by have:=hv.2.1;rw [this];simp [zL,h13]);have:=zp8 _ x N ih A n c y ps p G w hx h hn hv hN hF h13 a b z hps;rwa [show tyX x.t (.node y ps) G=zhq x.t ps G by rw [tyX,if_neg h11,if_pos h13]]
  by_cases h6:y.op=6
  ·exact zpC _ x N ih A n c y ps p G w hx h hn hv hN hF h6
  exact zpg _ x N ih A n c y ps p G w hx h hn hv hN hF hx.ctx hx.kds (fun b hb=>Nat.lt_of_lt_of_le hb hx.d) h11 h13 h6
theorem zlY(p q:Addr)(w:World):
 CallsD Tryz.prog 22 #[.pointer (some p),.pointer (some q)] .returning w fun e u' w'=>e = .returned (.tuple #[])∧u' = .returning∧w'=w:=by
 refine callsD_of_wpS Tryz.func22 rfl fun c₀ cs hu=>?_;apply wpS_seq;apply wpS_region;simp [wpOpsS,go_sem,recoverD,hu,Tryz.ntmps22,Exit.thenS];refine wpS_of_wp ?_;go_wp2_with fail;cases c₀;simp_all [bodyPostS,results,Tryz.results22]
theorem zjT(E F:Nat)(x:Int)(v0 v1:Value)(older:List PanicEntry)(w:World)(hE:w.cell? ⟨E,0,none⟩=some v0)(zE:w.frozen? ⟨E,0,none⟩=false)(hF:w.cell? ⟨F,0,none⟩=some v1)(zF:w.frozen? ⟨F,0,none⟩=false)(hne:E≠F):
 CallsD Tryz.prog 22 #[.pointer (some ⟨E,0,none⟩),.pointer (some ⟨F,0,none⟩)] (.panicking ({ v := .iface 28 (.int .i64 x),recovered:=false } :: older)) w fun e u' w' =>
  e = .returned (.tuple #[])∧u' = .panicking ({ v := .iface 28 (.int .i64 x),recovered:=true } :: older)∧w'=((w.setCell ⟨E,0,none⟩ (.slice none 0 0)).setCell ⟨F,0,none⟩ (.iface 28 (.int .i64 x))):=by
 have hl:E<w.heap.size:=block_lt_of_cell hE;have hl2:F<w.heap.size:=block_lt_of_cell hF;have hne2:F≠E:=hne.symm;have hta:∀w,(Instr.typeAssert (.iface 28 (.int .i64 x)) 20 28 true).run Tryz.prog w = .ok (.tuple #[.int .i64 x,.bool true]) w:=fun _=>by kernel_rfl
 refine callsD_of_wpS Tryz.func22 rfl fun c₀ cs hu=>?_;apply wpS_seq;apply wpS_region;simp [wpOpsS,go_sem,recoverD,hu,Tryz.ntmps22];refine wpS_of_wp ?_;go_wp2_with fail;cases c₀;simp [bodyPostS,results,Tryz.results22]
theorem zkQ(a:Addr)(n c:Nat)(P:List Nd)(w:World)(h:Ns w (some a) n c P)(hl:P.length≤100000):
 Calls Tryz.prog 23 #[.slice (some a) n c] w (zoc w P):=by
 obtain⟨i0,hi,hz0,hz1,hz2⟩:=info_parts zeJ;have hn:=h.len;have HC:=hi9 (fun w' hb=>(h.at_.keep (w':=w') hb).cells);have HO:=hi9 h.ok;have HL:=hi9 hl;clear h hl;subst hn;have hnil:=fun w:World=>Lib.run_eql_slice_nil (P:=Tryz.prog) w 61 40 (some a) P.length c 0 0 Tryz.underlying61;simp only [Option.isNone_some] at hnil;go_enter Tryz.func23,Tryz.ntmps23;have hB:∀W:World,(W.alloc (.cells #[] 40)).ownsRow W.heap.size 40 4 (.slice (some ⟨W.heap.size,0,none⟩) 0 0) 0 []:=fun W =>
  ⟨rfl,.inr ⟨_,0,#[],rfl,Nat.le_refl _,heap_alloc_new W _,Nat.le_refl _,by unfold maxLen;omega,rfl,rfl⟩⟩
 go_wp2_with (at_builtin;refine wpList_append_own _ rfl _ _ 61 rfl w.heap.size 40 i0 _ 4 48 Tryz.underlying61 hi hz0 hz1 hz2 rfl (by decide) _ 0 [] rfl (hB w) a P.length c (zu P) rfl (jX P) (HC.out _ (za _ _)) (zbJ P) ?c1 ?c2 ?c3 ?_)
 case c1=>have:=HL.out;unfold maxLen;omega
 case c2=>have:=HL.out;omega
 case c3=>simp
 intro v1 w1 hown hgrow _;have HW:=hi9 hown;have HG:=hi9 hgrow;clear hown hgrow hnil;go_wp2_with fail;go_ret;obtain⟨A,c',rfl,h1,h2,h3⟩:=zaN HW.out;refine⟨A,c',rfl,⟨rfl,h1,by have:=HL.out;unfold maxLen;omega,h2,HO.out⟩,h3,?_⟩;exact(za w _).grown HG.out (by simp) (fun k hk=>by simp [Value.ownBlock] at hk;omega)
theorem zkW(A:Option Addr)(n c:Nat)(N:List ByteArray)(s:ByteArray)(w:World)(h:Txs w A n c N):
 Calls Tryz.prog 48 #[.slice A n c,.string s] w fun e w'=>(∃k:Int,e = .returned (.int .i64 k)∧(0≤k↔jV N s=true))∧Below w.heap.size w w':=by
 have HL:=hi9 h.len;have HT:=hi9 h.at_;have hm:=h.max;unfold maxLen at hm;clear h;go_enter Tryz.func48,Tryz.ntmps48;go_wp2_with fail;go_loopw [5,8] (fun _ i wr=>∃k:Nat,i = .int .i64 k∧k≤n∧Hid (jV (N.take k) s=false)∧w=wr) (fun _ i _=>n-(intOf i).toNat)
 case atStart=>exact⟨0,rfl,Nat.zero_le _,hi9 rfl,rfl⟩
 case round =>
  obtain⟨k,rfl,hk,hF,rfl⟩:=hrel;by_cases hlt:k<n
  ·have hkn:k<N.length:=by rw [←HL.out];exact hlt
   obtain⟨a,rfl,q⟩:=HT.out.cell hkn;by_cases hs:N[k]=s
   ·have HR:=hi9 (show jV N s=true from zgs.2 (by rw [←hs];exact List.getElem_mem hkn));rw [hs] at q;clear hF hs;go_wp2_with fail;go_ret;exact⟨⟨k,rfl,by rw [HR.out];simp⟩,Below.refl _ _⟩
   ·have HF:=hi9 (zmy hkn hF.out hs);have f6:(s.toList==N[k].toList)=false:=beq_eq_false_iff_ne.2 (fun q=>hs (toList_inj q.symm));generalize N[k]=y at *;clear hF hs;go_wp2_with fail;go_roundw
    case rel=>exact⟨k+1,by go_num,hlt,HF,trivial⟩
    case measure=>simp [intOf];omega
  ·have HR:=hi9 (show jV N s=false by
    have:=hF.out
    rwa [List.take_of_length_le (by rw [←HL.out];omega)] at this)
   clear hF
   go_wp2_with fail
   go_ret
   exact⟨⟨-1,rfl,by rw [HR.out];simp⟩,Below.refl _ _⟩
theorem zdv(A:Option Addr)(n c:Nat)(N:List ByteArray)(s:ByteArray)(w:World)(h:Txs w A n c N):
 Calls Tryz.prog 21 #[.slice A n c,.string s] w fun e w'=>e = .returned (.bool (jV N s))∧Below w.heap.size w w':=by
 have K:=hi9 (zkW A n c N s w h);clear h;go_enter Tryz.func21,Tryz.ntmps21;go_wp2_with fail;refine K.out.mono ?_;rintro e w1 ⟨⟨k,rfl,hk⟩,b1⟩;have B1:=hi9 b1;have HK:=hi9 (show decide (0≤k)=jV N s by
  rcases hu:jV N s with _|_
  ·exact decide_eq_false (fun h=>by have:=hk.1 h;rw [hu] at this;cases this)
  ·exact decide_eq_true (hk.2 hu))
 clear hk b1;go_wp2_with fail;go_ret;exact⟨by rw [←HK.out];rfl,B1.out⟩
structure Vn(w:World)(b:Nat)(x:Nd):Prop where
 c0:w.cell? ⟨b,0,none⟩=some (.int .i64 x.op)
 c1:w.cell? ⟨b,1,none⟩=some (.int .i64 x.n)
 c2:w.cell? ⟨b,2,none⟩=some (.string x.s)
 c3:w.cell? ⟨b,3,none⟩=some (.string x.t)
theorem Vn.keep{w w':World}{b:Nat}{x:Nd}(h:Vn w b x)(hb:Below w.heap.size w w'):Vn w' b x:=⟨zb hb h.c0,zb hb h.c1,zb hb h.c2,zb hb h.c3⟩
theorem zpR(w:World)(x:Nd)(t:TypeId):Vn (w.alloc (.cells #[.int .i64 x.op,.int .i64 x.n,.string x.s,.string x.t] t)) w.heap.size x :=
 ⟨zax (heap_alloc_new w _) rfl,zax (heap_alloc_new w _) rfl,zax (heap_alloc_new w _) rfl,zax (heap_alloc_new w _) rfl⟩
theorem zk9(t:List Nd)(s s':ByteArray):∀(c p:Nat),zao t c false s p=zao t c false s' p
 | 0,p=>by unfold zao;simp only [jb]
 | c+1,p=>by
  rcases h:t[p]? with _|y
  ·have hp:t.length≤p:=List.getElem?_eq_none_iff.1 h;rw [zde hp,zde hp]
  ·have e1:∀z,¬(false=true∧¬je z y.s<0):=fun z q=>Bool.false_ne_true q.1;rw [zcw h,zcw h,if_neg (e1 s),if_neg (e1 s')]
theorem zkh{t:List Nd}{s:ByteArray}{c p:Nat}:zao t (c+1) false s p=if 0≤jR t p false then zao t c false s (jR t p false).toNat else -1:=by
 rcases h:t[p]? with _|y
 ·have hp:t.length≤p:=List.getElem?_eq_none_iff.1 h;rw [zde hp,ziS hp];rfl
 ·rw [zcw h,if_neg (fun q=>absurd q.1 Bool.false_ne_true),zk9 t y.s s]
theorem znT{f:Bool}{x:Nd}(h:jo x=false):jT f x=false:=by unfold jT;rw [h];rfl
theorem zmS{f:Bool}{x:Nd}(h:jo x=true):jT f x=(decide (x.op=7)==f):=by unfold jT;rw [h];rfl
theorem zmJ{x:Nd}(h:zfO x):zL x≤9223372036854775807:=by
 unfold zL;have:=h.hi;split
 ·exact this
 ·repeat' (first|split|omega)
def TbC(P:List Nd)(A:Option Addr)(n c m:Nat):Prop:=∀(p:Nat) (f:Bool) (w:World),Ns w A n c P→n-p≤m→
 Calls Tryz.prog 45 #[.slice A n c,.int .i64 p,.bool f] w fun e w'=>e = .returned (.int .i64 (jR P p f))∧Below w.heap.size w w'
theorem zog(P:List Nd)(A:Option Addr)(n c p:Nat)(f:Bool)(w:World)(h:Ns w A n c P)(hp:n≤p):
 Calls Tryz.prog 45 #[.slice A n c,.int .i64 p,.bool f] w fun e w'=>e = .returned (.int .i64 (jR P p f))∧Below w.heap.size w w':=by
 have HR:=hi9 (ziS (t:=P) (p:=p) (f:=f) (by rw [←h.len];exact hp));have f0:decide ((n:Int)≤(p:Int))=true:=decide_eq_true (by omega);have f1:decide ((p:Int)<0)=false:=decide_eq_false (by omega);clear h;go_enter Tryz.func45,Tryz.ntmps45;go_wp2_with fail;go_ret;exact⟨by rw [HR.out];rfl,Below.refl _ _⟩
theorem zoS(P:List Nd)(m:Nat)(a:Addr)(n c q:Nat)(f:Bool)(w:World)(ih:TbC P (some a) n c m)(hns:Ns w (some a) n c P)(hq:q<n)(hf:n-q≤m+1):
 Calls Tryz.prog 45 #[.slice (some a) n c,.int .i64 q,.bool f] w fun e w'=>e = .returned (.int .i64 (jR P q f))∧Below w.heap.size w w':=by
 have hm:=hns.max;unfold maxLen at hm;have HNS:=hi9 hns;have HLN:=hi9 hns.len;have hql:q<P.length:=by rw [←hns.len];exact hq
 have HX0:=List.getElem?_eq_getElem hql;have hok:=hns.ok _ (List.getElem_mem hql);have IH:=hi9 (fun p g w' (hp:q<p) hb=>ih p g w' (hns.keep (w':=w') hb) (by omega));obtain⟨a',ea,d0,d1,d2,d3⟩:=hns.at_ q _ HX0;injection ea with ea;subst ea;have CS:=hi9 (zjg P[q] w hok);have CP:=hi9 (fun w=>zci P[q] w);have hpl:=zmJ hok;obtain⟨x,hx⟩:∃x,x=P[q]:=⟨_,rfl⟩
 rw [←hx] at HX0 hok d0 d1 d2 d3 CS CP hpl;have HX:=hi9 HX0;clear hx HX0 hns ih hok;have HXE:=hi9 (show Nd4 w (a.add (q*4)) x from⟨d0,d1,d2,d3⟩);unfold ndV at CS CP;have f0:decide (n≤q)=false:=decide_eq_false (by omega);have f1:decide ((q:Int)<0)=false:=decide_eq_false (by omega);by_cases hfx:jo x=true
 ·rw [hfx] at CS;have HH:=hi9 (zmS (f:=f) hfx);have HP0:=hi9 (zhi hfx);clear hfx;go_enter Tryz.func45,Tryz.ntmps45;go_wp2_with fail;refine CS.out.mono ?_;rintro e w1 ⟨rfl,b1⟩;have B1:=hi9 b1;have HXE1:=hi9 (HXE.out.keep b1);obtain⟨e0,e1,e2,e3⟩:=HXE1.out;clear b1 CS HXE d0 d1 d2 d3;have he:(x.op==7)=decide (x.op=7):=rfl;by_cases hh:(decide (x.op=7)==f)=true
  ·have HE:=hi9 (show jR P q f=zao P (zL x).toNat (jU x) emp (q+1) from zmE HX.out (HH.out.trans hh));have f2:(!(x.op==7)==f)=false:=by rw [he];revert hh;cases decide (x.op=7)<;> cases f <;> simp
   obtain⟨M,hM⟩:∃M:Nat,zL x=(M:Int):=⟨(zL x).toNat,by have:=HP0.out;omega⟩
   rw [hM] at CP hpl;rw [hM,Int.toNat_natCast] at HE;have B2:=hi9 (B1.out.trans ((za w1 (.cells #[.int .i64 x.op,.int .i64 x.n,.string x.s,.string x.t] 40)).mono B1.out.size));have V2:=hi9 (zpR w1 x 40);clear hh he hM HH HP0 HX;go_wp2_with fail;refine(CP.out _).mono ?_;rintro e w2 ⟨rfl,b2⟩;have B3:=bh B2 b2;have V3:=hi9 (V2.out.keep b2);clear b2 B2 V2 e0 e1 e2 e3 HXE1 B1 CP;go_wp2_with fail;go_loopw [1,8,43] (fun u l i wr=>∃(k p:Nat) (last:ByteArray),u = .int .i64 p∧l = .string last∧i = .int .i64 k∧k≤M∧q<p∧p≤n∧Hid (jR P q f=zao P (M-k) (jU x) last p)∧Hid (Below w.heap.size w wr)∧Hid (Vn wr w1.heap.size x)) (fun _ _ i _=>M-(intOf i).toNat)
   case atStart=>exact⟨0,q+1,⟨#[]⟩,by go_num,rfl,rfl,Nat.zero_le _,Nat.lt_succ_self _,hq,HE,B3,V3⟩
   case round =>
    clear B3 V3 HE;obtain⟨k,p,last,rfl,rfl,rfl,hk,hqp,hpn,hF,hB,hV⟩:=hrel;obtain⟨v0,v1,v2,v3⟩:=hV.out;by_cases hlt:k<M
    ·have HF:=hi9 (show jR P q f=zao P (M-(k+1)+1) (jU x) last p by rw [hF.out,show M-k=M-(k+1)+1 by omega]);clear hF;by_cases hpn2:p<n
     ·have hpl2:p<P.length:=by rw [←HLN.out];exact hpn2
      have g3:decide (n≤p)=false:=decide_eq_false (by omega);by_cases h6:x.op=6
      ·have hr:jU x=true:=by unfold jU;exact decide_eq_true h6
       have g2:(x.op==6)=true:=beq_iff_eq.2 h6;obtain⟨a',ea,e0,e1,e2,e3⟩:=(HNS.out.keep hB.out).at_ p _ (List.getElem?_eq_getElem hpl2);injection ea with ea;subst ea;have HN:=hi9 (HF.out.trans ((congrArg (fun b=>zao P (M-(k+1)+1) b last p) hr).trans (zcw (List.getElem?_eq_getElem hpl2))));have HRC:=hi9 hr;have IHP:=hi9 (fun w' hb=>IH.out p true w' hqp hb);generalize P[p]=y at *;clear HF hr h6;rcases zd9 y.s last with ⟨hc,l1,l2⟩|⟨hc,l1⟩|⟨hc,l1,l2⟩
       ·have HGV:=hi9 (HN.out.trans (if_neg (fun q=>q.2 hc)));clear hc HN;go_wp2_with fail;refine(IHP.out _ hB.out).mono ?_;rintro e w6 ⟨rfl,b6⟩;have B6:=bh hB b6;have V6:=hi9 (hV.out.keep b6);clear b6 hB hV v0 v1 v2 v3 e0 e1 e2 e3;by_cases hk0:0≤jR P p true
        ·obtain⟨e',he,hep,hel⟩:=zly hk0;have HF2:=hi9 (show jR P q f=zao P (M-(k+1)) (jU x) y.s e' by
          have h1:=HGV.out
          rw [if_pos hk0,he,Int.toNat_natCast] at h1
          rw [h1,HRC.out])
         have hen:e'≤n:=by rw [HLN.out];exact hel
         rw [he];clear hk0 he hel;go_wp2_with fail;go_roundw
         case rel=>exact⟨k+1,e',y.s,rfl,rfl,by go_num,hlt,by omega,hen,HF2,B6,V6⟩
         case measure=>simp [intOf];omega
        ·have HBV:=hi9 (show jR P q f = -1 by rw [HGV.out,if_neg hk0]);rw [ziW hk0];clear hk0;go_wp2_with fail;go_ret;exact⟨by rw [HBV.out];rfl,B6.out⟩
       ·have HBV:=hi9 (show jR P q f = -1 from HN.out.trans (if_pos ⟨rfl,hc⟩));clear hc HN;go_wp2_with fail;go_ret;exact⟨by rw [HBV.out];rfl,hB.out⟩
       ·have HBV:=hi9 (show jR P q f = -1 from HN.out.trans (if_pos ⟨rfl,hc⟩));clear hc HN;go_wp2_with fail;go_ret;exact⟨by rw [HBV.out];rfl,hB.out⟩
      ·have hr:jU x=false:=by unfold jU;exact decide_eq_false h6
       have HRC:=hi9 hr;have g2:(x.op==6)=false:=beq_eq_false_iff_ne.2 h6;have HGV:=hi9 (HF.out.trans ((congrArg (fun b=>zao P (M-(k+1)+1) b last p) hr).trans zkh));have IHP:=hi9 (fun w' hb=>IH.out p false w' hqp hb);clear hr HF h6;go_wp2_with fail;refine(IHP.out _ hB.out).mono ?_;rintro e w6 ⟨rfl,b6⟩;have B6:=bh hB b6;have V6:=hi9 (hV.out.keep b6);clear b6 hB hV v0 v1 v2 v3;by_cases hk0:0≤jR P p false
       ·obtain⟨e',he,hep,hel⟩:=zly hk0;have HF2:=hi9 (show jR P q f=zao P (M-(k+1)) (jU x) last e' by
         have h1:=HGV.out
         rw [if_pos hk0,he,Int.toNat_natCast] at h1
         rw [h1,HRC.out])
        have hen:e'≤n:=by rw [HLN.out];exact hel
        rw [he];clear hk0 he hel;go_wp2_with fail;go_roundw
        case rel=>exact⟨k+1,e',last,rfl,rfl,by go_num,hlt,by omega,hen,HF2,B6,V6⟩
        case measure=>simp [intOf];omega
       ·have HBV:=hi9 (show jR P q f = -1 by rw [HGV.out,if_neg hk0]);rw [ziW hk0];clear hk0;go_wp2_with fail;go_ret;exact⟨by rw [HBV.out];rfl,B6.out⟩
     ·have HBV:=hi9 (show jR P q f = -1 by rw [HF.out,zde (by rw [←HLN.out];omega)]);have g3:decide (n≤p)=true:=decide_eq_true (by omega);clear HF;go_wp2_with fail;go_ret;exact⟨by rw [HBV.out];rfl,hB.out⟩
    ·have HE2:=hi9 (show jR P q f=(p:Int) by
      rw [hF.out,show M-k=0 by omega]
      exact zkA (by rw [←HLN.out];exact hpn))
     clear hF
     go_wp2_with fail
     go_ret
     exact⟨by rw [HE2.out];rfl,hB.out⟩
  ·have HE:=hi9 (show jR P q f = -1 from zjz HX.out (HH.out.trans (by simpa using hh)));have f2:(!(x.op==7)==f)=true:=by rw [he];revert hh;cases decide (x.op=7)<;> cases f <;> simp
   clear hh he;go_wp2_with fail;go_ret;exact⟨by rw [HE.out];rfl,B1.out⟩
 ·have hfx:jo x=false:=by simpa using hfx
  rw [hfx] at CS;have HE:=hi9 (show jR P q f = -1 from zjz HX.out (znT hfx));clear hfx;go_enter Tryz.func45,Tryz.ntmps45;go_wp2_with fail;refine CS.out.mono ?_;rintro e w1 ⟨rfl,b1⟩;have B1:=hi9 b1;clear b1 CS HXE d0 d1 d2 d3;go_wp2_with fail;go_ret;exact⟨by rw [HE.out];rfl,B1.out⟩
theorem ze5(P:List Nd)(A:Option Addr)(n c:Nat):∀m,TbC P A n c m
 | 0=>fun p f w h hm=>zog P A n c p f w h (by omega)
 | m+1=>fun p f w h hm=>by
  by_cases hp:p<n
  ·rcases A with _|a
   ·have:=h.at_ p _ (List.getElem?_eq_getElem (by rw [←h.len];exact hp));obtain⟨a,e,-⟩:=this;cases e
   ·exact zoS P m a n c p f w (ze5 P (some a) n c m) h hp hm
  ·exact zog P A n c p f w h (by omega)
theorem zkL(A:Option Addr)(n c:Nat)(P:List Nd)(w:World)(h:Ns w A n c P):
 Calls Tryz.prog 19 #[.slice A n c] w fun e w'=>e = .returned (jE (zZ P))∧Below w.heap.size w w':=by
 have hl:=h.len;by_cases h200:200<n
 ·have HR:=hi9 (show zZ P=4 by unfold zZ;rw [if_pos (by omega)]);have f0:decide ((200:Int)<(n:Int))=true:=decide_eq_true (by omega);clear h hl;go_enter Tryz.func19,Tryz.ntmps19;go_wp2_with fail;go_ret;exact⟨by rw [HR.out];rfl,Below.refl _ _⟩
 ·have C:=hi9 (ze5 P A n c n 0 false w h (by omega));have f0:decide ((200:Int)<(n:Int))=false:=decide_eq_false (by omega);have HR:=hi9 (show zZ P=if(zfc P).isSome then 0 else 1 by unfold zZ;rw [if_neg (by omega)]);have HA:=hi9 (znq (t:=P));rw [←hl] at HA;clear h hl h200;generalize jR P 0 false=r at *;go_enter Tryz.func19,Tryz.ntmps19;go_wp2_with fail;refine C.out.mono ?_;rintro e w1 ⟨rfl,b1⟩;have B1:=hi9 b1;clear b1 C;by_cases hr:r=(n:Int)
  ·have HE:=hi9 (show zZ P=0 by rw [HR.out,if_pos (HA.out.1 hr)]);have f1:(r !=(n:Int))=false:=by rw [bne_eq_false_iff_eq];exact hr
   clear hr;go_wp2_with fail;go_ret;exact⟨by rw [HE.out];rfl,B1.out⟩
  ·have HE:=hi9 (show zZ P=1 by rw [HR.out,if_neg (fun q=>hr (HA.out.2 q))]);have f1:(r !=(n:Int))=true:=by rw [bne_iff_ne];exact hr
   clear hr;go_wp2_with fail;go_ret;exact⟨by rw [HE.out];rfl,B1.out⟩
end Go.Proofs.YtlkfaliomdbaoaaGreatDoor
