/-
  check's kindOf: the ops whose parts are all looked at first. (gen_chkrest.py) check's kindOf. (gen_chkko.py) check.Type's deferred function: what was told as a ..
-/
import Derived.Test.YtjcdeikbghjpkaaGreatDoorQ5
import Derived.Test.YtjcdeikbghjpkaaGreatDoorQ17
import Derived.Test.YtjcdeikbghjpkaaGreatDoorQ28
import Derived.Test.YtjcdeikbghjpkaaGreatDoorQ41
import Derived.Test.YtjcdeikbghjpkaaGreatDoorQ43
set_option maxRecDepth 100000
set_option maxHeartbeats 16000000
namespace Go.Proofs.YtjcdeikbghjpkaaGreatDoor
open Go.RowKit Go.Wk Go.Sort
theorem znk(S:Nat→Prop)(x:Xs)(op:Int)(L:List Kd)(A:Option Addr)(n c:Nat)(V:List Sl)(w:World)(hn:n=V.length)(hn2:n≤4000)(hV:za4 w A V)(hm:V.map Sl.P=L.map Kd.flat)
 (hop:((op=9∨op=10∨21≤op∧op≤24)∧L.length=1)∨((op=12∨14≤op∧op≤20∨25≤op∧op≤27)∧L.length=2)) (h22:op≠22) (hk:∀k∈L,KOk k):
 Calls Tryz.prog 54 #[x.v,.int .i64 op,.slice A n c] w (jJ S w (zG op L)):=by
 by_cases g1:op=9∨op=12
 ·exact zoJ S x op L A n c V w hn hn2 hV hm g1
 by_cases g2:op=10∨op=17∨op=18∨op=19
 ·exact zpv S x op L A n c V w hn hn2 hV hm g2
 by_cases g3:op=15∨op=16
 ·exact zqc S x op L A n c V w hn hn2 hV hm g3
 by_cases g4:op=14
 ·subst g4;exact zrW S x L A n c w
 rcases hop with ⟨h,hl⟩|⟨h,hl⟩
 ·match L,hl with
  | [k0],_ =>
   by_cases g5:op=23
   ·subst g5;exact zoN S x k0 [] A n c V w hn hn2 hV hm
   by_cases g6:op=24
   ·subst g6;exact zrs S x k0 [] A n c V w hn hn2 hV hm
   obtain rfl:op=21:=by omega
   exact zpw S x k0 [] A n c V w hn hn2 hV hm
 ·match L,hl with
  | [k0,k1],_ =>
   by_cases g5:op=25
   ·subst g5;exact zq5 S x k0 [k1] A n c V w hn hn2 hV hm
   by_cases g6:op=26
   ·subst g6;exact zpM S x k0 k1 A n c V w hn hn2 hV hm
   by_cases g7:op=27
   ·subst g7;exact zqn S x k0 k1 A n c V w hn hn2 hV hm
   obtain rfl:op=20:=by omega
   refine zrx S x k0 k1 A n c V w hn hn2 hV hm fun z e=>?_
   have hb:jq z:=by have:=(hk k1 (by simp)).1;rw [e] at this;exact this
   unfold jq at hb
   omega
theorem zrw(S:Nat→Prop)(x:Xs)(N:Nat)(ih:KdC S x N)(A:Option Addr)(n c:Nat)(y:Nd)(ps:Exs)(p:Option Addr)(G:zy)(w:World)(hx:zft w x)(h:Ns w A n c (Ex.node y ps).flat)(hn:n≤4000)(hv:(Ex.node y ps).valid false)(hN:n≤N+1)(hF:zd7 w p G)(hS:∀a,x.a.NA=some a→S a.block)(hSK:∀y∈x.s.K,∀a,y.NA=some a→S a.block)(hSL:∀b,S b→b<w.heap.size)(h11:y.op≠11)(h13:y.op≠13)(h6:y.op≠6):
 Calls Tryz.prog 22 #[x.v,.slice A n c,.pointer p] w (jJ S w (tyX x.t (.node y ps) G)):=by
 have B0:=hi9 (za w x.o);have V0:=hi9 (zbV w x);have X0:=hi9 hx;have F0:=hi9 hF;have CK:=hi9 (fun w' (hb:Below w.heap.size w w')=>zdp A n c (.node y ps) false w' (h.keep hb) hn hv);have HLN:=hi9 (show n=ps.flat.length+1 by rw [h.len];simp [Ex.flat]);have HVP:=hi9 hv.2.2;have IH:=hi9 ih;have HN4:=hi9 hn;have HNN:=hi9 hN;have H3:=hi9 (And.intro h11 (And.intro h13 h6));have HY:=hi9 (h.ok y (by simp [Ex.flat]));have HL4:=hi9 (show ps.len≤4000 by have h1:=zam ps;have h2:=HLN.out;omega);obtain⟨RR,hRR⟩:∃RR,RR=tyX x.t (.node y ps) G:=⟨_,rfl⟩
 rw [←hRR];have HRR:=hi9 (hRR.trans (zmy h11 h13 h6));have HHD:=hi9 hv.1;have HSA:=hi9 hS;have HSK:=hi9 hSK;have HSL:=hi9 hSL;have HPN:=hi9 hv.2.1;obtain⟨yo,yn,ys,yt⟩:=y;dsimp only at h11 h13 h6;have f11:(yo==11)=false:=beq_eq_false_iff_ne.2 h11;have f13:(yo==13)=false:=beq_eq_false_iff_ne.2 h13;have f6:(yo==6)=false:=beq_eq_false_iff_ne.2 h6;unfold Xs.o at B0 V0;unfold KdC at IH;unfold Xs.v at IH ⊢;simp only [Ex.head,Ex.parts,ndV] at CK;clear hS hSK hSL hx hF h hn hv hN ih hRR h11 h13 h6;go_enter Tryz.func22,Tryz.ntmps22;go_wp2_with fail;refine(CK.out _ B0.out).mono ?_;rintro e w1 ⟨A',c',V,rfl,hc,hS,hm,b1⟩;have bN:=za w1 (.cells #[.int .i64 yo,.int .i64 yn,.string ys,.string yt] 41);have b2:=b1.trans (bN.mono b1.size);have B2:=bh B0 b2;have V2:=hi9 (V0.out.keep b2);have F2:=hi9 (F0.out.keep B2.out);have X2:=hi9 (X0.out.keep B2.out);have S2:=hi9 (hS.keep bN);have HM:=hi9 hm;have HVL:=hi9 (show V.length=ps.len by have h0:=congrArg List.length hm;rw [List.length_map,List.length_map,zch] at h0;exact h0);obtain⟨y0,-,y2,-,-,-,-,-⟩:=zga w1 ⟨yo,yn,ys,yt⟩;dsimp only at y0 y2;have Y2:=hi9 (And.intro y0 y2);clear hS hm b1 b2 bN B0 V0 F0 X0 CK hc y2;obtain⟨m,hmV⟩:∃m,m=V.length:=⟨_,rfl⟩
 have HMV:=hi9 hmV;rw [←hmV];clear hmV;go_wp2_with fail;obtain⟨w2,hw2⟩:∃w2,w1.alloc (.cells #[.int .i64 yo,.int .i64 yn,.string ys,.string yt] 41)=w2:=⟨_,rfl⟩
 rw [hw2] at B2 V2 F2 X2 S2 Y2 ⊢;clear hw2 y0;obtain⟨i0,hi,hz0,hz1,hz2⟩:=info_parts zsN;have HVP0:=hi9 (show ps.valid false emp from by have h0:=HVP.out;rwa [show zA (⟨yo,yn,ys,yt⟩:Nd)=false from decide_eq_false H3.out.2.2] at h0);have hm4:m≤4000:=by rw [HMV.out,HVL.out];exact HL4.out
 go_loopw [14,91] (fun ks i wr=>∃(j:Nat) (L:List Kd) (r:Exs) (U:List Sl) (s:ByteArray),i = .int .i64 j∧j≤m∧U.length=j∧Hid (U.map Sl.P=L.map Kd.flat)∧Hid (zct wr w2.heap.size ks U)∧Hid (tyS x.t ps G=zmX L (tyS x.t r G))∧Hid ((V.drop j).map Sl.P=r.list.map Ex.flat)∧Hid (r.valid false s)∧Hid (r.flat.length≤N∧r.flat.length≤4000)∧Hid (∀k∈L,KOk k)∧Hid (∀r∈U,∀a,r.A=some a→S a.block∨w2.heap.size≤a.block)∧Hid (Below w2.heap.size w2 wr)) (fun _ i _=>m-(intOf i).toNat)
 case atStart=>exact⟨0,[],ps,[],emp,rfl,Nat.zero_le _,rfl,hi9 rfl,hi9 (zct.nil _ _),hi9 (zqX _).symm,hi9 (by simpa using HM.out),HVP0,hi9 (by have h1:=HLN.out;have h2:=HNN.out;have h3:=HN4.out;omega),hi9 (fun k hk=>nomatch hk),hi9 (fun k hk=>nomatch hk),hi9 (Below.refl _ _)⟩
 case round =>
  obtain⟨j,L,r,U,s,rfl,hj,hU,hUL,hO,hE,hD,hv,hsz,hK,hLc,hB⟩:=hrel;by_cases hlt:j<m
  ·have hjv:j<V.length:=by rw [←HMV.out];exact hlt
   obtain⟨a,ea,q0,n0⟩:=S2.out.at hjv;replace q0:=zb hB.out q0;have hdr:V.drop j=V[j] :: V.drop (j+1):=List.drop_eq_getElem_cons hjv;obtain⟨e0,r',rfl⟩:∃e0 r',r = .cons e0 r':=by
    cases r with
    | nil=>have h0:=congrArg List.length hD.out;rw [hdr] at h0;simp only [Exs.list,List.map_nil,List.map_cons,List.length_cons,List.length_nil] at h0;omega
    | cons e0 r'=>exact⟨e0,r',rfl⟩
   have hD2:=hD.out;rw [hdr] at hD2;simp only [List.map_cons,Exs.list,List.cons.injEq] at hD2;obtain⟨hP,hDD⟩:=hD2;have HDD:=hi9 hDD;obtain⟨-,hve,hvr⟩:=hv.out;have HVR:=hi9 hvr;rw [hP] at n0;subst ea;generalize V[j]=p0 at *;have HS:=hsz.out;simp only [Exs.flat,List.length_append] at HS;have HSZ2:=hi9 (show r'.flat.length≤N∧r'.flat.length≤4000 by omega);have KI:=hi9 (IH.out _ _ _ e0 p G wr (X2.out.keep hB.out) (n0.keep hB.out) (by rw [n0.len];omega) hve (by rw [n0.len];omega) (F2.out.keep hB.out));have hok:=zc2 X2.out.ok e0 false G hve;obtain⟨c0,c1,c2,c3,c4,c5,c6,c7⟩:=V2.out.keep hB.out;clear hD hv hvr hve hP hDD hdr n0 HS hsz;go_wp2_with fail;rcases qk:tyX x.t e0 G with u|k
   ·rw [qk] at KI;refine KI.out.mono ?_;intro e w5 h5;obtain⟨rfl,b5⟩:=zbF h5;have B5:=hi9 (hB.out.trans (b5.mono hB.out.size));clear b5 h5;go_wp2_with fail;exact⟨rfl,by rw [show RR = .error u from HRR.out.trans (by rw [hE.out,zqN qk];rfl)];exact jl (bh B2 B5.out).out⟩
   rw [qk] at KI hok;have HK:=hi9 (show KOk k from hok);have HE5:=hi9 (hE.out.trans (zrz qk));refine KI.out.mono ?_;intro e w5 h5;obtain⟨A5,n5,m5,rfl,hN5,b5,l5⟩:=zaA h5;have B5:=hi9 (hB.out.trans (b5.mono hB.out.size));have O5:=hi9 (hO.out.keep b5);have N5:=hi9 hN5;have hw2:w.heap.size≤w2.heap.size:=B2.out.size;have AP:Hid (za3 ⟨A5,n5,m5,k.flat⟩ u14.ownBlock):=by
    intro h0 a' e' q';have h1:=zD hO.out.own a'.block q';have h2:=zd9 hO.out.own a'.block q';rcases l5 a' e' with h3|h3
    ·have:=HSL.out _ h3;omega
    ·omega
   have L5:=hi9 (show∀a,A5=some a→S a.block∨w2.heap.size≤a.block from fun a e=>(l5 a e).imp id (fun q=>Nat.le_trans hB.out.size q));have hsz5:=B5.out.size;clear h5 hN5 b5 l5 KI hok hE hO hB q0 c0 c1 c2 c3 c4 c5 c6 c7 qk;go_wp2_with (at_builtin;refine wpList_append_own_at _ rfl _ _ 98 rfl w2.heap.size 60 i0 _ 1 24 Tryz.underlying98 hi hz0 hz1 hz2 rfl (by decide) _ U.length (U.map Sl.v) rfl (O5.out.own.alloc _) ⟨_,0,none⟩ 1 1 [.slice A5 n5 m5] rfl rfl (cell_one_new _ _ _) (by intro u hu;simp only [List.mem_cons,List.not_mem_nil,or_false] at hu;subst hu;rfl) ?c1 ?c2 ?c3 ?_)
   case c1=>unfold maxLen;omega
   case c2=>omega
   case c3=>simp;omega
   intro v1 w6 hown hgrow _ hat;have B6:=hi9 ((B5.out.alloc B5.out.size _).grown hgrow (by simp;omega) (zD O5.out.own));have O6:=hi9 (O5.out.snoc (r:=⟨A5,n5,m5,k.flat⟩) N5.out AP.out (by rw [hU];exact hown) hgrow (by simpa using hat));have HU6:=hi9 (show(U ++ [(⟨A5,n5,m5,k.flat⟩:Sl)]).map Sl.P=(L ++ [k]).map Kd.flat by simp [hUL.out]);have HK6:=hi9 (show∀z∈L ++ [k],KOk z from fun z hz=>by
    rcases List.mem_append.1 hz with h1|h1
    ·exact hK.out z h1
    ·rw [List.mem_singleton.1 h1];exact HK.out)
   have HL6:=hi9 (show∀z∈U ++ [(⟨A5,n5,m5,k.flat⟩:Sl)],∀a,z.A=some a→S a.block∨w2.heap.size≤a.block from fun z hz=>by
    rcases List.mem_append.1 hz with h1|h1
    ·exact hLc.out z h1
    ·rw [List.mem_singleton.1 h1];exact L5.out)
   have hl6:(U ++ [(⟨A5,n5,m5,k.flat⟩:Sl)]).length=j+1:=by simp [hU]
   clear hown hgrow hat AP L5 O5 N5 B5 hUL hK hLc HK hsz5;go_wp2_with fail;go_roundw
   case rel=>exact⟨j+1,L ++ [k],r',_,e0.head.s,by go_num,hlt,hl6,HU6,O6,HE5,HDD,HVR,HSZ2,HK6,HL6,B6⟩
   case measure=>simp [intOf];omega
  ·have hjm:j=m:=by omega
   have hrn:r = .nil:=by
    have h0:=congrArg List.length hD.out;rw [List.length_map,List.length_map,List.length_drop,←HMV.out,hjm,Nat.sub_self] at h0
    cases r with
    | nil=>rfl
    | cons y' r'=>simp [Exs.list] at h0
   subst hrn;have HT:=hi9 (show tyS x.t ps G = .ok L from hE.out.trans (by simp [zmX,tyS]));have HR:=hi9 (show RR=zb2 x.t ⟨yo,yn,ys,yt⟩ ps G L from HRR.out.trans (by rw [HT.out];rfl));have HLP:=hi9 (zk6 HT.out);obtain⟨AU,cU,eU,hcU,SU⟩:=hO.out.at
   subst eU;obtain⟨mu,hmu⟩:∃mu,mu=U.length:=⟨_,rfl⟩
   have HMU:=hi9 hmu;rw [←hmu] at hcU ⊢;have HSU:=hi9 SU;have y0:=zb hB.out Y2.out.1;have y2:=zb hB.out Y2.out.2;obtain⟨c0,c1,c2,c3,c4,c5,c6,c7⟩:=V2.out.keep hB.out;have BR:=bh B2 hB.out;clear hE hD hv hsz hO SU hmu;by_cases h1:yo=1
   case pos =>
    subst h1;have HV:=hi9 (show RR = .ok (Kd.base 41) from HR.out.trans (by simp [zb2]));go_wp2_with fail;refine(zbD (S:=S) (o:=41) (s:=emp) (k:=Kd.base 41) (w:=wr) rfl (by decide)).mono ?_;intro e w8 h8;obtain⟨A8,n8,m8,rfl,hN8,b8,l8⟩:=zaA h8;have B8:=bh BR b8;have N8:=hi9 hN8;have HL:=hi9 (jY BR.out l8);clear h8 hN8 b8 l8 BR;go_wp2_with fail;go_ret;rw [HV.out];exact jb B8.out N8.out HL.out
   by_cases h2:yo=2
   case pos =>
    subst h2;have HV:=hi9 (show RR = .ok (Kd.base 42) from HR.out.trans (by simp [zb2]));go_wp2_with fail;refine(zbD (S:=S) (o:=42) (s:=emp) (k:=Kd.base 42) (w:=wr) rfl (by decide)).mono ?_;intro e w8 h8;obtain⟨A8,n8,m8,rfl,hN8,b8,l8⟩:=zaA h8;have B8:=bh BR b8;have N8:=hi9 hN8;have HL:=hi9 (jY BR.out l8);clear h8 hN8 b8 l8 BR;go_wp2_with fail;go_ret;rw [HV.out];exact jb B8.out N8.out HL.out
   by_cases h3:yo=3
   case pos =>
    subst h3;have HV:=hi9 (show RR = .ok (Kd.base 43) from HR.out.trans (by simp [zb2]));go_wp2_with fail;refine(zbD (S:=S) (o:=43) (s:=emp) (k:=Kd.base 43) (w:=wr) rfl (by decide)).mono ?_;intro e w8 h8;obtain⟨A8,n8,m8,rfl,hN8,b8,l8⟩:=zaA h8;have B8:=bh BR b8;have N8:=hi9 hN8;have HL:=hi9 (jY BR.out l8);clear h8 hN8 b8 l8 BR;go_wp2_with fail;go_ret;rw [HV.out];exact jb B8.out N8.out HL.out
   by_cases h4:yo=4
   case pos =>
    subst h4;have HV:=hi9 (show RR = .ok (Kd.ent ys) from HR.out.trans (by simp [zb2]));go_wp2_with fail;refine(zbD (S:=S) (o:=44) (s:=ys) (k:=Kd.ent ys) (w:=wr) rfl HY.out.s).mono ?_;intro e w8 h8;obtain⟨A8,n8,m8,rfl,hN8,b8,l8⟩:=zaA h8;have B8:=bh BR b8;have N8:=hi9 hN8;have HL:=hi9 (jY BR.out l8);clear h8 hN8 b8 l8 BR;go_wp2_with fail;go_ret;rw [HV.out];exact jb B8.out N8.out HL.out
   by_cases h8:yo=8
   case pos =>
    subst h8;have KN:=hi9 (zlm S x ys wr (X2.out.keep hB.out) HSA.out);unfold Xs.v at KN;have HV:=hi9 (show RR=jF x.t ys from HR.out.trans (by simp [zb2]));go_wp2_with fail;rcases qr:jF x.t ys with u|kk
    ·rw [qr] at KN;refine KN.out.mono ?_;intro e w8 h8;obtain⟨rfl,b8⟩:=zbF h8;have B8:=bh BR b8;clear b8 h8;go_wp2_with fail;exact⟨rfl,by rw [HV.out,qr];exact jl B8.out⟩
    rw [qr] at KN;refine KN.out.mono ?_;intro e w8 h8;obtain⟨A8,n8,m8,rfl,hN8,b8,l8⟩:=zaA h8;have B8:=bh BR b8;have N8:=hi9 hN8;have HL:=hi9 (jY BR.out l8);clear h8 hN8 b8 l8 BR;go_wp2_with fail;go_ret;rw [HV.out,qr];exact jb B8.out N8.out HL.out
   by_cases h5:yo=5
   case pos =>
    subst h5;have HV:=hi9 (show RR=zaF (.base 49) L from HR.out.trans (by simp [zb2]));go_wp2_with fail;refine(zgr 49 emp wr (by decide)).mono ?_;rintro e w8 ⟨rfl,⟨-,N8⟩,b8⟩;have B8:=bh BR b8;have S8:=hi9 (HSU.out.keep b8);have HN8:=hi9 (show Ns w8 (some ⟨wr.heap.size,0,none⟩) 1 1 (Kd.base 49).flat from N8);clear N8 b8 c0 c1 c2 c3 c4 c5 c6 c7 y0 y2 HR;have HUU:=hi9 (show U.length=L.length by have:=congrArg List.length hUL.out;simpa using this);have hmu4:mu≤4000:=by rw [HMU.out,hU];omega
    go_wp2_with fail;go_loopw [17,130] (fun kv i wj=>∃(t:Nat) (kk:Kd) (Ak:Option Addr) (nk ck:Nat),i = .int .i64 t∧t≤mu∧kv = .slice Ak nk ck∧Hid (Ns wj Ak nk ck kk.flat)∧Hid (KOk kk)∧Hid (zaF (.base 49) L=zaF kk (L.drop t))∧Hid (Below w8.heap.size w8 wj)) (fun _ i _=>mu-(intOf i).toNat)
    case atStart=>exact⟨0,.base 49,_,_,_,rfl,Nat.zero_le _,rfl,HN8,hi9 (zcc (by decide)),hi9 (by simp),hi9 (Below.refl _ _)⟩
    case round =>
     obtain⟨t,kk,Ak,nk,ck,rfl,ht,rfl,hNk,hKk,hJ,hBj⟩:=hrel;have hbj:=hBj.out;clear hbj;by_cases hlt9:t<mu
     ·have htU:t<U.length:=by rw [←HMU.out];exact hlt9
      have htL:t<L.length:=by rw [←HUU.out];exact htU
      obtain⟨aU,eAU,q0,n0⟩:=(S8.out.keep hBj.out).at htU;have hP:U[t].P=(L[t]).flat:=by
       have:=congrArg (fun l=>l[t]?) hUL.out;simpa [htU,htL] using this
      rw [hP] at n0;have hkt:=hK.out _ (List.getElem_mem htL);have hJJ:=hJ.out;rw [List.drop_eq_getElem_cons htL] at hJJ;rw [zaF] at hJJ;have KJ:=hi9 (zj5 (S:=fun _=>False) hKk.out hkt hNk.out n0);have hval:=zay _ kk L[t] (Nat.le_refl _) hKk.out.1 hkt.1;subst eAU;generalize U[t]=r0 at *;generalize L[t]=kt at *;have B9:=bh B8 hBj.out;clear hP n0 hkt hNk hKk hJ;unfold za6 at KJ;by_cases g:200<(zm kk kt).sz
      ·rw [if_pos g] at hJJ KJ;have HX:=hi9 (HV.out.trans hJJ);clear hJJ g;go_wp2_with fail;refine KJ.out.mono ?_;intro e w10 h10;obtain⟨rfl,b10⟩:=zbF h10;have B10:=bh B9 b10;clear b10 h10;go_wp2_with fail;exact⟨rfl,by rw [HX.out];exact jl B10.out⟩
      ·rw [if_neg g] at hJJ KJ;have HX:=hi9 hJJ;have HKK:=hi9 (show KOk (zm kk kt) from⟨hval,by omega⟩);clear hJJ g hval;go_wp2_with fail;refine KJ.out.mono ?_;intro e w10 h10;obtain⟨A10,n10,m10,rfl,hN10,b10,-⟩:=zaA h10;have B10:=hi9 (hBj.out.trans (b10.mono hBj.out.size));have N10:=hi9 hN10;clear h10 hN10 b10 hBj B9 KJ q0;go_wp2_with fail;go_roundw
       case rel=>exact⟨t+1,_,A10,n10,m10,by go_num,hlt9,rfl,N10,HKK,HX,B10⟩
       case measure=>simp [intOf];omega
     ·have htm:L.drop t = []:=List.drop_eq_nil_of_le (by rw [←HUU.out,←HMU.out];omega);have hJJ:=hJ.out;rw [htm,zaF] at hJJ;have HX:=hi9 (HV.out.trans hJJ);have B9:=bh B8 hBj.out;clear hJ htm hJJ;go_wp2_with fail;refine(zgr 45 emp wr (by decide)).mono ?_;rintro e w10 ⟨rfl,⟨hR10,-⟩,b10⟩;have B10:=bh B9 b10;have R10:=hi9 hR10;have NK:=hi9 (hNk.out.keep b10);have hks:=hKk.out.2;have hkl:kk.flat.length=kk.sz:=jd kk;have hsw:w.heap.size≤wr.heap.size:=B9.out.size;have hs10:wr.heap.size≤w10.heap.size:=b10.size;clear hR10 b10 B9 hNk;go_wp2_with (at_builtin;refine zdk rfl _ _ rfl wr.heap.size _ _ rfl R10.out _ _ _ kk.flat rfl NK.out (jL kk) ?c1 ?c2 ?_)
      case c1=>show 1+kk.flat.length≤1000;omega
      case c2=>omega
      intro v11 w11 hR11 hb11;have hR12:zdi w11 wr.heap.size v11 (Kd.set kk).flat:=hR11;obtain⟨A11,c11,e11,-,-,-⟩:=ji hR12.own;subst e11;have hl11:(Kd.set kk).flat.length=kk.sz+1:=by rw [jd];rfl
      rw [hl11] at hR12 ⊢;have B11:=hi9 (B10.out.trans (hb11.mono hsw));have R12:=hi9 hR12;have KF:=hi9 (zlQ A11 (kk.sz+1) c11 w11 (by omega));have HX2:=hi9 (show RR=if 200<kk.sz+1 then .error 4 else .ok (.set kk) from HX.out);have HVS:=hi9 (show(Kd.set kk).valid from hKk.out.1);clear hR11 hR12 hb11 R10 NK hl11 HX;by_cases g:200<kk.sz+1
      ·rw [if_pos g] at KF;have HE:=hi9 (show RR = .error 4 by rw [HX2.out,if_pos g]);go_wp2_with fail;refine KF.out.mono ?_;rintro e w12 ⟨rfl,b12⟩;have B12:=bh B11 b12;clear b12 KF;go_wp2_with fail;exact⟨rfl,by rw [HE.out];exact jl B12.out⟩
      ·rw [if_neg g] at KF;have HE:=hi9 (show RR = .ok (.set kk) by rw [HX2.out,if_neg g]);go_wp2_with fail;refine KF.out.mono ?_;rintro e w12 ⟨rfl,b12⟩;have B12:=bh B11 b12;have R13:=R12.out.keep b12;obtain⟨A13,n13,c13,e13,N13⟩:=R13.ns (by rw [jd];show kk.sz+1≤1000;omega) (Kd.valid.nds HVS.out (show kk.sz+1≤1000000 by omega));have HLC:=hi9 (show∀a,A11=some a→w.heap.size≤a.block from fun a e=>by subst e;exact Nat.le_trans hsw (zD R13.own _ rfl));injection e13 with q1 q2 q3;subst q1 q2 q3;have H13:=hi9 N13;clear b12 KF R13 N13;go_wp2_with fail;go_ret;rw [HE.out];exact jb B12.out H13.out (fun a e => .inr (HLC.out a e))
   by_cases h22:yo=22
   case pos =>
    subst h22;have hpl:ps.len=1:=by have h0:=HPN.out;simp [zp] at h0;omega
    obtain⟨ea,rfl⟩:=zkW hpl;obtain⟨k0,rfl⟩:∃k0,L = [k0]:=by
     have h0:=HLP.out;rw [hpl] at h0
     match L,h0 with
     | [k0],_=>exact⟨k0,rfl⟩
    have e0:U[0]?.map Sl.P=some k0.flat:=by have:=congrArg (fun l=>l[0]?) hUL.out;simpa using this
    obtain⟨r0,hr0,hp0⟩:=Option.map_eq_some_iff.1 e0;obtain⟨aU,eAU,qU,nU⟩:=HSU.out 0 r0 hr0;rw [hp0] at nU;have p0:V[0]?.map Sl.P=some ea.flat:=by have:=congrArg (fun l=>l[0]?) HM.out;simpa [Exs.list] using this
    obtain⟨v0,hv0,hq0⟩:=Option.map_eq_some_iff.1 p0;obtain⟨aV,eAV,qV0,nV0⟩:=S2.out 0 v0 hv0;rw [hq0] at nV0;subst eAU eAV;rw [show aU.add 0=aU from rfl] at qU;rw [show aV.add 0=aV from rfl] at qV0;have qV:=zb hB.out qV0;have nV:=nV0.keep hB.out;have hmu0:0<mu:=by rw [HMU.out];exact(List.getElem?_eq_some_iff.1 hr0).1
    have hmu1:(0:Int)<(mu:Int):=by omega
    have hm0:0<m:=by rw [HMV.out];exact(List.getElem?_eq_some_iff.1 hv0).1
    have hm1:(0:Int)<(m:Int):=by omega
    have hLr:=hLc.out r0 (List.mem_of_getElem? hr0);have hk0:=hK.out k0 (by simp);have FR:=F2.out.keep hB.out;have HV:=hi9 (show RR=zca x.t k0 ys (jp G ea.flat ys) from HR.out.trans (by simp [zb2,zng]));have R1:=rq (w:=wr) (fun w' hb=>zon p G v0.A v0.n v0.c ea.flat ys w' (FR.keep hb) (nV.keep hb));have KG:=hi9 (fun w' (hb:Below wr.heap.size wr w')=>zpi (fun b=>S b∨w2.heap.size≤b) x k0 ys (jp G ea.flat ys) r0.A r0.n r0.c w' (X2.out.keep (hB.out.trans (hb.mono hB.out.size))) (nU.keep hb) hk0 hLr (fun z hz a e => .inl (HSK.out z hz a e)));unfold Xs.v at KG;have hw2:w.heap.size≤w2.heap.size:=B2.out.size;have hsz2:w2.heap.size≤wr.heap.size:=hB.out.size;generalize jp G ea.flat ys=kn at *;clear hLr hk0 FR nU nV nV0 qV0 hr0 hp0 e0 hv0 hq0 p0 HR HSU hUL hK hLc hU;go_wp2_with fail;have kc0:=cell_regrown c0;have kc1:=cell_regrown c1;have kc2:=cell_regrown c2;have kc3:=cell_regrown c3;have kc4:=cell_regrown c4;have kc5:=cell_regrown c5;have kc6:=cell_regrown c6;have kc7:=cell_regrown c7;have kqU:=cell_regrown qU;have kqV:=cell_regrown qV;have ky2:=cell_regrown y2;refine zbH (l := [_,_,_,_,_,_,_,_,_,_,_,_,_]) [0,1,2,3,4,5,6,7,8,9,10,11,12] 13 2 (by kernel_rfl) (by kernel_rfl) rfl (fun w'=>∃p:Regrown,w'=grow (redrawn wr p.d) p.os) ⟨⟨wr.drawn+1,#[]⟩,by rw [grow_empty];rfl⟩ ?_
    repeat (first|go_big_quiet_step (with_reducible exact R1 _ _)|quiet_step (with_reducible exact R1 _ _))
    refine wpQuiet_nil ?_;rintro wrd ⟨⟨dd,os⟩,rfl⟩;have bd:=below_regrown wr dd os;generalize grow (redrawn wr dd) os=wrd at *;clear kc0 kc1 kc2 kc3 kc4 kc5 kc6 kc7 kqU kqV ky2;refine zN (i:=13) (by kernel_rfl) rfl (fun K' hK'=>?_);go_simp;have KN:=KG.out wrd bd;have BD:=bh BR bd;have hszd:wr.heap.size≤wrd.heap.size:=bd.size;clear c0 c1 c2 c3 c4 c5 c6 c7 qU qV y2 y0 R1;rcases qr:zca x.t k0 ys kn with u|kk
    ·rw [qr] at KN;refine KN.mono ?_;intro e w8 h8;obtain⟨rfl,b8⟩:=zbF h8;have B8:=bh BD b8;clear b8 h8;go_wp2_with fail;exact⟨rfl,by rw [HV.out,qr];exact jl B8.out⟩
    rw [qr] at KN;refine KN.mono ?_;intro e w8 h8;obtain⟨A8,n8,m8,rfl,hN8,b8,l8⟩:=zaA h8;have B8:=bh BD b8;have N8:=hi9 hN8;have HL:=hi9 (show∀a,A8=some a→S a.block∨w.heap.size≤a.block from fun a e=>by
     rcases l8 a e with (h|h)|h
     ·exact .inl h
     ·exact .inr (by omega)
     ·exact .inr (by omega))
    clear h8 hN8 b8 l8 BD BR bd KN KG;go_wp2_with fail;refine hK'.out _ _ (fun _=>trivial) ?_;clear hK' K'
    try simp only [Act.put,List.setIfInBounds_toArray,List.set_cons_zero,List.set_cons_succ]
    refine zN (i:=14) (by kernel_rfl) rfl (fun K' hK'=>?_);go_simp;refine hK'.out _ _ (fun _=>trivial) ?_;clear hK' K';refine j8 (by kernel_rfl) ?_;go_wp2_with fail;go_ret;rw [HV.out,qr];exact jb B8.out N8.out HL.out
   have e1:(yo==1)=false:=beq_eq_false_iff_ne.2 h1;have e2:(yo==2)=false:=beq_eq_false_iff_ne.2 h2;have e3:(yo==3)=false:=beq_eq_false_iff_ne.2 h3;have e4:(yo==4)=false:=beq_eq_false_iff_ne.2 h4;have e8:(yo==8)=false:=beq_eq_false_iff_ne.2 h8;have e5:(yo==5)=false:=beq_eq_false_iff_ne.2 h5;have e22:(yo==22)=false:=beq_eq_false_iff_ne.2 h22;have HOP:=hi9 (zl7 (y:=⟨yo,yn,ys,yt⟩) HHD.out HPN.out h1 h2 h3 h4 h5 H3.out.2.2 h8 H3.out.1 H3.out.2.1);have KN:=hi9 (znk S x yo L AU mu cU U wr HMU.out (by rw [HMU.out,hU];omega) HSU.out hUL.out (by rw [HLP.out];exact HOP.out) h22 hK.out);unfold Xs.v at KN;have HV:=hi9 (show RR=zG yo L from HR.out.trans (by unfold zb2;rw [if_neg h1,if_neg h2,if_neg h3,if_neg h4,if_neg h8,if_neg h5,if_neg h22]));go_wp2_with fail;rcases qr:zG yo L with u|kk
   ·rw [qr] at KN;refine KN.out.mono ?_;intro e w8 h8;obtain⟨rfl,b8⟩:=zbF h8;have B8:=bh BR b8;clear b8 h8;go_wp2_with fail;exact⟨rfl,by rw [HV.out,qr];exact jl B8.out⟩
   rw [qr] at KN;refine KN.out.mono ?_;intro e w8 h8;obtain⟨A8,n8,m8,rfl,hN8,b8,l8⟩:=zaA h8;have B8:=bh BR b8;have N8:=hi9 hN8;have HL:=hi9 (jY BR.out l8);clear h8 hN8 b8 l8 BR;go_wp2_with fail;go_ret;rw [HV.out,qr];exact jb B8.out N8.out HL.out
theorem zsE(S:Nat→Prop)(x:Xs)(N:Nat)(ih:KdC S x N)(A:Option Addr)(n c:Nat)(y:Nd)(ps:Exs)(p:Option Addr)(G:zy)(w:World)(hx:zft w x)(h:Ns w A n c (Ex.node y ps).flat)(hn:n≤4000)(hv:(Ex.node y ps).valid false)(hN:n≤N+1)(hF:zd7 w p G)(h6:y.op=6):
 Calls Tryz.prog 22 #[x.v,.slice A n c,.pointer p] w (jJ S w (tyX x.t (.node y ps) G)):=by
 have B0:=hi9 (za w x.o);have V0:=hi9 (zbV w x);have X0:=hi9 hx;have F0:=hi9 hF;have CK:=hi9 (fun w' (hb:Below w.heap.size w w')=>zdp A n c (.node y ps) false w' (h.keep hb) hn hv);have HLN:=hi9 (show n=ps.flat.length+1 by rw [h.len];simp [Ex.flat]);have HVP:=hi9 hv.2.2;have IH:=hi9 ih;have HN4:=hi9 hn;have HNN:=hi9 hN;have HY:=hi9 (h.ok y (by simp [Ex.flat]));obtain⟨RR,hRR⟩:∃RR,RR=tyX x.t (.node y ps) G:=⟨_,rfl⟩
 rw [←hRR];have HRR:=hi9 (hRR.trans (znO h6));have HPN:=hi9 hv.2.1;obtain⟨yo,yn,ys,yt⟩:=y;dsimp only at h6;subst h6;unfold Xs.o at B0 V0;simp only [Ex.head,Ex.parts,ndV] at CK;have HREC:=hi9 (fun A' n' c' V w' (h1:zft w' x) (h2:n'=V.length) (h3:n'≤4000) (h4:za4 w' A' V) (h5:V.map Sl.P=ps.list.map Ex.flat) (h7:zd7 w' p G)=>zk7 S x N IH.out ⟨6,yn,ys,yt⟩ ps A' n' c' V p G w' h1 HY.out (by have:=HPN.out;simp [zp] at this;exact this.symm) h2 h3 h4 h5 (by have h0:=HVP.out;rwa [show zA (⟨6,yn,ys,yt⟩:Nd)=true from rfl] at h0) (by have h1:=HLN.out;have h2:=HNN.out;omega) (by have h1:=HLN.out;have h2:=HN4.out;omega) h7);unfold Xs.v ndV at HREC;unfold Xs.v;clear hx hF h hn hv hN ih hRR IH;go_enter Tryz.func22,Tryz.ntmps22;go_wp2_with fail;refine(CK.out _ B0.out).mono ?_;rintro e w1 ⟨A',c',V,rfl,hc,hS,hm,b1⟩;have bN:=za w1 (.cells #[.int .i64 6,.int .i64 yn,.string ys,.string yt] 41);have b2:=b1.trans (bN.mono b1.size);have B2:=bh B0 b2;have V2:=hi9 (V0.out.keep b2);have HVL:=hi9 (show V.length≤4000 by have h0:=congrArg List.length hm;rw [List.length_map,List.length_map,zch] at h0;have h1:=zam ps;have h2:=HLN.out;have h3:=HN4.out;omega);have KR:=hi9 (HREC.out A' V.length c' V _ (X0.out.keep B2.out) rfl HVL.out (hS.keep bN) hm (F0.out.keep B2.out));obtain⟨y0,y1,y2,y3,-,-,-,-⟩:=zga w1 ⟨6,yn,ys,yt⟩;dsimp only at y0 y1 y2 y3;have Y:=hi9 (And.intro y0 (And.intro y1 (And.intro y2 y3)));clear hS hm b1 b2 bN F0 X0 CK hc HREC B0 V0;obtain⟨c0,c1,c2,c3,c4,c5,c6,c7⟩:=V2.out;generalize V.length=m at *;go_wp2_with fail;rcases qr:fsR (tyF x.t ps G 1) with u|kk
 ·rw [qr] at KR;refine KR.out.mono ?_;intro e w8 h8;obtain⟨rfl,b8⟩:=zbF h8;have B8:=bh B2 b8;clear b8 h8;go_wp2_with fail;exact⟨rfl,by rw [HRR.out,qr];exact jl B8.out⟩
 ·rw [qr] at KR;refine KR.out.mono ?_;intro e w8 h8;obtain⟨A8,n8,m8,rfl,hN8,b8,l8⟩:=zaA h8;have B8:=bh B2 b8;have N8:=hi9 hN8;have HL:=hi9 (jY B2.out l8);clear h8 hN8 b8 l8;go_wp2_with fail;go_ret;rw [HRR.out,qr];exact jb B8.out N8.out HL.out
theorem zrt:∀ {ps:Exs},(ps.len:Int)=2→∃a b,ps = .cons a (.cons b .nil)
 | .nil,h=>by simp [Exs.len] at h
 | .cons a .nil,h=>by simp [Exs.len] at h
 | .cons a (.cons b .nil),_=>⟨a,b,rfl⟩
 | .cons a (.cons b (.cons c r)),h=>by simp [Exs.len] at h;omega
theorem zog:∀ {ps:Exs},(ps.len:Int)=3→∃a b c,ps = .cons a (.cons b (.cons c .nil))
 | .nil,h=>by simp [Exs.len] at h
 | .cons a .nil,h=>by simp [Exs.len] at h
 | .cons a (.cons b .nil),h=>by simp [Exs.len] at h
 | .cons a (.cons b (.cons c .nil)),_=>⟨a,b,c,rfl⟩
 | .cons a (.cons b (.cons c (.cons d r))),h=>by simp [Exs.len] at h;omega
theorem zfx(x:Xs):∀N:Nat,KdC (fun b=>b<x.D) x N
 | 0=>fun A n c e p G w hx h hn hv hN hF=>absurd h.len (by cases e;simp [Ex.flat];omega)
 | N+1=>fun A n c e p G w hx h hn hv hN hF=>by
  have ih:=zfx x N;obtain⟨y,ps⟩:=e;by_cases h11:y.op=11
  ·obtain⟨a,b,hps⟩:=zrt (ps:=ps) (by have:=hv.2.1;rw [this];simp [zp,h11]);have:=zsj _ x N ih A n c y ps p G w hx h hn hv hN hF h11 a b hps;rwa [show tyX x.t (.node y ps) G=zbL x.t ps G by rw [tyX,if_pos h11]]
  by_cases h13:y.op=13
  ·obtain⟨a,b,z,hps⟩:=zog (ps:=ps) (by have:=hv.2.1;rw [this];simp [zp,h13]);have:=ztm _ x N ih A n c y ps p G w hx h hn hv hN hF h13 a b z hps;rwa [show tyX x.t (.node y ps) G=zdQ x.t ps G by rw [tyX,if_neg h11,if_pos h13]]
  by_cases h6:y.op=6
  ·exact zsE _ x N ih A n c y ps p G w hx h hn hv hN hF h6
  exact zrw _ x N ih A n c y ps p G w hx h hn hv hN hF hx.ctx hx.kds (fun b hb=>Nat.lt_of_lt_of_le hb hx.d) h11 h13 h6
theorem zoh(p q:Addr)(w:World):
 CallsD Tryz.prog 20 #[.pointer (some p),.pointer (some q)] .returning w fun e u' w'=>e = .returned (.tuple #[])∧u' = .returning∧w'=w:=by
 refine callsD_of_wpS Tryz.func20 rfl fun c₀ cs hu=>?_;apply wpS_seq;apply wpS_region;simp [wpOpsS,go_sem,recoverD,hu,Tryz.ntmps20,Exit.thenS];refine wpS_of_wp ?_;go_wp2_with fail;cases c₀;simp_all [bodyPostS,results,Tryz.results20]
theorem zl3(E F:Nat)(x:Int)(v0 v1:Value)(older:List PanicEntry)(w:World)(hE:w.cell? ⟨E,0,none⟩=some v0)(zE:w.frozen? ⟨E,0,none⟩=false)(hF:w.cell? ⟨F,0,none⟩=some v1)(zF:w.frozen? ⟨F,0,none⟩=false)(hne:E≠F):
 CallsD Tryz.prog 20 #[.pointer (some ⟨E,0,none⟩),.pointer (some ⟨F,0,none⟩)] (.panicking ({ v := .iface 28 (.int .i64 x),recovered:=false } :: older)) w fun e u' w' =>
  e = .returned (.tuple #[])∧u' = .panicking ({ v := .iface 28 (.int .i64 x),recovered:=true } :: older)∧w'=((w.setCell ⟨E,0,none⟩ (.slice none 0 0)).setCell ⟨F,0,none⟩ (.iface 28 (.int .i64 x))):=by
 have hl:E<w.heap.size:=block_lt_of_cell hE;have hl2:F<w.heap.size:=block_lt_of_cell hF;have hne2:F≠E:=hne.symm;have hta:∀w,(Instr.typeAssert (.iface 28 (.int .i64 x)) 20 28 true).run Tryz.prog w = .ok (.tuple #[.int .i64 x,.bool true]) w:=fun _=>by kernel_rfl
 refine callsD_of_wpS Tryz.func20 rfl fun c₀ cs hu=>?_;apply wpS_seq;apply wpS_region;simp [wpOpsS,go_sem,recoverD,hu,Tryz.ntmps20];refine wpS_of_wp ?_;go_wp2_with fail;cases c₀;simp [bodyPostS,results,Tryz.results20]
theorem znu(a:Addr)(n c:Nat)(P:List Nd)(w:World)(h:Ns w (some a) n c P)(hl:P.length≤100000):
 Calls Tryz.prog 21 #[.slice (some a) n c] w (zsh w P):=by
 obtain⟨i0,hi,hz0,hz1,hz2⟩:=info_parts zc5;have hn:=h.len;have HC:=hi9 (fun w' hb=>(h.at_.keep (w':=w') hb).cells);have HO:=hi9 h.ok;have HL:=hi9 hl;clear h hl;subst hn;have hnil:=fun w:World=>Lib.run_eql_slice_nil (P:=Tryz.prog) w 60 41 (some a) P.length c 0 0 Tryz.underlying60;simp only [Option.isNone_some] at hnil;go_enter Tryz.func21,Tryz.ntmps21;have hB:∀W:World,(W.alloc (.cells #[] 41)).ownsRow W.heap.size 41 4 (.slice (some ⟨W.heap.size,0,none⟩) 0 0) 0 []:=fun W =>
  ⟨rfl,.inr ⟨_,0,#[],rfl,Nat.le_refl _,heap_alloc_new W _,Nat.le_refl _,by unfold maxLen;omega,rfl,rfl⟩⟩
 go_wp2_with (at_builtin;refine wpList_append_own _ rfl _ _ 60 rfl w.heap.size 41 i0 _ 4 48 Tryz.underlying60 hi hz0 hz1 hz2 rfl (by decide) _ 0 [] rfl (hB w) a P.length c (zh P) rfl (jm P) (HC.out _ (za _ _)) (je P) ?c1 ?c2 ?c3 ?_)
 case c1=>have:=HL.out;unfold maxLen;omega
 case c2=>have:=HL.out;omega
 case c3=>simp
 intro v1 w1 hown hgrow _;have HW:=hi9 hown;have HG:=hi9 hgrow;clear hown hgrow hnil;go_wp2_with fail;go_ret;obtain⟨A,c',rfl,h1,h2,h3⟩:=ji HW.out;refine⟨A,c',rfl,⟨rfl,h1,by have:=HL.out;unfold maxLen;omega,h2,HO.out⟩,h3,?_⟩;exact(za w _).grown HG.out (by simp) (fun k hk=>by simp [Value.ownBlock] at hk;omega)
theorem zns(A:Option Addr)(n c:Nat)(N:List ByteArray)(s:ByteArray)(w:World)(h:Txs w A n c N):
 Calls Tryz.prog 43 #[.slice A n c,.string s] w fun e w'=>(∃k:Int,e = .returned (.int .i64 k)∧(0≤k↔jS N s=true))∧Below w.heap.size w w':=by
 have HL:=hi9 h.len;have HT:=hi9 h.at_;have hm:=h.max;unfold maxLen at hm;clear h;go_enter Tryz.func43,Tryz.ntmps43;go_wp2_with fail;go_loopw [5,8] (fun _ i wr=>∃k:Nat,i = .int .i64 k∧k≤n∧Hid (jS (N.take k) s=false)∧w=wr) (fun _ i _=>n-(intOf i).toNat)
 case atStart=>exact⟨0,rfl,Nat.zero_le _,hi9 rfl,rfl⟩
 case round =>
  obtain⟨k,rfl,hk,hF,rfl⟩:=hrel;by_cases hlt:k<n
  ·have hkn:k<N.length:=by rw [←HL.out];exact hlt
   obtain⟨a,rfl,q⟩:=HT.out.cell hkn;by_cases hs:N[k]=s
   ·have HR:=hi9 (show jS N s=true from zde.2 (by rw [←hs];exact List.getElem_mem hkn));rw [hs] at q;clear hF hs;go_wp2_with fail;go_ret;exact⟨⟨k,rfl,by rw [HR.out];simp⟩,Below.refl _ _⟩
   ·have HF:=hi9 (zgs hkn hF.out hs);have f6:(s.toList==N[k].toList)=false:=beq_eq_false_iff_ne.2 (fun q=>hs (toList_inj q.symm));generalize N[k]=y at *;clear hF hs;go_wp2_with fail;go_roundw
    case rel=>exact⟨k+1,by go_num,hlt,HF,trivial⟩
    case measure=>simp [intOf];omega
  ·have HR:=hi9 (show jS N s=false by
    have:=hF.out
    rwa [List.take_of_length_le (by rw [←HL.out];omega)] at this)
   clear hF
   go_wp2_with fail
   go_ret
   exact⟨⟨-1,rfl,by rw [HR.out];simp⟩,Below.refl _ _⟩
theorem zeV(A:Option Addr)(n c:Nat)(N:List ByteArray)(s:ByteArray)(w:World)(h:Txs w A n c N):
 Calls Tryz.prog 19 #[.slice A n c,.string s] w fun e w'=>e = .returned (.bool (jS N s))∧Below w.heap.size w w':=by
 have K:=hi9 (zns A n c N s w h);clear h;go_enter Tryz.func19,Tryz.ntmps19;go_wp2_with fail;refine K.out.mono ?_;rintro e w1 ⟨⟨k,rfl,hk⟩,b1⟩;have B1:=hi9 b1;have HK:=hi9 (show decide (0≤k)=jS N s by
  rcases hu:jS N s with _|_
  ·exact decide_eq_false (fun h=>by have:=hk.1 h;rw [hu] at this;cases this)
  ·exact decide_eq_true (hk.2 hu))
 clear hk b1;go_wp2_with fail;go_ret;exact⟨by rw [←HK.out];rfl,B1.out⟩
end Go.Proofs.YtjcdeikbghjpkaaGreatDoor
