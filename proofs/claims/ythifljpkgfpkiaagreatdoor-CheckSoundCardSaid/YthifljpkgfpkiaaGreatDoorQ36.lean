/-
  check's kindOf: the ops whose parts are all looked at first. (gen_chkrest.py) ..
-/
import Derived.Test.YthifljpkgfpkiaaGreatDoorQ35
set_option maxRecDepth 100000
set_option maxHeartbeats 16000000
namespace Go.Proofs.YthifljpkgfpkiaaGreatDoor
open Go.RowKit Go.Wk Go.Sort
theorem Iw(S:Nat->Prop)(x:Xs)(op:Int)(L:List Kd)(A:Option Addr)(n c:Nat)(V:List Sl)(w:World)(hn:n=V.length)(hn2:n<=4000)(hV:jM w A V)(hm:V.map Sl.P=L.map Kd.flat)
 (hop:((op=9\/op=10\/21<=op/\op<=24)/\L.length=1)\/((op=12\/14<=op/\op<=20\/25<=op/\op<=27)/\L.length=2)) (h22:op≠22) (hk:∀k∈L,KOk k):
 Calls Tryz.prog 58 #[x.v,.int .i64 op,.slice A n c] w (jT S w (jp op L)):=by
 by_cases g1:op=9\/op=12
 ·exact Kt S x op L A n c V w hn hn2 hV hm g1
 by_cases g2:op=10\/op=17\/op=18\/op=19
 ·exact Pb S x op L A n c V w hn hn2 hV hm g2
 by_cases g3:op=15\/op=16
 ·exact Pu S x op L A n c V w hn hn2 hV hm g3
 by_cases g4:op=14
 ·subst g4;exact Td S x L A n c w
 rcases hop with ⟨h,hl⟩|⟨h,hl⟩
 ·match L,hl with
  | [k0],_ =>
   by_cases g5:op=23
   ·subst g5;exact LM S x k0 [] A n c V w hn hn2 hV hm
   by_cases g6:op=24
   ·subst g6;exact S' S x k0 [] A n c V w hn hn2 hV hm
   obtain rfl:op=21:=by omega
   exact Nc S x k0 [] A n c V w hn hn2 hV hm
 ·match L,hl with
  | [k0,k1],_ =>
   by_cases g5:op=25
   ·subst g5;exact Ob S x k0 [k1] A n c V w hn hn2 hV hm
   by_cases g6:op=26
   ·subst g6;exact PO S x k0 k1 A n c V w hn hn2 hV hm
   by_cases g7:op=27
   ·subst g7;exact Oy S x k0 k1 A n c V w hn hn2 hV hm
   obtain rfl:op=20:=by omega
   refine SL S x k0 k1 A n c V w hn hn2 hV hm λz e=>?_
   have hb:ah z:=by have:=(hk k1 (by simp)).1;rw [e] at this;exact this
   unfold ah at hb
   omega
theorem To(S:Nat->Prop)(x:Xs)(N:Nat)(ih:KdC S x N)(A:Option Addr)(n c:Nat)(y:Nd)(ps:Exs)(p:Option Addr)(G:jl)(w:World)(hx:oY w x)(h:Ns w A n c (Ex.node y ps).flat)(hn:n<=4000)(hv:(Ex.node y ps).valid false)(hN:n<=N+1)(hF:ll w p G)(hS:∀a,x.a.NA=some a->S a.block)(hSK:∀y∈x.s.K,∀a,y.NA=some a->S a.block)(hSL:∀b,S b->b<w.heap.size)(h11:y.op≠11)(yw:y.op≠13)(h6:y.op≠6):
 Calls Tryz.prog 22 #[x.v,.slice A n c,.pointer p] w (jT S w (tyX x.t (.node y ps) G)):=by
 have B0:=O (za w x.o);have V0:=O (eH w x);have X0:=O hx;have F0:=O hF;have CK:=O (λw' (hb:Below w.heap.size w w')=>iJ A n c (.node y ps) false w' (h.keep hb) hn hv);have fm:=O (show n=ps.flat.length+1 by rw [h.len];simp [Ex.flat]);have wm:=O hv.2.2;have IH:=O ih;have Fx:=O hn;have II:=O hN;have H3:=O (And.intro h11 (And.intro yw h6));have HY:=O (h.ok y (by simp [Ex.flat]));have HL4:=O (show ps.len<=4000 by have h1:=dn ps;have h2:=fm.o;omega);obtain⟨RR,dA⟩:∃RR,RR=tyX x.t (.node y ps) G:=⟨_,rfl⟩
 rw [<-dA];have eZ:=O (dA.trans (Qw h11 yw h6));have HHD:=O hv.1;have HSA:=O hS;have HSK:=O hSK;have Xj:=O hSL;have lp:=O hv.2.1;obtain⟨yo,yn,ys,yt⟩:=y;dsimp only at h11 yw h6;have f11:(yo==11)=false:=beq_eq_false_iff_ne.2 h11;have f13:(yo==13)=false:=beq_eq_false_iff_ne.2 yw;have f6:(yo==6)=false:=beq_eq_false_iff_ne.2 h6;unfold Xs.o at B0 V0;unfold KdC at IH;unfold Xs.v at IH ⊢;simp only [Ex.head,Ex.parts,ndV] at CK;clear hS hSK hSL hx hF h hn hv hN ih dA h11 yw h6;go_enter Tryz.func22,Tryz.ntmps22;go_wp2_with fail;refine(CK.o _ B0.o).mono ?_;rintro e w1 ⟨A',c',V,rfl,hc,hS,hm,b1⟩;have bN:=za w1 (.cells #[.int .i64 yo,.int .i64 yn,.string ys,.string yt] 47);have b2:=b1.trans (bN.mono b1.size);have B2:=bh B0 b2;have V2:=O (V0.o.keep b2);have F2:=O (F0.o.keep B2.o);have X2:=O (X0.o.keep B2.o);have S2:=O (hS.keep bN);have HM:=O hm;have BQ:=O (show V.length=ps.len by have h0:=congrArg List.length hm;rw [List.length_map,List.length_map,mh] at h0;exact h0);obtain⟨y0,-,y2,-,-,-,-,-⟩:=pK w1 ⟨yo,yn,ys,yt⟩;dsimp only at y0 y2;have Y2:=O (And.intro y0 y2);clear hS hm b1 b2 bN B0 V0 F0 X0 CK hc y2;obtain⟨m,ZB⟩:∃m,m=V.length:=⟨_,rfl⟩
 have Zg:=O ZB;rw [<-ZB];clear ZB;go_wp2_with fail;obtain⟨w2,hw2⟩:∃w2,w1.alloc (.cells #[.int .i64 yo,.int .i64 yn,.string ys,.string yt] 47)=w2:=⟨_,rfl⟩
 rw [hw2] at B2 V2 F2 X2 S2 Y2 ⊢;clear hw2 y0;obtain⟨i0,hi,hz0,hz1,hz2⟩:=info_parts VQ;have HVP0:=O (show ps.valid false emp from by have h0:=wm.o;rwa [show jG (⟨yo,yn,ys,yt⟩:Nd)=false from decide_eq_false H3.o.2.2] at h0);have hm4:m<=4000:=by rw [Zg.o,BQ.o];exact HL4.o
 go_loopw [14,91] (λks i wr=>∃(j:Nat) (L:List Kd) (r:Exs) (U:List Sl) (s:ByteArray),i = .int .i64 j/\j<=m/\U.length=j/\Hid (U.map Sl.P=L.map Kd.flat)/\Hid (fJ wr w2.heap.size ks U)/\Hid (tyS x.t ps G=mV L (tyS x.t r G))/\Hid ((V.drop j).map Sl.P=r.list.map Ex.flat)/\Hid (r.valid false s)/\Hid (r.flat.length<=N/\r.flat.length<=4000)/\Hid (∀k∈L,KOk k)/\Hid (∀r∈U,∀a,r.A=some a->S a.block\/w2.heap.size<=a.block)/\Hid (Below w2.heap.size w2 wr)) (λ_ i _=>m-(intOf i).toNat)
 case atStart=>exact⟨0,[],ps,[],emp,rfl,Nat.zero_le _,rfl,O rfl,O (fJ.nil _ _),O (u9 _).symm,O (by simpa using HM.o),HVP0,O (by have h1:=fm.o;have h2:=II.o;have h3:=Fx.o;omega),O (λk hk=>nomatch hk),O (λk hk=>nomatch hk),O (Below.refl _ _)⟩
 case round =>
  obtain⟨j,L,r,U,s,rfl,hj,hU,WJ,hO,hE,hD,hv,hsz,hK,YW,hB⟩:=hrel;by_cases hlt:j<m
  ·have yB:j<V.length:=by rw [<-Zg.o];exact hlt
   obtain⟨a,ea,q0,n0⟩:=S2.o.at yB;replace q0:=zb hB.o q0;have hdr:V.drop j=V[j] :: V.drop (j+1):=List.drop_eq_getElem_cons yB;obtain⟨e0,r',rfl⟩:∃e0 r',r = .cons e0 r':=by
    cases r with
    | nil=>have h0:=congrArg List.length hD.o;rw [hdr] at h0;simp only [Exs.list,List.map_nil,List.map_cons,List.length_cons,List.length_nil] at h0;omega
    | cons e0 r'=>exact⟨e0,r',rfl⟩
   have Ws:=hD.o;rw [hdr] at Ws;simp only [List.map_cons,Exs.list,List.cons.injEq] at Ws;obtain⟨hP,Yr⟩:=Ws;have HDD:=O Yr;obtain⟨-,WY,XI⟩:=hv.o;have HVR:=O XI;rw [hP] at n0;subst ea;generalize V[j]=p0 at *;have HS:=hsz.o;simp only [Exs.flat,List.length_append] at HS;have Wb:=O (show r'.flat.length<=N/\r'.flat.length<=4000 by omega);have KI:=O (IH.o _ _ _ e0 p G wr (X2.o.keep hB.o) (n0.keep hB.o) (by rw [n0.len];omega) WY (by rw [n0.len];omega) (F2.o.keep hB.o));have de:=nj X2.o.ok e0 false G WY;obtain⟨c0,c1,c2,c3,c4,c5,c6,c7⟩:=V2.o.keep hB.o;clear hD hv XI WY hP Yr hdr n0 HS hsz;go_wp2_with fail;rcases qk:tyX x.t e0 G with u|k
   ·rw [qk] at KI;refine KI.o.mono ?_;intro e w5 h5;obtain⟨rfl,b5⟩:=dI h5;have B5:=O (hB.o.trans (b5.mono hB.o.size));clear b5 h5;go_wp2_with fail;exact⟨rfl,by rw [show RR = .error u from eZ.o.trans (by rw [hE.o,vm qk];rfl)];exact jt (bh B2 B5.o).o⟩
   rw [qk] at KI de;have HK:=O (show KOk k from de);have Z8:=O (hE.o.trans (Aq qk));refine KI.o.mono ?_;intro e w5 h5;obtain⟨A5,n5,m5,rfl,JK,b5,l5⟩:=bM h5;have B5:=O (hB.o.trans (b5.mono hB.o.size));have O5:=O (hO.o.keep b5);have N5:=O JK;have hw2:w.heap.size<=w2.heap.size:=B2.o.size;have AP:Hid (bj ⟨A5,n5,m5,k.flat⟩ u14.ownBlock):=by
    intro h0 a' e' q';have h1:=jk hO.o.own a'.block q';have h2:=ej hO.o.own a'.block q';rcases l5 a' e' with h3|h3
    ·have:=Xj.o _ h3;omega
    ·omega
   have L5:=O (show∀a,A5=some a->S a.block\/w2.heap.size<=a.block from λa e=>(l5 a e).imp id (λq=>Nat.le_trans hB.o.size q));have Wy:=B5.o.size;clear h5 JK b5 l5 KI de hE hO hB q0 c0 c1 c2 c3 c4 c5 c6 c7 qk;go_wp2_with (at_builtin;refine wpList_append_own_at _ rfl _ _ 118 rfl w2.heap.size 68 i0 _ 1 24 Tryz.underlying118 hi hz0 hz1 hz2 rfl (by decide) _ U.length (U.map Sl.v) rfl (O5.o.own.alloc _) ⟨_,0,none⟩ 1 1 [.slice A5 n5 m5] rfl rfl (cell_one_new _ _ _) (by intro u hu;simp only [List.mem_cons,List.not_mem_nil,or_false] at hu;subst hu;rfl) ?c1 ?c2 ?c3 ?_)
   case c1=>unfold maxLen;omega
   case c2=>omega
   case c3=>simp;omega
   intro v1 w6 hown hgrow _ hat;have B6:=O ((B5.o.alloc B5.o.size _).grown hgrow (by simp;omega) (jk O5.o.own));have O6:=O (O5.o.snoc (r:=⟨A5,n5,m5,k.flat⟩) N5.o AP.o (by rw [hU];exact hown) hgrow (by simpa using hat));have HU6:=O (show(U ++ [(⟨A5,n5,m5,k.flat⟩:Sl)]).map Sl.P=(L ++ [k]).map Kd.flat by simp [WJ.o]);have HK6:=O (show∀z∈L ++ [k],KOk z from λz hz=>by
    rcases List.mem_append.1 hz with h1|h1
    ·exact hK.o z h1
    ·rw [List.mem_singleton.1 h1];exact HK.o)
   have HL6:=O (show∀z∈U ++ [(⟨A5,n5,m5,k.flat⟩:Sl)],∀a,z.A=some a->S a.block\/w2.heap.size<=a.block from λz hz=>by
    rcases List.mem_append.1 hz with h1|h1
    ·exact YW.o z h1
    ·rw [List.mem_singleton.1 h1];exact L5.o)
   have Yf:(U ++ [(⟨A5,n5,m5,k.flat⟩:Sl)]).length=j+1:=by simp [hU]
   clear hown hgrow hat AP L5 O5 N5 B5 WJ hK YW HK Wy;go_wp2_with fail;go_roundw
   case rel=>exact⟨j+1,L ++ [k],r',_,e0.head.s,by go_num,hlt,Yf,HU6,O6,Z8,HDD,HVR,Wb,HK6,HL6,B6⟩
   case measure=>simp [intOf];omega
  ·have hjm:j=m:=by omega
   have YN:r = .nil:=by
    have h0:=congrArg List.length hD.o;rw [List.length_map,List.length_map,List.length_drop,<-Zg.o,hjm,Nat.sub_self] at h0
    cases r with
    | nil=>rfl
    | cons y' r'=>simp [Exs.list] at h0
   subst YN;have HT:=O (show tyS x.t ps G = .ok L from hE.o.trans (by simp [mV,tyS]));have HR:=O (show RR=ny x.t ⟨yo,yn,ys,yt⟩ ps G L from eZ.o.trans (by rw [HT.o];rfl));have HLP:=O (AG HT.o);obtain⟨AU,cU,eU,hcU,SU⟩:=hO.o.at
   subst eU;obtain⟨mu,hmu⟩:∃mu,mu=U.length:=⟨_,rfl⟩
   have W9:=O hmu;rw [<-hmu] at hcU ⊢;have Zh:=O SU;have y0:=zb hB.o Y2.o.1;have y2:=zb hB.o Y2.o.2;obtain⟨c0,c1,c2,c3,c4,c5,c6,c7⟩:=V2.o.keep hB.o;have BR:=bh B2 hB.o;clear hE hD hv hsz hO SU hmu;by_cases h1:yo=1
   case pos =>
    subst h1;have HV:=O (show RR = .ok (Kd.base 41) from HR.o.trans (by simp [ny]));go_wp2_with fail;refine(dQ (S:=S) (o:=41) (s:=emp) (k:=Kd.base 41) (w:=wr) rfl (by decide)).mono ?_;intro e w8 h8;obtain⟨A8,n8,m8,rfl,qm,b8,l8⟩:=bM h8;have B8:=bh BR b8;have N8:=O qm;have HL:=O (aH BR.o l8);clear h8 qm b8 l8 BR;go_wp2_with fail;go_ret;rw [HV.o];exact jj B8.o N8.o HL.o
   by_cases h2:yo=2
   case pos =>
    subst h2;have HV:=O (show RR = .ok (Kd.base 42) from HR.o.trans (by simp [ny]));go_wp2_with fail;refine(dQ (S:=S) (o:=42) (s:=emp) (k:=Kd.base 42) (w:=wr) rfl (by decide)).mono ?_;intro e w8 h8;obtain⟨A8,n8,m8,rfl,qm,b8,l8⟩:=bM h8;have B8:=bh BR b8;have N8:=O qm;have HL:=O (aH BR.o l8);clear h8 qm b8 l8 BR;go_wp2_with fail;go_ret;rw [HV.o];exact jj B8.o N8.o HL.o
   by_cases h3:yo=3
   case pos =>
    subst h3;have HV:=O (show RR = .ok (Kd.base 43) from HR.o.trans (by simp [ny]));go_wp2_with fail;refine(dQ (S:=S) (o:=43) (s:=emp) (k:=Kd.base 43) (w:=wr) rfl (by decide)).mono ?_;intro e w8 h8;obtain⟨A8,n8,m8,rfl,qm,b8,l8⟩:=bM h8;have B8:=bh BR b8;have N8:=O qm;have HL:=O (aH BR.o l8);clear h8 qm b8 l8 BR;go_wp2_with fail;go_ret;rw [HV.o];exact jj B8.o N8.o HL.o
   by_cases h4:yo=4
   case pos =>
    subst h4;have HV:=O (show RR = .ok (Kd.ent ys) from HR.o.trans (by simp [ny]));go_wp2_with fail;refine(dQ (S:=S) (o:=44) (s:=ys) (k:=Kd.ent ys) (w:=wr) rfl HY.o.s).mono ?_;intro e w8 h8;obtain⟨A8,n8,m8,rfl,qm,b8,l8⟩:=bM h8;have B8:=bh BR b8;have N8:=O qm;have HL:=O (aH BR.o l8);clear h8 qm b8 l8 BR;go_wp2_with fail;go_ret;rw [HV.o];exact jj B8.o N8.o HL.o
   by_cases h8:yo=8
   case pos =>
    subst h8;have KN:=O (DZ S x ys wr (X2.o.keep hB.o) HSA.o);unfold Xs.v at KN;have HV:=O (show RR=bH x.t ys from HR.o.trans (by simp [ny]));go_wp2_with fail;rcases qr:bH x.t ys with u|kk
    ·rw [qr] at KN;refine KN.o.mono ?_;intro e w8 h8;obtain⟨rfl,b8⟩:=dI h8;have B8:=bh BR b8;clear b8 h8;go_wp2_with fail;exact⟨rfl,by rw [HV.o,qr];exact jt B8.o⟩
    rw [qr] at KN;refine KN.o.mono ?_;intro e w8 h8;obtain⟨A8,n8,m8,rfl,qm,b8,l8⟩:=bM h8;have B8:=bh BR b8;have N8:=O qm;have HL:=O (aH BR.o l8);clear h8 qm b8 l8 BR;go_wp2_with fail;go_ret;rw [HV.o,qr];exact jj B8.o N8.o HL.o
   by_cases h5:yo=5
   case pos =>
    subst h5;have HV:=O (show RR=dH (.base 49) L from HR.o.trans (by simp [ny]));go_wp2_with fail;refine(qC 49 emp wr (by decide)).mono ?_;rintro e w8 ⟨rfl,⟨-,N8⟩,b8⟩;have B8:=bh BR b8;have S8:=O (Zh.o.keep b8);have HN8:=O (show Ns w8 (some ⟨wr.heap.size,0,none⟩) 1 1 (Kd.base 49).flat from N8);clear N8 b8 c0 c1 c2 c3 c4 c5 c6 c7 y0 y2 HR;have HUU:=O (show U.length=L.length by have:=congrArg List.length WJ.o;simpa using this);have hmu4:mu<=4000:=by rw [W9.o,hU];omega
    go_wp2_with fail;go_loopw [17,130] (λkv i wj=>∃(t:Nat) (kk:Kd) (Ak:Option Addr) (nk ck:Nat),i = .int .i64 t/\t<=mu/\kv = .slice Ak nk ck/\Hid (Ns wj Ak nk ck kk.flat)/\Hid (KOk kk)/\Hid (dH (.base 49) L=dH kk (L.drop t))/\Hid (Below w8.heap.size w8 wj)) (λ_ i _=>mu-(intOf i).toNat)
    case atStart=>exact⟨0,.base 49,_,_,_,rfl,Nat.zero_le _,rfl,HN8,O (gP (by decide)),O (by simp),O (Below.refl _ _)⟩
    case round =>
     obtain⟨t,kk,Ak,nk,ck,rfl,ht,rfl,Zo,YR,hJ,Wj⟩:=hrel;have hbj:=Wj.o;clear hbj;by_cases hlt9:t<mu
     ·have htU:t<U.length:=by rw [<-W9.o];exact hlt9
      have ZU:t<L.length:=by rw [<-HUU.o];exact htU
      obtain⟨aU,eAU,q0,n0⟩:=(S8.o.keep Wj.o).at htU;have hP:U[t].P=(L[t]).flat:=by
       have:=congrArg (λl=>l[t]?) WJ.o;simpa [htU,ZU] using this
      rw [hP] at n0;have hkt:=hK.o _ (List.getElem_mem ZU);have MO:=hJ.o;rw [List.drop_eq_getElem_cons ZU] at MO;rw [dH] at MO;have KJ:=O (xm (S:=λ_=>False) YR.o hkt Zo.o n0);have hval:=cA _ kk L[t] (Nat.le_refl _) YR.o.1 hkt.1;subst eAU;generalize U[t]=r0 at *;generalize L[t]=kt at *;have B9:=bh B8 Wj.o;clear hP n0 hkt Zo YR hJ;unfold ix at KJ;by_cases g:200<(zI kk kt).sz
      ·rw [if_pos g] at MO KJ;have HX:=O (HV.o.trans MO);clear MO g;go_wp2_with fail;refine KJ.o.mono ?_;intro e w10 h10;obtain⟨rfl,b10⟩:=dI h10;have YQ:=bh B9 b10;clear b10 h10;go_wp2_with fail;exact⟨rfl,by rw [HX.o];exact jt YQ.o⟩
      ·rw [if_neg g] at MO KJ;have HX:=O MO;have HKK:=O (show KOk (zI kk kt) from⟨hval,by omega⟩);clear MO g hval;go_wp2_with fail;refine KJ.o.mono ?_;intro e w10 h10;obtain⟨A10,n10,m10,rfl,hN10,b10,-⟩:=bM h10;have YQ:=O (Wj.o.trans (b10.mono Wj.o.size));have N10:=O hN10;clear h10 hN10 b10 Wj B9 KJ q0;go_wp2_with fail;go_roundw
       case rel=>exact⟨t+1,_,A10,n10,m10,by go_num,hlt9,rfl,N10,HKK,HX,YQ⟩
       case measure=>simp [intOf];omega
     ·have htm:L.drop t = []:=List.drop_eq_nil_of_le (by rw [<-HUU.o,<-W9.o];omega);have MO:=hJ.o;rw [htm,dH] at MO;have HX:=O (HV.o.trans MO);have B9:=bh B8 Wj.o;clear hJ htm MO;go_wp2_with fail;refine(qC 45 emp wr (by decide)).mono ?_;rintro e w10 ⟨rfl,⟨hR10,-⟩,b10⟩;have YQ:=bh B9 b10;have R10:=O hR10;have NK:=O (Zo.o.keep b10);have hks:=YR.o.2;have eK:kk.flat.length=kk.sz:=bW kk;have hsw:w.heap.size<=wr.heap.size:=B9.o.size;have hs10:wr.heap.size<=w10.heap.size:=b10.size;clear hR10 b10 B9 Zo;go_wp2_with (at_builtin;refine io rfl _ _ rfl wr.heap.size _ _ rfl R10.o _ _ _ kk.flat rfl NK.o (ct kk) ?c1 ?c2 ?_)
      case c1=>show 1+kk.flat.length<=1000;omega
      case c2=>omega
      intro v11 w11 hR11 hb11;have Ur:nZ w11 wr.heap.size v11 (Kd.set kk).flat:=hR11;obtain⟨A11,c11,e11,-,-,-⟩:=aM Ur.own;subst e11;have hl11:(Kd.set kk).flat.length=kk.sz+1:=by rw [bW];rfl
      rw [hl11] at Ur ⊢;have B11:=O (YQ.o.trans (hb11.mono hsw));have R12:=O Ur;have KF:=O (Cn A11 (kk.sz+1) c11 w11 (by omega));have oJ:=O (show RR=if 200<kk.sz+1 then .error 4 else .ok (.set kk) from HX.o);have HVS:=O (show(Kd.set kk).valid from YR.o.1);clear hR11 Ur hb11 R10 NK hl11 HX;by_cases g:200<kk.sz+1
      ·rw [if_pos g] at KF;have HE:=O (show RR = .error 4 by rw [oJ.o,if_pos g]);go_wp2_with fail;refine KF.o.mono ?_;rintro e w12 ⟨rfl,b12⟩;have Ub:=bh B11 b12;clear b12 KF;go_wp2_with fail;exact⟨rfl,by rw [HE.o];exact jt Ub.o⟩
      ·rw [if_neg g] at KF;have HE:=O (show RR = .ok (.set kk) by rw [oJ.o,if_neg g]);go_wp2_with fail;refine KF.o.mono ?_;rintro e w12 ⟨rfl,b12⟩;have Ub:=bh B11 b12;have R13:=R12.o.keep b12;obtain⟨A13,n13,c13,e13,N13⟩:=R13.ns (by rw [bW];show kk.sz+1<=1000;omega) (Kd.valid.nds HVS.o (show kk.sz+1<=1000000 by omega));have ZX:=O (show∀a,A11=some a->w.heap.size<=a.block from λa e=>by subst e;exact Nat.le_trans hsw (jk R13.own _ rfl));injection e13 with q1 q2 q3;subst q1 q2 q3;have H13:=O N13;clear b12 KF R13 N13;go_wp2_with fail;go_ret;rw [HE.o];exact jj Ub.o H13.o (λa e => .inr (ZX.o a e))
   by_cases h22:yo=22
   case pos =>
    subst h22;have hpl:ps.len=1:=by have h0:=lp.o;simp [zG] at h0;omega
    obtain⟨ea,rfl⟩:=Aj hpl;obtain⟨k0,rfl⟩:∃k0,L = [k0]:=by
     have h0:=HLP.o;rw [hpl] at h0
     match L,h0 with
     | [k0],_=>exact⟨k0,rfl⟩
    have e0:U[0]?.map Sl.P=some k0.flat:=by have:=congrArg (λl=>l[0]?) WJ.o;simpa using this
    obtain⟨r0,hr0,mY⟩:=Option.map_eq_some_iff.1 e0;obtain⟨aU,eAU,qU,nU⟩:=Zh.o 0 r0 hr0;rw [mY] at nU;have p0:V[0]?.map Sl.P=some ea.flat:=by have:=congrArg (λl=>l[0]?) HM.o;simpa [Exs.list] using this
    obtain⟨v0,hv0,Z0⟩:=Option.map_eq_some_iff.1 p0;obtain⟨aV,eAV,qV0,nV0⟩:=S2.o 0 v0 hv0;rw [Z0] at nV0;subst eAU eAV;rw [show aU.add 0=aU from rfl] at qU;rw [show aV.add 0=aV from rfl] at qV0;have qV:=zb hB.o qV0;have nV:=nV0.keep hB.o;have hmu0:0<mu:=by rw [W9.o];exact(List.getElem?_eq_some_iff.1 hr0).1
    have hmu1:(0:Int)<(mu:Int):=by omega
    have Wn:0<m:=by rw [Zg.o];exact(List.getElem?_eq_some_iff.1 hv0).1
    have UJ:(0:Int)<(m:Int):=by omega
    have hLr:=YW.o r0 (List.mem_of_getElem? hr0);have sM:=hK.o k0 (by simp);have FRk:=F2.o.keep hB.o;have HV:=O (show RR=mS x.t k0 ys (dL G ea.flat ys) from HR.o.trans (by simp [ny,Oj]));have R1:=rq (w:=wr) (λw' hb=>Kp p G v0.A v0.n v0.c ea.flat ys w' (FRk.keep hb) (nV.keep hb));have KG:=O (λw' (hb:Below wr.heap.size wr w')=>Lb (λb=>S b\/w2.heap.size<=b) x k0 ys (dL G ea.flat ys) r0.A r0.n r0.c w' (X2.o.keep (hB.o.trans (hb.mono hB.o.size))) (nU.keep hb) sM hLr (λz hz a e => .inl (HSK.o z hz a e)));unfold Xs.v at KG;have hw2:w.heap.size<=w2.heap.size:=B2.o.size;have hsz2:w2.heap.size<=wr.heap.size:=hB.o.size;generalize dL G ea.flat ys=kn at *;clear hLr sM FRk nU nV nV0 qV0 hr0 mY e0 hv0 Z0 p0 HR Zh WJ hK YW hU;go_wp2_with fail;have kc0:=cell_regrown c0;have kc1:=cell_regrown c1;have kc2:=cell_regrown c2;have kc3:=cell_regrown c3;have kc4:=cell_regrown c4;have kc5:=cell_regrown c5;have kc6:=cell_regrown c6;have kc7:=cell_regrown c7;have kqU:=cell_regrown qU;have kqV:=cell_regrown qV;have ky2:=cell_regrown y2;refine dR (l := [_,_,_,_,_,_,_,_,_,_,_,_,_]) [0,1,2,3,4,5,6,7,8,9,10,11,12] 13 2 (by kernel_rfl) (by kernel_rfl) rfl (λw'=>∃p:Regrown,w'=grow (redrawn wr p.d) p.os) ⟨⟨wr.drawn+1,#[]⟩,by rw [grow_empty];rfl⟩ ?_
    repeat (first|go_big_quiet_step (with_reducible exact R1 _ _)|quiet_step (with_reducible exact R1 _ _))
    refine wpQuiet_nil ?_;rintro wrd ⟨⟨dd,os⟩,rfl⟩;have bd:=below_regrown wr dd os;generalize grow (redrawn wr dd) os=wrd at *;clear kc0 kc1 kc2 kc3 kc4 kc5 kc6 kc7 kqU kqV ky2;refine zA (i:=13) (by kernel_rfl) rfl (λK' hK'=>?_);go_simp;have KN:=KG.o wrd bd;have BD:=bh BR bd;have hszd:wr.heap.size<=wrd.heap.size:=bd.size;clear c0 c1 c2 c3 c4 c5 c6 c7 qU qV y2 y0 R1;rcases qr:mS x.t k0 ys kn with u|kk
    ·rw [qr] at KN;refine KN.mono ?_;intro e w8 h8;obtain⟨rfl,b8⟩:=dI h8;have B8:=bh BD b8;clear b8 h8;go_wp2_with fail;exact⟨rfl,by rw [HV.o,qr];exact jt B8.o⟩
    rw [qr] at KN;refine KN.mono ?_;intro e w8 h8;obtain⟨A8,n8,m8,rfl,qm,b8,l8⟩:=bM h8;have B8:=bh BD b8;have N8:=O qm;have HL:=O (show∀a,A8=some a->S a.block\/w.heap.size<=a.block from λa e=>by
     rcases l8 a e with (h|h)|h
     ·exact .inl h
     ·exact .inr (by omega)
     ·exact .inr (by omega))
    clear h8 qm b8 l8 BD BR bd KN KG;go_wp2_with fail;refine hK'.out _ _ (λ_=>trivial) ?_;clear hK' K'
    try simp only [Act.put,zL]
    refine zA (i:=14) (by kernel_rfl) rfl (λK' hK'=>?_);go_simp;refine hK'.out _ _ (λ_=>trivial) ?_;clear hK' K';refine jR (by kernel_rfl) ?_;go_wp2_with fail;go_ret;rw [HV.o,qr];exact jj B8.o N8.o HL.o
   have e1:(yo==1)=false:=beq_eq_false_iff_ne.2 h1;have e2:(yo==2)=false:=beq_eq_false_iff_ne.2 h2;have e3:(yo==3)=false:=beq_eq_false_iff_ne.2 h3;have e4:(yo==4)=false:=beq_eq_false_iff_ne.2 h4;have e8:(yo==8)=false:=beq_eq_false_iff_ne.2 h8;have e5:(yo==5)=false:=beq_eq_false_iff_ne.2 h5;have e22:(yo==22)=false:=beq_eq_false_iff_ne.2 h22;have HOP:=O (CQ (y:=⟨yo,yn,ys,yt⟩) HHD.o lp.o h1 h2 h3 h4 h5 H3.o.2.2 h8 H3.o.1 H3.o.2.1);have KN:=O (Iw S x yo L AU mu cU U wr W9.o (by rw [W9.o,hU];omega) Zh.o WJ.o (by rw [HLP.o];exact HOP.o) h22 hK.o);unfold Xs.v at KN;have HV:=O (show RR=jp yo L from HR.o.trans (by unfold ny;rw [if_neg h1,if_neg h2,if_neg h3,if_neg h4,if_neg h8,if_neg h5,if_neg h22]));go_wp2_with fail;rcases qr:jp yo L with u|kk
   ·rw [qr] at KN;refine KN.o.mono ?_;intro e w8 h8;obtain⟨rfl,b8⟩:=dI h8;have B8:=bh BR b8;clear b8 h8;go_wp2_with fail;exact⟨rfl,by rw [HV.o,qr];exact jt B8.o⟩
   rw [qr] at KN;refine KN.o.mono ?_;intro e w8 h8;obtain⟨A8,n8,m8,rfl,qm,b8,l8⟩:=bM h8;have B8:=bh BR b8;have N8:=O qm;have HL:=O (aH BR.o l8);clear h8 qm b8 l8 BR;go_wp2_with fail;go_ret;rw [HV.o,qr];exact jj B8.o N8.o HL.o
theorem U'(S:Nat->Prop)(x:Xs)(N:Nat)(ih:KdC S x N)(A:Option Addr)(n c:Nat)(y:Nd)(ps:Exs)(p:Option Addr)(G:jl)(w:World)(hx:oY w x)(h:Ns w A n c (Ex.node y ps).flat)(hn:n<=4000)(hv:(Ex.node y ps).valid false)(hN:n<=N+1)(hF:ll w p G)(h6:y.op=6):
 Calls Tryz.prog 22 #[x.v,.slice A n c,.pointer p] w (jT S w (tyX x.t (.node y ps) G)):=by
 have B0:=O (za w x.o);have V0:=O (eH w x);have X0:=O hx;have F0:=O hF;have CK:=O (λw' (hb:Below w.heap.size w w')=>iJ A n c (.node y ps) false w' (h.keep hb) hn hv);have fm:=O (show n=ps.flat.length+1 by rw [h.len];simp [Ex.flat]);have wm:=O hv.2.2;have IH:=O ih;have Fx:=O hn;have II:=O hN;have HY:=O (h.ok y (by simp [Ex.flat]));obtain⟨RR,dA⟩:∃RR,RR=tyX x.t (.node y ps) G:=⟨_,rfl⟩
 rw [<-dA];have eZ:=O (dA.trans (Ti h6));have lp:=O hv.2.1;obtain⟨yo,yn,ys,yt⟩:=y;dsimp only at h6;subst h6;unfold Xs.o at B0 V0;simp only [Ex.head,Ex.parts,ndV] at CK;have Wv:=O (λA' n' c' V w' (h1:oY w' x) (h2:n'=V.length) (h3:n'<=4000) (h4:jM w' A' V) (h5:V.map Sl.P=ps.list.map Ex.flat) (h7:ll w' p G)=>y9 S x N IH.o ⟨6,yn,ys,yt⟩ ps A' n' c' V p G w' h1 HY.o (by have:=lp.o;simp [zG] at this;exact this.symm) h2 h3 h4 h5 (by have h0:=wm.o;rwa [show jG (⟨6,yn,ys,yt⟩:Nd)=true from rfl] at h0) (by have h1:=fm.o;have h2:=II.o;omega) (by have h1:=fm.o;have h2:=Fx.o;omega) h7);unfold Xs.v ndV at Wv;unfold Xs.v;clear hx hF h hn hv hN ih dA IH;go_enter Tryz.func22,Tryz.ntmps22;go_wp2_with fail;refine(CK.o _ B0.o).mono ?_;rintro e w1 ⟨A',c',V,rfl,hc,hS,hm,b1⟩;have bN:=za w1 (.cells #[.int .i64 6,.int .i64 yn,.string ys,.string yt] 47);have b2:=b1.trans (bN.mono b1.size);have B2:=bh B0 b2;have V2:=O (V0.o.keep b2);have BQ:=O (show V.length<=4000 by have h0:=congrArg List.length hm;rw [List.length_map,List.length_map,mh] at h0;have h1:=dn ps;have h2:=fm.o;have h3:=Fx.o;omega);have KR:=O (Wv.o A' V.length c' V _ (X0.o.keep B2.o) rfl BQ.o (hS.keep bN) hm (F0.o.keep B2.o));obtain⟨y0,y1,y2,y3,-,-,-,-⟩:=pK w1 ⟨6,yn,ys,yt⟩;dsimp only at y0 y1 y2 y3;have Y:=O (And.intro y0 (And.intro y1 (And.intro y2 y3)));clear hS hm b1 b2 bN F0 X0 CK hc Wv B0 V0;obtain⟨c0,c1,c2,c3,c4,c5,c6,c7⟩:=V2.o;generalize V.length=m at *;go_wp2_with fail;rcases qr:fsR (tyF x.t ps G 1) with u|kk
 ·rw [qr] at KR;refine KR.o.mono ?_;intro e w8 h8;obtain⟨rfl,b8⟩:=dI h8;have B8:=bh B2 b8;clear b8 h8;go_wp2_with fail;exact⟨rfl,by rw [eZ.o,qr];exact jt B8.o⟩
 ·rw [qr] at KR;refine KR.o.mono ?_;intro e w8 h8;obtain⟨A8,n8,m8,rfl,qm,b8,l8⟩:=bM h8;have B8:=bh B2 b8;have N8:=O qm;have HL:=O (aH B2.o l8);clear h8 qm b8 l8;go_wp2_with fail;go_ret;rw [eZ.o,qr];exact jj B8.o N8.o HL.o
theorem S3:∀ {ps:Exs},(ps.len:Int)=2->∃a b,ps = .cons a (.cons b .nil)
 | .nil,h=>by simp [Exs.len] at h
 | .cons a .nil,h=>by simp [Exs.len] at h
 | .cons a (.cons b .nil),_=>⟨a,b,rfl⟩
 | .cons a (.cons b (.cons c r)),h=>by simp [Exs.len] at h;omega
theorem Ll:∀ {ps:Exs},(ps.len:Int)=3->∃a b c,ps = .cons a (.cons b (.cons c .nil))
 | .nil,h=>by simp [Exs.len] at h
 | .cons a .nil,h=>by simp [Exs.len] at h
 | .cons a (.cons b .nil),h=>by simp [Exs.len] at h
 | .cons a (.cons b (.cons c .nil)),_=>⟨a,b,c,rfl⟩
 | .cons a (.cons b (.cons c (.cons d r))),h=>by simp [Exs.len] at h;omega
theorem oQ(x:Xs):∀N:Nat,KdC (λb=>b<x.D) x N
 | 0=>λA n c e p G w hx h hn hv hN hF=>absurd h.len (by cases e;simp [Ex.flat];omega)
 | N+1=>λA n c e p G w hx h hn hv hN hF=>by
  have ih:=oQ x N;obtain⟨y,ps⟩:=e;by_cases h11:y.op=11
  ·obtain⟨a,b,Rw⟩:=S3 (ps:=ps) (by have:=hv.2.1;rw [this];simp [zG,h11]);have:=VP _ x N ih A n c y ps p G w hx h hn hv hN hF h11 a b Rw;rwa [show tyX x.t (.node y ps) G=lA x.t ps G by rw [tyX,if_pos h11]]
  by_cases yw:y.op=13
  ·obtain⟨a,b,z,Rw⟩:=Ll (ps:=ps) (by have:=hv.2.1;rw [this];simp [zG,yw]);have:=Xp _ x N ih A n c y ps p G w hx h hn hv hN hF yw a b z Rw;rwa [show tyX x.t (.node y ps) G=rY x.t ps G by rw [tyX,if_neg h11,if_pos yw]]
  by_cases h6:y.op=6
  ·exact U' _ x N ih A n c y ps p G w hx h hn hv hN hF h6
  exact To _ x N ih A n c y ps p G w hx h hn hv hN hF hx.ctx hx.kds (λb hb=>Nat.lt_of_lt_of_le hb hx.d) h11 yw h6
theorem Ko(p q:Addr)(w:World):
 CallsD Tryz.prog 20 #[.pointer (some p),.pointer (some q)] .returning w λe u' w'=>e = .returned (.tuple #[])/\u' = .returning/\w'=w:=by
 refine callsD_of_wpS Tryz.func20 rfl λc₀ cs hu=>?_;apply wpS_seq;apply wpS_region;simp [wpOpsS,go_sem,recoverD,hu,Tryz.ntmps20,Exit.thenS];refine wpS_of_wp ?_;go_wp2_with fail;cases c₀;simp_all [bodyPostS,results,Tryz.results20]
theorem Ed(E F:Nat)(x:Int)(v0 v1:Value)(older:List PanicEntry)(w:World)(hE:w.cell? ⟨E,0,none⟩=some v0)(zE:w.frozen? ⟨E,0,none⟩=false)(hF:w.cell? ⟨F,0,none⟩=some v1)(zF:w.frozen? ⟨F,0,none⟩=false)(hne:E≠F):
 CallsD Tryz.prog 20 #[.pointer (some ⟨E,0,none⟩),.pointer (some ⟨F,0,none⟩)] (.panicking ({ v := .iface 41 (.int .i64 x),recovered:=false } :: older)) w λe u' w' =>
  e = .returned (.tuple #[])/\u' = .panicking ({ v := .iface 41 (.int .i64 x),recovered:=true } :: older)/\w'=((w.setCell ⟨E,0,none⟩ (.slice none 0 0)).setCell ⟨F,0,none⟩ (.iface 41 (.int .i64 x))):=by
 have hl:E<w.heap.size:=block_lt_of_cell hE;have hl2:F<w.heap.size:=block_lt_of_cell hF;have hne2:F≠E:=hne.symm;have Z7:∀w,(Instr.typeAssert (.iface 41 (.int .i64 x)) 20 41 true).run Tryz.prog w = .ok (.tuple #[.int .i64 x,.bool true]) w:=λ_=>by kernel_rfl
 refine callsD_of_wpS Tryz.func20 rfl λc₀ cs hu=>?_;apply wpS_seq;apply wpS_region;simp [wpOpsS,go_sem,recoverD,hu,Tryz.ntmps20];refine wpS_of_wp ?_;go_wp2_with fail;cases c₀;simp [bodyPostS,results,Tryz.results20]
theorem H'(a:Addr)(n c:Nat)(P:List Nd)(w:World)(h:Ns w (some a) n c P)(hl:P.length<=100000):
 Calls Tryz.prog 21 #[.slice (some a) n c] w (Dc w P):=by
 obtain⟨i0,hi,hz0,hz1,hz2⟩:=info_parts kF;have hn:=h.len;have HC:=O (λw' hb=>(h.at_.keep (w':=w') hb).cells);have HO:=O h.ok;have HL:=O hl;clear h hl;subst hn;have hnil:=λw:World=>Lib.run_eql_slice_nil (P:=Tryz.prog) w 68 47 (some a) P.length c 0 0 Tryz.underlying68;simp only [Option.isNone_some] at hnil;go_enter Tryz.func21,Tryz.ntmps21;have hB:∀W:World,(W.alloc (.cells #[] 47)).ownsRow W.heap.size 47 4 (.slice (some ⟨W.heap.size,0,none⟩) 0 0) 0 []:=λW =>
  ⟨rfl,.inr ⟨_,0,#[],rfl,Nat.le_refl _,heap_alloc_new W _,Nat.le_refl _,by unfold maxLen;omega,rfl,rfl⟩⟩
 go_wp2_with (at_builtin;refine wpList_append_own _ rfl _ _ 68 rfl w.heap.size 47 i0 _ 4 48 Tryz.underlying68 hi hz0 hz1 hz2 rfl (by decide) _ 0 [] rfl (hB w) a P.length c (zD P) rfl (az P) (HC.o _ (za _ _)) (bG P) ?c1 ?c2 ?c3 ?_)
 case c1=>have:=HL.o;unfold maxLen;omega
 case c2=>have:=HL.o;omega
 case c3=>simp
 intro v1 w1 hown hgrow _;have HW:=O hown;have HG:=O hgrow;clear hown hgrow hnil;go_wp2_with fail;go_ret;obtain⟨A,c',rfl,h1,h2,h3⟩:=aM HW.o;refine⟨A,c',rfl,⟨rfl,h1,by have:=HL.o;unfold maxLen;omega,h2,HO.o⟩,h3,?_⟩;exact(za w _).grown HG.o (by simp) (λk hk=>by simp [Value.ownBlock] at hk;omega)
structure Vn(w:World)(b:Nat)(x:Nd):Prop where
 c0:w.cell? ⟨b,0,none⟩=some (.int .i64 x.op)
 c1:w.cell? ⟨b,1,none⟩=some (.int .i64 x.n)
 c2:w.cell? ⟨b,2,none⟩=some (.string x.s)
 c3:w.cell? ⟨b,3,none⟩=some (.string x.t)
theorem Vn.keep{w w':World}{b:Nat}{x:Nd}(h:Vn w b x)(hb:Below w.heap.size w w'):Vn w' b x:=⟨zb hb h.c0,zb hb h.c1,zb hb h.c2,zb hb h.c3⟩
theorem U6(w:World)(x:Nd)(t:TypeId):Vn (w.alloc (.cells #[.int .i64 x.op,.int .i64 x.n,.string x.s,.string x.t] t)) w.heap.size x :=
 ⟨dw (heap_alloc_new w _) rfl,dw (heap_alloc_new w _) rfl,dw (heap_alloc_new w _) rfl,dw (heap_alloc_new w _) rfl⟩
theorem Gu(t:List Nd)(s s':ByteArray):∀(c p:Nat),da t c false s p=da t c false s' p
 | 0,p=>by unfold da;simp only [jO]
 | c+1,p=>by
  rcases h:t[p]? with _|y
  ·have hp:t.length<=p:=List.getElem?_eq_none_iff.1 h;rw [mz hp,mz hp]
  ·have e1:∀z,¬(false=true/\¬js z y.s<0):=λz q=>Bool.false_ne_true q.1;rw [kp h,kp h,if_neg (e1 s),if_neg (e1 s')]
theorem Df{t:List Nd}{s:ByteArray}{c p:Nat}:da t (c+1) false s p=if 0<=bU t p false then da t c false s (bU t p false).toNat else -1:=by
 rcases h:t[p]? with _|y
 ·have hp:t.length<=p:=List.getElem?_eq_none_iff.1 h;rw [mz hp,D8 hp];rfl
 ·rw [kp h,if_neg (λq=>absurd q.1 Bool.false_ne_true),Gu t y.s s]
theorem Nl{f:Bool}{x:Nd}(h:aA x=false):bP f x=false:=by unfold bP;rw [h];rfl
theorem Ot{f:Bool}{x:Nd}(h:aA x=true):bP f x=(decide (x.op=7)==f):=by unfold bP;rw [h];rfl
theorem Mm{x:Nd}(h:lk x):zG x<=9223372036854775807:=by
 unfold zG;have:=h.hi;split
 ·exact this
 ·repeat' (first|split|omega)
def TbC(P:List Nd)(A:Option Addr)(n c m:Nat):Prop:=∀(p:Nat) (f:Bool) (w:World),Ns w A n c P->n-p<=m->
 Calls Tryz.prog 47 #[.slice A n c,.int .i64 p,.bool f] w λe w'=>e = .returned (.int .i64 (bU P p f))/\Below w.heap.size w w'
theorem O'(P:List Nd)(A:Option Addr)(n c p:Nat)(f:Bool)(w:World)(h:Ns w A n c P)(hp:n<=p):
 Calls Tryz.prog 47 #[.slice A n c,.int .i64 p,.bool f] w λe w'=>e = .returned (.int .i64 (bU P p f))/\Below w.heap.size w w':=by
 have HR:=O (D8 (t:=P) (p:=p) (f:=f) (by rw [<-h.len];exact hp));have f0:decide ((n:Int)<=(p:Int))=true:=decide_eq_true (by omega);have f1:decide ((p:Int)<0)=false:=decide_eq_false (by omega);clear h;go_enter Tryz.func47,Tryz.ntmps47;go_wp2_with fail;go_ret;exact⟨by rw [HR.o];rfl,Below.refl _ _⟩
theorem TF(P:List Nd)(m:Nat)(a:Addr)(n c q:Nat)(f:Bool)(w:World)(ih:TbC P (some a) n c m)(df:Ns w (some a) n c P)(hq:q<n)(hf:n-q<=m+1):
 Calls Tryz.prog 47 #[.slice (some a) n c,.int .i64 q,.bool f] w λe w'=>e = .returned (.int .i64 (bU P q f))/\Below w.heap.size w w':=by
 have hm:=df.max;unfold maxLen at hm;have Ua:=O df;have fm:=O df.len;have RF:q<P.length:=by rw [<-df.len];exact hq
 have Zc:=List.getElem?_eq_getElem RF;have de:=df.ok _ (List.getElem_mem RF);have IH:=O (λp g w' (hp:q<p) hb=>ih p g w' (df.keep (w':=w') hb) (by omega));obtain⟨a',ea,d0,d1,d2,d3⟩:=df.at_ q _ Zc;injection ea with ea;subst ea;have CS:=O (Fu P[q] w de);have CP:=O (λw=>kO P[q] w);have hpl:=Mm de;obtain⟨x,hx⟩:∃x,x=P[q]:=⟨_,rfl⟩
 rw [<-hx] at Zc de d0 d1 d2 d3 CS CP hpl;have HX:=O Zc;clear hx Zc df ih de;have ZT:=O (show Nd4 w (a.add (q*4)) x from⟨d0,d1,d2,d3⟩);unfold ndV at CS CP;have f0:decide (n<=q)=false:=decide_eq_false (by omega);have f1:decide ((q:Int)<0)=false:=decide_eq_false (by omega);by_cases Ug:aA x=true
 ·rw [Ug] at CS;have HH:=O (Ot (f:=f) Ug);have HP0:=O (s8 Ug);clear Ug;go_enter Tryz.func47,Tryz.ntmps47;go_wp2_with fail;refine CS.o.mono ?_;rintro e w1 ⟨rfl,b1⟩;have B1:=O b1;have HXE1:=O (ZT.o.keep b1);obtain⟨e0,e1,e2,e3⟩:=HXE1.o;clear b1 CS ZT d0 d1 d2 d3;have he:(x.op==7)=decide (x.op=7):=rfl;by_cases hh:(decide (x.op=7)==f)=true
  ·have HE:=O (show bU P q f=da P (zG x).toNat (jG x) emp (q+1) from LS HX.o (HH.o.trans hh));have f2:(!(x.op==7)==f)=false:=by rw [he];revert hh;cases decide (x.op=7)<;> cases f <;> simp
   obtain⟨M,hM⟩:∃M:Nat,zG x=(M:Int):=⟨(zG x).toNat,by have:=HP0.o;omega⟩
   rw [hM] at CP hpl;rw [hM,Int.toNat_natCast] at HE;have B2:=O (B1.o.trans ((za w1 (.cells #[.int .i64 x.op,.int .i64 x.n,.string x.s,.string x.t] 47)).mono B1.o.size));have V2:=O (U6 w1 x 47);clear hh he hM HH HP0 HX;go_wp2_with fail;refine(CP.o _).mono ?_;rintro e w2 ⟨rfl,b2⟩;have B3:=bh B2 b2;have V3:=O (V2.o.keep b2);clear b2 B2 V2 e0 e1 e2 e3 HXE1 B1 CP;go_wp2_with fail;go_loopw [1,8,43] (λu l i wr=>∃(k p:Nat) (last:ByteArray),u = .int .i64 p/\l = .string last/\i = .int .i64 k/\k<=M/\q<p/\p<=n/\Hid (bU P q f=da P (M-k) (jG x) last p)/\Hid (Below w.heap.size w wr)/\Hid (Vn wr w1.heap.size x)) (λ_ _ i _=>M-(intOf i).toNat)
   case atStart=>exact⟨0,q+1,⟨#[]⟩,by go_num,rfl,rfl,Nat.zero_le _,Nat.lt_succ_self _,hq,HE,B3,V3⟩
   case round =>
    clear B3 V3 HE;obtain⟨k,p,last,rfl,rfl,rfl,hk,hqp,T',hF,hB,hV⟩:=hrel;obtain⟨v0,v1,v2,v3⟩:=hV.o;by_cases hlt:k<M
    ·have HF:=O (show bU P q f=da P (M-(k+1)+1) (jG x) last p by rw [hF.o,show M-k=M-(k+1)+1 by omega]);clear hF;by_cases hpn2:p<n
     ·have hpl2:p<P.length:=by rw [<-fm.o];exact hpn2
      have g3:decide (n<=p)=false:=decide_eq_false (by omega);by_cases h6:x.op=6
      ·have hr:jG x=true:=by unfold jG;exact decide_eq_true h6
       have g2:(x.op==6)=true:=beq_iff_eq.2 h6;obtain⟨a',ea,e0,e1,e2,e3⟩:=(Ua.o.keep hB.o).at_ p _ (List.getElem?_eq_getElem hpl2);injection ea with ea;subst ea;have HN:=O (HF.o.trans ((congrArg (λb=>da P (M-(k+1)+1) b last p) hr).trans (kp (List.getElem?_eq_getElem hpl2))));have HRC:=O hr;have ZC:=O (λw' hb=>IH.o p true w' hqp hb);generalize P[p]=y at *;clear HF hr h6;rcases pY y.s last with ⟨hc,l1,l2⟩|⟨hc,l1⟩|⟨hc,l1,l2⟩
       ·have YP:=O (HN.o.trans (if_neg (λq=>q.2 hc)));clear hc HN;go_wp2_with fail;refine(ZC.o _ hB.o).mono ?_;rintro e w6 ⟨rfl,b6⟩;have B6:=bh hB b6;have V6:=O (hV.o.keep b6);clear b6 hB hV v0 v1 v2 v3 e0 e1 e2 e3;by_cases sM:0<=bU P p true
        ·obtain⟨e',he,hep,Yc⟩:=JD sM;have FI:=O (show bU P q f=da P (M-(k+1)) (jG x) y.s e' by
          have h1:=YP.o
          rw [if_pos sM,he,Int.toNat_natCast] at h1
          rw [h1,HRC.o])
         have hen:e'<=n:=by rw [fm.o];exact Yc
         rw [he];clear sM he Yc;go_wp2_with fail;go_roundw
         case rel=>exact⟨k+1,e',y.s,rfl,rfl,by go_num,hlt,by omega,hen,FI,B6,V6⟩
         case measure=>simp [intOf];omega
        ·have Uw:=O (show bU P q f = -1 by rw [YP.o,if_neg sM]);rw [Ff sM];clear sM;go_wp2_with fail;go_ret;exact⟨by rw [Uw.o];rfl,B6.o⟩
       ·have Uw:=O (show bU P q f = -1 from HN.o.trans (if_pos ⟨rfl,hc⟩));clear hc HN;go_wp2_with fail;go_ret;exact⟨by rw [Uw.o];rfl,hB.o⟩
       ·have Uw:=O (show bU P q f = -1 from HN.o.trans (if_pos ⟨rfl,hc⟩));clear hc HN;go_wp2_with fail;go_ret;exact⟨by rw [Uw.o];rfl,hB.o⟩
      ·have hr:jG x=false:=by unfold jG;exact decide_eq_false h6
       have HRC:=O hr;have g2:(x.op==6)=false:=beq_eq_false_iff_ne.2 h6;have YP:=O (HF.o.trans ((congrArg (λb=>da P (M-(k+1)+1) b last p) hr).trans Df));have ZC:=O (λw' hb=>IH.o p false w' hqp hb);clear hr HF h6;go_wp2_with fail;refine(ZC.o _ hB.o).mono ?_;rintro e w6 ⟨rfl,b6⟩;have B6:=bh hB b6;have V6:=O (hV.o.keep b6);clear b6 hB hV v0 v1 v2 v3;by_cases sM:0<=bU P p false
       ·obtain⟨e',he,hep,Yc⟩:=JD sM;have FI:=O (show bU P q f=da P (M-(k+1)) (jG x) last e' by
         have h1:=YP.o
         rw [if_pos sM,he,Int.toNat_natCast] at h1
         rw [h1,HRC.o])
        have hen:e'<=n:=by rw [fm.o];exact Yc
        rw [he];clear sM he Yc;go_wp2_with fail;go_roundw
        case rel=>exact⟨k+1,e',last,rfl,rfl,by go_num,hlt,by omega,hen,FI,B6,V6⟩
        case measure=>simp [intOf];omega
       ·have Uw:=O (show bU P q f = -1 by rw [YP.o,if_neg sM]);rw [Ff sM];clear sM;go_wp2_with fail;go_ret;exact⟨by rw [Uw.o];rfl,B6.o⟩
     ·have Uw:=O (show bU P q f = -1 by rw [HF.o,mz (by rw [<-fm.o];omega)]);have g3:decide (n<=p)=true:=decide_eq_true (by omega);clear HF;go_wp2_with fail;go_ret;exact⟨by rw [Uw.o];rfl,hB.o⟩
    ·have ay:=O (show bU P q f=(p:Int) by
      rw [hF.o,show M-k=0 by omega]
      exact It (by rw [<-fm.o];exact T'))
     clear hF;go_wp2_with fail;go_ret;exact⟨by rw [ay.o];rfl,hB.o⟩
  ·have HE:=O (show bU P q f = -1 from Eo HX.o (HH.o.trans (by simpa using hh)));have f2:(!(x.op==7)==f)=true:=by rw [he];revert hh;cases decide (x.op=7)<;> cases f <;> simp
   clear hh he;go_wp2_with fail;go_ret;exact⟨by rw [HE.o];rfl,B1.o⟩
 ·have Ug:aA x=false:=by simpa using Ug
  rw [Ug] at CS;have HE:=O (show bU P q f = -1 from Eo HX.o (Nl Ug));clear Ug;go_enter Tryz.func47,Tryz.ntmps47;go_wp2_with fail;refine CS.o.mono ?_;rintro e w1 ⟨rfl,b1⟩;have B1:=O b1;clear b1 CS ZT d0 d1 d2 d3;go_wp2_with fail;go_ret;exact⟨by rw [HE.o];rfl,B1.o⟩
theorem qY(P:List Nd)(A:Option Addr)(n c:Nat):∀m,TbC P A n c m
 | 0=>λp f w h hm=>O' P A n c p f w h (by omega)
 | m+1=>λp f w h hm=>by
  by_cases hp:p<n
  ·rcases A with _|a
   ·have:=h.at_ p _ (List.getElem?_eq_getElem (by rw [<-h.len];exact hp));obtain⟨a,e,-⟩:=this;cases e
   ·exact TF P m a n c p f w (qY P (some a) n c m) h hp hm
  ·exact O' P A n c p f w h (by omega)
theorem nI(A:Option Addr)(n c:Nat)(P:List Nd)(w:World)(h:Ns w A n c P):
 Calls Tryz.prog 19 #[.slice A n c] w λe w'=>e = .returned (je (jz P))/\Below w.heap.size w w':=by
 have hl:=h.len;by_cases ci:200<n
 ·have HR:=O (show jz P=4 by unfold jz;rw [if_pos (by omega)]);have f0:decide ((200:Int)<(n:Int))=true:=decide_eq_true (by omega);clear h hl;go_enter Tryz.func19,Tryz.ntmps19;go_wp2_with fail;go_ret;exact⟨by rw [HR.o];rfl,Below.refl _ _⟩
 ·have C:=O (qY P A n c n 0 false w h (by omega));have f0:decide ((200:Int)<(n:Int))=false:=decide_eq_false (by omega);have HR:=O (show jz P=if(py P).isSome then 0 else 1 by unfold jz;rw [if_neg (by omega)]);have HA:=O (PT (t:=P));rw [<-hl] at HA;clear h hl ci;generalize bU P 0 false=r at *;go_enter Tryz.func19,Tryz.ntmps19;go_wp2_with fail;refine C.o.mono ?_;rintro e w1 ⟨rfl,b1⟩;have B1:=O b1;clear b1 C;by_cases hr:r=(n:Int)
  ·have HE:=O (show jz P=0 by rw [HR.o,if_pos (HA.o.1 hr)]);have f1:(r !=(n:Int))=false:=by rw [bne_eq_false_iff_eq];exact hr
   clear hr;go_wp2_with fail;go_ret;exact⟨by rw [HE.o];rfl,B1.o⟩
  ·have HE:=O (show jz P=1 by rw [HR.o,if_neg (λq=>hr (HA.o.2 q))]);have f1:(r !=(n:Int))=true:=by rw [bne_iff_ne];exact hr
   clear hr;go_wp2_with fail;go_ret;exact⟨by rw [HE.o];rfl,B1.o⟩
end Go.Proofs.YthifljpkgfpkiaaGreatDoor
