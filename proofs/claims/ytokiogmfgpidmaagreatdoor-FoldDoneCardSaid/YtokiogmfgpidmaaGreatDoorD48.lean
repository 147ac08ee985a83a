/-
  The document's Worked: where nothing is left to do it finds nothing. Plain: ..
-/
import Derived.Test.YtokiogmfgpidmaaGreatDoorD47
set_option maxRecDepth 100000
set_option maxHeartbeats 16000000
namespace Go.Proofs.YtokiogmfgpidmaaGreatDoor
open Go.RowKit Go.Wk Go.Sort
theorem Xr:vq ⟨[],zd4,zd4,zd4,zpg⟩:=vS
theorem znw(a:Addr)(n c:Nat)(P:List Nd)(w:World)(Gy:Ns w (some a) n c P)(x:Ex)(p:Nat)(hx:XAt P p true x):
 Calls Tryz.prog 9 #[.slice none 0 0,.bool false,.slice (some a) n c,.int .i64 p] w λe w'=>e = .returned (.bool false)/\Below w.heap.size w w':=by
 obtain⟨a',ea,d0,d1,d2,d3⟩:=Gy.at_ p _ hx.head;injection ea with ea;subst ea;have hpn:p<n:=by rw [Gy.len];exact(List.getElem?_eq_some_iff.1 hx.head).1
 have h7:(x.head.op==7)=true:=by rw [beq_iff_eq];exact(zb0 hx.valid).1
 generalize x.head=y at *;clear hx Gy;have B0:=zb w (.cells #[.int .i64 y.op,.int .i64 y.n,.string y.s,.string y.t] 28);go_enter Tryz.func9,Tryz.ntmps9;go_wp2_with fail;go_ret;exact⟨rfl,B0⟩
theorem zpa(a:Addr)(n c:Nat)(P:List Nd)(w:World)(Gy:Ns w (some a) n c P)(hn:n<=200)(hd:CQ w)(nd:Nd)(ps:Exs)(p:Nat)(hx:XAt P p false (.node nd ps))(hlog:ju (.node nd ps)=none)(hwor:jJ [] false (.node nd ps)=none):
 Calls Tryz.prog 9 #[.slice none 0 0,.bool false,.slice (some a) n c,.int .i64 p] w λe w'=>e = .returned (.bool false)/\Below w.heap.size w w':=by
 have h7:nd.op≠7:=Ph hx.valid;have hl:=Gy.len;obtain⟨a',ea,d0,d1,d2,d3⟩:=Gy.at_ p _ hx.head;injection ea with ea;subst ea;dsimp only [Ex.head] at d0 d1 d2 d3;have hpn:p<n:=by rw [hl];exact(List.getElem?_eq_some_iff.1 hx.head).1
 have hle:=hx.le;rw [<-hl] at hle;have HX:=O hx;have Tj:=O Gy;have zcn:=O hlog;have zj7:=O hwor;have HL:=O hl;have HD:=O hd;have B0:=O (zb w (.cells #[.int .i64 nd.op,.int .i64 nd.n,.string nd.s,.string nd.t] 28));have V0:=O (LW w nd 28);have KP:=O (λw' (hb:Below w.heap.size w w')=>NK (some a) n c P p false (.node nd ps) w' (Gy.keep hb) (by omega) hx);dsimp only [Ex.parts,Ex.head] at KP;have KB:=O (λq w' (hb:Below w.heap.size w w')=>Od P (some a) n c n q w' (Gy.keep hb) (Nat.sub_le _ _));have hml:ps.len<=200:=by
  have h1:=gY ps;rw [Ex.flat,List.length_cons] at hle;omega
 have e7:(nd.op==7)=false:=by simp [h7]
 have HCN:=O (show(ps.len:Int)=zC nd from hx.valid.2.1);have ZJ:=O hx.parts;dsimp only [Ex.parts,Ex.head] at ZJ;clear hx Gy hlog hwor hl hd h7;go_enter Tryz.func9,Tryz.ntmps9;go_wp2_with fail;refine(KP.o _ B0.o).mono ?_;rintro e w2 ⟨A',c',rfl,hc',hI,b2⟩;have B2:=bh B0 b2;have V2:=O (V0.o.keep b2);have HI:=O hI;obtain⟨ap,rfl⟩:∃ap,A'=some ap:=by
  obtain⟨q,hq⟩:∃q,(qm (zB nd) (p+1) ps)[0]?=some q:=⟨_,List.getElem?_eq_getElem (by rw [Ty];omega)⟩
  obtain⟨ap,e,-⟩:=hI 0 q hq;exact⟨ap,e⟩
 obtain⟨pl,hpl⟩:∃pl,pl=ps.len:=⟨_,rfl⟩
 obtain⟨m,hm⟩:∃m,m=pl+1:=⟨_,rfl⟩
 rw [<-hpl] at hml HCN hc' ⊢;rw [<-hm] at hc' ⊢;have HM:=O hpl;have hmm:(m:Int)-1=(pl:Int):=by omega
 clear b2 hI KP V0 B0 d0 d1 d2 d3 hpl e7;obtain⟨v0,v1,v2,v3⟩:=V2.o;go_upto_region 5 with fail;go_cut [36] (λv wx=>v = .bool (decide (nd.op=11\/nd.op=12))/\w2=wx)
 case first =>
  as_aux_lemma =>
   have three:nd.op=11\/(nd.op≠11/\nd.op=12)\/(nd.op≠11/\nd.op≠12):=by omega
   rcases three with h11|⟨h11,h12⟩|⟨h11,h12⟩
   ·have HB:=O (decide_eq_true (.inl h11:nd.op=11\/nd.op=12))
    have e11:(nd.op==11)=true:=by simp [h11]
    clear h11;go_wp2_with fail;go_meet;exact⟨by rw [HB.o],rfl⟩
   ·have HB:=O (decide_eq_true (.inr h12:nd.op=11\/nd.op=12))
    have e11:(nd.op==11)=false:=by simp [h11]
    have e12:(nd.op==12)=true:=by simp [h12]
    clear h11 h12;go_wp2_with fail;go_meet;exact⟨by rw [HB.o],rfl⟩
   ·have HB:=O (decide_eq_false (show¬(nd.op=11\/nd.op=12) from λh=>h.elim h11 h12))
    have e11:(nd.op==11)=false:=by simp [h11]
    have e12:(nd.op==12)=false:=by simp [h12]
    clear h11 h12;go_wp2_with fail;go_meet;exact⟨by rw [HB.o],rfl⟩
 case rest =>
 obtain⟨rfl,rfl⟩:=hcut;go_upto_if 36 with fail;go_cut [] (λwx=>Hid (Below w2.heap.size w2 wx))
 case first =>
  as_aux_lemma =>
   by_cases h12:nd.op=11\/nd.op=12
   case neg =>
    rw [decide_eq_false h12];clear h12;go_wp2_with fail;go_meet;exact O (Below.refl _ _)
   case pos =>
    rw [decide_eq_true h12];have hm2:pl=2:=by
     have h:=HCN.o;unfold zC at h
     repeat' split at h
     all_goals omega
    subst hm2;obtain⟨x1,x2,rfl⟩:=Xd HM.o.symm;have hwz:w.heap.size<w2.heap.size:=block_lt_of_cell v0;have k5:(1:Int)<(m:Int):=by omega
    have k6:(0:Int)<(m:Int):=by omega
    have hr:zB nd=false:=decide_eq_false (by omega);rw [hr] at ZJ HI;obtain⟨g1,g2⟩:=ZJ.o.head;obtain⟨g3,-⟩:=g2.head;obtain⟨_,ei,i0⟩:=HI.o 0 (p+1) (by simp [qm]);injection ei with ei;subst ei;obtain⟨_,ei,i1⟩:=HI.o 1 (p+1+x1.flat.length) (by simp [qm]);injection ei with ei;subst ei;obtain⟨s0,hs0⟩:∃s0,s0=p+1:=⟨_,rfl⟩
    have s0n:s0<n:=by rw [HL.o,hs0];exact(List.getElem?_eq_some_iff.1 g1.head).1
    obtain⟨_,ea,c0,c1,c2,c3⟩:=(Tj.o.keep B2.o).at_ _ _ g1.head;injection ea with ea;subst ea;rw [<-hs0] at c0 c1 c2 c3;obtain⟨s1,hs1⟩:∃s1,s1=p+1+x1.flat.length:=⟨_,rfl⟩
    have s1n:s1<n:=by rw [HL.o,hs1];exact(List.getElem?_eq_some_iff.1 g3.head).1
    obtain⟨_,ea,d0,d1,d2,d3⟩:=(Tj.o.keep B2.o).at_ _ _ g3.head;injection ea with ea;subst ea;rw [<-hs1] at d0 d1 d2 d3;rw [<-hs0] at i0;rw [<-hs1] at i1;replace i0:w2.cell? ap=some (.int .i64 (s0:Int)):=i0;replace i1:w2.cell? ⟨ap.block,ap.off+1,none⟩=some (.int .i64 (s1:Int)):=i1;obtain⟨hA,hB⟩:=zd6 h12 zcn.o;have BN:=zjr g1.valid;have BM:=zjr g3.valid;have O1:=O (λw=>NG x1.head w);have O2:=O (λw=>NG x2.head w);unfold ndV at O1 O2;have hf1:ofT x2.head.op=false->x2.head.op≠1:=λh e=>by rw [e] at h;exact absurd h (by decide)
    generalize x1.head=y1 at *;generalize x2.head=y2 at *;clear g1 g2 g3 hs0 hs1 ZJ HI HX zcn zj7 HCN HM hr;have b3:=zb w2 (.cells #[.int .i64 y1.op,.int .i64 y1.n,.string y1.s,.string y1.t] 28);have b4:=b3.trans ((zb (w2.alloc (.cells #[.int .i64 y1.op,.int .i64 y1.n,.string y1.s,.string y1.t] 28)) (.cells #[.int .i64 y2.op,.int .i64 y2.n,.string y2.s,.string y2.t] 28)).mono b3.size);have vb:=LW (w2.alloc (.cells #[.int .i64 y1.op,.int .i64 y1.n,.string y1.s,.string y1.t] 28)) y2 28;rw [show(w2.alloc (.cells #[.int .i64 y1.op,.int .i64 y1.n,.string y1.s,.string y1.t] 28)).heap.size=w2.heap.size+1 from by simp [go_sem]] at vb;have Vbxb:=O vb;have Vbxa:=O ((LW w2 y1 28).keep (zb (w2.alloc (.cells #[.int .i64 y1.op,.int .i64 y1.n,.string y1.s,.string y1.t] 28)) (.cells #[.int .i64 y2.op,.int .i64 y2.n,.string y2.s,.string y2.t] 28)));clear vb;have B4:=O b4;replace i1:=za b3 i1;replace d0:=za b3 d0;replace d1:=za b3 d1;replace d2:=za b3 d2;replace d3:=za b3 d3;clear b3 b4;have k0:(0:Int)<=(s0:Int):=by omega
    have k1:(s0:Int)<(n:Int):=by omega
    have k2:(0:Int)<=(s1:Int):=by omega
    have k3:(s1:Int)<(n:Int):=by omega
    by_cases h1:y1.op=1
    case' pos =>
     obtain⟨hA1,hA2⟩:=hA h1;rw [hA2] at O2;have f1:(y1.op==1)=true:=by simp [h1]
     have f2:(y2.op==1)=false:=by simp [hf1 hA2]
     have hb:=BN h1;rcases h12 with h12|h12
     all_goals
      have XB:=hA1;rw [h12] at XB
     case' inl =>
      have e11:(nd.op==11)=true:=by simp [h12]
      have e12:(nd.op==12)=false:=by simp [h12]
      have f3:(y1.n==0)=false:=by
       rcases hb with h|h
       ·rw [h] at XB;exact absurd rfl XB
       ·simp [h]
     case' inr =>
      have e11:(nd.op==11)=false:=by simp [h12]
      have e12:(nd.op==12)=true:=by simp [h12]
      have f3:(y1.n==1)=false:=by
       rcases hb with h|h
       ·simp [h]
       ·rw [h] at XB;exact absurd rfl XB
     all_goals
      clear hA hB hA1 hA2 XB hb BN BM h1 h12 hf1;go_wp2_with fail;refine(O2.o _).mono ?_;rintro e w5 ⟨rfl,b5⟩;have B5:=bh B4 b5;have y5:=za b5 Vbxb.o.c0;clear b5;go_wp2_with fail;go_meet;exact B5
    case' neg =>
     have f1:(y1.op==1)=false:=by simp [h1]
     by_cases h2:y2.op=1
     case' neg =>
      have f2:(y2.op==1)=false:=by simp [h2]
      rcases h12 with h12|h12
      case' inl =>
       have e11:(nd.op==11)=true:=by simp [h12]
       have e12:(nd.op==12)=false:=by simp [h12]
      case' inr =>
       have e11:(nd.op==11)=false:=by simp [h12]
       have e12:(nd.op==12)=true:=by simp [h12]
      all_goals
       clear hA hB BN BM h1 h2 h12 hf1 O1 O2;go_wp2_with fail;go_meet;exact B4
     case' pos =>
      have f2:(y2.op==1)=true:=by simp [h2]
      have hb:=BM h2;have hB1:=hB h1 h2;by_cases g3:decide (y2.n=1)=decide (nd.op=12)
      case' pos =>
       rcases h12 with h12|h12
       all_goals
        have XB:=g3;rw [h12] at XB
       case' inl =>
        have e11:(nd.op==11)=true:=by simp [h12]
        have e12:(nd.op==12)=false:=by simp [h12]
        have f3:(y2.n != 0)=false:=by
         rcases hb with h|h
         ·simp [h]
         ·rw [h] at XB;exact absurd XB (by decide)
       case' inr =>
        have e11:(nd.op==11)=false:=by simp [h12]
        have e12:(nd.op==12)=true:=by simp [h12]
        have f3:(y2.n != 1)=false:=by
         rcases hb with h|h
         ·rw [h] at XB;exact absurd XB (by decide)
         ·simp [h]
       all_goals
        clear hA hB hB1 g3 XB hb BN BM h1 h2 h12 hf1 O1 O2;go_wp2_with fail;go_meet;exact B4
      case' neg =>
       rw [hB1 g3] at O1;rcases h12 with h12|h12
       all_goals
        have XB:=g3;rw [h12] at XB
       case' inl =>
        have e11:(nd.op==11)=true:=by simp [h12]
        have e12:(nd.op==12)=false:=by simp [h12]
        have f3:(y2.n != 0)=true:=by
         rcases hb with h|h
         ·rw [h] at XB;exact absurd (by decide) XB
         ·simp [h]
       case' inr =>
        have e11:(nd.op==11)=false:=by simp [h12]
        have e12:(nd.op==12)=true:=by simp [h12]
        have f3:(y2.n != 1)=true:=by
         rcases hb with h|h
         ·simp [h]
         ·rw [h] at XB;exact absurd (by decide) XB
       all_goals
        clear hA hB hB1 g3 XB hb BN BM h1 h2 h12 hf1 O2;obtain⟨ca0,ca1,ca2,ca3⟩:=Vbxa.o;go_wp2_with fail;refine(O1.o _).mono ?_;rintro e w5 ⟨rfl,b5⟩;have B5:=bh B4 b5;clear b5;go_wp2_with fail;go_meet;exact B5
 case rest =>
  have B3:=bh B2 hcut.o;have V3:=O (V2.o.keep hcut.o);have HI3:=O (HI.o.keep hcut.o);clear hcut B2 V2 HI v0 v1 v2 v3;generalize wc=w3 at *;have B2:=B3;have HI:=HI3;clear B3 HI3;obtain⟨v0,v1,v2,v3⟩:=V3.o;go_upto_region 13 with fail;go_cut [92] (λv wx=>v = .bool false/\w3=wx)
  case first =>
   as_aux_lemma =>
    by_cases h13:nd.op=13
    case neg =>
     have e13:(nd.op==13)=false:=by simp [h13]
     clear h13;go_wp2_with fail;go_meet;exact⟨rfl,rfl⟩
    case pos =>
     have hm2:pl=3:=by
      have h:=HCN.o;unfold zC at h
      repeat' split at h
      all_goals omega
     subst hm2;obtain⟨x1,x2,x3,rfl⟩:=RR HM.o.symm;have k6:(0:Int)<(m:Int):=by omega
     have hr:zB nd=false:=decide_eq_false (by omega);rw [hr] at ZJ HI;obtain⟨g1,-⟩:=ZJ.o.head;obtain⟨_,ei,i0⟩:=HI.o 0 (p+1) (by simp [qm]);injection ei with ei;subst ei;obtain⟨s0,hs0⟩:∃s0,s0=p+1:=⟨_,rfl⟩
     have s0n:s0<n:=by rw [HL.o,hs0];exact(List.getElem?_eq_some_iff.1 g1.head).1
     obtain⟨_,ea,c0,c1,c2,c3⟩:=(Tj.o.keep B2.o).at_ _ _ g1.head;injection ea with ea;subst ea;rw [<-hs0] at c0 c1 c2 c3;rw [<-hs0] at i0;replace i0:w3.cell? ap=some (.int .i64 (s0:Int)):=i0;have hA:=zdG h13 zcn.o;have e13:(nd.op==13)=true:=by simp [h13]
     generalize x1.head=y1 at *;have f1:(y1.op==1)=false:=by simp [hA]
     clear g1 hs0 ZJ HI HX zcn zj7 HCN HM hr hA h13;have k0:(0:Int)<=(s0:Int):=by omega
     have k1:(s0:Int)<(n:Int):=by omega
     go_wp2_with fail;go_meet;exact⟨rfl,rfl⟩
  case rest =>
   obtain⟨rfl,rfl⟩:=hcut;go_upto_region 15 with fail;go_cut [115] (λv wx=>v = .bool false/\Hid (Below w3.heap.size w3 wx))
   case first =>
    as_aux_lemma =>
     by_cases h9:nd.op=9
     case neg =>
      have e9:(nd.op==9)=false:=by simp [h9]
      clear h9;go_wp2_with fail;go_meet;exact⟨rfl,O (Below.refl _ _)⟩
     case pos =>
      have e9:(nd.op==9)=true:=by simp [h9]
      have hm2:pl=1:=by
       have h:=HCN.o;unfold zC at h
       repeat' split at h
       all_goals omega
      subst hm2;obtain⟨x1,rfl⟩:=Uw HM.o.symm;have k6:(0:Int)<(m:Int):=by omega
      have hr:zB nd=false:=decide_eq_false (by omega);rw [hr] at ZJ HI;obtain⟨g1,-⟩:=ZJ.o.head;obtain⟨_,ei,i0⟩:=HI.o 0 (p+1) (by simp [qm]);injection ei with ei;subst ei;obtain⟨s0,hs0⟩:∃s0,s0=p+1:=⟨_,rfl⟩
      have s0n:s0<n:=by rw [HL.o,hs0];exact(List.getElem?_eq_some_iff.1 g1.head).1
      obtain⟨_,ea,c0,c1,c2,c3⟩:=(Tj.o.keep B2.o).at_ _ _ g1.head;injection ea with ea;subst ea;rw [<-hs0] at c0 c1 c2 c3;rw [<-hs0] at i0;replace i0:w3.cell? ap=some (.int .i64 (s0:Int)):=i0;have k0:(0:Int)<=(s0:Int):=by omega
      have k1:(s0:Int)<(n:Int):=by omega
      by_cases h1:x1.head.op=9
      case neg =>
       have f1:(x1.head.op==9)=false:=by simp [h1]
       generalize x1.head=y1 at *;clear g1 hs0 ZJ HI HX zcn zj7 HCN HM hr h1 h9;go_wp2_with fail;go_meet;exact⟨rfl,O (Below.refl _ _)⟩
      case pos =>
       obtain⟨x2,hA⟩:=zgY h9 h1 g1.valid zcn.o;have f1:(x1.head.op==9)=true:=by simp [h1]
       have hr1:zB x1.head=false:=decide_eq_false (by omega);have g2:=g1.parts;rw [hA.1,hr1] at g2;obtain⟨g3,-⟩:=g2.head;obtain⟨s1,hs1⟩:∃s1,s1=p+1+1:=⟨_,rfl⟩
       have s1n:s1<n:=by rw [HL.o,hs1];exact(List.getElem?_eq_some_iff.1 g3.head).1
       obtain⟨_,ea,d0,d1,d2,d3⟩:=(Tj.o.keep B2.o).at_ _ _ g3.head;injection ea with ea;subst ea;rw [<-hs1] at d0 d1 d2 d3;have O1:=O (λw=>NG x2.head w);unfold ndV at O1;rw [hA.2] at O1;have hs2:s1=s0+1:=by omega
       subst hs2;generalize x1.head=y1 at *;generalize x2.head=y2 at *;clear g1 g2 g3 hs0 hs1 ZJ HI HX zcn zj7 HCN HM hr h1 h9 hA hr1;have k2:(s0:Int)+1<(n:Int):=by omega
       have k3:(0:Int)<=(s0:Int)+1:=by omega
       go_wp2_with fail;refine(O1.o _).mono ?_;rintro e w5 ⟨rfl,b5⟩;have B5:=O b5;clear b5;go_wp2_with fail;go_meet;exact⟨rfl,B5⟩
   case rest =>
    obtain⟨rfl,hcu⟩:=hcut;have B3:=bh B2 hcu.o;have V5:=O (V3.o.keep hcu.o);have HI3:=O (HI.o.keep hcu.o);clear hcu B2 V3 HI v0 v1 v2 v3;generalize wc=w5 at *;have B5:=B3;have HI:=HI3;clear B3 HI3;obtain⟨v0,v1,v2,v3⟩:=V5.o;obtain⟨_,ei,il⟩:=HI.o pl (p+1+ps.flat.length) (by rw [HM.o];exact WQ _ _ _);injection ei with ei;subst ei;have il2:w5.cell? (ap.add pl)=some (.int .i64 ((p+1+ps.flat.length:Nat):Int)):=il;clear il;have hse:=HX.o.seg;rw [Ex.flat,List.length_cons] at hle hse;obtain⟨q0,hq0⟩:∃q0,q0=p+1+ps.flat.length:=⟨_,rfl⟩
    rw [<-hq0] at il2;have hqn:q0<=n:=by omega
    have hpq:p<=q0:=by omega
    have KV:=O (IB _ _ _ (seg P p q0) w5 (QU (Tj.o.keep B5.o) hpq hqn));rw [show q0=p+(ps.flat.length+1) by omega,hse] at KV;rw [show p+(ps.flat.length+1)=q0 by omega] at KV;clear hse;have j0:(0:Int)<=(p:Int):=by omega
    have j1:(p:Int)<=(q0:Int):=by omega
    have j2:(q0:Int)<=(n:Int):=by omega
    have j3:(pl:Int)<(m:Int):=by omega
    have zhh:=Tj.o.cap;have j4:(q0:Int)<=(c:Int):=by omega
    have jfive:¬c=p:=by omega
    have jsix:q0<=c:=by omega
    have hq1:=O hq0;clear hq0;obtain⟨vf,hvf⟩:∃vf,vf=zc (nd :: ps.flat):=⟨_,rfl⟩
    rw [<-hvf] at KV;go_wp2_with fail;refine KV.o.mono ?_;rintro e w6 ⟨rfl,b6⟩;have B6:=bh B5 b6;have V6:=O (V5.o.keep b6);have HI6:=O (HI.o.keep b6);clear b6 KV HI V5 B5 v0 v1 v2 v3 il2;by_cases hv:vf=0
    case pos =>
     subst hv;clear hvf;go_wp2_with fail;go_ret;exact⟨rfl,B6.o⟩
    have fv:(vf==0)=false:=by simp [hv]
    have HVF:=O (show zc (Ex.node nd ps).flat≠0 by rw [Ex.flat,<-hvf];exact hv);have HEL:=O (show pl=(exL ps).length by rw [J'];exact HM.o);clear hv hvf;go_wp2_with fail;go_loopw [15] (λi wr=>∃k:Nat,i = .int .i64 k/\k<=pl/\Hid (∀q∈(exL ps).take k,eZ false (zP q)=true)/\Hid (Below w6.heap.size w6 wr)) (λi _=>pl-(intOf i).toNat)
    case atStart=>exact⟨0,rfl,Nat.zero_le _,O (λq hq=>by simp at hq),O (Below.refl _ _)⟩
    case round =>
     obtain⟨k,rfl,hk,hW,hB⟩:=hrel;have Bk:=bh B6 hB.o;by_cases hlt:k<pl
     ·have VG:k<(exL ps).length:=by rw [<-HEL.o];exact hlt
      obtain⟨q,e1,hqx,-⟩:=ZJ.o.at k _ (by rw [zbh];exact List.getElem?_eq_getElem VG);obtain⟨_,ei,qc⟩:=(HI6.o.keep hB.o) k q e1;injection ei with ei;subst ei;obtain⟨sv,hvs⟩:=ZJ.o.valid;have hpv:=zlE (Kl hvs _ (List.getElem_mem VG));have hqe:=hqx.end_;have zhb:=hqx.le;have zep:=hqx.seg;have hpos:=jp (E5 (zB nd) (exL ps)[k]);rw [hpv] at hqe zhb zep hpos;have Lc:=O (List.take_succ_eq_append_getElem VG);obtain⟨y,hy⟩:∃y,y=(exL ps)[k]:=⟨_,rfl⟩
      rw [<-hy] at hqe zhb zep Lc hpos;obtain⟨V,hV⟩:∃V,V=zP y:=⟨_,rfl⟩
      rw [<-hV] at hqe zhb zep hpos;have HVY:=O hV;obtain⟨st,hst⟩:∃st,st=q+V.length:=⟨_,rfl⟩
      rw [<-hst] at hqe zhb zep;rw [<-HL.o] at zhb;have HST:=O hst;have KBq:=O (KB.o q wr Bk.o);rw [hqe] at KBq;have hqs:q<=st:=by omega
      have KVq:=O (λw' (hb:Below w.heap.size w w')=>IB _ _ _ (seg P q st) w' (QU (Tj.o.keep hb) hqs zhb));have HAT:=O (show∀j,q<=j->j<st->∃z,P[j]?=some z/\V[j-q]?=some z from λj h1 h2=>by
       have Ma:j<P.length:=by rw [<-HL.o];omega
       refine⟨P[j],List.getElem?_eq_getElem Ma,?_⟩
       rw [<-zep]
       unfold seg
       rw [List.getElem?_take_of_lt (by omega),List.getElem?_drop,show q+(j-q)=j by omega]
       exact List.getElem?_eq_getElem Ma)
      rw [zep] at KVq;clear hqx e1 hpv hqe zep hy hV hst hvs;have t0:(0:Int)<=(q:Int):=by omega
      have t1:(q:Int)<=(st:Int):=by omega
      have t2:(st:Int)<=(n:Int):=by omega
      have t3:(k:Int)<(m:Int):=by omega
      have t4:(k:Int)<(pl:Int):=by omega
      have hst2:=HST.o;have t5:¬c=q:=by omega
      have t6:(st:Int)<=(c:Int):=by omega
      have t7:st<=c:=by omega
      clear hst2 hpos;obtain⟨vf2,zmi⟩:∃vf2,vf2=zc V:=⟨_,rfl⟩
      rw [<-zmi] at KVq;go_wp2_with fail;refine KBq.o.mono ?_;rintro e w7 ⟨rfl,b7⟩;have B7:=bh Bk b7;have H7:=bh hB b7;have qc7:=za b7 qc;clear b7 KBq qc;go_wp2_with fail;refine(KVq.o _ B7.o).mono ?_;rintro e w8 ⟨rfl,b8⟩;have B8:=bh B7 b8;have H8:=bh H7 b8;have qc8:=za b8 qc7;clear b8 KVq qc7 B7 H7 Bk;by_cases hv2:vf2=0
      case neg =>
       have fv2:(vf2 != 0)=true:=by simp [hv2]
       clear zmi hv2;go_wp2_with fail;go_ret;exact⟨rfl,B8.o⟩
      have HV0:=O (show zc V=0 by rw [<-zmi];exact hv2);subst hv2;clear zmi;go_wp2_with fail;go_loopw [17] (λj wr2=>∃jj:Nat,j = .int .i64 jj/\q<=jj/\jj<=st/\Hid (IC (V.take (jj-q))=false)/\Hid (Below w8.heap.size w8 wr2)) (λj _=>st-(intOf j).toNat)
      case atStart=>exact⟨q,rfl,Nat.le_refl _,hqs,O (by rw [Nat.sub_self];rfl),O (Below.refl _ _)⟩
      case round =>
       clear qc8;obtain⟨jj,rfl,hj1,hj2,hN,hB2⟩:=hrel;have Bj:=bh B8 hB2.o;by_cases Ma:jj<st
       ·obtain⟨z,hz1,hz2⟩:=HAT.o jj hj1 Ma;obtain⟨_,ea,c0,-,-,-⟩:=(Tj.o.keep Bj.o).at_ jj z hz1;injection ea with ea;subst ea;have HET:=O (show IC (V.take (jj-q+1))=(IC (V.take (jj-q))||(z.op==4)) from by
         have h1:=(List.getElem?_eq_some_iff.1 hz2)
         obtain⟨h1,h2⟩:=h1
         rw [Vl h1,h2])
        have r0:(0:Int)<=(jj:Int):=by omega
        have r1:(jj:Int)<(n:Int):=by omega
        have r2:(jj:Int)<(st:Int):=by omega
        clear hz1 hz2;by_cases h4:z.op=4
        ·have g4:(z.op==4)=true:=by simp [h4]
         clear h4;go_wp2_with fail;go_ret;exact⟨rfl,Bj.o⟩
        ·have g4:(z.op==4)=false:=by simp [h4]
         have VL:=O (show IC (V.take (jj+1-q))=false by rw [show jj+1-q=jj-q+1 by omega,HET.o,hN.o,g4];rfl);clear h4 HET hN;go_wp2_with fail;go_roundw
         case rel=>exact⟨jj+1,by go_num,by omega,Ma,VL,hB2⟩
         case measure=>simp [intOf];omega
       ·have r2:¬(jj:Int)<(st:Int):=by omega
        have hjq:jj-q=V.length:=by have:=HST.o;omega
        have HWN:=O (show∀q∈(exL ps).take (k+1),eZ false (zP q)=true from λz hz=>by
         rw [Lc.o] at hz
         rcases List.mem_append.1 hz with hz|hz
         ·exact hW.o z hz
         ·simp only [List.mem_cons,List.not_mem_nil,or_false] at hz
          subst hz
          rw [<-HVY.o,Gi,HV0.o]
          have h1:=hN.o
          rw [hjq,List.take_length] at h1
          rw [h1]
          rfl)
        have HBN:=bh H8 hB2.o;clear hjq hN hW;go_wp2_with fail;go_roundw
        case rel=>exact⟨k+1,by go_num,hlt,HWN,HBN⟩
        case measure=>simp [intOf];omega
     ·have hke:k=pl:=by omega
      have t4:¬(k:Int)<(pl:Int):=by omega
      have zeq:=O (show∀q∈exL ps,eZ false (zP q)=true from λq hq=>hW.o q (by rw [List.take_of_length_le (by rw [<-HEL.o,hke];exact Nat.le_refl _)];exact hq));obtain⟨v0,v1,v2,v3⟩:=(V6.o.keep hB.o)
      clear hke hW;by_cases h8:nd.op=8
      case pos =>
       have e8:(nd.op==8)=true:=by simp [h8]
       clear h8;go_wp2_with fail;go_ret;exact⟨rfl,Bk.o⟩
      have e8:(nd.op==8)=false:=by simp [h8]
      obtain⟨u,hu,hu0⟩:=zd5 Xr rfl HX.o.valid zcn.o zj7.o HVF.o zeq.o h8;have HU:=O hu;clear hu h8;go_wp2_with fail;refine(zdL wr).mono ?_;rintro e w9 ⟨b,rfl,hq,b9⟩;have B9:=bh Bk b9;have hcx:Po w9 ⟨none,0,0,[],YB b,some a,n,c,P⟩:=⟨⟨rfl,Nat.le_refl _,Nat.zero_le _,λk x hx=>by simp at hx⟩,hq,Tj.o.keep B9.o,HD.o.keep B9.o,Xr⟩
      have KW:=O (Xf w9 ⟨none,0,0,[],YB b,some a,n,c,P⟩ hcx (show n<=4000 by omega) _ (.node nd ps) p w9 hcx (Below.refl _ _) HX.o (Nat.le_refl _));rw [show evX (Cx.env ⟨none,0,0,[],YB b,some a,n,c,P⟩) (.node nd ps)= .error u from HU.o] at KW;unfold zK YB Rq.v at KW;dsimp only at KW;unfold YB Rq.v;dsimp only;clear hcx hq b9 v0 v1 v2 v3;go_wp2_with fail;refine KW.o.mono ?_;rintro e w10 ⟨A10,n10,c10,rfl,-,-,b10⟩;have B10:=bh B9 b10;rw [show z7 (.error u)=u from rfl];have fu:(u==0)=false:=by simp [hu0]
      have B11:=bh B10 (zb w10 (.cells #[.slice A10 n10 c10,.int .i64 u] 61));clear b10 KW;go_wp2_with fail;go_ret;exact⟨rfl,B11.o⟩
end Go.Proofs.YtokiogmfgpidmaaGreatDoor
namespace Go.Proofs.YtokiogmfgpidmaaGreatDoor
open Go.RowKit Go.Wk
theorem W4{n:Nd}(h5:n.op≠5)(h6:n.op≠6):jV [] false (.node n .nil)= .node n .nil:=by
 have hl:∀m,eO m (.node n .nil)= .node n .nil:=λm=>by
  cases m with
  | zero=>rfl
  | succ m=>rw [eO];rfl
 rw [jV,zZ];unfold NP;rw [hl,jJ,if_pos (.inl ⟨rfl,h5,h6⟩)]
end Go.Proofs.YtokiogmfgpidmaaGreatDoor
namespace Go.Proofs.YtokiogmfgpidmaaGreatDoor
open Go.RowKit Go.Wk Go.Sort
theorem znv(w:World)(P:List Nd)(t:TypeId)(h:P.length<=1000)(ho:gh P):Ns (w.alloc (.cells (zL P).toArray t)) (some ⟨w.heap.size,0,none⟩) P.length P.length P :=
 ⟨rfl,Nat.le_refl _,by unfold maxLen;omega,zeT w P t,ho⟩
def zhJ:ByteArray:=⟨#[97]⟩
def LZ:Ex := .node ⟨1,0,emp,emp⟩ .nil
def QT:Ex := .node ⟨11,0,emp,emp⟩ (.cons LZ (.cons (.node ⟨8,0,zhJ,emp⟩ .nil) .nil))
theorem Tu:QT.valid false:=⟨by decide +kernel,by decide,λe=>Bool.noConfusion e,⟨by decide +kernel,by decide,trivial⟩,λe=>Bool.noConfusion e,⟨by decide +kernel,by decide,trivial⟩,trivial⟩
theorem ziU:(jV [] false QT).flat=zI false:=by
 have hl:∀m,eO (m+1) QT=LZ:=λm=>by
  have h1:ju QT=some LZ:=by
   unfold QT LZ ju;simp only;rw [if_pos (by decide),if_pos (by decide),if_pos (by decide)]
  rw [eO,h1];exact MR rfl m
 have e:jV [] false QT=LZ:=by
  show jV [] false (.node _ _)=LZ;rw [jV,zZ,zZ,zZ,LZ,W4 (by decide) (by decide),W4 (by decide) (by decide)];show NP [] false QT=LZ;unfold NP;rw [show QT.flat.length=2+1 from rfl,hl];rw [show jJ [] false LZ=none from by unfold LZ;rw [jJ,if_pos (.inl ⟨rfl,by decide,by decide⟩)]]
 rw [e];rfl
theorem zde(a:Addr)(n c:Nat)(P:List Nd)(w:World)(Gy:Ns w (some a) n c P)(hn:n<=200)(hd:CQ w)(y:Ex)(g:Bool)(p:Nat)(hx:XAt P p g y)(ha:jx y):
 Calls Tryz.prog 9 #[.slice none 0 0,.bool false,.slice (some a) n c,.int .i64 p] w λe w'=>e = .returned (.bool false)/\Below w.heap.size w w':=by
 cases g with
 | true=>exact znw a n c P w Gy y p hx
 | false =>
  obtain⟨nd,ps⟩:=y
  exact zpa a n c P w Gy hn hd nd ps p hx ha.log ha.wor
theorem zfo(s:ByteArray)(w:World):Calls Tryz.prog 6 #[.string s] w λe w'=>e = .returned (.agg #[.int .i64 8,.int .i64 0,.string s,.string ⟨#[]⟩])/\Below w.heap.size w w':=by
 go_enter Tryz.func6,Tryz.ntmps6;go_wp2_with fail;exact⟨rfl,.agg #[.int .i64 8,.int .i64 0,.string s,.string ⟨#[]⟩],by simp [results,Tryz.results6,go_sem],rfl,zb w _⟩
theorem zbV(w:World)(hg:CQ w):Calls Tryz.prog 5 #[.slice (some ⟨w.heap.size,0,none⟩) 3 3] (w.alloc (.cells #[.int .i64 11,.int .i64 0,.string ⟨#[]⟩,.string ⟨#[]⟩,.int .i64 1,.int .i64 0,.string ⟨#[]⟩,.string ⟨#[]⟩,.int .i64 8,.int .i64 0,.string ⟨#[97]⟩,.string ⟨#[]⟩] 28)) λe w' =>
 ∃A n c,e = .returned (.tuple #[.slice A n c,.nilIface])/\Ns w' A n c (zI false)/\Below w.heap.size w w':=by
 have b:=zb w (.cells #[.int .i64 11,.int .i64 0,.string ⟨#[]⟩,.string ⟨#[]⟩,.int .i64 1,.int .i64 0,.string ⟨#[]⟩,.string ⟨#[]⟩,.int .i64 8,.int .i64 0,.string ⟨#[97]⟩,.string ⟨#[]⟩] 28);have Gy:Ns (w.alloc (.cells #[.int .i64 11,.int .i64 0,.string ⟨#[]⟩,.string ⟨#[]⟩,.int .i64 1,.int .i64 0,.string ⟨#[]⟩,.string ⟨#[]⟩,.int .i64 8,.int .i64 0,.string ⟨#[97]⟩,.string ⟨#[]⟩] 28)) (some ⟨w.heap.size,0,none⟩) 3 3 QT.flat :=
  znv w [⟨11,0,emp,emp⟩,⟨1,0,emp,emp⟩,⟨8,0,zhJ,emp⟩] 28 (by decide) (by intro x hx;simp only [List.mem_cons,List.not_mem_nil,or_false] at hx;rcases hx with rfl|rfl|rfl <;> exact⟨by decide,by decide,by decide,by decide⟩)
 refine(Nx YS (some ⟨w.heap.size,0,none⟩) 3 3 QT.flat _ Gy (hg.keep b)).mono ?_;rintro e w' ⟨A,n,c,rfl,hN,b'⟩;have h:=hN QT Tu rfl (by decide);rw [ziU] at h;exact⟨A,n,c,by rw [show vR QT.flat=0 from Db.2 ⟨by decide,QT,Tu,rfl⟩,zm],h,b.trans (b'.mono b.size)⟩
theorem Wx(A2:Option Addr)(n2 c2:Nat)(P2:List Nd)(w:World)(h2:Ns w A2 n2 c2 P2)(hg:CQ w):
 Calls Tryz.prog 3 #[.slice A2 n2 c2] w λe w'=>e = .returned (.bool true)/\Below w.heap.size w w':=by
 have C2:=O (λw' (hb:Below w.heap.size w w')=>Nx YS A2 n2 c2 P2 w' (h2.keep hb) (hg.keep hb));have HG:=O hg;unfold Qg at C2;clear h2 hg;go_enter Tryz.func3,Tryz.ntmps3;go_wp2_with fail;refine(zfo ⟨#[97]⟩ w).mono ?_;rintro e w1 ⟨rfl,b1⟩;have B1:=O b1;clear b1;go_wp2_with fail;refine(zbV w1 (HG.o.keep B1.o)).mono ?_;rintro e w3 ⟨A3,n3,c3,rfl,hN3,b3⟩;have B3:=bh B1 b3;have N3:=O hN3;clear b3 B1 hN3;go_wp2_with fail;refine(zfU false w3).mono ?_;rintro e w4 ⟨A4,n4,c4,rfl,hN4,b4⟩;have B4:=bh B3 b4;have K2:=O ((N3.o.keep b4).same hN4);rw [decide_eq_true (show zu (zI false) (zI false)=0 from zO.self _)] at K2;clear b4 B3 N3 hN4;go_wp2_with fail;refine K2.o.mono ?_;rintro e w6 ⟨rfl,b6⟩;have B6:=bh B4 b6;clear b6 B4 K2;go_wp2_with fail;refine(C2.o _ B6.o).mono ?_;rintro e w7 ⟨A7,n7,c7,rfl,hN7,b7⟩;have B7:=bh B6 b7;have N7:=O hN7;clear b7 B6 C2 hN7;by_cases q2:vR P2=0
 case neg =>
  rw [zy q2];clear q2;go_wp2_with fail;go_ret;exact⟨rfl,B7.o⟩
 rw [q2,zm];obtain⟨hl,x,hv,e⟩:=Db.1 q2;have F:=zpq hv (e ▸ hl);have hN8:=N7.o x hv e hl;have hv2:=(zd3 vS (E := []) (knows:=false) (λe=>(by cases e)) x hv).2;have hd2:=zbk x false hv;have hl2:(jV [] false x).flat.length<=200:=by have:=F.1;rw [<-e] at this;omega
 obtain⟨a7,rfl⟩:∃a7,A7=some a7:=by
  have hp:=jp (jV [] false x);obtain⟨a,ea,-⟩:=hN8.at_ 0 _ (List.getElem?_eq_getElem hp);exact⟨a,ea⟩
 obtain⟨y,hy⟩:∃y,y=jV [] false x:=⟨_,rfl⟩
 rw [<-hy] at F hN8 hv2 hd2 hl2;have h72:n7<=200:=by rw [hN8.len];exact hl2
 have N8:=O hN8;have HAT:=O (show∀i,i<n7->∃z g,XAt y.flat i g z/\jx z from λi hi=>zew y false 0 (XAt.all hv2) hd2 i (Nat.zero_le _) (by rw [Nat.zero_add,<-hN8.len];exact hi));have HW:=O (λw' (hb:Below w7.heap.size w7 w') (hd:CQ w') z g p hx ha=>zde a7 n7 c7 y.flat w' (hN8.keep hb) h72 hd z g p hx ha);have QK:=O (λw' (hb:Below w7.heap.size w7 w') (hd:CQ w')=>Nx YS (some a7) n7 c7 y.flat w' (hN8.keep hb) hd);have HEX:=O F.2;have HYY:=O (show∀A n c w',(∀x:Ex,x.valid false->y.flat=x.flat->y.flat.length<=200->Ns w' A n c (jV [] false x).flat)->Ns w' A n c y.flat from λA n c w' h=>by
  have h1:=h y hv2 rfl hl2
  rwa [Xb y hd2] at h1)
 unfold Qg at QK;clear F hN8 hv2 hd2 hl2 hy hl hv e q2 N7;go_wp2_with fail;go_loopw [8] (λi wr=>∃k:Nat,i = .int .i64 k/\k<=n7/\Hid (Below w7.heap.size w7 wr)) (λi _=>n7-(intOf i).toNat)
 case atStart=>exact⟨0,rfl,Nat.zero_le _,O (Below.refl _ _)⟩
 case round =>
  obtain⟨k,rfl,hk,hB⟩:=hrel;have Bk:=bh B7 hB.o;by_cases hlt:k<n7
  ·obtain⟨z,g,hx,ha⟩:=HAT.o k hlt;have KW:=O (HW.o wr hB.o (HG.o.keep Bk.o) z g k hx ha);clear hx ha;have t4:(k:Int)<(n7:Int):=by omega
   go_wp2_with fail;refine KW.o.mono ?_;rintro e w8 ⟨rfl,b8⟩;have H8:=bh hB b8;clear b8 KW Bk;go_wp2_with fail;go_roundw
   case rel=>exact⟨k+1,by go_num,hlt,H8⟩
   case measure=>simp [intOf];omega
  ·have t4:¬(k:Int)<(n7:Int):=by omega
   have KB:=O (QK.o wr hB.o (HG.o.keep Bk.o));rw [HEX.o,zm] at KB;go_wp2_with fail;refine KB.o.mono ?_;rintro e w9 ⟨A9,n9,c9,rfl,hN9,b9⟩;have B9:=bh Bk b9;have H9:=bh hB b9;have K9:=O ((HYY.o _ _ _ _ hN9).same (N8.o.keep H9.o));rw [decide_eq_true (show zu y.flat y.flat=0 from zO.self _)] at K9;clear b9 KB hN9 Bk;go_wp2_with fail;refine K9.o.mono ?_;rintro e w10 ⟨rfl,b10⟩;have B10:=bh B9 b10;clear b10 K9;go_wp2_with fail;go_ret;exact⟨rfl,B10.o⟩
end Go.Proofs.YtokiogmfgpidmaaGreatDoor
