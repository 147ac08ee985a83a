/-
  De Morgan; what is not asked for. Plain laws of evaluation. No program in ..
-/
import Derived.Test.YtokiogmfgpidmaaGreatDoorQ32
set_option maxRecDepth 100000
set_option maxHeartbeats 4000000
namespace Go.Proofs.YtokiogmfgpidmaaGreatDoor
open Go.RowKit Go.Wk
def Lj(o:Int):Nd:=⟨o,0,emp,emp⟩
theorem kt{V:List Nd}(h:zc V=0)(h1:zf V=1):V=zK true\/V=zK false:=by
 obtain⟨hl,hv⟩:=zH.1 h;have hpos:=hv.pos
 match V,hpos with
 | x :: r,_ =>
  have hx:x.op=1:=h1
  unfold IsV at hv
  simp only [zm,List.getElem?_cons_zero] at hv
  by_cases hs:zu x=true
  ·rw [if_pos hs,if_neg (by omega),if_neg (by omega),if_neg (by omega)] at hv
   have hr:r = []:=by simpa using hv
   subst hr;unfold zu at hs;rw [if_pos hx] at hs;simp only [Bool.and_eq_true,Bool.or_eq_true,decide_eq_true_eq] at hs;obtain⟨⟨hn,h2⟩,h3⟩:=hs;rcases hn with hn|hn
   ·right;rw [show x=⟨1,0,emp,emp⟩ from Nd.ext4 hx hn (bk h2) (bk h3)];rfl
   ·left;rw [show x=⟨1,1,emp,emp⟩ from Nd.ext4 hx hn (bk h2) (bk h3)];rfl
  ·rw [if_neg hs] at hv;cases hv
end Go.Proofs.YtokiogmfgpidmaaGreatDoor
namespace Go.Proofs.YtokiogmfgpidmaaGreatDoor
open Go.RowKit Go.Wk Go.Sort
theorem fg{k:Cx}(ho:aO k.env){t:List Nd}{p:Nat}{x:Ex}(hx:XAt t p false x){V:List Nd}(h:evX k.env x = .ok V):zc V=0/\0<V.length :=
 have hv:=dD ho x false hx.valid V h
 ⟨hv,cR hv⟩
theorem BZ{W:World}{R N:Nat}{k:Cx}(ih:eV W R k N){w:World}{p:Nat}(h:ja W w R k (p:Int))(a b:Ex)(ha:XAt k.P p false a)(hb:XAt k.P (p+a.flat.length) false b)(la:a.flat.length<=N)(lb:b.flat.length<=N):
 Calls Tryz.prog 57 #[.pointer (some ⟨R,0,none⟩),.int .i64 11] w (zZ W w R k ((p+a.flat.length+b.flat.length:Nat):Int) (zQ k.env false (.cons a (.cons b .nil)))):=by
 have IA:=O (ih a p w h ha la);have IB:=O (λw' h'=>ih b (p+a.flat.length) w' h' hb lb);have HO:=O h.ok.ok;have HA:=O ha;have HB:=O hb;have H:=O h;clear h ih;rcases qa:evX k.env a with e|V
 ·have HR:=O (show zQ k.env false (.cons a (.cons b .nil))= .error e by rw [zQ,qa]);rw [HR.o];rw [qa] at IA;unfold zZ at IA;clear qa ha hb la lb IB HA HB;go_enter Tryz.func57,Tryz.ntmps57;go_wp2_with fail;refine IA.o.mono ?_;rintro e w1 ⟨g1,rfl⟩;have G1:=O g1;clear g1;go_wp2_with fail;exact⟨rfl,G1.o,rfl⟩
 ·obtain⟨vV,pV⟩:=fg HO.o HA.o qa;rw [qa] at IA;unfold zZ at IA;by_cases g1:zf V=1
  ·rcases kt vV g1 with rfl|rfl
   ·have K0:(1:Int)=1:=rfl;have HR:=O (show zQ k.env false (.cons a (.cons b .nil))=jD k.env (.cons b .nil) by rw [zQ,qa];rfl);rw [HR.o];have C9:=O (show((p+a.flat.length:Nat):Int)=((p+a.flat.length:Nat):Int) from rfl);clear qa ha hb la lb vV pV g1 K0;rcases qb:evX k.env b with u|U
    ·have vO:=O (show jD k.env (.cons b .nil)= .error u by rw [jD,qb]);rw [vO.o];rw [qb] at IB;unfold zZ at IB;clear qb;go_enter Tryz.func57,Tryz.ntmps57;go_wp2_with fail;refine IA.o.mono ?_;rintro e w1 ⟨g2,⟨A1,n1,c1,rfl,N1,F1⟩,E1⟩;have G1:=O g2;have K:=O (zG A1 n1 c1 (zK true) 1 w1 N1 (by decide));rw [if_pos (show zf (zK true)=1 from rfl)] at K;have eb:=O N1;have eZ:=O E1;clear g2 N1 F1 E1;go_wp2_with fail;refine K.o.mono ?_;rintro e w2 ⟨rfl,b2⟩;have aC:=O (eZ.o.keep b2);have N2:=O (eb.o.keep b2);have G2:=O (zg G1.o (zj b2 _));obtain⟨a1,rfl,hn1,⟨-,d1,-,-⟩,-,-⟩:=jZ N2.o (by decide);have hi:(0:Int)<(n1:Int):=by omega
     have d1':w2.cell? ⟨a1.block,a1.off+1,none⟩=some (.int .i64 1):=d1;clear b2 d1 K eZ eb G1;go_wp2_with fail;refine(IB.o w2 aC.o).mono ?_;rintro e w3 ⟨g3,rfl⟩;have G3:=O (zg G2.o g3);clear g3;go_wp2_with fail;exact⟨rfl,G3.o,rfl⟩
    ·obtain⟨vU,pU⟩:=fg HO.o HB.o qb;have PU:=O pU;rw [qb] at IB;unfold zZ at IB;clear vU pU;by_cases g3:zf U=1
     ·have vO:=O (show jD k.env (.cons b .nil)= .ok U by rw [jD,qb];simp only;rw [if_pos g3]);rw [vO.o];clear qb;go_enter Tryz.func57,Tryz.ntmps57;go_wp2_with fail;refine IA.o.mono ?_;rintro e w1 ⟨g2,⟨A1,n1,c1,rfl,N1,F1⟩,E1⟩;have G1:=O g2;have K:=O (zG A1 n1 c1 (zK true) 1 w1 N1 (by decide));rw [if_pos (show zf (zK true)=1 from rfl)] at K;have eb:=O N1;have eZ:=O E1;clear g2 N1 F1 E1;go_wp2_with fail;refine K.o.mono ?_;rintro e w2 ⟨rfl,b2⟩;have aC:=O (eZ.o.keep b2);have N2:=O (eb.o.keep b2);have G2:=O (zg G1.o (zj b2 _));obtain⟨a1,rfl,hn1,⟨-,d1,-,-⟩,-,-⟩:=jZ N2.o (by decide);have hi:(0:Int)<(n1:Int):=by omega
      have d1':w2.cell? ⟨a1.block,a1.off+1,none⟩=some (.int .i64 1):=d1;clear b2 d1 K eZ eb G1;go_wp2_with fail;refine(IB.o w2 aC.o).mono ?_;rintro e w3 ⟨g4,⟨A3,n3,c3,rfl,N3,F3⟩,E3⟩;have G3:=O (zg G2.o g4);have K3:=O (zG A3 n3 c3 U 1 w3 N3 PU.o);rw [if_pos g3] at K3;have Jf:=O N3;have qm:=O E3;have LY:=O (λa' e'=>(F3 a' e').imp id (λq=>Nat.le_trans G2.o.size q));clear g4 N3 E3 F3;go_wp2_with fail;refine K3.o.mono ?_;rintro e w4 ⟨rfl,b4⟩;have IE:=O (qm.o.keep b4);have N4:=O (Jf.o.keep b4);have G4:=O (zg G3.o (zj b4 _));clear b4;go_wp2_with fail;go_ret;exact⟨G4.o,⟨A3,n3,c3,rfl,N4.o,LY.o⟩,IE.o⟩
     ·have vO:=O (show jD k.env (.cons b .nil)= .error 2 by rw [jD,qb];simp only;rw [if_neg g3]);rw [vO.o];clear qb;go_enter Tryz.func57,Tryz.ntmps57;go_wp2_with fail;refine IA.o.mono ?_;rintro e w1 ⟨g2,⟨A1,n1,c1,rfl,N1,F1⟩,E1⟩;have G1:=O g2;have K:=O (zG A1 n1 c1 (zK true) 1 w1 N1 (by decide));rw [if_pos (show zf (zK true)=1 from rfl)] at K;have eb:=O N1;have eZ:=O E1;clear g2 N1 F1 E1;go_wp2_with fail;refine K.o.mono ?_;rintro e w2 ⟨rfl,b2⟩;have aC:=O (eZ.o.keep b2);have N2:=O (eb.o.keep b2);have G2:=O (zg G1.o (zj b2 _));obtain⟨a1,rfl,hn1,⟨-,d1,-,-⟩,-,-⟩:=jZ N2.o (by decide);have hi:(0:Int)<(n1:Int):=by omega
      have d1':w2.cell? ⟨a1.block,a1.off+1,none⟩=some (.int .i64 1):=d1;clear b2 d1 K eZ eb G1;go_wp2_with fail;refine(IB.o w2 aC.o).mono ?_;rintro e w3 ⟨g4,⟨A3,n3,c3,rfl,N3,F3⟩,E3⟩;have G3:=O (zg G2.o g4);have K3:=O (zG A3 n3 c3 U 1 w3 N3 PU.o);rw [if_neg g3] at K3;clear g4 N3 E3 F3;go_wp2_with fail;refine K3.o.mono ?_;rintro e w4 ⟨rfl,b4⟩;have G4:=O (zg G3.o (zj b4 _));clear b4;go_wp2_with fail;exact⟨rfl,G4.o,rfl⟩
   ·have K0:(1:Int)=1:=rfl;have HR:=O (show zQ k.env false (.cons a (.cons b .nil))= .ok (zK false) by rw [zQ,qa];rfl);rw [HR.o];clear qa ha hb la lb IB vV pV g1 K0;go_enter Tryz.func57,Tryz.ntmps57;go_wp2_with fail;refine IA.o.mono ?_;rintro e w1 ⟨g2,⟨A1,n1,c1,rfl,N1,F1⟩,E1⟩;have G1:=O g2;have K:=O (zG A1 n1 c1 (zK false) 1 w1 N1 (by decide));rw [if_pos (show zf (zK false)=1 from rfl)] at K;have eb:=O N1;have Od:=O F1;have eZ:=O E1;clear g2 N1 F1 E1;go_wp2_with fail;refine K.o.mono ?_;rintro e w2 ⟨rfl,b2⟩;have aC:=O (eZ.o.keep b2);have N2:=O (eb.o.keep b2);have G2:=O (zg G1.o (zj b2 _));obtain⟨a1,rfl,hn1,⟨-,d1,-,-⟩,-,-⟩:=jZ N2.o (by decide);have hi:(0:Int)<(n1:Int):=by omega
    have d1':w2.cell? ⟨a1.block,a1.off+1,none⟩=some (.int .i64 0):=d1;have S:=O (dQ aC.o HB.o);clear b2 d1 K eZ eb G1;go_wp2_with fail;refine S.o.mono ?_;rintro e w3 ⟨rfl,E3,g3⟩;have N3:=O (aC.o.ns N2.o g3);have G3:=O (zg G2.o g3);have qm:=O E3;clear E3 g3 S aC N2 d1';go_wp2_with fail;go_ret;exact⟨G3.o,⟨some a1,n1,c1,rfl,N3.o,Od.o⟩,qm.o⟩
  ·have HR:=O (show zQ k.env false (.cons a (.cons b .nil))= .error 2 by rw [zQ,qa];simp only;rw [if_neg g1]);rw [HR.o];have PV:=O pV;clear qa ha hb la lb IB HA HB vV pV;go_enter Tryz.func57,Tryz.ntmps57;go_wp2_with fail;refine IA.o.mono ?_;rintro e w1 ⟨g2,⟨A1,n1,c1,rfl,N1,F1⟩,E1⟩;have G1:=O g2;have K:=O (zG A1 n1 c1 V 1 w1 N1 PV.o);rw [if_neg g1] at K;clear g2 N1 F1 E1 g1;go_wp2_with fail;refine K.o.mono ?_;rintro e w2 ⟨rfl,b2⟩;have G2:=O (zg G1.o (zj b2 _));clear b2;go_wp2_with fail;exact⟨rfl,G2.o,rfl⟩
theorem Bt{W:World}{R N:Nat}{k:Cx}(ih:eV W R k N){w:World}{p:Nat}(h:ja W w R k (p:Int))(a b:Ex)(ha:XAt k.P p false a)(hb:XAt k.P (p+a.flat.length) false b)(la:a.flat.length<=N)(lb:b.flat.length<=N):
 Calls Tryz.prog 57 #[.pointer (some ⟨R,0,none⟩),.int .i64 12] w (zZ W w R k ((p+a.flat.length+b.flat.length:Nat):Int) (zQ k.env true (.cons a (.cons b .nil)))):=by
 have IA:=O (ih a p w h ha la);have IB:=O (λw' h'=>ih b (p+a.flat.length) w' h' hb lb);have HO:=O h.ok.ok;have HA:=O ha;have HB:=O hb;have H:=O h;clear h ih;rcases qa:evX k.env a with e|V
 ·have HR:=O (show zQ k.env true (.cons a (.cons b .nil))= .error e by rw [zQ,qa]);rw [HR.o];rw [qa] at IA;unfold zZ at IA;clear qa ha hb la lb IB HA HB;go_enter Tryz.func57,Tryz.ntmps57;go_wp2_with fail;refine IA.o.mono ?_;rintro e w1 ⟨g1,rfl⟩;have G1:=O g1;clear g1;go_wp2_with fail;exact⟨rfl,G1.o,rfl⟩
 ·obtain⟨vV,pV⟩:=fg HO.o HA.o qa;rw [qa] at IA;unfold zZ at IA;by_cases g1:zf V=1
  ·rcases kt vV g1 with rfl|rfl
   ·have K0:(1:Int)=1:=rfl;have HR:=O (show zQ k.env true (.cons a (.cons b .nil))= .ok (zK true) by rw [zQ,qa];rfl);rw [HR.o];clear qa ha hb la lb IB vV pV g1 K0;go_enter Tryz.func57,Tryz.ntmps57;go_wp2_with fail;refine IA.o.mono ?_;rintro e w1 ⟨g2,⟨A1,n1,c1,rfl,N1,F1⟩,E1⟩;have G1:=O g2;have K:=O (zG A1 n1 c1 (zK true) 1 w1 N1 (by decide));rw [if_pos (show zf (zK true)=1 from rfl)] at K;have eb:=O N1;have Od:=O F1;have eZ:=O E1;clear g2 N1 F1 E1;go_wp2_with fail;refine K.o.mono ?_;rintro e w2 ⟨rfl,b2⟩;have aC:=O (eZ.o.keep b2);have N2:=O (eb.o.keep b2);have G2:=O (zg G1.o (zj b2 _));obtain⟨a1,rfl,hn1,⟨-,d1,-,-⟩,-,-⟩:=jZ N2.o (by decide);have hi:(0:Int)<(n1:Int):=by omega
    have d1':w2.cell? ⟨a1.block,a1.off+1,none⟩=some (.int .i64 1):=d1;have S:=O (dQ aC.o HB.o);clear b2 d1 K eZ eb G1;go_wp2_with fail;refine S.o.mono ?_;rintro e w3 ⟨rfl,E3,g3⟩;have N3:=O (aC.o.ns N2.o g3);have G3:=O (zg G2.o g3);have qm:=O E3;clear E3 g3 S aC N2 d1';go_wp2_with fail;go_ret;exact⟨G3.o,⟨some a1,n1,c1,rfl,N3.o,Od.o⟩,qm.o⟩
   ·have K0:(1:Int)=1:=rfl;have HR:=O (show zQ k.env true (.cons a (.cons b .nil))=jD k.env (.cons b .nil) by rw [zQ,qa];rfl);rw [HR.o];have C9:=O (show((p+a.flat.length:Nat):Int)=((p+a.flat.length:Nat):Int) from rfl);clear qa ha hb la lb vV pV g1 K0;rcases qb:evX k.env b with u|U
    ·have vO:=O (show jD k.env (.cons b .nil)= .error u by rw [jD,qb]);rw [vO.o];rw [qb] at IB;unfold zZ at IB;clear qb;go_enter Tryz.func57,Tryz.ntmps57;go_wp2_with fail;refine IA.o.mono ?_;rintro e w1 ⟨g2,⟨A1,n1,c1,rfl,N1,F1⟩,E1⟩;have G1:=O g2;have K:=O (zG A1 n1 c1 (zK false) 1 w1 N1 (by decide));rw [if_pos (show zf (zK false)=1 from rfl)] at K;have eb:=O N1;have eZ:=O E1;clear g2 N1 F1 E1;go_wp2_with fail;refine K.o.mono ?_;rintro e w2 ⟨rfl,b2⟩;have aC:=O (eZ.o.keep b2);have N2:=O (eb.o.keep b2);have G2:=O (zg G1.o (zj b2 _));obtain⟨a1,rfl,hn1,⟨-,d1,-,-⟩,-,-⟩:=jZ N2.o (by decide);have hi:(0:Int)<(n1:Int):=by omega
     have d1':w2.cell? ⟨a1.block,a1.off+1,none⟩=some (.int .i64 0):=d1;clear b2 d1 K eZ eb G1;go_wp2_with fail;refine(IB.o w2 aC.o).mono ?_;rintro e w3 ⟨g3,rfl⟩;have G3:=O (zg G2.o g3);clear g3;go_wp2_with fail;exact⟨rfl,G3.o,rfl⟩
    ·obtain⟨vU,pU⟩:=fg HO.o HB.o qb;have PU:=O pU;rw [qb] at IB;unfold zZ at IB;clear vU pU;by_cases g3:zf U=1
     ·have vO:=O (show jD k.env (.cons b .nil)= .ok U by rw [jD,qb];simp only;rw [if_pos g3]);rw [vO.o];clear qb;go_enter Tryz.func57,Tryz.ntmps57;go_wp2_with fail;refine IA.o.mono ?_;rintro e w1 ⟨g2,⟨A1,n1,c1,rfl,N1,F1⟩,E1⟩;have G1:=O g2;have K:=O (zG A1 n1 c1 (zK false) 1 w1 N1 (by decide));rw [if_pos (show zf (zK false)=1 from rfl)] at K;have eb:=O N1;have eZ:=O E1;clear g2 N1 F1 E1;go_wp2_with fail;refine K.o.mono ?_;rintro e w2 ⟨rfl,b2⟩;have aC:=O (eZ.o.keep b2);have N2:=O (eb.o.keep b2);have G2:=O (zg G1.o (zj b2 _));obtain⟨a1,rfl,hn1,⟨-,d1,-,-⟩,-,-⟩:=jZ N2.o (by decide);have hi:(0:Int)<(n1:Int):=by omega
      have d1':w2.cell? ⟨a1.block,a1.off+1,none⟩=some (.int .i64 0):=d1;clear b2 d1 K eZ eb G1;go_wp2_with fail;refine(IB.o w2 aC.o).mono ?_;rintro e w3 ⟨g4,⟨A3,n3,c3,rfl,N3,F3⟩,E3⟩;have G3:=O (zg G2.o g4);have K3:=O (zG A3 n3 c3 U 1 w3 N3 PU.o);rw [if_pos g3] at K3;have Jf:=O N3;have qm:=O E3;have LY:=O (λa' e'=>(F3 a' e').imp id (λq=>Nat.le_trans G2.o.size q));clear g4 N3 E3 F3;go_wp2_with fail;refine K3.o.mono ?_;rintro e w4 ⟨rfl,b4⟩;have IE:=O (qm.o.keep b4);have N4:=O (Jf.o.keep b4);have G4:=O (zg G3.o (zj b4 _));clear b4;go_wp2_with fail;go_ret;exact⟨G4.o,⟨A3,n3,c3,rfl,N4.o,LY.o⟩,IE.o⟩
     ·have vO:=O (show jD k.env (.cons b .nil)= .error 2 by rw [jD,qb];simp only;rw [if_neg g3]);rw [vO.o];clear qb;go_enter Tryz.func57,Tryz.ntmps57;go_wp2_with fail;refine IA.o.mono ?_;rintro e w1 ⟨g2,⟨A1,n1,c1,rfl,N1,F1⟩,E1⟩;have G1:=O g2;have K:=O (zG A1 n1 c1 (zK false) 1 w1 N1 (by decide));rw [if_pos (show zf (zK false)=1 from rfl)] at K;have eb:=O N1;have eZ:=O E1;clear g2 N1 F1 E1;go_wp2_with fail;refine K.o.mono ?_;rintro e w2 ⟨rfl,b2⟩;have aC:=O (eZ.o.keep b2);have N2:=O (eb.o.keep b2);have G2:=O (zg G1.o (zj b2 _));obtain⟨a1,rfl,hn1,⟨-,d1,-,-⟩,-,-⟩:=jZ N2.o (by decide);have hi:(0:Int)<(n1:Int):=by omega
      have d1':w2.cell? ⟨a1.block,a1.off+1,none⟩=some (.int .i64 0):=d1;clear b2 d1 K eZ eb G1;go_wp2_with fail;refine(IB.o w2 aC.o).mono ?_;rintro e w3 ⟨g4,⟨A3,n3,c3,rfl,N3,F3⟩,E3⟩;have G3:=O (zg G2.o g4);have K3:=O (zG A3 n3 c3 U 1 w3 N3 PU.o);rw [if_neg g3] at K3;clear g4 N3 E3 F3;go_wp2_with fail;refine K3.o.mono ?_;rintro e w4 ⟨rfl,b4⟩;have G4:=O (zg G3.o (zj b4 _));clear b4;go_wp2_with fail;exact⟨rfl,G4.o,rfl⟩
  ·have HR:=O (show zQ k.env true (.cons a (.cons b .nil))= .error 2 by rw [zQ,qa];simp only;rw [if_neg g1]);rw [HR.o];have PV:=O pV;clear qa ha hb la lb IB HA HB vV pV;go_enter Tryz.func57,Tryz.ntmps57;go_wp2_with fail;refine IA.o.mono ?_;rintro e w1 ⟨g2,⟨A1,n1,c1,rfl,N1,F1⟩,E1⟩;have G1:=O g2;have K:=O (zG A1 n1 c1 V 1 w1 N1 PV.o);rw [if_neg g1] at K;clear g2 N1 F1 E1 g1;go_wp2_with fail;refine K.o.mono ?_;rintro e w2 ⟨rfl,b2⟩;have G2:=O (zg G1.o (zj b2 _));clear b2;go_wp2_with fail;exact⟨rfl,G2.o,rfl⟩
theorem vE{W:World}{R N:Nat}{k:Cx}(ih:eV W R k N){w:World}{p:Nat}(h:ja W w R k (p:Int))(c a b:Ex)(hc:XAt k.P p false c)(ha:XAt k.P (p+c.flat.length) false a)(hb:XAt k.P (p+c.flat.length+a.flat.length) false b)(lc:c.flat.length<=N)(la:a.flat.length<=N)(lb:b.flat.length<=N):
 Calls Tryz.prog 58 #[.pointer (some ⟨R,0,none⟩)] w (zZ W w R k ((p+c.flat.length+a.flat.length+b.flat.length:Nat):Int) (dE k.env (.cons c (.cons a (.cons b .nil))))):=by
 have IC:=O (ih c p w h hc lc);have IA:=O (λw' h'=>ih a (p+c.flat.length) w' h' ha la);have IB:=O (λw' h'=>ih b (p+c.flat.length+a.flat.length) w' h' hb lb);have HO:=O h.ok.ok;have HC:=O hc;have HA:=O ha;have HB:=O hb;clear h ih;rcases qc:evX k.env c with e|V
 ·have HR:=O (show dE k.env (.cons c (.cons a (.cons b .nil)))= .error e by rw [dE,qc]);rw [HR.o];rw [qc] at IC;unfold zZ at IC;clear qc ha hb hc la lb lc IA IB HA HB HC;go_enter Tryz.func58,Tryz.ntmps58;go_wp2_with fail;refine IC.o.mono ?_;rintro e w1 ⟨g1,rfl⟩;have G1:=O g1;clear g1;go_wp2_with fail;exact⟨rfl,G1.o,rfl⟩
 obtain⟨vV,pV⟩:=fg HO.o HC.o qc;rw [qc] at IC;unfold zZ at IC;by_cases g1:zf V=1
 case neg =>
  have HR:=O (show dE k.env (.cons c (.cons a (.cons b .nil)))= .error 2 by rw [dE,qc];simp only;rw [if_neg g1]);rw [HR.o];have PV:=O pV;clear qc ha hb hc la lb lc IA IB HA HB HC vV pV;go_enter Tryz.func58,Tryz.ntmps58;go_wp2_with fail;refine IC.o.mono ?_;rintro e w1 ⟨g2,⟨A1,n1,c1,rfl,N1,F1⟩,E1⟩;have G1:=O g2;have K:=O (zG A1 n1 c1 V 1 w1 N1 PV.o);rw [if_neg g1] at K;clear g2 N1 F1 E1 g1;go_wp2_with fail;refine K.o.mono ?_;rintro e w2 ⟨rfl,b2⟩;have G2:=O (zg G1.o (zj b2 _));clear b2;go_wp2_with fail;exact⟨rfl,G2.o,rfl⟩
 rcases kt vV g1 with rfl|rfl
 ·have HR:=O (show dE k.env (.cons c (.cons a (.cons b .nil)))=evX k.env a by rw [dE,qc];rfl);rw [HR.o];clear qc ha hb hc la lb lc vV pV g1 HC IB HO;rcases qa:evX k.env a with u|U
  ·rw [qa] at IA;unfold zZ at IA;clear qa;go_enter Tryz.func58,Tryz.ntmps58;go_wp2_with fail;refine IC.o.mono ?_;rintro e w1 ⟨g2,⟨A1,n1,c1,rfl,N1,F1⟩,E1⟩;have G1:=O g2;have K:=O (zG A1 n1 c1 (zK true) 1 w1 N1 (by decide));rw [if_pos (show zf (zK true)=1 from rfl)] at K;have eb:=O N1;have eZ:=O E1;clear g2 N1 F1 E1;go_wp2_with fail;refine K.o.mono ?_;rintro e w2 ⟨rfl,b2⟩;have aC:=O (eZ.o.keep b2);have G2:=O (zg G1.o (zj b2 _));obtain⟨a1,rfl,hn1,⟨-,d1,-,-⟩,-,-⟩:=jZ (eb.o.keep b2) (by decide);have hi:(0:Int)<(n1:Int):=by omega
   have d1':w2.cell? ⟨a1.block,a1.off+1,none⟩=some (.int .i64 1):=d1;clear b2 d1 K eZ eb G1;go_wp2_with fail;refine(IA.o w2 aC.o).mono ?_;rintro e w3 ⟨g3,rfl⟩;have G3:=O (zg G2.o g3);clear g3;go_wp2_with fail;exact⟨rfl,G3.o,rfl⟩
  ·rw [qa] at IA;unfold zZ at IA;clear qa;go_enter Tryz.func58,Tryz.ntmps58;go_wp2_with fail;refine IC.o.mono ?_;rintro e w1 ⟨g2,⟨A1,n1,c1,rfl,N1,F1⟩,E1⟩;have G1:=O g2;have K:=O (zG A1 n1 c1 (zK true) 1 w1 N1 (by decide));rw [if_pos (show zf (zK true)=1 from rfl)] at K;have eb:=O N1;have eZ:=O E1;clear g2 N1 F1 E1;go_wp2_with fail;refine K.o.mono ?_;rintro e w2 ⟨rfl,b2⟩;have aC:=O (eZ.o.keep b2);have G2:=O (zg G1.o (zj b2 _));obtain⟨a1,rfl,hn1,⟨-,d1,-,-⟩,-,-⟩:=jZ (eb.o.keep b2) (by decide);have hi:(0:Int)<(n1:Int):=by omega
   have d1':w2.cell? ⟨a1.block,a1.off+1,none⟩=some (.int .i64 1):=d1;clear b2 d1 K eZ eb G1;go_wp2_with fail;refine(IA.o w2 aC.o).mono ?_;rintro e w3 ⟨g3,⟨A3,n3,c3,rfl,N3,F3⟩,E3⟩;have G3:=O (zg G2.o g3);have S:=O (dQ E3 HB.o);have Jf:=O N3;have qm:=O E3;have LY:=O (λa' e'=>(F3 a' e').imp id (λq=>Nat.le_trans G2.o.size q));clear g3 N3 E3 F3;go_wp2_with fail;refine S.o.mono ?_;rintro e w4 ⟨rfl,E4,g4⟩;have N4:=O (qm.o.ns Jf.o g4);have G4:=O (zg G3.o g4);have IE:=O E4;clear E4 g4 S qm Jf;go_wp2_with fail;go_ret;exact⟨G4.o,⟨A3,n3,c3,rfl,N4.o,LY.o⟩,IE.o⟩
 ·have HR:=O (show dE k.env (.cons c (.cons a (.cons b .nil)))=evX k.env b by rw [dE,qc];rfl);rw [HR.o];clear qc ha hb hc la lb lc vV pV g1 HC IA HO;rcases qb:evX k.env b with u|U
  ·rw [qb] at IB;unfold zZ at IB;clear qb;go_enter Tryz.func58,Tryz.ntmps58;go_wp2_with fail;refine IC.o.mono ?_;rintro e w1 ⟨g2,⟨A1,n1,c1,rfl,N1,F1⟩,E1⟩;have G1:=O g2;have K:=O (zG A1 n1 c1 (zK false) 1 w1 N1 (by decide));rw [if_pos (show zf (zK false)=1 from rfl)] at K;have eb:=O N1;have eZ:=O E1;clear g2 N1 F1 E1;go_wp2_with fail;refine K.o.mono ?_;rintro e w2 ⟨rfl,b2⟩;have aC:=O (eZ.o.keep b2);have G2:=O (zg G1.o (zj b2 _));obtain⟨a1,rfl,hn1,⟨-,d1,-,-⟩,-,-⟩:=jZ (eb.o.keep b2) (by decide);have hi:(0:Int)<(n1:Int):=by omega
   have d1':w2.cell? ⟨a1.block,a1.off+1,none⟩=some (.int .i64 0):=d1;clear b2 d1 K eZ eb G1;go_wp2_with fail;have S:=O (dQ aC.o HA.o);refine S.o.mono ?_;rintro e w3 ⟨rfl,E3,g3⟩;have G3:=O (zg G2.o g3);have qm:=O E3;clear E3 g3 S aC;go_wp2_with fail;refine(IB.o w3 qm.o).mono ?_;rintro e w4 ⟨g4,rfl⟩;have G4:=O (zg G3.o g4);clear g4;go_wp2_with fail;exact⟨rfl,G4.o,rfl⟩
  ·rw [qb] at IB;unfold zZ at IB;clear qb;go_enter Tryz.func58,Tryz.ntmps58;go_wp2_with fail;refine IC.o.mono ?_;rintro e w1 ⟨g2,⟨A1,n1,c1,rfl,N1,F1⟩,E1⟩;have G1:=O g2;have K:=O (zG A1 n1 c1 (zK false) 1 w1 N1 (by decide));rw [if_pos (show zf (zK false)=1 from rfl)] at K;have eb:=O N1;have eZ:=O E1;clear g2 N1 F1 E1;go_wp2_with fail;refine K.o.mono ?_;rintro e w2 ⟨rfl,b2⟩;have aC:=O (eZ.o.keep b2);have G2:=O (zg G1.o (zj b2 _));obtain⟨a1,rfl,hn1,⟨-,d1,-,-⟩,-,-⟩:=jZ (eb.o.keep b2) (by decide);have hi:(0:Int)<(n1:Int):=by omega
   have d1':w2.cell? ⟨a1.block,a1.off+1,none⟩=some (.int .i64 0):=d1;clear b2 d1 K eZ eb G1;go_wp2_with fail;have S:=O (dQ aC.o HA.o);refine S.o.mono ?_;rintro e w3 ⟨rfl,E3,g3⟩;have G3:=O (zg G2.o g3);have qm:=O E3;clear E3 g3 S aC;go_wp2_with fail;refine(IB.o w3 qm.o).mono ?_;rintro e w4 ⟨g4,⟨A4,n4,c4,rfl,N4,F4⟩,E4⟩;have G4:=O (zg G3.o g4);have Ku:=O N4;have IE:=O E4;have Gu:=O (λa' e'=>(F4 a' e').imp id (λq=>Nat.le_trans G3.o.size q));clear g4 N4 E4 F4;go_wp2_with fail;go_ret;exact⟨G4.o,⟨A4,n4,c4,rfl,Ku.o,Gu.o⟩,IE.o⟩
def iQ(w:World)(r:Except Int (Option (List Nd)))(e:Ending)(w':World):Prop :=
 Below w.heap.size w w'/\match r with
  | .error k=>e = .panicked (bj k)
  | .ok none=>e = .returned (.slice none 0 0)
  | .ok (some V)=>∃a n c,e = .returned (.slice (some a) n c)/\Ns w' (some a) n c V
theorem Bu{E:List En}{u:Ud}{k:Nat}(h:k<E.length):((E.drop k).find? λx=>decide (x.u=u))=if E[k].u=u then some E[k] else(E.drop (k+1)).find? λx=>decide (x.u=u):=by
 rw [List.drop_eq_getElem_cons h,List.find?_cons];by_cases g:E[k].u=u
 ·simp [g]
 ·simp [g]
theorem EG{w:World}{R:Nat}{k:Cx}(_h:br w R k)(A:Option Addr)(n c:Nat)(V:List Nd)(hv:Ns w A n c V)(h0:0<V.length)(h6:zf V=6):
 Calls Tryz.prog 104 #[.pointer (some ⟨R,0,none⟩),.slice A n c] w (iQ w (bS k.E V)):=by
 have K:=O (dr A n c V 6 w hv h0);have f1:(zf V==6)=true:=beq_iff_eq.2 h6;rw [f1] at K;have HR:=O (show bS k.E V = .ok (some V) by unfold bS;rw [if_pos h6]);have HV:=O hv;obtain⟨a,rfl,-⟩:=jZ hv h0;rw [HR.o];clear hv h0 h6 f1;go_enter Tryz.func104,Tryz.ntmps104;go_wp2_with fail;refine K.o.mono ?_;rintro e w1 ⟨rfl,b1⟩;have B1:=O b1;clear b1 K;go_wp2_with fail;go_ret;exact⟨B1.o,a,n,c,rfl,HV.o.keep B1.o⟩
theorem Ie{w:World}{R:Nat}{k:Cx}(_h:br w R k)(A:Option Addr)(n c:Nat)(V:List Nd)(hv:Ns w A n c V)(h0:0<V.length)(h6:zf V≠6)(h4:zf V≠4):
 Calls Tryz.prog 104 #[.pointer (some ⟨R,0,none⟩),.slice A n c] w (iQ w (bS k.E V)):=by
 have K:=O (dr A n c V 6 w hv h0);have K2:=O (λw' hb=>dr A n c V 4 w' (hv.keep (w':=w') hb) h0);have f1:(zf V==6)=false:=beq_eq_false_iff_ne.2 h6;have f2:(zf V==4)=false:=beq_eq_false_iff_ne.2 h4;rw [f1] at K;rw [f2] at K2;have HR:=O (show bS k.E V = .error 2 by unfold bS;rw [if_neg h6,if_neg h4]);rw [HR.o];clear hv h0 h6 h4 f1 f2;go_enter Tryz.func104,Tryz.ntmps104;go_wp2_with fail;refine K.o.mono ?_;rintro e w1 ⟨rfl,b1⟩;have B1:=O b1;clear b1 K;go_wp2_with fail;refine(K2.o _ B1.o).mono ?_;rintro e w2 ⟨rfl,b2⟩;have B2:=bh B1 b2;clear b2 B1 K2;go_wp2_with fail;exact⟨rfl,B2.o,rfl⟩
theorem Dp{w:World}{R:Nat}{k:Cx}(h:br w R k)(A:Option Addr)(n c:Nat)(V:List Nd)(hv:Ns w A n c V)(h0:0<V.length)(h4:zf V=4):
 Calls Tryz.prog 104 #[.pointer (some ⟨R,0,none⟩),.slice A n c] w (iQ w (bS k.E V)):=by
 have K:=O (dr A n c V 6 w hv h0);have K2:=O (λw' hb=>dr A n c V 4 w' (hv.keep (w':=w') hb) h0);have KU:=O (λw' hb=>nu A n c V w' (hv.keep (w':=w') hb) h0);have f1:(zf V==6)=false:=by rw [h4];rfl
 have f2:(zf V==4)=true:=beq_iff_eq.2 h4;rw [f1] at K;rw [f2] at K2;have HR:=O (show bS k.E V = .ok ((k.E.find? λx=>decide (x.u=jX V)).map En.P) by unfold bS;rw [if_neg (by rw [h4];decide),if_pos h4]);rw [HR.o];have HE:=O h.es;have NR:=O (λx (hx:x∈k.E)=>cR (y9 (lk.1 h.e).2.1 hx).1);have c0:=h.c0;have ow:=O HE.o.len;have hmx:=HE.o.max;unfold maxLen at hmx;unfold udV at KU;generalize jX V=u at *;clear hv h0 h4 f1 f2;go_enter Tryz.func104,Tryz.ntmps104;go_wp2_with fail;refine K.o.mono ?_;rintro e w1 ⟨rfl,b1⟩;have B1:=O b1;clear b1 K;go_wp2_with fail;refine(K2.o _ B1.o).mono ?_;rintro e w2 ⟨rfl,b2⟩;have B2:=bh B1 b2;replace c0:=za B2.o c0;clear b2 B1 K2;go_wp2_with fail;go_loopw [21] (λi wr=>∃j:Nat,i = .int .i64 j/\j<=k.en/\Hid ((k.E.find? λx=>decide (x.u=u))=(k.E.drop j).find? λx=>decide (x.u=u))/\Hid (Below w.heap.size w wr)) (λi _=>k.en-(intOf i).toNat)
 case atStart=>exact⟨0,rfl,Nat.zero_le _,O rfl,B2⟩
 case round =>
  obtain⟨j,rfl,hj,hF,hB⟩:=hrel;by_cases hlt:j<k.en
  ·have IX:j<k.E.length:=by rw [<-ow.o];exact hlt
   obtain⟨a,hea,q0,q1,q2,q3,ee⟩:=(HE.o.keep hB.o).at_ j k.E[j] (List.getElem?_eq_getElem IX);rw [hea];have hF2:=hF.o.trans (Bu IX);have HV:=O (NR.o k.E[j] (List.getElem_mem IX));generalize k.E[j]=x at *;have V0:=O (sC wr x 96);have B3:=bh hB (zb wr (.cells #[.string x.u.1,.string x.u.2,.slice x.UA x.un x.uc,.slice x.NA x.nn x.nc] 96));have C4:=O (ee.keep (zb wr (.cells #[.string x.u.1,.string x.u.2,.slice x.UA x.un x.uc,.slice x.NA x.nn x.nc] 96)));have HB3:=B3;obtain⟨w3,hw3⟩:∃w3,wr.alloc (.cells #[.string x.u.1,.string x.u.2,.slice x.UA x.un x.uc,.slice x.NA x.nn x.nc] 96)=w3:=⟨_,rfl⟩
   rw [hw3] at V0 B3 C4 HB3;have R1:=rq (w:=w3) (λw' hb=>KU.o w' (B3.o.trans (hb.mono B3.o.size)));obtain⟨v0,v1,v2,v3⟩:=V0.o;have k0:=cell_regrown v0;have k1:=cell_regrown v1;by_cases he:x.u=u
   ·rw [if_pos he] at hF2;have HN:=O hF2;have hb1:(x.u.1.toList==u.1.toList)=true:=by rw [he];exact beq_self_eq_true _
    have hb2:(x.u.2.toList==u.2.toList)=true:=by rw [he];exact beq_self_eq_true _
    clear he hF hF2;go_wp2_with fail;refine wp_region_quiet_below (by kernel_rfl) (by kernel_rfl) ?_
    repeat (first|go_big_quiet_step (with_reducible exact R1 _ _)|quiet_step (with_reducible exact R1 _ _))
    refine wpQuiet_nil ?_;intro w4 hw';have b4:=O (show Below w3.heap.size w3 w4 by obtain⟨⟨d,os⟩,rfl⟩:=hw';exact below_regrown _ _ _);clear hw';have B4:=bh B3 b4.o;have V4:=O (V0.o.keep b4.o);have HO4:=O (C4.o.keep b4.o);clear k0 k1 v0 v1 v2 v3 V0 C4;obtain⟨v0,v1,v2,v3⟩:=V4.o;go_wp2_with fail;go_ret;rw [HN.o];obtain⟨a4,ha4,-⟩:=jZ HO4.o.ns HV.o;refine⟨B4.o,a4,x.nn,x.nc,by rw [<-ha4];rfl,by rw [<-ha4];exact HO4.o.ns⟩
   ·rw [if_neg he] at hF2;have HN:=O hF2;have hne:(x.u.1.toList==u.1.toList)=false\/((x.u.1.toList==u.1.toList)=true/\(x.u.2.toList==u.2.toList)=false):=xA he;clear he hF hF2;rcases hne with h1|⟨h1,h2⟩
    all_goals
     go_wp2_with fail;refine wp_region_quiet_below (by kernel_rfl) (by kernel_rfl) ?_
     repeat (first|go_big_quiet_step (with_reducible exact R1 _ _)|quiet_step (with_reducible exact R1 _ _))
     refine wpQuiet_nil ?_;intro w4 hw';have b4:=O (show Below w3.heap.size w3 w4 by obtain⟨⟨d,os⟩,rfl⟩:=hw';exact below_regrown _ _ _);clear hw';have B4:=bh B3 b4.o;clear k0 k1 v0 v1 v2 v3 V0;go_wp2_with fail;go_roundw
     case rel=>exact⟨j+1,by go_num,by omega,HN,B4⟩
     case measure=>simp [intOf];omega
  ·have HN:=O (show(k.E.find? λx=>decide (x.u=u))=none by
    rw [hF.o,List.drop_of_length_le (by rw [<-ow.o];omega)];rfl)
   clear hF;go_wp2_with fail;go_ret;rw [HN.o];exact⟨hB.o,rfl⟩
theorem ll{w:World}{R:Nat}{k:Cx}(h:br w R k)(A:Option Addr)(n c:Nat)(V:List Nd)(hv:Ns w A n c V)(h0:0<V.length):
 Calls Tryz.prog 104 #[.pointer (some ⟨R,0,none⟩),.slice A n c] w (iQ w (bS k.E V)):=by
 by_cases h6:zf V=6
 ·exact EG h A n c V hv h0 h6
 by_cases h4:zf V=4
 ·exact Dp h A n c V hv h0 h4
 ·exact Ie h A n c V hv h0 h6 h4
end Go.Proofs.YtokiogmfgpidmaaGreatDoor
namespace Go.Proofs
end Go.Proofs
