/-
  Package bag: Has, All, Any. The contracts of like.match, like.read, like.Match. ..
-/
import Derived.Test.YtokiogmfgpidmaaGreatDoorQ8
import Derived.Test.YtokiogmfgpidmaaGreatDoorQ9
import Derived.Test.YtokiogmfgpidmaaGreatDoorQ12
import Derived.Test.YtokiogmfgpidmaaGreatDoorQ23
set_option maxRecDepth 100000
set_option maxHeartbeats 4000000
namespace Go.Wk
def kH(P Q:List Nd):Int:=or2 (zc P) (or2 (zc Q) (if zf P=5 then 0 else 2))
def lQ(P Q:List Nd):Bool:=decide (kH P Q=0)&& gB (zq P) Q
def sd(P Q:List Nd):Bool:=decide (jT P Q=0)&& decide (((zq Q).filter λx=>gB (zq P) x).length=(zq Q).length)
def uR(P Q:List Nd):Bool:=decide (jT P Q=0)&&(zq Q).any λx=>gB (zq P) x
theorem Bn{L:List (List Nd)}(h:∀Q∈L,IsV Q):L.length<=L.flatten.length:=by
 induction L with
 | nil=>simp
 | cons Q L ih =>
  have:=(h Q (by simp)).pos
  have:=ih (λR hR=>h R (by simp [hR]))
  simp only [List.length_cons,List.flatten_cons,List.length_append]
  omega
theorem bM{P:List Nd}(h:zc P=0)(h5:zf P=5):(zq P).length<=200:=by
 obtain⟨hl,hV⟩:=zH.1 h;obtain⟨e,-,h3,-⟩:=eB hV h5;have:=congrArg List.length e;have:=Bn h3;simp only [List.length_cons] at *;omega
theorem Be{P Q:List Nd}:kH P Q=0↔zc P=0/\zc Q=0/\zf P=5:=by
 unfold kH or2;by_cases h1:zc P=0
 ·rw [if_pos h1];by_cases h2:zc Q=0
  ·rw [if_pos h2];by_cases h3:zf P=5
   ·rw [if_pos h3];exact⟨λ_=>⟨h1,h2,h3⟩,λ_=>rfl⟩
   ·rw [if_neg h3];exact⟨λh=>by omega,λh=>absurd h.2.2 h3⟩
  ·rw [if_neg h2];exact⟨λh=>absurd h h2,λh=>absurd h.2.1 h2⟩
 ·rw [if_neg h1];exact⟨λh=>absurd h h1,λh=>absurd h.1 h1⟩
end Go.Wk
namespace Go.Proofs.YtokiogmfgpidmaaGreatDoor
open Go.RowKit Go.Wk Go.Sort
theorem kh{w:World}{B:Nat}{v:Value}{V:List Sl}(h:zO w B v V):∃A c,v = .slice A V.length c/\aw w A V :=
 let ⟨A,c,h1,_,h2⟩:=h.at;⟨A,c,h1,h2⟩
theorem nV(V:List Sl)(p:List Nd->Bool):(V.filter λr=>p r.P).length=((V.map Sl.P).filter p).length:=by
 rw [List.filter_map,List.length_map];rfl
theorem Is(A B:Option Addr)(n m c d:Nat)(P Q:List Nd)(w:World)(h:Ns w A n c P)(k:Ns w B m d Q):
 Calls Tryz.prog 109 #[.slice A n c,.slice B m d] w λe w'=>e = .returned (.tuple #[.bool (lQ P Q),jr (kH P Q)])/\Below w.heap.size w w':=by
 have K1:=O (λw' hb=>zJ (h.keep (w':=w') hb));have K2:=O (λw' hb=>zJ (k.keep (w':=w') hb));by_cases h1:zc P=0
 ·by_cases h2:zc Q=0
  ·rw [h1,zk] at K1;rw [h2,zk] at K2;have dK:=(zH.1 h1).2.pos;obtain⟨a,rfl,D⟩:=h.at_.nd dK;rw [show a.add (0*4)=a from rfl] at D;have hn1:0<n:=by rw [h.len];exact dK
   have d0:=D.c0;rw [<-jB dK] at d0;by_cases h5:zf P=5
   ·have hE:kH P Q=0:=Be.2 ⟨h1,h2,h5⟩;have HE:=O hE;have HV:=O (show lQ P Q=gB (zq P) Q by unfold lQ;rw [hE];simp);have CO:bV P=0:=by unfold bV;rw [if_pos h1,if_pos (.inl h5)]
    have P1:=O (show fB P=zq P by unfold fB;rw [if_pos CO,if_pos h5]);have T1:=O (λw' hb=>ae _ n c P w' (h.keep (w':=w') hb));unfold bG at T1;rw [CO,zk] at T1;have HK:=O k;have HL:=O (bM h1 h5);rw [h5] at d0;have D0:=O (λw' (hb:Below w.heap.size w w')=>za hb d0);clear h k h1 h2 h5 hE CO dK D d0;go_enter Tryz.func109,Tryz.ntmps109;go_wp2_with fail;refine(K1.o _ (Below.refl _ _)).mono ?_;rintro e w1 ⟨rfl,b1⟩;have B1:=O b1;clear b1;go_wp2_with fail;refine(K2.o _ B1.o).mono ?_;rintro e w2 ⟨rfl,b2⟩;have B2:=bh B1 b2;have d2:=D0.o _ B2.o;clear b2 B1;go_wp2_with fail;refine(T1.o _ B2.o).mono ?_;rintro e w3 ⟨va,Va,rfl,hO,hL,hF,b3⟩;have B3:=bh B2 b3;obtain⟨A2,c2,rfl,hS⟩:=kh hO;have HS:=O hS;have ox:Va.length<=200:=by have:=congrArg List.length (hL.trans P1.o);have:=HL.o;simp only [List.length_map] at *;omega
    have HB:=O (qU A2 B Va.length m c2 d Va Q w3 rfl (by unfold maxLen;omega) hS (HK.o.keep B3.o));rw [hL.trans P1.o] at HB;clear hO hL hF b3 B2 d2 hS;go_wp2_with fail;refine(HB.o).mono ?_;rintro e w4 ⟨rfl,b4⟩;have B4:=bh B3 b4;clear b4 B3;go_wp2_with fail;go_ret2;exact⟨by rw [HV.o,HE.o];rfl,B4.o⟩
   ·have hE:kH P Q=2:=by unfold kH;rw [h1,h2,zS,zS,if_neg h5]
    have HE:=O hE;have HV:=O (show lQ P Q=false by unfold lQ;rw [hE];rfl);have g5:(zf P != 5)=true:=by rw [bne_iff_ne];exact h5
    have D0:=O (λw' (hb:Below w.heap.size w w')=>za hb d0);clear h k h1 h2 h5 hE dK D d0;go_enter Tryz.func109,Tryz.ntmps109;go_wp2_with fail;refine(K1.o _ (Below.refl _ _)).mono ?_;rintro e w1 ⟨rfl,b1⟩;have B1:=O b1;clear b1;go_wp2_with fail;refine(K2.o _ B1.o).mono ?_;rintro e w2 ⟨rfl,b2⟩;have B2:=bh B1 b2;have d2:=D0.o _ B2.o;clear b2 B1;go_wp2_with fail;go_ret2;exact⟨by rw [HV.o,HE.o];rfl,B2.o⟩
  ·have hE:kH P Q=zc Q:=by unfold kH;rw [h1,zS,jt h2]
   have HV:=O (show lQ P Q=false by unfold lQ;rw [hE,decide_eq_false h2];rfl);rw [h1,zk] at K1;rw [zn h2] at K2;have HX:=O (zn h2);have HE:=O hE;clear h k h1 h2 hE;go_enter Tryz.func109,Tryz.ntmps109;go_wp2_with fail;refine(K1.o _ (Below.refl _ _)).mono ?_;rintro e w1 ⟨rfl,b1⟩;have B1:=O b1;clear b1;go_wp2_with fail;refine(K2.o _ B1.o).mono ?_;rintro e w2 ⟨rfl,b2⟩;have B2:=bh B1 b2;clear b2 B1;go_wp2_with fail;go_ret2;exact⟨by rw [HV.o,HE.o,HX.o];rfl,B2.o⟩
 ·have hE:kH P Q=zc P:=jt h1 _;have HV:=O (show lQ P Q=false by unfold lQ;rw [hE,decide_eq_false h1];rfl);rw [zn h1] at K1;have HX:=O (zn h1);have HE:=O hE;clear h k h1 hE;go_enter Tryz.func109,Tryz.ntmps109;go_wp2_with fail;refine(K1.o _ (Below.refl _ _)).mono ?_;rintro e w1 ⟨rfl,b1⟩;go_wp2_with fail;go_ret2;exact⟨by rw [HV.o,HE.o,HX.o];rfl,b1⟩
theorem Hr(A B:Option Addr)(n m c d:Nat)(P Q:List Nd)(w:World)(h:Ns w A n c P)(k:Ns w B m d Q):
 Calls Tryz.prog 110 #[.slice A n c,.slice B m d] w λe w'=>e = .returned (.tuple #[.bool (sd P Q),jr (jT P Q)])/\Below w.heap.size w w':=by
 have C:=O (uZ A B n m c d P Q w h k);unfold aS at C;have II:∀(fn:Fn) (first cap:Array Value) (w:World),(Instr.makeFunc fn first cap).run Tryz.prog w = .ok (.func fn first cap) w:=λ_ _ _ _=>rfl;clear h k;by_cases h0:jT P Q=0
 ·have HE:=O h0;have HV:=O (show sd P Q=decide (((zq Q).filter λx=>gB (zq P) x).length=(zq Q).length) by unfold sd;rw [h0];simp);obtain⟨h1,h2,h5,h6⟩:=gR.1 h0;have L1:=O (bM h1 h5);have L2:=O (bM h2 h6);rw [h0,zk] at C;clear h0 h1 h2 h5 h6;go_enter Tryz.func110,Tryz.ntmps110;go_wp2_with fail;refine(C.o).mono ?_;rintro e w1 ⟨va,vb,Va,Vb,rfl,hA,hB,hL,-,-,b1⟩;obtain⟨e1,e2⟩:=hL (by first|trivial|rfl);obtain⟨A1,c1,rfl,hS1⟩:=kh hA;obtain⟨A2,c2,rfl,Jl⟩:=kh hB;have ql:Va.length<=200:=by have:=congrArg List.length e1;have:=L1.o;simp only [List.length_map] at *;omega
  have hl2:Vb.length<=200:=by have:=congrArg List.length e2;have:=L2.o;simp only [List.length_map] at *;omega
  have KK:=O (E' A2 Vb.length c2 Vb (λx=>gB (zq P) x) A1 Va.length c1 w1 rfl (by omega) Jl
   (O λr w' hb hr=>by rw [<-e1];exact qU A1 r.A Va.length r.n c1 r.c Va r.P w' rfl (by unfold maxLen;omega) (hS1.keep hb) hr))
  have E2:=O e2;have B1:=O b1;clear hA hB hL hS1 Jl e1 e2 b1;go_wp2_with fail;refine KK.o.mono ?_;rintro e w2 ⟨v,rfl,hO,b2⟩;have B2:=bh B1 b2;obtain⟨A3,c3,rfl,-⟩:=kh hO;have HLL:=O (nV Vb (λx=>gB (zq P) x));have HLB:=O (show Vb.length=(zq Q).length by have:=congrArg List.length E2.o;simpa using this);have lB:=O (show(((Vb.filter λr=>gB (zq P) r.P).length:Int)==(Vb.length:Int))=sd P Q by
   rw [HV.o,<-E2.o,<-HLL.o,List.length_map,Bool.eq_iff_iff,beq_iff_eq,decide_eq_true_iff];omega)
  clear hO b2 B1;go_wp2_with fail;go_ret2;exact⟨by rw [<-lB.o,HE.o];rfl,B2.o⟩
 ·have HE:=O (zn h0);have HV:=O (show sd P Q=false by unfold sd;rw [decide_eq_false h0];rfl);rw [zn h0] at C;clear h0;go_enter Tryz.func110,Tryz.ntmps110;go_wp2_with fail;refine(C.o).mono ?_;rintro e w1 ⟨va,vb,Va,Vb,rfl,hA,hB,hL,-,-,b1⟩;go_wp2_with fail;go_ret2;exact⟨by rw [HV.o,HE.o];rfl,b1⟩
theorem Hx(A B:Option Addr)(n m c d:Nat)(P Q:List Nd)(w:World)(h:Ns w A n c P)(k:Ns w B m d Q):
 Calls Tryz.prog 111 #[.slice A n c,.slice B m d] w λe w'=>e = .returned (.tuple #[.bool (uR P Q),jr (jT P Q)])/\Below w.heap.size w w':=by
 have C:=O (uZ A B n m c d P Q w h k);unfold aS at C;have II:∀(fn:Fn) (first cap:Array Value) (w:World),(Instr.makeFunc fn first cap).run Tryz.prog w = .ok (.func fn first cap) w:=λ_ _ _ _=>rfl;clear h k;by_cases h0:jT P Q=0
 ·have HE:=O h0;have HV:=O (show uR P Q=(zq Q).any λx=>gB (zq P) x by unfold uR;rw [h0];simp);obtain⟨h1,h2,h5,h6⟩:=gR.1 h0;have L1:=O (bM h1 h5);have L2:=O (bM h2 h6);rw [h0,zk] at C;clear h0 h1 h2 h5 h6;go_enter Tryz.func111,Tryz.ntmps111;go_wp2_with fail;refine(C.o).mono ?_;rintro e w1 ⟨va,vb,Va,Vb,rfl,hA,hB,hL,-,-,b1⟩;obtain⟨e1,e2⟩:=hL (by first|trivial|rfl);obtain⟨A1,c1,rfl,hS1⟩:=kh hA;obtain⟨A2,c2,rfl,Jl⟩:=kh hB;have ql:Va.length<=200:=by have:=congrArg List.length e1;have:=L1.o;simp only [List.length_map] at *;omega
  have hl2:Vb.length<=200:=by have:=congrArg List.length e2;have:=L2.o;simp only [List.length_map] at *;omega
  have KK:=O (sG A2 Vb.length c2 Vb (λx=>gB (zq P) x) A1 Va.length c1 w1 rfl (by unfold maxLen;omega) Jl
   (O λr w' hb hr=>by rw [<-e1];exact qU A1 r.A Va.length r.n c1 r.c Va r.P w' rfl (by unfold maxLen;omega) (hS1.keep hb) hr))
  have E2:=O e2;have B1:=O b1;have NR:=O (show(Vb.any λr=>gB (zq P) r.P)=(zq Q).any λx=>gB (zq P) x by rw [<-e2,List.any_map];rfl);clear hA hB hL hS1 Jl e1 e2 b1;go_wp2_with fail;refine KK.o.mono ?_;rintro e w2 ⟨rfl,b2⟩;have B2:=bh B1 b2;clear b2 B1;go_wp2_with fail;go_ret2;exact⟨by rw [HV.o,HE.o,<-NR.o];rfl,B2.o⟩
 ·have HE:=O (zn h0);have HV:=O (show uR P Q=false by unfold uR;rw [decide_eq_false h0];rfl);rw [zn h0] at C;clear h0;go_enter Tryz.func111,Tryz.ntmps111;go_wp2_with fail;refine(C.o).mono ?_;rintro e w1 ⟨va,vb,Va,Vb,rfl,hA,hB,hL,-,-,b1⟩;go_wp2_with fail;go_ret2;exact⟨by rw [HV.o,HE.o];rfl,b1⟩
end Go.Proofs.YtokiogmfgpidmaaGreatDoor
namespace Go.Proofs.YtokiogmfgpidmaaGreatDoor
open Go.RowKit Go.Wk
def aW:Option UInt8->Int
 | none=>0
 | some b=>b.toNat
def ez(w:World)(A:Option Addr)(P:List (Option UInt8)):Prop :=
 ∀(k:Nat) (x:Option UInt8),P[k]?=some x->∃a,A=some a/\w.cell? (a.add (k*2))=some (.int .u8 (aW x))/\
  w.cell? ⟨(a.add (k*2)).block,(a.add (k*2)).off+1,none⟩=some (.bool x.isNone)
theorem ez.keep{w w':World}{A:Option Addr}{P:List (Option UInt8)}(h:ez w A P)(hb:Below w.heap.size w w'):ez w' A P :=
 λk x hx=>let ⟨a,h1,h2,h3⟩:=h k x hx;⟨a,h1,za hb h2,za hb h3⟩
theorem Ho{m n a b c d e f g h:Nat}(hm:left m n a b c d<left m n e f g h){a' b' c' d' e' f' g' h':Nat}(h1:a'=a)(h2:b'=b)(h3:c'=c)(h4:d'=d)(h5:e'=e)(h6:f'=f)(h7:g'=g)(h8:h'=h):
 left m n a' b' c' d'<left m n e' f' g' h':=by subst h1 h2 h3 h4 h5 h6 h7 h8;exact hm
theorem ii(w:World)(n:Nat):Below w.heap.size w (w.drewN n):=(Below.refl _ _).drewN n
theorem wH(A:Option Addr)(n c:Nat)(P:List (Option UInt8))(s:ByteArray)(w:World)(hn:n=P.length)(hl:n<=maxLen)(hs:s.size<=maxLen)(hP:ez w A P):
 Calls Tryz.prog 140 #[.slice A n c,.string s] w λe w'=>e = .returned (.bool (jn P s.data.toList))/\Below w.heap.size w w':=by
 unfold maxLen at hl hs;have HP:=O hP;have HN:=O hn;have HS:=O (show s.data.toList.length=s.size from Array.length_toList);clear hP hn;go_enter Tryz.func140,Tryz.ntmps140;go_wp2;go_loopw [4,5,6,7,8] (λr i j st fr wr=>∃ki kj ks kf:Nat,r = .bool false/\i = .int .i64 ki/\j = .int .i64 kj/\st = .int .i64 ((ks:Int)-1)/\fr = .int .i64 kf/\ki<=n/\kj<=s.size/\ks<=n/\kf<=s.size/\
  Hid (ef P s.data.toList ki kj ks kf)/\Hid (∃z,wr=w.drewN z)) (λ_ i j st fr _=>left n s.size (intOf i).toNat (intOf j).toNat (intOf st+1).toNat (intOf fr).toNat)
 case atStart=>exact⟨0,0,0,0,rfl,rfl,rfl,rfl,rfl,by omega,by omega,by omega,by omega,ef.start _ _,0,rfl⟩
 case round =>
  obtain⟨i,j,st,fr,rfl,rfl,rfl,rfl,rfl,hi,hj,hst,NG,hS,hw⟩:=hrel;obtain⟨z,rfl⟩:=hw.o;clear hw;by_cases hlt:j<s.size
  ·by_cases hip:i<n
   ·have vP:i<P.length:=by rw [<-HN.o];exact hip
    obtain⟨a,rfl,q1,q2⟩:=HP.o i P[i] (List.getElem?_eq_getElem vP);rcases hx:P[i] with _|b
    ·have HX:=O hx;rw [hx] at q1 q2;simp only [Option.isNone_none,aW] at q1 q2;clear hx;have HS':=O (hS.o.star vP HX.o);have hm:=O (Bd (m:=n) (n:=s.size) (i:=i) (j:=j) (star:=st) (frm:=fr) hip (by
      by_cases h0:st=0
      ·omega
      ·exact(hS.o.some_ (by omega)).1) (by
      by_cases h0:st=0
      ·rw [(hS.o.none_ h0).2];omega
      ·exact(hS.o.some_ (by omega)).2.1) hj)
     go_wp2;exact⟨⟨i+1,j,i+1,j,rfl,by go_num,rfl,by go_num,rfl,by omega,by omega,by omega,by omega,HS',_,rfl⟩,Ho hm.o (by simp only [intOf];omega) (by simp only [intOf];omega) (by simp only [intOf];omega) (by simp only [intOf];omega) (by simp only [intOf];omega) (by simp only [intOf];omega) (by simp only [intOf];omega) (by simp only [intOf];omega)⟩
    ·have HX:=O hx;rw [hx] at q1 q2;simp only [Option.isNone_some,aW] at q1 q2;clear hx;have IX:j<s.data.toList.length:=by rw [HS.o];exact hlt
     by_cases hb:b=s[j]
     ·have HS':=O (hS.o.byte vP IX (by rw [HX.o,hb];rfl));have hm:=O (AH (m:=n) (n:=s.size) (i:=i) (j:=j) (star:=st) (frm:=fr) hlt);rw [hb] at q1;clear hb;go_wp2;go_quiet (fail);go_wp2;exact⟨⟨i+1,j+1,st,fr,rfl,by go_num,by go_num,rfl,rfl,by omega,by omega,by omega,by omega,HS',_,rfl⟩,Ho hm.o (by simp only [intOf];omega) (by simp only [intOf];omega) (by simp only [intOf];omega) (by simp only [intOf];omega) (by simp only [intOf];omega) (by simp only [intOf];omega) (by simp only [intOf];omega) (by simp only [intOf];omega)⟩
     ·have hb2:((b.toNat:Int)==(s[j].toNat:Int))=false:=by
       rw [beq_eq_false_iff_ne];intro q;exact hb (UInt8.toNat_inj.1 (by omega))
      have HM:=O (show AG P s.data.toList i j from⟨IX,.inr ⟨b,s[j],by rw [List.getElem?_eq_getElem vP,HX.o],List.getElem?_eq_getElem IX,hb⟩⟩);clear hb;by_cases h0:st=0
      ·have HF:=O (hS.o.fail h0 HM.o);subst h0;go_wp2;go_quiet (fail);go_wp2;go_ret;exact⟨by rw [HF.o];rfl,ii _ _⟩
      ·have hs1:0<st:=by omega
       have HS':=O (hS.o.again hs1 HM.o);have KZ:=(hS.o.some_ hs1).2.1;have hm:=O (mW (m:=n) (n:=s.size) (i:=i) (j:=j) (star:=st) (frm:=fr) KZ hlt);clear h0;have hs2:0<=(st:Int)-1:=by omega
       go_wp2;go_quiet (fail);go_wp2;exact⟨⟨st,fr+1,st,fr+1,rfl,by go_num,by go_num,rfl,by go_num,by omega,by omega,by omega,by omega,HS',_,rfl⟩,Ho hm.o (by simp only [intOf];omega) (by simp only [intOf];omega) (by simp only [intOf];omega) (by simp only [intOf];omega) (by simp only [intOf];omega) (by simp only [intOf];omega) (by simp only [intOf];omega) (by simp only [intOf];omega)⟩
   ·have IX:j<s.data.toList.length:=by rw [HS.o];exact hlt
    have HM:=O (show AG P s.data.toList i j from⟨IX,.inl (by rw [<-HN.o];omega)⟩);by_cases h0:st=0
    ·have HF:=O (hS.o.fail h0 HM.o);subst h0;go_wp2;go_quiet (fail);go_wp2;go_ret;exact⟨by rw [HF.o];rfl,ii _ _⟩
    ·have hs1:0<st:=by omega
     have HS':=O (hS.o.again hs1 HM.o);have KZ:=(hS.o.some_ hs1).2.1;have hm:=O (mW (m:=n) (n:=s.size) (i:=i) (j:=j) (star:=st) (frm:=fr) KZ hlt);clear h0;have hs2:0<=(st:Int)-1:=by omega
     go_wp2;go_quiet (fail);go_wp2;exact⟨⟨st,fr+1,st,fr+1,rfl,by go_num,by go_num,rfl,by go_num,by omega,by omega,by omega,by omega,HS',_,rfl⟩,Ho hm.o (by simp only [intOf];omega) (by simp only [intOf];omega) (by simp only [intOf];omega) (by simp only [intOf];omega) (by simp only [intOf];omega) (by simp only [intOf];omega) (by simp only [intOf];omega) (by simp only [intOf];omega)⟩
  ·have HD:=O (hS.o.done (by rw [HS.o];omega));clear hS;go_wp2;go_loop [5] (λi'=>∃ki:Nat,i' = .int .i64 ki/\ki<=n/\Hid (jn (P.drop i) []=jn (P.drop ki) [])) (λi'=>n-(intOf i').toNat)
   case atStart=>exact⟨i,rfl,hi,rfl⟩
   case round =>
    obtain⟨ki,rfl,Nn,hE⟩:=hrel;by_cases hip:ki<n
    ·have vP:ki<P.length:=by rw [<-HN.o];exact hip
     obtain⟨a,rfl,q1,q2⟩:=HP.o ki P[ki] (List.getElem?_eq_getElem vP);rcases hx:P[ki] with _|b
     ·have HE:=O (hE.o.trans (od vP hx));rw [hx] at q2;simp only [Option.isNone_none] at q2;clear hx hE q1;go_wp2;go_round
      case rel=>exact⟨ki+1,by go_num,by omega,HE⟩
      case measure=>simp [intOf];omega
     ·have HE:=O (HD.o.trans (hE.o.trans (mB vP hx)));rw [hx] at q2;simp only [Option.isNone_some] at q2;clear hx hE q1;have hne:((ki:Int)==(n:Int))=false:=by rw [beq_eq_false_iff_ne];omega
      go_wp2;go_ret;exact⟨by rw [HE.o];rfl,ii _ _⟩
    ·have HE:=O (HD.o.trans (hE.o.trans (oQ (by rw [<-HN.o];omega))));obtain rfl:ki=n:=by omega
     clear hE;go_wp2;go_ret;exact⟨by rw [HE.o];simp,ii _ _⟩
def jl:List (Option UInt8)->List Value
 | [] => []
 | x :: r => .int .u8 (aW x):: .bool x.isNone :: jl r
theorem kL(P Q:List (Option UInt8)):jl (P ++ Q)=jl P ++ jl Q:=by
 induction P with
 | nil=>rfl
 | cons x P ih=>simp [jl,ih]
theorem qH(P:List (Option UInt8))(k:Nat)(x:Option UInt8)(h:P[k]?=some x):(jl P)[k*2]?=some (.int .u8 (aW x))/\(jl P)[k*2+1]?=some (.bool x.isNone):=by
 induction P generalizing k with
 | nil=>simp at h
 | cons y P ih =>
  cases k with
  | zero=>simp only [List.getElem?_cons_zero,Option.some.injEq] at h;subst h;exact⟨rfl,rfl⟩
  | succ k =>
   have:=ih k (by simpa using h)
   rw [show(k+1)*2=k*2+1+1 by omega]
   simp only [jl,List.getElem?_cons_succ]
   exact this
theorem y5(g k:Nat):(⟨g,0,none⟩:Addr).add k=⟨g,k,none⟩:=by
 unfold Addr.add;split
 ·rename_i h0;subst h0;rfl
 ·simp
theorem iT{w:World}{B:Nat}{v:Value}{P:List (Option UInt8)}(h:w.ownsRow B 250 2 v P.length (jl P)):∃A c,v = .slice A P.length c/\ez w A P:=by
 rcases h.2 with ⟨rfl,h0⟩|⟨g,cap,cur,rfl,_⟩
 ·have:P = []:=List.eq_nil_of_length_eq_zero h0;subst this;exact⟨none,0,rfl,λk x hx=>by simp at hx⟩
 ·refine⟨some ⟨g,0,none⟩,cap,rfl,λk x hx=>?_⟩;have hk:k<P.length:=(List.getElem?_eq_some_iff.1 hx).1;obtain⟨e1,e2⟩:=qH P k x hx;have c1:=h.cells (g:=g) rfl _ _ e1;have c2:=h.cells (g:=g) rfl _ _ e2;refine⟨_,rfl,c1,?_⟩;have e:(⟨((⟨g,0,none⟩:Addr).add (k*2)).block,((⟨g,0,none⟩:Addr).add (k*2)).off+1,none⟩:Addr)=(⟨g,0,none⟩:Addr).add (k*2+1):=by
   rw [y5,y5]
  rw [e];exact c2
theorem Fx:(Tryz.prog.info? 250).map (λi=>(i.zero,i.size,i.bytes))=some (some (.agg #[.int .u8 0,.bool false]),2,2):=by kernel_rfl
theorem fC{w1:World}{B:Nat}{v':Value}{P:List (Option UInt8)}{x:Option UInt8}(h:w1.ownsRow B 250 2 v' (P.length+1) (jl P ++ [.int .u8 (aW x),.bool x.isNone])):
 w1.ownsRow B 250 2 v' (P ++ [x]).length (jl (P ++ [x])):=by
 rw [kL,List.length_append];exact h
theorem fq(x:Int)(b:Bool):∀u∈ [Value.int .u8 x,.bool b],u.oneCell'=true:=by
 intro u hu;simp only [List.mem_cons,List.not_mem_nil,or_false] at hu;rcases hu with rfl|rfl <;> rfl
theorem l5{s:ByteArray}{k:Nat}(h:k<s.size){b:UInt8}(q:(s[k].toNat:Int)=b.toNat):s.data.toList[k]'(by simpa using h)=b :=
 UInt8.toNat_inj.1 (show s[k].toNat=b.toNat by omega)
theorem rP{s:ByteArray}{k:Nat}(h:k<s.size){b:UInt8}(q:s.data.toList[k]'(by simpa using h)=b):(s[k].toNat:Int)=b.toNat:=by
 have:s[k]=b:=q;rw [this]
theorem xK(s:ByteArray)(w:World)(hs:s.size<=60):
 Calls Tryz.prog 141 #[.string s] w λe w'=>∃A c,e = .returned (.slice A (j5 s.data.toList).length c)/\w'.ownsRow w.heap.size 250 2 (.slice A (j5 s.data.toList).length c) (j5 s.data.toList).length (jl (j5 s.data.toList))/\Below w.heap.size w w':=by
 have HS:=O (show s.data.toList.length=s.size from Array.length_toList);obtain⟨i0,hi,hz0,hz1,hz2⟩:=info_parts Fx;go_enter Tryz.func141,Tryz.ntmps141;go_wp2;go_loopw [3,4] (λv i wr=>∃(k:Nat) (Q:List (Option UInt8)),i = .int .i64 k/\k<=s.size/\Q.length<=k/\Hid (j5 s.data.toList=Q ++ j5 (s.data.toList.drop k))/\Hid (wr.ownsRow w.heap.size 250 2 v Q.length (jl Q))/\Hid (Below w.heap.size w wr)) (λ_ i _=>s.size-(intOf i).toNat)
 case atStart=>exact⟨0,[],rfl,Nat.zero_le _,Nat.le_refl _,rfl,⟨rfl,.inl ⟨rfl,rfl⟩⟩,Below.refl _ _⟩
 case round =>
  obtain⟨k,Q,rfl,hk,hq,hE,hown,hb⟩:=hrel;by_cases hlt:k<s.size
  ·have aR:k<s.data.toList.length:=by rw [HS.o];exact hlt
   by_cases h42:(s[k].toNat:Int)=42
   ·have HE:=O (hE.o.trans (congrArg (Q ++ ·) (wV aR (l5 hlt h42))));clear hE;go_wp2_with (at_builtin;refine wpList_append_own _ rfl _ _ 204 rfl w.heap.size 250 i0 _ 2 2 Tryz.underlying204 hi hz0 hz1 hz2 rfl (by decide) _ Q.length (jl Q) rfl (hown.o.alloc _) ⟨_,0,none⟩ 1 1 [.int .u8 (aW (none:Option UInt8)),.bool (none:Option UInt8).isNone] rfl rfl (aA _ _ _) (fq _ _) (by unfold maxLen;omega) (by omega) ?c5 ?_)
    case c5=>have:=hb.o.size;simp;omega
    intro v1 w1 hown1 hgrow1 _;have B1:=O (bU hb.o (Nat.le_refl _) hown.o _ hgrow1);have O1:=O (fC (x:=none) hown1);clear hown hb hown1 hgrow1;go_wp2;go_roundw
    case rel=>exact⟨k+1,Q ++ [none],by go_num,by omega,by simp;omega,by rw [Hid,List.append_assoc];exact HE.o,O1,B1⟩
    case measure=>simp [intOf];omega
   ·have h42':((s[k].toNat:Int)==42)=false:=beq_eq_false_iff_ne.2 h42;by_cases gZ:(s[k].toNat:Int)=92/\∃h1:k+1<s.size,(s[k+1].toNat:Int)=42
    ·obtain⟨gZ,h1,hs1⟩:=gZ;have HE:=O (hE.o.trans (congrArg (Q ++ ·) (Ck (by rw [HS.o];exact h1) (l5 hlt gZ) (l5 h1 hs1))));clear hE h42;go_wp2_with (at_builtin;refine wpList_append_own _ rfl _ _ 204 rfl w.heap.size 250 i0 _ 2 2 Tryz.underlying204 hi hz0 hz1 hz2 rfl (by decide) _ Q.length (jl Q) rfl (hown.o.alloc _) ⟨_,0,none⟩ 1 1 [.int .u8 (aW (some (42:UInt8))),.bool (some (42:UInt8)).isNone] rfl rfl (aA _ _ _) (fq _ _) (by unfold maxLen;omega) (by omega) ?c5 ?_)
     case c5=>have:=hb.o.size;simp;omega
     intro v1 w1 hown1 hgrow1 _;have B1:=O (bU hb.o (Nat.le_refl _) hown.o _ hgrow1);have O1:=O (fC (x:=(some 42)) hown1);clear hown hb hown1 hgrow1;go_wp2;go_roundw
     case rel=>exact⟨k+2,Q ++ [(some 42)],by go_num,by omega,by simp;omega,by rw [Hid,List.append_assoc];exact HE.o,O1,B1⟩
     case measure=>simp [intOf];omega
    ·have hx:s.data.toList[k]=s[k]:=rfl;have HE:=O (hE.o.trans (congrArg (Q ++ ·) (xi aR (λq=>h42 (rP hlt q)) (λq=>gZ ⟨rP hlt q.1,by rw [<-HS.o];exact q.2.1,rP _ q.2.2⟩))));rw [hx] at HE;clear hE h42 hx;by_cases c1:(s[k].toNat:Int)=92
     ·rw [show s[k]=92 from l5 hlt c1] at HE;by_cases c2:k+1<s.size
      ·have c3:((s[k+1].toNat:Int)==42)=false:=beq_eq_false_iff_ne.2 (λq=>gZ ⟨c1,c2,q⟩);clear gZ;go_wp2_with (at_builtin;refine wpList_append_own _ rfl _ _ 204 rfl w.heap.size 250 i0 _ 2 2 Tryz.underlying204 hi hz0 hz1 hz2 rfl (by decide) _ Q.length (jl Q) rfl (hown.o.alloc _) ⟨_,0,none⟩ 1 1 [.int .u8 (aW (some (92:UInt8))),.bool (some (92:UInt8)).isNone] rfl rfl (aA _ _ _) (fq _ _) (by unfold maxLen;omega) (by omega) ?c5 ?_)
       case c5=>have:=hb.o.size;simp;omega
       intro v1 w1 hown1 hgrow1 _;have B1:=O (bU hb.o (Nat.le_refl _) hown.o _ hgrow1);have O1:=O (fC (x:=(some (92:UInt8))) hown1);clear hown hb hown1 hgrow1;go_wp2;go_roundw
       case rel=>exact⟨k+1,Q ++ [(some (92:UInt8))],by go_num,by omega,by simp;omega,by rw [Hid,List.append_assoc];exact HE.o,O1,B1⟩
       case measure=>simp [intOf];omega
      ·clear gZ;go_wp2_with (at_builtin;refine wpList_append_own _ rfl _ _ 204 rfl w.heap.size 250 i0 _ 2 2 Tryz.underlying204 hi hz0 hz1 hz2 rfl (by decide) _ Q.length (jl Q) rfl (hown.o.alloc _) ⟨_,0,none⟩ 1 1 [.int .u8 (aW (some (92:UInt8))),.bool (some (92:UInt8)).isNone] rfl rfl (aA _ _ _) (fq _ _) (by unfold maxLen;omega) (by omega) ?c5 ?_)
       case c5=>have:=hb.o.size;simp;omega
       intro v1 w1 hown1 hgrow1 _;have B1:=O (bU hb.o (Nat.le_refl _) hown.o _ hgrow1);have O1:=O (fC (x:=(some (92:UInt8))) hown1);clear hown hb hown1 hgrow1;go_wp2;go_roundw
       case rel=>exact⟨k+1,Q ++ [(some (92:UInt8))],by go_num,by omega,by simp;omega,by rw [Hid,List.append_assoc];exact HE.o,O1,B1⟩
       case measure=>simp [intOf];omega
     ·have c1':((s[k].toNat:Int)==92)=false:=beq_eq_false_iff_ne.2 c1;clear gZ c1;go_wp2_with (at_builtin;refine wpList_append_own _ rfl _ _ 204 rfl w.heap.size 250 i0 _ 2 2 Tryz.underlying204 hi hz0 hz1 hz2 rfl (by decide) _ Q.length (jl Q) rfl (hown.o.alloc _) ⟨_,0,none⟩ 1 1 [.int .u8 (aW (some s[k])),.bool (some s[k]).isNone] rfl rfl (aA _ _ _) (fq _ _) (by unfold maxLen;omega) (by omega) ?c5 ?_)
      case c5=>have:=hb.o.size;simp;omega
      intro v1 w1 hown1 hgrow1 _;have B1:=O (bU hb.o (Nat.le_refl _) hown.o _ hgrow1);have O1:=O (fC (x:=(some s[k])) hown1);clear hown hb hown1 hgrow1;go_wp2;go_roundw
      case rel=>exact⟨k+1,Q ++ [(some s[k])],by go_num,by omega,by simp;omega,by rw [Hid,List.append_assoc];exact HE.o,O1,B1⟩
      case measure=>simp [intOf];omega
  ·have HE:=O (show j5 s.data.toList=Q by rw [hE.o,AX (by rw [HS.o];omega),List.append_nil]);obtain⟨A,c,hv,-⟩:=iT hown.o;subst hv;have HV:=O hown.o;clear hE hown;go_wp2;go_ret;exact⟨A,c,by rw [HE.o];rfl,by rw [HE.o];exact HV.o,hb.o⟩
theorem nT{s:ByteArray}(h:zo s=0):s.size<=60:=by
 by_cases h1:60<s.size
 ·unfold zo at h;rw [if_pos h1] at h;cases h
 ·omega
theorem Cs{w:World}{B n c:Nat}{A:Option Addr}{P:List (Option UInt8)}(h:w.ownsRow B 250 2 (.slice A n c) P.length (jl P)):n=P.length/\ez w A P:=by
 obtain⟨A',c',e,q⟩:=iT h;injection e with e1 e2 e3;subst e1 e2 e3;exact⟨rfl,q⟩
theorem Bq(s:ByteArray)(w:World)(hs:s.size<=60):
 Calls Tryz.prog 141 #[.string s] w λe w'=>∃A c,e = .returned (.slice A (j5 s.data.toList).length c)/\ez w' A (j5 s.data.toList)/\Below w.heap.size w w' :=
 (xK s w hs).mono λ_ _ ⟨A,c,q1,q2,q3⟩=>⟨A,c,q1,(Cs q2).2,q3⟩
def dM(p s:ByteArray):Int:=if zo p=0 then zo s else zo p
def gi(p s:ByteArray):Bool:=decide (dM p s=0)&& jn (j5 p.data.toList) s.data.toList
theorem ww(p s:ByteArray)(w:World)(hp:p.size<=maxLen)(hs:s.size<=maxLen):
 Calls Tryz.prog 103 #[.string p,.string s] w λe w'=>e = .returned (.tuple #[.bool (gi p s),jr (dM p s)])/\Below w.heap.size w w':=by
 have P1:=O (λw=>cm p w hp);have P2:=O (λw=>cm s w hs);by_cases h1:zo p=0
 ·have z:=nT h1;rw [h1] at P1;have R:=O (λw=>Bq p w z);have hE:=O (show dM p s=zo s by unfold dM;rw [if_pos h1]);by_cases h2:zo s=0
  ·rw [h2] at P2;have hV:=O (show gi p s=jn (j5 p.data.toList) s.data.toList by unfold gi;rw [hE.o,h2];simp);have hE:=O (hE.o.trans h2);clear h1 h2;go_enter Tryz.func103,Tryz.ntmps103;go_wp2_with fail;refine(P1.o _).mono ?_;rintro e w1 ⟨rfl,hb1⟩;rw [zk];go_wp2_with fail;refine(P2.o _).mono ?_;rintro e w2 ⟨rfl,hb2⟩;rw [zk];go_wp2_with fail;refine(R.o _).mono ?_;rintro e w3 ⟨A,c,rfl,LR,hb3⟩;have hl:(j5 p.data.toList).length<=maxLen:=by
    have:=qA p.data.toList;rw [show p.data.toList.length=p.size from Array.length_toList] at this;unfold maxLen;omega
   have M:=O (wH A _ c _ s w3 rfl hl hs LR);clear LR hl;go_wp2_with fail;refine M.o.mono ?_;rintro e w4 ⟨rfl,hb4⟩;go_wp2;go_ret2;exact⟨by rw [hV.o,hE.o];rfl,hb1.trans ((hb2.trans ((hb3.trans (hb4.mono hb3.size)).mono hb2.size)).mono hb1.size)⟩
  ·have hV:=O (show gi p s=false by unfold gi;rw [hE.o];simp [h2]);rw [zn h2] at P2;rw [hE.o,zn h2];clear h1 h2;go_enter Tryz.func103,Tryz.ntmps103;go_wp2_with fail;refine(P1.o _).mono ?_;rintro e w1 ⟨rfl,hb1⟩;rw [zk];go_wp2_with fail;refine(P2.o _).mono ?_;rintro e w2 ⟨rfl,hb2⟩;go_wp2;go_ret2;exact⟨by rw [hV.o];rfl,hb1.trans (hb2.mono hb1.size)⟩
 ·have hE:=O (show dM p s=zo p by unfold dM;rw [if_neg h1]);have hV:=O (show gi p s=false by unfold gi;rw [hE.o];simp [h1]);rw [zn h1] at P1;rw [hE.o,zn h1];clear h1;go_enter Tryz.func103,Tryz.ntmps103;go_wp2_with fail;refine(P1.o _).mono ?_;rintro e w1 ⟨rfl,hb1⟩;go_wp2;go_ret2;exact⟨by rw [hV.o];rfl,hb1⟩
structure Env where
 E:List En
 who:Ud
 act:Ud
 what:Ud
 ctx:List Nd
abbrev Res:=Except Int (List Nd)
def hdN(V:List Nd):Nd:=V.headD ⟨0,0,emp,emp⟩
def zK(b:Bool):List Nd := [⟨1,if b then 1 else 0,emp,emp⟩]
def vK(u:Ud):List Nd := [⟨4,0,u.1,u.2⟩]
def fc(k:Int):List Nd := [⟨2,k,emp,emp⟩]
def jX(V:List Nd):Ud:=((hdN V).s,(hdN V).t)
def db:ByteArray:=⟨#[112,114,105,110,99,105,112,97,108]⟩
def fO:ByteArray:=⟨#[97,99,116,105,111,110]⟩
def cd:ByteArray:=⟨#[114,101,115,111,117,114,99,101]⟩
def cE:ByteArray:=⟨#[99,111,110,116,101,120,116]⟩
def jP(e:Int)(b:Bool):Res:=if e=0 then .ok (zK b) else .error e
def je(e:Int)(V:List Nd):Res:=if e=0 then .ok V else .error e
def aK(σ:Env)(s:ByteArray):Res :=
 if s=db then .ok (vK σ.who) else if s=fO then .ok (vK σ.act) else if s=cd then .ok (vK σ.what) else if s=cE then .ok σ.ctx else .error 3
def bS(E:List En)(V:List Nd):Except Int (Option (List Nd)):=
 if zf V=6 then .ok (some V) else if zf V=4 then .ok ((E.find? λx=>decide (x.u=jX V)).map En.P) else .error 2
def jY(B:List Nd):List (List Nd):=if zf B=5 then zq B else [B]
noncomputable def inX(E:List En)(A B:List Nd):Res :=
 if zf A=4/\(jY B).all (λt=>decide (zf t=4)) then .ok (zK ((jY B).any λt=>inB E (jX A) (jX t))) else .error 2
def ar(E:List En)(n:Nd)(V:List Nd):Res :=
 if n.op=9 then(if zf V=1 then .ok (zK (decide ((hdN V).n=0))) else .error 2)
 else if n.op=10 then(if zf V=2 then je (cM 18 0 (hdN V).n) (fc (dn 18 0 (hdN V).n)) else .error 2)
 else if n.op=23 then(if zf V=3 then jP (dM n.s (hdN V).s) (gi n.s (hdN V).s) else .error 2)
 else if n.op=24 then(if zf V=4 then .ok (zK (decide ((hdN V).s=n.s))) else .error 2)
 else match bS E V with
  | .error e => .error e
  | .ok none=>if n.op=21 then .ok (zK false) else .error 8
  | .ok (some r)=>if n.op=21 then .ok (zK (decide (cq r n.s=0))) else je (cq r n.s) (ga r n.s)
noncomputable def j7(E:List En)(op:Int)(A B:List Nd):Res :=
 if op=14 then .ok (zK (decide (zC A B=0)))
 else if op=20 then inX E A B
 else if op=25 then jP (kH A B) (lQ A B)
 else if op=26 then jP (jT A B) (sd A B)
 else if op=27 then jP (jT A B) (uR A B)
 else if zf A=2/\zf B=2 then
  (if op=15 then .ok (zK (decide ((hdN A).n<(hdN B).n))) else if op=16 then .ok (zK (decide ((hdN A).n<=(hdN B).n)))
   else je (cM op (hdN A).n (hdN B).n) (fc (dn op (hdN A).n (hdN B).n)))
 else .error 2
noncomputable def fh(E:List En)(n:Nd):List (List Nd)->Res
 | [V]=>ar E n V
 | [A,B]=>j7 E n.op A B
 | _ => .error 0
mutual
noncomputable def evX(σ:Env):Ex->Res
 | .node n ps =>
  if 1<=n.op/\n.op<=4 then .ok [n]
  else if n.op=8 then aK σ n.s
  else if n.op=11\/n.op=12 then zQ σ (decide (n.op=12)) ps
  else if n.op=13 then dE σ ps
  else if n.op=6 then(match evF σ ps with
   | .error e => .error e
   | .ok L=>je (aU (L.map Prod.fst) (L.map Prod.snd)) (dJ (L.map Prod.fst) (L.map Prod.snd)))
  else match evS σ ps with
   | .error e => .error e
   | .ok L=>if n.op=5 then je (setE L) (dH L) else fh σ.E n L
noncomputable def zQ(σ:Env)(o:Bool):Exs->Res
 | .nil => .error 0
 | .cons a r=>match evX σ a with
  | .error e => .error e
  | .ok V=>if zf V=1 then(if decide ((hdN V).n=1)=o then .ok V else jD σ r) else .error 2
noncomputable def jD(σ:Env):Exs->Res
 | .nil => .error 0
 | .cons b _=>match evX σ b with
  | .error e => .error e
  | .ok V=>if zf V=1 then .ok V else .error 2
noncomputable def dE(σ:Env):Exs->Res
 | .nil => .error 0
 | .cons c r=>match evX σ c with
  | .error e => .error e
  | .ok V=>if zf V=1 then(if(hdN V).n=1 then cC σ r else gm σ r) else .error 2
noncomputable def cC(σ:Env):Exs->Res
 | .nil => .error 0
 | .cons a _=>evX σ a
noncomputable def gm(σ:Env):Exs->Res
 | .nil => .error 0
 | .cons _ r=>cC σ r
noncomputable def evS(σ:Env):Exs->Except Int (List (List Nd))
 | .nil => .ok []
 | .cons x r=>match evX σ x with
  | .error e => .error e
  | .ok V=>match evS σ r with
   | .error e => .error e
   | .ok L => .ok (V :: L)
noncomputable def evF(σ:Env):Exs->Except Int (List (ByteArray × List Nd))
 | .nil => .ok []
 | .cons x r=>match cJ σ x with
  | .error e => .error e
  | .ok V=>match evF σ r with
   | .error e => .error e
   | .ok L => .ok ((x.head.s,V):: L)
noncomputable def cJ(σ:Env):Ex->Res
 | .node _ ps=>cC σ ps
end
end Go.Proofs.YtokiogmfgpidmaaGreatDoor
namespace Go.Proofs.YtokiogmfgpidmaaGreatDoor
open Go.RowKit Go.Wk Go.Maps
theorem lk{E:List En}:jw E=0↔E.length<=16/\jG [] E=0/\¬∃x∈E,Abv (bp E) x.u x.u:=by
 unfold jw;constructor
 ·intro h;split at h
  ·cases h
  ·rename_i h1;split at h
   ·rename_i h2;split at h
    ·cases h
    ·rename_i h3;exact⟨by omega,h2,h3⟩
   ·rename_i h2;exact absurd h h2
 ·rintro ⟨h1,h2,h3⟩;rw [if_neg (by omega),if_pos h2,if_neg h3]
theorem Bj{x:En}(h:dO x=0):zc x.P=0/\zf x.P=6:=by
 unfold dO at h;split at h
 ·cases h
 ·split at h
  ·split at h
   ·rename_i h1;split at h
    ·rename_i h2;exact⟨h1,h2⟩
    ·cases h
   ·rename_i h1;exact absurd h h1
  ·rename_i h1;exact absurd h h1
theorem y9{E M:List En}(h:jG M E=0){x:En}(hx:x∈E):zc x.P=0/\zf x.P=6:=Bj ((lX E M h).1 x hx).2
end Go.Proofs.YtokiogmfgpidmaaGreatDoor
