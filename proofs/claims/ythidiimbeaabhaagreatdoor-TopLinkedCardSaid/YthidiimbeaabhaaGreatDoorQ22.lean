/-
  Package bag: Has, All, Any. The contracts of like.match, like.read, like.Match. ..
-/
import Derived.Test.YthidiimbeaabhaaGreatDoorQ8
import Derived.Test.YthidiimbeaabhaaGreatDoorQ9
import Derived.Test.YthidiimbeaabhaaGreatDoorQ10
import Derived.Test.YthidiimbeaabhaaGreatDoorQ11
import Derived.Test.YthidiimbeaabhaaGreatDoorQ21
set_option maxRecDepth 100000
set_option maxHeartbeats 8000000
namespace Go.Wk
def kT(P Q:List Nd):Int:=or2 (zc P) (or2 (zc Q) (if zg P=5 then 0 else 2))
def lJ(P Q:List Nd):Bool:=decide (kT P Q=0)&& ie (zy P) Q
def qx(P Q:List Nd):Bool:=decide (jQ P Q=0)&& decide (((zy Q).filter λx=>ie (zy P) x).length=(zy Q).length)
def uq(P Q:List Nd):Bool:=decide (jQ P Q=0)&&(zy Q).any λx=>ie (zy P) x
theorem ye{L:List (List Nd)}(h:∀Q∈L,IsV Q):L.length<=L.flatten.length:=by
 induction L with
 | nil=>simp
 | cons Q L ih =>
  have:=(h Q (by simp)).pos
  have:=ih (λR hR=>h R (by simp [hR]))
  simp only [List.length_cons,List.flatten_cons,List.length_append]
  omega
theorem cu{P:List Nd}(h:zc P=0)(h5:zg P=5):(zy P).length<=200:=by
 obtain⟨hl,hV⟩:=zL.1 h;obtain⟨e,-,h3,-⟩:=rK hV h5;have:=congrArg List.length e;have:=ye h3;simp only [List.length_cons] at *;omega
theorem xZ{P Q:List Nd}:kT P Q=0↔zc P=0/\zc Q=0/\zg P=5:=by
 unfold kT or2;by_cases h1:zc P=0
 ·rw [if_pos h1];by_cases h2:zc Q=0
  ·rw [if_pos h2];by_cases h3:zg P=5
   ·rw [if_pos h3];exact⟨λ_=>⟨h1,h2,h3⟩,λ_=>rfl⟩
   ·rw [if_neg h3];exact⟨λh=>by omega,λh=>absurd h.2.2 h3⟩
  ·rw [if_neg h2];exact⟨λh=>absurd h h2,λh=>absurd h.2.1 h2⟩
 ·rw [if_neg h1];exact⟨λh=>absurd h h1,λh=>absurd h.1 h1⟩
end Go.Wk
namespace Go.Proofs.YthidiimbeaabhaaGreatDoor
open Go.RowKit Go.Wk Go.Sort
theorem kx{w:World}{B:Nat}{v:Value}{V:List Sl}(h:zK w B v V):∃A c,v = .slice A V.length c/\jD w A V :=
 let ⟨A,c,h1,_,h2⟩:=h.at;⟨A,c,h1,h2⟩
theorem mp(V:List Sl)(p:List Nd->Bool):(V.filter λr=>p r.P).length=((V.map Sl.P).filter p).length:=by
 rw [List.filter_map,List.length_map];rfl
theorem Fv(A B:Option Addr)(n m c d:Nat)(P Q:List Nd)(w:World)(h:Ns w A n c P)(k:Ns w B m d Q):
 Calls Tryz.prog 97 #[.slice A n c,.slice B m d] w λe w'=>e = .returned (.tuple #[.bool (lJ P Q),zM (kT P Q)])/\Below w.heap.size w w':=by
 have K1:=O (λw' hb=>zI (h.keep (w':=w') hb));have K2:=O (λw' hb=>zI (k.keep (w':=w') hb));by_cases h1:zc P=0
 ·by_cases h2:zc Q=0
  ·rw [h1,zf] at K1;rw [h2,zf] at K2;have eH:=(zL.1 h1).2.pos;obtain⟨a,rfl,D⟩:=h.at_.nd eH;rw [show a.add (0*4)=a from rfl] at D;have hn1:0<n:=by rw [h.len];exact eH
   have d0:=D.c0;rw [<-jx eH] at d0;by_cases h5:zg P=5
   ·have hE:kT P Q=0:=xZ.2 ⟨h1,h2,h5⟩;have HE:=O hE;have HV:=O (show lJ P Q=ie (zy P) Q by unfold lJ;rw [hE];simp);have AE:cy P=0:=by unfold cy;rw [if_pos h1,if_pos (.inl h5)]
    have P1:=O (show fV P=zy P by unfold fV;rw [if_pos AE,if_pos h5]);have T1:=O (λw' hb=>j5 _ n c P w' (h.keep (w':=w') hb));unfold bQ at T1;rw [AE,zf] at T1;have HK:=O k;have HL:=O (cu h1 h5);rw [h5] at d0;have D0:=O (λw' (hb:Below w.heap.size w w')=>zb hb d0);clear h k h1 h2 h5 hE AE eH D d0;go_enter Tryz.func97,Tryz.ntmps97;go_wp2_with fail;refine(K1.o _ (Below.refl _ _)).mono ?_;rintro e w1 ⟨rfl,b1⟩;have B1:=O b1;clear b1;go_wp2_with fail;refine(K2.o _ B1.o).mono ?_;rintro e w2 ⟨rfl,b2⟩;have B2:=bh B1 b2;have d2:=D0.o _ B2.o;clear b2 B1;go_wp2_with fail;refine(T1.o _ B2.o).mono ?_;rintro e w3 ⟨va,Va,rfl,hO,hL,hF,b3⟩;have B3:=bh B2 b3;obtain⟨A2,c2,rfl,hS⟩:=kx hO;have HS:=O hS;have rS:Va.length<=200:=by have:=congrArg List.length (hL.trans P1.o);have:=HL.o;simp only [List.length_map] at *;omega
    have HB:=O (rG A2 B Va.length m c2 d Va Q w3 rfl (by unfold maxLen;omega) hS (HK.o.keep B3.o));rw [hL.trans P1.o] at HB;clear hO hL hF b3 B2 d2 hS;go_wp2_with fail;refine(HB.o).mono ?_;rintro e w4 ⟨rfl,b4⟩;have B4:=bh B3 b4;clear b4 B3;go_wp2_with fail;go_ret2;exact⟨by rw [HV.o,HE.o];rfl,B4.o⟩
   ·have hE:kT P Q=2:=by unfold kT;rw [h1,h2,zn,zn,if_neg h5]
    have HE:=O hE;have HV:=O (show lJ P Q=false by unfold lJ;rw [hE];rfl);have g5:(zg P != 5)=true:=by rw [bne_iff_ne];exact h5
    have D0:=O (λw' (hb:Below w.heap.size w w')=>zb hb d0);clear h k h1 h2 h5 hE eH D d0;go_enter Tryz.func97,Tryz.ntmps97;go_wp2_with fail;refine(K1.o _ (Below.refl _ _)).mono ?_;rintro e w1 ⟨rfl,b1⟩;have B1:=O b1;clear b1;go_wp2_with fail;refine(K2.o _ B1.o).mono ?_;rintro e w2 ⟨rfl,b2⟩;have B2:=bh B1 b2;have d2:=D0.o _ B2.o;clear b2 B1;go_wp2_with fail;go_ret2;exact⟨by rw [HV.o,HE.o];rfl,B2.o⟩
  ·have hE:kT P Q=zc Q:=by unfold kT;rw [h1,zn,zG h2]
   have HV:=O (show lJ P Q=false by unfold lJ;rw [hE,decide_eq_false h2];rfl);rw [h1,zf] at K1;rw [zl h2] at K2;have HX:=O (zl h2);have HE:=O hE;clear h k h1 h2 hE;go_enter Tryz.func97,Tryz.ntmps97;go_wp2_with fail;refine(K1.o _ (Below.refl _ _)).mono ?_;rintro e w1 ⟨rfl,b1⟩;have B1:=O b1;clear b1;go_wp2_with fail;refine(K2.o _ B1.o).mono ?_;rintro e w2 ⟨rfl,b2⟩;have B2:=bh B1 b2;clear b2 B1;go_wp2_with fail;go_ret2;exact⟨by rw [HV.o,HE.o,HX.o];rfl,B2.o⟩
 ·have hE:kT P Q=zc P:=zG h1 _;have HV:=O (show lJ P Q=false by unfold lJ;rw [hE,decide_eq_false h1];rfl);rw [zl h1] at K1;have HX:=O (zl h1);have HE:=O hE;clear h k h1 hE;go_enter Tryz.func97,Tryz.ntmps97;go_wp2_with fail;refine(K1.o _ (Below.refl _ _)).mono ?_;rintro e w1 ⟨rfl,b1⟩;go_wp2_with fail;go_ret2;exact⟨by rw [HV.o,HE.o,HX.o];rfl,b1⟩
theorem EH(A B:Option Addr)(n m c d:Nat)(P Q:List Nd)(w:World)(h:Ns w A n c P)(k:Ns w B m d Q):
 Calls Tryz.prog 98 #[.slice A n c,.slice B m d] w λe w'=>e = .returned (.tuple #[.bool (qx P Q),zM (jQ P Q)])/\Below w.heap.size w w':=by
 have C:=O (ub A B n m c d P Q w h k);unfold a7 at C;have I6:∀(fn:Fn) (first cap:Array Value) (w:World),(Instr.makeFunc fn first cap).run Tryz.prog w = .ok (.func fn first cap) w:=λ_ _ _ _=>rfl;clear h k;by_cases h0:jQ P Q=0
 ·have HE:=O h0;have HV:=O (show qx P Q=decide (((zy Q).filter λx=>ie (zy P) x).length=(zy Q).length) by unfold qx;rw [h0];simp);obtain⟨h1,h2,h5,h6⟩:=ia.1 h0;have L1:=O (cu h1 h5);have L2:=O (cu h2 h6);rw [h0,zf] at C;clear h0 h1 h2 h5 h6;go_enter Tryz.func98,Tryz.ntmps98;go_wp2_with fail;refine(C.o).mono ?_;rintro e w1 ⟨va,vb,Va,Vb,rfl,hA,hB,hL,-,-,b1⟩;obtain⟨e1,e2⟩:=hL (by first|trivial|rfl);obtain⟨A1,c1,rfl,hS1⟩:=kx hA;obtain⟨A2,c2,rfl,Hh⟩:=kx hB;have Jk:Va.length<=200:=by have:=congrArg List.length e1;have:=L1.o;simp only [List.length_map] at *;omega
  have hl2:Vb.length<=200:=by have:=congrArg List.length e2;have:=L2.o;simp only [List.length_map] at *;omega
  have KK:=O (Df A2 Vb.length c2 Vb (λx=>ie (zy P) x) A1 Va.length c1 w1 rfl (by omega) Hh
   (O λr w' hb hr=>by rw [<-e1];exact rG A1 r.A Va.length r.n c1 r.c Va r.P w' rfl (by unfold maxLen;omega) (hS1.keep hb) hr))
  have E2:=O e2;have B1:=O b1;clear hA hB hL hS1 Hh e1 e2 b1;go_wp2_with fail;refine KK.o.mono ?_;rintro e w2 ⟨v,rfl,hO,b2⟩;have B2:=bh B1 b2;obtain⟨A3,c3,rfl,-⟩:=kx hO;have HLL:=O (mp Vb (λx=>ie (zy P) x));have HLB:=O (show Vb.length=(zy Q).length by have:=congrArg List.length E2.o;simpa using this);have HBB:=O (show(((Vb.filter λr=>ie (zy P) r.P).length:Int)==(Vb.length:Int))=qx P Q by
   rw [HV.o,<-E2.o,<-HLL.o,List.length_map,Bool.eq_iff_iff,beq_iff_eq,decide_eq_true_iff];omega)
  clear hO b2 B1;go_wp2_with fail;go_ret2;exact⟨by rw [<-HBB.o,HE.o];rfl,B2.o⟩
 ·have HE:=O (zl h0);have HV:=O (show qx P Q=false by unfold qx;rw [decide_eq_false h0];rfl);rw [zl h0] at C;clear h0;go_enter Tryz.func98,Tryz.ntmps98;go_wp2_with fail;refine(C.o).mono ?_;rintro e w1 ⟨va,vb,Va,Vb,rfl,hA,hB,hL,-,-,b1⟩;go_wp2_with fail;go_ret2;exact⟨by rw [HV.o,HE.o];rfl,b1⟩
theorem F9(A B:Option Addr)(n m c d:Nat)(P Q:List Nd)(w:World)(h:Ns w A n c P)(k:Ns w B m d Q):
 Calls Tryz.prog 99 #[.slice A n c,.slice B m d] w λe w'=>e = .returned (.tuple #[.bool (uq P Q),zM (jQ P Q)])/\Below w.heap.size w w':=by
 have C:=O (ub A B n m c d P Q w h k);unfold a7 at C;have I6:∀(fn:Fn) (first cap:Array Value) (w:World),(Instr.makeFunc fn first cap).run Tryz.prog w = .ok (.func fn first cap) w:=λ_ _ _ _=>rfl;clear h k;by_cases h0:jQ P Q=0
 ·have HE:=O h0;have HV:=O (show uq P Q=(zy Q).any λx=>ie (zy P) x by unfold uq;rw [h0];simp);obtain⟨h1,h2,h5,h6⟩:=ia.1 h0;have L1:=O (cu h1 h5);have L2:=O (cu h2 h6);rw [h0,zf] at C;clear h0 h1 h2 h5 h6;go_enter Tryz.func99,Tryz.ntmps99;go_wp2_with fail;refine(C.o).mono ?_;rintro e w1 ⟨va,vb,Va,Vb,rfl,hA,hB,hL,-,-,b1⟩;obtain⟨e1,e2⟩:=hL (by first|trivial|rfl);obtain⟨A1,c1,rfl,hS1⟩:=kx hA;obtain⟨A2,c2,rfl,Hh⟩:=kx hB;have Jk:Va.length<=200:=by have:=congrArg List.length e1;have:=L1.o;simp only [List.length_map] at *;omega
  have hl2:Vb.length<=200:=by have:=congrArg List.length e2;have:=L2.o;simp only [List.length_map] at *;omega
  have KK:=O (rl A2 Vb.length c2 Vb (λx=>ie (zy P) x) A1 Va.length c1 w1 rfl (by unfold maxLen;omega) Hh
   (O λr w' hb hr=>by rw [<-e1];exact rG A1 r.A Va.length r.n c1 r.c Va r.P w' rfl (by unfold maxLen;omega) (hS1.keep hb) hr))
  have E2:=O e2;have B1:=O b1;have Md:=O (show(Vb.any λr=>ie (zy P) r.P)=(zy Q).any λx=>ie (zy P) x by rw [<-e2,List.any_map];rfl);clear hA hB hL hS1 Hh e1 e2 b1;go_wp2_with fail;refine KK.o.mono ?_;rintro e w2 ⟨rfl,b2⟩;have B2:=bh B1 b2;clear b2 B1;go_wp2_with fail;go_ret2;exact⟨by rw [HV.o,HE.o,<-Md.o];rfl,B2.o⟩
 ·have HE:=O (zl h0);have HV:=O (show uq P Q=false by unfold uq;rw [decide_eq_false h0];rfl);rw [zl h0] at C;clear h0;go_enter Tryz.func99,Tryz.ntmps99;go_wp2_with fail;refine(C.o).mono ?_;rintro e w1 ⟨va,vb,Va,Vb,rfl,hA,hB,hL,-,-,b1⟩;go_wp2_with fail;go_ret2;exact⟨by rw [HV.o,HE.o];rfl,b1⟩
end Go.Proofs.YthidiimbeaabhaaGreatDoor
namespace Go.Proofs.YthidiimbeaabhaaGreatDoor
open Go.RowKit Go.Wk
def a8:Option UInt8->Int
 | none=>0
 | some b=>b.toNat
def eY(w:World)(A:Option Addr)(P:List (Option UInt8)):Prop :=
 ∀(k:Nat) (x:Option UInt8),P[k]?=some x->∃a,A=some a/\w.cell? (a.add (k*2))=some (.int .u8 (a8 x))/\
  w.cell? ⟨(a.add (k*2)).block,(a.add (k*2)).off+1,none⟩=some (.bool x.isNone)
theorem eY.keep{w w':World}{A:Option Addr}{P:List (Option UInt8)}(h:eY w A P)(hb:Below w.heap.size w w'):eY w' A P :=
 λk x hx=>let ⟨a,h1,h2,h3⟩:=h k x hx;⟨a,h1,zb hb h2,zb hb h3⟩
theorem Fe{m n a b c d e f g h:Nat}(hm:left m n a b c d<left m n e f g h){a' b' c' d' e' f' g' h':Nat}(h1:a'=a)(h2:b'=b)(h3:c'=c)(h4:d'=d)(h5:e'=e)(h6:f'=f)(h7:g'=g)(h8:h'=h):
 left m n a' b' c' d'<left m n e' f' g' h':=by subst h1 h2 h3 h4 h5 h6 h7 h8;exact hm
theorem km(w:World)(n:Nat):Below w.heap.size w (w.drewN n):=(Below.refl _ _).drewN n
theorem wt(A:Option Addr)(n c:Nat)(P:List (Option UInt8))(s:ByteArray)(w:World)(hn:n=P.length)(hl:n<=maxLen)(hs:s.size<=maxLen)(hP:eY w A P):
 Calls Tryz.prog 118 #[.slice A n c,.string s] w λe w'=>e = .returned (.bool (jl P s.data.toList))/\Below w.heap.size w w':=by
 unfold maxLen at hl hs;have HP:=O hP;have HN:=O hn;have HS:=O (show s.data.toList.length=s.size from Array.length_toList);clear hP hn;go_enter Tryz.func118,Tryz.ntmps118;go_wp2;go_loopw [4,5,6,7,8] (λr i j st fr wr=>∃ki kj ks kf:Nat,r = .bool false/\i = .int .i64 ki/\j = .int .i64 kj/\st = .int .i64 ((ks:Int)-1)/\fr = .int .i64 kf/\ki<=n/\kj<=s.size/\ks<=n/\kf<=s.size/\
  Hid (eW P s.data.toList ki kj ks kf)/\Hid (∃z,wr=w.drewN z)) (λ_ i j st fr _=>left n s.size (intOf i).toNat (intOf j).toNat (intOf st+1).toNat (intOf fr).toNat)
 case atStart=>exact⟨0,0,0,0,rfl,rfl,rfl,rfl,rfl,by omega,by omega,by omega,by omega,eW.start _ _,0,rfl⟩
 case round =>
  obtain⟨i,j,st,fr,rfl,rfl,rfl,rfl,rfl,hi,hj,hst,Lr,hS,hw⟩:=hrel;obtain⟨z,rfl⟩:=hw.o;clear hw;by_cases hlt:j<s.size
  ·by_cases hip:i<n
   ·have uF:i<P.length:=by rw [<-HN.o];exact hip
    obtain⟨a,rfl,q1,q2⟩:=HP.o i P[i] (List.getElem?_eq_getElem uF);rcases hx:P[i] with _|b
    ·have HX:=O hx;rw [hx] at q1 q2;simp only [Option.isNone_none,a8] at q1 q2;clear hx;have HS':=O (hS.o.star uF HX.o);have hm:=O (yT (m:=n) (n:=s.size) (i:=i) (j:=j) (star:=st) (frm:=fr) hip (by
      by_cases h0:st=0
      ·omega
      ·exact(hS.o.some_ (by omega)).1) (by
      by_cases h0:st=0
      ·rw [(hS.o.none_ h0).2];omega
      ·exact(hS.o.some_ (by omega)).2.1) hj)
     go_wp2;exact⟨⟨i+1,j,i+1,j,rfl,by go_num,rfl,by go_num,rfl,by omega,by omega,by omega,by omega,HS',_,rfl⟩,Fe hm.o (by simp only [intOf];omega) (by simp only [intOf];omega) (by simp only [intOf];omega) (by simp only [intOf];omega) (by simp only [intOf];omega) (by simp only [intOf];omega) (by simp only [intOf];omega) (by simp only [intOf];omega)⟩
    ·have HX:=O hx;rw [hx] at q1 q2;simp only [Option.isNone_some,a8] at q1 q2;clear hx;have GG:j<s.data.toList.length:=by rw [HS.o];exact hlt
     by_cases hb:b=s[j]
     ·have HS':=O (hS.o.byte uF GG (by rw [HX.o,hb];rfl));have hm:=O (xP (m:=n) (n:=s.size) (i:=i) (j:=j) (star:=st) (frm:=fr) hlt);rw [hb] at q1;clear hb;go_wp2;go_quiet (fail);go_wp2;exact⟨⟨i+1,j+1,st,fr,rfl,by go_num,by go_num,rfl,rfl,by omega,by omega,by omega,by omega,HS',_,rfl⟩,Fe hm.o (by simp only [intOf];omega) (by simp only [intOf];omega) (by simp only [intOf];omega) (by simp only [intOf];omega) (by simp only [intOf];omega) (by simp only [intOf];omega) (by simp only [intOf];omega) (by simp only [intOf];omega)⟩
     ·have hb2:((b.toNat:Int)==(s[j].toNat:Int))=false:=by
       rw [beq_eq_false_iff_ne];intro q;exact hb (UInt8.toNat_inj.1 (by omega))
      have HM:=O (show Ah P s.data.toList i j from⟨GG,.inr ⟨b,s[j],by rw [List.getElem?_eq_getElem uF,HX.o],List.getElem?_eq_getElem GG,hb⟩⟩);clear hb;by_cases h0:st=0
      ·have HF:=O (hS.o.fail h0 HM.o);subst h0;go_wp2;go_quiet (fail);go_wp2;go_ret;exact⟨by rw [HF.o];rfl,km _ _⟩
      ·have hs1:0<st:=by omega
       have HS':=O (hS.o.again hs1 HM.o);have Lf:=(hS.o.some_ hs1).2.1;have hm:=O (nO (m:=n) (n:=s.size) (i:=i) (j:=j) (star:=st) (frm:=fr) Lf hlt);clear h0;have hs2:0<=(st:Int)-1:=by omega
       go_wp2;go_quiet (fail);go_wp2;exact⟨⟨st,fr+1,st,fr+1,rfl,by go_num,by go_num,rfl,by go_num,by omega,by omega,by omega,by omega,HS',_,rfl⟩,Fe hm.o (by simp only [intOf];omega) (by simp only [intOf];omega) (by simp only [intOf];omega) (by simp only [intOf];omega) (by simp only [intOf];omega) (by simp only [intOf];omega) (by simp only [intOf];omega) (by simp only [intOf];omega)⟩
   ·have GG:j<s.data.toList.length:=by rw [HS.o];exact hlt
    have HM:=O (show Ah P s.data.toList i j from⟨GG,.inl (by rw [<-HN.o];omega)⟩);by_cases h0:st=0
    ·have HF:=O (hS.o.fail h0 HM.o);subst h0;go_wp2;go_quiet (fail);go_wp2;go_ret;exact⟨by rw [HF.o];rfl,km _ _⟩
    ·have hs1:0<st:=by omega
     have HS':=O (hS.o.again hs1 HM.o);have Lf:=(hS.o.some_ hs1).2.1;have hm:=O (nO (m:=n) (n:=s.size) (i:=i) (j:=j) (star:=st) (frm:=fr) Lf hlt);clear h0;have hs2:0<=(st:Int)-1:=by omega
     go_wp2;go_quiet (fail);go_wp2;exact⟨⟨st,fr+1,st,fr+1,rfl,by go_num,by go_num,rfl,by go_num,by omega,by omega,by omega,by omega,HS',_,rfl⟩,Fe hm.o (by simp only [intOf];omega) (by simp only [intOf];omega) (by simp only [intOf];omega) (by simp only [intOf];omega) (by simp only [intOf];omega) (by simp only [intOf];omega) (by simp only [intOf];omega) (by simp only [intOf];omega)⟩
  ·have HD:=O (hS.o.done (by rw [HS.o];omega));clear hS;go_wp2;go_loop [5] (λi'=>∃ki:Nat,i' = .int .i64 ki/\ki<=n/\Hid (jl (P.drop i) []=jl (P.drop ki) [])) (λi'=>n-(intOf i').toNat)
   case atStart=>exact⟨i,rfl,hi,rfl⟩
   case round =>
    obtain⟨ki,rfl,Lk,hE⟩:=hrel;by_cases hip:ki<n
    ·have uF:ki<P.length:=by rw [<-HN.o];exact hip
     obtain⟨a,rfl,q1,q2⟩:=HP.o ki P[ki] (List.getElem?_eq_getElem uF);rcases hx:P[ki] with _|b
     ·have HE:=O (hE.o.trans (mD uF hx));rw [hx] at q2;simp only [Option.isNone_none] at q2;clear hx hE q1;go_wp2;go_round
      case rel=>exact⟨ki+1,by go_num,by omega,HE⟩
      case measure=>simp [intOf];omega
     ·have HE:=O (HD.o.trans (hE.o.trans (m0 uF hx)));rw [hx] at q2;simp only [Option.isNone_some] at q2;clear hx hE q1;have hne:((ki:Int)==(n:Int))=false:=by rw [beq_eq_false_iff_ne];omega
      go_wp2;go_ret;exact⟨by rw [HE.o];rfl,km _ _⟩
    ·have HE:=O (HD.o.trans (hE.o.trans (o7 (by rw [<-HN.o];omega))));obtain rfl:ki=n:=by omega
     clear hE;go_wp2;go_ret;exact⟨by rw [HE.o];simp,km _ _⟩
def jh:List (Option UInt8)->List Value
 | [] => []
 | x :: r => .int .u8 (a8 x):: .bool x.isNone :: jh r
theorem kJ(P Q:List (Option UInt8)):jh (P ++ Q)=jh P ++ jh Q:=by
 induction P with
 | nil=>rfl
 | cons x P ih=>simp [jh,ih]
theorem q8(P:List (Option UInt8))(k:Nat)(x:Option UInt8)(h:P[k]?=some x):(jh P)[k*2]?=some (.int .u8 (a8 x))/\(jh P)[k*2+1]?=some (.bool x.isNone):=by
 induction P generalizing k with
 | nil=>simp at h
 | cons y P ih =>
  cases k with
  | zero=>simp only [List.getElem?_cons_zero,Option.some.injEq] at h;subst h;exact⟨rfl,rfl⟩
  | succ k =>
   have:=ih k (by simpa using h)
   rw [show(k+1)*2=k*2+1+1 by omega]
   simp only [jh,List.getElem?_cons_succ]
   exact this
theorem xj(g k:Nat):(⟨g,0,none⟩:Addr).add k=⟨g,k,none⟩:=by
 unfold Addr.add;split
 ·rename_i h0;subst h0;rfl
 ·simp
theorem kc{w:World}{B:Nat}{v:Value}{P:List (Option UInt8)}(h:w.ownsRow B 248 2 v P.length (jh P)):∃A c,v = .slice A P.length c/\eY w A P:=by
 rcases h.2 with ⟨rfl,h0⟩|⟨g,cap,cur,rfl,_⟩
 ·have:P = []:=List.eq_nil_of_length_eq_zero h0;subst this;exact⟨none,0,rfl,λk x hx=>by simp at hx⟩
 ·refine⟨some ⟨g,0,none⟩,cap,rfl,λk x hx=>?_⟩;have hk:k<P.length:=(List.getElem?_eq_some_iff.1 hx).1;obtain⟨e1,e2⟩:=q8 P k x hx;have c1:=h.cells (g:=g) rfl _ _ e1;have c2:=h.cells (g:=g) rfl _ _ e2;refine⟨_,rfl,c1,?_⟩;have e:(⟨((⟨g,0,none⟩:Addr).add (k*2)).block,((⟨g,0,none⟩:Addr).add (k*2)).off+1,none⟩:Addr)=(⟨g,0,none⟩:Addr).add (k*2+1):=by
   rw [xj,xj]
  rw [e];exact c2
theorem C7:(Tryz.prog.info? 248).map (λi=>(i.zero,i.size,i.bytes))=some (some (.agg #[.int .u8 0,.bool false]),2,2):=by kernel_rfl
theorem fP{w1:World}{B:Nat}{v':Value}{P:List (Option UInt8)}{x:Option UInt8}(h:w1.ownsRow B 248 2 v' (P.length+1) (jh P ++ [.int .u8 (a8 x),.bool x.isNone])):
 w1.ownsRow B 248 2 v' (P ++ [x]).length (jh (P ++ [x])):=by
 rw [kJ,List.length_append];exact h
theorem fH(x:Int)(b:Bool):∀u∈ [Value.int .u8 x,.bool b],u.oneCell'=true:=by
 intro u hu;simp only [List.mem_cons,List.not_mem_nil,or_false] at hu;rcases hu with rfl|rfl <;> rfl
theorem mb{s:ByteArray}{k:Nat}(h:k<s.size){b:UInt8}(q:(s[k].toNat:Int)=b.toNat):s.data.toList[k]'(by simpa using h)=b :=
 UInt8.toNat_inj.1 (show s[k].toNat=b.toNat by omega)
theorem qE{s:ByteArray}{k:Nat}(h:k<s.size){b:UInt8}(q:s.data.toList[k]'(by simpa using h)=b):(s[k].toNat:Int)=b.toNat:=by
 have:s[k]=b:=q;rw [this]
theorem vm(s:ByteArray)(w:World)(hs:s.size<=60):
 Calls Tryz.prog 119 #[.string s] w λe w'=>∃A c,e = .returned (.slice A (jW s.data.toList).length c)/\w'.ownsRow w.heap.size 248 2 (.slice A (jW s.data.toList).length c) (jW s.data.toList).length (jh (jW s.data.toList))/\Below w.heap.size w w':=by
 have HS:=O (show s.data.toList.length=s.size from Array.length_toList);obtain⟨i0,hi,hz0,hz1,hz2⟩:=info_parts C7;go_enter Tryz.func119,Tryz.ntmps119;go_wp2;go_loopw [3,4] (λv i wr=>∃(k:Nat) (Q:List (Option UInt8)),i = .int .i64 k/\k<=s.size/\Q.length<=k/\Hid (jW s.data.toList=Q ++ jW (s.data.toList.drop k))/\Hid (wr.ownsRow w.heap.size 248 2 v Q.length (jh Q))/\Hid (Below w.heap.size w wr)) (λ_ i _=>s.size-(intOf i).toNat)
 case atStart=>exact⟨0,[],rfl,Nat.zero_le _,Nat.le_refl _,rfl,⟨rfl,.inl ⟨rfl,rfl⟩⟩,Below.refl _ _⟩
 case round =>
  obtain⟨k,Q,rfl,hk,hq,hE,hown,hb⟩:=hrel;by_cases hlt:k<s.size
  ·have aV:k<s.data.toList.length:=by rw [HS.o];exact hlt
   by_cases h42:(s[k].toNat:Int)=42
   ·have HE:=O (hE.o.trans (congrArg (Q ++ ·) (ww aV (mb hlt h42))));clear hE;go_wp2_with (at_builtin;refine wpList_append_own _ rfl _ _ 186 rfl w.heap.size 248 i0 _ 2 2 Tryz.underlying186 hi hz0 hz1 hz2 rfl (by decide) _ Q.length (jh Q) rfl (hown.o.alloc _) ⟨_,0,none⟩ 1 1 [.int .u8 (a8 (none:Option UInt8)),.bool (none:Option UInt8).isNone] rfl rfl (bW _ _ _) (fH _ _) (by unfold maxLen;omega) (by omega) ?c5 ?_)
    case c5=>have:=hb.o.size;simp;omega
    intro v1 w1 hown1 hgrow1 _;have B1:=O (cg hb.o (Nat.le_refl _) hown.o _ hgrow1);have O1:=O (fP (x:=none) hown1);clear hown hb hown1 hgrow1;go_wp2;go_roundw
    case rel=>exact⟨k+1,Q ++ [none],by go_num,by omega,by simp;omega,by rw [Hid,List.append_assoc];exact HE.o,O1,B1⟩
    case measure=>simp [intOf];omega
   ·have h42':((s[k].toNat:Int)==42)=false:=beq_eq_false_iff_ne.2 h42;by_cases iF:(s[k].toNat:Int)=92/\∃h1:k+1<s.size,(s[k+1].toNat:Int)=42
    ·obtain⟨iF,h1,hs1⟩:=iF;have HE:=O (hE.o.trans (congrArg (Q ++ ·) (ym (by rw [HS.o];exact h1) (mb hlt iF) (mb h1 hs1))));clear hE h42;go_wp2_with (at_builtin;refine wpList_append_own _ rfl _ _ 186 rfl w.heap.size 248 i0 _ 2 2 Tryz.underlying186 hi hz0 hz1 hz2 rfl (by decide) _ Q.length (jh Q) rfl (hown.o.alloc _) ⟨_,0,none⟩ 1 1 [.int .u8 (a8 (some (42:UInt8))),.bool (some (42:UInt8)).isNone] rfl rfl (bW _ _ _) (fH _ _) (by unfold maxLen;omega) (by omega) ?c5 ?_)
     case c5=>have:=hb.o.size;simp;omega
     intro v1 w1 hown1 hgrow1 _;have B1:=O (cg hb.o (Nat.le_refl _) hown.o _ hgrow1);have O1:=O (fP (x:=(some 42)) hown1);clear hown hb hown1 hgrow1;go_wp2;go_roundw
     case rel=>exact⟨k+2,Q ++ [(some 42)],by go_num,by omega,by simp;omega,by rw [Hid,List.append_assoc];exact HE.o,O1,B1⟩
     case measure=>simp [intOf];omega
    ·have hx:s.data.toList[k]=s[k]:=rfl;have HE:=O (hE.o.trans (congrArg (Q ++ ·) (vj aV (λq=>h42 (qE hlt q)) (λq=>iF ⟨qE hlt q.1,by rw [<-HS.o];exact q.2.1,qE _ q.2.2⟩))));rw [hx] at HE;clear hE h42 hx;by_cases c1:(s[k].toNat:Int)=92
     ·rw [show s[k]=92 from mb hlt c1] at HE;by_cases c2:k+1<s.size
      ·have c3:((s[k+1].toNat:Int)==42)=false:=beq_eq_false_iff_ne.2 (λq=>iF ⟨c1,c2,q⟩);clear iF;go_wp2_with (at_builtin;refine wpList_append_own _ rfl _ _ 186 rfl w.heap.size 248 i0 _ 2 2 Tryz.underlying186 hi hz0 hz1 hz2 rfl (by decide) _ Q.length (jh Q) rfl (hown.o.alloc _) ⟨_,0,none⟩ 1 1 [.int .u8 (a8 (some (92:UInt8))),.bool (some (92:UInt8)).isNone] rfl rfl (bW _ _ _) (fH _ _) (by unfold maxLen;omega) (by omega) ?c5 ?_)
       case c5=>have:=hb.o.size;simp;omega
       intro v1 w1 hown1 hgrow1 _;have B1:=O (cg hb.o (Nat.le_refl _) hown.o _ hgrow1);have O1:=O (fP (x:=(some (92:UInt8))) hown1);clear hown hb hown1 hgrow1;go_wp2;go_roundw
       case rel=>exact⟨k+1,Q ++ [(some (92:UInt8))],by go_num,by omega,by simp;omega,by rw [Hid,List.append_assoc];exact HE.o,O1,B1⟩
       case measure=>simp [intOf];omega
      ·clear iF;go_wp2_with (at_builtin;refine wpList_append_own _ rfl _ _ 186 rfl w.heap.size 248 i0 _ 2 2 Tryz.underlying186 hi hz0 hz1 hz2 rfl (by decide) _ Q.length (jh Q) rfl (hown.o.alloc _) ⟨_,0,none⟩ 1 1 [.int .u8 (a8 (some (92:UInt8))),.bool (some (92:UInt8)).isNone] rfl rfl (bW _ _ _) (fH _ _) (by unfold maxLen;omega) (by omega) ?c5 ?_)
       case c5=>have:=hb.o.size;simp;omega
       intro v1 w1 hown1 hgrow1 _;have B1:=O (cg hb.o (Nat.le_refl _) hown.o _ hgrow1);have O1:=O (fP (x:=(some (92:UInt8))) hown1);clear hown hb hown1 hgrow1;go_wp2;go_roundw
       case rel=>exact⟨k+1,Q ++ [(some (92:UInt8))],by go_num,by omega,by simp;omega,by rw [Hid,List.append_assoc];exact HE.o,O1,B1⟩
       case measure=>simp [intOf];omega
     ·have c1':((s[k].toNat:Int)==92)=false:=beq_eq_false_iff_ne.2 c1;clear iF c1;go_wp2_with (at_builtin;refine wpList_append_own _ rfl _ _ 186 rfl w.heap.size 248 i0 _ 2 2 Tryz.underlying186 hi hz0 hz1 hz2 rfl (by decide) _ Q.length (jh Q) rfl (hown.o.alloc _) ⟨_,0,none⟩ 1 1 [.int .u8 (a8 (some s[k])),.bool (some s[k]).isNone] rfl rfl (bW _ _ _) (fH _ _) (by unfold maxLen;omega) (by omega) ?c5 ?_)
      case c5=>have:=hb.o.size;simp;omega
      intro v1 w1 hown1 hgrow1 _;have B1:=O (cg hb.o (Nat.le_refl _) hown.o _ hgrow1);have O1:=O (fP (x:=(some s[k])) hown1);clear hown hb hown1 hgrow1;go_wp2;go_roundw
      case rel=>exact⟨k+1,Q ++ [(some s[k])],by go_num,by omega,by simp;omega,by rw [Hid,List.append_assoc];exact HE.o,O1,B1⟩
      case measure=>simp [intOf];omega
  ·have HE:=O (show jW s.data.toList=Q by rw [hE.o,ya (by rw [HS.o];omega),List.append_nil]);obtain⟨A,c,hv,-⟩:=kc hown.o;subst hv;have HV:=O hown.o;clear hE hown;go_wp2;go_ret;exact⟨A,c,by rw [HE.o];rfl,by rw [HE.o];exact HV.o,hb.o⟩
theorem nw{s:ByteArray}(h:zA s=0):s.size<=60:=by
 by_cases h1:60<s.size
 ·unfold zA at h;rw [if_pos h1] at h;cases h
 ·omega
theorem y9{w:World}{B n c:Nat}{A:Option Addr}{P:List (Option UInt8)}(h:w.ownsRow B 248 2 (.slice A n c) P.length (jh P)):n=P.length/\eY w A P:=by
 obtain⟨A',c',e,q⟩:=kc h;injection e with e1 e2 e3;subst e1 e2 e3;exact⟨rfl,q⟩
theorem x7(s:ByteArray)(w:World)(hs:s.size<=60):
 Calls Tryz.prog 119 #[.string s] w λe w'=>∃A c,e = .returned (.slice A (jW s.data.toList).length c)/\eY w' A (jW s.data.toList)/\Below w.heap.size w w' :=
 (vm s w hs).mono λ_ _ ⟨A,c,q1,q2,q3⟩=>⟨A,c,q1,(y9 q2).2,q3⟩
def eC(p s:ByteArray):Int:=if zA p=0 then zA s else zA p
def gZ(p s:ByteArray):Bool:=decide (eC p s=0)&& jl (jW p.data.toList) s.data.toList
theorem My(p s:ByteArray)(w:World)(hp:p.size<=maxLen)(hs:s.size<=maxLen):
 Calls Tryz.prog 91 #[.string p,.string s] w λe w'=>e = .returned (.tuple #[.bool (gZ p s),zM (eC p s)])/\Below w.heap.size w w':=by
 have P1:=O (λw=>cE p w hp);have P2:=O (λw=>cE s w hs);by_cases h1:zA p=0
 ·have z:=nw h1;rw [h1] at P1;have R:=O (λw=>x7 p w z);have hE:=O (show eC p s=zA s by unfold eC;rw [if_pos h1]);by_cases h2:zA s=0
  ·rw [h2] at P2;have hV:=O (show gZ p s=jl (jW p.data.toList) s.data.toList by unfold gZ;rw [hE.o,h2];simp);have hE:=O (hE.o.trans h2);clear h1 h2;go_enter Tryz.func91,Tryz.ntmps91;go_wp2_with fail;refine(P1.o _).mono ?_;rintro e w1 ⟨rfl,hb1⟩;rw [zf];go_wp2_with fail;refine(P2.o _).mono ?_;rintro e w2 ⟨rfl,hb2⟩;rw [zf];go_wp2_with fail;refine(R.o _).mono ?_;rintro e w3 ⟨A,c,rfl,J9,hb3⟩;have hl:(jW p.data.toList).length<=maxLen:=by
    have:=qT p.data.toList;rw [show p.data.toList.length=p.size from Array.length_toList] at this;unfold maxLen;omega
   have M:=O (wt A _ c _ s w3 rfl hl hs J9);clear J9 hl;go_wp2_with fail;refine M.o.mono ?_;rintro e w4 ⟨rfl,hb4⟩;go_wp2;go_ret2;exact⟨by rw [hV.o,hE.o];rfl,hb1.trans ((hb2.trans ((hb3.trans (hb4.mono hb3.size)).mono hb2.size)).mono hb1.size)⟩
  ·have hV:=O (show gZ p s=false by unfold gZ;rw [hE.o];simp [h2]);rw [zl h2] at P2;rw [hE.o,zl h2];clear h1 h2;go_enter Tryz.func91,Tryz.ntmps91;go_wp2_with fail;refine(P1.o _).mono ?_;rintro e w1 ⟨rfl,hb1⟩;rw [zf];go_wp2_with fail;refine(P2.o _).mono ?_;rintro e w2 ⟨rfl,hb2⟩;go_wp2;go_ret2;exact⟨by rw [hV.o];rfl,hb1.trans (hb2.mono hb1.size)⟩
 ·have hE:=O (show eC p s=zA p by unfold eC;rw [if_neg h1]);have hV:=O (show gZ p s=false by unfold gZ;rw [hE.o];simp [h1]);rw [zl h1] at P1;rw [hE.o,zl h1];clear h1;go_enter Tryz.func91,Tryz.ntmps91;go_wp2_with fail;refine(P1.o _).mono ?_;rintro e w1 ⟨rfl,hb1⟩;go_wp2;go_ret2;exact⟨by rw [hV.o];rfl,hb1⟩
structure Env where
 E:List En
 who:Ud
 act:Ud
 what:Ud
 ctx:List Nd
abbrev Res:=Except Int (List Nd)
def hdN(V:List Nd):Nd:=V.headD ⟨0,0,emp,emp⟩
def zw(b:Bool):List Nd := [⟨1,if b then 1 else 0,emp,emp⟩]
def aY(u:Ud):List Nd := [⟨4,0,u.1,u.2⟩]
def lQ(k:Int):List Nd := [⟨2,k,emp,emp⟩]
def jV(V:List Nd):Ud:=((hdN V).s,(hdN V).t)
def zZ:ByteArray:=⟨#[112,114,105,110,99,105,112,97,108]⟩
def j8:ByteArray:=⟨#[97,99,116,105,111,110]⟩
def jc:ByteArray:=⟨#[114,101,115,111,117,114,99,101]⟩
def cN:ByteArray:=⟨#[99,111,110,116,101,120,116]⟩
def ao(e:Int)(b:Bool):Res:=if e=0 then .ok (zw b) else .error e
def jo(e:Int)(V:List Nd):Res:=if e=0 then .ok V else .error e
def aJ(σ:Env)(s:ByteArray):Res :=
 if s=zZ then .ok (aY σ.who) else if s=j8 then .ok (aY σ.act) else if s=jc then .ok (aY σ.what) else if s=cN then .ok σ.ctx else .error 3
def dy(E:List En)(V:List Nd):Except Int (Option (List Nd)):=
 if zg V=6 then .ok (some V) else if zg V=4 then .ok ((E.find? λx=>decide (x.u=jV V)).map En.P) else .error 2
def jX(B:List Nd):List (List Nd):=if zg B=5 then zy B else [B]
noncomputable def inX(E:List En)(A B:List Nd):Res :=
 if zg A=4/\(jX B).all (λt=>decide (zg t=4)) then .ok (zw ((jX B).any λt=>inB E (jV A) (jV t))) else .error 2
def bK(E:List En)(n:Nd)(V:List Nd):Res :=
 if n.op=9 then(if zg V=1 then .ok (zw (decide ((hdN V).n=0))) else .error 2)
 else if n.op=10 then(if zg V=2 then jo (db 18 0 (hdN V).n) (lQ (dr 18 0 (hdN V).n)) else .error 2)
 else if n.op=23 then(if zg V=3 then ao (eC n.s (hdN V).s) (gZ n.s (hdN V).s) else .error 2)
 else if n.op=24 then(if zg V=4 then .ok (zw (decide ((hdN V).s=n.s))) else .error 2)
 else match dy E V with
  | .error e => .error e
  | .ok none=>if n.op=21 then .ok (zw false) else .error 8
  | .ok (some r)=>if n.op=21 then .ok (zw (decide (fD r n.s=0))) else jo (fD r n.s) (kz r n.s)
noncomputable def aT(E:List En)(op:Int)(A B:List Nd):Res :=
 if op=14 then .ok (zw (decide (zx A B=0)))
 else if op=20 then inX E A B
 else if op=25 then ao (kT A B) (lJ A B)
 else if op=26 then ao (jQ A B) (qx A B)
 else if op=27 then ao (jQ A B) (uq A B)
 else if zg A=2/\zg B=2 then
  (if op=15 then .ok (zw (decide ((hdN A).n<(hdN B).n))) else if op=16 then .ok (zw (decide ((hdN A).n<=(hdN B).n)))
   else jo (db op (hdN A).n (hdN B).n) (lQ (dr op (hdN A).n (hdN B).n)))
 else .error 2
noncomputable def qJ(E:List En)(n:Nd):List (List Nd)->Res
 | [V]=>bK E n V
 | [A,B]=>aT E n.op A B
 | _ => .error 0
mutual
noncomputable def evX(σ:Env):Ex->Res
 | .node n ps =>
  if 1<=n.op/\n.op<=4 then .ok [n]
  else if n.op=8 then aJ σ n.s
  else if n.op=11\/n.op=12 then zW σ (decide (n.op=12)) ps
  else if n.op=13 then gI σ ps
  else if n.op=6 then(match evF σ ps with
   | .error e => .error e
   | .ok L=>jo (cb (L.map Prod.fst) (L.map Prod.snd)) (gP (L.map Prod.fst) (L.map Prod.snd)))
  else match evS σ ps with
   | .error e => .error e
   | .ok L=>if n.op=5 then jo (setE L) (ga L) else qJ σ.E n L
noncomputable def zW(σ:Env)(o:Bool):Exs->Res
 | .nil => .error 0
 | .cons a r=>match evX σ a with
  | .error e => .error e
  | .ok V=>if zg V=1 then(if decide ((hdN V).n=1)=o then .ok V else aA σ r) else .error 2
noncomputable def aA(σ:Env):Exs->Res
 | .nil => .error 0
 | .cons b _=>match evX σ b with
  | .error e => .error e
  | .ok V=>if zg V=1 then .ok V else .error 2
noncomputable def gI(σ:Env):Exs->Res
 | .nil => .error 0
 | .cons c r=>match evX σ c with
  | .error e => .error e
  | .ok V=>if zg V=1 then(if(hdN V).n=1 then iQ σ r else tP σ r) else .error 2
noncomputable def iQ(σ:Env):Exs->Res
 | .nil => .error 0
 | .cons a _=>evX σ a
noncomputable def tP(σ:Env):Exs->Res
 | .nil => .error 0
 | .cons _ r=>iQ σ r
noncomputable def evS(σ:Env):Exs->Except Int (List (List Nd))
 | .nil => .ok []
 | .cons x r=>match evX σ x with
  | .error e => .error e
  | .ok V=>match evS σ r with
   | .error e => .error e
   | .ok L => .ok (V :: L)
noncomputable def evF(σ:Env):Exs->Except Int (List (ByteArray × List Nd))
 | .nil => .ok []
 | .cons x r=>match ln σ x with
  | .error e => .error e
  | .ok V=>match evF σ r with
   | .error e => .error e
   | .ok L => .ok ((x.head.s,V):: L)
noncomputable def ln(σ:Env):Ex->Res
 | .node _ ps=>iQ σ ps
end
end Go.Proofs.YthidiimbeaabhaaGreatDoor
namespace Go.Proofs.YthidiimbeaabhaaGreatDoor
open Go.RowKit Go.Wk Go.Maps
theorem gi{E:List En}:zQ E=0↔E.length<=16/\jL [] E=0/\¬∃x∈E,Abv (bB E) x.u x.u:=by
 unfold zQ;constructor
 ·intro h;split at h
  ·cases h
  ·rename_i h1;split at h
   ·rename_i h2;split at h
    ·cases h
    ·rename_i h3;exact⟨by omega,h2,h3⟩
   ·rename_i h2;exact absurd h h2
 ·rintro ⟨h1,h2,h3⟩;rw [if_neg (by omega),if_pos h2,if_neg h3]
theorem xQ{x:En}(h:eA x=0):zc x.P=0/\zg x.P=6:=by
 unfold eA at h;split at h
 ·cases h
 ·split at h
  ·split at h
   ·rename_i h1;split at h
    ·rename_i h2;exact⟨h1,h2⟩
    ·cases h
   ·rename_i h1;exact absurd h h1
  ·rename_i h1;exact absurd h h1
theorem xf{E M:List En}(h:jL M E=0){x:En}(hx:x∈E):zc x.P=0/\zg x.P=6:=xQ ((l8 E M h).1 x hx).2
end Go.Proofs.YthidiimbeaabhaaGreatDoor
namespace Go.Proofs.YthidiimbeaabhaaGreatDoor
open Go.RowKit Go.Wk
end Go.Proofs.YthidiimbeaabhaaGreatDoor
namespace Go.Proofs.YthidiimbeaabhaaGreatDoor
open Go.RowKit Go.Wk Go.Sort
theorem EL(o:Int):(o=1\/o=2\/o=3\/o=4\/o=5\/o=6\/o=7\/o=8\/o=9\/o=10\/o=11\/o=12\/o=13\/o=14\/o=15\/o=16\/o=17\/o=18\/o=19\/o=20\/o=21\/o=22\/o=23\/o=24\/o=25\/o=26\/o=27)\/o<=0\/28<=o:=by omega
theorem DL{o:Int}(h:o<=0\/28<=o):(o==1)=false/\(o==2)=false/\(o==3)=false/\(o==4)=false/\(o==5)=false/\(o==6)=false/\(o==7)=false/\(o==8)=false/\(o==9)=false/\(o==10)=false/\(o==11)=false/\(o==12)=false/\(o==13)=false/\(o==14)=false/\(o==15)=false/\(o==16)=false/\(o==17)=false/\(o==18)=false/\(o==19)=false/\(o==20)=false/\(o==21)=false/\(o==22)=false/\(o==23)=false/\(o==24)=false/\(o==25)=false/\(o==26)=false/\(o==27)=false:=by
 refine⟨?_,?_,?_,?_,?_,?_,?_,?_,?_,?_,?_,?_,?_,?_,?_,?_,?_,?_,?_,?_,?_,?_,?_,?_,?_,?_,?_⟩<;>(rw [beq_eq_false_iff_ne];omega)
theorem il{o:Int}(h:o<=0\/28<=o)(n:Int)(s t:ByteArray):zJ ⟨o,n,s,t⟩= -1:=by
 unfold zJ;dsimp only;rw [if_neg (by omega),if_neg (by omega),if_neg (by omega),if_neg (by omega),if_neg (by omega)]
theorem eM(x:Nd)(w:World):Calls Tryz.prog 82 #[ndV x] w λe w'=>e = .returned (.int .i64 (zJ x))/\Below w.heap.size w w':=by
 obtain⟨o,n,s,t⟩:=x;unfold ndV;dsimp only;rcases EL o with (rfl|rfl|rfl|rfl|rfl|rfl|rfl|rfl|rfl|rfl|rfl|rfl|rfl|rfl|rfl|rfl|rfl|rfl|rfl|rfl|rfl|rfl|rfl|rfl|rfl|rfl|rfl)|h
 all_goals try
  go_enter Tryz.func82,Tryz.ntmps82
  go_wp2_with fail
  go_ret
  exact⟨by rfl,za _ _⟩
 have hp:=O (il h n s t);obtain⟨g1,g2,g3,g4,g5,g6,g7,g8,g9,g10,g11,g12,g13,g14,g15,g16,g17,g18,g19,g20,g21,g22,g23,g24,g25,g26,g27⟩:=DL h;rcases h with h|h
 all_goals
  go_enter Tryz.func82,Tryz.ntmps82;go_wp2_with fail;go_ret;exact⟨by rw [hp.o];rfl,za _ _⟩
theorem oU(s:ByteArray)(w:World):Calls Tryz.prog 143 #[.string s] w λe w'=>e = .returned (.bool (ja s))/\w=w':=by
 by_cases h0:s.toList = [105,102]
 ·have HR:=O (show ja s=true by rw [ByteArray.toList_eq] at h0;unfold ja;rw [h0];rfl);have f0:(s.toList == [105,102])=true:=beq_iff_eq.2 h0;clear h0;go_enter Tryz.func143,Tryz.ntmps143;go_wp2_with fail;go_ret;exact⟨by rw [HR.o];rfl,rfl⟩
 have f0:(s.toList == [105,102])=false:=beq_eq_false_iff_ne.2 h0;by_cases h1:s.toList = [116,104,101,110]
 ·have HR:=O (show ja s=true by rw [ByteArray.toList_eq] at h1;unfold ja;rw [h1];rfl);have f1:(s.toList == [116,104,101,110])=true:=beq_iff_eq.2 h1;clear h1 h0;go_enter Tryz.func143,Tryz.ntmps143;go_wp2_with fail;go_ret;exact⟨by rw [HR.o];rfl,rfl⟩
 have f1:(s.toList == [116,104,101,110])=false:=beq_eq_false_iff_ne.2 h1;by_cases h2:s.toList = [101,108,115,101]
 ·have HR:=O (show ja s=true by rw [ByteArray.toList_eq] at h2;unfold ja;rw [h2];rfl);have f2:(s.toList == [101,108,115,101])=true:=beq_iff_eq.2 h2;clear h2 h0 h1;go_enter Tryz.func143,Tryz.ntmps143;go_wp2_with fail;go_ret;exact⟨by rw [HR.o];rfl,rfl⟩
 have f2:(s.toList == [101,108,115,101])=false:=beq_eq_false_iff_ne.2 h2;by_cases h3:s.toList = [116,114,117,101]
 ·have HR:=O (show ja s=true by rw [ByteArray.toList_eq] at h3;unfold ja;rw [h3];rfl);have f3:(s.toList == [116,114,117,101])=true:=beq_iff_eq.2 h3;clear h3 h0 h1 h2;go_enter Tryz.func143,Tryz.ntmps143;go_wp2_with fail;go_ret;exact⟨by rw [HR.o];rfl,rfl⟩
 have f3:(s.toList == [116,114,117,101])=false:=beq_eq_false_iff_ne.2 h3;by_cases h4:s.toList = [102,97,108,115,101]
 ·have HR:=O (show ja s=true by rw [ByteArray.toList_eq] at h4;unfold ja;rw [h4];rfl);have f4:(s.toList == [102,97,108,115,101])=true:=beq_iff_eq.2 h4;clear h4 h0 h1 h2 h3;go_enter Tryz.func143,Tryz.ntmps143;go_wp2_with fail;go_ret;exact⟨by rw [HR.o];rfl,rfl⟩
 have f4:(s.toList == [102,97,108,115,101])=false:=beq_eq_false_iff_ne.2 h4;by_cases h5:s.toList = [105,110]
 ·have HR:=O (show ja s=true by rw [ByteArray.toList_eq] at h5;unfold ja;rw [h5];rfl);have f5:(s.toList == [105,110])=true:=beq_iff_eq.2 h5;clear h5 h0 h1 h2 h3 h4;go_enter Tryz.func143,Tryz.ntmps143;go_wp2_with fail;go_ret;exact⟨by rw [HR.o];rfl,rfl⟩
 have f5:(s.toList == [105,110])=false:=beq_eq_false_iff_ne.2 h5;by_cases h6:s.toList = [104,97,115]
 ·have HR:=O (show ja s=true by rw [ByteArray.toList_eq] at h6;unfold ja;rw [h6];rfl);have f6:(s.toList == [104,97,115])=true:=beq_iff_eq.2 h6;clear h6 h0 h1 h2 h3 h4 h5;go_enter Tryz.func143,Tryz.ntmps143;go_wp2_with fail;go_ret;exact⟨by rw [HR.o];rfl,rfl⟩
 have f6:(s.toList == [104,97,115])=false:=beq_eq_false_iff_ne.2 h6;by_cases h7:s.toList = [108,105,107,101]
 ·have HR:=O (show ja s=true by rw [ByteArray.toList_eq] at h7;unfold ja;rw [h7];rfl);have f7:(s.toList == [108,105,107,101])=true:=beq_iff_eq.2 h7;clear h7 h0 h1 h2 h3 h4 h5 h6;go_enter Tryz.func143,Tryz.ntmps143;go_wp2_with fail;go_ret;exact⟨by rw [HR.o];rfl,rfl⟩
 have f7:(s.toList == [108,105,107,101])=false:=beq_eq_false_iff_ne.2 h7;by_cases h8:s.toList = [105,115]
 ·have HR:=O (show ja s=true by rw [ByteArray.toList_eq] at h8;unfold ja;rw [h8];rfl);have f8:(s.toList == [105,115])=true:=beq_iff_eq.2 h8;clear h8 h0 h1 h2 h3 h4 h5 h6 h7;go_enter Tryz.func143,Tryz.ntmps143;go_wp2_with fail;go_ret;exact⟨by rw [HR.o];rfl,rfl⟩
 have f8:(s.toList == [105,115])=false:=beq_eq_false_iff_ne.2 h8;have HR:=O (show ja s=false by
  rw [ByteArray.toList_eq] at h0 h1 h2 h3 h4 h5 h6 h7 h8
  unfold ja Jw
  simp only [List.contains_cons,List.contains_nil,Bool.or_false,Bool.or_eq_false_iff,beq_eq_false_iff_ne]
  exact⟨h0,h1,h2,h3,h4,h5,h6,h7,h8⟩)
 clear h0 h1 h2 h3 h4 h5 h6 h7 h8;go_enter Tryz.func143,Tryz.ntmps143;go_wp2_with fail;go_ret;exact⟨by rw [HR.o];rfl,rfl⟩
end Go.Proofs.YthidiimbeaabhaaGreatDoor
