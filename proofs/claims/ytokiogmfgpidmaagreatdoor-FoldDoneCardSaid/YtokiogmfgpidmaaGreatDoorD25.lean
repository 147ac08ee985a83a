/-
  Package bag: Has, All, Any. The contracts of like.match, like.read, like.Match. ..
-/
import Derived.Test.YtokiogmfgpidmaaGreatDoorD8
import Derived.Test.YtokiogmfgpidmaaGreatDoorD9
import Derived.Test.YtokiogmfgpidmaaGreatDoorD12
import Derived.Test.YtokiogmfgpidmaaGreatDoorD24
set_option maxRecDepth 100000
set_option maxHeartbeats 4000000
namespace Go.Wk
def Mr(P Q:List Nd):Int:=or2 (zc P) (or2 (zc Q) (if zf P=5 then 0 else 2))
def OK(P Q:List Nd):Bool:=decide (Mr P Q=0)&& ly (zg P) Q
def P9(P Q:List Nd):Bool:=decide (jU P Q=0)&& decide (((zg Q).filter λx=>ly (zg P) x).length=(zg Q).length)
def Ri(P Q:List Nd):Bool:=decide (jU P Q=0)&&(zg Q).any λx=>ly (zg P) x
theorem Xm{L:List (List Nd)}(h:∀Q∈L,IsV Q):L.length<=L.flatten.length:=by
 induction L with
 | nil=>simp
 | cons Q L ih =>
  have:=(h Q (by simp)).pos
  have:=ih (λR hR=>h R (by simp [hR]))
  simp only [List.length_cons,List.flatten_cons,List.length_append]
  omega
theorem yr{P:List Nd}(h:zc P=0)(h5:zf P=5):(zg P).length<=200:=by
 obtain⟨hl,hV⟩:=zH.1 h;obtain⟨e,-,h3,-⟩:=ER hV h5;have:=congrArg List.length e;have:=Xm h3;simp only [List.length_cons] at *;omega
theorem zf3{P Q:List Nd}:Mr P Q=0↔zc P=0/\zc Q=0/\zf P=5:=by
 unfold Mr or2;by_cases h1:zc P=0
 ·rw [if_pos h1];by_cases h2:zc Q=0
  ·rw [if_pos h2];by_cases h3:zf P=5
   ·rw [if_pos h3];exact⟨λ_=>⟨h1,h2,h3⟩,λ_=>rfl⟩
   ·rw [if_neg h3];exact⟨λh=>by omega,λh=>absurd h.2.2 h3⟩
  ·rw [if_neg h2];exact⟨λh=>absurd h h2,λh=>absurd h.2.1 h2⟩
 ·rw [if_neg h1];exact⟨λh=>absurd h h1,λh=>absurd h.1 h1⟩
end Go.Wk
namespace Go.Proofs.YtokiogmfgpidmaaGreatDoor
open Go.RowKit Go.Wk Go.Sort
theorem QV{w:World}{B:Nat}{v:Value}{V:List Sl}(h:zX w B v V):∃A c,v = .slice A V.length c/\ou w A V :=
 let ⟨A,c,h1,_,h2⟩:=h.at;⟨A,c,h1,h2⟩
theorem US(V:List Sl)(p:List Nd->Bool):(V.filter λr=>p r.P).length=((V.map Sl.P).filter p).length:=by
 rw [List.filter_map,List.length_map];rfl
theorem zlK(A B:Option Addr)(n m c d:Nat)(P Q:List Nd)(w:World)(h:Ns w A n c P)(k:Ns w B m d Q):
 Calls Tryz.prog 109 #[.slice A n c,.slice B m d] w λe w'=>e = .returned (.tuple #[.bool (OK P Q),fa (Mr P Q)])/\Below w.heap.size w w':=by
 have K1:=O (λw' hb=>zT (h.keep (w':=w') hb));have K2:=O (λw' hb=>zT (k.keep (w':=w') hb));by_cases h1:zc P=0
 ·by_cases h2:zc Q=0
  ·rw [h1,zm] at K1;rw [h2,zm] at K2;have Nn:=(zH.1 h1).2.pos;obtain⟨a,rfl,D⟩:=h.at_.nd Nn;rw [show a.add (0*4)=a from rfl] at D;have hn1:0<n:=by rw [h.len];exact Nn
   have d0:=D.c0;rw [<-bW Nn] at d0;by_cases h5:zf P=5
   ·have hE:Mr P Q=0:=zf3.2 ⟨h1,h2,h5⟩;have HE:=O hE;have HV:=O (show OK P Q=ly (zg P) Q by unfold OK;rw [hE];simp);have hE1:F3 P=0:=by unfold F3;rw [if_pos h1,if_pos (.inl h5)]
    have P1:=O (show Kj P=zg P by unfold Kj;rw [if_pos hE1,if_pos h5]);have T1:=O (λw' hb=>qa _ n c P w' (h.keep (w':=w') hb));unfold Gx at T1;rw [hE1,zm] at T1;have HK:=O k;have HL:=O (yr h1 h5);rw [h5] at d0;have D0:=O (λw' (hb:Below w.heap.size w w')=>za hb d0);clear h k h1 h2 h5 hE hE1 Nn D d0;go_enter Tryz.func109,Tryz.ntmps109;go_wp2_with fail;refine(K1.o _ (Below.refl _ _)).mono ?_;rintro e w1 ⟨rfl,b1⟩;have B1:=O b1;clear b1;go_wp2_with fail;refine(K2.o _ B1.o).mono ?_;rintro e w2 ⟨rfl,b2⟩;have B2:=bh B1 b2;have d2:=D0.o _ B2.o;clear b2 B1;go_wp2_with fail;refine(T1.o _ B2.o).mono ?_;rintro e w3 ⟨va,Va,rfl,hO,hL,hF,b3⟩;have B3:=bh B2 b3;obtain⟨A2,c2,rfl,hS⟩:=QV hO;have HS:=O hS;have hVl:Va.length<=200:=by have:=congrArg List.length (hL.trans P1.o);have:=HL.o;simp only [List.length_map] at *;omega
    have HB:=O (XY A2 B Va.length m c2 d Va Q w3 rfl (by unfold maxLen;omega) hS (HK.o.keep B3.o));rw [hL.trans P1.o] at HB;clear hO hL hF b3 B2 d2 hS;go_wp2_with fail;refine(HB.o).mono ?_;rintro e w4 ⟨rfl,b4⟩;have B4:=bh B3 b4;clear b4 B3;go_wp2_with fail;go_ret2;exact⟨by rw [HV.o,HE.o];rfl,B4.o⟩
   ·have hE:Mr P Q=2:=by unfold Mr;rw [h1,h2,zM,zM,if_neg h5]
    have HE:=O hE;have HV:=O (show OK P Q=false by unfold OK;rw [hE];rfl);have g5:(zf P != 5)=true:=by rw [bne_iff_ne];exact h5
    have D0:=O (λw' (hb:Below w.heap.size w w')=>za hb d0);clear h k h1 h2 h5 hE Nn D d0;go_enter Tryz.func109,Tryz.ntmps109;go_wp2_with fail;refine(K1.o _ (Below.refl _ _)).mono ?_;rintro e w1 ⟨rfl,b1⟩;have B1:=O b1;clear b1;go_wp2_with fail;refine(K2.o _ B1.o).mono ?_;rintro e w2 ⟨rfl,b2⟩;have B2:=bh B1 b2;have d2:=D0.o _ B2.o;clear b2 B1;go_wp2_with fail;go_ret2;exact⟨by rw [HV.o,HE.o];rfl,B2.o⟩
  ·have hE:Mr P Q=zc Q:=by unfold Mr;rw [h1,zM,jw h2]
   have HV:=O (show OK P Q=false by unfold OK;rw [hE,decide_eq_false h2];rfl);rw [h1,zm] at K1;rw [zy h2] at K2;have HX:=O (zy h2);have HE:=O hE;clear h k h1 h2 hE;go_enter Tryz.func109,Tryz.ntmps109;go_wp2_with fail;refine(K1.o _ (Below.refl _ _)).mono ?_;rintro e w1 ⟨rfl,b1⟩;have B1:=O b1;clear b1;go_wp2_with fail;refine(K2.o _ B1.o).mono ?_;rintro e w2 ⟨rfl,b2⟩;have B2:=bh B1 b2;clear b2 B1;go_wp2_with fail;go_ret2;exact⟨by rw [HV.o,HE.o,HX.o];rfl,B2.o⟩
 ·have hE:Mr P Q=zc P:=jw h1 _;have HV:=O (show OK P Q=false by unfold OK;rw [hE,decide_eq_false h1];rfl);rw [zy h1] at K1;have HX:=O (zy h1);have HE:=O hE;clear h k h1 hE;go_enter Tryz.func109,Tryz.ntmps109;go_wp2_with fail;refine(K1.o _ (Below.refl _ _)).mono ?_;rintro e w1 ⟨rfl,b1⟩;go_wp2_with fail;go_ret2;exact⟨by rw [HV.o,HE.o,HX.o];rfl,b1⟩
theorem zkL(A B:Option Addr)(n m c d:Nat)(P Q:List Nd)(w:World)(h:Ns w A n c P)(k:Ns w B m d Q):
 Calls Tryz.prog 110 #[.slice A n c,.slice B m d] w λe w'=>e = .returned (.tuple #[.bool (P9 P Q),fa (jU P Q)])/\Below w.heap.size w w':=by
 have C:=O (zav A B n m c d P Q w h k);unfold CZ at C;have hmf:∀(fn:Fn) (first cap:Array Value) (w:World),(Instr.makeFunc fn first cap).run Tryz.prog w = .ok (.func fn first cap) w:=λ_ _ _ _=>rfl;clear h k;by_cases h0:jU P Q=0
 ·have HE:=O h0;have HV:=O (show P9 P Q=decide (((zg Q).filter λx=>ly (zg P) x).length=(zg Q).length) by unfold P9;rw [h0];simp);obtain⟨h1,h2,h5,h6⟩:=My.1 h0;have L1:=O (yr h1 h5);have L2:=O (yr h2 h6);rw [h0,zm] at C;clear h0 h1 h2 h5 h6;go_enter Tryz.func110,Tryz.ntmps110;go_wp2_with fail;refine(C.o).mono ?_;rintro e w1 ⟨va,vb,Va,Vb,rfl,hA,hB,hL,-,-,b1⟩;obtain⟨e1,e2⟩:=hL (by first|trivial|rfl);obtain⟨A1,c1,rfl,hS1⟩:=QV hA;obtain⟨A2,c2,rfl,hS2⟩:=QV hB;have hl1:Va.length<=200:=by have:=congrArg List.length e1;have:=L1.o;simp only [List.length_map] at *;omega
  have hl2:Vb.length<=200:=by have:=congrArg List.length e2;have:=L2.o;simp only [List.length_map] at *;omega
  have KK:=O (zhQ A2 Vb.length c2 Vb (λx=>ly (zg P) x) A1 Va.length c1 w1 rfl (by omega) hS2
   (O λr w' hb hr=>by rw [<-e1];exact XY A1 r.A Va.length r.n c1 r.c Va r.P w' rfl (by unfold maxLen;omega) (hS1.keep hb) hr))
  have E2:=O e2;have B1:=O b1;clear hA hB hL hS1 hS2 e1 e2 b1;go_wp2_with fail;refine KK.o.mono ?_;rintro e w2 ⟨v,rfl,hO,b2⟩;have B2:=bh B1 b2;obtain⟨A3,c3,rfl,-⟩:=QV hO;have HLL:=O (US Vb (λx=>ly (zg P) x));have HLB:=O (show Vb.length=(zg Q).length by have:=congrArg List.length E2.o;simpa using this);have QK:=O (show(((Vb.filter λr=>ly (zg P) r.P).length:Int)==(Vb.length:Int))=P9 P Q by
   rw [HV.o,<-E2.o,<-HLL.o,List.length_map,Bool.eq_iff_iff,beq_iff_eq,decide_eq_true_iff];omega)
  clear hO b2 B1;go_wp2_with fail;go_ret2;exact⟨by rw [<-QK.o,HE.o];rfl,B2.o⟩
 ·have HE:=O (zy h0);have HV:=O (show P9 P Q=false by unfold P9;rw [decide_eq_false h0];rfl);rw [zy h0] at C;clear h0;go_enter Tryz.func110,Tryz.ntmps110;go_wp2_with fail;refine(C.o).mono ?_;rintro e w1 ⟨va,vb,Va,Vb,rfl,hA,hB,hL,-,-,b1⟩;go_wp2_with fail;go_ret2;exact⟨by rw [HV.o,HE.o];rfl,b1⟩
theorem zle(A B:Option Addr)(n m c d:Nat)(P Q:List Nd)(w:World)(h:Ns w A n c P)(k:Ns w B m d Q):
 Calls Tryz.prog 111 #[.slice A n c,.slice B m d] w λe w'=>e = .returned (.tuple #[.bool (Ri P Q),fa (jU P Q)])/\Below w.heap.size w w':=by
 have C:=O (zav A B n m c d P Q w h k);unfold CZ at C;have hmf:∀(fn:Fn) (first cap:Array Value) (w:World),(Instr.makeFunc fn first cap).run Tryz.prog w = .ok (.func fn first cap) w:=λ_ _ _ _=>rfl;clear h k;by_cases h0:jU P Q=0
 ·have HE:=O h0;have HV:=O (show Ri P Q=(zg Q).any λx=>ly (zg P) x by unfold Ri;rw [h0];simp);obtain⟨h1,h2,h5,h6⟩:=My.1 h0;have L1:=O (yr h1 h5);have L2:=O (yr h2 h6);rw [h0,zm] at C;clear h0 h1 h2 h5 h6;go_enter Tryz.func111,Tryz.ntmps111;go_wp2_with fail;refine(C.o).mono ?_;rintro e w1 ⟨va,vb,Va,Vb,rfl,hA,hB,hL,-,-,b1⟩;obtain⟨e1,e2⟩:=hL (by first|trivial|rfl);obtain⟨A1,c1,rfl,hS1⟩:=QV hA;obtain⟨A2,c2,rfl,hS2⟩:=QV hB;have hl1:Va.length<=200:=by have:=congrArg List.length e1;have:=L1.o;simp only [List.length_map] at *;omega
  have hl2:Vb.length<=200:=by have:=congrArg List.length e2;have:=L2.o;simp only [List.length_map] at *;omega
  have KK:=O (Yr A2 Vb.length c2 Vb (λx=>ly (zg P) x) A1 Va.length c1 w1 rfl (by unfold maxLen;omega) hS2
   (O λr w' hb hr=>by rw [<-e1];exact XY A1 r.A Va.length r.n c1 r.c Va r.P w' rfl (by unfold maxLen;omega) (hS1.keep hb) hr))
  have E2:=O e2;have B1:=O b1;have HVA:=O (show(Vb.any λr=>ly (zg P) r.P)=(zg Q).any λx=>ly (zg P) x by rw [<-e2,List.any_map];rfl);clear hA hB hL hS1 hS2 e1 e2 b1;go_wp2_with fail;refine KK.o.mono ?_;rintro e w2 ⟨rfl,b2⟩;have B2:=bh B1 b2;clear b2 B1;go_wp2_with fail;go_ret2;exact⟨by rw [HV.o,HE.o,<-HVA.o];rfl,B2.o⟩
 ·have HE:=O (zy h0);have HV:=O (show Ri P Q=false by unfold Ri;rw [decide_eq_false h0];rfl);rw [zy h0] at C;clear h0;go_enter Tryz.func111,Tryz.ntmps111;go_wp2_with fail;refine(C.o).mono ?_;rintro e w1 ⟨va,vb,Va,Vb,rfl,hA,hB,hL,-,-,b1⟩;go_wp2_with fail;go_ret2;exact⟨by rw [HV.o,HE.o];rfl,b1⟩
end Go.Proofs.YtokiogmfgpidmaaGreatDoor
namespace Go.Proofs.YtokiogmfgpidmaaGreatDoor
open Go.RowKit Go.Wk
def CX:Option UInt8->Int
 | none=>0
 | some b=>b.toNat
def MI(w:World)(A:Option Addr)(P:List (Option UInt8)):Prop :=
 ∀(k:Nat) (x:Option UInt8),P[k]?=some x->∃a,A=some a/\w.cell? (a.add (k*2))=some (.int .u8 (CX x))/\
  w.cell? ⟨(a.add (k*2)).block,(a.add (k*2)).off+1,none⟩=some (.bool x.isNone)
theorem MI.keep{w w':World}{A:Option Addr}{P:List (Option UInt8)}(h:MI w A P)(hb:Below w.heap.size w w'):MI w' A P :=
 λk x hx=>let ⟨a,h1,h2,h3⟩:=h k x hx;⟨a,h1,za hb h2,za hb h3⟩
theorem zli{m n a b c d e f g h:Nat}(hm:left m n a b c d<left m n e f g h){a' b' c' d' e' f' g' h':Nat}(h1:a'=a)(h2:b'=b)(h3:c'=c)(h4:d'=d)(h5:e'=e)(h6:f'=f)(h7:g'=g)(h8:h'=h):
 left m n a' b' c' d'<left m n e' f' g' h':=by subst h1 h2 h3 h4 h5 h6 h7 h8;exact hm
theorem PH(w:World)(n:Nat):Below w.heap.size w (w.drewN n):=(Below.refl _ _).drewN n
theorem zcG(A:Option Addr)(n c:Nat)(P:List (Option UInt8))(s:ByteArray)(w:World)(hn:n=P.length)(hl:n<=maxLen)(hs:s.size<=maxLen)(hP:MI w A P):
 Calls Tryz.prog 140 #[.slice A n c,.string s] w λe w'=>e = .returned (.bool (zU P s.data.toList))/\Below w.heap.size w w':=by
 unfold maxLen at hl hs;have HP:=O hP;have HN:=O hn;have HS:=O (show s.data.toList.length=s.size from Array.length_toList);clear hP hn;go_enter Tryz.func140,Tryz.ntmps140;go_wp2;go_loopw [4,5,6,7,8] (λr i j st fr wr=>∃ki kj ks kf:Nat,r = .bool false/\i = .int .i64 ki/\j = .int .i64 kj/\st = .int .i64 ((ks:Int)-1)/\fr = .int .i64 kf/\ki<=n/\kj<=s.size/\ks<=n/\kf<=s.size/\
  Hid (MP P s.data.toList ki kj ks kf)/\Hid (∃z,wr=w.drewN z)) (λ_ i j st fr _=>left n s.size (intOf i).toNat (intOf j).toNat (intOf st+1).toNat (intOf fr).toNat)
 case atStart=>exact⟨0,0,0,0,rfl,rfl,rfl,rfl,rfl,by omega,by omega,by omega,by omega,MP.start _ _,0,rfl⟩
 case round =>
  obtain⟨i,j,st,fr,rfl,rfl,rfl,rfl,rfl,hi,hj,hst,hfr,hS,hw⟩:=hrel;obtain⟨z,rfl⟩:=hw.o;clear hw;by_cases hlt:j<s.size
  ·by_cases hip:i<n
   ·have zcl:i<P.length:=by rw [<-HN.o];exact hip
    obtain⟨a,rfl,q1,q2⟩:=HP.o i P[i] (List.getElem?_eq_getElem zcl);rcases hx:P[i] with _|b
    ·have HX:=O hx;rw [hx] at q1 q2;simp only [Option.isNone_none,CX] at q1 q2;clear hx;have HS':=O (hS.o.star zcl HX.o);have hm:=O (zfS (m:=n) (n:=s.size) (i:=i) (j:=j) (star:=st) (frm:=fr) hip (by
      by_cases h0:st=0
      ·omega
      ·exact(hS.o.some_ (by omega)).1) (by
      by_cases h0:st=0
      ·rw [(hS.o.none_ h0).2];omega
      ·exact(hS.o.some_ (by omega)).2.1) hj)
     go_wp2;exact⟨⟨i+1,j,i+1,j,rfl,by go_num,rfl,by go_num,rfl,by omega,by omega,by omega,by omega,HS',_,rfl⟩,zli hm.o (by simp only [intOf];omega) (by simp only [intOf];omega) (by simp only [intOf];omega) (by simp only [intOf];omega) (by simp only [intOf];omega) (by simp only [intOf];omega) (by simp only [intOf];omega) (by simp only [intOf];omega)⟩
    ·have HX:=O hx;rw [hx] at q1 q2;simp only [Option.isNone_some,CX] at q1 q2;clear hx;have Ma:j<s.data.toList.length:=by rw [HS.o];exact hlt
     by_cases hb:b=s[j]
     ·have HS':=O (hS.o.byte zcl Ma (by rw [HX.o,hb];rfl));have hm:=O (zfv (m:=n) (n:=s.size) (i:=i) (j:=j) (star:=st) (frm:=fr) hlt);rw [hb] at q1;clear hb;go_wp2;go_quiet (fail);go_wp2;exact⟨⟨i+1,j+1,st,fr,rfl,by go_num,by go_num,rfl,rfl,by omega,by omega,by omega,by omega,HS',_,rfl⟩,zli hm.o (by simp only [intOf];omega) (by simp only [intOf];omega) (by simp only [intOf];omega) (by simp only [intOf];omega) (by simp only [intOf];omega) (by simp only [intOf];omega) (by simp only [intOf];omega) (by simp only [intOf];omega)⟩
     ·have hb2:((b.toNat:Int)==(s[j].toNat:Int))=false:=by
       rw [beq_eq_false_iff_ne];intro q;exact hb (UInt8.toNat_inj.1 (by omega))
      have HM:=O (show zfK P s.data.toList i j from⟨Ma,.inr ⟨b,s[j],by rw [List.getElem?_eq_getElem zcl,HX.o],List.getElem?_eq_getElem Ma,hb⟩⟩);clear hb;by_cases h0:st=0
      ·have HF:=O (hS.o.fail h0 HM.o);subst h0;go_wp2;go_quiet (fail);go_wp2;go_ret;exact⟨by rw [HF.o];rfl,PH _ _⟩
      ·have hs1:0<st:=by omega
       have HS':=O (hS.o.again hs1 HM.o);have hf1:=(hS.o.some_ hs1).2.1;have hm:=O (Vv (m:=n) (n:=s.size) (i:=i) (j:=j) (star:=st) (frm:=fr) hf1 hlt);clear h0;have hs2:0<=(st:Int)-1:=by omega
       go_wp2;go_quiet (fail);go_wp2;exact⟨⟨st,fr+1,st,fr+1,rfl,by go_num,by go_num,rfl,by go_num,by omega,by omega,by omega,by omega,HS',_,rfl⟩,zli hm.o (by simp only [intOf];omega) (by simp only [intOf];omega) (by simp only [intOf];omega) (by simp only [intOf];omega) (by simp only [intOf];omega) (by simp only [intOf];omega) (by simp only [intOf];omega) (by simp only [intOf];omega)⟩
   ·have Ma:j<s.data.toList.length:=by rw [HS.o];exact hlt
    have HM:=O (show zfK P s.data.toList i j from⟨Ma,.inl (by rw [<-HN.o];omega)⟩);by_cases h0:st=0
    ·have HF:=O (hS.o.fail h0 HM.o);subst h0;go_wp2;go_quiet (fail);go_wp2;go_ret;exact⟨by rw [HF.o];rfl,PH _ _⟩
    ·have hs1:0<st:=by omega
     have HS':=O (hS.o.again hs1 HM.o);have hf1:=(hS.o.some_ hs1).2.1;have hm:=O (Vv (m:=n) (n:=s.size) (i:=i) (j:=j) (star:=st) (frm:=fr) hf1 hlt);clear h0;have hs2:0<=(st:Int)-1:=by omega
     go_wp2;go_quiet (fail);go_wp2;exact⟨⟨st,fr+1,st,fr+1,rfl,by go_num,by go_num,rfl,by go_num,by omega,by omega,by omega,by omega,HS',_,rfl⟩,zli hm.o (by simp only [intOf];omega) (by simp only [intOf];omega) (by simp only [intOf];omega) (by simp only [intOf];omega) (by simp only [intOf];omega) (by simp only [intOf];omega) (by simp only [intOf];omega) (by simp only [intOf];omega)⟩
  ·have HD:=O (hS.o.done (by rw [HS.o];omega));clear hS;go_wp2;go_loop [5] (λi'=>∃ki:Nat,i' = .int .i64 ki/\ki<=n/\Hid (zU (P.drop i) []=zU (P.drop ki) [])) (λi'=>n-(intOf i').toNat)
   case atStart=>exact⟨i,rfl,hi,rfl⟩
   case round =>
    obtain⟨ki,rfl,hki,hE⟩:=hrel;by_cases hip:ki<n
    ·have zcl:ki<P.length:=by rw [<-HN.o];exact hip
     obtain⟨a,rfl,q1,q2⟩:=HP.o ki P[ki] (List.getElem?_eq_getElem zcl);rcases hx:P[ki] with _|b
     ·have HE:=O (hE.o.trans (U4 zcl hx));rw [hx] at q2;simp only [Option.isNone_none] at q2;clear hx hE q1;go_wp2;go_round
      case rel=>exact⟨ki+1,by go_num,by omega,HE⟩
      case measure=>simp [intOf];omega
     ·have HE:=O (HD.o.trans (hE.o.trans (TT zcl hx)));rw [hx] at q2;simp only [Option.isNone_some] at q2;clear hx hE q1;have hne:((ki:Int)==(n:Int))=false:=by rw [beq_eq_false_iff_ne];omega
      go_wp2;go_ret;exact⟨by rw [HE.o];rfl,PH _ _⟩
    ·have HE:=O (HD.o.trans (hE.o.trans (VQ (by rw [<-HN.o];omega))));obtain rfl:ki=n:=by omega
     clear hE;go_wp2;go_ret;exact⟨by rw [HE.o];simp,PH _ _⟩
def jG:List (Option UInt8)->List Value
 | [] => []
 | x :: r => .int .u8 (CX x):: .bool x.isNone :: jG r
theorem Rn(P Q:List (Option UInt8)):jG (P ++ Q)=jG P ++ jG Q:=by
 induction P with
 | nil=>rfl
 | cons x P ih=>simp [jG,ih]
theorem Zl(P:List (Option UInt8))(k:Nat)(x:Option UInt8)(h:P[k]?=some x):(jG P)[k*2]?=some (.int .u8 (CX x))/\(jG P)[k*2+1]?=some (.bool x.isNone):=by
 induction P generalizing k with
 | nil=>simp at h
 | cons y P ih =>
  cases k with
  | zero=>simp only [List.getElem?_cons_zero,Option.some.injEq] at h;subst h;exact⟨rfl,rfl⟩
  | succ k =>
   have:=ih k (by simpa using h)
   rw [show(k+1)*2=k*2+1+1 by omega]
   simp only [jG,List.getElem?_cons_succ]
   exact this
theorem zeW(g k:Nat):(⟨g,0,none⟩:Addr).add k=⟨g,k,none⟩:=by
 unfold Addr.add;split
 ·rename_i h0;subst h0;rfl
 ·simp
theorem Px{w:World}{B:Nat}{v:Value}{P:List (Option UInt8)}(h:w.ownsRow B 250 2 v P.length (jG P)):∃A c,v = .slice A P.length c/\MI w A P:=by
 rcases h.2 with ⟨rfl,h0⟩|⟨g,cap,cur,rfl,_⟩
 ·have:P = []:=List.eq_nil_of_length_eq_zero h0;subst this;exact⟨none,0,rfl,λk x hx=>by simp at hx⟩
 ·refine⟨some ⟨g,0,none⟩,cap,rfl,λk x hx=>?_⟩;have hk:k<P.length:=(List.getElem?_eq_some_iff.1 hx).1;obtain⟨e1,e2⟩:=Zl P k x hx;have c1:=h.cells (g:=g) rfl _ _ e1;have c2:=h.cells (g:=g) rfl _ _ e2;refine⟨_,rfl,c1,?_⟩;have e:(⟨((⟨g,0,none⟩:Addr).add (k*2)).block,((⟨g,0,none⟩:Addr).add (k*2)).off+1,none⟩:Addr)=(⟨g,0,none⟩:Addr).add (k*2+1):=by
   rw [zeW,zeW]
  rw [e];exact c2
theorem zik:(Tryz.prog.info? 250).map (λi=>(i.zero,i.size,i.bytes))=some (some (.agg #[.int .u8 0,.bool false]),2,2):=by kernel_rfl
theorem NU{w1:World}{B:Nat}{v':Value}{P:List (Option UInt8)}{x:Option UInt8}(h:w1.ownsRow B 250 2 v' (P.length+1) (jG P ++ [.int .u8 (CX x),.bool x.isNone])):
 w1.ownsRow B 250 2 v' (P ++ [x]).length (jG (P ++ [x])):=by
 rw [Rn,List.length_append];exact h
theorem Ny(x:Int)(b:Bool):∀u∈ [Value.int .u8 x,.bool b],u.oneCell'=true:=by
 intro u hu;simp only [List.mem_cons,List.not_mem_nil,or_false] at hu;rcases hu with rfl|rfl <;> rfl
theorem Ox{s:ByteArray}{k:Nat}(h:k<s.size){b:UInt8}(q:(s[k].toNat:Int)=b.toNat):s.data.toList[k]'(by simpa using h)=b :=
 UInt8.toNat_inj.1 (show s[k].toNat=b.toNat by omega)
theorem Y6{s:ByteArray}{k:Nat}(h:k<s.size){b:UInt8}(q:s.data.toList[k]'(by simpa using h)=b):(s[k].toNat:Int)=b.toNat:=by
 have:s[k]=b:=q;rw [this]
theorem zdP(s:ByteArray)(w:World)(hs:s.size<=60):
 Calls Tryz.prog 141 #[.string s] w λe w'=>∃A c,e = .returned (.slice A (jE s.data.toList).length c)/\w'.ownsRow w.heap.size 250 2 (.slice A (jE s.data.toList).length c) (jE s.data.toList).length (jG (jE s.data.toList))/\Below w.heap.size w w':=by
 have HS:=O (show s.data.toList.length=s.size from Array.length_toList);obtain⟨i0,hi,hz0,hz1,hz2⟩:=info_parts zik;go_enter Tryz.func141,Tryz.ntmps141;go_wp2;go_loopw [3,4] (λv i wr=>∃(k:Nat) (Q:List (Option UInt8)),i = .int .i64 k/\k<=s.size/\Q.length<=k/\Hid (jE s.data.toList=Q ++ jE (s.data.toList.drop k))/\Hid (wr.ownsRow w.heap.size 250 2 v Q.length (jG Q))/\Hid (Below w.heap.size w wr)) (λ_ i _=>s.size-(intOf i).toNat)
 case atStart=>exact⟨0,[],rfl,Nat.zero_le _,Nat.le_refl _,rfl,⟨rfl,.inl ⟨rfl,rfl⟩⟩,Below.refl _ _⟩
 case round =>
  obtain⟨k,Q,rfl,hk,hq,hE,hown,hb⟩:=hrel;by_cases hlt:k<s.size
  ·have ve:k<s.data.toList.length:=by rw [HS.o];exact hlt
   by_cases h42:(s[k].toNat:Int)=42
   ·have HE:=O (hE.o.trans (congrArg (Q ++ ·) (Vj ve (Ox hlt h42))));clear hE;go_wp2_with (at_builtin;refine wpList_append_own _ rfl _ _ 204 rfl w.heap.size 250 i0 _ 2 2 Tryz.underlying204 hi hz0 hz1 hz2 rfl (by decide) _ Q.length (jG Q) rfl (hown.o.alloc _) ⟨_,0,none⟩ 1 1 [.int .u8 (CX (none:Option UInt8)),.bool (none:Option UInt8).isNone] rfl rfl (jP _ _ _) (Ny _ _) (by unfold maxLen;omega) (by omega) ?c5 ?_)
    case c5=>have:=hb.o.size;simp;omega
    intro v1 w1 hown1 hgrow1 _;have B1:=O (D7 hb.o (Nat.le_refl _) hown.o _ hgrow1);have O1:=O (NU (x:=none) hown1);clear hown hb hown1 hgrow1;go_wp2;go_roundw
    case rel=>exact⟨k+1,Q ++ [none],by go_num,by omega,by simp;omega,by rw [Hid,List.append_assoc];exact HE.o,O1,B1⟩
    case measure=>simp [intOf];omega
   ·have h42':((s[k].toNat:Int)==42)=false:=beq_eq_false_iff_ne.2 h42;by_cases Pp:(s[k].toNat:Int)=92/\∃h1:k+1<s.size,(s[k+1].toNat:Int)=42
    ·obtain⟨Pp,h1,hs1⟩:=Pp;have HE:=O (hE.o.trans (congrArg (Q ++ ·) (Xl (by rw [HS.o];exact h1) (Ox hlt Pp) (Ox h1 hs1))));clear hE h42;go_wp2_with (at_builtin;refine wpList_append_own _ rfl _ _ 204 rfl w.heap.size 250 i0 _ 2 2 Tryz.underlying204 hi hz0 hz1 hz2 rfl (by decide) _ Q.length (jG Q) rfl (hown.o.alloc _) ⟨_,0,none⟩ 1 1 [.int .u8 (CX (some (42:UInt8))),.bool (some (42:UInt8)).isNone] rfl rfl (jP _ _ _) (Ny _ _) (by unfold maxLen;omega) (by omega) ?c5 ?_)
     case c5=>have:=hb.o.size;simp;omega
     intro v1 w1 hown1 hgrow1 _;have B1:=O (D7 hb.o (Nat.le_refl _) hown.o _ hgrow1);have O1:=O (NU (x:=(some 42)) hown1);clear hown hb hown1 hgrow1;go_wp2;go_roundw
     case rel=>exact⟨k+2,Q ++ [(some 42)],by go_num,by omega,by simp;omega,by rw [Hid,List.append_assoc];exact HE.o,O1,B1⟩
     case measure=>simp [intOf];omega
    ·have hx:s.data.toList[k]=s[k]:=rfl;have HE:=O (hE.o.trans (congrArg (Q ++ ·) (Uc ve (λq=>h42 (Y6 hlt q)) (λq=>Pp ⟨Y6 hlt q.1,by rw [<-HS.o];exact q.2.1,Y6 _ q.2.2⟩))));rw [hx] at HE;clear hE h42 hx;by_cases c1:(s[k].toNat:Int)=92
     ·rw [show s[k]=92 from Ox hlt c1] at HE;by_cases c2:k+1<s.size
      ·have c3:((s[k+1].toNat:Int)==42)=false:=beq_eq_false_iff_ne.2 (λq=>Pp ⟨c1,c2,q⟩);clear Pp;go_wp2_with (at_builtin;refine wpList_append_own _ rfl _ _ 204 rfl w.heap.size 250 i0 _ 2 2 Tryz.underlying204 hi hz0 hz1 hz2 rfl (by decide) _ Q.length (jG Q) rfl (hown.o.alloc _) ⟨_,0,none⟩ 1 1 [.int .u8 (CX (some (92:UInt8))),.bool (some (92:UInt8)).isNone] rfl rfl (jP _ _ _) (Ny _ _) (by unfold maxLen;omega) (by omega) ?c5 ?_)
       case c5=>have:=hb.o.size;simp;omega
       intro v1 w1 hown1 hgrow1 _;have B1:=O (D7 hb.o (Nat.le_refl _) hown.o _ hgrow1);have O1:=O (NU (x:=(some (92:UInt8))) hown1);clear hown hb hown1 hgrow1;go_wp2;go_roundw
       case rel=>exact⟨k+1,Q ++ [(some (92:UInt8))],by go_num,by omega,by simp;omega,by rw [Hid,List.append_assoc];exact HE.o,O1,B1⟩
       case measure=>simp [intOf];omega
      ·clear Pp;go_wp2_with (at_builtin;refine wpList_append_own _ rfl _ _ 204 rfl w.heap.size 250 i0 _ 2 2 Tryz.underlying204 hi hz0 hz1 hz2 rfl (by decide) _ Q.length (jG Q) rfl (hown.o.alloc _) ⟨_,0,none⟩ 1 1 [.int .u8 (CX (some (92:UInt8))),.bool (some (92:UInt8)).isNone] rfl rfl (jP _ _ _) (Ny _ _) (by unfold maxLen;omega) (by omega) ?c5 ?_)
       case c5=>have:=hb.o.size;simp;omega
       intro v1 w1 hown1 hgrow1 _;have B1:=O (D7 hb.o (Nat.le_refl _) hown.o _ hgrow1);have O1:=O (NU (x:=(some (92:UInt8))) hown1);clear hown hb hown1 hgrow1;go_wp2;go_roundw
       case rel=>exact⟨k+1,Q ++ [(some (92:UInt8))],by go_num,by omega,by simp;omega,by rw [Hid,List.append_assoc];exact HE.o,O1,B1⟩
       case measure=>simp [intOf];omega
     ·have c1':((s[k].toNat:Int)==92)=false:=beq_eq_false_iff_ne.2 c1;clear Pp c1;go_wp2_with (at_builtin;refine wpList_append_own _ rfl _ _ 204 rfl w.heap.size 250 i0 _ 2 2 Tryz.underlying204 hi hz0 hz1 hz2 rfl (by decide) _ Q.length (jG Q) rfl (hown.o.alloc _) ⟨_,0,none⟩ 1 1 [.int .u8 (CX (some s[k])),.bool (some s[k]).isNone] rfl rfl (jP _ _ _) (Ny _ _) (by unfold maxLen;omega) (by omega) ?c5 ?_)
      case c5=>have:=hb.o.size;simp;omega
      intro v1 w1 hown1 hgrow1 _;have B1:=O (D7 hb.o (Nat.le_refl _) hown.o _ hgrow1);have O1:=O (NU (x:=(some s[k])) hown1);clear hown hb hown1 hgrow1;go_wp2;go_roundw
      case rel=>exact⟨k+1,Q ++ [(some s[k])],by go_num,by omega,by simp;omega,by rw [Hid,List.append_assoc];exact HE.o,O1,B1⟩
      case measure=>simp [intOf];omega
  ·have HE:=O (show jE s.data.toList=Q by rw [hE.o,WT (by rw [HS.o];omega),List.append_nil]);obtain⟨A,c,hv,-⟩:=Px hown.o;subst hv;have HV:=O hown.o;clear hE hown;go_wp2;go_ret;exact⟨A,c,by rw [HE.o];rfl,by rw [HE.o];exact HV.o,hb.o⟩
theorem KO{s:ByteArray}(h:zt s=0):s.size<=60:=by
 by_cases h1:60<s.size
 ·unfold zt at h;rw [if_pos h1] at h;cases h
 ·omega
theorem zgK{w:World}{B n c:Nat}{A:Option Addr}{P:List (Option UInt8)}(h:w.ownsRow B 250 2 (.slice A n c) P.length (jG P)):n=P.length/\MI w A P:=by
 obtain⟨A',c',e,q⟩:=Px h;injection e with e1 e2 e3;subst e1 e2 e3;exact⟨rfl,q⟩
theorem zgZ(s:ByteArray)(w:World)(hs:s.size<=60):
 Calls Tryz.prog 141 #[.string s] w λe w'=>∃A c,e = .returned (.slice A (jE s.data.toList).length c)/\MI w' A (jE s.data.toList)/\Below w.heap.size w w' :=
 (zdP s w hs).mono λ_ _ ⟨A,c,q1,q2,q3⟩=>⟨A,c,q1,(zgK q2).2,q3⟩
def Jk(p s:ByteArray):Int:=if zt p=0 then zt s else zt p
def LR(p s:ByteArray):Bool:=decide (Jk p s=0)&& zU (jE p.data.toList) s.data.toList
theorem zdZ(p s:ByteArray)(w:World)(hp:p.size<=maxLen)(hs:s.size<=maxLen):
 Calls Tryz.prog 103 #[.string p,.string s] w λe w'=>e = .returned (.tuple #[.bool (LR p s),fa (Jk p s)])/\Below w.heap.size w w':=by
 have P1:=O (λw=>IL p w hp);have P2:=O (λw=>IL s w hs);by_cases h1:zt p=0
 ·have z:=KO h1;rw [h1] at P1;have R:=O (λw=>zgZ p w z);have hE:=O (show Jk p s=zt s by unfold Jk;rw [if_pos h1]);by_cases h2:zt s=0
  ·rw [h2] at P2;have hV:=O (show LR p s=zU (jE p.data.toList) s.data.toList by unfold LR;rw [hE.o,h2];simp);have hE:=O (hE.o.trans h2);clear h1 h2;go_enter Tryz.func103,Tryz.ntmps103;go_wp2_with fail;refine(P1.o _).mono ?_;rintro e w1 ⟨rfl,hb1⟩;rw [zm];go_wp2_with fail;refine(P2.o _).mono ?_;rintro e w2 ⟨rfl,hb2⟩;rw [zm];go_wp2_with fail;refine(R.o _).mono ?_;rintro e w3 ⟨A,c,rfl,hsg,hb3⟩;have hl:(jE p.data.toList).length<=maxLen:=by
    have:=Qf p.data.toList;rw [show p.data.toList.length=p.size from Array.length_toList] at this;unfold maxLen;omega
   have M:=O (zcG A _ c _ s w3 rfl hl hs hsg);clear hsg hl;go_wp2_with fail;refine M.o.mono ?_;rintro e w4 ⟨rfl,hb4⟩;go_wp2;go_ret2;exact⟨by rw [hV.o,hE.o];rfl,hb1.trans ((hb2.trans ((hb3.trans (hb4.mono hb3.size)).mono hb2.size)).mono hb1.size)⟩
  ·have hV:=O (show LR p s=false by unfold LR;rw [hE.o];simp [h2]);rw [zy h2] at P2;rw [hE.o,zy h2];clear h1 h2;go_enter Tryz.func103,Tryz.ntmps103;go_wp2_with fail;refine(P1.o _).mono ?_;rintro e w1 ⟨rfl,hb1⟩;rw [zm];go_wp2_with fail;refine(P2.o _).mono ?_;rintro e w2 ⟨rfl,hb2⟩;go_wp2;go_ret2;exact⟨by rw [hV.o];rfl,hb1.trans (hb2.mono hb1.size)⟩
 ·have hE:=O (show Jk p s=zt p by unfold Jk;rw [if_neg h1]);have hV:=O (show LR p s=false by unfold LR;rw [hE.o];simp [h1]);rw [zy h1] at P1;rw [hE.o,zy h1];clear h1;go_enter Tryz.func103,Tryz.ntmps103;go_wp2_with fail;refine(P1.o _).mono ?_;rintro e w1 ⟨rfl,hb1⟩;go_wp2;go_ret2;exact⟨by rw [hV.o];rfl,hb1⟩
structure Env where
 E:List En
 who:Ud
 act:Ud
 what:Ud
 ctx:List Nd
abbrev Res:=Except Int (List Nd)
def hdN(V:List Nd):Nd:=V.headD ⟨0,0,emp,emp⟩
def zI(b:Bool):List Nd := [⟨1,if b then 1 else 0,emp,emp⟩]
def TP(u:Ud):List Nd := [⟨4,0,u.1,u.2⟩]
def LU(k:Int):List Nd := [⟨2,k,emp,emp⟩]
def jc(V:List Nd):Ud:=((hdN V).s,(hdN V).t)
def Lb:ByteArray:=⟨#[112,114,105,110,99,105,112,97,108]⟩
def Ow:ByteArray:=⟨#[97,99,116,105,111,110]⟩
def IM:ByteArray:=⟨#[114,101,115,111,117,114,99,101]⟩
def Je:ByteArray:=⟨#[99,111,110,116,101,120,116]⟩
def jo(e:Int)(b:Bool):Res:=if e=0 then .ok (zI b) else .error e
def z6(e:Int)(V:List Nd):Res:=if e=0 then .ok V else .error e
def ym(σ:Env)(s:ByteArray):Res :=
 if s=Lb then .ok (TP σ.who) else if s=Ow then .ok (TP σ.act) else if s=IM then .ok (TP σ.what) else if s=Je then .ok σ.ctx else .error 3
def vZ(E:List En)(V:List Nd):Except Int (Option (List Nd)):=
 if zf V=6 then .ok (some V) else if zf V=4 then .ok ((E.find? λx=>decide (x.u=jc V)).map En.P) else .error 2
def f9(B:List Nd):List (List Nd):=if zf B=5 then zg B else [B]
noncomputable def inX(E:List En)(A B:List Nd):Res :=
 if zf A=4/\(f9 B).all (λt=>decide (zf t=4)) then .ok (zI ((f9 B).any λt=>inB E (jc A) (jc t))) else .error 2
def jv(E:List En)(n:Nd)(V:List Nd):Res :=
 if n.op=9 then(if zf V=1 then .ok (zI (decide ((hdN V).n=0))) else .error 2)
 else if n.op=10 then(if zf V=2 then z6 (pU 18 0 (hdN V).n) (LU (vP 18 0 (hdN V).n)) else .error 2)
 else if n.op=23 then(if zf V=3 then jo (Jk n.s (hdN V).s) (LR n.s (hdN V).s) else .error 2)
 else if n.op=24 then(if zf V=4 then .ok (zI (decide ((hdN V).s=n.s))) else .error 2)
 else match vZ E V with
  | .error e => .error e
  | .ok none=>if n.op=21 then .ok (zI false) else .error 8
  | .ok (some r)=>if n.op=21 then .ok (zI (decide (dK r n.s=0))) else z6 (dK r n.s) (IG r n.s)
noncomputable def jO(E:List En)(op:Int)(A B:List Nd):Res :=
 if op=14 then .ok (zI (decide (zu A B=0)))
 else if op=20 then inX E A B
 else if op=25 then jo (Mr A B) (OK A B)
 else if op=26 then jo (jU A B) (P9 A B)
 else if op=27 then jo (jU A B) (Ri A B)
 else if zf A=2/\zf B=2 then
  (if op=15 then .ok (zI (decide ((hdN A).n<(hdN B).n))) else if op=16 then .ok (zI (decide ((hdN A).n<=(hdN B).n)))
   else z6 (pU op (hdN A).n (hdN B).n) (LU (vP op (hdN A).n (hdN B).n)))
 else .error 2
noncomputable def NC(E:List En)(n:Nd):List (List Nd)->Res
 | [V]=>jv E n V
 | [A,B]=>jO E n.op A B
 | _ => .error 0
mutual
noncomputable def evX(σ:Env):Ex->Res
 | .node n ps =>
  if 1<=n.op/\n.op<=4 then .ok [n]
  else if n.op=8 then ym σ n.s
  else if n.op=11\/n.op=12 then jK σ (decide (n.op=12)) ps
  else if n.op=13 then MZ σ ps
  else if n.op=6 then(match evF σ ps with
   | .error e => .error e
   | .ok L=>z6 (oC (L.map Prod.fst) (L.map Prod.snd)) (Ki (L.map Prod.fst) (L.map Prod.snd)))
  else match evS σ ps with
   | .error e => .error e
   | .ok L=>if n.op=5 then z6 (setE L) (setV L) else NC σ.E n L
noncomputable def jK(σ:Env)(o:Bool):Exs->Res
 | .nil => .error 0
 | .cons a r=>match evX σ a with
  | .error e => .error e
  | .ok V=>if zf V=1 then(if decide ((hdN V).n=1)=o then .ok V else CW σ r) else .error 2
noncomputable def CW(σ:Env):Exs->Res
 | .nil => .error 0
 | .cons b _=>match evX σ b with
  | .error e => .error e
  | .ok V=>if zf V=1 then .ok V else .error 2
noncomputable def MZ(σ:Env):Exs->Res
 | .nil => .error 0
 | .cons c r=>match evX σ c with
  | .error e => .error e
  | .ok V=>if zf V=1 then(if(hdN V).n=1 then Jd σ r else NB σ r) else .error 2
noncomputable def Jd(σ:Env):Exs->Res
 | .nil => .error 0
 | .cons a _=>evX σ a
noncomputable def NB(σ:Env):Exs->Res
 | .nil => .error 0
 | .cons _ r=>Jd σ r
noncomputable def evS(σ:Env):Exs->Except Int (List (List Nd))
 | .nil => .ok []
 | .cons x r=>match evX σ x with
  | .error e => .error e
  | .ok V=>match evS σ r with
   | .error e => .error e
   | .ok L => .ok (V :: L)
noncomputable def evF(σ:Env):Exs->Except Int (List (ByteArray × List Nd))
 | .nil => .ok []
 | .cons x r=>match Lf σ x with
  | .error e => .error e
  | .ok V=>match evF σ r with
   | .error e => .error e
   | .ok L => .ok ((x.head.s,V):: L)
noncomputable def Lf(σ:Env):Ex->Res
 | .node _ ps=>Jd σ ps
end
end Go.Proofs.YtokiogmfgpidmaaGreatDoor
namespace Go.Proofs.YtokiogmfgpidmaaGreatDoor
open Go.RowKit Go.Wk Go.Maps
theorem sM{E:List En}:jW E=0↔E.length<=16/\aR [] E=0/\¬∃x∈E,Abv (jn E) x.u x.u:=by
 unfold jW;constructor
 ·intro h;split at h
  ·cases h
  ·rename_i h1;split at h
   ·rename_i h2;split at h
    ·cases h
    ·rename_i h3;exact⟨by omega,h2,h3⟩
   ·rename_i h2;exact absurd h h2
 ·rintro ⟨h1,h2,h3⟩;rw [if_neg (by omega),if_pos h2,if_neg h3]
theorem zgR{x:En}(h:Mn x=0):zc x.P=0/\zf x.P=6:=by
 unfold Mn at h;split at h
 ·cases h
 ·split at h
  ·split at h
   ·rename_i h1;split at h
    ·rename_i h2;exact⟨h1,h2⟩
    ·cases h
   ·rename_i h1;exact absurd h h1
  ·rename_i h1;exact absurd h h1
theorem Qn{E M:List En}(h:aR M E=0){x:En}(hx:x∈E):zc x.P=0/\zf x.P=6:=zgR ((PC E M h).1 x hx).2
end Go.Proofs.YtokiogmfgpidmaaGreatDoor
