/-
  The contracts of like.match, like.read, like.Match. What an expression's value ..
-/
import Derived.Test.YthifljpkgfpkiaaGreatDoorQ15
import Derived.Test.YthifljpkgfpkiaaGreatDoorQ16
import Derived.Test.YthifljpkgfpkiaaGreatDoorQ37
set_option maxRecDepth 100000
set_option maxHeartbeats 4000000
namespace Go.Proofs.YthifljpkgfpkiaaGreatDoor
open Go.RowKit Go.Wk
def cy:Option UInt8->Int
 | none=>0
 | some b=>b.toNat
def iZ(w:World)(A:Option Addr)(P:List (Option UInt8)):Prop :=
 ∀(k:Nat) (x:Option UInt8),P[k]?=some x->∃a,A=some a/\w.cell? (a.add (k*2))=some (.int .u8 (cy x))/\
  w.cell? ⟨(a.add (k*2)).block,(a.add (k*2)).off+1,none⟩=some (.bool x.isNone)
theorem iZ.keep{w w':World}{A:Option Addr}{P:List (Option UInt8)}(h:iZ w A P)(hb:Below w.heap.size w w'):iZ w' A P :=
 λk x hx=>let ⟨a,h1,h2,h3⟩:=h k x hx;⟨a,h1,zb hb h2,zb hb h3⟩
theorem Te{m n a b c d e f g h:Nat}(hm:left m n a b c d<left m n e f g h){a' b' c' d' e' f' g' h':Nat}(h1:a'=a)(h2:b'=b)(h3:c'=c)(h4:d'=d)(h5:e'=e)(h6:f'=f)(h7:g'=g)(h8:h'=h):
 left m n a' b' c' d'<left m n e' f' g' h':=by subst h1 h2 h3 h4 h5 h6 h7 h8;exact hm
theorem oP(w:World)(n:Nat):Below w.heap.size w (w.drewN n):=(Below.refl _ _).drewN n
theorem GL(A:Option Addr)(n c:Nat)(P:List (Option UInt8))(s:ByteArray)(w:World)(hn:n=P.length)(hl:n<=maxLen)(hs:s.size<=maxLen)(hP:iZ w A P):
 Calls Tryz.prog 130 #[.slice A n c,.string s] w λe w'=>e = .returned (.bool (jN P s.data.toList))/\Below w.heap.size w w':=by
 unfold maxLen at hl hs;have HP:=O hP;have HN:=O hn;have HS:=O (show s.data.toList.length=s.size from Array.length_toList);clear hP hn;go_enter Tryz.func130,Tryz.ntmps130;go_wp2;go_loopw [4,5,6,7,8] (λr i j st fr wr=>∃ki kj ks kf:Nat,r = .bool false/\i = .int .i64 ki/\j = .int .i64 kj/\st = .int .i64 ((ks:Int)-1)/\fr = .int .i64 kf/\ki<=n/\kj<=s.size/\ks<=n/\kf<=s.size/\
  Hid (i8 P s.data.toList ki kj ks kf)/\Hid (∃z,wr=w.drewN z)) (λ_ i j st fr _=>left n s.size (intOf i).toNat (intOf j).toNat (intOf st+1).toNat (intOf fr).toNat)
 case atStart=>exact⟨0,0,0,0,rfl,rfl,rfl,rfl,rfl,by omega,by omega,by omega,by omega,i8.start _ _,0,rfl⟩
 case round =>
  obtain⟨i,j,st,fr,rfl,rfl,rfl,rfl,rfl,hi,hj,hst,hfr,hS,hw⟩:=hrel;obtain⟨z,rfl⟩:=hw.o;clear hw;by_cases hlt:j<s.size
  ·by_cases hip:i<n
   ·have FK:i<P.length:=by rw [<-HN.o];exact hip
    obtain⟨a,rfl,q1,q2⟩:=HP.o i P[i] (List.getElem?_eq_getElem FK);rcases hx:P[i] with _|b
    ·have HX:=O hx;rw [hx] at q1 q2;simp only [Option.isNone_none,cy] at q1 q2;clear hx;have HS':=O (hS.o.star FK HX.o);have hm:=O (Mj (m:=n) (n:=s.size) (i:=i) (j:=j) (star:=st) (frm:=fr) hip (by
      by_cases h0:st=0
      ·omega
      ·exact(hS.o.some_ (by omega)).1) (by
      by_cases h0:st=0
      ·rw [(hS.o.none_ h0).2];omega
      ·exact(hS.o.some_ (by omega)).2.1) hj)
     go_wp2;exact⟨⟨i+1,j,i+1,j,rfl,by go_num,rfl,by go_num,rfl,by omega,by omega,by omega,by omega,HS',_,rfl⟩,Te hm.o (by simp only [intOf];omega) (by simp only [intOf];omega) (by simp only [intOf];omega) (by simp only [intOf];omega) (by simp only [intOf];omega) (by simp only [intOf];omega) (by simp only [intOf];omega) (by simp only [intOf];omega)⟩
    ·have HX:=O hx;rw [hx] at q1 q2;simp only [Option.isNone_some,cy] at q1 q2;clear hx;have sf:j<s.data.toList.length:=by rw [HS.o];exact hlt
     by_cases hb:b=s[j]
     ·have HS':=O (hS.o.byte FK sf (by rw [HX.o,hb];rfl));have hm:=O (JV (m:=n) (n:=s.size) (i:=i) (j:=j) (star:=st) (frm:=fr) hlt);rw [hb] at q1;clear hb;go_wp2;go_quiet (fail);go_wp2;exact⟨⟨i+1,j+1,st,fr,rfl,by go_num,by go_num,rfl,rfl,by omega,by omega,by omega,by omega,HS',_,rfl⟩,Te hm.o (by simp only [intOf];omega) (by simp only [intOf];omega) (by simp only [intOf];omega) (by simp only [intOf];omega) (by simp only [intOf];omega) (by simp only [intOf];omega) (by simp only [intOf];omega) (by simp only [intOf];omega)⟩
     ·have hb2:((b.toNat:Int)==(s[j].toNat:Int))=false:=by
       rw [beq_eq_false_iff_ne];intro q;exact hb (UInt8.toNat_inj.1 (by omega))
      have HM:=O (show LC P s.data.toList i j from⟨sf,.inr ⟨b,s[j],by rw [List.getElem?_eq_getElem FK,HX.o],List.getElem?_eq_getElem sf,hb⟩⟩);clear hb;by_cases h0:st=0
      ·have HF:=O (hS.o.fail h0 HM.o);subst h0;go_wp2;go_quiet (fail);go_wp2;go_ret;exact⟨by rw [HF.o];rfl,oP _ _⟩
      ·have hs1:0<st:=by omega
       have HS':=O (hS.o.again hs1 HM.o);have Uu:=(hS.o.some_ hs1).2.1;have hm:=O (vj (m:=n) (n:=s.size) (i:=i) (j:=j) (star:=st) (frm:=fr) Uu hlt);clear h0;have hs2:0<=(st:Int)-1:=by omega
       go_wp2;go_quiet (fail);go_wp2;exact⟨⟨st,fr+1,st,fr+1,rfl,by go_num,by go_num,rfl,by go_num,by omega,by omega,by omega,by omega,HS',_,rfl⟩,Te hm.o (by simp only [intOf];omega) (by simp only [intOf];omega) (by simp only [intOf];omega) (by simp only [intOf];omega) (by simp only [intOf];omega) (by simp only [intOf];omega) (by simp only [intOf];omega) (by simp only [intOf];omega)⟩
   ·have sf:j<s.data.toList.length:=by rw [HS.o];exact hlt
    have HM:=O (show LC P s.data.toList i j from⟨sf,.inl (by rw [<-HN.o];omega)⟩);by_cases h0:st=0
    ·have HF:=O (hS.o.fail h0 HM.o);subst h0;go_wp2;go_quiet (fail);go_wp2;go_ret;exact⟨by rw [HF.o];rfl,oP _ _⟩
    ·have hs1:0<st:=by omega
     have HS':=O (hS.o.again hs1 HM.o);have Uu:=(hS.o.some_ hs1).2.1;have hm:=O (vj (m:=n) (n:=s.size) (i:=i) (j:=j) (star:=st) (frm:=fr) Uu hlt);clear h0;have hs2:0<=(st:Int)-1:=by omega
     go_wp2;go_quiet (fail);go_wp2;exact⟨⟨st,fr+1,st,fr+1,rfl,by go_num,by go_num,rfl,by go_num,by omega,by omega,by omega,by omega,HS',_,rfl⟩,Te hm.o (by simp only [intOf];omega) (by simp only [intOf];omega) (by simp only [intOf];omega) (by simp only [intOf];omega) (by simp only [intOf];omega) (by simp only [intOf];omega) (by simp only [intOf];omega) (by simp only [intOf];omega)⟩
  ·have HD:=O (hS.o.done (by rw [HS.o];omega));clear hS;go_wp2;go_loop [5] (λi'=>∃ki:Nat,i' = .int .i64 ki/\ki<=n/\Hid (jN (P.drop i) []=jN (P.drop ki) [])) (λi'=>n-(intOf i').toNat)
   case atStart=>exact⟨i,rfl,hi,rfl⟩
   case round =>
    obtain⟨ki,rfl,Xb,hE⟩:=hrel;by_cases hip:ki<n
    ·have FK:ki<P.length:=by rw [<-HN.o];exact hip
     obtain⟨a,rfl,q1,q2⟩:=HP.o ki P[ki] (List.getElem?_eq_getElem FK);rcases hx:P[ki] with _|b
     ·have HE:=O (hE.o.trans (uU FK hx));rw [hx] at q2;simp only [Option.isNone_none] at q2;clear hx hE q1;go_wp2;go_round
      case rel=>exact⟨ki+1,by go_num,by omega,HE⟩
      case measure=>simp [intOf];omega
     ·have HE:=O (HD.o.trans (hE.o.trans (tj FK hx)));rw [hx] at q2;simp only [Option.isNone_some] at q2;clear hx hE q1;have hne:((ki:Int)==(n:Int))=false:=by rw [beq_eq_false_iff_ne];omega
      go_wp2;go_ret;exact⟨by rw [HE.o];rfl,oP _ _⟩
    ·have HE:=O (HD.o.trans (hE.o.trans (wT (by rw [<-HN.o];omega))));obtain rfl:ki=n:=by omega
     clear hE;go_wp2;go_ret;exact⟨by rw [HE.o];simp,oP _ _⟩
def jF:List (Option UInt8)->List Value
 | [] => []
 | x :: r => .int .u8 (cy x):: .bool x.isNone :: jF r
theorem qW(P Q:List (Option UInt8)):jF (P ++ Q)=jF P ++ jF Q:=by
 induction P with
 | nil=>rfl
 | cons x P ih=>simp [jF,ih]
theorem yM(P:List (Option UInt8))(k:Nat)(x:Option UInt8)(h:P[k]?=some x):(jF P)[k*2]?=some (.int .u8 (cy x))/\(jF P)[k*2+1]?=some (.bool x.isNone):=by
 induction P generalizing k with
 | nil=>simp at h
 | cons y P ih =>
  cases k with
  | zero=>simp only [List.getElem?_cons_zero,Option.some.injEq] at h;subst h;exact⟨rfl,rfl⟩
  | succ k =>
   have:=ih k (by simpa using h)
   rw [show(k+1)*2=k*2+1+1 by omega]
   simp only [jF,List.getElem?_cons_succ]
   exact this
theorem Jf(g k:Nat):(⟨g,0,none⟩:Addr).add k=⟨g,k,none⟩:=by
 unfold Addr.add;split
 ·rename_i h0;subst h0;rfl
 ·simp
theorem pL{w:World}{B:Nat}{v:Value}{P:List (Option UInt8)}(h:w.ownsRow B 275 2 v P.length (jF P)):∃A c,v = .slice A P.length c/\iZ w A P:=by
 rcases h.2 with ⟨rfl,h0⟩|⟨g,cap,cur,rfl,_⟩
 ·have:P = []:=List.eq_nil_of_length_eq_zero h0;subst this;exact⟨none,0,rfl,λk x hx=>by simp at hx⟩
 ·refine⟨some ⟨g,0,none⟩,cap,rfl,λk x hx=>?_⟩;have hk:k<P.length:=(List.getElem?_eq_some_iff.1 hx).1;obtain⟨e1,e2⟩:=yM P k x hx;have c1:=h.cells (g:=g) rfl _ _ e1;have c2:=h.cells (g:=g) rfl _ _ e2;refine⟨_,rfl,c1,?_⟩;have e:(⟨((⟨g,0,none⟩:Addr).add (k*2)).block,((⟨g,0,none⟩:Addr).add (k*2)).off+1,none⟩:Addr)=(⟨g,0,none⟩:Addr).add (k*2+1):=by
   rw [Jf,Jf]
  rw [e];exact c2
theorem Pt:(Tryz.prog.info? 275).map (λi=>(i.zero,i.size,i.bytes))=some (some (.agg #[.int .u8 0,.bool false]),2,2):=by kernel_rfl
theorem lz{w1:World}{B:Nat}{v':Value}{P:List (Option UInt8)}{x:Option UInt8}(h:w1.ownsRow B 275 2 v' (P.length+1) (jF P ++ [.int .u8 (cy x),.bool x.isNone])):
 w1.ownsRow B 275 2 v' (P ++ [x]).length (jF (P ++ [x])):=by
 rw [qW,List.length_append];exact h
theorem lS(x:Int)(b:Bool):∀u∈ [Value.int .u8 x,.bool b],u.oneCell'=true:=by
 intro u hu;simp only [List.mem_cons,List.not_mem_nil,or_false] at hu;rcases hu with rfl|rfl <;> rfl
theorem sr{s:ByteArray}{k:Nat}(h:k<s.size){b:UInt8}(q:(s[k].toNat:Int)=b.toNat):s.data.toList[k]'(by simpa using h)=b :=
 UInt8.toNat_inj.1 (show s[k].toNat=b.toNat by omega)
theorem Az{s:ByteArray}{k:Nat}(h:k<s.size){b:UInt8}(q:s.data.toList[k]'(by simpa using h)=b):(s[k].toNat:Int)=b.toNat:=by
 have:s[k]=b:=q;rw [this]
theorem GM(s:ByteArray)(w:World)(hs:s.size<=60):
 Calls Tryz.prog 131 #[.string s] w λe w'=>∃A c,e = .returned (.slice A (aW s.data.toList).length c)/\w'.ownsRow w.heap.size 275 2 (.slice A (aW s.data.toList).length c) (aW s.data.toList).length (jF (aW s.data.toList))/\Below w.heap.size w w':=by
 have HS:=O (show s.data.toList.length=s.size from Array.length_toList);obtain⟨i0,hi,hz0,hz1,hz2⟩:=info_parts Pt;go_enter Tryz.func131,Tryz.ntmps131;go_wp2;go_loopw [3,4] (λv i wr=>∃(k:Nat) (Q:List (Option UInt8)),i = .int .i64 k/\k<=s.size/\Q.length<=k/\Hid (aW s.data.toList=Q ++ aW (s.data.toList.drop k))/\Hid (wr.ownsRow w.heap.size 275 2 v Q.length (jF Q))/\Hid (Below w.heap.size w wr)) (λ_ i _=>s.size-(intOf i).toNat)
 case atStart=>exact⟨0,[],rfl,Nat.zero_le _,Nat.le_refl _,rfl,⟨rfl,.inl ⟨rfl,rfl⟩⟩,Below.refl _ _⟩
 case round =>
  obtain⟨k,Q,rfl,hk,hq,hE,hown,hb⟩:=hrel;by_cases hlt:k<s.size
  ·have db:k<s.data.toList.length:=by rw [HS.o];exact hlt
   by_cases h42:(s[k].toNat:Int)=42
   ·have HE:=O (hE.o.trans (congrArg (Q ++ ·) (G' db (sr hlt h42))));clear hE;go_wp2_with (at_builtin;refine wpList_append_own _ rfl _ _ 229 rfl w.heap.size 275 i0 _ 2 2 Tryz.underlying229 hi hz0 hz1 hz2 rfl (by decide) _ Q.length (jF Q) rfl (hown.o.alloc _) ⟨_,0,none⟩ 1 1 [.int .u8 (cy (none:Option UInt8)),.bool (none:Option UInt8).isNone] rfl rfl (ag _ _ _) (lS _ _) (by unfold maxLen;omega) (by omega) ?c5 ?_)
    case c5=>have:=hb.o.size;simp;omega
    intro v1 w1 hown1 hgrow1 _;have B1:=O (dJ hb.o (Nat.le_refl _) hown.o _ hgrow1);have O1:=O (lz (x:=none) hown1);clear hown hb hown1 hgrow1;go_wp2;go_roundw
    case rel=>exact⟨k+1,Q ++ [none],by go_num,by omega,by simp;omega,by rw [Hid,List.append_assoc];exact HE.o,O1,B1⟩
    case measure=>simp [intOf];omega
   ·have h42':((s[k].toNat:Int)==42)=false:=beq_eq_false_iff_ne.2 h42;by_cases oG:(s[k].toNat:Int)=92/\∃h1:k+1<s.size,(s[k+1].toNat:Int)=42
    ·obtain⟨oG,h1,hs1⟩:=oG;have HE:=O (hE.o.trans (congrArg (Q ++ ·) (Kk (by rw [HS.o];exact h1) (sr hlt oG) (sr h1 hs1))));clear hE h42;go_wp2_with (at_builtin;refine wpList_append_own _ rfl _ _ 229 rfl w.heap.size 275 i0 _ 2 2 Tryz.underlying229 hi hz0 hz1 hz2 rfl (by decide) _ Q.length (jF Q) rfl (hown.o.alloc _) ⟨_,0,none⟩ 1 1 [.int .u8 (cy (some (42:UInt8))),.bool (some (42:UInt8)).isNone] rfl rfl (ag _ _ _) (lS _ _) (by unfold maxLen;omega) (by omega) ?c5 ?_)
     case c5=>have:=hb.o.size;simp;omega
     intro v1 w1 hown1 hgrow1 _;have B1:=O (dJ hb.o (Nat.le_refl _) hown.o _ hgrow1);have O1:=O (lz (x:=(some 42)) hown1);clear hown hb hown1 hgrow1;go_wp2;go_roundw
     case rel=>exact⟨k+2,Q ++ [(some 42)],by go_num,by omega,by simp;omega,by rw [Hid,List.append_assoc];exact HE.o,O1,B1⟩
     case measure=>simp [intOf];omega
    ·have hx:s.data.toList[k]=s[k]:=rfl;have HE:=O (hE.o.trans (congrArg (Q ++ ·) (Ie db (λq=>h42 (Az hlt q)) (λq=>oG ⟨Az hlt q.1,by rw [<-HS.o];exact q.2.1,Az _ q.2.2⟩))));rw [hx] at HE;clear hE h42 hx;by_cases c1:(s[k].toNat:Int)=92
     ·rw [show s[k]=92 from sr hlt c1] at HE;by_cases c2:k+1<s.size
      ·have c3:((s[k+1].toNat:Int)==42)=false:=beq_eq_false_iff_ne.2 (λq=>oG ⟨c1,c2,q⟩);clear oG;go_wp2_with (at_builtin;refine wpList_append_own _ rfl _ _ 229 rfl w.heap.size 275 i0 _ 2 2 Tryz.underlying229 hi hz0 hz1 hz2 rfl (by decide) _ Q.length (jF Q) rfl (hown.o.alloc _) ⟨_,0,none⟩ 1 1 [.int .u8 (cy (some (92:UInt8))),.bool (some (92:UInt8)).isNone] rfl rfl (ag _ _ _) (lS _ _) (by unfold maxLen;omega) (by omega) ?c5 ?_)
       case c5=>have:=hb.o.size;simp;omega
       intro v1 w1 hown1 hgrow1 _;have B1:=O (dJ hb.o (Nat.le_refl _) hown.o _ hgrow1);have O1:=O (lz (x:=(some (92:UInt8))) hown1);clear hown hb hown1 hgrow1;go_wp2;go_roundw
       case rel=>exact⟨k+1,Q ++ [(some (92:UInt8))],by go_num,by omega,by simp;omega,by rw [Hid,List.append_assoc];exact HE.o,O1,B1⟩
       case measure=>simp [intOf];omega
      ·clear oG;go_wp2_with (at_builtin;refine wpList_append_own _ rfl _ _ 229 rfl w.heap.size 275 i0 _ 2 2 Tryz.underlying229 hi hz0 hz1 hz2 rfl (by decide) _ Q.length (jF Q) rfl (hown.o.alloc _) ⟨_,0,none⟩ 1 1 [.int .u8 (cy (some (92:UInt8))),.bool (some (92:UInt8)).isNone] rfl rfl (ag _ _ _) (lS _ _) (by unfold maxLen;omega) (by omega) ?c5 ?_)
       case c5=>have:=hb.o.size;simp;omega
       intro v1 w1 hown1 hgrow1 _;have B1:=O (dJ hb.o (Nat.le_refl _) hown.o _ hgrow1);have O1:=O (lz (x:=(some (92:UInt8))) hown1);clear hown hb hown1 hgrow1;go_wp2;go_roundw
       case rel=>exact⟨k+1,Q ++ [(some (92:UInt8))],by go_num,by omega,by simp;omega,by rw [Hid,List.append_assoc];exact HE.o,O1,B1⟩
       case measure=>simp [intOf];omega
     ·have c1':((s[k].toNat:Int)==92)=false:=beq_eq_false_iff_ne.2 c1;clear oG c1;go_wp2_with (at_builtin;refine wpList_append_own _ rfl _ _ 229 rfl w.heap.size 275 i0 _ 2 2 Tryz.underlying229 hi hz0 hz1 hz2 rfl (by decide) _ Q.length (jF Q) rfl (hown.o.alloc _) ⟨_,0,none⟩ 1 1 [.int .u8 (cy (some s[k])),.bool (some s[k]).isNone] rfl rfl (ag _ _ _) (lS _ _) (by unfold maxLen;omega) (by omega) ?c5 ?_)
      case c5=>have:=hb.o.size;simp;omega
      intro v1 w1 hown1 hgrow1 _;have B1:=O (dJ hb.o (Nat.le_refl _) hown.o _ hgrow1);have O1:=O (lz (x:=(some s[k])) hown1);clear hown hb hown1 hgrow1;go_wp2;go_roundw
      case rel=>exact⟨k+1,Q ++ [(some s[k])],by go_num,by omega,by simp;omega,by rw [Hid,List.append_assoc];exact HE.o,O1,B1⟩
      case measure=>simp [intOf];omega
  ·have HE:=O (show aW s.data.toList=Q by rw [hE.o,Mp (by rw [HS.o];omega),List.append_nil]);obtain⟨A,c,hv,-⟩:=pL hown.o;subst hv;have HV:=O hown.o;clear hE hown;go_wp2;go_ret;exact⟨A,c,by rw [HE.o];rfl,by rw [HE.o];exact HV.o,hb.o⟩
theorem vR{s:ByteArray}(h:zx s=0):s.size<=60:=by
 by_cases h1:60<s.size
 ·unfold zx at h;rw [if_pos h1] at h;cases h
 ·omega
theorem Km{w:World}{B n c:Nat}{A:Option Addr}{P:List (Option UInt8)}(h:w.ownsRow B 275 2 (.slice A n c) P.length (jF P)):n=P.length/\iZ w A P:=by
 obtain⟨A',c',e,q⟩:=pL h;injection e with e1 e2 e3;subst e1 e2 e3;exact⟨rfl,q⟩
theorem Lg(s:ByteArray)(w:World)(hs:s.size<=60):
 Calls Tryz.prog 131 #[.string s] w λe w'=>∃A c,e = .returned (.slice A (aW s.data.toList).length c)/\iZ w' A (aW s.data.toList)/\Below w.heap.size w w' :=
 (GM s w hs).mono λ_ _ ⟨A,c,q1,q2,q3⟩=>⟨A,c,q1,(Km q2).2,q3⟩
def fZ(p s:ByteArray):Int:=if zx p=0 then zx s else zx p
def nu(p s:ByteArray):Bool:=decide (fZ p s=0)&& jN (aW p.data.toList) s.data.toList
theorem Ga(p s:ByteArray)(w:World)(hp:p.size<=maxLen)(hs:s.size<=maxLen):
 Calls Tryz.prog 96 #[.string p,.string s] w λe w'=>e = .returned (.tuple #[.bool (nu p s),je (fZ p s)])/\Below w.heap.size w w':=by
 have P1:=O (λw=>dZ p w hp);have P2:=O (λw=>dZ s w hs);by_cases h1:zx p=0
 ·have z:=vR h1;rw [h1] at P1;have R:=O (λw=>Lg p w z);have hE:=O (show fZ p s=zx s by unfold fZ;rw [if_pos h1]);by_cases h2:zx s=0
  ·rw [h2] at P2;have hV:=O (show nu p s=jN (aW p.data.toList) s.data.toList by unfold nu;rw [hE.o,h2];simp);have hE:=O (hE.o.trans h2);clear h1 h2;go_enter Tryz.func96,Tryz.ntmps96;go_wp2_with fail;refine(P1.o _).mono ?_;rintro e w1 ⟨rfl,hb1⟩;rw [zj];go_wp2_with fail;refine(P2.o _).mono ?_;rintro e w2 ⟨rfl,hb2⟩;rw [zj];go_wp2_with fail;refine(R.o _).mono ?_;rintro e w3 ⟨A,c,rfl,XW,hb3⟩;have hl:(aW p.data.toList).length<=maxLen:=by
    have:=Ah p.data.toList;rw [show p.data.toList.length=p.size from Array.length_toList] at this;unfold maxLen;omega
   have M:=O (GL A _ c _ s w3 rfl hl hs XW);clear XW hl;go_wp2_with fail;refine M.o.mono ?_;rintro e w4 ⟨rfl,hb4⟩;go_wp2;go_ret2;exact⟨by rw [hV.o,hE.o];rfl,hb1.trans ((hb2.trans ((hb3.trans (hb4.mono hb3.size)).mono hb2.size)).mono hb1.size)⟩
  ·have hV:=O (show nu p s=false by unfold nu;rw [hE.o];simp [h2]);rw [zm h2] at P2;rw [hE.o,zm h2];clear h1 h2;go_enter Tryz.func96,Tryz.ntmps96;go_wp2_with fail;refine(P1.o _).mono ?_;rintro e w1 ⟨rfl,hb1⟩;rw [zj];go_wp2_with fail;refine(P2.o _).mono ?_;rintro e w2 ⟨rfl,hb2⟩;go_wp2;go_ret2;exact⟨by rw [hV.o];rfl,hb1.trans (hb2.mono hb1.size)⟩
 ·have hE:=O (show fZ p s=zx p by unfold fZ;rw [if_neg h1]);have hV:=O (show nu p s=false by unfold nu;rw [hE.o];simp [h1]);rw [zm h1] at P1;rw [hE.o,zm h1];clear h1;go_enter Tryz.func96,Tryz.ntmps96;go_wp2_with fail;refine(P1.o _).mono ?_;rintro e w1 ⟨rfl,hb1⟩;go_wp2;go_ret2;exact⟨by rw [hV.o];rfl,hb1⟩
structure Env where
 E:List En
 who:Ud
 act:Ud
 what:Ud
 ctx:List Nd
abbrev Res:=Except Int (List Nd)
def hdN(V:List Nd):Nd:=V.headD ⟨0,0,emp,emp⟩
def zS(b:Bool):List Nd := [⟨1,if b then 1 else 0,emp,emp⟩]
def ib(u:Ud):List Nd := [⟨4,0,u.1,u.2⟩]
def pA(k:Int):List Nd := [⟨2,k,emp,emp⟩]
def aF(V:List Nd):Ud:=((hdN V).s,(hdN V).t)
def eD:ByteArray:=⟨#[112,114,105,110,99,105,112,97,108]⟩
def kh:ByteArray:=⟨#[97,99,116,105,111,110]⟩
def dr:ByteArray:=⟨#[114,101,115,111,117,114,99,101]⟩
def dF:ByteArray:=⟨#[99,111,110,116,101,120,116]⟩
def aJ(e:Int)(b:Bool):Res:=if e=0 then .ok (zS b) else .error e
def jx(e:Int)(V:List Nd):Res:=if e=0 then .ok V else .error e
def bp(σ:Env)(s:ByteArray):Res :=
 if s=eD then .ok (ib σ.who) else if s=kh then .ok (ib σ.act) else if s=dr then .ok (ib σ.what) else if s=dF then .ok σ.ctx else .error 3
def cf(E:List En)(V:List Nd):Except Int (Option (List Nd)):=
 if zg V=6 then .ok (some V) else if zg V=4 then .ok ((E.find? λx=>decide (x.u=aF V)).map En.P) else .error 2
def aE(B:List Nd):List (List Nd):=if zg B=5 then zn B else [B]
noncomputable def inX(E:List En)(A B:List Nd):Res :=
 if zg A=4/\(aE B).all (λt=>decide (zg t=4)) then .ok (zS ((aE B).any λt=>inB E (aF A) (aF t))) else .error 2
def bq(E:List En)(n:Nd)(V:List Nd):Res :=
 if n.op=9 then(if zg V=1 then .ok (zS (decide ((hdN V).n=0))) else .error 2)
 else if n.op=10 then(if zg V=2 then jx (ee 18 0 (hdN V).n) (pA (fO 18 0 (hdN V).n)) else .error 2)
 else if n.op=23 then(if zg V=3 then aJ (fZ n.s (hdN V).s) (nu n.s (hdN V).s) else .error 2)
 else if n.op=24 then(if zg V=4 then .ok (zS (decide ((hdN V).s=n.s))) else .error 2)
 else match cf E V with
  | .error e => .error e
  | .ok none=>if n.op=21 then .ok (zS false) else .error 8
  | .ok (some r)=>if n.op=21 then .ok (zS (decide (cY r n.s=0))) else jx (cY r n.s) (l9 r n.s)
noncomputable def aS(E:List En)(op:Int)(A B:List Nd):Res :=
 if op=14 then .ok (zS (decide (zJ A B=0)))
 else if op=20 then inX E A B
 else if op=25 then aJ (pw A B) (rX A B)
 else if op=26 then aJ (aO A B) (Ap A B)
 else if op=27 then aJ (aO A B) (CZ A B)
 else if zg A=2/\zg B=2 then
  (if op=15 then .ok (zS (decide ((hdN A).n<(hdN B).n))) else if op=16 then .ok (zS (decide ((hdN A).n<=(hdN B).n)))
   else jx (ee op (hdN A).n (hdN B).n) (pA (fO op (hdN A).n (hdN B).n)))
 else .error 2
noncomputable def vS(E:List En)(n:Nd):List (List Nd)->Res
 | [V]=>bq E n V
 | [A,B]=>aS E n.op A B
 | _ => .error 0
mutual
noncomputable def evX(σ:Env):Ex->Res
 | .node n ps =>
  if 1<=n.op/\n.op<=4 then .ok [n]
  else if n.op=8 then bp σ n.s
  else if n.op=11\/n.op=12 then zZ σ (decide (n.op=12)) ps
  else if n.op=13 then lj σ ps
  else if n.op=6 then(match evF σ ps with
   | .error e => .error e
   | .ok L=>jx (cO (L.map Prod.fst) (L.map Prod.snd)) (mf (L.map Prod.fst) (L.map Prod.snd)))
  else match evS σ ps with
   | .error e => .error e
   | .ok L=>if n.op=5 then jx (setE L) (kr L) else vS σ.E n L
noncomputable def zZ(σ:Env)(o:Bool):Exs->Res
 | .nil => .error 0
 | .cons a r=>match evX σ a with
  | .error e => .error e
  | .ok V=>if zg V=1 then(if decide ((hdN V).n=1)=o then .ok V else aY σ r) else .error 2
noncomputable def aY(σ:Env):Exs->Res
 | .nil => .error 0
 | .cons b _=>match evX σ b with
  | .error e => .error e
  | .ok V=>if zg V=1 then .ok V else .error 2
noncomputable def lj(σ:Env):Exs->Res
 | .nil => .error 0
 | .cons c r=>match evX σ c with
  | .error e => .error e
  | .ok V=>if zg V=1 then(if(hdN V).n=1 then k9 σ r else rk σ r) else .error 2
noncomputable def k9(σ:Env):Exs->Res
 | .nil => .error 0
 | .cons a _=>evX σ a
noncomputable def rk(σ:Env):Exs->Res
 | .nil => .error 0
 | .cons _ r=>k9 σ r
noncomputable def evS(σ:Env):Exs->Except Int (List (List Nd))
 | .nil => .ok []
 | .cons x r=>match evX σ x with
  | .error e => .error e
  | .ok V=>match evS σ r with
   | .error e => .error e
   | .ok L => .ok (V :: L)
noncomputable def evF(σ:Env):Exs->Except Int (List (ByteArray × List Nd))
 | .nil => .ok []
 | .cons x r=>match ni σ x with
  | .error e => .error e
  | .ok V=>match evF σ r with
   | .error e => .error e
   | .ok L => .ok ((x.head.s,V):: L)
noncomputable def ni(σ:Env):Ex->Res
 | .node _ ps=>k9 σ ps
end
structure gQ(σ:Env):Prop where
 e:jU σ.E=0
 who:zN σ.who=0
 act:zN σ.act=0
 what:zN σ.what=0
 ctx:zh σ.ctx=0/\zg σ.ctx=6
theorem sD{n:Nd}(h1:1<=n.op/\n.op<=4)(h:zC n=true):zh [n]=0:=by rw [D1 n h1,if_pos h]
theorem yd(b:Bool):zh (zS b)=0:=sD (show(1:Int)<=1/\(1:Int)<=4 by decide) (by cases b <;> decide)
theorem Jt(k:Int):zh (pA k)=0:=sD (show(1:Int)<=2/\(2:Int)<=4 by decide) (by unfold zC;simp [noB,emp];rfl)
theorem su{u:Ud}(h:zN u=0):zh (ib u)=0:=by
 refine sD (show(1:Int)<=4/\(4:Int)<=4 by decide) ?_;unfold zN at h;have h1:zk u.1=0:=by
  by_cases q:zk u.1=0
  ·exact q
  ·rw [if_neg q] at h;exact h
 rw [if_pos h1] at h;unfold zC;simp [h1,h]
theorem Sa{r:List Nd}{s:ByteArray}(hr:zh r=0)(h:cY r s=0):zh (l9 r s)=0:=by
 unfold l9;rw [if_pos h];unfold cY at h;rw [if_pos hr] at h;by_cases h6:zg r=6
 ·rw [if_pos h6] at h;rcases hg:wX r s with _|V
  ·rw [hg] at h;cases h
  ·obtain⟨hl,hv⟩:=zy.1 hr;obtain⟨e,-,h3,-⟩:=dD hv h6;unfold wX at hg;rw [Option.map_eq_some_iff] at hg;obtain⟨x,hx,rfl⟩:=hg;have hm:=List.mem_of_find?_eq_some hx;refine zy.2 ⟨?_,(h3 x hm).1⟩;have:x.2.length<=(zV (zo r)).length:=by
    generalize zo r=L at hm
    induction L with
    | nil=>cases hm
    | cons y L ih =>
     simp only [zV,List.length_cons,List.length_append]
     rcases List.mem_cons.1 hm with rfl|hm
     ·omega
     ·have:=ih hm;omega
   rw [e] at hl;simp only [List.length_cons] at hl;simp only [Option.getD_some];omega
 ·rw [if_neg h6] at h;cases h
theorem mx{e:Int}{b:Bool}{V:List Nd}(h:aJ e b = .ok V):zh V=0:=by
 unfold aJ at h;split at h
 ·injection h with h;subst h;exact yd b
 ·cases h
theorem iR{e:Int}{W V:List Nd}(h:jx e W = .ok V)(hw:e=0->zh W=0):zh V=0:=by
 unfold jx at h;split at h
 ·rename_i h0;injection h with h;subst h;exact hw h0
 ·cases h
theorem eQ{b:Bool}{V:List Nd}(h:(Except.ok (zS b):Res)= .ok V):zh V=0:=by
 injection h with h;subst h;exact yd b
theorem LD{σ:Env}(hσ:gQ σ){s:ByteArray}{V:List Nd}(h:bp σ s = .ok V):zh V=0:=by
 unfold bp at h;split at h
 ·injection h with h;subst h;exact su hσ.who
 ·split at h
  ·injection h with h;subst h;exact su hσ.act
  ·split at h
   ·injection h with h;subst h;exact su hσ.what
   ·split at h
    ·injection h with h;subst h;exact hσ.ctx.1
    ·cases h
theorem I0{E:List En}(hE:jU E=0){V r:List Nd}(hV:zh V=0)(h:cf E V = .ok (some r)):zh r=0/\zg r=6:=by
 unfold cf at h;split at h
 ·rename_i h6;injection h with h;injection h with h;subst h;exact⟨hV,h6⟩
 ·split at h
  ·injection h with h;rw [Option.map_eq_some_iff] at h;obtain⟨x,hx,rfl⟩:=h;exact sy (gJ.1 hE).2.1 (List.mem_of_find?_eq_some hx)
  ·cases h
theorem Vj{E:List En}(hE:jU E=0){n:Nd}{V W:List Nd}(hV:zh V=0)(h:bq E n V = .ok W):zh W=0:=by
 unfold bq at h;split at h
 ·split at h
  ·exact eQ h
  ·cases h
 ·split at h
  ·split at h
   ·exact iR h λ_=>Jt _
   ·cases h
  ·split at h
   ·split at h
    ·exact mx h
    ·cases h
   ·split at h
    ·split at h
     ·exact eQ h
     ·cases h
    ·rcases hr:cf E V with e|(_|r)
     ·rw [hr] at h;cases h
     ·rw [hr] at h;simp only at h;split at h
      ·exact eQ h
      ·cases h
     ·rw [hr] at h;simp only at h;split at h
      ·exact eQ h
      ·exact iR h λh0=>Sa (I0 hE hV hr).1 h0
theorem U3{E:List En}{op:Int}{A B W:List Nd}(h:aS E op A B = .ok W):zh W=0:=by
 unfold aS at h;split at h
 ·exact eQ h
 ·split at h
  ·unfold inX at h;split at h
   ·exact eQ h
   ·cases h
  ·split at h
   ·exact mx h
   ·split at h
    ·exact mx h
    ·split at h
     ·exact mx h
     ·split at h
      ·split at h
       ·exact eQ h
       ·split at h
        ·exact eQ h
        ·exact iR h λ_=>Jt _
      ·cases h
theorem P9{E:List En}(hE:jU E=0){n:Nd}{L:List (List Nd)}{W:List Nd}(hL:∀V∈L,zh V=0)(h:vS E n L = .ok W):zh W=0:=by
 match L,hL,h with
 | [V],hL,h=>exact Vj hE (hL V (by simp)) h
 | [A,B],_,h=>exact U3 h
 | [],_,h=>cases h
 | _ :: _ :: _ :: _,_,h=>cases h
mutual
theorem eh{σ:Env}(hσ:gQ σ):∀(x:Ex) (f:Bool),x.valid f->∀V,evX σ x = .ok V->zh V=0
 | .node n ps,f,hv,V,h=>by
  obtain⟨h1,-,h3⟩:=hv;have hs:aA n=true:=by unfold bP at h1;rw [Bool.and_eq_true] at h1;exact h1.1
  unfold evX at h;split at h
  ·rename_i h14;injection h with h;subst h;exact sD h14 (by rw [<-kQ (by omega)];exact hs)
  ·split at h
   ·exact LD hσ h
   ·split at h
    ·exact Ep hσ ps _ _ h3 _ V h
    ·split at h
     ·exact So hσ ps _ _ h3 V h
     ·split at h
      ·rcases hF:evF σ ps with e|L
       ·rw [hF] at h;cases h
       ·rw [hF] at h;exact iR h λh0=>(C7 h0).1
      ·rcases hS:evS σ ps with e|L
       ·rw [hS] at h;cases h
       ·rw [hS] at h;simp only at h;split at h
        ·exact iR h λh0=>(tM h0).1
        ·exact P9 hσ.e (Py hσ ps _ _ h3 L hS) h
theorem Ep{σ:Env}(hσ:gQ σ):∀(ps:Exs) (c:Bool) (s:ByteArray),ps.valid c s->∀(o:Bool) (V:List Nd),zZ σ o ps = .ok V->zh V=0
 | .nil,_,_,_,_,_,h=>by cases h
 | .cons a r,c,s,hv,o,V,h=>by
  unfold zZ at h;rcases ha:evX σ a with e|W
  ·rw [ha] at h;cases h
  ·rw [ha] at h;simp only at h;split at h
   ·split at h
    ·injection h with h;subst h;exact eh hσ a _ hv.2.1 _ ha
    ·exact LE hσ r _ _ hv.2.2 V h
   ·cases h
theorem LE{σ:Env}(hσ:gQ σ):∀(ps:Exs) (c:Bool) (s:ByteArray),ps.valid c s->∀V,aY σ ps = .ok V->zh V=0
 | .nil,_,_,_,_,h=>by cases h
 | .cons b _,c,s,hv,V,h=>by
  unfold aY at h;rcases hb:evX σ b with e|W
  ·rw [hb] at h;cases h
  ·rw [hb] at h;simp only at h;split at h
   ·injection h with h;subst h;exact eh hσ b _ hv.2.1 _ hb
   ·cases h
theorem So{σ:Env}(hσ:gQ σ):∀(ps:Exs) (c:Bool) (s:ByteArray),ps.valid c s->∀V,lj σ ps = .ok V->zh V=0
 | .nil,_,_,_,_,h=>by cases h
 | .cons b r,c,s,hv,V,h=>by
  unfold lj at h;rcases hb:evX σ b with e|W
  ·rw [hb] at h;cases h
  ·rw [hb] at h;simp only at h;split at h
   ·split at h
    ·exact Fc hσ r _ _ hv.2.2 V h
    ·exact Qi hσ r _ _ hv.2.2 V h
   ·cases h
theorem Fc{σ:Env}(hσ:gQ σ):∀(ps:Exs) (c:Bool) (s:ByteArray),ps.valid c s->∀V,k9 σ ps = .ok V->zh V=0
 | .nil,_,_,_,_,h=>by cases h
 | .cons a _,c,s,hv,V,h=>by
  unfold k9 at h;exact eh hσ a _ hv.2.1 V h
theorem Qi{σ:Env}(hσ:gQ σ):∀(ps:Exs) (c:Bool) (s:ByteArray),ps.valid c s->∀V,rk σ ps = .ok V->zh V=0
 | .nil,_,_,_,_,h=>by cases h
 | .cons _ r,c,s,hv,V,h=>by
  unfold rk at h;exact Fc hσ r _ _ hv.2.2 V h
theorem Py{σ:Env}(hσ:gQ σ):∀(ps:Exs) (c:Bool) (s:ByteArray),ps.valid c s->∀L,evS σ ps = .ok L->∀V∈L,zh V=0
 | .nil,_,_,_,L,h=>by
  unfold evS at h;injection h with h;subst h;intro V hV;cases hV
 | .cons x r,c,s,hv,L,h=>by
  unfold evS at h;rcases hx:evX σ x with e|W
  ·rw [hx] at h;cases h
  ·rw [hx] at h;simp only at h;rcases hr:evS σ r with e|M
   ·rw [hr] at h;cases h
   ·rw [hr] at h;simp only at h;injection h with h;subst h;intro V hV;rcases List.mem_cons.1 hV with rfl|hV
    ·exact eh hσ x _ hv.2.1 _ hx
    ·exact Py hσ r _ _ hv.2.2 M hr V hV
end
def CB:List Ex->Exs
 | [] => .nil
 | x :: r => .cons x (CB r)
theorem Oi(σ:Env):∀(L:List Ex),(∀x∈L,evX σ x = .ok x.flat)->evS σ (CB L)= .ok (L.map Ex.flat)
 | [],_=>by simp only [CB,evS,List.map_nil]
 | x :: r,h=>by simp only [CB,evS,h x (by simp),Oi σ r λy hy=>h y (by simp [hy]),List.map_cons]
end Go.Proofs.YthifljpkgfpkiaaGreatDoor
