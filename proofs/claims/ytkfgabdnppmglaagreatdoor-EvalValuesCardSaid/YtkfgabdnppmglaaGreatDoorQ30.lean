/-
  The contracts of like.match, like.read, like.Match. What an expression's value is, or what is wrong: by its parts. No program in sight (but for the rows in ..
-/
import Derived.Test.YtkfgabdnppmglaaGreatDoorQ2
import Derived.Test.YtkfgabdnppmglaaGreatDoorQ7
import Derived.Test.YtkfgabdnppmglaaGreatDoorQ8
import Derived.Test.YtkfgabdnppmglaaGreatDoorQ9
import Derived.Test.YtkfgabdnppmglaaGreatDoorQ10
import Derived.Test.YtkfgabdnppmglaaGreatDoorQ11
import Derived.Test.YtkfgabdnppmglaaGreatDoorQ18
import Derived.Test.YtkfgabdnppmglaaGreatDoorQ23
import Derived.Test.YtkfgabdnppmglaaGreatDoorQ26
import Derived.Test.YtkfgabdnppmglaaGreatDoorQ27
import Derived.Test.YtkfgabdnppmglaaGreatDoorQ28
import Derived.Test.YtkfgabdnppmglaaGreatDoorQ29
set_option maxRecDepth 100000
set_option maxHeartbeats 4000000
namespace Go.Proofs.YtkfgabdnppmglaaGreatDoor
open Go.RowKit Go.Wk
def za1:Option UInt8→Int
 | none=>0
 | some b=>b.toNat
def zdc(w:World)(A:Option Addr)(P:List (Option UInt8)):Prop :=
 ∀(k:Nat) (x:Option UInt8),P[k]?=some x→∃a,A=some a∧w.cell? (a.add (k*2))=some (.int .u8 (za1 x))∧
  w.cell? ⟨(a.add (k*2)).block,(a.add (k*2)).off+1,none⟩=some (.bool x.isNone)
theorem zdc.keep{w w':World}{A:Option Addr}{P:List (Option UInt8)}(h:zdc w A P)(hb:Below w.heap.size w w'):zdc w' A P :=
 fun k x hx=>let ⟨a,h1,h2,h3⟩:=h k x hx;⟨a,h1,za hb h2,za hb h3⟩
theorem ztt{m n a b c d e f g h:Nat}(hm:left m n a b c d<left m n e f g h){a' b' c' d' e' f' g' h':Nat}(h1:a'=a)(h2:b'=b)(h3:c'=c)(h4:d'=d)(h5:e'=e)(h6:f'=f)(h7:g'=g)(h8:h'=h):
 left m n a' b' c' d'<left m n e' f' g' h':=by subst h1 h2 h3 h4 h5 h6 h7 h8;exact hm
theorem zfi(w:World)(n:Nat):Below w.heap.size w (w.drewN n):=(Below.refl _ _).drewN n
theorem znA(A:Option Addr)(n c:Nat)(P:List (Option UInt8))(s:ByteArray)(w:World)(hn:n=P.length)(hl:n≤maxLen)(hs:s.size≤maxLen)(hP:zdc w A P):
 Calls Tryz.prog 122 #[.slice A n c,.string s] w fun e w'=>e = .returned (.bool (zX P s.data.toList))∧Below w.heap.size w w':=by
 unfold maxLen at hl hs;have HP:=hi9 hP;have HN:=hi9 hn;have HS:=hi9 (show s.data.toList.length=s.size from Array.length_toList);clear hP hn;go_enter Tryz.func122,Tryz.ntmps122;go_wp2;go_loopw [4,5,6,7,8] (fun r i j st fr wr=>∃ki kj ks kf:Nat,r = .bool false∧i = .int .i64 ki∧j = .int .i64 kj∧st = .int .i64 ((ks:Int)-1)∧fr = .int .i64 kf∧ki≤n∧kj≤s.size∧ks≤n∧kf≤s.size∧
  Hid (zdp P s.data.toList ki kj ks kf)∧Hid (∃z,wr=w.drewN z)) (fun _ i j st fr _=>left n s.size (intOf i).toNat (intOf j).toNat (intOf st+1).toNat (intOf fr).toNat)
 case atStart=>exact⟨0,0,0,0,rfl,rfl,rfl,rfl,rfl,by omega,by omega,by omega,by omega,zdp.start _ _,0,rfl⟩
 case round =>
  obtain⟨i,j,st,fr,rfl,rfl,rfl,rfl,rfl,hi,hj,hst,hfr,hS,hw⟩:=hrel;obtain⟨z,rfl⟩:=hw.out;clear hw;by_cases hlt:j<s.size
  ·by_cases hip:i<n
   ·have hip':i<P.length:=by rw [←HN.out];exact hip
    obtain⟨a,rfl,q1,q2⟩:=HP.out i P[i] (List.getElem?_eq_getElem hip');rcases hx:P[i] with _|b
    ·have HX:=hi9 hx;rw [hx] at q1 q2;simp only [Option.isNone_none,za1] at q1 q2;clear hx;have HS':=hi9 (hS.out.star hip' HX.out);have hm:=hi9 (zpU (m:=n) (n:=s.size) (i:=i) (j:=j) (star:=st) (frm:=fr) hip (by
      by_cases h0:st=0
      ·omega
      ·exact(hS.out.some_ (by omega)).1) (by
      by_cases h0:st=0
      ·rw [(hS.out.none_ h0).2];omega
      ·exact(hS.out.some_ (by omega)).2.1) hj)
     go_wp2;exact⟨⟨i+1,j,i+1,j,rfl,by go_num,rfl,by go_num,rfl,by omega,by omega,by omega,by omega,HS',_,rfl⟩,ztt hm.out (by simp only [intOf];omega) (by simp only [intOf];omega) (by simp only [intOf];omega) (by simp only [intOf];omega) (by simp only [intOf];omega) (by simp only [intOf];omega) (by simp only [intOf];omega) (by simp only [intOf];omega)⟩
    ·have HX:=hi9 hx;rw [hx] at q1 q2;simp only [Option.isNone_some,za1] at q1 q2;clear hx;have hjl:j<s.data.toList.length:=by rw [HS.out];exact hlt
     by_cases hb:b=s[j]
     ·have HS':=hi9 (hS.out.byte hip' hjl (by rw [HX.out,hb];rfl));have hm:=hi9 (zqy (m:=n) (n:=s.size) (i:=i) (j:=j) (star:=st) (frm:=fr) hlt);rw [hb] at q1;clear hb;go_wp2;go_quiet (fail);go_wp2;exact⟨⟨i+1,j+1,st,fr,rfl,by go_num,by go_num,rfl,rfl,by omega,by omega,by omega,by omega,HS',_,rfl⟩,ztt hm.out (by simp only [intOf];omega) (by simp only [intOf];omega) (by simp only [intOf];omega) (by simp only [intOf];omega) (by simp only [intOf];omega) (by simp only [intOf];omega) (by simp only [intOf];omega) (by simp only [intOf];omega)⟩
     ·have hb2:((b.toNat:Int)==(s[j].toNat:Int))=false:=by
       rw [beq_eq_false_iff_ne];intro q;exact hb (UInt8.toNat_inj.1 (by omega))
      have HM:=hi9 (show zp4 P s.data.toList i j from⟨hjl,.inr ⟨b,s[j],by rw [List.getElem?_eq_getElem hip',HX.out],List.getElem?_eq_getElem hjl,hb⟩⟩)
      clear hb
      by_cases h0:st=0
      ·have HF:=hi9 (hS.out.fail h0 HM.out)
       subst h0;go_wp2;go_quiet (fail);go_wp2;go_ret;exact⟨by rw [HF.out];rfl,zfi _ _⟩
      ·have hs1:0<st:=by omega
       have HS':=hi9 (hS.out.again hs1 HM.out);have hf1:=(hS.out.some_ hs1).2.1;have hm:=hi9 (zh9 (m:=n) (n:=s.size) (i:=i) (j:=j) (star:=st) (frm:=fr) hf1 hlt);clear h0;have hs2:0≤(st:Int)-1:=by omega
       go_wp2;go_quiet (fail);go_wp2;exact⟨⟨st,fr+1,st,fr+1,rfl,by go_num,by go_num,rfl,by go_num,by omega,by omega,by omega,by omega,HS',_,rfl⟩,ztt hm.out (by simp only [intOf];omega) (by simp only [intOf];omega) (by simp only [intOf];omega) (by simp only [intOf];omega) (by simp only [intOf];omega) (by simp only [intOf];omega) (by simp only [intOf];omega) (by simp only [intOf];omega)⟩
   ·have hjl:j<s.data.toList.length:=by rw [HS.out];exact hlt
    have HM:=hi9 (show zp4 P s.data.toList i j from⟨hjl,.inl (by rw [←HN.out];omega)⟩);by_cases h0:st=0
    ·have HF:=hi9 (hS.out.fail h0 HM.out);subst h0;go_wp2;go_quiet (fail);go_wp2;go_ret;exact⟨by rw [HF.out];rfl,zfi _ _⟩
    ·have hs1:0<st:=by omega
     have HS':=hi9 (hS.out.again hs1 HM.out);have hf1:=(hS.out.some_ hs1).2.1;have hm:=hi9 (zh9 (m:=n) (n:=s.size) (i:=i) (j:=j) (star:=st) (frm:=fr) hf1 hlt);clear h0;have hs2:0≤(st:Int)-1:=by omega
     go_wp2;go_quiet (fail);go_wp2;exact⟨⟨st,fr+1,st,fr+1,rfl,by go_num,by go_num,rfl,by go_num,by omega,by omega,by omega,by omega,HS',_,rfl⟩,ztt hm.out (by simp only [intOf];omega) (by simp only [intOf];omega) (by simp only [intOf];omega) (by simp only [intOf];omega) (by simp only [intOf];omega) (by simp only [intOf];omega) (by simp only [intOf];omega) (by simp only [intOf];omega)⟩
  ·have HD:=hi9 (hS.out.done (by rw [HS.out];omega));clear hS;go_wp2;go_loop [5] (fun i'=>∃ki:Nat,i' = .int .i64 ki∧ki≤n∧Hid (zX (P.drop i) []=zX (P.drop ki) [])) (fun i'=>n-(intOf i').toNat)
   case atStart=>exact⟨i,rfl,hi,rfl⟩
   case round =>
    obtain⟨ki,rfl,hki,hE⟩:=hrel;by_cases hip:ki<n
    ·have hip':ki<P.length:=by rw [←HN.out];exact hip
     obtain⟨a,rfl,q1,q2⟩:=HP.out ki P[ki] (List.getElem?_eq_getElem hip');rcases hx:P[ki] with _|b
     ·have HE:=hi9 (hE.out.trans (zio hip' hx));rw [hx] at q2;simp only [Option.isNone_none] at q2;clear hx hE q1;go_wp2;go_round
      case rel=>exact⟨ki+1,by go_num,by omega,HE⟩
      case measure=>simp [intOf];omega
     ·have HE:=hi9 (HD.out.trans (hE.out.trans (zhE hip' hx)));rw [hx] at q2;simp only [Option.isNone_some] at q2;clear hx hE q1;have hne:((ki:Int)==(n:Int))=false:=by rw [beq_eq_false_iff_ne];omega
      go_wp2;go_ret;exact⟨by rw [HE.out];rfl,zfi _ _⟩
    ·have HE:=hi9 (HD.out.trans (hE.out.trans (zjj (by rw [←HN.out];omega))));obtain rfl:ki=n:=by omega
     clear hE;go_wp2;go_ret;exact⟨by rw [HE.out];simp,zfi _ _⟩
def jC:List (Option UInt8)→List Value
 | [] => []
 | x :: r => .int .u8 (za1 x):: .bool x.isNone :: jC r
theorem zfW(P Q:List (Option UInt8)):jC (P ++ Q)=jC P ++ jC Q:=by
 induction P with
 | nil=>rfl
 | cons x P ih=>simp [jC,ih]
theorem zk4(P:List (Option UInt8))(k:Nat)(x:Option UInt8)(h:P[k]?=some x):(jC P)[k*2]?=some (.int .u8 (za1 x))∧(jC P)[k*2+1]?=some (.bool x.isNone):=by
 induction P generalizing k with
 | nil=>simp at h
 | cons y P ih =>
  cases k with
  | zero=>simp only [List.getElem?_cons_zero,Option.some.injEq] at h;subst h;exact⟨rfl,rfl⟩
  | succ k =>
   have:=ih k (by simpa using h)
   rw [show(k+1)*2=k*2+1+1 by omega]
   simp only [jC,List.getElem?_cons_succ]
   exact this
theorem zo5(g k:Nat):(⟨g,0,none⟩:Addr).add k=⟨g,k,none⟩:=by
 unfold Addr.add;split
 ·rename_i h0;subst h0;rfl
 ·simp
theorem zeX{w:World}{B:Nat}{v:Value}{P:List (Option UInt8)}(h:w.ownsRow B 231 2 v P.length (jC P)):∃A c,v = .slice A P.length c∧zdc w A P:=by
 rcases h.2 with ⟨rfl,h0⟩|⟨g,cap,cur,rfl,_⟩
 ·have:P = []:=List.eq_nil_of_length_eq_zero h0;subst this;exact⟨none,0,rfl,fun k x hx=>by simp at hx⟩
 ·refine⟨some ⟨g,0,none⟩,cap,rfl,fun k x hx=>?_⟩;have hk:k<P.length:=(List.getElem?_eq_some_iff.1 hx).1;obtain⟨e1,e2⟩:=zk4 P k x hx;have c1:=h.cells (g:=g) rfl _ _ e1;have c2:=h.cells (g:=g) rfl _ _ e2;refine⟨_,rfl,c1,?_⟩;have e:(⟨((⟨g,0,none⟩:Addr).add (k*2)).block,((⟨g,0,none⟩:Addr).add (k*2)).off+1,none⟩:Addr)=(⟨g,0,none⟩:Addr).add (k*2+1):=by
   rw [zo5,zo5]
  rw [e];exact c2
theorem zsU:(Tryz.prog.info? 231).map (fun i=>(i.zero,i.size,i.bytes))=some (some (.agg #[.int .u8 0,.bool false]),2,2):=by kernel_rfl
theorem zdQ{w1:World}{B:Nat}{v':Value}{P:List (Option UInt8)}{x:Option UInt8}(h:w1.ownsRow B 231 2 v' (P.length+1) (jC P ++ [.int .u8 (za1 x),.bool x.isNone])):
 w1.ownsRow B 231 2 v' (P ++ [x]).length (jC (P ++ [x])):=by
 rw [zfW,List.length_append];exact h
theorem zd3(x:Int)(b:Bool):∀u∈ [Value.int .u8 x,.bool b],u.oneCell'=true:=by
 intro u hu;simp only [List.mem_cons,List.not_mem_nil,or_false] at hu;rcases hu with rfl|rfl <;> rfl
theorem zek{s:ByteArray}{k:Nat}(h:k<s.size){b:UInt8}(q:(s[k].toNat:Int)=b.toNat):s.data.toList[k]'(by simpa using h)=b :=
 UInt8.toNat_inj.1 (show s[k].toNat=b.toNat by omega)
theorem zkB{s:ByteArray}{k:Nat}(h:k<s.size){b:UInt8}(q:s.data.toList[k]'(by simpa using h)=b):(s[k].toNat:Int)=b.toNat:=by
 have:s[k]=b:=q;rw [this]
theorem znz(s:ByteArray)(w:World)(hs:s.size≤60):
 Calls Tryz.prog 123 #[.string s] w fun e w'=>∃A c,e = .returned (.slice A (jw s.data.toList).length c)∧w'.ownsRow w.heap.size 231 2 (.slice A (jw s.data.toList).length c) (jw s.data.toList).length (jC (jw s.data.toList))∧Below w.heap.size w w':=by
 have HS:=hi9 (show s.data.toList.length=s.size from Array.length_toList);obtain⟨i0,hi,hz0,hz1,hz2⟩:=info_parts zsU;go_enter Tryz.func123,Tryz.ntmps123;go_wp2;go_loopw [3,4] (fun v i wr=>∃(k:Nat) (Q:List (Option UInt8)),i = .int .i64 k∧k≤s.size∧Q.length≤k∧Hid (jw s.data.toList=Q ++ jw (s.data.toList.drop k))∧Hid (wr.ownsRow w.heap.size 231 2 v Q.length (jC Q))∧Hid (Below w.heap.size w wr)) (fun _ i _=>s.size-(intOf i).toNat)
 case atStart=>exact⟨0,[],rfl,Nat.zero_le _,Nat.le_refl _,rfl,⟨rfl,.inl ⟨rfl,rfl⟩⟩,Below.refl _ _⟩
 case round =>
  obtain⟨k,Q,rfl,hk,hq,hE,hown,hb⟩:=hrel;by_cases hlt:k<s.size
  ·have hlt':k<s.data.toList.length:=by rw [HS.out];exact hlt
   by_cases h42:(s[k].toNat:Int)=42
   ·have HE:=hi9 (hE.out.trans (congrArg (Q ++ ·) (zhO hlt' (zek hlt h42))));clear hE;go_wp2_with (at_builtin;refine wpList_append_own _ rfl _ _ 171 rfl w.heap.size 231 i0 _ 2 2 Tryz.underlying171 hi hz0 hz1 hz2 rfl (by decide) _ Q.length (jC Q) rfl (hown.out.alloc _) ⟨_,0,none⟩ 1 1 [.int .u8 (za1 (none:Option UInt8)),.bool (none:Option UInt8).isNone] rfl rfl (jW _ _ _) (zd3 _ _) (by unfold maxLen;omega) (by omega) ?c5 ?_)
    case c5=>have:=hb.out.size;simp;omega
    intro v1 w1 hown1 hgrow1 _;have B1:=hi9 (zbe hb.out (Nat.le_refl _) hown.out _ hgrow1);have O1:=hi9 (zdQ (x:=none) hown1);clear hown hb hown1 hgrow1;go_wp2;go_roundw
    case rel=>exact⟨k+1,Q ++ [none],by go_num,by omega,by simp;omega,by rw [Hid,List.append_assoc];exact HE.out,O1,B1⟩
    case measure=>simp [intOf];omega
   ·have h42':((s[k].toNat:Int)==42)=false:=beq_eq_false_iff_ne.2 h42;by_cases h92:(s[k].toNat:Int)=92∧∃h1:k+1<s.size,(s[k+1].toNat:Int)=42
    ·obtain⟨h92,h1,hs1⟩:=h92;have HE:=hi9 (hE.out.trans (congrArg (Q ++ ·) (zjN (by rw [HS.out];exact h1) (zek hlt h92) (zek h1 hs1))));clear hE h42;go_wp2_with (at_builtin;refine wpList_append_own _ rfl _ _ 171 rfl w.heap.size 231 i0 _ 2 2 Tryz.underlying171 hi hz0 hz1 hz2 rfl (by decide) _ Q.length (jC Q) rfl (hown.out.alloc _) ⟨_,0,none⟩ 1 1 [.int .u8 (za1 (some (42:UInt8))),.bool (some (42:UInt8)).isNone] rfl rfl (jW _ _ _) (zd3 _ _) (by unfold maxLen;omega) (by omega) ?c5 ?_)
     case c5=>have:=hb.out.size;simp;omega
     intro v1 w1 hown1 hgrow1 _;have B1:=hi9 (zbe hb.out (Nat.le_refl _) hown.out _ hgrow1);have O1:=hi9 (zdQ (x:=(some 42)) hown1);clear hown hb hown1 hgrow1;go_wp2;go_roundw
     case rel=>exact⟨k+2,Q ++ [(some 42)],by go_num,by omega,by simp;omega,by rw [Hid,List.append_assoc];exact HE.out,O1,B1⟩
     case measure=>simp [intOf];omega
    ·have hx:s.data.toList[k]=s[k]:=rfl;have HE:=hi9 (hE.out.trans (congrArg (Q ++ ·) (zid hlt' (fun q=>h42 (zkB hlt q)) (fun q=>h92 ⟨zkB hlt q.1,by rw [←HS.out];exact q.2.1,zkB _ q.2.2⟩))));rw [hx] at HE;clear hE h42 hx;by_cases c1:(s[k].toNat:Int)=92
     ·rw [show s[k]=92 from zek hlt c1] at HE;by_cases c2:k+1<s.size
      ·have c3:((s[k+1].toNat:Int)==42)=false:=beq_eq_false_iff_ne.2 (fun q=>h92 ⟨c1,c2,q⟩);clear h92;go_wp2_with (at_builtin;refine wpList_append_own _ rfl _ _ 171 rfl w.heap.size 231 i0 _ 2 2 Tryz.underlying171 hi hz0 hz1 hz2 rfl (by decide) _ Q.length (jC Q) rfl (hown.out.alloc _) ⟨_,0,none⟩ 1 1 [.int .u8 (za1 (some (92:UInt8))),.bool (some (92:UInt8)).isNone] rfl rfl (jW _ _ _) (zd3 _ _) (by unfold maxLen;omega) (by omega) ?c5 ?_)
       case c5=>have:=hb.out.size;simp;omega
       intro v1 w1 hown1 hgrow1 _;have B1:=hi9 (zbe hb.out (Nat.le_refl _) hown.out _ hgrow1);have O1:=hi9 (zdQ (x:=(some (92:UInt8))) hown1);clear hown hb hown1 hgrow1;go_wp2;go_roundw
       case rel=>exact⟨k+1,Q ++ [(some (92:UInt8))],by go_num,by omega,by simp;omega,by rw [Hid,List.append_assoc];exact HE.out,O1,B1⟩
       case measure=>simp [intOf];omega
      ·clear h92;go_wp2_with (at_builtin;refine wpList_append_own _ rfl _ _ 171 rfl w.heap.size 231 i0 _ 2 2 Tryz.underlying171 hi hz0 hz1 hz2 rfl (by decide) _ Q.length (jC Q) rfl (hown.out.alloc _) ⟨_,0,none⟩ 1 1 [.int .u8 (za1 (some (92:UInt8))),.bool (some (92:UInt8)).isNone] rfl rfl (jW _ _ _) (zd3 _ _) (by unfold maxLen;omega) (by omega) ?c5 ?_)
       case c5=>have:=hb.out.size;simp;omega
       intro v1 w1 hown1 hgrow1 _;have B1:=hi9 (zbe hb.out (Nat.le_refl _) hown.out _ hgrow1);have O1:=hi9 (zdQ (x:=(some (92:UInt8))) hown1);clear hown hb hown1 hgrow1;go_wp2;go_roundw
       case rel=>exact⟨k+1,Q ++ [(some (92:UInt8))],by go_num,by omega,by simp;omega,by rw [Hid,List.append_assoc];exact HE.out,O1,B1⟩
       case measure=>simp [intOf];omega
     ·have c1':((s[k].toNat:Int)==92)=false:=beq_eq_false_iff_ne.2 c1;clear h92 c1;go_wp2_with (at_builtin;refine wpList_append_own _ rfl _ _ 171 rfl w.heap.size 231 i0 _ 2 2 Tryz.underlying171 hi hz0 hz1 hz2 rfl (by decide) _ Q.length (jC Q) rfl (hown.out.alloc _) ⟨_,0,none⟩ 1 1 [.int .u8 (za1 (some s[k])),.bool (some s[k]).isNone] rfl rfl (jW _ _ _) (zd3 _ _) (by unfold maxLen;omega) (by omega) ?c5 ?_)
      case c5=>have:=hb.out.size;simp;omega
      intro v1 w1 hown1 hgrow1 _;have B1:=hi9 (zbe hb.out (Nat.le_refl _) hown.out _ hgrow1);have O1:=hi9 (zdQ (x:=(some s[k])) hown1);clear hown hb hown1 hgrow1;go_wp2;go_roundw
      case rel=>exact⟨k+1,Q ++ [(some s[k])],by go_num,by omega,by simp;omega,by rw [Hid,List.append_assoc];exact HE.out,O1,B1⟩
      case measure=>simp [intOf];omega
  ·have HE:=hi9 (show jw s.data.toList=Q by rw [hE.out,zjT (by rw [HS.out];omega),List.append_nil]);obtain⟨A,c,hv,-⟩:=zeX hown.out;subst hv;have HV:=hi9 hown.out;clear hE hown;go_wp2;go_ret;exact⟨A,c,by rw [HE.out];rfl,by rw [HE.out];exact HV.out,hb.out⟩
theorem zcu{s:ByteArray}(h:zr s=0):s.size≤60:=by
 by_cases h1:60<s.size
 ·unfold zr at h;rw [if_pos h1] at h;cases h
 ·omega
theorem zqP{w:World}{B n c:Nat}{A:Option Addr}{P:List (Option UInt8)}(h:w.ownsRow B 231 2 (.slice A n c) P.length (jC P)):n=P.length∧zdc w A P:=by
 obtain⟨A',c',e,q⟩:=zeX h;injection e with e1 e2 e3;subst e1 e2 e3;exact⟨rfl,q⟩
theorem zp7(s:ByteArray)(w:World)(hs:s.size≤60):
 Calls Tryz.prog 123 #[.string s] w fun e w'=>∃A c,e = .returned (.slice A (jw s.data.toList).length c)∧zdc w' A (jw s.data.toList)∧Below w.heap.size w w' :=
 (znz s w hs).mono fun _ _ ⟨A,c,q1,q2,q3⟩=>⟨A,c,q1,(zqP q2).2,q3⟩
def zbW(p s:ByteArray):Int:=if zr p=0 then zr s else zr p
def zcB(p s:ByteArray):Bool:=decide (zbW p s=0)&& zX (jw p.data.toList) s.data.toList
theorem znU(p s:ByteArray)(w:World)(hp:p.size≤maxLen)(hs:s.size≤maxLen):
 Calls Tryz.prog 83 #[.string p,.string s] w fun e w'=>e = .returned (.tuple #[.bool (zcB p s),j3 (zbW p s)])∧Below w.heap.size w w':=by
 have P1:=hi9 (fun w=>zbS p w hp);have P2:=hi9 (fun w=>zbS s w hs);by_cases h1:zr p=0
 ·have z:=zcu h1;rw [h1] at P1;have R:=hi9 (fun w=>zp7 p w z);have hE:=hi9 (show zbW p s=zr s by unfold zbW;rw [if_pos h1]);by_cases h2:zr s=0
  ·rw [h2] at P2;have hV:=hi9 (show zcB p s=zX (jw p.data.toList) s.data.toList by unfold zcB;rw [hE.out,h2];simp);have hE:=hi9 (hE.out.trans h2);clear h1 h2;go_enter Tryz.func83,Tryz.ntmps83;go_wp2_with fail;refine(P1.out _).mono ?_;rintro e w1 ⟨rfl,hb1⟩;rw [zo];go_wp2_with fail;refine(P2.out _).mono ?_;rintro e w2 ⟨rfl,hb2⟩;rw [zo];go_wp2_with fail;refine(R.out _).mono ?_;rintro e w3 ⟨A,c,rfl,hsg,hb3⟩;have hl:(jw p.data.toList).length≤maxLen:=by
    have:=zfy p.data.toList;rw [show p.data.toList.length=p.size from Array.length_toList] at this;unfold maxLen;omega
   have M:=hi9 (znA A _ c _ s w3 rfl hl hs hsg);clear hsg hl;go_wp2_with fail;refine M.out.mono ?_;rintro e w4 ⟨rfl,hb4⟩;go_wp2;go_ret2;exact⟨by rw [hV.out,hE.out];rfl,hb1.trans ((hb2.trans ((hb3.trans (hb4.mono hb3.size)).mono hb2.size)).mono hb1.size)⟩
  ·have hV:=hi9 (show zcB p s=false by unfold zcB;rw [hE.out];simp [h2]);rw [zC h2] at P2;rw [hE.out,zC h2];clear h1 h2;go_enter Tryz.func83,Tryz.ntmps83;go_wp2_with fail;refine(P1.out _).mono ?_;rintro e w1 ⟨rfl,hb1⟩;rw [zo];go_wp2_with fail;refine(P2.out _).mono ?_;rintro e w2 ⟨rfl,hb2⟩;go_wp2;go_ret2;exact⟨by rw [hV.out];rfl,hb1.trans (hb2.mono hb1.size)⟩
 ·have hE:=hi9 (show zbW p s=zr p by unfold zbW;rw [if_neg h1]);have hV:=hi9 (show zcB p s=false by unfold zcB;rw [hE.out];simp [h1]);rw [zC h1] at P1;rw [hE.out,zC h1];clear h1;go_enter Tryz.func83,Tryz.ntmps83;go_wp2_with fail;refine(P1.out _).mono ?_;rintro e w1 ⟨rfl,hb1⟩;go_wp2;go_ret2;exact⟨by rw [hV.out];rfl,hb1⟩
structure Env where
 E:List En
 who:Ud
 act:Ud
 what:Ud
 ctx:List Nd
abbrev Res:=Except Int (List Nd)
def hdN(V:List Nd):Nd:=V.headD ⟨0,0,emp,emp⟩
def zt(b:Bool):List Nd := [⟨1,if b then 1 else 0,emp,emp⟩]
def zeH(u:Ud):List Nd := [⟨4,0,u.1,u.2⟩]
def zcZ(k:Int):List Nd := [⟨2,k,emp,emp⟩]
def jd(V:List Nd):Ud:=((hdN V).s,(hdN V).t)
def za8:ByteArray:=⟨#[112,114,105,110,99,105,112,97,108]⟩
def zbV:ByteArray:=⟨#[97,99,116,105,111,110]⟩
def zao:ByteArray:=⟨#[114,101,115,111,117,114,99,101]⟩
def zaw:ByteArray:=⟨#[99,111,110,116,101,120,116]⟩
def js(e:Int)(b:Bool):Res:=if e=0 then .ok (zt b) else .error e
def z8(e:Int)(V:List Nd):Res:=if e=0 then .ok V else .error e
def jF(σ:Env)(s:ByteArray):Res :=
 if s=za8 then .ok (zeH σ.who) else if s=zbV then .ok (zeH σ.act) else if s=zao then .ok (zeH σ.what) else if s=zaw then .ok σ.ctx else .error 3
def za5(E:List En)(V:List Nd):Except Int (Option (List Nd)):=
 if zf V=6 then .ok (some V) else if zf V=4 then .ok ((E.find? fun x=>decide (x.u=jd V)).map En.P) else .error 2
def j4(B:List Nd):List (List Nd):=if zf B=5 then zl B else [B]
noncomputable def inX(E:List En)(A B:List Nd):Res :=
 if zf A=4∧(j4 B).all (fun t=>decide (zf t=4)) then .ok (zt ((j4 B).any fun t=>inB E (jd A) (jd t))) else .error 2
def jE(E:List En)(n:Nd)(V:List Nd):Res :=
 if n.op=9 then(if zf V=1 then .ok (zt (decide ((hdN V).n=0))) else .error 2)
 else if n.op=10 then(if zf V=2 then z8 (zan 18 0 (hdN V).n) (zcZ (zaE 18 0 (hdN V).n)) else .error 2)
 else if n.op=23 then(if zf V=3 then js (zbW n.s (hdN V).s) (zcB n.s (hdN V).s) else .error 2)
 else if n.op=24 then(if zf V=4 then .ok (zt (decide ((hdN V).s=n.s))) else .error 2)
 else match za5 E V with
  | .error e => .error e
  | .ok none=>if n.op=21 then .ok (zt false) else .error 8
  | .ok (some r)=>if n.op=21 then .ok (zt (decide (zah r n.s=0))) else z8 (zah r n.s) (zb0 r n.s)
noncomputable def jQ(E:List En)(op:Int)(A B:List Nd):Res :=
 if op=14 then .ok (zt (decide (zu A B=0)))
 else if op=20 then inX E A B
 else if op=25 then js (zc7 A B) (zeo A B)
 else if op=26 then js (jM A B) (zfa A B)
 else if op=27 then js (jM A B) (zfY A B)
 else if zf A=2∧zf B=2 then
  (if op=15 then .ok (zt (decide ((hdN A).n<(hdN B).n))) else if op=16 then .ok (zt (decide ((hdN A).n≤(hdN B).n)))
   else z8 (zan op (hdN A).n (hdN B).n) (zcZ (zaE op (hdN A).n (hdN B).n)))
 else .error 2
noncomputable def zeD(E:List En)(n:Nd):List (List Nd)→Res
 | [V]=>jE E n V
 | [A,B]=>jQ E n.op A B
 | _ => .error 0
mutual
noncomputable def evX(σ:Env):Ex→Res
 | .node n ps =>
  if 1≤n.op∧n.op≤4 then .ok [n]
  else if n.op=8 then jF σ n.s
  else if n.op=11∨n.op=12 then ja σ (decide (n.op=12)) ps
  else if n.op=13 then zcb σ ps
  else if n.op=6 then(match evF σ ps with
   | .error e => .error e
   | .ok L=>z8 (zam (L.map Prod.fst) (L.map Prod.snd)) (zcz (L.map Prod.fst) (L.map Prod.snd)))
  else match evS σ ps with
   | .error e => .error e
   | .ok L=>if n.op=5 then z8 (setE L) (setV L) else zeD σ.E n L
noncomputable def ja(σ:Env)(o:Bool):Exs→Res
 | .nil => .error 0
 | .cons a r=>match evX σ a with
  | .error e => .error e
  | .ok V=>if zf V=1 then(if decide ((hdN V).n=1)=o then .ok V else zaz σ r) else .error 2
noncomputable def zaz(σ:Env):Exs→Res
 | .nil => .error 0
 | .cons b _=>match evX σ b with
  | .error e => .error e
  | .ok V=>if zf V=1 then .ok V else .error 2
noncomputable def zcb(σ:Env):Exs→Res
 | .nil => .error 0
 | .cons c r=>match evX σ c with
  | .error e => .error e
  | .ok V=>if zf V=1 then(if(hdN V).n=1 then zd7 σ r else zjP σ r) else .error 2
noncomputable def zd7(σ:Env):Exs→Res
 | .nil => .error 0
 | .cons a _=>evX σ a
noncomputable def zjP(σ:Env):Exs→Res
 | .nil => .error 0
 | .cons _ r=>zd7 σ r
noncomputable def evS(σ:Env):Exs→Except Int (List (List Nd))
 | .nil => .ok []
 | .cons x r=>match evX σ x with
  | .error e => .error e
  | .ok V=>match evS σ r with
   | .error e => .error e
   | .ok L => .ok (V :: L)
noncomputable def evF(σ:Env):Exs→Except Int (List (ByteArray × List Nd))
 | .nil => .ok []
 | .cons x r=>match zet σ x with
  | .error e => .error e
  | .ok V=>match evF σ r with
   | .error e => .error e
   | .ok L => .ok ((x.head.s,V):: L)
noncomputable def zet(σ:Env):Ex→Res
 | .node _ ps=>zd7 σ ps
end
end Go.Proofs.YtkfgabdnppmglaaGreatDoor
namespace Go.Proofs.YtkfgabdnppmglaaGreatDoor
open Go.RowKit Go.Wk Go.Maps
theorem zat{E:List En}:ji E=0↔E.length≤16∧jP [] E=0∧¬∃x∈E,Abv (jj E) x.u x.u:=by
 unfold ji;constructor
 ·intro h;split at h
  ·cases h
  ·rename_i h1;split at h
   ·rename_i h2;split at h
    ·cases h
    ·rename_i h3;exact⟨by omega,h2,h3⟩
   ·rename_i h2;exact absurd h h2
 ·rintro ⟨h1,h2,h3⟩;rw [if_neg (by omega),if_pos h2,if_neg h3]
theorem zqd{x:En}(h:zbz x=0):zc x.P=0∧zf x.P=6:=by
 unfold zbz at h;split at h
 ·cases h
 ·split at h
  ·split at h
   ·rename_i h1;split at h
    ·rename_i h2;exact⟨h1,h2⟩
    ·cases h
   ·rename_i h1;exact absurd h h1
  ·rename_i h1;exact absurd h h1
theorem ze5{E M:List En}(h:jP M E=0){x:En}(hx:x∈E):zc x.P=0∧zf x.P=6:=zqd ((ze7 E M h).1 x hx).2
end Go.Proofs.YtkfgabdnppmglaaGreatDoor
namespace Go.Proofs.YtkfgabdnppmglaaGreatDoor
open Go.RowKit Go.Wk
structure zcj(σ:Env):Prop where
 e:ji σ.E=0
 who:zw σ.who=0
 act:zw σ.act=0
 what:zw σ.what=0
 ctx:zc σ.ctx=0∧zf σ.ctx=6
theorem zhc{n:Nd}(h1:1≤n.op∧n.op≤4)(h:zB n=true):zc [n]=0:=by rw [zm4 n h1,if_pos h]
theorem zjK(b:Bool):zc (zt b)=0:=zhc (show(1:Int)≤1∧(1:Int)≤4 by decide) (by cases b <;> decide)
theorem zo8(k:Int):zc (zcZ k)=0:=zhc (show(1:Int)≤2∧(2:Int)≤4 by decide) (by unfold zB;simp [noB,emp];rfl)
theorem zki{u:Ud}(h:zw u=0):zc (zeH u)=0:=by
 refine zhc (show(1:Int)≤4∧(4:Int)≤4 by decide) ?_;unfold zw at h;have h1:zg u.1=0:=by
  by_cases q:zg u.1=0
  ·exact q
  ·rw [if_neg q] at h;exact h
 rw [if_pos h1] at h;unfold zB;simp [h1,h]
theorem zs2{r:List Nd}{s:ByteArray}(hr:zc r=0)(h:zah r s=0):zc (zb0 r s)=0:=by
 unfold zb0;rw [if_pos h];unfold zah at h;rw [if_pos hr] at h;by_cases h6:zf r=6
 ·rw [if_pos h6] at h;rcases hg:zjm r s with _|V
  ·rw [hg] at h;cases h
  ·obtain⟨hl,hv⟩:=zP.1 hr;obtain⟨e,-,h3,-⟩:=zpk hv h6;unfold zjm at hg;rw [Option.map_eq_some_iff] at hg;obtain⟨x,hx,rfl⟩:=hg;have hm:=List.mem_of_find?_eq_some hx;refine zP.2 ⟨?_,(h3 x hm).1⟩;have:x.2.length≤(zK (zR r)).length:=by
    generalize zR r=L at hm
    induction L with
    | nil=>cases hm
    | cons y L ih =>
     simp only [zK,List.length_cons,List.length_append]
     rcases List.mem_cons.1 hm with rfl|hm
     ·omega
     ·have:=ih hm;omega
   rw [e] at hl;simp only [List.length_cons] at hl;simp only [Option.getD_some];omega
 ·rw [if_neg h6] at h;cases h
theorem zed{e:Int}{b:Bool}{V:List Nd}(h:js e b = .ok V):zc V=0:=by
 unfold js at h;split at h
 ·injection h with h;subst h;exact zjK b
 ·cases h
theorem zc4{e:Int}{W V:List Nd}(h:z8 e W = .ok V)(hw:e=0→zc W=0):zc V=0:=by
 unfold z8 at h;split at h
 ·rename_i h0;injection h with h;subst h;exact hw h0
 ·cases h
theorem zbZ{b:Bool}{V:List Nd}(h:(Except.ok (zt b):Res)= .ok V):zc V=0:=by
 injection h with h;subst h;exact zjK b
theorem zqu{σ:Env}(hσ:zcj σ){s:ByteArray}{V:List Nd}(h:jF σ s = .ok V):zc V=0:=by
 unfold jF at h;split at h
 ·injection h with h;subst h;exact zki hσ.who
 ·split at h
  ·injection h with h;subst h;exact zki hσ.act
  ·split at h
   ·injection h with h;subst h;exact zki hσ.what
   ·split at h
    ·injection h with h;subst h;exact hσ.ctx.1
    ·cases h
theorem zt6{E:List En}(hE:ji E=0){V r:List Nd}(hV:zc V=0)(h:za5 E V = .ok (some r)):zc r=0∧zf r=6:=by
 unfold za5 at h;split at h
 ·rename_i h6;injection h with h;injection h with h;subst h;exact⟨hV,h6⟩
 ·split at h
  ·injection h with h;rw [Option.map_eq_some_iff] at h;obtain⟨x,hx,rfl⟩:=h;exact ze5 (zat.1 hE).2.1 (List.mem_of_find?_eq_some hx)
  ·cases h
theorem zux{E:List En}(hE:ji E=0){n:Nd}{V W:List Nd}(hV:zc V=0)(h:jE E n V = .ok W):zc W=0:=by
 unfold jE at h;split at h
 ·split at h
  ·exact zbZ h
  ·cases h
 ·split at h
  ·split at h
   ·exact zc4 h fun _=>zo8 _
   ·cases h
  ·split at h
   ·split at h
    ·exact zed h
    ·cases h
   ·split at h
    ·split at h
     ·exact zbZ h
     ·cases h
    ·rcases hr:za5 E V with e|(_|r)
     ·rw [hr] at h;cases h
     ·rw [hr] at h;simp only at h;split at h
      ·exact zbZ h
      ·cases h
     ·rw [hr] at h;simp only at h;split at h
      ·exact zbZ h
      ·exact zc4 h fun h0=>zs2 (zt6 hE hV hr).1 h0
theorem zuP{E:List En}{op:Int}{A B W:List Nd}(h:jQ E op A B = .ok W):zc W=0:=by
 unfold jQ at h;split at h
 ·exact zbZ h
 ·split at h
  ·unfold inX at h;split at h
   ·exact zbZ h
   ·cases h
  ·split at h
   ·exact zed h
   ·split at h
    ·exact zed h
    ·split at h
     ·exact zed h
     ·split at h
      ·split at h
       ·exact zbZ h
       ·split at h
        ·exact zbZ h
        ·exact zc4 h fun _=>zo8 _
      ·cases h
theorem zrG{E:List En}(hE:ji E=0){n:Nd}{L:List (List Nd)}{W:List Nd}(hL:∀V∈L,zc V=0)(h:zeD E n L = .ok W):zc W=0:=by
 match L,hL,h with
 | [V],hL,h=>exact zux hE (hL V (by simp)) h
 | [A,B],_,h=>exact zuP h
 | [],_,h=>cases h
 | _ :: _ :: _ :: _,_,h=>cases h
mutual
theorem zdU{σ:Env}(hσ:zcj σ):∀(x:Ex) (f:Bool),x.valid f→∀V,evX σ x = .ok V→zc V=0
 | .node n ps,f,hv,V,h=>by
  obtain⟨h1,-,h3⟩:=hv;have hs:jz n=true:=by unfold zba at h1;rw [Bool.and_eq_true] at h1;exact h1.1
  unfold evX at h;split at h
  ·rename_i h14;injection h with h;subst h;exact zhc h14 (by rw [←zcA (by omega)];exact hs)
  ·split at h
   ·exact zqu hσ h
   ·split at h
    ·exact zmd hσ ps _ _ h3 _ V h
    ·split at h
     ·exact zt0 hσ ps _ _ h3 V h
     ·split at h
      ·rcases hF:evF σ ps with e|L
       ·rw [hF] at h;cases h
       ·rw [hF] at h;exact zc4 h fun h0=>(zrx h0).1
      ·rcases hS:evS σ ps with e|L
       ·rw [hS] at h;cases h
       ·rw [hS] at h;simp only at h;split at h
        ·exact zc4 h fun h0=>(zsF h0).1
        ·exact zrG hσ.e (zrn hσ ps _ _ h3 L hS) h
theorem zmd{σ:Env}(hσ:zcj σ):∀(ps:Exs) (c:Bool) (s:ByteArray),ps.valid c s→∀(o:Bool) (V:List Nd),ja σ o ps = .ok V→zc V=0
 | .nil,_,_,_,_,_,h=>by cases h
 | .cons a r,c,s,hv,o,V,h=>by
  unfold ja at h;rcases ha:evX σ a with e|W
  ·rw [ha] at h;cases h
  ·rw [ha] at h;simp only at h;split at h
   ·split at h
    ·injection h with h;subst h;exact zdU hσ a _ hv.2.1 _ ha
    ·exact zql hσ r _ _ hv.2.2 V h
   ·cases h
theorem zql{σ:Env}(hσ:zcj σ):∀(ps:Exs) (c:Bool) (s:ByteArray),ps.valid c s→∀V,zaz σ ps = .ok V→zc V=0
 | .nil,_,_,_,_,h=>by cases h
 | .cons b _,c,s,hv,V,h=>by
  unfold zaz at h;rcases hb:evX σ b with e|W
  ·rw [hb] at h;cases h
  ·rw [hb] at h;simp only at h;split at h
   ·injection h with h;subst h;exact zdU hσ b _ hv.2.1 _ hb
   ·cases h
theorem zt0{σ:Env}(hσ:zcj σ):∀(ps:Exs) (c:Bool) (s:ByteArray),ps.valid c s→∀V,zcb σ ps = .ok V→zc V=0
 | .nil,_,_,_,_,h=>by cases h
 | .cons b r,c,s,hv,V,h=>by
  unfold zcb at h;rcases hb:evX σ b with e|W
  ·rw [hb] at h;cases h
  ·rw [hb] at h;simp only at h;split at h
   ·split at h
    ·exact zm1 hσ r _ _ hv.2.2 V h
    ·exact zrH hσ r _ _ hv.2.2 V h
   ·cases h
theorem zm1{σ:Env}(hσ:zcj σ):∀(ps:Exs) (c:Bool) (s:ByteArray),ps.valid c s→∀V,zd7 σ ps = .ok V→zc V=0
 | .nil,_,_,_,_,h=>by cases h
 | .cons a _,c,s,hv,V,h=>by
  unfold zd7 at h;exact zdU hσ a _ hv.2.1 V h
theorem zrH{σ:Env}(hσ:zcj σ):∀(ps:Exs) (c:Bool) (s:ByteArray),ps.valid c s→∀V,zjP σ ps = .ok V→zc V=0
 | .nil,_,_,_,_,h=>by cases h
 | .cons _ r,c,s,hv,V,h=>by
  unfold zjP at h;exact zm1 hσ r _ _ hv.2.2 V h
theorem zrn{σ:Env}(hσ:zcj σ):∀(ps:Exs) (c:Bool) (s:ByteArray),ps.valid c s→∀L,evS σ ps = .ok L→∀V∈L,zc V=0
 | .nil,_,_,_,L,h=>by
  unfold evS at h;injection h with h;subst h;intro V hV;cases hV
 | .cons x r,c,s,hv,L,h=>by
  unfold evS at h;rcases hx:evX σ x with e|W
  ·rw [hx] at h;cases h
  ·rw [hx] at h;simp only at h;rcases hr:evS σ r with e|M
   ·rw [hr] at h;cases h
   ·rw [hr] at h;simp only at h;injection h with h;subst h;intro V hV;rcases List.mem_cons.1 hV with rfl|hV
    ·exact zdU hσ x _ hv.2.1 _ hx
    ·exact zrn hσ r _ _ hv.2.2 M hr V hV
end
theorem zc1{V:List Nd}(h:zc V=0)(h1:zf V=1):V=zt true∨V=zt false:=by
 obtain⟨hl,hv⟩:=zP.1 h;have hpos:=hv.pos
 match V,hpos with
 | x :: r,_ =>
  have hx:x.op=1:=h1
  unfold IsV at hv
  simp only [zn,List.getElem?_cons_zero] at hv
  by_cases hs:zB x=true
  ·rw [if_pos hs,if_neg (by omega),if_neg (by omega),if_neg (by omega)] at hv
   have hr:r = []:=by simpa using hv
   subst hr;unfold zB at hs;rw [if_pos hx] at hs;simp only [Bool.and_eq_true,Bool.or_eq_true,decide_eq_true_eq] at hs;obtain⟨⟨hn,h2⟩,h3⟩:=hs;rcases hn with hn|hn
   ·right;rw [show x=⟨1,0,emp,emp⟩ from Nd.ext4 hx hn (zcR h2) (zcR h3)];rfl
   ·left;rw [show x=⟨1,1,emp,emp⟩ from Nd.ext4 hx hn (zcR h2) (zcR h3)];rfl
  ·rw [if_neg hs] at hv;cases hv
end Go.Proofs.YtkfgabdnppmglaaGreatDoor
namespace Go.Proofs.YtkfgabdnppmglaaGreatDoor
open Go.RowKit Go.Wk Go.Sort
theorem ztZ(w:World)(r:Sl)(hr:Ns w r.A r.n r.c r.P)(t:TypeId):zag (w.alloc (.cells #[.slice r.A r.n r.c] t)) (some ⟨w.heap.size,0,none⟩) [r]:=fun k x hx=>by
 match k,hx with
 | 0,hx=>simp at hx;subst hx;exact⟨_,rfl,jf (heap_alloc_last w _) rfl,hr.keep (zb w _)⟩
 | k+1,hx=>simp at hx
end Go.Proofs.YtkfgabdnppmglaaGreatDoor
