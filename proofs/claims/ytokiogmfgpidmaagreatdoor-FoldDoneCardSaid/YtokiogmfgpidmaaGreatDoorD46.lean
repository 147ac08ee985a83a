/-
  A row of Gots of the call's own. The reference's SetOf: the least above the ..
-/
import Derived.Deep.Onto
import Derived.Test.YtokiogmfgpidmaaGreatDoorD45
set_option maxRecDepth 100000
set_option maxHeartbeats 8000000
namespace Go.Proofs.YtokiogmfgpidmaaGreatDoor
open Go.RowKit Go.Wk Go.Sort
def KY:List Sl->List Value
 | [] => []
 | r :: l => .slice r.A r.n r.c :: .int .i64 0 :: KY l
theorem Tp:∀(a b:List Sl),KY (a ++ b)=KY a ++ KY b
 | [],b=>rfl
 | r :: a,b=>by simp only [List.cons_append,KY,Tp a b]
theorem Rv:∀(a:List Sl) (k:Nat) (r:Sl),a[k]?=some r->(KY a)[k*2]?=some (.slice r.A r.n r.c)/\(KY a)[k*2+1]?=some (.int .i64 0)
 | [],k,r,h=>by simp at h
 | y :: a,0,r,h=>by simp at h;subst h;exact⟨rfl,rfl⟩
 | y :: a,k+1,r,h=>by
  have:=Rv a k r (by simpa using h);rw [show(k+1)*2=k*2+1+1 by omega];simpa [KY] using this
theorem zpw:(Tryz.prog.info? 61).map (λi=>(i.zero,i.size,i.bytes))=some (some (.agg #[.slice none 0 0,.int .i64 0]),2,32):=by kernel_rfl
structure La(w:World)(B:Nat)(v:Value)(V:List Sl):Prop where
 own:w.ownsRow B 61 2 v V.length (KY V)
 each:∀r∈V,Ns w r.A r.n r.c r.P
 apart:∀r∈V,td r v.ownBlock
theorem La.nil(w:World)(B:Nat):La w B (.slice none 0 0) []:=⟨⟨rfl,.inl ⟨rfl,rfl⟩⟩,(by intro r hr;cases hr),(by intro r hr;cases hr)⟩
theorem La.keep{w w':World}{B:Nat}{v:Value}{V:List Sl}(h:La w B v V)(hb:Below w.heap.size w w'):La w' B v V :=
 ⟨h.own.kept (zA hb none) (by cases hv:v.ownBlock <;> simp),λr hr=>(h.each r hr).keep hb,h.apart⟩
theorem La.row{w w':World}{B:Nat}{v:Value}{V:List Sl}{g:Option Nat}(h:La w B v V)(hg:w.grownBy w' g)(hne:v.ownBlock=none\/v.ownBlock≠g)(ha:∀r∈V,td r g):La w' B v V :=
 ⟨h.own.kept hg hne,λr hr=>(h.each r hr).row hg (ha r hr),h.apart⟩
theorem La.snoc{w w':World}{B:Nat}{v v':Value}{V:List Sl}{r:Sl}{o:Obj}(h:La w B v V)(hr:Ns w r.A r.n r.c r.P)(ha:td r v.ownBlock)
 (hown:w'.ownsRow B 61 2 v' (V.length+1) (KY V ++ [.slice r.A r.n r.c,.int .i64 0])) (hg:(w.alloc o).grownBy w' v.ownBlock) (hat:v'.ownBlock=v.ownBlock\/v'.ownBlock=some (w.alloc o).heap.size):La w' B v' (V ++ [r]):=by
 have hba:Below w.heap.size w (w.alloc o):=zb w o;have hlt:∀x∈V ++ [r],Ns w x.A x.n x.c x.P/\td x v.ownBlock:=by
  intro x hx;rcases List.mem_append.1 hx with h1|h1
  ·exact⟨h.each x h1,h.apart x h1⟩
  ·simp only [List.mem_cons,List.not_mem_nil,or_false] at h1;subst h1;exact⟨hr,ha⟩
 refine⟨?_,λx hx=>((hlt x hx).1.keep hba).row hg (hlt x hx).2,λx hx h0 a e=>?_⟩
 ·rw [Tp,List.length_append];exact hown
 ·rcases hat with e'|e'
  ·rw [e'];exact(hlt x hx).2 h0 a e
  ·rw [e'];have:=(hlt x hx).1.at_.lt h0 a e;intro q;injection q with q;simp at q;omega
def zlc(w:World)(A:Option Addr)(V:List Sl):Prop :=
 ∀(k:Nat) (r:Sl),V[k]?=some r->∃a,A=some a/\w.cell? (a.add (k*2))=some (.slice r.A r.n r.c)/\w.cell? ⟨(a.add (k*2)).block,(a.add (k*2)).off+1,none⟩=some (.int .i64 0)/\Ns w r.A r.n r.c r.P
theorem zlc.keep{w w':World}{A:Option Addr}{V:List Sl}(h:zlc w A V)(hb:Below w.heap.size w w'):zlc w' A V :=
 λk r hk=>let ⟨a,h1,h2,h3,h4⟩:=h k r hk;⟨a,h1,za hb h2,za hb h3,h4.keep hb⟩
theorem La.at{w:World}{B:Nat}{v:Value}{V:List Sl}(h:La w B v V):∃A c,v = .slice A V.length c/\zlc w A V:=by
 rcases h.own.2 with ⟨rfl,h0⟩|⟨g,cap,cur,rfl,_,_,hc,_⟩
 ·have:V = []:=List.eq_nil_of_length_eq_zero h0;subst this;exact⟨none,0,rfl,λk r hk=>by simp at hk⟩
 ·refine⟨some ⟨g,0,none⟩,cap,rfl,λk r hk=>⟨_,rfl,?_,?_,h.each r (List.mem_of_getElem? hk)⟩⟩
  ·exact h.own.cells (g:=g) rfl _ _ (Rv V k r hk).1
  ·have:=h.own.cells (g:=g) rfl _ _ (Rv V k r hk).2;rw [Iz] at this ⊢;simpa [Nat.add_assoc] using this
end Go.Proofs.YtokiogmfgpidmaaGreatDoor
namespace Go.Wk
theorem PK(p:List Nd)(l:List (List Nd)):(NW p l).length<=l.length+1:=by
 induction l with
 | nil=>simp [NW]
 | cons q r ih =>
  simp only [NW]
  split
  ·simp
  ·split
   ·simp
   ·simp;omega
theorem Vi(l:List (List Nd)):(jT l).length<=l.length:=by
 induction l with
 | nil=>simp [jT]
 | cons p r ih=>have:=PK p (jT r);simp only [jT,List.length_cons];omega
def Nj(lo cur p:List Nd):List Nd :=
 if(lo.isEmpty || decide (0<zu p lo))&&(cur.isEmpty || decide (zu p cur<0)) then p else cur
def C0(lo:List Nd)(l:List (List Nd)):List Nd:=l.foldl (Nj lo) []
theorem zdQ{lo:List Nd}{l:List (List Nd)}{k:Nat}(h:k<l.length):C0 lo (l.take (k+1))=Nj lo (C0 lo (l.take k)) l[k]:=by
 unfold C0;rw [<-List.take_append_getElem h,List.foldl_append];rfl
theorem MY{lo cur p:List Nd}(h1:lo = []\/0<zu p lo)(h2:cur = []\/zu p cur<0):Nj lo cur p=p:=by
 unfold Nj;rw [if_pos];rw [Bool.and_eq_true,Bool.or_eq_true,Bool.or_eq_true,decide_eq_true_eq,decide_eq_true_eq,List.isEmpty_iff,List.isEmpty_iff];exact⟨h1,h2⟩
theorem zaj{lo cur p:List Nd}(h1:lo≠ [])(h2:¬0<zu p lo):Nj lo cur p=cur:=by
 unfold Nj;rw [if_neg];rw [Bool.and_eq_true,Bool.or_eq_true,decide_eq_true_eq,List.isEmpty_iff];exact λq=>q.1.elim h1 h2
theorem Sf{lo cur p:List Nd}(h1:cur≠ [])(h2:¬zu p cur<0):Nj lo cur p=cur:=by
 unfold Nj;rw [if_neg];rw [Bool.and_eq_true,Bool.or_eq_true,Bool.or_eq_true,decide_eq_true_eq,decide_eq_true_eq,List.isEmpty_iff,List.isEmpty_iff];exact λq=>q.2.elim h1 h2
def toO:List Nd->Option (List Nd)
 | []=>none
 | x :: r=>some (x :: r)
theorem ziW{P:List Nd}(h:P≠ []):toO P=some P:=by
 cases P with
 | nil=>exact absurd rfl h
 | cons x r=>rfl
theorem zjF{lo cur p:List Nd}(hp:p≠ []):toO (Nj lo cur p)=WW (toO lo) (toO cur) p:=by
 unfold Nj WW;have e1:(lo.isEmpty || decide (0<zu p lo))=Of (toO lo) p:=by
  cases lo with
  | nil=>rfl
  | cons x r=>simp [toO,Of]
 have e2:(cur.isEmpty || decide (zu p cur<0))=zbL (toO cur) p:=by
  cases cur with
  | nil=>rfl
  | cons x r=>simp [toO,zbL]
 rw [e1,e2];by_cases hb:(Of (toO lo) p && zbL (toO cur) p)=true
 ·rw [if_pos hb,if_pos hb];exact ziW hp
 ·rw [if_neg hb,if_neg hb]
theorem zny(lo:List Nd)(l:List (List Nd)):∀cur,(∀p∈l,p≠ [])->toO (l.foldl (Nj lo) cur)=l.foldl (WW (toO lo)) (toO cur):=by
 induction l with
 | nil=>intro cur _;rfl
 | cons p r ih =>
  intro cur h
  simp only [List.foldl_cons]
  rw [ih _ λq hq=>h q (by simp [hq]),zjF (h p (by simp))]
theorem zij{lo:List Nd}{l:List (List Nd)}(h:∀p∈l,p≠ []):toO (C0 lo l)=OI (toO lo) l:=zny lo l [] h
def J9(L:List (List Nd)):Nat->List Nd
 | 0 => []
 | i+1=>(L[i]?).getD []
theorem zfc{l:List (List Nd)}(h:∀p∈l,p≠ []){i:Nat}(hi:i<=(jT l).length):toO (C0 (J9 (jT l) i) l)=(jT l)[i]?:=by
 rw [zij h];rcases i with _|i
 ·exact V7 l
 ·have hi':i<(jT l).length:=by omega
  have hn:(jT l)[i]≠ []:=h _ (vT.1 (List.getElem_mem hi'));simp only [J9,List.getElem?_eq_getElem hi',Option.getD_some];rw [ziW hn];exact Zh l i hi'
theorem zgy{l:List (List Nd)}(h:∀p∈l,p≠ []){i:Nat}(hi:i<(jT l).length):C0 (J9 (jT l) i) l=(jT l)[i]:=by
 have:=zfc h (Nat.le_of_lt hi);rw [List.getElem?_eq_getElem hi] at this
 cases hp:C0 (J9 (jT l) i) l with
 | nil=>rw [hp] at this;cases this
 | cons x r=>rw [hp] at this;simpa [toO] using this
theorem zfP{l:List (List Nd)}(h:∀p∈l,p≠ []):C0 (J9 (jT l) (jT l).length) l = []:=by
 have:=zfc h (Nat.le_refl (jT l).length);rw [List.getElem?_eq_none (Nat.le_refl _)] at this
 cases hp:C0 (J9 (jT l) (jT l).length) l with
 | nil=>rfl
 | cons x r=>rw [hp] at this;cases this
end Go.Wk
namespace Go.Proofs.YtokiogmfgpidmaaGreatDoor
open Go.RowKit Go.Wk Go.Sort
theorem Ns.nodes{w:World}{A B:Option Addr}{n m c d:Nat}{P Q:List Nd}(h:Ns w A n c P)(k:Ns w B m d Q):
 Calls Tryz.prog 70 #[.slice A n c,.slice B m d] w λe w'=>e = .returned (.int .i64 (zu P Q))/\Below w.heap.size w w' :=
 Ot A B n m c d P Q w h.len k.len h.max k.max h.at_ k.at_ h.ok k.ok
theorem Ns.zero{w:World}{A:Option Addr}{c:Nat}{P:List Nd}(h:Ns w A 0 c P):P = []:=List.eq_nil_of_length_eq_zero h.len.symm
theorem Ns.ne{w:World}{A:Option Addr}{n c:Nat}{P:List Nd}(h:Ns w A n c P)(hn:¬n=0):P≠ []:=λe=>hn (by rw [h.len,e];rfl)
def zas(w:World)(L:List (List Nd))(e:Ending)(w':World):Prop :=
 ∃(A:Option Addr) (n c:Nat),e = .returned (.tuple #[.slice A n c,.int .i64 (setE L)])/\Ns w' A n c (setV L)/\Below w.heap.size w w'/\∀a,A=some a->w.heap.size<=a.block
theorem Xc(n:Nat)(L:List (List Nd))(k:Nat):C7 n L k=jm n ::(L.take k).flatten:=rfl
theorem zgs(A:Option Addr)(n c:Nat)(V:List Sl)(w:World)(hn:n=V.length)(hm:n<=5864062014634)(hV:ou w A V):
 Calls Tryz.prog 44 #[.slice A n c] w (zas w (V.map Sl.P)):=by
 obtain⟨i0,hi,hz0,hz1,hz2⟩:=info_parts Ru;have HV:=O hV;have HN:=O hn;have CF:=O (zd0 A n c V w hn (by unfold maxLen;omega) hV);clear hV hn;by_cases hF:u3 V=0
 ·have HF:=O (show IZ (V.map Sl.P)=0 from hF);have HP:=O (show∀p∈V.map Sl.P,p≠ [] from λp hp e=>by
   have:=(zH.1 (Jg.1 hF p hp)).2.pos
   rw [e] at this;simp at this)
  have HLL:=O (show(jT (V.map Sl.P)).length<=n by have:=Vi (V.map Sl.P);rw [List.length_map,<-HN.o] at this;exact this);rw [hF] at CF;clear hF;go_enter Tryz.func44,Tryz.ntmps44;go_wp2_with fail;refine(CF.o).mono ?_;rintro e w1 ⟨rfl,b1⟩;have B1:=O b1;clear b1 CF;have R0:=O (World.ownsRow.mono (Tg w1 (jm 0)) B1.o.size);have B2:=O (B1.o.alloc B1.o.size (.cells #[.int .i64 5,.int .i64 0,.string ⟨#[]⟩,.string ⟨#[]⟩] 28));go_wp2_with fail;generalize hL:jT (V.map Sl.P)=L at *;have HL:=O hL;clear hL;go_loopg [5,6,7,8] L.length (λg out last _ _ wr=>∃i:Nat,i<=L.length/\L.length-i<=g/\(∃(A1:Option Addr) (n1 c1:Nat),last = .slice A1 n1 c1/\Hid (Ns w A1 n1 c1 (J9 L i)))/\Hid ((C7 i L i).length<=200/\wr.ownsRow w.heap.size 28 4 out (C7 i L i).length (zL (C7 i L i)))/\Hid (Below w.heap.size w wr))
  case atStart=>exact⟨0,Nat.zero_le _,by omega,⟨none,0,0,rfl,jM _⟩,⟨by simp [C7],R0.o⟩,B2⟩
  case round =>
   obtain⟨i,hiL,hg,⟨A1,n1,c1,rfl,N1⟩,hR,hB⟩:=hrel;have HK:=O (show∀k,(h:k<V.length)->C0 (J9 L i) ((V.map Sl.P).take (k+1))=Nj (J9 L i) (C0 (J9 L i) ((V.map Sl.P).take k)) V[k].P from λk h=>by
    rw [zdQ (by rw [List.length_map];exact h)];simp)
   have HQ:=O (show i<L.length->C0 (J9 L i) (V.map Sl.P)=L[i]! from λh=>by
    have e:=HL.o
    subst e
    rw [zgy HP.o h];simp [h])
   have HZ:=O (show i=L.length->C0 (J9 L i) (V.map Sl.P)= [] from λh=>by
    have e:=HL.o
    subst e
    rw [h];exact zfP HP.o)
   have HE:=O (show i<L.length->J9 L (i+1)=L[i]!/\C7 (i+1) L (i+1)=jm ((i+1:Nat):Int)::((L.take i).flatten ++ L[i]!) from λh=>by
    refine⟨by simp [J9,h],?_⟩
    rw [Xa h,Xc,List.cons_append];simp [h])
   generalize SV:J9 L i=lo at N1 HK HQ HZ;clear SV;go_wp2_with fail;go_loopw [7,8] (λnx ii wk=>∃k:Nat,k<=n/\ii = .int .i64 k/\(∃(A2:Option Addr) (n2 c2:Nat),nx = .slice A2 n2 c2/\Hid (Ns w A2 n2 c2 (C0 lo ((V.map Sl.P).take k))))/\Hid (Below wr.heap.size wr wk)) (λ_ ii _=>n-(intOf ii).toNat)
   case atStart=>exact⟨0,Nat.zero_le _,rfl,⟨none,0,0,rfl,jM _⟩,Below.refl _ _⟩
   case round =>
    obtain⟨k,hk,rfl,⟨A2,n2,c2,rfl,N2⟩,hK⟩:=hrel;have BK:=oz hB hK (Nat.le_refl _);by_cases hlt:k<n
    ·have h1:k<V.length:=by rw [<-HN.o];exact hlt
     obtain⟨a,rfl,q,-⟩:=(HV.o.keep BK.o).at h1;obtain⟨-,-,-,hs0⟩:=HV.o.at h1;have HK1:=O (HK.o k h1);generalize V[k]=r at *;have VN:=O hs0;clear hs0;generalize C0 lo ((V.map Sl.P).take k)=cur at *;by_cases l0:n1=0
     ·subst l0;by_cases m0:n2=0
      ·subst m0;have N3:=O (show Ns w r.A r.n r.c (C0 lo ((V.map Sl.P).take (k+1))) by
        rw [HK1.o,MY (.inl N1.o.zero) (.inl N2.o.zero)];exact VN.o)
       go_wp2_with fail;go_roundw
       case rel=>exact⟨k+1,by omega,by go_num,⟨_,_,_,rfl,N3⟩,hK⟩
       case measure=>simp [intOf];omega
      ·have M0:((n2:Int)==0)=false:=beq_eq_false_iff_ne.2 (by omega);have NE2:=O (N2.o.ne m0);have C:=O ((VN.o.keep BK.o).nodes (N2.o.keep BK.o));clear m0;go_wp2_with fail;refine(C.o).mono ?_;rintro e w3 ⟨rfl,b3⟩;have q3:=za b3 q;have K3:=bh hK b3;clear b3 C hK BK q;by_cases h2:zu r.P cur<0
       ·have N3:=O (show Ns w r.A r.n r.c (C0 lo ((V.map Sl.P).take (k+1))) by
         rw [HK1.o,MY (.inl N1.o.zero) (.inr h2)];exact VN.o)
        go_wp2_with fail;go_roundw
        case rel=>exact⟨k+1,by omega,by go_num,⟨_,_,_,rfl,N3⟩,K3⟩
        case measure=>simp [intOf];omega
       ·have N3:=O (show Ns w A2 n2 c2 (C0 lo ((V.map Sl.P).take (k+1))) by
         rw [HK1.o,Sf NE2.o h2];exact N2.o)
        go_wp2_with fail;go_roundw
        case rel=>exact⟨k+1,by omega,by go_num,⟨_,_,_,rfl,N3⟩,K3⟩
        case measure=>simp [intOf];omega
     ·have L0:((n1:Int)==0)=false:=beq_eq_false_iff_ne.2 (by omega);have NE1:=O (N1.o.ne l0);have C:=O ((VN.o.keep BK.o).nodes (N1.o.keep BK.o));clear l0;go_wp2_with fail;refine(C.o).mono ?_;rintro e w3 ⟨rfl,b3⟩;have q3:=za b3 q;have K3:=bh hK b3;have B3:=bh BK b3;clear b3 C hK BK q;by_cases h1:0<zu r.P lo
      ·by_cases m0:n2=0
       ·subst m0;have N3:=O (show Ns w r.A r.n r.c (C0 lo ((V.map Sl.P).take (k+1))) by
         rw [HK1.o,MY (.inr h1) (.inl N2.o.zero)];exact VN.o)
        go_wp2_with fail;go_roundw
        case rel=>exact⟨k+1,by omega,by go_num,⟨_,_,_,rfl,N3⟩,K3⟩
        case measure=>simp [intOf];omega
       ·have M0:((n2:Int)==0)=false:=beq_eq_false_iff_ne.2 (by omega);have NE2:=O (N2.o.ne m0);have C:=O ((VN.o.keep B3.o).nodes (N2.o.keep B3.o));clear m0;go_wp2_with fail;refine(C.o).mono ?_;rintro e w4 ⟨rfl,b4⟩;have q4:=za b4 q3;have K4:=bh K3 b4;clear b4 C K3 B3 q3;by_cases h2:zu r.P cur<0
        ·have N3:=O (show Ns w r.A r.n r.c (C0 lo ((V.map Sl.P).take (k+1))) by
          rw [HK1.o,MY (.inr h1) (.inr h2)];exact VN.o)
         go_wp2_with fail;go_roundw
         case rel=>exact⟨k+1,by omega,by go_num,⟨_,_,_,rfl,N3⟩,K4⟩
         case measure=>simp [intOf];omega
        ·have N3:=O (show Ns w A2 n2 c2 (C0 lo ((V.map Sl.P).take (k+1))) by
          rw [HK1.o,Sf NE2.o h2];exact N2.o)
         go_wp2_with fail;go_roundw
         case rel=>exact⟨k+1,by omega,by go_num,⟨_,_,_,rfl,N3⟩,K4⟩
         case measure=>simp [intOf];omega
      ·have N3:=O (show Ns w A2 n2 c2 (C0 lo ((V.map Sl.P).take (k+1))) by
        rw [HK1.o,zaj NE1.o h1];exact N2.o)
       go_wp2_with fail;go_roundw
       case rel=>exact⟨k+1,by omega,by go_num,⟨_,_,_,rfl,N3⟩,K3⟩
       case measure=>simp [intOf];omega
    ·obtain rfl:k=n:=by omega
     have N3:=O (show Ns w A2 n2 c2 (C0 lo (V.map Sl.P)) by
      have:=N2.o
      rwa [List.take_of_length_le (by rw [List.length_map,<-HN.o];exact Nat.le_refl _)] at this)
     have hszw:=BK.o.size;have rowK:=hR.o.2.kept (zA hK.o none) (by cases hv:u5.ownBlock <;> simp);have hO200:=hR.o.1;clear N2 hK hR hB;by_cases hlt2:i<L.length
     ·have N4:=O (show Ns w A2 n2 c2 L[i]! by have:=N3.o;rwa [HQ.o hlt2] at this);have SQ:L[i]!∈L:=by simp [hlt2]
      have hv:=Jg.1 HF.o _ (vT.1 (by rw [HL.o];exact SQ));obtain⟨hl2,hV2⟩:=zH.1 hv;have hpos:=hV2.pos;obtain⟨a2,rfl,-⟩:=N4.o.at_.nd hpos;have hn2:=N4.o.len;have M0:((n2:Int)==0)=false:=beq_eq_false_iff_ne.2 (by omega);have hn2':n2<=200:=by omega
      have VL:=O hn2;have HE1:=O (HE.o hlt2);clear SQ hv hl2 hV2 hpos hn2 N3 HE HQ HZ;generalize L[i]! = X at *;rcases rowK.2 with ⟨-,h0⟩|⟨g,cap,cur,rfl,hgB,-⟩
      ·simp [C7] at h0
      have c1':wr.cell? ⟨g,1,none⟩=some (.int .i64 i):=by
       rw [rowK.cellAt 1 (by simp [C7];omega)];rfl
      have f1:=rowK.frozenAt 1;obtain⟨rowS,grS⟩:=rowK.stored 1 (.int .i64 ((i:Int)+1));rw [show(zL (C7 i L i)).set 1 (.int .i64 ((i:Int)+1))=zL (jm ((i:Int)+1)::(L.take i).flatten) from rfl] at rowS;have hlen0:0<(C7 i L i).length:=by simp [C7]
      have HRS:=O rowS;have NS:=O ((N4.o.keep BK.o).but grS (λh0 a e=>by have:=N4.o.at_.lt h0 a e;omega));have BS:=O (BK.o.grown grS hszw (λk hk=>by injection hk with hk;omega));have hszS:=BS.o.size;have hi8:i<=5864062014634:=by have:=HLL.o;omega
      clear rowK rowS grS;go_wp2_with (at_builtin;refine wpList_append_own _ rfl _ _ 22 rfl w.heap.size 28 i0 _ 4 48 Tryz.underlying22 hi hz0 hz1 hz2 rfl (by decide) _ (C7 i L i).length (zL (jm ((i:Int)+1)::(L.take i).flatten)) rfl HRS.o a2 n2 c2 (zL X) rfl (by rw [v7,VL.o]) NS.o.at_.cells (CV _) ?c1 ?c2 ?c3 ?_)
      case c1=>unfold maxLen;omega
      case c2=>omega
      case c3=>exact hszS
      intro v1 w5 hown hgrow _;have B5:=O (BS.o.grown hgrow hszS (zR HRS.o));have ZA:=O (show(C7 i L i).length+n2=(C7 (i+1) L (i+1)).length/\zL (jm ((i:Int)+1)::(L.take i).flatten)++ zL X=zL (C7 (i+1) L (i+1)) by
       rw [HE1.o.2,Xc,<-ow]
       refine⟨by simp [VL.o];omega,rfl⟩)
      rw [ZA.o.1,ZA.o.2] at hown;have OW:=O hown;obtain⟨A5,c5,rfl,-⟩:=vl hown;have OL:=O (zbX (n:=i+1) (L:=L) (i+1));have NL:=O (show Ns w (some a2) n2 c2 (J9 L (i+1)) by rw [HE1.o.1];exact N4.o);generalize hZ:C7 (i+1) L (i+1)=Z at *;have HZZ:=O hZ;clear hown hgrow hZ ZA HE1 NS HRS c1' f1;by_cases Ms:200<Z.length
      ·have HEE:=O (show setE (V.map Sl.P)=4 by
        unfold setE
        rw [HF.o,zM,HL.o,if_pos (by have:=OL.o;omega)])
       go_wp2_with fail;go_ret2;refine⟨none,0,0,by rw [HEE.o];rfl,by rw [ND (by rw [HEE.o];decide)];exact jM _,B5.o,λa e=>by cases e⟩
      ·go_wp2_with fail;go_roundg (L.length-(i+1))
       case measure=>omega
       case rel=>exact⟨i+1,by omega,Nat.le_refl _,⟨_,_,_,rfl,NL⟩,O (by rw [HZZ.o];exact⟨by omega,OW.o⟩),B5⟩
     ·obtain rfl:i=L.length:=by omega
      have hp:=HZ.o rfl;have hn0:n2=0:=by have:=N3.o.len;rw [hp] at this;exact this
      subst hn0;obtain⟨A5,c5,rfl,hc5,hA5,hB5⟩:=vl rowK;have HB5:=O hB5;have HX:=O (zam (n:=L.length) (L:=L) (Nat.le_refl _));have HEE:=O (show setE (V.map Sl.P)=0 by
       refine Ov.2 ⟨HF.o,?_⟩
       rw [HX.o] at hO200
       rw [HL.o]
       simpa using hO200)
      have NN:=O (show Ns wr A5 (C7 L.length L L.length).length c5 (setV (V.map Sl.P)) by
       have e:setV (V.map Sl.P)=C7 L.length L L.length:=by
        rw [HX.o,Pq HEE.o,HL.o]
       rw [e]
       refine⟨rfl,hc5,by unfold maxLen;omega,hA5,?_⟩
       rw [HX.o]
       refine zeV (by have:=HLL.o;omega) λP hP=>?_
       rw [<-HL.o] at hP
       exact HV.o.nds P (vT.1 hP))
      clear hp rowK hc5 hA5 hB5 N3 HQ HZ HE HK;go_wp2_with fail;go_ret2;exact⟨A5,_,c5,by rw [HEE.o];rfl,NN.o,BK.o,HB5.o⟩
 ·have HE:=O (show setE (V.map Sl.P)=u3 V/\setE (V.map Sl.P)≠0 by
   have e2:setE (V.map Sl.P)=u3 V:=by unfold setE;exact jw hF _
   exact⟨e2,by rw [e2];exact hF⟩)
  have e0:(u3 V != 0)=true:=by rw [bne_iff_ne];exact hF
  clear hF;go_enter Tryz.func44,Tryz.ntmps44;go_wp2_with fail;refine(CF.o).mono ?_;rintro e w1 ⟨rfl,b1⟩;go_wp2_with fail;go_ret2;exact⟨none,0,0,by rw [HE.o.1];rfl,by rw [ND HE.o.2];exact jM _,b1,λa e=>by cases e⟩
theorem zjK{y:Ex}{ps:Exs}(h:y∈ps.list):y.flat.length<=ps.flat.length:=by
 induction ps using Exs.rec (motive_1:=λ_=>True) with
 | node _ _ _=>trivial
 | nil=>cases h
 | cons x r _ ih =>
  simp only [Exs.flat,List.length_append]
  rcases List.mem_cons.1 h with rfl|h
  ·omega
  ·have:=ih h;omega
theorem zfR(c:Bool)(x:Ex):(E5 c x).flat.length<=x.flat.length:=by
 unfold E5;split
 ·simp only [Ex.flat,Exs.flat,List.length_cons,List.length_append];omega
 ·exact Nat.le_refl _
theorem zev{t:List Nd}{p N:Nat}{c:Bool}{ps:Exs}(h:Pd t p c ps)(hN:ps.flat.length<=N){j:Nat}{x:Ex}(hx:(ps.list.map (E5 c))[j]?=some x):
 ∃q:Nat,(qm c p ps)[j]?=some q/\XAt t q false x/\x.flat.length<=N:=by
 rw [List.getElem?_map,Option.map_eq_some_iff] at hx;obtain⟨y,hy,rfl⟩:=hx;obtain⟨q,e1,e2,-⟩:=h.at j y hy;exact⟨q,e1,e2,Nat.le_trans (zfR c y) (Nat.le_trans (zjK (List.mem_of_getElem? hy)) hN)⟩
theorem Uy{w:World}{B n:Nat}{e:TypeId}{size:Nat}{v:Value}{xs:List Value}(h:w.ownsRow B e size v n xs):∀g,v.ownBlock=some g->B<=g/\g<w.heap.size:=by
 intro g hg;rcases h.2 with ⟨rfl,_⟩|⟨g',cap,cur,rfl,hb,hc,_⟩
 ·simp [Value.ownBlock] at hg
 ·simp [Value.ownBlock] at hg;subst hg;exact⟨hb,(Array.getElem?_eq_some_iff.1 hc).1⟩
theorem zeX(c:Bool):∀(r:Exs) (p:Nat),∀q∈qm c p r,p<=q
 | .nil,p,q,h=>by simp [qm] at h;omega
 | .cons x r,p,q,h=>by
  simp only [qm,List.mem_cons] at h;rcases h with rfl|h
  ·split <;> omega
  ·have:=zeX c r _ q h;omega
def KZ(t:List Nd)(c:Bool)(p:Nat)(ps:Exs):List ByteArray:=((qm c p ps).take ps.len).map λq=>((t[q-1]?).getD ⟨0,0,emp,emp⟩).s
theorem UV(t:List Nd)(c:Bool)(p:Nat)(ps:Exs):(KZ t c p ps).length=ps.len:=by
 unfold KZ;rw [List.length_map,List.length_take,Ty];omega
theorem zea{t:List Nd}{p:Nat}{ps:Exs}(h:Pd t p true ps):KZ t true p ps=ps.list.map λx=>x.head.s:=by
 apply List.ext_getElem?;intro j;by_cases hj:j<ps.len
 ·have Ma:j<ps.list.length:=by rw [Mg];exact hj
  obtain⟨q,e1,-,e3,-⟩:=h.at j _ (List.getElem?_eq_getElem Ma);obtain⟨-,e4⟩:=e3 rfl;unfold KZ;rw [List.getElem?_map,List.getElem?_take,if_pos hj,e1,List.getElem?_map,List.getElem?_eq_getElem Ma];simp [e4]
 ·rw [List.getElem?_eq_none (by rw [UV];omega),List.getElem?_eq_none (by rw [List.length_map,Mg];omega)]
theorem zf6{t:List Nd}{c:Bool}{p:Nat}{ps:Exs}{j q:Nat}(hj:j<ps.len)(e:(qm c p ps)[j]?=some q)(x:Nd)(hx:t[q-1]?=some x):(KZ t c p ps)[j]?=some x.s:=by
 unfold KZ;rw [List.getElem?_map,List.getElem?_take,if_pos hj,e];simp [hx]
structure Vn1(w:World)(b:Nat)(x:Nd)(g:Addr)(A:Option Addr)(n c:Nat):Prop where
 x:Vn w b x
 g0:w.cell? g=some (.slice A n c)
 g1:w.cell? ⟨g.block,g.off+1,none⟩=some (.int .i64 0)
theorem Vn1.keep{w w':World}{b:Nat}{x:Nd}{g:Addr}{A:Option Addr}{n c:Nat}(h:Vn1 w b x g A n c)(hb:Below w.heap.size w w'):Vn1 w' b x g A n c:=⟨h.x.keep hb,za hb h.g0,za hb h.g1⟩
theorem Vn1.but{w w':World}{b:Nat}{x:Nd}{g:Addr}{A:Option Addr}{n c t:Nat}(h:Vn1 w b x g A n c)(hg:w.grownBy w' (some t))(h1:b≠t)(h2:g.block≠t):Vn1 w' b x g A n c:=by
 have e1:some b≠some t:=λe=>by injection e with e;exact h1 e
 have e2:some g.block≠some t:=λe=>by injection e with e;exact h2 e
 exact⟨⟨hg.cell h.x.c0 e1,hg.cell h.x.c1 e1,hg.cell h.x.c2 e1,hg.cell h.x.c3 e1⟩,hg.cell h.g0 e2,hg.cell h.g1 e2⟩
theorem Tc{w:World}{b:Nat}{x:Nd}{g:Addr}{A:Option Addr}{n c:Nat}(h:Vn1 w b x g A n c):w.cell? ⟨b,0,none⟩=some (.int .i64 x.op)/\w.cell? ⟨b,1,none⟩=some (.int .i64 x.n)/\w.cell? ⟨b,2,none⟩=some (.string x.s)/\w.cell? ⟨b,3,none⟩=some (.string x.t)/\w.cell? g=some (.slice A n c)/\w.cell? ⟨g.block,g.off+1,none⟩=some (.int .i64 0):=
 ⟨h.x.c0,h.x.c1,h.x.c2,h.x.c3,h.g0,h.g1⟩
structure Vn2(w:World)(b:Nat)(x:Nd)(g:Addr)(A B:Option Addr)(n c m d:Nat):Prop where
 p:Vn1 w b x g A n c
 g2:w.cell? ⟨g.block,g.off+2,none⟩=some (.slice B m d)
 g3:w.cell? ⟨g.block,g.off+2+1,none⟩=some (.int .i64 0)
theorem Vn2.keep{w w':World}{b:Nat}{x:Nd}{g:Addr}{A B:Option Addr}{n c m d:Nat}(h:Vn2 w b x g A B n c m d)(hb:Below w.heap.size w w'):Vn2 w' b x g A B n c m d:=⟨h.p.keep hb,za hb h.g2,za hb h.g3⟩
theorem Vn2.but{w w':World}{b:Nat}{x:Nd}{g:Addr}{A B:Option Addr}{n c m d t:Nat}(h:Vn2 w b x g A B n c m d)(hg:w.grownBy w' (some t))(h1:b≠t)(h2:g.block≠t):Vn2 w' b x g A B n c m d:=by
 have e2:some g.block≠some t:=λe=>by injection e with e;exact h2 e
 exact⟨h.p.but hg h1 h2,hg.cell h.g2 e2,hg.cell h.g3 e2⟩
theorem SY{w:World}{b:Nat}{x:Nd}{g:Addr}{A B:Option Addr}{n c m d:Nat}(h:Vn2 w b x g A B n c m d):w.cell? ⟨b,0,none⟩=some (.int .i64 x.op)/\w.cell? g=some (.slice A n c)/\w.cell? ⟨g.block,g.off+1,none⟩=some (.int .i64 0)/\w.cell? ⟨g.block,g.off+2,none⟩=some (.slice B m d)/\w.cell? ⟨g.block,g.off+2+1,none⟩=some (.int .i64 0):=
 ⟨h.p.x.c0,h.p.g0,h.p.g1,h.g2,h.g3⟩
def Qm(w:World)(rr:Res)(e:Ending)(w':World):Prop :=
 ∃(A:Option Addr) (n c:Nat),e = .returned (.tuple #[.slice A n c,.int .i64 (z7 rr)])/\Ns w' A n c (zh6 rr)/\Below w.heap.size w w'/\∀a,A=some a->w.heap.size<=a.block
theorem zay{u:Int}{V:List Nd}(h:u≠0->V = []):z7 (z6 u V)=u/\zh6 (z6 u V)=V:=by
 unfold z6;split
 ·next h0=>exact⟨h0.symm,rfl⟩
 ·next h0=>exact⟨rfl,(h h0).symm⟩
theorem zhM{w w':World}{rr:Res}{L:List (List Nd)}{e:Ending}(h:rr=z6 (Wk.setE L) (Wk.setV L))(q:zas w L e w'):Qm w rr e w':=by
 subst h;obtain⟨h1,h2⟩:=zay (λq=>ND (L:=L) q);unfold Qm;rw [h1,h2];exact q
theorem zh7{w w':World}{rr:Res}{N:List ByteArray}{L:List (List Nd)}{e:Ending}(h:rr=z6 (oC N L) (Ki N L))(q:Ry w N L e w'):Qm w rr e w':=by
 subst h;obtain⟨h1,h2⟩:=zay (λq=>UE (N:=N) (L:=L) q);unfold Qm;rw [h1,h2];exact q
end Go.Proofs.YtokiogmfgpidmaaGreatDoor
