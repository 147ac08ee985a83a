/-
  eval.next: the value of the expression at the place. (gen_evnext.py) eval.next: ..
-/
import Derived.Test.YtokiogmfgpidmaaGreatDoorD36
set_option maxRecDepth 100000
set_option maxHeartbeats 4000000
namespace Go.Proofs.YtokiogmfgpidmaaGreatDoor
open Go.RowKit Go.Wk Go.Sort
theorem Ai:Lb.toList = [112,114,105,110,99,105,112,97,108]:=by kernel_rfl
theorem Kc:Ow.toList = [97,99,116,105,111,110]:=by kernel_rfl
theorem Kr:IM.toList = [114,101,115,111,117,114,99,101]:=by kernel_rfl
theorem OT:Je.toList = [99,111,110,116,101,120,116]:=by kernel_rfl
theorem Nd4.but{w w':World}{b:Nat}{x:Nd}{R:Nat}(h:Nd4 w ⟨b,0,none⟩ x)(hg:w.grownBy w' (some R))(hne:b≠R):Nd4 w' ⟨b,0,none⟩ x :=
 have e:some b≠some R:=λq=>hne (by injection q)
 ⟨hg.cell h.c0 e,hg.cell h.c1 e,hg.cell h.c2 e,hg.cell h.c3 e⟩
theorem Z'{w:World}{R:Nat}{k:Cx}(h:Gh w R k)(x:Nd)(hx:x.op=9\/x.op=10\/x.op=21\/x.op=22\/x.op=23\/x.op=24)(hs:x.s.size<=maxLen)(A:Option Addr)(n c:Nat)(V:List Nd)(hv:Ns w A n c V)(h0:0<V.length):
 Calls Tryz.prog 60 #[.pointer (some ⟨R,0,none⟩),ndV x,.slice A n c] w (jl w (jv k.E x V)):=by
 rcases hx with q|q|q|q|q|q
 ·exact zcZ h x q A n c V hv h0
 ·exact zdS h x q A n c V hv h0
 ·exact zcP h x q A n c V hv h0
 ·exact zeb h x q A n c V hv h0
 ·exact zaY h x q hs A n c V hv h0
 ·exact zgL h x q A n c V hv h0
theorem zft{w:World}{R:Nat}{k:Cx}(h:Gh w R k)(A B:Option Addr)(n m c d:Nat)(P Q:List Nd)(hP:Ns w A n c P)(h0:0<P.length)(hQ:Ns w B m d Q)(h1:0<Q.length)(vQ:zc Q=0):
 Calls Tryz.prog 61 #[.pointer (some ⟨R,0,none⟩),.int .i64 20,.slice A n c,.slice B m d] w (jl w (jO k.E 20 P Q)):=by
 have K:=O (zla h A B n m c d P Q hP h0 hQ h1 vQ);unfold Tr at K;have HR:=O (show jO k.E 20 P Q=(if zf P=4/\(f9 Q).all (λt=>decide (zf t=4)) then .ok (zI ((f9 Q).any λt=>inB k.E (jc P) (jc t))) else .error 2) by unfold jO;rw [if_neg (by decide),if_pos rfl];rfl);rw [HR.o];generalize ((f9 Q).any λt=>inB k.E (jc P) (jc t))=b at *;clear h hP h0 hQ h1 vQ;by_cases g:zf P=4/\(f9 Q).all (λt=>decide (zf t=4))=true
 ·rw [if_pos g];simp only [if_pos g] at K;clear g HR;go_enter Tryz.func61,Tryz.ntmps61;go_wp2_with fail;refine K.o.mono ?_;rintro e w1 ⟨b1,rfl⟩;have B1:=O b1;clear b1 K;go_wp2_with fail;refine(j6 b w1).mono ?_;rintro e w2 hp;have HP:=O (hp.up B1.o);obtain⟨-,A2,n2,c2,rfl,-,-⟩:=hp;go_wp2_with fail;go_ret;exact HP.o
 ·rw [if_neg g];simp only [if_neg g] at K;clear g HR;go_enter Tryz.func61,Tryz.ntmps61;go_wp2_with fail;refine K.o.mono ?_;rintro e w1 ⟨b1,rfl⟩;have B1:=O b1;clear b1 K;go_wp2_with fail;exact⟨rfl,j8 B1.o⟩
theorem Z6{w:World}{R:Nat}{k:Cx}(h:Gh w R k)(op:Int)(A B:Option Addr)(n m c d:Nat)(P Q:List Nd)(hP:Ns w A n c P)(h0:0<P.length)(hQ:Ns w B m d Q)(h1:0<Q.length)(vQ:zc Q=0):
 Calls Tryz.prog 61 #[.pointer (some ⟨R,0,none⟩),.int .i64 op,.slice A n c,.slice B m d] w (jl w (jO k.E op P Q)):=by
 by_cases q14:op=14
 ·subst q14;exact zfq h A B n m c d P Q hP hQ
 by_cases q20:op=20
 ·subst q20;exact zft h A B n m c d P Q hP h0 hQ h1 vQ
 by_cases q25:op=25
 ·subst q25;exact zdK h A B n m c d P Q hP hQ
 by_cases q26:op=26
 ·subst q26;exact zdk h A B n m c d P Q hP hQ
 by_cases q27:op=27
 ·subst q27;exact zcR h A B n m c d P Q hP hQ
 by_cases g:zf P=2
 ·by_cases g2:zf Q=2
  ·by_cases q15:op=15
   ·subst q15;exact zge h A B n m c d P Q hP h0 hQ h1 g g2
   by_cases q16:op=16
   ·subst q16;exact zgn h A B n m c d P Q hP h0 hQ h1 g g2
   exact zfN h op ⟨q14,q20,q25,q26,q27⟩ ⟨q15,q16⟩ A B n m c d P Q hP h0 hQ h1 g g2
  ·exact zdc h op ⟨q14,q20,q25,q26,q27⟩ A B n m c d P Q hP h0 hQ h1 g g2
 ·exact zdp h op ⟨q14,q20,q25,q26,q27⟩ A B n m c d P Q hP h0 hQ h1 g
end Go.Proofs.YtokiogmfgpidmaaGreatDoor
namespace Go.Wk
section
variable {P Q:List Nd} (h:jU P Q=0)
include h
end
end Go.Wk
namespace Go.Proofs.YtokiogmfgpidmaaGreatDoor
open Go.RowKit Go.Wk
def setX(L:List Ex):Ex := .node ⟨5,L.length,emp,emp⟩ (match L with
 | [a,b] => .cons a (.cons b .nil)
 | [a,b,c] => .cons a (.cons b (.cons c .nil))
 | _ => .nil)
theorem PK(p:List Nd):∀l:List (List Nd),(NW p l).length<=l.length+1
 | []=>by simp [NW]
 | q :: r=>by
  have:=PK p r;simp only [NW];split
  ·simp
  ·split
   ·simp
   ·simp only [List.length_cons];omega
theorem Vi:∀l:List (List Nd),(jT l).length<=l.length
 | []=>by simp [jT]
 | p :: r=>by
  have h1:=Vi r;have h2:=PK p (jT r);simp only [jT,List.length_cons];omega
end Go.Proofs.YtokiogmfgpidmaaGreatDoor
