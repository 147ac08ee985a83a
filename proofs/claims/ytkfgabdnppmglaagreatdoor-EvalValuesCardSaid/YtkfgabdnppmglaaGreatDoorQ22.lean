/-
  val.Parts and val.Get. The contracts of the reference's checks of names and texts. The reference's ValueNode and UidFault. The reference's order of nodes. The ..
-/
import Derived.Lib.SlicesS
import Derived.Test.YtkfgabdnppmglaaGreatDoorQ18
import Derived.Test.YtkfgabdnppmglaaGreatDoorQ19
import Derived.Test.YtkfgabdnppmglaaGreatDoorQ21
set_option maxRecDepth 100000
set_option maxHeartbeats 4000000
namespace Go.Wk
def zbj(P:List Nd):Int:=if zc P=0 then(if zf P=5∨zf P=6 then 0 else 2) else zc P
def zb7(P:List Nd):List (List Nd):=if zbj P=0 then(if zf P=5 then zl P else(zR P).map (·.2)) else []
def zjm(P:List Nd)(s:ByteArray):Option (List Nd):=((zR P).find? fun x=>decide (jk x.1 s=0)).map (·.2)
def zah(P:List Nd)(s:ByteArray):Int:=if zc P=0 then(if zf P=6 then(if(zjm P s).isSome then 0 else 3) else 2) else zc P
def zb0(P:List Nd)(s:ByteArray):List Nd:=if zah P s=0 then(zjm P s).getD [] else []
theorem jO{P:List Nd}(h:0<P.length):zf P=P[0].op:=by
 rcases P with _|⟨x,r⟩
 ·simp at h
 ·rfl
theorem zo4{α:Type}{l:List α}{p:α→Bool}{k:Nat}(h:k<l.length)(hp:p l[k]=true)(hn:∀j,(hj:j<k)→p (l[j]'(by omega))=false):l.find? p=some l[k]:=by
 rw [List.find?_eq_some_iff_getElem];exact⟨hp,k,h,rfl,fun j hj=>by rw [hn j hj];rfl⟩
theorem zrt(N:List ByteArray)(s:ByteArray):(∃(k:Nat) (h:k<N.length),Lib.idxOfS N s=k∧N[k]=s∧∀j,(hj:j<k)→(N[j]'(by omega))≠s)∨(Lib.idxOfS N s = -1∧∀j,(hj:j<N.length)→N[j]≠s):=by
 unfold Lib.idxOfS;have key:∀(N:List ByteArray) (i:Nat),(∃(k:Nat) (h:k<N.length),Lib.idxFromS N s i=((i+k:Nat):Int)∧N[k]=s∧∀j,(hj:j<k)→(N[j]'(by omega))≠s)∨(Lib.idxFromS N s i = -1∧∀j,(hj:j<N.length)→N[j]≠s):=by
  intro N
  induction N with
  | nil=>intro i;exact .inr ⟨rfl,fun j hj=>by simp at hj⟩
  | cons x N ih =>
   intro i
   by_cases hx:x=s
   ·exact .inl ⟨0,by simp,by simp [Lib.idxFromS,hx],hx,fun j hj=>by omega⟩
   ·rcases ih (i+1) with ⟨k,hk,h1,h2,h3⟩|⟨h1,h2⟩
    ·refine .inl ⟨k+1,by simp;omega,?_,h2,fun j hj=>?_⟩
     ·simp only [Lib.idxFromS,hx];rw [if_neg (by simp),h1];congr 1;omega
     ·rcases j with _|j
      ·exact hx
      ·exact h3 j (by omega)
    ·refine .inr ⟨?_,fun j hj=>?_⟩
     ·simp only [Lib.idxFromS,hx];rw [if_neg (by simp)];exact h1
     ·rcases j with _|j
      ·exact hx
      ·exact h2 j (by simpa using hj)
 have:=key N 0;simpa using this
end Go.Wk
namespace Go.Proofs.YtkfgabdnppmglaaGreatDoor
open Go.RowKit Go.Wk Go.Sort
theorem zU{A:Option Addr}{n c:Nat}{P:List Nd}{w:World}(h:Ns w A n c P):Calls Tryz.prog 40 #[.slice A n c] w fun e w'=>e = .returned (j3 (zc P))∧Below w.heap.size w w' :=
 zpC A n c P w h.len h.cap h.max h.at_ h.ok
def zbr(w:World)(P:List Nd)(e:Ending)(w':World):Prop :=
 ∃(v:Value) (V:List Sl),e = .returned (.tuple #[v,j3 (zbj P)])∧zT w' w.heap.size v V∧V.map Sl.P=zb7 P∧(∀r∈V,∀a,r.A=some a→w.heap.size≤a.block)∧Below w.heap.size w w'
theorem zap(A:Option Addr)(n c:Nat)(P:List Nd)(w:World)(h:Ns w A n c P):
 Calls Tryz.prog 128 #[.slice A n c] w (zbr w P):=by
 have K:=hi9 (zU h);have H:=hi9 h;by_cases h0:zc P=0
 ·have hV:=(zP.1 h0).2;have hpos:=hV.pos;obtain⟨a,rfl,D⟩:=h.at_.nd hpos;rw [show a.add (0*4)=a from rfl] at D;have hn1:0<n:=by rw [h.len];exact hpos
  have d0:=D.c0;rw [←jO hpos] at d0;rw [h0,zo] at K;by_cases h5:zf P=5
  ·have S:=hi9 (fun w' hb=>zqO (some a) n c P w' (h.keep hb) h0 h5);have hE:zbj P=0:=by unfold zbj;rw [if_pos h0,if_pos (.inl h5)]
   have HL:=hi9 (show zb7 P=zl P by unfold zb7;rw [if_pos hE,if_pos h5]);have HE:=hi9 hE;rw [h5] at d0;clear h h0 hV D h5 hE;go_enter Tryz.func128,Tryz.ntmps128;go_wp2_with fail;refine(K.out).mono ?_;rintro e w1 ⟨rfl,b1⟩;replace d0:=za b1 d0;have B1:=hi9 b1;clear b1;go_wp2_with fail;refine(S.out _ B1.out).mono ?_;rintro e w2 ⟨v,v',V,rfl,hO,hVL,-,hF,b2⟩;have HF:=hi9 (fun r hr a h=>Nat.le_trans B1.out.size (Nat.le_of_lt (hF r hr a h)));have HO:=hi9 (hO.mono B1.out.size);have HV:=hi9 (hVL.trans HL.out.symm);have B2:=bh B1 b2;clear hO hVL hF b2;go_wp2_with fail;go_ret2;exact⟨v,V,by rw [HE.out];rfl,HO.out,HV.out,HF.out,B2.out⟩
  ·by_cases h6:zf P=6
   ·have S:=hi9 (fun w' hb=>zjX (some a) n c P w' (h.keep hb) h0 h6);have hE:zbj P=0:=by unfold zbj;rw [if_pos h0,if_pos (.inr h6)]
    have HL:=hi9 (show zb7 P=(zR P).map (·.2) by unfold zb7;rw [if_pos hE,if_neg h5]);have HE:=hi9 hE;rw [h6] at d0;clear h h0 hV D h5 h6 hE;go_enter Tryz.func128,Tryz.ntmps128;go_wp2_with fail;refine(K.out).mono ?_;rintro e w1 ⟨rfl,b1⟩;replace d0:=za b1 d0;have B1:=hi9 b1;clear b1;go_wp2_with fail;refine(S.out _ B1.out).mono ?_;rintro e w2 ⟨v,v',V,rfl,hO,hVL,-,hF,b2⟩;have HF:=hi9 (fun r hr a h=>Nat.le_trans B1.out.size (Nat.le_of_lt (hF r hr a h)));have HO:=hi9 (hO.mono B1.out.size);have HV:=hi9 (hVL.trans HL.out.symm);have B2:=bh B1 b2;clear hO hVL hF b2;go_wp2_with fail;go_ret2;exact⟨v,V,by rw [HE.out];rfl,HO.out,HV.out,HF.out,B2.out⟩
   ·have hE:zbj P=2:=by unfold zbj;rw [if_pos h0,if_neg (by omega)]
    have HL:=hi9 (show zb7 P = [] by unfold zb7;rw [if_neg (by omega)]);have HE:=hi9 hE;have g5:(zf P != 5)=true:=by rw [bne_iff_ne];exact h5
    have g6:(zf P != 6)=true:=by rw [bne_iff_ne];exact h6
    clear h h0 hV D h5 h6 hE;go_enter Tryz.func128,Tryz.ntmps128;go_wp2_with fail;refine(K.out).mono ?_;rintro e w1 ⟨rfl,b1⟩;replace d0:=za b1 d0;have B1:=hi9 b1;clear b1;go_wp2_with fail;go_ret2;exact⟨_,[],by rw [HE.out];rfl,zT.nil _ _,HL.out.symm,(by intro r hr;cases hr),B1.out⟩
 ·have hE:zbj P=zc P:=by unfold zbj;rw [if_neg h0]
  have HL:=hi9 (show zb7 P = [] by unfold zb7;rw [if_neg (by rw [hE];exact h0)]);have HE:=hi9 hE;rw [zC h0] at K;have HX:=hi9 (zC h0);clear h h0 hE;go_enter Tryz.func128,Tryz.ntmps128;go_wp2_with fail;refine(K.out).mono ?_;rintro e w1 ⟨rfl,b1⟩;go_wp2_with fail;go_ret2;exact⟨_,[],by rw [HE.out,HX.out];rfl,zT.nil _ _,HL.out.symm,(by intro r hr;cases hr),b1⟩
theorem znX{w:World}{B:Nat}{v:Value}{N:List ByteArray}(s:ByteArray)(h:w.ownsRow B 9 1 v N.length (N.map Value.string))(hN:N.length≤100000):
 Calls Tryz.prog 126 #[v,.string s] w fun e w'=>e = .returned (.int .i64 (Lib.idxOfS N s))∧w'=w:=by
 rcases h.2 with ⟨rfl,h0⟩|⟨g,cap,cur,rfl,-,-,hc,-⟩
 ·have:N = []:=List.eq_nil_of_length_eq_zero h0;subst this;exact Tryz.slices_Index_string_empty none 0 s w
 ·have:=Tryz.slices_Index_string g 0 N.length cap N s w (Nat.le_refl _) (by omega) (fun j hj=>by
   have e:=h.cells (g:=g) rfl j (.string N[j]) (by rw [List.getElem?_map,List.getElem?_eq_getElem hj];rfl)
   rw [zbD] at e
   rw [e]
   simp [hj])
  rw [List.take_length] at this
  exact this
def zfh(w:World)(P:List Nd)(s:ByteArray)(e:Ending)(w':World):Prop :=
 ∃(A:Option Addr) (n c:Nat),e = .returned (.tuple #[.slice A n c,j3 (zah P s)])∧Ns w' A n c (zb0 P s)∧(∀a,A=some a→w.heap.size≤a.block)∧Below w.heap.size w w'
theorem zfs{P:List Nd}(h:zc P=0)(h6:zf P=6):(zR P).length≤200:=by
 obtain⟨h1,h2⟩:=zP.1 h;obtain⟨e,-,h3,-⟩:=zpk h2 h6;have:(zR P).length≤(zK (zR P)).length:=by
  generalize zR P=l
  induction l with
  | nil=>simp
  | cons x l ih=>simp only [zK,List.length_cons,List.length_append];omega
 have hl:=congrArg List.length e;simp only [List.length_cons] at hl;omega
theorem zhe(A:Option Addr)(n c:Nat)(P:List Nd)(s:ByteArray)(w:World)(h:Ns w A n c P):
 Calls Tryz.prog 85 #[.slice A n c,.string s] w (zfh w P s):=by
 have K:=hi9 (zU h);by_cases h0:zc P=0
 ·have hV:=(zP.1 h0).2;have hpos:=hV.pos;obtain⟨a,rfl,D⟩:=h.at_.nd hpos;rw [show a.add (0*4)=a from rfl] at D;have hn1:0<n:=by rw [h.len];exact hpos
  have d0:=D.c0;rw [←jO hpos] at d0;rw [h0,zo] at K;by_cases h6:zf P=6
  ·have S:=hi9 (fun w' hb=>zjX (some a) n c P w' (h.keep hb) h0 h6);have HG:=hi9 (show zah P s=if(zjm P s).isSome then 0 else 3 by unfold zah;rw [if_pos h0,if_pos h6]);have HLn:=hi9 (zfs h0 h6);rw [h6] at d0;clear h h0 hV D h6;go_enter Tryz.func85,Tryz.ntmps85;go_wp2_with fail;refine(K.out).mono ?_;rintro e w1 ⟨rfl,b1⟩;replace d0:=za b1 d0;have B1:=hi9 b1;clear b1;go_wp2_with fail;refine(S.out _ B1.out).mono ?_;rintro e w2 ⟨v,v',V,rfl,hO,hVL,hN,hfr,b2⟩;have HFr:=hi9 (show∀r∈V,∀a,r.A=some a→w.heap.size≤a.block from fun r hr a e=>Nat.le_trans B1.out.size (Nat.le_of_lt (hfr r hr a e)));clear hfr;have B2:=bh B1 b2;have I:=hi9 (znX s hN (by simp;have:=HLn.out;omega));have HV:=hi9 hVL;have hVl:=congrArg List.length hVL;simp only [List.length_map] at hVl;obtain⟨A2,c2,rfl,hc2,hS2⟩:=hO.at
   have HS:=hi9 hS2;clear hO hVL hN b2 hS2;rcases zrt ((zR P).map (·.1)) s with ⟨k,hk,hi,hkk,hlt⟩|⟨hi,hno⟩
   ·have hk':k<(zR P).length:=by simpa using hk
    have hkV:k<V.length:=by omega
    have hR:zjm P s=some (zR P)[k].2:=by
     unfold zjm;rw [zo4 hk' (decide_eq_true ((jx.zero _ _).2 (by simpa using hkk))) (fun j hj=>decide_eq_false (fun q=>hlt j hj (by simpa using(jx.zero _ _).1 q)))];rfl
    obtain⟨a2,rfl,q2,n2⟩:=HS.out.at hkV;have hP:V[k].P=(zR P)[k].2:=by
     have:=congrArg (fun l=>l[k]?) HV.out;simp only [List.getElem?_map,List.getElem?_eq_getElem hkV,List.getElem?_eq_getElem hk',Option.map_some,Option.some.injEq] at this;exact this
    have HE2:=hi9 (show zah P s=0 by rw [HG.out,hR];rfl);have HV2:=hi9 (show zb0 P s=V[k].P by unfold zb0;rw [if_pos HE2.out,hR,hP];rfl);have HN2:=hi9 n2;have HFR:=hi9 (HFr.out V[k] (List.getElem_mem hkV));rw [hi] at I;generalize V[k]=r at *;clear hk hi hkk hlt hR hP n2 hVl hk';go_wp2_with fail;refine I.out.mono ?_;rintro e w3 ⟨rfl,rfl⟩;go_wp2_with fail;go_ret2;exact⟨r.A,r.n,r.c,by rw [HE2.out];rfl,by rw [HV2.out];exact HN2.out,HFR.out,B2.out⟩
   ·have hR:zjm P s=none:=by
     unfold zjm;rw [List.find?_eq_none.2 (fun x hx=>by
      obtain⟨j,hj,rfl⟩:=List.getElem_of_mem hx
      have:=hno j (by simpa using hj)
      simp only [decide_eq_true_eq]
      intro q
      exact this (by simpa using(jx.zero _ _).1 q))]
     rfl
    have HE2:=hi9 (show zah P s=3 by rw [HG.out,hR];rfl)
    have HV2:=hi9 (show zb0 P s = [] by unfold zb0;rw [HE2.out];rfl)
    rw [hi] at I
    clear hi hno hR hVl
    go_wp2_with fail
    refine I.out.mono ?_
    rintro e w3 ⟨rfl,rfl⟩
    go_wp2_with fail
    go_ret2
    exact⟨none,0,0,by rw [HE2.out];rfl,by rw [HV2.out];exact⟨rfl,Nat.le_refl _,by unfold maxLen;omega,fun k x hx=>by simp at hx,fun x hx=>by cases hx⟩,(fun _ e=>nomatch e),B2.out⟩
  ·have hE:zah P s=2:=by unfold zah;rw [if_pos h0,if_neg h6]
   have HV2:=hi9 (show zb0 P s = [] by unfold zb0;rw [hE];rfl);have HE:=hi9 hE;have g6:(zf P != 6)=true:=by rw [bne_iff_ne];exact h6
   clear h h0 hV D h6 hE;go_enter Tryz.func85,Tryz.ntmps85;go_wp2_with fail;refine(K.out).mono ?_;rintro e w1 ⟨rfl,b1⟩;replace d0:=za b1 d0;have B1:=hi9 b1;clear b1;go_wp2_with fail;go_ret2;exact⟨none,0,0,by rw [HE.out];rfl,by rw [HV2.out];exact⟨rfl,Nat.le_refl _,by unfold maxLen;omega,fun k x hx=>by simp at hx,fun x hx=>by cases hx⟩,(fun _ e=>nomatch e),B1.out⟩
 ·have hE:zah P s=zc P:=by unfold zah;rw [if_neg h0]
  have HV2:=hi9 (show zb0 P s = [] by unfold zb0;rw [if_neg (by rw [hE];exact h0)]);have HE:=hi9 hE;rw [zC h0] at K;have HX:=hi9 (zC h0);clear h h0 hE;go_enter Tryz.func85,Tryz.ntmps85;go_wp2_with fail;refine(K.out).mono ?_;rintro e w1 ⟨rfl,b1⟩;go_wp2_with fail;go_ret2;exact⟨none,0,0,by rw [HE.out,HX.out];rfl,by rw [HV2.out];exact⟨rfl,Nat.le_refl _,by unfold maxLen;omega,fun k x hx=>by simp at hx,fun x hx=>by cases hx⟩,(fun _ e=>nomatch e),b1⟩
end Go.Proofs.YtkfgabdnppmglaaGreatDoor
namespace Go.Proofs.YtkfgabdnppmglaaGreatDoor
open Go.RowKit Go.Wk
theorem zkV(n:Int)(w:World)(h0:0≤n)(h1:n≤255):Calls Tryz.prog 97 #[.int .u8 n] w fun e w'=>e = .returned (.bool (zb5 n))∧w=w':=by
 go_enter Tryz.func97,Tryz.ntmps97;go_wp2
 all_goals (go_ret;exact⟨zq (by unfold zb5;rw [Bool.eq_iff_iff];simp;omega),rfl⟩)
theorem zmQ(n:Int)(w:World)(h0:0≤n)(h1:n≤255):Calls Tryz.prog 98 #[.int .u8 n] w fun e w'=>e = .returned (.bool (ze6 n))∧w=w':=by
 go_enter Tryz.func98,Tryz.ntmps98;go_wp2
 all_goals (go_ret;exact⟨zq (by unfold ze6;rw [Bool.eq_iff_iff];simp;omega),rfl⟩)
theorem zaX(s:ByteArray)(w:World)(hs:s.size≤maxLen):Calls Tryz.prog 49 #[.string s] w fun e w'=>e = .returned (.int .i64 (zg s))∧w=w':=by
 unfold maxLen at hs;go_enter Tryz.func49,Tryz.ntmps49;go_wp2;go_loop [2,3] (fun r i=>∃k:Nat,k≤s.size∧i = .int .i64 k∧r = .int .i64 0∧Hid (0<k→zaT (s.data.toList.take k)=true)) (fun _ i=>s.size-(intOf i).toNat)
 case atStart=>exact⟨0,Nat.zero_le _,rfl,rfl,fun h=>absurd h (by omega)⟩
 case round =>
  obtain⟨k,hk,rfl,rfl,hall⟩:=hrel;by_cases hlt:k<s.size
  ·have C1:=hi9 (fun w=>zkV (s[k].toNat:Int) w (by omega) (by have:=s[k].toNat_lt;omega));have C2:=hi9 (fun w=>zmQ (s[k].toNat:Int) w (by omega) (by have:=s[k].toNat_lt;omega));by_cases hk0:k=0
   ·subst hk0;have G1:=hi9 (fun q:zb5 (s[0].toNat:Int)=true=>(show zaT (s.data.toList.take 1)=true from zgS hlt q));have G2:=hi9 (fun q:zb5 (s[0].toNat:Int)=false=>(show zg s=1 by unfold zg;rw [zdg hlt q];rfl));clear hall;rcases hx:zb5 (s[0].toNat:Int) with _|_ <;> rw [hx] at C1 G1 G2 <;> clear hx
    ·go_wp2_with (go_at_call 97;refine(C1.out _).mono ?_;rintro e w' ⟨rfl,rfl⟩);go_ret;exact⟨by rw [G2.out (by simp)];rfl,rfl⟩
    ·go_wp2_with (go_at_call 97;refine(C1.out _).mono ?_;rintro e w' ⟨rfl,rfl⟩);go_round
     case rel=>exact⟨1,by omega,by go_num,rfl,fun _=>G1.out (by simp)⟩
     case measure=>simp [intOf];omega
   ·have hst:zbK s[k]=(zb5 (s[k].toNat:Int)|| ze6 (s[k].toNat:Int)):=rfl;have G1:=hi9 (fun q:zbK s[k]=true=>(show zaT (s.data.toList.take (k+1))=true from zfP (by omega) hlt (hall.out (by omega)) q));have G2:=hi9 (fun q:zbK s[k]=false=>(show zg s=1 by unfold zg;rw [zlX (by omega) hlt q];rfl));rw [hst] at G1 G2;have hk1:((k:Int)==0)=false:=by rw [beq_eq_false_iff_ne];omega
    clear hst hall hk0;rcases hx:zb5 (s[k].toNat:Int) with _|_ <;> rcases hy:ze6 (s[k].toNat:Int) with _|_ <;> rw [hx] at C1 G1 G2 <;> rw [hy] at C2 G1 G2 <;> clear hx hy
    all_goals go_wp2_with (first|(go_at_call 97;refine(C1.out _).mono ?_;rintro e w' ⟨rfl,rfl⟩)|(go_at_call 98;refine(C2.out _).mono ?_;rintro e w' ⟨rfl,rfl⟩))
    ·go_ret;exact⟨by rw [G2.out (by simp)];rfl,rfl⟩
    all_goals
     go_round
     case rel=>exact⟨k+1,by omega,by go_num,rfl,fun _=>G1.out rfl⟩
     case measure=>simp [intOf];omega
  ·by_cases h0:s.size=0
   ·have H3:=hi9 (show zg s=1 by unfold zg;rw [zdA h0];rfl);have h1:((s.size:Int)==0)=true:=by rw [beq_iff_eq];omega
    clear hall;go_wp2;go_ret;exact⟨by rw [H3.out];rfl,rfl⟩
   ·have H2:=hi9 (show zaT s.data.toList=true from zoa (by omega) (hall.out (by omega)));have h1:((s.size:Int)==0)=false:=by rw [beq_eq_false_iff_ne];omega
    clear hall h0;by_cases h20:20<s.size
    ·have H3:=hi9 (show zg s=4 by unfold zg;rw [H2.out,if_pos rfl,if_pos h20]);clear H2;go_wp2;go_ret;exact⟨by rw [H3.out];rfl,rfl⟩
    ·have H3:=hi9 (show zg s=0 by unfold zg;rw [H2.out,if_pos rfl,if_neg h20]);clear H2;go_wp2;go_ret;exact⟨by rw [H3.out];rfl,rfl⟩
theorem zcO(s:ByteArray)(w:World)(hs:s.size≤maxLen):Calls Tryz.prog 50 #[.string s] w fun e w'=>e = .returned (.int .i64 (zr s))∧Below w.heap.size w w':=by
 unfold maxLen at hs;by_cases h60:60<s.size
 ·have H:=hi9 (show zr s=4 by unfold zr;rw [if_pos h60]);go_enter Tryz.func50,Tryz.ntmps50;go_wp2;go_ret;exact⟨by rw [H.out];rfl,Below.refl _ _⟩
 have H:=hi9 (show zr s=if s.data.toList.all za4 then 0 else 1 by unfold zr;rw [if_neg (by omega)]);go_enter Tryz.func50,Tryz.ntmps50;go_wp2;go_loopw [2,3] (fun r i wr=>∃k:Nat,k≤s.size∧i = .int .i64 k∧r = .int .i64 0∧Hid ((s.data.toList.take k).all za4=true)∧Below w.heap.size w wr) (fun _ i _=>s.size-(intOf i).toNat)
 case atStart=>exact⟨0,Nat.zero_le _,rfl,rfl,by simp [Hid],Below.refl _ _⟩
 case round =>
  obtain⟨k,hk,rfl,rfl,hall,hb⟩:=hrel;by_cases hlt:k<s.size
  ·by_cases hp:32≤(s[k].toNat:Int)∧(s[k].toNat:Int)≤126
   ·have H2:=hi9 (show(s.data.toList.take (k+1)).all za4=true by rw [zho s za4 hlt,hall.out,Bool.true_and];unfold za4 zml;simp;omega);obtain⟨hp1,hp2⟩:=hp;have q1:decide ((s[k].toNat:Int)<32)=false:=by simp;omega
    clear hall;go_wp2;go_roundw
    case rel=>exact⟨k+1,by omega,by go_num,rfl,H2,hb⟩
    case measure=>simp [intOf];omega
   ·have H2:=hi9 (show s.data.toList.all za4=false from ze1 hlt (by unfold za4 zml;rw [Bool.eq_false_iff];simp;omega));clear hall;by_cases hq:(s[k].toNat:Int)<32
    ·clear hp;have q1:decide ((s[k].toNat:Int)<32)=true:=by simp;omega
     go_wp2;go_ret;exact⟨by rw [H.out,H2.out];rfl,hb⟩
    ·have hq2:126<(s[k].toNat:Int):=by omega
     clear hp;have q1:decide ((s[k].toNat:Int)<32)=false:=by simp;omega
     go_wp2;go_ret;exact⟨by rw [H.out,H2.out];rfl,hb⟩
  ·have H2:=hi9 (show s.data.toList.all za4=true from(zkm (k:=k) (by omega)).symm.trans hall.out);clear hall;go_wp2;go_ret;exact⟨by rw [H.out,H2.out];rfl,hb⟩
end Go.Proofs.YtkfgabdnppmglaaGreatDoor
namespace Go.Proofs.YtkfgabdnppmglaaGreatDoor
open Go.RowKit Go.Wk Go.Sort
theorem zbG(s t:ByteArray)(w:World)(hs:s.size≤maxLen)(ht:t.size≤maxLen):
 Calls Tryz.prog 20 #[.agg #[.string s,.string t]] w fun e w'=>e = .returned (.int .i64 (or2 (zg s) (zr t)))∧Below w.heap.size w w':=by
 have N:=hi9 (fun w=>zaX s w hs);have T:=hi9 (fun w=>zcO t w ht);by_cases h1:zg s=0
 ·rw [h1] at N;have H:=hi9 (show or2 (zg s) (zr t)=zr t by rw [h1,zx]);clear h1;go_enter Tryz.func20,Tryz.ntmps20;go_wp2_with fail;refine(N.out _).mono ?_;rintro e w1 ⟨rfl,rfl⟩;go_wp2_with fail;refine(T.out _).mono ?_;rintro e w2 ⟨rfl,b2⟩;go_wp2_with fail;go_ret;exact⟨zQ H.out.symm,zy b2⟩
 ·have H:=hi9 (show or2 (zg s) (zr t)=zg s from jc h1 _);have h2:(zg s==0)=false:=beq_eq_false_iff_ne.2 h1;clear h1;go_enter Tryz.func20,Tryz.ntmps20;go_wp2_with fail;refine(N.out _).mono ?_;rintro e w1 ⟨rfl,rfl⟩;go_wp2_with fail;go_ret;exact⟨zQ H.out.symm,zb _ _⟩
theorem zkX(n:Int)(s t:ByteArray)(w:World):
 Calls Tryz.prog 100 #[.agg #[.int .i64 1,.int .i64 n,.string s,.string t]] w fun e w'=>e = .returned (.bool ((decide (n=0)|| decide (n=1))&& noB s && noB t))∧Below w.heap.size w w':=by
 rcases zI s with rfl|⟨s1,s2,s3⟩<;> rcases zI t with rfl|⟨t1,t2,t3⟩
 ·by_cases h0:0≤n
  ·by_cases h1:n≤1
   ·go_enter Tryz.func100,Tryz.ntmps100;go_wp2;go_ret
    exact ⟨zq       (by have : n = 0 ∨ n = 1 := by omega
                        rcases this with rfl|rfl <;> rfl),zb _ _⟩
   ·go_enter Tryz.func100,Tryz.ntmps100;go_wp2;go_ret;exact⟨zq (by rw [decide_eq_false (show¬n=0 by omega),decide_eq_false (show¬n=1 by omega)];rfl),zb _ _⟩
  ·go_enter Tryz.func100,Tryz.ntmps100;go_wp2;go_ret;exact⟨zq (by rw [decide_eq_false (show¬n=0 by omega),decide_eq_false (show¬n=1 by omega)];rfl),zb _ _⟩
 all_goals
  go_enter Tryz.func100,Tryz.ntmps100;go_wp2;go_ret;exact⟨zq (by simp [*]),zb _ _⟩
theorem zlQ(n:Int)(s t:ByteArray)(w:World):
 Calls Tryz.prog 100 #[.agg #[.int .i64 2,.int .i64 n,.string s,.string t]] w fun e w'=>e = .returned (.bool (noB s && noB t))∧Below w.heap.size w w':=by
 rcases zI s with rfl|⟨s1,s2,s3⟩<;> rcases zI t with rfl|⟨t1,t2,t3⟩
 all_goals
  go_enter Tryz.func100,Tryz.ntmps100;go_wp2;go_ret;exact⟨zq (by simp [*,jD]),zb _ _⟩
theorem zk9(o n:Int)(s t:ByteArray)(w:World)(ho:o=5∨o=6):
 Calls Tryz.prog 100 #[.agg #[.int .i64 o,.int .i64 n,.string s,.string t]] w fun e w'=>e = .returned (.bool (decide (0≤n)&& noB s && noB t))∧Below w.heap.size w w':=by
 by_cases h0:0≤n
 ·rcases ho with rfl|rfl <;> rcases zI s with rfl|⟨s1,s2,s3⟩<;> rcases zI t with rfl|⟨t1,t2,t3⟩
  all_goals
   go_enter Tryz.func100,Tryz.ntmps100;go_wp2;go_ret;exact⟨zq (by simp [*,jD]),zb _ _⟩
 ·rcases ho with rfl|rfl <;> rcases zI s with rfl|⟨s1,s2,s3⟩<;> rcases zI t with rfl|⟨t1,t2,t3⟩
  all_goals
   go_enter Tryz.func100,Tryz.ntmps100;go_wp2;go_ret;exact⟨zq (by first|rfl|(rw [decide_eq_false (show¬0≤n by omega)];rfl)),zb _ _⟩
theorem zkM(n:Int)(s t:ByteArray)(w:World)(hs:s.size≤maxLen):
 Calls Tryz.prog 100 #[.agg #[.int .i64 3,.int .i64 n,.string s,.string t]] w fun e w'=>e = .returned (.bool (decide (n=0)&& noB t && decide (zr s=0)))∧Below w.heap.size w w':=by
 have P:=hi9 (fun w=>zcO s w hs);by_cases h0:n=0
 ·subst h0;rcases zI s with rfl|⟨s1,s2,s3⟩<;> rcases zI t with rfl|⟨t1,t2,t3⟩
  ·have e:zr ⟨#[]⟩=0:=by decide
   rw [e] at P;go_enter Tryz.func100,Tryz.ntmps100;go_wp2_with fail;refine(P.out _).mono ?_;rintro e w1 ⟨rfl,hb⟩;go_wp2;go_ret;exact⟨zq (by simp [e,jD]),zy hb⟩
  ·go_enter Tryz.func100,Tryz.ntmps100;go_wp2;go_ret;exact⟨zq (by simp [t3]),zb _ _⟩
  ·by_cases h1:zr s=0
   ·rw [h1] at P;go_enter Tryz.func100,Tryz.ntmps100;go_wp2_with fail;refine(P.out _).mono ?_;rintro e w1 ⟨rfl,hb⟩;go_wp2;go_ret;exact⟨zq (by simp [h1,jD]),zy hb⟩
   ·have h2:(zr s==0)=false:=beq_eq_false_iff_ne.2 h1;go_enter Tryz.func100,Tryz.ntmps100;go_wp2_with fail;refine(P.out _).mono ?_;rintro e w1 ⟨rfl,hb⟩;go_wp2;go_ret;exact⟨zq (by simp [h1]),zy hb⟩
  ·go_enter Tryz.func100,Tryz.ntmps100;go_wp2;go_ret;exact⟨zq (by simp [t3]),zb _ _⟩
 ·have e0:(n != 0)=true:=by rw [bne_iff_ne];exact h0
  rcases zI s with rfl|⟨s1,s2,s3⟩<;> rcases zI t with rfl|⟨t1,t2,t3⟩
  all_goals
   go_enter Tryz.func100,Tryz.ntmps100;go_wp2;go_ret;exact⟨zq (by simp [h0]),zb _ _⟩
theorem zne(n:Int)(s t:ByteArray)(w:World)(hs:s.size≤maxLen)(ht:t.size≤maxLen):
 Calls Tryz.prog 100 #[.agg #[.int .i64 4,.int .i64 n,.string s,.string t]] w fun e w'=>e = .returned (.bool (decide (n=0)&& decide (zg s=0)&& decide (zr t=0)))∧Below w.heap.size w w':=by
 have P:=hi9 (fun w=>zbG s t w hs ht);have H:=hi9 (show(or2 (zg s) (zr t)==0)=(decide (zg s=0)&& decide (zr t=0)) by
  by_cases h:zg s=0
  ·rw [h,zx];simp;rfl
  ·rw [jc h,beq_eq_false_iff_ne.2 h];simp [h])
 by_cases h0:n=0
 ·subst h0;rcases zI s with rfl|⟨s1,s2,s3⟩<;> rcases zI t with rfl|⟨t1,t2,t3⟩
  all_goals
   go_enter Tryz.func100,Tryz.ntmps100;go_wp2_with fail;refine(P.out _).mono ?_;rintro e w1 ⟨rfl,hb⟩;go_wp2;go_ret;exact⟨zq (by rw [H.out];simp),zy hb⟩
 ·have e0:(n != 0)=true:=by rw [bne_iff_ne];exact h0
  rcases zI s with rfl|⟨s1,s2,s3⟩<;> rcases zI t with rfl|⟨t1,t2,t3⟩
  all_goals
   go_enter Tryz.func100,Tryz.ntmps100;go_wp2;go_ret;exact⟨zq (by simp [h0]),zb _ _⟩
theorem ziY(n:Int)(s t:ByteArray)(w:World)(hs:s.size≤maxLen):
 Calls Tryz.prog 100 #[.agg #[.int .i64 7,.int .i64 n,.string s,.string t]] w fun e w'=>e = .returned (.bool (decide (n=0)&& noB t && decide (zg s=0)))∧Below w.heap.size w w':=by
 have P:=hi9 (fun w=>zaX s w hs);have H:(zg s==0)=decide (zg s=0):=rfl;by_cases h0:n=0
 ·subst h0;rcases zI s with rfl|⟨s1,s2,s3⟩<;> rcases zI t with rfl|⟨t1,t2,t3⟩
  ·have e:zg ⟨#[]⟩=1:=by decide
   rw [e] at P;go_enter Tryz.func100,Tryz.ntmps100;go_wp2_with fail;refine(P.out _).mono ?_;rintro e w1 ⟨rfl,rfl⟩;go_wp2;go_ret;exact⟨zq (by simp [e]),zb _ _⟩
  ·go_enter Tryz.func100,Tryz.ntmps100;go_wp2;go_ret;exact⟨zq (by simp [t3]),zb _ _⟩
  ·by_cases h1:zg s=0
   ·rw [h1] at P;go_enter Tryz.func100,Tryz.ntmps100;go_wp2_with fail;refine(P.out _).mono ?_;rintro e w1 ⟨rfl,rfl⟩;go_wp2;go_ret;exact⟨zq (by simp [h1,jD]),zb _ _⟩
   ·have h2:(zg s==0)=false:=beq_eq_false_iff_ne.2 h1;go_enter Tryz.func100,Tryz.ntmps100;go_wp2_with fail;refine(P.out _).mono ?_;rintro e w1 ⟨rfl,rfl⟩;go_wp2;go_ret;exact⟨zq (by simp [h1]),zb _ _⟩
  ·go_enter Tryz.func100,Tryz.ntmps100;go_wp2;go_ret;exact⟨zq (by simp [t3]),zb _ _⟩
 ·have e0:(n != 0)=true:=by rw [bne_iff_ne];exact h0
  rcases zI s with rfl|⟨s1,s2,s3⟩<;> rcases zI t with rfl|⟨t1,t2,t3⟩
  all_goals
   go_enter Tryz.func100,Tryz.ntmps100;go_wp2;go_ret;exact⟨zq (by simp [h0]),zb _ _⟩
theorem zjb(o n:Int)(s t:ByteArray)(w:World)(h1:(o==1)=false)(h2:(o==2)=false)(h3:(o==3)=false)(h4:(o==4)=false)(h5:(o==5)=false)(h6:(o==6)=false)(h7:(o==7)=false):
 Calls Tryz.prog 100 #[.agg #[.int .i64 o,.int .i64 n,.string s,.string t]] w fun e w'=>e = .returned (.bool false)∧Below w.heap.size w w':=by
 by_cases h0:n=0
 ·subst h0;rcases zI s with rfl|⟨s1,s2,s3⟩<;> rcases zI t with rfl|⟨t1,t2,t3⟩
  all_goals
   go_enter Tryz.func100,Tryz.ntmps100;go_wp2;go_ret;exact⟨rfl,zb _ _⟩
 ·have e0:(n != 0)=true:=by rw [bne_iff_ne];exact h0
  rcases zI s with rfl|⟨s1,s2,s3⟩<;> rcases zI t with rfl|⟨t1,t2,t3⟩
  all_goals
   go_enter Tryz.func100,Tryz.ntmps100;go_wp2;go_ret;exact⟨rfl,zb _ _⟩
theorem zaZ(x:Nd)(w:World)(hs:x.s.size≤maxLen)(ht:x.t.size≤maxLen):
 Calls Tryz.prog 100 #[ndV x] w fun e w'=>e = .returned (.bool (zB x))∧Below w.heap.size w w':=by
 obtain⟨o,n,s,t⟩:=x;unfold ndV zB;simp only at hs ht ⊢;by_cases h1:o=1
 ·subst h1;rw [if_pos rfl];exact zkX n s t w
 rw [if_neg h1];by_cases h2:o=2
 ·subst h2;rw [if_pos rfl];exact zlQ n s t w
 rw [if_neg h2];by_cases h3:o=3
 ·subst h3;rw [if_pos rfl];exact zkM n s t w hs
 rw [if_neg h3];by_cases h4:o=4
 ·subst h4;rw [if_pos rfl];exact zne n s t w hs ht
 rw [if_neg h4];by_cases h5:o=5∨o=6
 ·rw [if_pos h5];exact zk9 o n s t w h5
 rw [if_neg h5];by_cases h7:o=7
 ·subst h7;rw [if_pos rfl];exact ziY n s t w hs
 rw [if_neg h7];exact zjb o n s t w (beq_eq_false_iff_ne.2 h1) (beq_eq_false_iff_ne.2 h2) (beq_eq_false_iff_ne.2 h3) (beq_eq_false_iff_ne.2 h4) (beq_eq_false_iff_ne.2 fun q=>h5 (.inl q)) (beq_eq_false_iff_ne.2 fun q=>h5 (.inr q)) (beq_eq_false_iff_ne.2 h7)
theorem zgH{P Q:List Nd}{k:Nat}(h:P.length≤k∨Q.length≤k)(h1:k≤P.length)(h2:k≤Q.length):zu (P.drop k) (Q.drop k)=zbn P.length Q.length:=by
 by_cases a:P.length≤k
 ·by_cases b:Q.length≤k
  ·rw [zbu a b];unfold zbn;split <;>(try split)<;> omega
  ·rw [zd4 a (by omega)];unfold zbn;rw [if_pos (by omega)]
 ·rw [zd1 (by omega) (by omega)];unfold zbn;rw [if_neg (by omega),if_pos (by omega)]
theorem zeh(A B:Option Addr)(n m c d:Nat)(P Q:List Nd)(w:World)(hn:n=P.length)(hm:m=Q.length)(hln:n≤maxLen)(_hlm:m≤maxLen)(hP:jp w A P)(hQ:jp w B Q)(oP:zaj P)(oQ:zaj Q):
 Calls Tryz.prog 59 #[.slice A n c,.slice B m d] w fun e w'=>e = .returned (.int .i64 (zu P Q))∧Below w.heap.size w w':=by
 unfold maxLen at hln _hlm;have HN:=hi9 hn;have HM:=hi9 hm;have HP:=hi9 hP;have HQ:=hi9 hQ;have OP:=hi9 oP;have OQ:=hi9 oQ;clear hn hm hP hQ oP oQ;go_enter Tryz.func59,Tryz.ntmps59;go_wp2_with fail;go_loopw [4,5] (fun _ i wr=>∃k:Nat,k≤n∧k≤m∧i = .int .i64 k∧Hid (zu P Q=zu (P.drop k) (Q.drop k))∧Hid (Below w.heap.size w wr)) (fun _ i _=>n-(intOf i).toNat)
 case atStart=>exact⟨0,Nat.zero_le _,Nat.zero_le _,rfl,rfl,Below.refl _ _⟩
 case round =>
  obtain⟨k,hkn,hkm,rfl,hc,hbel⟩:=hrel;by_cases h1:k<n
  ·have h1':k<P.length:=by rw [←HN.out];exact h1
   obtain⟨a,rfl,D⟩:=(HP.out.keep hbel.out).nd h1';by_cases h2:k<m
   ·have h2':k<Q.length:=by rw [←HM.out];exact h2
    obtain⟨b,rfl,E⟩:=(HQ.out.keep hbel.out).nd h2';have HA:=hi9 (hc.out.trans (zbO h1' h2'));have N1:=fun w=>zbs P[k].op Q[k].op w;have N2:=fun w=>zbs P[k].n Q[k].n w;have N3:=fun w=>zcT P[k].s Q[k].s w (OP.out.at h1').s (OQ.out.at h2').s;have N4:=fun w=>zcT P[k].t Q[k].t w (OP.out.at h1').t (OQ.out.at h2').t;have HX:zea P[k] Q[k]=or4 (zbn P[k].op Q[k].op) (zbn P[k].n Q[k].n) (jk P[k].s Q[k].s) (jk P[k].t Q[k].t):=rfl;rw [HX] at HA;generalize P[k]=x at *;generalize Q[k]=y at *;generalize zbn x.op y.op=v1 at *;generalize zbn x.n y.n=v2 at *;generalize jk x.s y.s=v3 at *;generalize jk x.t y.t=v4 at *;clear hc HX;have k1:=cell_regrown D.c0;have k2:=cell_regrown E.c0;have s1:=rqs (w:=wr) N1;have M2:=hi9 N2;have M3:=hi9 N3;have M4:=hi9 N4;have HD:=hi9 D;have HE:=hi9 E;clear N1 N2 N3 N4 D E;go_wp2_with fail;refine wp_region_quiet_below (by kernel_rfl) (by kernel_rfl) ?_
    repeat (first|go_big_quiet_step (exact s1 _ _)|quiet_step (exact s1 _ _))
    refine wpQuiet_nil ?_;intro w1 hw';have B1:=hi9 (show Below wr.heap.size wr w1 by obtain⟨⟨d,os⟩,rfl⟩:=hw';exact below_regrown _ _ _);clear hw';clear k1 k2 s1;by_cases e1:v1=0
    ·subst e1;have k1:=cell_regrown (HD.out.keep B1.out).c1;have k2:=cell_regrown (HE.out.keep B1.out).c1;have s1:=rqs (w:=w1) M2.out;go_wp2_with fail;refine wp_region_quiet_below (by kernel_rfl) (by kernel_rfl) ?_
     repeat (first|go_big_quiet_step (exact s1 _ _)|quiet_step (exact s1 _ _))
     refine wpQuiet_nil ?_;intro w2 hw';have B2:=hi9 (show Below w1.heap.size w1 w2 by obtain⟨⟨d,os⟩,rfl⟩:=hw';exact below_regrown _ _ _);clear hw';replace B2:=bh B1 B2.out;clear k1 k2 s1;by_cases e2:v2=0
     ·subst e2;have k1:=cell_regrown (HD.out.keep B2.out).c2;have k2:=cell_regrown (HE.out.keep B2.out).c2;have s1:=rq (w:=w2) (fun w' _=>M3.out w');go_wp2_with fail;refine wp_region_quiet_below (by kernel_rfl) (by kernel_rfl) ?_
      repeat (first|go_big_quiet_step (exact s1 _ _)|quiet_step (exact s1 _ _))
      refine wpQuiet_nil ?_;intro w3 hw';have B3:=hi9 (show Below w2.heap.size w2 w3 by obtain⟨⟨d,os⟩,rfl⟩:=hw';exact below_regrown _ _ _);clear hw';replace B3:=bh B2 B3.out;clear k1 k2 s1;by_cases e3:v3=0
      ·subst e3;have k1:=cell_regrown (HD.out.keep B3.out).c3;have k2:=cell_regrown (HE.out.keep B3.out).c3;have s1:=rq (w:=w3) (fun w' _=>M4.out w');go_wp2_with fail;refine wp_region_quiet_below (by kernel_rfl) (by kernel_rfl) ?_
       repeat (first|go_big_quiet_step (exact s1 _ _)|quiet_step (exact s1 _ _))
       refine wpQuiet_nil ?_;intro w4 hw';have B4:=hi9 (show Below w3.heap.size w3 w4 by obtain⟨⟨d,os⟩,rfl⟩:=hw';exact below_regrown _ _ _);clear hw';replace B4:=bh B3 B4.out;clear k1 k2 s1;by_cases e4:v4=0
       ·subst e4;have HB:=hi9 (HA.out.trans (show _=zu (P.drop (k+1)) (Q.drop (k+1)) from rfl));go_wp2_with fail;go_roundw
        case rel=>exact⟨k+1,by omega,by omega,by go_num,HB,j2 hbel B4 (Nat.le_refl _)⟩
        case measure=>simp [intOf];omega
       ·have HB:=hi9 (HA.out.trans (show _=v4 by unfold or4;rw [zx,zx,zx,jc e4]));have e4':(v4 != 0)=true:=by rw [bne_iff_ne];exact e4
        clear e4;go_wp2_with fail;go_ret;exact⟨zQ HB.out.symm,(j2 hbel B4 (Nat.le_refl _)).out⟩
      ·have HB:=hi9 (HA.out.trans (show _=v3 by unfold or4;rw [zx,zx,jc e3,jc e3]));have e3':(v3 != 0)=true:=by rw [bne_iff_ne];exact e3
       have e3'':(v3==0)=false:=beq_eq_false_iff_ne.2 e3;clear e3;go_wp2_with fail;go_ret;exact⟨zQ HB.out.symm,(j2 hbel B3 (Nat.le_refl _)).out⟩
     ·have HB:=hi9 (HA.out.trans (show _=v2 by unfold or4;rw [zx,jc e2,jc e2]));have e3':(v2 != 0)=true:=by rw [bne_iff_ne];exact e2
      have e3'':(v2==0)=false:=beq_eq_false_iff_ne.2 e2;clear e2;go_wp2_with fail;go_ret;exact⟨zQ HB.out.symm,(j2 hbel B2 (Nat.le_refl _)).out⟩
    ·have HB:=hi9 (HA.out.trans (show _=v1 by unfold or4;rw [jc e1,jc e1]));have e3':(v1 != 0)=true:=by rw [bne_iff_ne];exact e1
     have e3'':(v1==0)=false:=beq_eq_false_iff_ne.2 e1;clear e1;go_wp2_with fail;go_ret;exact⟨zQ HB.out.symm,(j2 hbel B1 (Nat.le_refl _)).out⟩
   ·have HB:=hi9 (hc.out.trans (zgH (.inr (by rw [←HM.out];omega)) (by rw [←HN.out];omega) (by rw [←HM.out];omega)));rw [←HN.out,←HM.out] at HB;clear hc;go_wp2_with fail;refine(zbs _ _ _).mono ?_;rintro e w1 ⟨rfl,rfl⟩;go_wp2_with fail;go_ret;exact⟨zQ HB.out.symm,hbel.out⟩
  ·have HB:=hi9 (hc.out.trans (zgH (.inl (by rw [←HN.out];omega)) (by rw [←HN.out];omega) (by rw [←HM.out];omega)));rw [←HN.out,←HM.out] at HB;clear hc;go_wp2_with fail;refine(zbs _ _ _).mono ?_;rintro e w1 ⟨rfl,rfl⟩;go_wp2_with fail;go_ret;exact⟨zQ HB.out.symm,hbel.out⟩
end Go.Proofs.YtkfgabdnppmglaaGreatDoor
namespace Go.Wk
def zaG(v:List Nd)(m p:Nat):Option Nat :=
 match v[p]? with
 | none=>none
 | some x=>if decide (x.op=7)&& zB x then zn v m (p+1) else none
def zb2:Option Nat→Int
 | none => -1
 | some e=>e
theorem zjA{s:ByteArray}(h:zg s=0):0<s.size:=by
 rcases Nat.eq_zero_or_pos s.size with h0|h0
 ·exfalso;unfold zg at h;rw [zdA h0] at h;simp at h
 ·exact h0
theorem zns{s:ByteArray}(h:0<s.size):jk .empty s<0:=by
 unfold jk;rcases hl:s.data.toList with _|⟨x,l⟩
 ·have:s.data.toList.length=0:=by rw [hl];rfl
  rw [Array.length_toList] at this;have h':0<s.data.size:=h;omega
 ·show Lib.compareBytes [] (x :: l)<0;simp [Lib.compareBytes]
theorem zqN{x:Nd}(h7:x.op=7)(hs:zB x=true):jk .empty x.s<0:=by
 unfold zB at hs;rw [h7] at hs;simp at hs;exact zns (zjA hs.2)
theorem zjz{v:List Nd}{m q e:Nat}(h:zaG v m q=some e):∃hq:q<v.length,v[q].op=7∧zB v[q]=true∧zn v m (q+1)=some e:=by
 unfold zaG at h;by_cases hq:q<v.length
 ·rw [List.getElem?_eq_getElem hq] at h;simp only at h;split at h
  ·rename_i hc;simp at hc;exact⟨hq,hc.1,hc.2,h⟩
  ·cases h
 ·rw [List.getElem?_eq_none (by omega)] at h;cases h
theorem zkx{v:List Nd}{N k m:Nat}{last:ByteArray}{q:Nat}(hk:k<N)(h:zaG v m q=none):zY v (zn v m) (N-k) last q=none:=by
 rcases hf:jV v last q with _|s
 ·exact zbw hk hf
 ·refine zfK hk hf ?_;unfold jV at hf;unfold zaG at h;split at hf
  ·cases hf
  ·rename_i x hx;rw [hx] at h;simp only at h;split at hf
   ·rename_i hc;simp only [Bool.and_eq_true] at hc;rw [if_pos (by rw [hc.1.1,hc.1.2];rfl)] at h;exact h
   ·cases hf
end Go.Wk
namespace Go.Proofs.YtkfgabdnppmglaaGreatDoor
open Go.RowKit Go.Wk Go.Sort
theorem zeN(w:World)(x:Nd)(t:TypeId):Nd4 (w.alloc (.cells #[.int .i64 x.op,.int .i64 x.n,.string x.s,.string x.t] t)) ⟨w.heap.size,0,none⟩ x :=
 ⟨by simp,by simp,by simp,by simp⟩
theorem zoO(A:Option Addr)(n c p:Nat)(f:Bool)(w:World)(h:n≤p):
 Calls Tryz.prog 52 #[.slice A n c,.int .i64 p,.bool f] w fun e w'=>e = .returned (.int .i64 (zb2 none))∧Below w.heap.size w w':=by
 go_enter Tryz.func52,Tryz.ntmps52;go_wp2_with fail;go_ret;exact⟨rfl,Below.refl _ _⟩
theorem zkY(a:Addr)(n c p:Nat)(f:Bool)(x:Nd)(w:World)(hp:p<n)(hD:Nd4 w (a.add (p*4)) x)(hO:zcw x)(h:(zB x &&(decide (x.op=7)==f))=false):
 Calls Tryz.prog 52 #[.slice (some a) n c,.int .i64 p,.bool f] w fun e w'=>e = .returned (.int .i64 (zb2 none))∧Below w.heap.size w w':=by
 have V:=hi9 (fun w=>zaZ x w hO.s hO.t);unfold ndV at V;obtain⟨d0,d1,d2,d3⟩:=hD;by_cases hs:zB x=true
 ·rw [hs] at V h;have h7:(x.op==7)= !f:=by
   have:(x.op==7)=decide (x.op=7):=rfl;rw [this];rcases hd:decide (x.op=7)<;> rcases f <;> simp_all
  clear h hs hO;cases f
  all_goals
   simp only [Bool.not_true,Bool.not_false] at h7;go_enter Tryz.func52,Tryz.ntmps52;go_wp2_with fail;refine(V.out _).mono ?_;rintro e w1 ⟨rfl,hb⟩;obtain⟨x0,x1,x2,x3⟩:=(zeN w x 53).keep hb;have B:=hi9 (zy hb);clear hb;go_wp2_with fail;go_ret;exact⟨rfl,B.out⟩
 ·rw [Bool.not_eq_true] at hs;rw [hs] at V;clear h hs hO;go_enter Tryz.func52,Tryz.ntmps52;go_wp2_with fail;refine(V.out _).mono ?_;rintro e w1 ⟨rfl,hb⟩;go_wp2_with fail;go_ret;exact⟨rfl,zy hb⟩
theorem zqX(a:Addr)(n c p:Nat)(x:Nd)(w:World)(hm:n≤maxLen)(hp:p<n)(hD:Nd4 w (a.add (p*4)) x)(hO:zcw x)(hs:zB x=true)(h5:(x.op==5)=false)(h6:(x.op==6)=false)(h7:(x.op==7)=false):
 Calls Tryz.prog 52 #[.slice (some a) n c,.int .i64 p,.bool false] w fun e w'=>e = .returned (.int .i64 (zb2 (some (p+1))))∧Below w.heap.size w w':=by
 unfold maxLen at hm;have V:=hi9 (fun w=>zaZ x w hO.s hO.t);unfold ndV at V;obtain⟨d0,d1,d2,d3⟩:=hD;rw [hs] at V;have g5:(x.op != 5)=true:=by simp only [bne,h5];rfl
 have g6:(x.op != 6)=true:=by simp only [bne,h6];rfl
 clear hs hO;go_enter Tryz.func52,Tryz.ntmps52;go_wp2_with fail;refine(V.out _).mono ?_;rintro e w1 ⟨rfl,hb⟩;obtain⟨x0,x1,x2,x3⟩:=(zeN w x 53).keep hb;have B:=hi9 (zy hb);clear hb;go_wp2_with fail;go_ret;exact⟨rfl,B.out⟩
def zuE(P:List Nd)(A:Option Addr)(n c:Nat)(m:Nat):Prop :=
 (∀(q:Nat) (w:World),jp w A P→n-q<m→Calls Tryz.prog 52 #[.slice A n c,.int .i64 q,.bool false] w fun e w'=>e = .returned (.int .i64 (zb2 (zn P m q)))∧Below w.heap.size w w')∧
 (∀(q:Nat) (w:World),jp w A P→n-q≤m→Calls Tryz.prog 52 #[.slice A n c,.int .i64 q,.bool true] w fun e w'=>e = .returned (.int .i64 (zb2 (zaG P m q)))∧Below w.heap.size w w')
theorem zqc(a:Addr)(n c p:Nat)(x:Nd)(r:Option Nat)(w:World)(hm:n≤maxLen)(hp:p<n)(hD:Nd4 w (a.add (p*4)) x)(hO:zcw x)(hs:zB x=true)(h7:x.op=7)
 (C:Hid (∀w',Below w.heap.size w w'→Calls Tryz.prog 52 #[.slice (some a) n c,.int .i64 ((p:Int)+1),.bool false] w' fun e w''=>e = .returned (.int .i64 (zb2 r))∧Below w'.heap.size w' w'')):
 Calls Tryz.prog 52 #[.slice (some a) n c,.int .i64 p,.bool true] w fun e w'=>e = .returned (.int .i64 (zb2 r))∧Below w.heap.size w w':=by
 unfold maxLen at hm;have V:=hi9 (fun w=>zaZ x w hO.s hO.t);unfold ndV at V;obtain⟨d0,d1,d2,d3⟩:=hD;rw [hs] at V;rw [h7] at V d0;have X:=hi9 h7;clear hs hO h7;go_enter Tryz.func52,Tryz.ntmps52;go_wp2_with fail;refine(V.out _).mono ?_;rintro e w1 ⟨rfl,hb⟩;have D:=(zeN w x 53)
 rw [X.out] at D;obtain⟨x0,x1,x2,x3⟩:=D.keep hb;rw [X.out] at x0;have B:=hi9 (zy hb);clear hb D;go_wp2_with fail;refine(C.out _ B.out).mono ?_;rintro e w2 ⟨rfl,b2⟩;go_wp2_with fail;go_ret;exact⟨rfl,(bh B b2).out⟩
end Go.Proofs.YtkfgabdnppmglaaGreatDoor
