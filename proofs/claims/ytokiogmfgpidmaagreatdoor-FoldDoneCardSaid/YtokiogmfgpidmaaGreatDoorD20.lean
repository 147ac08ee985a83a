/-
  val.Parts and val.Get. tree: parts, Reserved, variable, shaped; the reference's ..
-/
import Derived.Test.YtokiogmfgpidmaaGreatDoorD3
import Derived.Test.YtokiogmfgpidmaaGreatDoorD4
import Derived.Test.YtokiogmfgpidmaaGreatDoorD19
set_option maxRecDepth 100000
set_option maxHeartbeats 8000000
namespace Go.Wk
def F3(P:List Nd):Int:=if zc P=0 then(if zf P=5\/zf P=6 then 0 else 2) else zc P
def Kj(P:List Nd):List (List Nd):=if F3 P=0 then(if zf P=5 then zg P else(zo P).map (·.2)) else []
def Ug(P:List Nd)(s:ByteArray):Option (List Nd):=((zo P).find? λx=>decide (jh x.1 s=0)).map (·.2)
def dK(P:List Nd)(s:ByteArray):Int:=if zc P=0 then(if zf P=6 then(if(Ug P s).isSome then 0 else 3) else 2) else zc P
def IG(P:List Nd)(s:ByteArray):List Nd:=if dK P s=0 then(Ug P s).getD [] else []
theorem bW{P:List Nd}(h:0<P.length):zf P=P[0].op:=by
 rcases P with _|⟨x,r⟩
 ·simp at h
 ·rfl
theorem zeO{α:Type}{l:List α}{p:α->Bool}{k:Nat}(h:k<l.length)(hp:p l[k]=true)(hn:∀j,(hj:j<k)->p (l[j]'(by omega))=false):l.find? p=some l[k]:=by
 rw [List.find?_eq_some_iff_getElem];exact⟨hp,k,h,rfl,λj hj=>by rw [hn j hj];rfl⟩
theorem zir(N:List ByteArray)(s:ByteArray):(∃(k:Nat) (h:k<N.length),Lib.idxOfS N s=k/\N[k]=s/\∀j,(hj:j<k)->(N[j]'(by omega))≠s)\/(Lib.idxOfS N s = -1/\∀j,(hj:j<N.length)->N[j]≠s):=by
 unfold Lib.idxOfS;have key:∀(N:List ByteArray) (i:Nat),(∃(k:Nat) (h:k<N.length),Lib.idxFromS N s i=((i+k:Nat):Int)/\N[k]=s/\∀j,(hj:j<k)->(N[j]'(by omega))≠s)\/(Lib.idxFromS N s i = -1/\∀j,(hj:j<N.length)->N[j]≠s):=by
  intro N
  induction N with
  | nil=>intro i;exact .inr ⟨rfl,λj hj=>by simp at hj⟩
  | cons x N ih =>
   intro i
   by_cases hx:x=s
   ·exact .inl ⟨0,by simp,by simp [Lib.idxFromS,hx],hx,λj hj=>by omega⟩
   ·rcases ih (i+1) with ⟨k,hk,h1,h2,h3⟩|⟨h1,h2⟩
    ·refine .inl ⟨k+1,by simp;omega,?_,h2,λj hj=>?_⟩
     ·simp only [Lib.idxFromS,hx];rw [if_neg (by simp),h1];congr 1;omega
     ·rcases j with _|j
      ·exact hx
      ·exact h3 j (by omega)
    ·refine .inr ⟨?_,λj hj=>?_⟩
     ·simp only [Lib.idxFromS,hx];rw [if_neg (by simp)];exact h1
     ·rcases j with _|j
      ·exact hx
      ·exact h2 j (by simpa using hj)
 have:=key N 0;simpa using this
end Go.Wk
namespace Go.Proofs.YtokiogmfgpidmaaGreatDoor
open Go.RowKit Go.Wk Go.Sort
theorem zT{A:Option Addr}{n c:Nat}{P:List Nd}{w:World}(h:Ns w A n c P):Calls Tryz.prog 55 #[.slice A n c] w λe w'=>e = .returned (fa (zc P))/\Below w.heap.size w w' :=
 Mi A n c P w h.len h.cap h.max h.at_ h.ok
def Gx(w:World)(P:List Nd)(e:Ending)(w':World):Prop :=
 ∃(v:Value) (V:List Sl),e = .returned (.tuple #[v,fa (F3 P)])/\zX w' w.heap.size v V/\V.map Sl.P=Kj P/\(∀r∈V,∀a,r.A=some a->w.heap.size<=a.block)/\Below w.heap.size w w'
theorem qa(A:Option Addr)(n c:Nat)(P:List Nd)(w:World)(h:Ns w A n c P):
 Calls Tryz.prog 146 #[.slice A n c] w (Gx w P):=by
 have K:=O (zT h);have H:=O h;by_cases h0:zc P=0
 ·have hV:=(zH.1 h0).2;have hpos:=hV.pos;obtain⟨a,rfl,D⟩:=h.at_.nd hpos;rw [show a.add (0*4)=a from rfl] at D;have hn1:0<n:=by rw [h.len];exact hpos
  have d0:=D.c0;rw [<-bW hpos] at d0;rw [h0,zm] at K;by_cases h5:zf P=5
  ·have S:=O (λw' hb=>zfz (some a) n c P w' (h.keep hb) h0 h5);have hE:F3 P=0:=by unfold F3;rw [if_pos h0,if_pos (.inl h5)]
   have HL:=O (show Kj P=zg P by unfold Kj;rw [if_pos hE,if_pos h5]);have HE:=O hE;rw [h5] at d0;clear h h0 hV D h5 hE;go_enter Tryz.func146,Tryz.ntmps146;go_wp2_with fail;refine(K.o).mono ?_;rintro e w1 ⟨rfl,b1⟩;replace d0:=za b1 d0;have B1:=O b1;clear b1;go_wp2_with fail;refine(S.o _ B1.o).mono ?_;rintro e w2 ⟨v,v',V,rfl,hO,hVL,-,hF,b2⟩;have HF:=O (λr hr a h=>Nat.le_trans B1.o.size (Nat.le_of_lt (hF r hr a h)));have HO:=O (hO.mono B1.o.size);have HV:=O (hVL.trans HL.o.symm);have B2:=bh B1 b2;clear hO hVL hF b2;go_wp2_with fail;go_ret2;exact⟨v,V,by rw [HE.o];rfl,HO.o,HV.o,HF.o,B2.o⟩
  ·by_cases h6:zf P=6
   ·have S:=O (λw' hb=>Xn (some a) n c P w' (h.keep hb) h0 h6);have hE:F3 P=0:=by unfold F3;rw [if_pos h0,if_pos (.inr h6)]
    have HL:=O (show Kj P=(zo P).map (·.2) by unfold Kj;rw [if_pos hE,if_neg h5]);have HE:=O hE;rw [h6] at d0;clear h h0 hV D h5 h6 hE;go_enter Tryz.func146,Tryz.ntmps146;go_wp2_with fail;refine(K.o).mono ?_;rintro e w1 ⟨rfl,b1⟩;replace d0:=za b1 d0;have B1:=O b1;clear b1;go_wp2_with fail;refine(S.o _ B1.o).mono ?_;rintro e w2 ⟨v,v',V,rfl,hO,hVL,-,hF,b2⟩;have HF:=O (λr hr a h=>Nat.le_trans B1.o.size (Nat.le_of_lt (hF r hr a h)));have HO:=O (hO.mono B1.o.size);have HV:=O (hVL.trans HL.o.symm);have B2:=bh B1 b2;clear hO hVL hF b2;go_wp2_with fail;go_ret2;exact⟨v,V,by rw [HE.o];rfl,HO.o,HV.o,HF.o,B2.o⟩
   ·have hE:F3 P=2:=by unfold F3;rw [if_pos h0,if_neg (by omega)]
    have HL:=O (show Kj P = [] by unfold Kj;rw [if_neg (by omega)]);have HE:=O hE;have g5:(zf P != 5)=true:=by rw [bne_iff_ne];exact h5
    have g6:(zf P != 6)=true:=by rw [bne_iff_ne];exact h6
    clear h h0 hV D h5 h6 hE;go_enter Tryz.func146,Tryz.ntmps146;go_wp2_with fail;refine(K.o).mono ?_;rintro e w1 ⟨rfl,b1⟩;replace d0:=za b1 d0;have B1:=O b1;clear b1;go_wp2_with fail;go_ret2;exact⟨_,[],by rw [HE.o];rfl,zX.nil _ _,HL.o.symm,(by intro r hr;cases hr),B1.o⟩
 ·have hE:F3 P=zc P:=by unfold F3;rw [if_neg h0]
  have HL:=O (show Kj P = [] by unfold Kj;rw [if_neg (by rw [hE];exact h0)]);have HE:=O hE;rw [zy h0] at K;have HX:=O (zy h0);clear h h0 hE;go_enter Tryz.func146,Tryz.ntmps146;go_wp2_with fail;refine(K.o).mono ?_;rintro e w1 ⟨rfl,b1⟩;go_wp2_with fail;go_ret2;exact⟨_,[],by rw [HE.o,HX.o];rfl,zX.nil _ _,HL.o.symm,(by intro r hr;cases hr),b1⟩
theorem zc4{w:World}{B:Nat}{v:Value}{N:List ByteArray}(s:ByteArray)(h:w.ownsRow B 9 1 v N.length (N.map Value.string))(hN:N.length<=100000):
 Calls Tryz.prog 144 #[v,.string s] w λe w'=>e = .returned (.int .i64 (Lib.idxOfS N s))/\w'=w:=by
 -- for 105
 rcases h.2 with ⟨rfl,h0⟩|⟨g,cap,cur,rfl,-,-,hc,-⟩
 ·have:N = []:=List.eq_nil_of_length_eq_zero h0;subst this;exact Tryz.slices_Index_string_empty none 0 s w
 ·have:=Tryz.slices_Index_string g 0 N.length cap N s w (Nat.le_refl _) (by omega) (λj hj=>by
   have e:=h.cells (g:=g) rfl j (.string N[j]) (by rw [List.getElem?_map,List.getElem?_eq_getElem hj];rfl)
   rw [Iz] at e
   rw [e]
   simp [hj])
  rw [List.take_length] at this;exact this
def Qb(w:World)(P:List Nd)(s:ByteArray)(e:Ending)(w':World):Prop :=
 ∃(A:Option Addr) (n c:Nat),e = .returned (.tuple #[.slice A n c,fa (dK P s)])/\Ns w' A n c (IG P s)/\(∀a,A=some a->w.heap.size<=a.block)/\Below w.heap.size w w'
theorem QG{P:List Nd}(h:zc P=0)(h6:zf P=6):(zo P).length<=200:=by
 obtain⟨h1,h2⟩:=zH.1 h;obtain⟨e,-,h3,-⟩:=Kh h2 h6;have:(zo P).length<=(zw (zo P)).length:=by
  generalize zo P=l
  induction l with
  | nil=>simp
  | cons x l ih=>simp only [zw,List.length_cons,List.length_append];omega
 have hl:=congrArg List.length e;simp only [List.length_cons] at hl;omega
theorem S'(A:Option Addr)(n c:Nat)(P:List Nd)(s:ByteArray)(w:World)(h:Ns w A n c P):
 Calls Tryz.prog 105 #[.slice A n c,.string s] w (Qb w P s):=by
 have K:=O (zT h);by_cases h0:zc P=0
 ·have hV:=(zH.1 h0).2;have hpos:=hV.pos;obtain⟨a,rfl,D⟩:=h.at_.nd hpos;rw [show a.add (0*4)=a from rfl] at D;have hn1:0<n:=by rw [h.len];exact hpos
  have d0:=D.c0;rw [<-bW hpos] at d0;rw [h0,zm] at K;by_cases h6:zf P=6
  ·have S:=O (λw' hb=>Xn (some a) n c P w' (h.keep hb) h0 h6);have HG:=O (show dK P s=if(Ug P s).isSome then 0 else 3 by unfold dK;rw [if_pos h0,if_pos h6]);have HLn:=O (QG h0 h6);rw [h6] at d0;clear h h0 hV D h6;go_enter Tryz.func105,Tryz.ntmps105;go_wp2_with fail;refine(K.o).mono ?_;rintro e w1 ⟨rfl,b1⟩;replace d0:=za b1 d0;have B1:=O b1;clear b1;go_wp2_with fail;refine(S.o _ B1.o).mono ?_;rintro e w2 ⟨v,v',V,rfl,hO,hVL,hN,hfr,b2⟩;have HFr:=O (show∀r∈V,∀a,r.A=some a->w.heap.size<=a.block from λr hr a e=>Nat.le_trans B1.o.size (Nat.le_of_lt (hfr r hr a e)));clear hfr;have B2:=bh B1 b2;have I:=O (zc4 s hN (by simp;have:=HLn.o;omega));have HV:=O hVL;have hVl:=congrArg List.length hVL;simp only [List.length_map] at hVl;obtain⟨A2,c2,rfl,hc2,hS2⟩:=hO.at
   have HS:=O hS2;clear hO hVL hN b2 hS2;rcases zir ((zo P).map (·.1)) s with ⟨k,hk,hi,hkk,hlt⟩|⟨hi,hno⟩
   ·have hk':k<(zo P).length:=by simpa using hk
    have hkV:k<V.length:=by omega
    have hR:Ug P s=some (zo P)[k].2:=by
     unfold Ug;rw [zeO hk' (decide_eq_true ((jf.zero _ _).2 (by simpa using hkk))) (λj hj=>decide_eq_false (λq=>hlt j hj (by simpa using(jf.zero _ _).1 q)))];rfl
    obtain⟨a2,rfl,q2,n2⟩:=HS.o.at hkV;have hP:V[k].P=(zo P)[k].2:=by
     have:=congrArg (λl=>l[k]?) HV.o;simp only [List.getElem?_map,List.getElem?_eq_getElem hkV,List.getElem?_eq_getElem hk',Option.map_some,Option.some.injEq] at this;exact this
    have Kq:=O (show dK P s=0 by rw [HG.o,hR];rfl);have HV2:=O (show IG P s=V[k].P by unfold IG;rw [if_pos Kq.o,hR,hP];rfl);have VL:=O n2;have II:=O (HFr.o V[k] (List.getElem_mem hkV));rw [hi] at I;generalize V[k]=r at *;clear hk hi hkk hlt hR hP n2 hVl hk';go_wp2_with fail;refine I.o.mono ?_;rintro e w3 ⟨rfl,rfl⟩;go_wp2_with fail;go_ret2;exact⟨r.A,r.n,r.c,by rw [Kq.o];rfl,by rw [HV2.o];exact VL.o,II.o,B2.o⟩
   ·have hR:Ug P s=none:=by
     unfold Ug;rw [List.find?_eq_none.2 (λx hx=>by
      obtain⟨j,hj,rfl⟩:=List.getElem_of_mem hx
      have:=hno j (by simpa using hj)
      simp only [decide_eq_true_eq]
      intro q
      exact this (by simpa using(jf.zero _ _).1 q))]
     rfl
    have Kq:=O (show dK P s=3 by rw [HG.o,hR];rfl);have HV2:=O (show IG P s = [] by unfold IG;rw [Kq.o];rfl);rw [hi] at I;clear hi hno hR hVl;go_wp2_with fail;refine I.o.mono ?_;rintro e w3 ⟨rfl,rfl⟩;go_wp2_with fail;go_ret2;exact⟨none,0,0,by rw [Kq.o];rfl,by rw [HV2.o];exact⟨rfl,Nat.le_refl _,by unfold maxLen;omega,λk x hx=>by simp at hx,λx hx=>by cases hx⟩,(λ_ e=>nomatch e),B2.o⟩
  ·have hE:dK P s=2:=by unfold dK;rw [if_pos h0,if_neg h6]
   have HV2:=O (show IG P s = [] by unfold IG;rw [hE];rfl);have HE:=O hE;have g6:(zf P != 6)=true:=by rw [bne_iff_ne];exact h6
   clear h h0 hV D h6 hE;go_enter Tryz.func105,Tryz.ntmps105;go_wp2_with fail;refine(K.o).mono ?_;rintro e w1 ⟨rfl,b1⟩;replace d0:=za b1 d0;have B1:=O b1;clear b1;go_wp2_with fail;go_ret2;exact⟨none,0,0,by rw [HE.o];rfl,by rw [HV2.o];exact⟨rfl,Nat.le_refl _,by unfold maxLen;omega,λk x hx=>by simp at hx,λx hx=>by cases hx⟩,(λ_ e=>nomatch e),B1.o⟩
 ·have hE:dK P s=zc P:=by unfold dK;rw [if_neg h0]
  have HV2:=O (show IG P s = [] by unfold IG;rw [if_neg (by rw [hE];exact h0)]);have HE:=O hE;rw [zy h0] at K;have HX:=O (zy h0);clear h h0 hE;go_enter Tryz.func105,Tryz.ntmps105;go_wp2_with fail;refine(K.o).mono ?_;rintro e w1 ⟨rfl,b1⟩;go_wp2_with fail;go_ret2;exact⟨none,0,0,by rw [HE.o,HX.o];rfl,by rw [HV2.o];exact⟨rfl,Nat.le_refl _,by unfold maxLen;omega,λk x hx=>by simp at hx,λx hx=>by cases hx⟩,(λ_ e=>nomatch e),b1⟩
theorem ze1(o:Int):(o=1\/o=2\/o=3\/o=4\/o=5\/o=6\/o=7\/o=8\/o=9\/o=10\/o=11\/o=12\/o=13\/o=14\/o=15\/o=16\/o=17\/o=18\/o=19\/o=20\/o=21\/o=22\/o=23\/o=24\/o=25\/o=26\/o=27)\/o<=0\/28<=o:=by omega
theorem zcX{o:Int}(h:o<=0\/28<=o):(o==1)=false/\(o==2)=false/\(o==3)=false/\(o==4)=false/\(o==5)=false/\(o==6)=false/\(o==7)=false/\(o==8)=false/\(o==9)=false/\(o==10)=false/\(o==11)=false/\(o==12)=false/\(o==13)=false/\(o==14)=false/\(o==15)=false/\(o==16)=false/\(o==17)=false/\(o==18)=false/\(o==19)=false/\(o==20)=false/\(o==21)=false/\(o==22)=false/\(o==23)=false/\(o==24)=false/\(o==25)=false/\(o==26)=false/\(o==27)=false:=by
 refine⟨?_,?_,?_,?_,?_,?_,?_,?_,?_,?_,?_,?_,?_,?_,?_,?_,?_,?_,?_,?_,?_,?_,?_,?_,?_,?_,?_⟩<;>(rw [beq_eq_false_iff_ne];omega)
theorem KJ{o:Int}(h:o<=0\/28<=o)(n:Int)(s t:ByteArray):zC ⟨o,n,s,t⟩= -1:=by
 unfold zC;dsimp only;rw [if_neg (by omega),if_neg (by omega),if_neg (by omega),if_neg (by omega),if_neg (by omega)]
theorem MU(x:Nd)(w:World):Calls Tryz.prog 63 #[ndV x] w λe w'=>e = .returned (.int .i64 (zC x))/\Below w.heap.size w w':=by
 obtain⟨o,n,s,t⟩:=x;unfold ndV;dsimp only;rcases ze1 o with (rfl|rfl|rfl|rfl|rfl|rfl|rfl|rfl|rfl|rfl|rfl|rfl|rfl|rfl|rfl|rfl|rfl|rfl|rfl|rfl|rfl|rfl|rfl|rfl|rfl|rfl|rfl)|h
 all_goals try
  go_enter Tryz.func63,Tryz.ntmps63
  go_wp2_with fail
  go_ret
  exact⟨by rfl,zb _ _⟩
 have hp:=O (KJ h n s t);obtain⟨g1,g2,g3,g4,g5,g6,g7,g8,g9,g10,g11,g12,g13,g14,g15,g16,g17,g18,g19,g20,g21,g22,g23,g24,g25,g26,g27⟩:=zcX h;rcases h with h|h
 all_goals
  go_enter Tryz.func63,Tryz.ntmps63;go_wp2_with fail;go_ret;exact⟨by rw [hp.o];rfl,zb _ _⟩
theorem Gm(x:Nd)(w:World):Calls Tryz.prog 36 #[ndV x] w λe w'=>e = .returned (.int .i64 (zC x))/\Below w.heap.size w w':=by
 obtain⟨o,n,s,t⟩:=x;unfold ndV;dsimp only;rcases ze1 o with (rfl|rfl|rfl|rfl|rfl|rfl|rfl|rfl|rfl|rfl|rfl|rfl|rfl|rfl|rfl|rfl|rfl|rfl|rfl|rfl|rfl|rfl|rfl|rfl|rfl|rfl|rfl)|h
 all_goals try
  go_enter Tryz.func36,Tryz.ntmps36
  go_wp2_with fail
  go_ret
  exact⟨by rfl,zb _ _⟩
 have hp:=O (KJ h n s t);obtain⟨g1,g2,g3,g4,g5,g6,g7,g8,g9,g10,g11,g12,g13,g14,g15,g16,g17,g18,g19,g20,g21,g22,g23,g24,g25,g26,g27⟩:=zcX h;rcases h with h|h
 all_goals
  go_enter Tryz.func36,Tryz.ntmps36;go_wp2_with fail;go_ret;exact⟨by rw [hp.o];rfl,zb _ _⟩
theorem Wb(s:ByteArray)(w:World):Calls Tryz.prog 156 #[.string s] w λe w'=>e = .returned (.bool (zN s))/\w=w':=by
 by_cases h0:s.toList = [105,102]
 ·have HR:=O (show zN s=true by rw [ByteArray.toList_eq] at h0;unfold zN;rw [h0];rfl);have f0:(s.toList == [105,102])=true:=beq_iff_eq.2 h0;clear h0;go_enter Tryz.func156,Tryz.ntmps156;go_wp2_with fail;go_ret;exact⟨by rw [HR.o];rfl,rfl⟩
 have f0:(s.toList == [105,102])=false:=beq_eq_false_iff_ne.2 h0;by_cases h1:s.toList = [116,104,101,110]
 ·have HR:=O (show zN s=true by rw [ByteArray.toList_eq] at h1;unfold zN;rw [h1];rfl);have f1:(s.toList == [116,104,101,110])=true:=beq_iff_eq.2 h1;clear h1 h0;go_enter Tryz.func156,Tryz.ntmps156;go_wp2_with fail;go_ret;exact⟨by rw [HR.o];rfl,rfl⟩
 have f1:(s.toList == [116,104,101,110])=false:=beq_eq_false_iff_ne.2 h1;by_cases h2:s.toList = [101,108,115,101]
 ·have HR:=O (show zN s=true by rw [ByteArray.toList_eq] at h2;unfold zN;rw [h2];rfl);have f2:(s.toList == [101,108,115,101])=true:=beq_iff_eq.2 h2;clear h2 h0 h1;go_enter Tryz.func156,Tryz.ntmps156;go_wp2_with fail;go_ret;exact⟨by rw [HR.o];rfl,rfl⟩
 have f2:(s.toList == [101,108,115,101])=false:=beq_eq_false_iff_ne.2 h2;by_cases h3:s.toList = [116,114,117,101]
 ·have HR:=O (show zN s=true by rw [ByteArray.toList_eq] at h3;unfold zN;rw [h3];rfl);have f3:(s.toList == [116,114,117,101])=true:=beq_iff_eq.2 h3;clear h3 h0 h1 h2;go_enter Tryz.func156,Tryz.ntmps156;go_wp2_with fail;go_ret;exact⟨by rw [HR.o];rfl,rfl⟩
 have f3:(s.toList == [116,114,117,101])=false:=beq_eq_false_iff_ne.2 h3;by_cases h4:s.toList = [102,97,108,115,101]
 ·have HR:=O (show zN s=true by rw [ByteArray.toList_eq] at h4;unfold zN;rw [h4];rfl);have f4:(s.toList == [102,97,108,115,101])=true:=beq_iff_eq.2 h4;clear h4 h0 h1 h2 h3;go_enter Tryz.func156,Tryz.ntmps156;go_wp2_with fail;go_ret;exact⟨by rw [HR.o];rfl,rfl⟩
 have f4:(s.toList == [102,97,108,115,101])=false:=beq_eq_false_iff_ne.2 h4;by_cases h5:s.toList = [105,110]
 ·have HR:=O (show zN s=true by rw [ByteArray.toList_eq] at h5;unfold zN;rw [h5];rfl);have f5:(s.toList == [105,110])=true:=beq_iff_eq.2 h5;clear h5 h0 h1 h2 h3 h4;go_enter Tryz.func156,Tryz.ntmps156;go_wp2_with fail;go_ret;exact⟨by rw [HR.o];rfl,rfl⟩
 have f5:(s.toList == [105,110])=false:=beq_eq_false_iff_ne.2 h5;by_cases h6:s.toList = [104,97,115]
 ·have HR:=O (show zN s=true by rw [ByteArray.toList_eq] at h6;unfold zN;rw [h6];rfl);have f6:(s.toList == [104,97,115])=true:=beq_iff_eq.2 h6;clear h6 h0 h1 h2 h3 h4 h5;go_enter Tryz.func156,Tryz.ntmps156;go_wp2_with fail;go_ret;exact⟨by rw [HR.o];rfl,rfl⟩
 have f6:(s.toList == [104,97,115])=false:=beq_eq_false_iff_ne.2 h6;by_cases h7:s.toList = [108,105,107,101]
 ·have HR:=O (show zN s=true by rw [ByteArray.toList_eq] at h7;unfold zN;rw [h7];rfl);have f7:(s.toList == [108,105,107,101])=true:=beq_iff_eq.2 h7;clear h7 h0 h1 h2 h3 h4 h5 h6;go_enter Tryz.func156,Tryz.ntmps156;go_wp2_with fail;go_ret;exact⟨by rw [HR.o];rfl,rfl⟩
 have f7:(s.toList == [108,105,107,101])=false:=beq_eq_false_iff_ne.2 h7;by_cases h8:s.toList = [105,115]
 ·have HR:=O (show zN s=true by rw [ByteArray.toList_eq] at h8;unfold zN;rw [h8];rfl);have f8:(s.toList == [105,115])=true:=beq_iff_eq.2 h8;clear h8 h0 h1 h2 h3 h4 h5 h6 h7;go_enter Tryz.func156,Tryz.ntmps156;go_wp2_with fail;go_ret;exact⟨by rw [HR.o];rfl,rfl⟩
 have f8:(s.toList == [105,115])=false:=beq_eq_false_iff_ne.2 h8;have HR:=O (show zN s=false by
  rw [ByteArray.toList_eq] at h0 h1 h2 h3 h4 h5 h6 h7 h8
  unfold zN znI
  simp only [List.contains_cons,List.contains_nil,Bool.or_false,Bool.or_eq_false_iff,beq_eq_false_iff_ne]
  exact⟨h0,h1,h2,h3,h4,h5,h6,h7,h8⟩)
 clear h0 h1 h2 h3 h4 h5 h6 h7 h8;go_enter Tryz.func156,Tryz.ntmps156;go_wp2_with fail;go_ret;exact⟨by rw [HR.o];rfl,rfl⟩
theorem YK(s:ByteArray)(w:World):Calls Tryz.prog 72 #[.string s] w λe w'=>e = .returned (.bool (zN s))/\w=w':=by
 by_cases h0:s.toList = [105,102]
 ·have HR:=O (show zN s=true by rw [ByteArray.toList_eq] at h0;unfold zN;rw [h0];rfl);have f0:(s.toList == [105,102])=true:=beq_iff_eq.2 h0;clear h0;go_enter Tryz.func72,Tryz.ntmps72;go_wp2_with fail;go_ret;exact⟨by rw [HR.o];rfl,rfl⟩
 have f0:(s.toList == [105,102])=false:=beq_eq_false_iff_ne.2 h0;by_cases h1:s.toList = [116,104,101,110]
 ·have HR:=O (show zN s=true by rw [ByteArray.toList_eq] at h1;unfold zN;rw [h1];rfl);have f1:(s.toList == [116,104,101,110])=true:=beq_iff_eq.2 h1;clear h1 h0;go_enter Tryz.func72,Tryz.ntmps72;go_wp2_with fail;go_ret;exact⟨by rw [HR.o];rfl,rfl⟩
 have f1:(s.toList == [116,104,101,110])=false:=beq_eq_false_iff_ne.2 h1;by_cases h2:s.toList = [101,108,115,101]
 ·have HR:=O (show zN s=true by rw [ByteArray.toList_eq] at h2;unfold zN;rw [h2];rfl);have f2:(s.toList == [101,108,115,101])=true:=beq_iff_eq.2 h2;clear h2 h0 h1;go_enter Tryz.func72,Tryz.ntmps72;go_wp2_with fail;go_ret;exact⟨by rw [HR.o];rfl,rfl⟩
 have f2:(s.toList == [101,108,115,101])=false:=beq_eq_false_iff_ne.2 h2;by_cases h3:s.toList = [116,114,117,101]
 ·have HR:=O (show zN s=true by rw [ByteArray.toList_eq] at h3;unfold zN;rw [h3];rfl);have f3:(s.toList == [116,114,117,101])=true:=beq_iff_eq.2 h3;clear h3 h0 h1 h2;go_enter Tryz.func72,Tryz.ntmps72;go_wp2_with fail;go_ret;exact⟨by rw [HR.o];rfl,rfl⟩
 have f3:(s.toList == [116,114,117,101])=false:=beq_eq_false_iff_ne.2 h3;by_cases h4:s.toList = [102,97,108,115,101]
 ·have HR:=O (show zN s=true by rw [ByteArray.toList_eq] at h4;unfold zN;rw [h4];rfl);have f4:(s.toList == [102,97,108,115,101])=true:=beq_iff_eq.2 h4;clear h4 h0 h1 h2 h3;go_enter Tryz.func72,Tryz.ntmps72;go_wp2_with fail;go_ret;exact⟨by rw [HR.o];rfl,rfl⟩
 have f4:(s.toList == [102,97,108,115,101])=false:=beq_eq_false_iff_ne.2 h4;by_cases h5:s.toList = [105,110]
 ·have HR:=O (show zN s=true by rw [ByteArray.toList_eq] at h5;unfold zN;rw [h5];rfl);have f5:(s.toList == [105,110])=true:=beq_iff_eq.2 h5;clear h5 h0 h1 h2 h3 h4;go_enter Tryz.func72,Tryz.ntmps72;go_wp2_with fail;go_ret;exact⟨by rw [HR.o];rfl,rfl⟩
 have f5:(s.toList == [105,110])=false:=beq_eq_false_iff_ne.2 h5;by_cases h6:s.toList = [104,97,115]
 ·have HR:=O (show zN s=true by rw [ByteArray.toList_eq] at h6;unfold zN;rw [h6];rfl);have f6:(s.toList == [104,97,115])=true:=beq_iff_eq.2 h6;clear h6 h0 h1 h2 h3 h4 h5;go_enter Tryz.func72,Tryz.ntmps72;go_wp2_with fail;go_ret;exact⟨by rw [HR.o];rfl,rfl⟩
 have f6:(s.toList == [104,97,115])=false:=beq_eq_false_iff_ne.2 h6;by_cases h7:s.toList = [108,105,107,101]
 ·have HR:=O (show zN s=true by rw [ByteArray.toList_eq] at h7;unfold zN;rw [h7];rfl);have f7:(s.toList == [108,105,107,101])=true:=beq_iff_eq.2 h7;clear h7 h0 h1 h2 h3 h4 h5 h6;go_enter Tryz.func72,Tryz.ntmps72;go_wp2_with fail;go_ret;exact⟨by rw [HR.o];rfl,rfl⟩
 have f7:(s.toList == [108,105,107,101])=false:=beq_eq_false_iff_ne.2 h7;by_cases h8:s.toList = [105,115]
 ·have HR:=O (show zN s=true by rw [ByteArray.toList_eq] at h8;unfold zN;rw [h8];rfl);have f8:(s.toList == [105,115])=true:=beq_iff_eq.2 h8;clear h8 h0 h1 h2 h3 h4 h5 h6 h7;go_enter Tryz.func72,Tryz.ntmps72;go_wp2_with fail;go_ret;exact⟨by rw [HR.o];rfl,rfl⟩
 have f8:(s.toList == [105,115])=false:=beq_eq_false_iff_ne.2 h8;have HR:=O (show zN s=false by
  rw [ByteArray.toList_eq] at h0 h1 h2 h3 h4 h5 h6 h7 h8
  unfold zN znI
  simp only [List.contains_cons,List.contains_nil,Bool.or_false,Bool.or_eq_false_iff,beq_eq_false_iff_ne]
  exact⟨h0,h1,h2,h3,h4,h5,h6,h7,h8⟩)
 clear h0 h1 h2 h3 h4 h5 h6 h7 h8;go_enter Tryz.func72,Tryz.ntmps72;go_wp2_with fail;go_ret;exact⟨by rw [HR.o];rfl,rfl⟩
theorem zfT(A:Option Addr)(n c:Nat)(P:List Nd)(p:Nat)(f:Bool)(x:Ex)(w:World)(h:Ns w A n c P)(hx:XAt P p f x):
 Calls Tryz.prog 33 #[.slice A n c,.int .i64 p] w λe w'=>e = .returned (.int .i64 ((p+x.flat.length:Nat):Int))/\Below w.heap.size w w':=by
 have hm:=h.max;unfold maxLen at hm;have Tj:=O h;have Ng:=O h.len;have HLE:=O hx.le;have HO:=O (show SJ P p (.cons x .nil) from(by obtain⟨r,e⟩:=hx.drop;exact SJ.start hx.valid e));have CP:=O (λy w=>MU y w);unfold ndV at CP;have HT:=O (show p+(Exs.cons x .nil).flat.length=p+x.flat.length by simp [Exs.flat]);have hple:p+x.flat.length<=n:=by rw [Ng.o];exact HLE.o
 generalize p+x.flat.length=T at *;clear h hx;go_enter Tryz.func33,Tryz.ntmps33;go_wp2_with fail;go_loopw [1,5] (λu l wr=>∃(q m:Nat) (L:Exs),u = .int .i64 q/\l = .int .i64 m/\Hid (m=L.len)/\Hid (SJ P q L)/\Hid (q+L.flat.length=T)/\Hid (Below w.heap.size w wr)) (λu _ _=>n+1-(intOf u).toNat)
 case atStart=>exact⟨p,1,.cons x .nil,rfl,rfl,O rfl,HO,HT,O (Below.refl _ _)⟩
 case round =>
  obtain⟨q,m,L,rfl,rfl,hM,hO,hT,hB⟩:=hrel;by_cases hl:0<m
  ·obtain⟨y,ps,r,rfl⟩:=hO.o.left (by rw [<-hM.o];exact hl);obtain⟨hy,hO2,hlen,htot⟩:=hO.o.step;have hql:q<P.length:=(List.getElem?_eq_some_iff.1 hy).1;have hqn:q<n:=by rw [Ng.o];exact hql
   obtain⟨a,rfl,d0,d1,d2,d3⟩:=(Tj.o.keep hB.o).at_ q y hy;have HO2:=O hO2;have HT2:=O (htot.trans hT.o);have hbl:=gY (ps.app r);have hm1:(Exs.cons (.node y ps) r).len=r.len+1:=rfl;have hmm:=hM.o;have hsum:(m:Int)+zC y=((ps.app r).len:Int)+1:=by omega
   have hfl:(ps.app r).len+1<=n:=by have:=HT2.o;omega
   have CY:=O (λw=>CP.o y w);have f0:decide (0<m)=true:=decide_eq_true hl;obtain⟨m2,hm2⟩:∃m2,m2=(ps.app r).len:=⟨_,rfl⟩
   have HM2:=O hm2;rw [<-hm2] at hsum hfl;generalize (ps.app r)=L2 at *;generalize zC y=k at *;clear hO hT hy hO2 htot hlen hl hbl hm1 hmm hm2;go_wp2_with fail;refine(CY.o _).mono ?_;rintro e w1 ⟨rfl,b1⟩;have B1:=bh hB b1;clear b1 hB d0 d1 d2 d3;go_wp2_with fail;go_roundw
   case rel=>exact⟨q+1,m2,L2,by go_num,by go_num,HM2,HO2,HT2,B1⟩
   case measure=>simp [intOf];omega
  ·have hL:L = .nil:=by
    have:=hM.o
    cases L with
    | nil=>rfl
    | cons x r=>simp only [Exs.len] at this;omega
   have HR:=O (show q=T by have:=hT.o;rw [hL] at this;simpa [Exs.flat] using this);have hm0:m=0:=by omega
   subst hm0;clear hL hl;go_wp2_with fail;go_ret;exact⟨by rw [<-HR.o];rfl,hB.o⟩
theorem zdj{w:World}{a:Addr}{n c m d:Nat}{U V R:List Nd}(h:Ns w (some a) n c (U ++(V ++ R)))(hm:m=V.length)(hd:d=c-U.length):Ns w (some (a.add (U.length*4))) m d V:=by
 have hl:=h.len;have hc:=h.cap;have hx:=h.max;rw [List.length_append,List.length_append] at hl;refine⟨hm,by omega,by omega,λk y hy=>?_,λy hy=>h.ok y (by simp [hy])⟩;have hk:k<V.length:=(List.getElem?_eq_some_iff.1 hy).1;obtain⟨b,e,q0,q1,q2,q3⟩:=h.at_ (U.length+k) y (by rw [List.getElem?_append_right (by omega),List.getElem?_append_left (by omega)];simpa using hy);injection e with e;subst e;refine⟨_,rfl,?_⟩;rw [add_add,show U.length*4+k*4=(U.length+k)*4 by omega];exact⟨q0,q1,q2,q3⟩
theorem Uq(w:World)(A:Option Addr)(d:Nat):Ns w A 0 d []:=⟨rfl,Nat.zero_le _,Nat.zero_le _,λk x hx=>by simp at hx,λx hx=>nomatch hx⟩
def zhL(w:World)(A:Option Addr)(n c:Nat)(x:Ex)(r:List Nd)(e:Ending)(w':World):Prop :=
 ∃(o n':Int) (s t:ByteArray) (A1:Option Addr) (m k:Nat) (A2:Option Addr) (n2 c2:Nat),e = .returned (.tuple #[.agg #[.int .i64 o,.int .i64 n',.string s,.string t,.slice A1 m k],.slice A2 n2 c2])/\
  PAt w' (λb=>w.heap.size<=b) x [.int .i64 o,.int .i64 n',.string s,.string t,.slice A1 m k]/\(∀W,Ns W A n c (x.flat ++ r)->Ns W A2 n2 c2 r)/\Below w.heap.size w w'
def zmD(N:Nat):Prop:=∀(x:Ex) (f:Bool) (A:Option Addr) (n c:Nat) (r:List Nd) (w:World),x.flat.length<=N->x.flat.length<=1000000->x.valid f->Ns w A n c (x.flat ++ r)->
 Calls Tryz.prog 16 #[.slice A n c] w (zhL w A n c x r)
structure Yp(w wr:World)(nd:Nd)(E:List Pe)(pv:Value):Prop where
 X0:Bx5 wr w.heap.size (.int .i64 0) (.int .i64 0) (.string ⟨#[]⟩) (.string ⟨#[]⟩) (.slice none 0 0)
 X1:Bx5 wr (w.heap.size+1) (.int .i64 nd.op) (.int .i64 nd.n) (.string nd.s) (.string nd.t) pv
 R:Kt wr (w.heap.size+2) (λb=>w.heap.size+2<=b) pv E
 G:Below w.heap.size w wr
 z:w.heap.size+2<=wr.heap.size
theorem Yp.keep{w wr w':World}{nd:Nd}{E:List Pe}{pv:Value}(h:Yp w wr nd E pv)(hb:Below wr.heap.size wr w'):Yp w w' nd E pv :=
 ⟨h.X0.keep hb,h.X1.keep hb,h.R.keepN (zA hb none),h.G.trans (hb.mono h.G.size),Nat.le_trans h.z hb.size⟩
theorem Yp.next{w w6 w7:World}{nd:Nd}{E:List Pe}{v v':Value}{z:Pe}(h:Yp w w6 nd E v)(hrow:Kt w7 (w.heap.size+2) (λb=>w.heap.size+2<=b) v' (E ++ [z]))(hg:w6.grownBy w7 v.ownBlock):
 Bx5 w7 (w.heap.size+1) (.int .i64 nd.op) (.int .i64 nd.n) (.string nd.s) (.string nd.t) v/\Yp w (w7.setCell ⟨w.heap.size+1,4,none⟩ v') nd (E ++ [z]) v':=by
 have hv:∀k,v.ownBlock=some k->w.heap.size+2<=k:=λk hk=>(h.R.own.lt k hk).1;have hn:∀b,b<w.heap.size+2->some b≠v.ownBlock:=λb hb e=>by have:=hv b e.symm;omega
 have gs:w7.grownBy (w7.setCell ⟨w.heap.size+1,4,none⟩ v') (some (w.heap.size+1)):=zr w7 ⟨w.heap.size+1,4,none⟩ v';have K7:=h.X1.but hg (hn _ (by omega));have G7:Below w.heap.size w w7:=by
  refine h.G.trans ?_;rcases hv2:v.ownBlock with _|k
  ·rw [hv2] at hg;exact⟨hg.os,hg.tape,hg.output,hg.size,λi hi=>hg.block i (Nat.lt_of_lt_of_le hi h.G.size) (λe=>nomatch e)⟩
  ·rw [hv2] at hg;exact j7 hg (by have:=hv k hv2;omega) h.G.size
 refine⟨K7,(h.X0.but hg (hn _ (by omega))).but gs (λe=>by injection e with e;omega),K7.set4 v',?_,?_,?_⟩
 ·exact hrow.keep gs (by omega) (by omega)
 ·exact G7.trans (j7 gs (by omega) G7.size)
 ·have:=Nat.le_trans h.z hg.size;simpa [World.setCell] using this
theorem ziO{w6:World}{x:Ex}{u:List Value}{fb lo:Nat}(hk:PAt w6 (λb=>lo<=b) x u)(hfb:fb<lo)(y0 y1 y2 y3 y4:Value)(o:Obj):
 PAt ((((((w6.setCell ⟨fb,0,none⟩ y0).setCell ⟨fb,1,none⟩ y1).setCell ⟨fb,2,none⟩ y2).setCell ⟨fb,3,none⟩ y3).setCell ⟨fb,4,none⟩ y4).alloc o) (λb=>lo<=b) x u:=by
 have h1:=PAt.mono (B':=λb=>lo<=b/\b<w6.heap.size) (λb h1 h2=>⟨h1,h2⟩) _ _ hk;refine PAt.mono (λb hb _=>hb.1) _ _ (PAt.cong (λb hb=>?_) _ _ h1);exact((zb _ o).block b (by simpa [World.setCell] using hb.2)).trans (Km w6 fb y0 y1 y2 y3 y4 (by have:=hb.1;omega))
theorem Kl{c:Bool}:∀ {ps:Exs} {s:ByteArray},ps.valid c s->∀y∈exL ps,y.valid c
 | .nil,_,_,y,hy=>nomatch hy
 | .cons x r,s,h,y,hy=>by
  rw [Exs.valid] at h;rcases List.mem_cons.1 hy with rfl|hy
  ·exact h.2.1
  ·exact Kl h.2.2 y hy
theorem To:∀E:List Pe,exL (SD E)=E.map Pe.x
 | []=>rfl
 | z :: E=>by rw [SD,exL,To E];rfl
def zpl:Value->Nat
 | .slice _ m _=>m
 | _=>0
theorem zfX(N:Nat)(ih:zmD N)(nd:Nd)(ps:Exs)(f:Bool)(a:Addr)(n c:Nat)(r:List Nd)(w:World)(hN:ps.flat.length<=N)(hM:ps.flat.length<=1000000)(hv:(Ex.node nd ps).valid f)(Gy:Ns w (some a) n c (nd ::(ps.flat ++ r))):
 Calls Tryz.prog 16 #[.slice (some a) n c] w (zhL w (some a) n c (.node nd ps) r):=by
 have hl:=Gy.len;have zhh:=Gy.cap;have hmx:=Gy.max;unfold maxLen at hmx;rw [List.length_cons,List.length_append] at hl;obtain⟨a',ea,q0,q1,q2,q3⟩:=Gy.at_ 0 nd rfl;injection ea with ea;subst ea;rw [show a.add (0*4)=a from rfl] at q0 q1 q2 q3;obtain⟨l,hl1⟩:∃l,l=ps.flat.length:=⟨_,rfl⟩
 have SK:Hid (∀w',Below w.heap.size w w'->Calls Tryz.prog 33 #[.slice (some a) n c,.int .i64 0] w' λe w''=>e = .returned (.int .i64 ((l:Int)+1))/\Below w'.heap.size w' w''):=O (λw' hb=>by
  have h:=zfT (some a) n c _ 0 f (.node nd ps) w' (Gy.keep hb) ⟨hv,r,rfl⟩
  rw [show(Ex.node nd ps).flat.length=l+1 by rw [hl1];rfl,Nat.zero_add] at h
  exact h)
 have HL1:=O hl1;have HM6:=O hM;rw [<-hl1] at hl hN;have Tj:=O Gy;have HV:=O hv;have IH:=O ih;have hn1:(0:Int)<(n:Int):=by omega
 have hn2:l+1<=n:=by omega
 have Ng:=O hl;clear hl;have hb0:=zb w (.cells #[.int .i64 0,.int .i64 0,.string ⟨#[]⟩,.string ⟨#[]⟩,.slice none 0 0] 49);have p0:=za hb0 q0;have p1:=za hb0 q1;have p2:=za hb0 q2;have p3:=za hb0 q3;have hb1:=zb (w.alloc (.cells #[.int .i64 0,.int .i64 0,.string ⟨#[]⟩,.string ⟨#[]⟩,.slice none 0 0] 49)) (.cells #[.int .i64 nd.op,.int .i64 nd.n,.string nd.s,.string nd.t,.slice none 0 0] 49);have B1:=O (hb0.trans (hb1.mono hb0.size));clear Gy hl1 ih hv hb0 hb1 q0 q1 q2 q3;go_enter Tryz.func16,Tryz.ntmps16;go_wp2_with fail;refine(SK.o _ B1.o).mono ?_;rintro e w1 ⟨rfl,b1⟩;have LP:=O (show Yp w w1 nd [] (.slice none 0 0) from by
  have hb0:=zb w (.cells #[.int .i64 0,.int .i64 0,.string ⟨#[]⟩,.string ⟨#[]⟩,.slice none 0 0] 49)
  have hb1:=zb (w.alloc (.cells #[.int .i64 0,.int .i64 0,.string ⟨#[]⟩,.string ⟨#[]⟩,.slice none 0 0] 49)) (.cells #[.int .i64 nd.op,.int .i64 nd.n,.string nd.s,.string nd.t,.slice none 0 0] 49)
  have x1:=jR (w.alloc (.cells #[.int .i64 0,.int .i64 0,.string ⟨#[]⟩,.string ⟨#[]⟩,.slice none 0 0] 49)) (.int .i64 nd.op) (.int .i64 nd.n) (.string nd.s) (.string nd.t) (.slice none 0 0) 49
  rw [show(w.alloc (.cells #[.int .i64 0,.int .i64 0,.string ⟨#[]⟩,.string ⟨#[]⟩,.slice none 0 0] 49)).heap.size=w.heap.size+1 by simp] at x1
  exact Yp.keep ⟨(jR w (.int .i64 0) (.int .i64 0) (.string ⟨#[]⟩) (.string ⟨#[]⟩) (.slice none 0 0) 49).keep hb1,x1,Kt.nil _ _ _,B1.o,by simp⟩ b1)
 have HA:=O (show∀W,Ns W (some a) n c (nd ::(ps.flat ++ r))->Ns W (some ⟨a.block,a.off+4,none⟩) l (c-1) ps.flat from λW h=>by
  have:=zdj (U := [nd]) (V:=ps.flat) (R:=r) (m:=l) (d:=c-1) h HL1.o rfl
  simpa [Addr.add] using this)
 have HA0:=O (show∀d,c=1->∀W,Ns W (some a) n c (nd ::(ps.flat ++ r))->Ns W (some a) l d ps.flat from λd hc W h=>by
  have h0:l=0:=by omega
  have h1:=HL1.o
  rw [h0] at h1
  rw [h0,List.eq_nil_of_length_eq_zero h1.symm]
  exact Uq _ _ _)
 have HPV:=O (show∀y∈exL ps,y.valid (zB nd) from Kl (by have h:=HV.o;rw [Ex.valid] at h;exact h.2.2));clear p0 p1 p2 p3 b1 SK B1;go_wp2_with fail
 all_goals
  go_loopw [6] (λv wr=>∃(E:List Pe) (q:Exs) (A2:Option Addr) (m2 c2:Nat) (pv:Value),v = .slice A2 m2 c2/\Hid (E.map Pe.x ++ exL q=exL ps)/\Hid (∀W,Ns W (some a) n c (nd ::(ps.flat ++ r))->Ns W A2 m2 c2 q.flat)/\Hid (Yp w wr nd E pv)) (λv _=>zpl v)
  case atStart =>
   first
    | exact⟨[],ps,_,_,_,_,rfl,O rfl,HA,LP⟩
    | exact⟨[],ps,_,_,_,_,rfl,O rfl,O (HA0.o _ (by assumption)),LP⟩
  case round =>
   clear LP HA HA0;obtain⟨E,q,A2,m2,c2,pv,rfl,hE,hT,hL⟩:=hrel;have VL:=O (hT.o w Tj.o);have HM2:=O VL.o.len
   cases q with
   | nil =>
    have hm0:m2=0:=HM2.o
    subst hm0
    obtain⟨A7,cp7,hpv,zen,VJ,zj6⟩:=hL.o.R.pts (λb hb=>hb)
    have hE2:SD E=ps:=Ye (by rw [To];simpa [exL] using hE.o)
    have hml:E.length=ps.len:=by rw [<-hE2,TN]
    rw [hE2] at zen
    obtain⟨ml,zcj⟩:∃ml,ml=E.length:=⟨_,rfl⟩
    rw [<-zcj] at hpv VJ hml
    subst hpv
    have HP:=O zen
    have HML:=O hml
    have HC7:=O (And.intro VJ zj6)
    have D0:=O (hL.o.X0.keep (Gt wr))
    have D1:=O (hL.o.X1.keep (Gt wr))
    clear zen hml VJ zj6 hE2 zcj
    have BD:=O (Gt wr)
    obtain⟨y0,y1,y2,y3,y4,-,-,-,-,-⟩:=D1.o
    go_wp2_with fail
    refine wp_region_noPanic ?_
    refine Gw (λ(w':World)=>w'.cell? ⟨w.heap.size+1,0,none⟩=some (.int .i64 nd.op)/\w'.cell? ⟨w.heap.size+1,1,none⟩=some (.int .i64 nd.n)/\w'.cell? ⟨w.heap.size+1,2,none⟩=some (.string nd.s)/\w'.cell? ⟨w.heap.size+1,3,none⟩=some (.string nd.t)/\w'.cell? ⟨w.heap.size+1,4,none⟩=some (Value.slice A7 ml cp7)) 5 (by kernel_rfl) ⟨y0,y1,y2,y3,y4⟩ (λhHeld=>?_)
    obtain⟨wd,hwd⟩:∃wd,wr.drew=wd:=⟨_,rfl⟩
    have HWD:=O (show∀b:Nat,wd.heap[b]?=wr.heap[b]? from λb=>by rw [<-hwd];rfl)
    rw [hwd] at D0 D1 BD hHeld ⊢
    clear y0 y1 y2 y3 y4 hwd
    obtain⟨x0,x1,x2,x3,x4,f0,f1,f2,f3,f4⟩:=D0.o
    refine ja 0 31 (.agg #[.int .i64 nd.op,.int .i64 nd.n,.string nd.s,.string nd.t,.slice A7 ml cp7]) rfl (λw' hSw=>?_) hHeld ?_
    ·obtain⟨a0,a1,a2,a3,a4⟩:=hSw
     go_simp
    simp only [Act.put,zS]
    refine ja 1 32 (.slice (some a) n c) rfl (λw' hSw=>?_) hHeld ?_
    ·clear hSw
     go_simp
    simp only [Act.put,zS]
    refine ja 2 33 (.int .i64 ((l:Int)+1)) rfl (λw' hSw=>?_) hHeld ?_
    ·clear hSw
     go_simp
    simp only [Act.put,zS]
    obtain⟨A9,hA9⟩:∃A9,(if c=l+1 then some a else some (a.add ((l+1)*4)))=A9:=⟨_,rfl⟩
    refine ja 3 34 (.slice A9 (n-(l+1)) (c-(l+1))) rfl (λw' hSw=>?_) hHeld ?_
    ·clear hSw
     rw [<-hA9];go_simp;intro h;have:=h (by omega);omega
    simp only [Act.put,zS]
    have HA9:=O hA9
    clear hA9
    have G5:=O (Mz wd w.heap.size (.int .i64 nd.op) (.int .i64 nd.n) (.string nd.s) (.string nd.t) (.slice A7 ml cp7))
    have D5:=O (D1.o.but G5.o (λe=>by injection e with e;omega))
    have R5:=O (D0.o.set (.int .i64 nd.op) (.int .i64 nd.n) (.string nd.s) (.string nd.t) (.slice A7 ml cp7))
    refine jy (i:=4) (o:=⟨none,_,_,_,_,_⟩) (by kernel_rfl) rfl (λK' hK'=>?_)
    go_simp
    refine hK'.out _ _ (λ_=>⟨D5.o.c0,D5.o.c1,D5.o.c2,D5.o.c3,D5.o.c4⟩) ?_
    clear hK' K' hHeld
    try simp only [Act.put,zS]
    refine jy (i:=5) (o:=⟨some 3,_,_,_,_,_⟩) (by kernel_rfl) rfl (λK' hK'=>?_)
    go_simp
    refine hK'.out _ _ (λh=>absurd rfl h) ?_
    clear hK' K'
    refine Gs (by kernel_rfl) ?_
    refine NoPanic.normal ?_
    try simp only [Act.put,zS]
    obtain⟨s0,s1,s2,s3,s4,-,-,-,-,-⟩:=R5.o
    clear x0 x1 x2 x3 x4 f0 f1 f2 f3 f4
    go_wp2_with fail
    have HPN:=O (show∀b,w.heap.size+2<=b->(((((wd.setCell ⟨w.heap.size,0,none⟩ (.int .i64 nd.op)).setCell ⟨w.heap.size,1,none⟩ (.int .i64 nd.n)).setCell ⟨w.heap.size,2,none⟩ (.string nd.s)).setCell ⟨w.heap.size,3,none⟩ (.string nd.t)).setCell ⟨w.heap.size,4,none⟩ (.slice A7 ml cp7)).heap[b]?=wr.heap[b]? from λb hb=>(Km wd w.heap.size _ _ _ _ _ (by omega)).trans (HWD.o b))
    refine bodyPost_ret (v := .tuple #[.agg #[.int .i64 nd.op,.int .i64 nd.n,.string nd.s,.string nd.t,.slice A7 ml cp7],.slice A9 (n-(l+1)) (c-(l+1))]) (by simp [results,Tryz.results16,go_sem,s0,s1,s2,s3,s4] <;> omega) rfl ⟨nd.op,nd.n,nd.s,nd.t,A7,ml,cp7,_,_,_,rfl,?_,λW h=>?_,?_⟩
    ·rw [PAt]
     exact⟨Tj.o.ok nd (by simp),A7,cp7,by rw [HML.o],by rw [<-HML.o];exact HC7.o.1,HC7.o.2,lV.mono (λb hb _=>Nat.le_trans (Nat.le_add_right _ 2) hb) _ _ _ (lV.cong HPN.o _ _ _ HP.o)⟩
    ·rw [<-HA9.o]
     have hlen:=Ng.o;split
     ·have hr:r = []:=List.eq_nil_of_length_eq_zero (by omega);subst hr;rw [show n-(l+1)=0 by omega];exact Uq _ _ _
     ·have:=zdj (U:=nd :: ps.flat) (V:=r) (R := []) (m:=n-(l+1)) (d:=c-(l+1)) (by simpa [Ex.flat] using h) (by omega) (by rw [HL1.o];rfl);rw [List.length_cons,<-HL1.o] at this;exact this
    ·exact ed (hL.o.G.trans (BD.o.mono hL.o.G.size)) (Nat.le_refl _) _ _ _ _ _
   | cons y q =>
    have hm0:(0:Int)<(m2:Int):=by
     have:=HM2.o;rw [Exs.flat,List.length_append] at this;have:=jp y;omega
    have HYP:=O (show y∈exL ps by rw [<-hE.o];simp [exL])
    have hb:=zb wr (.cells #[.int .i64 0,.int .i64 0,.string ⟨#[]⟩,.string ⟨#[]⟩,.slice none 0 0] 49)
    have KC:=O (IH.o y (zB nd) A2 m2 c2 q.flat (wr.alloc (.cells #[.int .i64 0,.int .i64 0,.string ⟨#[]⟩,.string ⟨#[]⟩,.slice none 0 0] 49)) (by rw [HL1.o] at hN;exact Nat.le_trans (Pj ps y HYP.o) hN) (Nat.le_trans (Pj ps y HYP.o) HM6.o) (HPV.o y HYP.o) (VL.o.keep (hL.o.G.trans (hb.mono hL.o.G.size))))
    have Y0:=O (jR wr (.int .i64 0) (.int .i64 0) (.string ⟨#[]⟩) (.string ⟨#[]⟩) (.slice none 0 0) 49)
    have HB0:=O hb
    clear hb
    go_wp2_with fail
    refine KC.o.mono ?_
    rintro e w4 ⟨o,n',s,t,A3,m3,k3,A4,n4,c4,rfl,hx,ON,b4⟩
    have Y4:=O (Y0.o.keep b4)
    have HB4:=O (HB0.o.trans (b4.mono HB0.o.size))
    have L4:=O (hL.o.keep HB4.o)
    have HX:=O hx
    have HS4:=O ON
    have hlk:w.heap.size+1<wr.heap.size:=by have:=hL.o.z;omega
    have hl4:wr.heap.size<w4.heap.size:=block_lt_of_cell Y4.o.c0
    obtain⟨W,hW⟩:∃W,((((w4.setCell ⟨wr.heap.size,0,none⟩ (.int .i64 o)).setCell ⟨wr.heap.size,1,none⟩ (.int .i64 n')).setCell ⟨wr.heap.size,2,none⟩ (.string s)).setCell ⟨wr.heap.size,3,none⟩ (.string t)).setCell ⟨wr.heap.size,4,none⟩ (.slice A3 m3 k3)=W:=⟨_,rfl⟩
    have B6:Below wr.heap.size wr W:=by rw [<-hW];exact ed HB4.o (Nat.le_refl _) _ _ _ _ _
    have hz6:W.heap.size=w4.heap.size:=by rw [<-hW];simp [World.setCell]
    have L6:=O ((hL.o.keep B6).keep (zb W (.cells #[.int .i64 o,.int .i64 n',.string s,.string t,.slice A3 m3 k3] 49)))
    have rn:=jP W [.int .i64 o,.int .i64 n',.string s,.string t,.slice A3 m3 k3] 49
    rw [hz6] at rn
    have RN:=O rn
    have HZ7:=O (show(W.alloc (.cells #[.int .i64 o,.int .i64 n',.string s,.string t,.slice A3 m3 k3] 49)).heap.size=w4.heap.size+1 by rw [<-hz6];simp)
    have KK:=O (show PAt (W.alloc (.cells #[.int .i64 o,.int .i64 n',.string s,.string t,.slice A3 m3 k3] 49)) (λb=>w.heap.size+2<=b/\some b≠pv.ownBlock) y [.int .i64 o,.int .i64 n',.string s,.string t,.slice A3 m3 k3] from by
     rw [<-hW]
     refine PAt.mono (λb hb _=>⟨?_,λe=>?_⟩) _ _ (ziO HX.o (fb:=wr.heap.size) (by simp) _ _ _ _ _ _)
     ·have hb1:wr.heap.size+1<=b:=by simpa using hb
      have:=hL.o.z;omega
     ·have hb1:wr.heap.size+1<=b:=by simpa using hb
      have:=(hL.o.R.own.lt b e.symm).2;omega)
    have HEL:=O (show E.length<=1000000 by
     have h1:=congrArg List.length hE.o
     rw [List.length_append,List.length_map,J',J'] at h1
     have h2:=gY ps
     have h3:=HM6.o
     omega)
    subst hW
    clear rn hz6 B6 hx ON b4
    obtain⟨y0,y1,y2,y3,y4,j0,j1,j2,j3,j4⟩:=Y4.o
    obtain⟨k0,k1,k2,k3',k4,r0,r1,r2,r3,r4⟩:=L4.o.X1
    go_wp2_with (at_builtin;refine Rh rfl _ _ rfl (w.heap.size+2) (λb=>w.heap.size+2<=b) pv E rfl L6.o.R ⟨y,o,n',s,t,A3,m3,k3⟩ ⟨w4.heap.size,0,none⟩ 1 1 rfl rfl RN.o KK.o HEL.o ?c1 ?_)
    case c1=>rw [HZ7.o];omega
    intro v' w7 hrow hg
    obtain⟨K7,LN⟩:=L6.o.next hrow hg
    have Ng:=O LN
    obtain⟨A7,cp7,hv',-,-,-⟩:=hrow.pts (λb hb=>hb)
    obtain⟨nl,hnl⟩:∃nl,nl=(E ++ [(⟨y,o,n',s,t,A3,m3,k3⟩:Pe)]).length:=⟨_,rfl⟩
    rw [<-hnl] at hv'
    subst hv'
    clear hnl hrow hg LN y0 y1 y2 y3 y4 j0 j1 j2 j3 j4 k0 k1 k2 k3' k4 r0 r1 r2 r3 r4
    obtain⟨k0,k1,k2,k3',k4,r0,r1,r2,r3,r4⟩:=K7
    go_wp2_with fail
    go_roundw
    case rel=>exact⟨E ++ [⟨y,o,n',s,t,A3,m3,k3⟩],q,A4,n4,c4,_,rfl,O (by rw [<-hE.o];simp [exL]),O (λW h=>HS4.o W (hT.o W h)),Ng⟩
    case measure =>
     have h1:=(HS4.o w VL.o).len;have h2:=HM2.o;rw [Exs.flat,List.length_append] at h2;have:=jp y;show n4<m2;omega
theorem XF:∀N,zmD N
 | 0=>λx _ _ _ _ _ _ h=>by have:=jp x;omega
 | N+1=>λx f A n c r w h hM hv Gy=>by
  cases x with
  | node nd ps =>
   rw [Ex.flat,List.length_cons] at h hM
   rw [Ex.flat,List.cons_append] at Gy
   obtain⟨a,rfl,-⟩:=Gy.at_ 0 nd rfl
   exact zfX N (XF N) nd ps f a n c r w (by omega) (by omega) hv Gy
theorem Uk(o n:Int)(s t:ByteArray)(A:Option Addr)(m c:Nat)(w:World):
 Calls Tryz.prog 64 #[.agg #[.int .i64 o,.int .i64 n,.string s,.string t,.slice A m c]] w λe w'=>e = .returned (.tuple #[.bool (o==1),.bool (n==1)])/\Below w.heap.size w w':=by
 go_enter Tryz.func64,Tryz.ntmps64;have x:=jR w (.int .i64 o) (.int .i64 n) (.string s) (.string t) (.slice A m c) 49;have hb:=zb w (.cells #[.int .i64 o,.int .i64 n,.string s,.string t,.slice A m c] 49);obtain⟨x0,x1,x2,x3,x4,-,-,-,-,-⟩:=x;go_wp2_with fail;go_quiet (fail);go_wp2_with fail;go_ret2;exact⟨rfl,by first|exact hb|exact hb.trans ((Gt _).mono hb.size)|exact(hb.drewN _)⟩
theorem MJ(o n:Int)(s t:ByteArray)(A:Option Addr)(m c:Nat)(w:World):
 Calls Tryz.prog 65 #[.agg #[.int .i64 o,.int .i64 n,.string s,.string t,.slice A m c]] w λe w'=>e = .returned (.bool (ofT o))/\Below w.heap.size w w':=by
 obtain⟨b,hb⟩:∃b,ofT o=b:=⟨_,rfl⟩
 rw [hb];have HB:=O hb;clear hb;go_enter Tryz.func65,Tryz.ntmps65;go_wp2_with fail
 all_goals
  go_ret;refine⟨?_,by first|exact Below.refl _ _|exact zb _ _⟩;rw [show b=_ from HB.o.symm];simp only [beq_iff_eq,beq_eq_false_iff_ne] at *
  first
   |(rw [show ofT o=true from by unfold ofT;rw [decide_eq_true_eq];omega];rfl)
   |(rw [show ofT o=false from by unfold ofT;rw [decide_eq_false_iff_not];omega];rfl)
end Go.Proofs.YtokiogmfgpidmaaGreatDoor
