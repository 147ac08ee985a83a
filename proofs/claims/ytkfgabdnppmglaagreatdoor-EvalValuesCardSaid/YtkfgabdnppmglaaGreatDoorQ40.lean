/-
  The reference's Fields, Behind and Fault: where an expression ends. ref KindEnd: of records. ref FieldsOf, FieldKind, PartKind: where the fields of a record's ..
-/
import Derived.Deep.RegionHeld3
import Derived.Test.YtkfgabdnppmglaaGreatDoorQ8
import Derived.Test.YtkfgabdnppmglaaGreatDoorQ15
import Derived.Test.YtkfgabdnppmglaaGreatDoorQ19
import Derived.Test.YtkfgabdnppmglaaGreatDoorQ21
import Derived.Test.YtkfgabdnppmglaaGreatDoorQ31
import Derived.Test.YtkfgabdnppmglaaGreatDoorQ33
import Derived.Test.YtkfgabdnppmglaaGreatDoorQ39
set_option maxRecDepth 100000
set_option maxHeartbeats 16000000
namespace Go.Proofs.YtkfgabdnppmglaaGreatDoor
open Go.RowKit Go.Wk Go.Sort
def RbC(P:List Nd)(A:Option Addr)(n c m:Nat):Prop:=∀(p:Nat) (w:World),Ns w A n c P→n-p≤m→
 Calls Tryz.prog 24 #[.slice A n c,.int .i64 p] w fun e w'=>e = .returned (.int .i64 (jJ P p false))∧Below w.heap.size w w'
theorem zsl(P:List Nd)(A:Option Addr)(n c p:Nat)(w:World)(h:Ns w A n c P)(hp:n≤p):
 Calls Tryz.prog 24 #[.slice A n c,.int .i64 p] w fun e w'=>e = .returned (.int .i64 (jJ P p false))∧Below w.heap.size w w':=by
 have HR:=hi9 (zfd (t:=P) (p:=p) (f:=false) (by rw [←h.len];exact hp));have f0:decide (n≤p)=true:=decide_eq_true (by omega);have f1:decide ((p:Int)<0)=false:=decide_eq_false (by omega);clear h;go_enter Tryz.func24,Tryz.ntmps24;go_wp2_with fail;go_ret;exact⟨by rw [HR.out];rfl,Below.refl _ _⟩
theorem znY{t:List Nd}{s:ByteArray}{c p:Nat}{y:Nd}(h:t[p]?=some y):(¬(y.op=7∧jz y=true∧jk s y.s<0)→zai t (c+1) true s p = -1)∧
 (y.op=7∧jz y=true∧jk s y.s<0→zai t (c+1) true s p=if 0≤jJ t (p+1) false then zai t c true y.s (jJ t (p+1) false).toNat else -1):=by
 rw [zbP h,znT h];constructor
 ·intro hn;by_cases h1:jk s y.s<0
  ·rw [if_neg (by simp [h1])];have h2:zba true y=false:=by
    unfold zba;by_cases hf:jz y=true
    ·rw [hf,Bool.true_and,decide_eq_false (fun q=>hn ⟨q,hf,h1⟩)];rfl
    ·rw [show jz y=false by simpa using hf];rfl
   rw [if_neg (by simp [h2])]
   try rfl
  ·rw [if_pos ⟨rfl,h1⟩]
 ·rintro ⟨h1,h2,h3⟩;have h4:zba true y=true:=by unfold zba;rw [h2,decide_eq_true h1];rfl
  rw [if_neg (by simp [h3]),if_pos h4]
theorem ztw(P:List Nd)(m:Nat)(a:Addr)(n c q:Nat)(w:World)(ih:RbC P (some a) n c m)(hns:Ns w (some a) n c P)(hq:q<n)(hf:n-q≤m+1):
 Calls Tryz.prog 24 #[.slice (some a) n c,.int .i64 q] w fun e w'=>e = .returned (.int .i64 (jJ P q false))∧Below w.heap.size w w':=by
 have hm:=hns.max;unfold maxLen at hm;have HNS:=hi9 hns;have HLN:=hi9 hns.len;have hql:q<P.length:=by rw [←hns.len];exact hq
 have HX0:=List.getElem?_eq_getElem hql;have hok:=hns.ok _ (List.getElem_mem hql);have IH:=hi9 (fun p w' (hp:q<p) hb=>ih p w' (hns.keep (w':=w') hb) (by omega));have CF:=hi9 (fun p (hp:p<P.length) w'=>zhQ P[p] w' (hns.ok _ (List.getElem_mem hp)));obtain⟨a',ea,d0,d1,d2,d3⟩:=hns.at_ q _ HX0;injection ea with ea;subst ea;have CS:=hi9 (zhQ P[q] w hok);have CP:=hi9 (fun w=>zbm P[q] w);have hpl:=zj5 hok;obtain⟨x,hx⟩:∃x,x=P[q]:=⟨_,rfl⟩
 rw [←hx] at HX0 hok d0 d1 d2 d3 CS CP hpl;have HX:=hi9 HX0;clear hx HX0 hns ih hok;have HXE:=hi9 (show Nd4 w (a.add (q*4)) x from⟨d0,d1,d2,d3⟩);unfold ndV at CS CP CF;have f0:decide (n≤q)=false:=decide_eq_false (by omega);have f1:decide ((q:Int)<0)=false:=decide_eq_false (by omega);by_cases hfx:jz x=true
 ·rw [hfx] at CS;have HH:=hi9 (zmG (f:=false) hfx);have HP0:=hi9 (zeF hfx);clear hfx;go_enter Tryz.func24,Tryz.ntmps24;go_wp2_with fail;refine CS.out.mono ?_;rintro e w1 ⟨rfl,b1⟩;have B1:=hi9 b1;have HXE1:=hi9 (HXE.out.keep b1);obtain⟨e0,e1,e2,e3⟩:=HXE1.out;clear b1 CS HXE d0 d1 d2 d3;have he:(x.op==7)=decide (x.op=7):=rfl;by_cases hh:x.op=7
  ·have HE:=hi9 (show jJ P q false = -1 from zdS HX.out (by rw [HH.out,decide_eq_true hh];rfl));have f2:(x.op==7)=true:=beq_iff_eq.2 hh;clear hh he;go_wp2_with fail;go_ret;exact⟨by rw [HE.out];rfl,B1.out⟩
  ·have HE:=hi9 (show jJ P q false=zai P (zH x).toNat (z6 x) emp (q+1) from zfR HX.out (by rw [HH.out,decide_eq_false hh];rfl));have f2:(x.op==7)=false:=beq_eq_false_iff_ne.2 hh;obtain⟨M,hM⟩:∃M:Nat,zH x=(M:Int):=⟨(zH x).toNat,by have:=HP0.out;omega⟩
   rw [hM] at CP hpl;rw [hM,Int.toNat_natCast] at HE;have B2:=hi9 (B1.out.trans ((zb w1 (.cells #[.int .i64 x.op,.int .i64 x.n,.string x.s,.string x.t] 53)).mono B1.out.size));have V2:=hi9 (zdr w1 x 53);clear hh he hM HH HP0 HX;go_wp2_with fail;go_loopw [1,6,7] (fun u l i wr=>∃(k p:Nat) (last:ByteArray),u = .int .i64 p∧l = .string last∧i = .int .i64 k∧k≤M∧q<p∧p≤n∧Hid (last.size≤maxLen)∧Hid (jJ P q false=zai P (M-k) (z6 x) last p)∧Hid (Below w.heap.size w wr)∧Hid (Vn wr w1.heap.size x)) (fun _ _ i _=>M-(intOf i).toNat)
   case atStart=>exact⟨0,q+1,⟨#[]⟩,by go_num,rfl,rfl,Nat.zero_le _,Nat.lt_succ_self _,hq,hi9 (Nat.zero_le _),HE,B2,V2⟩
   case round =>
    clear HXE1 e0 e1 e2 e3 B1 B2 V2 HE;obtain⟨k,p,last,rfl,rfl,rfl,hk,hqp,hpn,hLS,hF,hB,hV⟩:=hrel;obtain⟨v0,v1,v2,v3⟩:=hV.out;have HWR:=hi9 (block_lt_of_cell v0);go_wp2_with fail;refine(CP.out _).mono ?_;rintro e w3 ⟨rfl,b3⟩;have B3:=bh hB b3;have V3:=hi9 (hV.out.keep b3);clear b3 hB hV v0 v1 v2 v3 HWR;obtain⟨v0,v1,v2,v3⟩:=V3.out;by_cases hlt:k<M
    ·have g1:decide ((k:Int)<(M:Int))=true:=decide_eq_true (by omega);have HF:=hi9 (show jJ P q false=zai P (M-(k+1)+1) (z6 x) last p by rw [hF.out,show M-k=M-(k+1)+1 by omega]);clear hF;by_cases h6:x.op=6
     ·have hr:z6 x=true:=by unfold z6;exact decide_eq_true h6
      rw [hr] at HF;have HRC:=hi9 hr;have g2:(x.op==6)=true:=beq_iff_eq.2 h6;clear hr h6;by_cases hpn2:p<n
      ·have hpl:p<P.length:=by rw [←HLN.out];exact hpn2
       have g3:decide (n≤p)=false:=decide_eq_false (by omega);obtain⟨a',ea,e0,e1,e2,e3⟩:=(HNS.out.keep B3.out).at_ p _ (List.getElem?_eq_getElem hpl);injection ea with ea;subst ea;have HYS:=hi9 (HNS.out.ok _ (List.getElem_mem hpl)).s;have HN:=hi9 (znY (s:=last) (c:=M-(k+1)) (List.getElem?_eq_getElem hpl));have CY:=hi9 (CF.out p hpl);have V2:=hi9 (fun w=>zcT last P[p].s w hLS.out HYS.out);obtain⟨y,hy⟩:∃y,y=P[p]:=⟨_,rfl⟩
       rw [←hy] at e0 e1 e2 e3 HYS HN CY V2;clear hy;have HYE:=hi9 (show Nd4 w3 (a.add (p*4)) y from⟨e0,e1,e2,e3⟩);by_cases h7:y.op=7
       ·have g4:(y.op != 7)=false:=by rw [bne_eq_false_iff_eq];exact h7
        by_cases hfy:jz y=true
        ·rw [hfy] at CY;by_cases hc:0≤jk last y.s
         ·have HBV:=hi9 (show jJ P q false = -1 by rw [HF.out,HN.out.1 (fun⟨_,_,h⟩=>by omega)]);have g5:decide (0≤jk last y.s)=true:=decide_eq_true hc;clear hc hfy h7 HN;generalize jk last y.s=cc at *;go_wp2_with fail;refine(CY.out _).mono ?_;rintro e w4 ⟨rfl,b4⟩;have B4:=bh B3 b4;obtain⟨y0,y1,y2,y3⟩:=(HYE.out.keep b4)
          clear b4 e0 e1 e2 e3 v0 v1 v2 v3 V3;go_wp2_with fail;refine(V2.out _).mono ?_;rintro e w5 ⟨rfl,b5⟩;have B5:=bh B4 b5;go_wp2_with fail;go_ret;exact⟨by rw [HBV.out];rfl,B5.out⟩
         ·have HGV:=hi9 (HF.out.trans (HN.out.2 ⟨h7,hfy,by omega⟩));have g5:decide (0≤jk last y.s)=false:=decide_eq_false hc;clear hc hfy h7 HN HF;generalize jk last y.s=cc at *;go_wp2_with fail;refine(CY.out _).mono ?_;rintro e w4 ⟨rfl,b4⟩;have B4:=bh B3 b4;have Y4:=hi9 (HYE.out.keep b4);obtain⟨y0,y1,y2,y3⟩:=Y4.out;have V4:=hi9 (V3.out.keep b4);clear b4 e0 e1 e2 e3 v0 v1 v2 v3 V3;go_wp2_with fail;refine(V2.out _).mono ?_;rintro e w5 ⟨rfl,b5⟩;have B5:=bh B4 b5;have Y5:=hi9 (Y4.out.keep b5);have V5:=hi9 (V4.out.keep b5);clear b5 Y4 V4 y0 y1 y2 y3;obtain⟨y0,y1,y2,y3⟩:=Y5.out;obtain⟨v0,v1,v2,v3⟩:=V5.out;go_wp2_with fail;refine(IH.out (p+1) _ (by omega) B5.out).mono ?_;rintro e w6 ⟨rfl,b6⟩;have B6:=bh B5 b6;have V6:=hi9 (V5.out.keep b6);clear b6 Y5 V5 y0 y1 y2 y3 v0 v1 v2 v3;by_cases hk0:0≤jJ P (p+1) false
          ·obtain⟨e',he,hep,hel⟩:=zeQ hk0;have HF2:=hi9 (show jJ P q false=zai P (M-(k+1)) (z6 x) y.s e' by
            have h1:=HGV.out
            rw [if_pos hk0,he,Int.toNat_natCast] at h1
            rw [h1,HRC.out])
           have hen:e'≤n:=by rw [HLN.out];exact hel
           have g6:decide ((e':Int)<0)=false:=decide_eq_false (by omega);rw [he];clear hk0 he hel;go_wp2_with fail;go_roundw
           case rel=>exact⟨k+1,e',y.s,rfl,rfl,by go_num,hlt,by omega,hen,HYS,HF2,B6,V6⟩
           case measure=>simp [intOf];omega
          ·have HBV:=hi9 (show jJ P q false = -1 by rw [HGV.out,if_neg hk0]);rw [zdW hk0];clear hk0;go_wp2_with fail;go_ret;exact⟨by rw [HBV.out];rfl,B6.out⟩
        ·have HBV:=hi9 (show jJ P q false = -1 by rw [HF.out,HN.out.1 (fun⟨_,h,_⟩=>hfy h)]);rw [show jz y=false by simpa using hfy] at CY;clear hfy h7 HN;go_wp2_with fail;refine(CY.out _).mono ?_;rintro e w4 ⟨rfl,b4⟩;have B4:=bh B3 b4;clear b4;go_wp2_with fail;go_ret;exact⟨by rw [HBV.out];rfl,B4.out⟩
       ·have HBV:=hi9 (show jJ P q false = -1 by rw [HF.out,HN.out.1 (fun⟨h,_,_⟩=>h7 h)]);have g4:(y.op != 7)=true:=by rw [bne_iff_ne];exact h7
        clear h7 HN;go_wp2_with fail;go_ret;exact⟨by rw [HBV.out];rfl,B3.out⟩
      ·have HBV:=hi9 (show jJ P q false = -1 by rw [HF.out,zcf (by rw [←HLN.out];omega)]);have g3:decide (n≤p)=true:=decide_eq_true (by omega);go_wp2_with fail;go_ret;exact⟨by rw [HBV.out];rfl,B3.out⟩
     ·have hr:z6 x=false:=by unfold z6;exact decide_eq_false h6
      have HRC:=hi9 hr;have g2:(x.op==6)=false:=beq_eq_false_iff_ne.2 h6;have HGV:=hi9 (HF.out.trans ((congrArg (fun b=>zai P (M-(k+1)+1) b last p) hr).trans zgC));clear hr HF h6;go_wp2_with fail;refine(IH.out p _ hqp B3.out).mono ?_;rintro e w6 ⟨rfl,b6⟩;have B6:=bh B3 b6;have V6:=hi9 (V3.out.keep b6);clear b6 V3 v0 v1 v2 v3;by_cases hk0:0≤jJ P p false
      ·obtain⟨e',he,hep,hel⟩:=zeQ hk0;have HF2:=hi9 (show jJ P q false=zai P (M-(k+1)) (z6 x) last e' by
        have h1:=HGV.out
        rw [if_pos hk0,he,Int.toNat_natCast] at h1
        rw [h1,HRC.out])
       have hen:e'≤n:=by rw [HLN.out];exact hel
       have g6:decide ((e':Int)<0)=false:=decide_eq_false (by omega);rw [he];clear hk0 he hel;go_wp2_with fail;go_roundw
       case rel=>exact⟨k+1,e',last,rfl,rfl,by go_num,hlt,by omega,hen,hLS,HF2,B6,V6⟩
       case measure=>simp [intOf];omega
      ·have HBV:=hi9 (show jJ P q false = -1 by rw [HGV.out,if_neg hk0]);rw [zdW hk0];clear hk0;go_wp2_with fail;go_ret;exact⟨by rw [HBV.out];rfl,B6.out⟩
    ·have HE2:=hi9 (show jJ P q false=(p:Int) by
      rw [hF.out,show M-k=0 by omega]
      exact zez (by rw [←HLN.out];exact hpn))
     have g1:decide ((k:Int)<(M:Int))=false:=decide_eq_false (by omega)
     clear hF
     go_wp2_with fail
     go_ret
     exact⟨by rw [HE2.out];rfl,B3.out⟩
 ·have hfx:jz x=false:=by simpa using hfx
  rw [hfx] at CS;have HE:=hi9 (show jJ P q false = -1 from zdS HX.out (zmw hfx));clear hfx;go_enter Tryz.func24,Tryz.ntmps24;go_wp2_with fail;refine CS.out.mono ?_;rintro e w1 ⟨rfl,b1⟩;have B1:=hi9 b1;clear b1 CS HXE d0 d1 d2 d3;go_wp2_with fail;go_ret;exact⟨by rw [HE.out];rfl,B1.out⟩
theorem zdN(P:List Nd)(A:Option Addr)(n c:Nat):∀m,RbC P A n c m
 | 0=>fun p w h hm=>zsl P A n c p w h (by omega)
 | m+1=>fun p w h hm=>by
  by_cases hp:p<n
  ·rcases A with _|a
   ·have:=h.at_ p _ (List.getElem?_eq_getElem (by rw [←h.len];exact hp));obtain⟨a,e,-⟩:=this;cases e
   ·exact ztw P m a n c p w (zdN P (some a) n c m) h hp hm
  ·exact zsl P A n c p w h (by omega)
theorem zp6(A:Option Addr)(n c:Nat)(P:List Nd)(w:World)(h:Ns w A n c P):
 Calls Tryz.prog 10 #[.slice A n c] w fun e w'=>e = .returned (.int .i64 (jL P))∧Below w.heap.size w w':=by
 have hl:=h.len;by_cases h200:200<n
 ·have HR:=hi9 (show jL P=4 by unfold jL;rw [if_pos (by omega)]);have f0:decide ((200:Int)<(n:Int))=true:=decide_eq_true (by omega);clear h hl;go_enter Tryz.func10,Tryz.ntmps10;go_wp2_with fail;go_ret;exact⟨by rw [HR.out];rfl,Below.refl _ _⟩
 ·have C:=hi9 (zdN P A n c n 0 w h (by omega));have f0:decide ((200:Int)<(n:Int))=false:=decide_eq_false (by omega);have HR:=hi9 (show jL P=if(zfc P).isSome then 0 else 1 by unfold jL;rw [if_neg (by omega)]);have HA:=hi9 (zlE (t:=P));rw [←hl] at HA;clear h hl h200;generalize jJ P 0 false=r at *;go_enter Tryz.func10,Tryz.ntmps10;go_wp2_with fail;refine C.out.mono ?_;rintro e w1 ⟨rfl,b1⟩;have B1:=hi9 b1;clear b1 C;by_cases hr:r=(n:Int)
  ·have HE:=hi9 (show jL P=0 by rw [HR.out,if_pos (HA.out.1 hr)]);have f1:(r !=(n:Int))=false:=by rw [bne_eq_false_iff_eq];exact hr
   clear hr;go_wp2_with fail;go_ret;exact⟨by rw [HE.out];rfl,B1.out⟩
  ·have HE:=hi9 (show jL P=1 by rw [HR.out,if_neg (fun q=>hr (HA.out.2 q))]);have f1:(r !=(n:Int))=true:=by rw [bne_iff_ne];exact hr
   clear hr;go_wp2_with fail;go_ret;exact⟨by rw [HE.out];rfl,B1.out⟩
def zeB(w:World)(A:Option Addr)(E:List Nat):Prop:=∀(k e:Nat),E[k]?=some e→∃a,A=some a∧w.cell? (a.add k)=some (.int .i64 (e:Int))
theorem zeB.keep{w w':World}{A:Option Addr}{E:List Nat}(h:zeB w A E)(hb:Below w.heap.size w w'):zeB w' A E:=fun k e he=>by
 obtain⟨a,q1,q2⟩:=h k e he;exact⟨a,q1,za hb q2⟩
def zdX(E:List Nat):List Value:=E.map fun e:Nat=>Value.int .i64 (e:Int)
theorem zl8{w:World}{B:Nat}{v:Value}{E:List Nat}(h:w.ownsRow B 3 1 v E.length (zdX E)):∃A c,v = .slice A E.length c∧E.length≤c∧zeB w A E:=by
 rcases h.2 with ⟨rfl,h0⟩|⟨g,cap,cur,rfl,_,_,hc,_⟩
 ·have:E = []:=List.eq_nil_of_length_eq_zero h0;subst this;exact⟨none,0,rfl,Nat.le_refl _,fun k x hx=>by simp at hx⟩
 ·refine⟨some ⟨g,0,none⟩,cap,rfl,hc,fun k x hx=>⟨_,rfl,h.cells (g:=g) rfl _ _ ?_⟩⟩;unfold zdX;rw [List.getElem?_map,hx];rfl
theorem zuv:(Tryz.prog.info? 3).map (fun i=>(i.zero,i.size,i.bytes))=some (some (.int .i64 0),1,8):=by kernel_rfl
theorem ziR{w1:World}{B:Nat}{v':Value}{E:List Nat}{x:Nat}(h:w1.ownsRow B 3 1 v' (E.length+1) (zdX E ++ [.int .i64 (x:Int)])):
 w1.ownsRow B 3 1 v' (E ++ [x]).length (zdX (E ++ [x])):=by
 rw [show zdX (E ++ [x])=zdX E ++ [.int .i64 (x:Int)] by simp [zdX],List.length_append];exact h
theorem zkA(n:Int):∀u∈ [Value.int .i64 n],u.oneCell'=true:=by
 intro u hu;simp only [List.mem_cons,List.not_mem_nil,or_false] at hu;subst hu;rfl
theorem zgx(A:Option Addr)(n c:Nat)(P:List Nd)(p:Nat)(f:Bool)(x:Ex)(w:World)(h:Ns w A n c P)(hn:n≤4000)(hx:XAt P p f x):
 Calls Tryz.prog 27 #[.slice A n c,.int .i64 p] w fun e w'=>∃A' c',e = .returned (.slice A' (x.parts.len+1) c')∧x.parts.len+1≤c'∧zeB w' A' (za6 (z6 x.head) (p+1) x.parts)∧Below w.heap.size w w':=by
 obtain⟨i0,hi,hz0,hz1,hz2⟩:=info_parts zuv;obtain⟨a,rfl,d0,d1,d2,d3⟩:=h.at_ p _ hx.head;have HLn:=hi9 h.len;have HXL:=hi9 hx.le;have hpn:p<n:=by rw [h.len];exact(List.getElem?_eq_some_iff.1 hx.head).1
 have HXS:=hi9 hx.parts;have hpl:zH x.head=(x.parts.len:Int):=by
  obtain⟨y,ps⟩:=x;exact hx.valid.2.1.symm
 have hll:x.parts.len+p+1≤n:=by
  have h1:=hx.le;have h2:=za2 x.parts;have h3:x.flat.length=x.parts.flat.length+1:=by cases x;simp [Ex.flat,Ex.parts]
  rw [h.len];omega
 have CP:=hi9 (fun w=>zbm x.head w);rw [hpl] at CP;unfold ndV at CP;have CB:=hi9 (fun(q:Nat) w' (hb:Below w.heap.size w w')=>zdN P (some a) n c n q w' (h.keep hb) (Nat.sub_le _ _));have HR:=hi9 (show∀b:Bool,z6 x.head=b→(x.head.op==6)=b from fun b hb=>hb);generalize x.parts=ps at *;generalize x.head=y at *;clear h hx hpl;have B0:=hi9 (zb w (.cells #[.int .i64 y.op,.int .i64 y.n,.string y.s,.string y.t] 53));have V0:=hi9 (zdr w y 53);have O0:=World.ownsRow_lit (e:=3) (size:=1) (base:=w.heap.size+1) (w.alloc (.cells #[.int .i64 y.op,.int .i64 y.n,.string y.s,.string y.t] 53)) #[] 0 (by simp) (Nat.zero_le _) rfl;rw [show(w.alloc (.cells #[.int .i64 y.op,.int .i64 y.n,.string y.s,.string y.t] 53)).heap.size=w.heap.size+1 by simp] at O0;have O1:=hi9 O0;have B1:=hi9 (B0.out.alloc (by simp) (.cells #[] 3));have V1:=hi9 (V0.out.keep (zb _ (.cells #[] 3)));clear O0 B0 V0;go_enter Tryz.func27,Tryz.ntmps27;go_wp2_with fail;go_loopw [1,6,7] (fun u v i wr=>∃(k q:Nat) (E:List Nat) (R:Exs),u = .int .i64 q∧i = .int .i64 k∧k+R.len=ps.len∧E.length=k∧q≤n∧Hid (za6 (z6 y) (p+1) ps=E ++ za6 (z6 y) q R)∧Hid (zcS P q (z6 y) R)∧Hid (wr.ownsRow (w.heap.size+1) 3 1 v E.length (zdX E))∧Hid (Below w.heap.size w wr)∧Hid (Vn wr w.heap.size y)) (fun _ _ i _=>ps.len-(intOf i).toNat)
 case atStart=>exact⟨0,p+1,[],ps,by go_num,rfl,by omega,rfl,by omega,hi9 rfl,HXS,O1,B1,V1⟩
 case round =>
  clear O1 B1 V1 d0 d1 d2 d3;obtain⟨k,q,E,R,rfl,rfl,hk,hE,hq,hP,hXs,hown,hB,hV⟩:=hrel;obtain⟨v0,v1,v2,v3⟩:=hV.out;go_wp2_with fail;refine(CP.out _).mono ?_;rintro e w2 ⟨rfl,b2⟩;have B2:=bh hB b2;have V2:=hi9 (hV.out.keep b2);have HSZ:=hi9 (show w.heap.size<wr.heap.size from block_lt_of_cell v0);have O2:=hi9 (jS hown.out b2);clear b2 hB hV hown v0 v1 v2 v3;obtain⟨v0,v1,v2,v3⟩:=V2.out;by_cases hlt:k<ps.len
  ·obtain⟨x1,r,rfl⟩:∃x1 r,R = .cons x1 r:=by
    cases R with
    | nil=>simp [Exs.len] at hk;omega
    | cons x1 r=>exact⟨x1,r,rfl⟩
   have hk2:k+1+r.len=ps.len:=by simp only [Exs.len] at hk;omega
   have HSZ2:w.heap.size+1≤w2.heap.size:=Nat.succ_le_of_lt (block_lt_of_cell v0)
   clear hk
   rcases hr:z6 y with _|_
   ·have g2:(y.op==6)=false:=HR.out _ hr
    rw [hr] at hP hXs;obtain⟨h1,h2⟩:=hXs.out.head;have hze:=h1.end_;have hzle:=h1.le;rw [←HLn.out] at hzle;have HE:=hi9 hze;have HX2:=hi9 (show zcS P (q+x1.flat.length) (z6 y) r by rw [hr];exact h2);have HP2:=hi9 (show za6 (z6 y) (p+1) ps=(E ++ [q])++ za6 (z6 y) (q+x1.flat.length) r by rw [hr,hP.out];simp [za6]);generalize x1.flat.length=ln at *;clear hP hXs h1 h2 hze hr;go_wp2_with (at_builtin;refine wpList_append_own _ rfl _ _ 65 rfl (w.heap.size+1) 3 i0 _ 1 8 Tryz.underlying65 hi hz0 hz1 hz2 rfl (by decide) _ E.length (zdX E) rfl (O2.out.alloc _) ⟨_,0,none⟩ 1 1 [.int .i64 ((q:Nat):Int)] rfl rfl (jW _ _ _) (zkA _) (by unfold maxLen;omega) (by omega) ?c5 ?_)
    case c5=>simp;omega
    intro v1' w3 hown1 hgrow1 _;have b3:Below (w.heap.size+1) w2 w3:=((Below.refl (w.heap.size+1) w2).alloc HSZ2 _).grown hgrow1 (by simp;omega) (zW O2.out);have B3:=hi9 (show Below w.heap.size w w3 from(B2.out.alloc B2.out.size _).grown hgrow1 (by simp;have:=B2.out.size;omega) (fun g hg=>Nat.le_of_succ_le (zW O2.out g hg)));have O3:=hi9 (ziR (E:=E) (x:=q) (by rw [hE];exact hown1));have V3:=hi9 (show Vn w3 w.heap.size y from⟨(b3.cell (p:=⟨w.heap.size,0,none⟩) (Nat.lt_succ_self _)).trans v0,(b3.cell (p:=⟨w.heap.size,1,none⟩) (Nat.lt_succ_self _)).trans v1,(b3.cell (p:=⟨w.heap.size,2,none⟩) (Nat.lt_succ_self _)).trans v2,(b3.cell (p:=⟨w.heap.size,3,none⟩) (Nat.lt_succ_self _)).trans v3⟩);clear b3 hown1 hgrow1 B2 O2 V2 v0 v1 v2 v3 HSZ HSZ2;have CK:=hi9 (CB.out q w3 B3.out);rw [HE.out] at CK;go_wp2_with fail;refine CK.out.mono ?_;rintro e w4 ⟨rfl,b4⟩;have B4:=bh B3 b4;have V4:=hi9 (V3.out.keep b4);have O4:=hi9 (jS O3.out b4);clear b4 B3 V3 O3 HE CK;go_wp2_with fail;go_roundw
    case rel=>exact⟨k+1,q+ln,E ++ [q],r,rfl,by go_num,hk2,by simp;omega,by omega,HP2,HX2,O4,B4,V4⟩
    case measure=>simp [intOf];omega
   ·have g2:(y.op==6)=true:=HR.out _ hr
    rw [hr] at hP hXs;obtain⟨h1,h2⟩:=hXs.out.head;obtain⟨n1,z,-,-,-,hz,hzl⟩:=h1.field;have hze:=hz.end_;have hzle:=hz.le;rw [show q+1+z.flat.length=q+x1.flat.length by omega] at hze hzle;rw [←HLn.out] at hzle;have HE:=hi9 hze;have HX2:=hi9 (show zcS P (q+x1.flat.length) (z6 y) r by rw [hr];exact h2);have HP2:=hi9 (show za6 (z6 y) (p+1) ps=(E ++ [(q+1)])++ za6 (z6 y) (q+x1.flat.length) r by rw [hr,hP.out];simp [za6]);generalize x1.flat.length=ln at *;clear hP hXs h1 h2 hze hz hzl hr;go_wp2_with (at_builtin;refine wpList_append_own _ rfl _ _ 65 rfl (w.heap.size+1) 3 i0 _ 1 8 Tryz.underlying65 hi hz0 hz1 hz2 rfl (by decide) _ E.length (zdX E) rfl (O2.out.alloc _) ⟨_,0,none⟩ 1 1 [.int .i64 (((q+1):Nat):Int)] rfl rfl (jW _ _ _) (zkA _) (by unfold maxLen;omega) (by omega) ?c5 ?_)
    case c5=>simp;omega
    intro v1' w3 hown1 hgrow1 _;have b3:Below (w.heap.size+1) w2 w3:=((Below.refl (w.heap.size+1) w2).alloc HSZ2 _).grown hgrow1 (by simp;omega) (zW O2.out);have B3:=hi9 (show Below w.heap.size w w3 from(B2.out.alloc B2.out.size _).grown hgrow1 (by simp;have:=B2.out.size;omega) (fun g hg=>Nat.le_of_succ_le (zW O2.out g hg)));have O3:=hi9 (ziR (E:=E) (x:=(q+1)) (by rw [hE];exact hown1));have V3:=hi9 (show Vn w3 w.heap.size y from⟨(b3.cell (p:=⟨w.heap.size,0,none⟩) (Nat.lt_succ_self _)).trans v0,(b3.cell (p:=⟨w.heap.size,1,none⟩) (Nat.lt_succ_self _)).trans v1,(b3.cell (p:=⟨w.heap.size,2,none⟩) (Nat.lt_succ_self _)).trans v2,(b3.cell (p:=⟨w.heap.size,3,none⟩) (Nat.lt_succ_self _)).trans v3⟩);clear b3 hown1 hgrow1 B2 O2 V2 v0 v1 v2 v3 HSZ HSZ2;have CK:=hi9 (CB.out (q+1) w3 B3.out);rw [HE.out] at CK;go_wp2_with fail;refine CK.out.mono ?_;rintro e w4 ⟨rfl,b4⟩;have B4:=bh B3 b4;have V4:=hi9 (V3.out.keep b4);have O4:=hi9 (jS O3.out b4);clear b4 B3 V3 O3 HE CK;go_wp2_with fail;go_roundw
    case rel=>exact⟨k+1,q+ln,E ++ [(q+1)],r,rfl,by go_num,hk2,by simp;omega,by omega,HP2,HX2,O4,B4,V4⟩
    case measure=>simp [intOf];omega
  ·obtain rfl:R = .nil:=by
    cases R with
    | nil=>rfl
    | cons x1 r=>simp [Exs.len] at hk;omega
   have hkf:k=ps.len:=by omega
   have HPE:=hi9 (show za6 (z6 y) (p+1) ps=E ++ [q] by rw [hP.out];simp [za6])
   have HSZ2:w.heap.size+1≤w2.heap.size:=Nat.succ_le_of_lt (block_lt_of_cell v0)
   clear hP hXs hk
   go_wp2_with (at_builtin;refine wpList_append_own _ rfl _ _ 65 rfl (w.heap.size+1) 3 i0 _ 1 8 Tryz.underlying65 hi hz0 hz1 hz2 rfl (by decide) _ E.length (zdX E) rfl (O2.out.alloc _) ⟨_,0,none⟩ 1 1 [.int .i64 (q:Int)] rfl rfl (jW _ _ _) (zkA _) (by unfold maxLen;omega) (by omega) ?c5 ?_)
   case c5=>simp;omega
   intro v1' w3 hown1 hgrow1 _
   have B3:=hi9 (show Below w.heap.size w w3 from(B2.out.alloc B2.out.size _).grown hgrow1 (by simp;have:=B2.out.size;omega) (fun g hg=>Nat.le_of_succ_le (zW O2.out g hg)))
   have O3:=ziR (E:=E) (x:=q) (by rw [hE,hkf];exact hown1)
   obtain⟨A',c',hv',hc',hint⟩:=zl8 O3
   subst hv'
   have HI:=hi9 hint
   have hEl:(E ++ [q]).length=ps.len+1:=by simp;omega
   rw [hEl] at hc' ⊢
   clear hint hown1 hgrow1 O3 hlt
   go_wp2_with fail
   go_ret
   exact⟨A',c',rfl,hc',by rw [HPE.out];exact HI.out,B3.out⟩
structure Vqi(w:World)(b:Nat)(q:Rq)(p:Addr)(i:Int):Prop where
 q:Vq w b q
 i:w.cell? p=some (.int .i64 i)
theorem Vqi.keep{w w':World}{b:Nat}{q:Rq}{p:Addr}{i:Int}(h:Vqi w b q p i)(hb:Below w.heap.size w w'):Vqi w' b q p i:=⟨h.q.keep hb,za hb h.i⟩
theorem Vqi.but{w w':World}{b:Nat}{q:Rq}{p:Addr}{i:Int}{g:Nat}(h:Vqi w b q p i)(hg:w.grownBy w' (some g))(h1:b≠g)(h2:p.block≠g):Vqi w' b q p i:=by
 have e1:some b≠some g:=fun e=>by injection e with e;exact h1 e
 have e2:some p.block≠some g:=fun e=>by injection e with e;exact h2 e
 exact⟨⟨hg.cell h.q.c0 e1,hg.cell h.q.c1 e1,hg.cell h.q.c2 e1,hg.cell h.q.c3 e1,hg.cell h.q.c4 e1,hg.cell h.q.c5 e1,hg.cell h.q.c6 e1⟩,hg.cell h.i e2⟩
theorem jg{w:World}{b:Nat}{q:Rq}{p:Addr}{i:Int}(h:Vqi w b q p i):w.cell? ⟨b,0,none⟩=some (.string q.who.1)∧w.cell? ⟨b,1,none⟩=some (.string q.who.2)∧w.cell? ⟨b,2,none⟩=some (.string q.act.1)∧w.cell? ⟨b,3,none⟩=some (.string q.act.2)∧w.cell? ⟨b,4,none⟩=some (.string q.what.1)∧w.cell? ⟨b,5,none⟩=some (.string q.what.2)∧w.cell? ⟨b,6,none⟩=some (.slice q.NA q.nn q.nc)∧w.cell? p=some (.int .i64 i):=
 ⟨h.q.c0,h.q.c1,h.q.c2,h.q.c3,h.q.c4,h.q.c5,h.q.c6,h.i⟩
theorem jN(w:World)(g:Nat)(x y:Value):w.grownBy ((w.setCell ⟨g,0,none⟩ x).setCell ⟨g,1,none⟩ y) (some g):=by
 have h1:=zJ w ⟨g,0,none⟩ x;have h2:=zJ (w.setCell ⟨g,0,none⟩ x) ⟨g,1,none⟩ y;exact⟨h2.os.trans h1.os,h2.tape.trans h1.tape,h2.output.trans h1.output,Nat.le_trans h1.size h2.size,fun i hi hn=>(h2.block i (Nat.lt_of_lt_of_le hi h1.size) hn).trans (h1.block i hi hn)⟩
theorem zaN{w w':World}{B g:Nat}(h:Below B w w')(hg:B≤g)(x y:Value):Below B w ((w'.setCell ⟨g,0,none⟩ x).setCell ⟨g,1,none⟩ y):=(h.setCell (p:=⟨g,0,none⟩) hg x).setCell (p:=⟨g,1,none⟩) hg y
def zt8:Res→Res
 | .error u => .error u
 | .ok U=>if zf U=1 then .ok U else .error 2
theorem zt4:∀ {r:Res},zZ r≠0→zt8 r=r
 | .error _,_=>rfl
 | .ok _,h=>absurd rfl h
theorem zit(b:Bool):(zf (zt b)==1)=true:=by cases b <;> rfl
structure zu7(o:Bool)(ra rb rr:Res):Prop where
 err:zZ ra≠0→rr=ra
 val:zZ ra=0→∃V,ra = .ok V∧zc V=0
 no:∀V,ra = .ok V→zf V≠1→rr = .error 2
 fin:ra = .ok (zt o)→rr = .ok (zt o)
 sec:ra = .ok (zt (!o))→rr=zt8 rb
 valb:zZ rb=0→∃V,rb = .ok V∧zc V=0
theorem zfT{σ:Env}(h:zcj σ)(x:Ex)(hx:x.valid false)(z:zZ (evX σ x)=0):∃V,evX σ x = .ok V∧zc V=0:=by
 rcases q:evX σ x with u|V
 ·rw [q] at z;exact absurd (q.trans (congrArg Except.error z)) (zdT x hx)
 ·exact⟨V,rfl,zdU h x false hx V q⟩
theorem zlV{σ:Env}(h:zcj σ)(a b:Ex)(ha:a.valid false)(hb:b.valid false)(o:Bool):zu7 o (evX σ a) (evX σ b) (ja σ o (.cons a (.cons b .nil))):=by
 have hL:zaz σ (.cons b .nil)=zt8 (evX σ b):=by rw [zaz];cases evX σ b <;> rfl
 refine⟨fun z=>?_,zfT h a ha,fun V e g=>?_,fun e=>?_,fun e=>?_,zfT h b hb⟩
 ·rcases q:evX σ a with u|V
  ·rw [ja,q]
  ·rw [q] at z;exact absurd rfl z
 ·rw [ja,e];exact if_neg g
 ·rw [ja,e];cases o <;> rfl
 ·rw [ja,e];cases o <;> exact hL
theorem zl2{w:World}{A:Option Addr}{n c:Nat}{b:Bool}(h:Ns w A n c (zt b)):∃a,A=some a∧0<n∧(0:Int)<(n:Int)∧w.cell? ⟨a.block,a.off+1,none⟩=some (.int .i64 (if b then 1 else 0)):=by
 obtain⟨a,e,hn,⟨-,d1,-,-⟩,-,-⟩:=jm h (by cases b <;> decide);exact⟨a,e,hn,by omega,d1⟩
theorem zpB(W:World)(k:Cx)(N:Nat)(hW:zf2 W k N)(o:Bool)(a b:Ex)(a':Addr)(m c' p0 p1:Nat)(w:World)(h:zdK w k)(hb:Below W.heap.size W w)(hm:2≤m)(hm2:m≤4000)(q0:w.cell? a'=some (.int .i64 (p0:Int)))(q1:w.cell? ⟨a'.block,a'.off+1,none⟩=some (.int .i64 (p1:Int)))(ha:XAt k.P p0 false a)(hb2:XAt k.P p1 false b)(la:a.flat.length≤N)(lb:b.flat.length≤N):
 Calls Tryz.prog 28 #[.slice k.EA k.en k.ec,k.q.v,.slice k.A k.n k.c,.int .i64 (if o then 12 else 11),.slice (some a') m c'] w (zD (fun b=>b<W.heap.size) w (ja k.env o (.cons a (.cons b .nil)))):=by
 have HL:=hi9 (zlV h.ok a b ha.valid hb2.valid o);obtain⟨op,hop⟩:∃op:Int,op=if o then 12 else 11:=⟨_,rfl⟩
 have g13:(op==13)=false:=by subst hop;cases o <;> rfl
 have g12:(op==12)=o:=by subst hop;cases o <;> rfl
 rw [←hop];clear hop;have KA:=hi9 (fun w' (hb':Below w.heap.size w w')=>hW a p0 w' (h.keep hb') (hb.trans (hb'.mono hb.size)) ha la);have KB2:=hi9 (fun w' (hb':Below w.heap.size w w')=>hW b p1 w' (h.keep hb') (hb.trans (hb'.mono hb.size)) hb2 lb);have B1':Below w.heap.size w (w.alloc (.cells #[.string k.q.who.1,.string k.q.who.2,.string k.q.act.1,.string k.q.act.2,.string k.q.what.1,.string k.q.what.2,.slice k.q.NA k.q.nn k.q.nc] 27)):=zb w _;have B0:=hi9 (show Below w.heap.size w ((w.alloc (.cells #[.string k.q.who.1,.string k.q.who.2,.string k.q.act.1,.string k.q.act.2,.string k.q.what.1,.string k.q.what.2,.slice k.q.NA k.q.nn k.q.nc] 27)).alloc (.cells #[.slice none 0 0,.int .i64 0] 30)) from B1'.trans ((zb (w.alloc (.cells #[.string k.q.who.1,.string k.q.who.2,.string k.q.act.1,.string k.q.act.2,.string k.q.what.1,.string k.q.what.2,.slice k.q.NA k.q.nn k.q.nc] 27)) _).mono B1'.size));have W0:=(zb1 w k.q 27).keep (zb (w.alloc (.cells #[.string k.q.who.1,.string k.q.who.2,.string k.q.act.1,.string k.q.act.2,.string k.q.what.1,.string k.q.what.2,.slice k.q.NA k.q.nn k.q.nc] 27)) (.cells #[.slice none 0 0,.int .i64 0] 30));have R0:=hi9 (zcC w (.cells #[.string k.q.who.1,.string k.q.who.2,.string k.q.act.1,.string k.q.act.2,.string k.q.what.1,.string k.q.what.2,.slice k.q.NA k.q.nn k.q.nc] 27) 30);have V0:=hi9 (⟨W0,za B0.out q0⟩:Vqi ((w.alloc (.cells #[.string k.q.who.1,.string k.q.who.2,.string k.q.act.1,.string k.q.act.2,.string k.q.what.1,.string k.q.what.2,.slice k.q.NA k.q.nn k.q.nc] 27)).alloc (.cells #[.slice none 0 0,.int .i64 0] 30)) w.heap.size k.q a' (p0:Int));have HPB:=hi9 (block_lt_of_cell q0);have HP1:=hi9 (za B0.out q1);have HSW:=hi9 hb.size;have hi0:(0:Int)<(m:Int):=by omega
 have hi1:(1:Int)<(m:Int):=by omega
 have hi2:0<m:=by omega
 unfold Rq.v at KA KB2 ⊢;unfold zD at KA KB2;clear h hb B1' q0 q1 W0;generalize ja k.env o (.cons a (.cons b .nil))=rr at *;generalize evX k.env a=ra at *;generalize evX k.env b=rb at *;clear ha hb2 la lb;go_enter Tryz.func28,Tryz.ntmps28;go_wp2_with fail;obtain⟨w0,hw0⟩:∃w0,((w.alloc (.cells #[.string k.q.who.1,.string k.q.who.2,.string k.q.act.1,.string k.q.act.2,.string k.q.what.1,.string k.q.what.2,.slice k.q.NA k.q.nn k.q.nc] 27)).alloc (.cells #[.slice none 0 0,.int .i64 0] 30))=w0:=⟨_,rfl⟩
 rw [hw0] at B0 V0 R0 HP1 ⊢;clear hw0;have U0:=hi9 (⟨V0.out.q,HP1.out⟩:Vqi w0 w.heap.size k.q ⟨a'.block,a'.off+1,none⟩ (p1:Int));have bd:=zG w0;have bx:RowKit.Below w0.heap.size w0 (w0.alloc (.cells #[.slice none 0 0,.int .i64 0] 30)).drew:=(zb w0 _).trans ((zG _).mono (zb w0 _).size);have Ud:=hi9 (U0.out.keep bd);have Ux:=hi9 (U0.out.keep bx);have hn_U:((⟨a'.block,a'.off+1,none⟩:Addr):Addr).block≠w0.heap.size:=Nat.ne_of_lt (block_lt_of_cell U0.out.i);have Vd:=hi9 (V0.out.keep bd);have Vx:=hi9 (V0.out.keep bx);have Bd:=bh B0 bd;have Bx:=bh B0 bx;have Qd:=hi9 bd;have Qx:=hi9 bx;have Rd:=hi9 (R0.out.keep bd);have Rx:=hi9 (R0.out.keep bx);have Cx:=hi9 ((j8 w0 (.slice none 0 0) (.int .i64 0) 30).keep (zG _));have K0:=hi9 (KA.out w0.drew Bd.out);have K1:=hi9 (KA.out (w0.alloc (.cells #[.slice none 0 0,.int .i64 0] 30)).drew Bx.out);have hzx:(w0.alloc (.cells #[.slice none 0 0,.int .i64 0] 30)).drew.heap.size=w0.heap.size+1:=by simp [go_sem]
 have HZX:=hi9 hzx;have hrb:w.heap.size+1<w0.heap.size:=block_lt_of_cell R0.out.c0;have hpb:(a':Addr).block<w0.heap.size:=block_lt_of_cell V0.out.i;have HRB0:=hi9 hrb;have hn1:w.heap.size≠w0.heap.size:=by omega
 have hn2:(a':Addr).block≠w0.heap.size:=Nat.ne_of_lt hpb;clear bd bx hzx;go_region_held3 (fun w':World=>w'.cell? ⟨w.heap.size,0,none⟩=some (.string k.q.who.1)∧w'.cell? ⟨w.heap.size,1,none⟩=some (.string k.q.who.2)∧w'.cell? ⟨w.heap.size,2,none⟩=some (.string k.q.act.1)∧w'.cell? ⟨w.heap.size,3,none⟩=some (.string k.q.act.2)∧w'.cell? ⟨w.heap.size,4,none⟩=some (.string k.q.what.1)∧w'.cell? ⟨w.heap.size,5,none⟩=some (.string k.q.what.2)∧w'.cell? ⟨w.heap.size,6,none⟩=some (.slice k.q.NA k.q.nn k.q.nc)∧w'.cell? a'=some (.int .i64 ((p0:Int):Int))) (first|(with_reducible exact jg Vs.out)|(with_reducible exact jg Vz.out)|(with_reducible exact jg Vy.out)|(with_reducible exact jg V1.out)|(with_reducible exact jg Vx.out)|(with_reducible exact jg Vd.out)|(with_reducible exact jg V0.out)) (first
  |(go_at_call 12;(with_reducible refine K1.out.mono ?_);rintro e w1 ⟨A2,n2,c2,rfl,hN,hf,b1⟩;have N1:=hi9 hN;have F1:=hi9 hf;have B1:=bh Bx b1;have Q1:=bh Qx b1;have V1:=hi9 (Vx.out.keep b1);have R1:=hi9 (Rx.out.keep b1);have C1:=hi9 (Cx.out.keep b1);have Vs:=hi9 (V1.out.but (jN w1 w0.heap.size (.slice A2 n2 c2) (.int .i64 (zZ ra))) hn1 hn2);obtain⟨y0,y1,y2,y3⟩:=C1.out;have U1:=hi9 (Ux.out.keep b1);have Us:=hi9 (U1.out.but (jN w1 w0.heap.size (.slice A2 n2 c2) (.int .i64 (zZ ra))) hn1 hn_U))
  |(go_at_call 12;(with_reducible refine K0.out.mono ?_);rintro e w1 ⟨A2,n2,c2,rfl,hN,hf,b1⟩;have N1:=hi9 hN;have F1:=hi9 hf;have B1:=bh Bd b1;have Q1:=bh Qd b1;have V1:=hi9 (Vd.out.keep b1);have R1:=hi9 (Rd.out.keep b1);have Vy:=hi9 (V1.out.keep (zb w1 (.cells #[.slice none 0 0,.int .i64 0] 30)));have Vz:=hi9 (V1.out.keep (zb w1 (.cells #[.slice A2 n2 c2,.int .i64 (zZ ra)] 30)));have U1:=hi9 (Ud.out.keep b1)))
 focus
  have bz:=zb w1 (.cells #[.slice A2 n2 c2,.int .i64 (zZ ra)] 30);have B2:=bh B1 bz;have V2:=hi9 (V1.out.keep bz);have R2:=hi9 (R1.out.keep bz);have C2:=hi9 (j8 w1 (.slice A2 n2 c2) (.int .i64 (zZ ra)) 30);have N2:=hi9 (N1.out.keep bz);have hwj:w0.heap.size≤w1.heap.size:=Q1.out.size;have HC2:=hi9 (show w0.heap.size≤w1.heap.size from hwj);have F2:=hi9 (show∀a,A2=some a→(a.block<W.heap.size∨w0.heap.size≤a.block) from fun a e=>(F1.out a e).imp id (fun q=>by simpa [go_sem] using q));have Q2:=bh Q1 bz;have U2:=hi9 (U1.out.keep bz);obtain⟨cb2,hcb⟩:∃cb,w1.heap.size=cb:=⟨_,rfl⟩
  obtain⟨w2,hw2⟩:∃w2,(w1.alloc (.cells #[.slice A2 n2 c2,.int .i64 (zZ ra)] 30))=w2:=⟨_,rfl⟩
  rw [hw2] at B2 V2 R2 C2 N2 Q2 U2 ⊢;rw [hcb] at C2 HC2 ⊢;clear bz hw2 hcb hwj Vy Vz
 rotate_left
 focus
  have hg:=jN w1 w0.heap.size (.slice A2 n2 c2) (.int .i64 (zZ ra));have hsz0:w.heap.size≤w0.heap.size:=B0.out.size;have B2:=hi9 (zaN B1.out hsz0 (.slice A2 n2 c2) (.int .i64 (zZ ra)));have V2:=Vs;have R2:=hi9 (R1.out.but hg (fun e=>by injection e with e;omega));have C2:=hi9 (C1.out.set (.slice A2 n2 c2) (.int .i64 (zZ ra)));have HC2:=hi9 (Nat.le_refl w0.heap.size);have N2:=hi9 (N1.out.but hg (fun _ a e q=>by rcases F1.out a e with h1|h1 <;>(have:=HSW.out;have:=HZX.out;omega)));have F2:=hi9 (show∀a,A2=some a→(a.block<W.heap.size∨w0.heap.size≤a.block) from fun a e=>(F1.out a e).imp id (fun q=>by have:=HZX.out;omega));have Q2:=hi9 (zaN Q1.out (Nat.le_refl _) (.slice A2 n2 c2) (.int .i64 (zZ ra)));have U2:=Us;obtain⟨cb2,hcb⟩:∃cb,w0.heap.size=cb:=⟨_,rfl⟩
  obtain⟨w2,hw2⟩:∃w2,((w1.setCell ⟨w0.heap.size,0,none⟩ (.slice A2 n2 c2)).setCell ⟨w0.heap.size,1,none⟩ (.int .i64 (zZ ra)))=w2:=⟨_,rfl⟩
  rw [hw2] at B2 V2 R2 C2 N2 Q2 U2 ⊢;rw [hcb] at C2 ⊢;replace HC2:=hi9 (show w0.heap.size≤cb2 from Nat.le_of_eq hcb);clear hg hw2 hcb hsz0 Vs y0 y1 y2 y3 C1
 rotate_left
 all_goals
  clear V1 B1 R1 N1 F1 Q1 Vd Vx Bd Bx Rd Rx Cx K0 K1 HZX hrb hpb hn1 hn2 b1 hN hf V0 B0 R0 Qd Qx U0 Ud Ux U1 hn_U;by_cases hu:zZ ra=0
  case neg =>
   have hf:(zZ ra != 0)=true:=by simpa using hu
   obtain⟨y0,y1,y2,y3⟩:=C2.out;have FX:=hi9 (show∀a,A2=some a→(a.block<W.heap.size∨w.heap.size≤a.block)∧a.block≠w.heap.size+1 from fun a e=>by
    have h2:w.heap.size+1<w0.heap.size:=HRB0.out
    have h3:=HSW.out
    rcases F2.out a e with h1|h1
    ·exact⟨.inl h1,by omega⟩
    ·exact⟨.inr (by omega),by omega⟩)
   have RS:=R2.out.set (.slice A2 n2 c2) (.int .i64 (zZ ra));obtain⟨s0,s1,-,-⟩:=RS;have GF:=hi9 (zA (S:=fun b=>b<W.heap.size) (r:=ra) N2.out FX.out B2.out (show w.heap.size≤w.heap.size+1 by omega));obtain⟨r0,r1,z0,z1⟩:=R2.out;go_wp2_with fail;exact bodyPost_ret (v := .agg #[.slice A2 n2 c2,.int .i64 (zZ ra)]) (by simp [results,Tryz.results28,go_sem,s0,s1]) rfl (by rw [HL.out.err hu];exact GF.out)
  obtain⟨V,rfl,vV⟩:=HL.out.val hu;replace C2:=hi9 (show Vr2 w2 cb2 (.slice A2 n2 c2) (.int .i64 0) from C2.out);replace N2:=hi9 (show Ns w2 A2 n2 c2 V from N2.out);clear hu;by_cases g:zf V=1
  case neg =>
   obtain⟨y0,y1,y2,y3⟩:=C2.out;have K:=hi9 (zS A2 n2 c2 (V) 1 w2 N2.out (zm vV));rw [show(zf (V)==1)=false from beq_eq_false_iff_ne.2 g] at K;go_wp2_with fail;refine(K.out).mono ?_;rintro e w3 ⟨rfl,b3⟩;have B3:=bh B2 b3;have R3:=hi9 (R2.out.keep b3);clear y0 y1 y2 y3;clear b3 B2 R2 K;go_wp2_with fail;refine(jA 2 _).mono ?_;rintro e w4 ⟨rfl,b4⟩;have B4:=bh B3 b4;have R4:=hi9 (R3.out.keep b4);clear b4 B3 R3;have RS:=R4.out.set (.slice none 0 0) (.int .i64 2);obtain⟨s0,s1,-,-⟩:=RS;have GF:=hi9 (zA (S:=fun b=>b<W.heap.size) (r := .error 2) (jv _) (jB (S:=fun b=>b<W.heap.size)) B4.out (show w.heap.size≤w.heap.size+1 by omega));obtain⟨r0,r1,z0,z1⟩:=R4.out;go_wp2_with fail;exact bodyPost_ret (v := .agg #[.slice none 0 0,.int .i64 2]) (by simp [results,Tryz.results28,go_sem,s0,s1]) rfl (by rw [HL.out.no V rfl g];exact GF.out)
  obtain⟨v,rfl⟩:∃v,V=zt v:=(zc1 vV g).elim (fun e=>⟨_,e⟩) (fun e=>⟨_,e⟩);obtain⟨y0,y1,y2,y3⟩:=C2.out;have K:=hi9 (zS A2 n2 c2 (zt v) 1 w2 N2.out (by cases v <;> decide));rw [zit] at K;go_wp2_with fail;refine(K.out).mono ?_;rintro e w3 ⟨rfl,b3⟩;have B3:=bh B2 b3;have R3:=hi9 (R2.out.keep b3);have C3:=hi9 (C2.out.keep b3);have N3:=hi9 (N2.out.keep b3);have U3:=hi9 (U2.out.keep b3);clear y0 y1 y2 y3;clear b3 B2 R2 C2 N2 U2 K;obtain⟨y0,y1,y2,y3⟩:=C3.out;obtain⟨a2,rfl,hn0,hn1,d1⟩:=zl2 N3.out;by_cases hv:v=o
  case pos =>
   subst hv;have HRE:=HL.out.fin rfl;cases v
   all_goals
    have FX:=hi9 (show∀a,(some a2)=some a→(a.block<W.heap.size∨w.heap.size≤a.block)∧a.block≠w.heap.size+1 from fun a e=>by
     have h2:w.heap.size+1<w0.heap.size:=HRB0.out
     have h3:=HSW.out
     rcases F2.out a e with h1|h1
     ·exact⟨.inl h1,by omega⟩
     ·exact⟨.inr (by omega),by omega⟩)
    have RS:=R3.out.set (.slice (some a2) n2 c2) (.int .i64 0);obtain⟨s0,s1,-,-⟩:=RS;have GF:=hi9 (zA (S:=fun b=>b<W.heap.size) (r := .ok (zt _)) N3.out FX.out B3.out (show w.heap.size≤w.heap.size+1 by omega));obtain⟨r0,r1,z0,z1⟩:=R3.out;go_wp2_with fail;exact bodyPost_ret (v := .agg #[.slice (some a2) n2 c2,.int .i64 0]) (by simp [results,Tryz.results28,go_sem,s0,s1]) rfl (by rw [HRE];exact GF.out)
  have ho:o = !v:=by cases v <;> cases o <;> simp_all
  subst ho;have HRE:rr=zt8 rb:=HL.out.sec (by cases v <;> rfl);have HRB:=hi9 HL.out.valb;clear HL;cases v
  all_goals
   simp only [Bool.not_true,Bool.not_false] at g12;have V3:=U3;go_wp2_with fail;clear y0 y1 y2 y3 d1 hn0 hn1;have bd:=zG w3;have bx:RowKit.Below w3.heap.size w3 (w3.alloc (.cells #[.slice none 0 0,.int .i64 0] 30)).drew:=(zb w3 _).trans ((zG _).mono (zb w3 _).size);have Vd:=hi9 (V3.out.keep bd);have Vx:=hi9 (V3.out.keep bx);have Bd:=bh B3 bd;have Bx:=bh B3 bx;have Qd:=hi9 bd;have Qx:=hi9 bx;have Rd:=hi9 (R3.out.keep bd);have Rx:=hi9 (R3.out.keep bx);have Cx:=hi9 ((j8 w3 (.slice none 0 0) (.int .i64 0) 30).keep (zG _));have K0:=hi9 (KB2.out w3.drew Bd.out);have K1:=hi9 (KB2.out (w3.alloc (.cells #[.slice none 0 0,.int .i64 0] 30)).drew Bx.out);have hzx:(w3.alloc (.cells #[.slice none 0 0,.int .i64 0] 30)).drew.heap.size=w3.heap.size+1:=by simp [go_sem]
   have HZX:=hi9 hzx;have hrb:w.heap.size+1<w3.heap.size:=block_lt_of_cell R3.out.c0;have hpb:((⟨a'.block,a'.off+1,none⟩:Addr):Addr).block<w3.heap.size:=block_lt_of_cell V3.out.i;have HRB3:=hi9 hrb;have hn1:w.heap.size≠w3.heap.size:=by omega
   have hn2:((⟨a'.block,a'.off+1,none⟩:Addr):Addr).block≠w3.heap.size:=Nat.ne_of_lt hpb;clear bd bx hzx;go_region_held3 (fun w':World=>w'.cell? ⟨w.heap.size,0,none⟩=some (.string k.q.who.1)∧w'.cell? ⟨w.heap.size,1,none⟩=some (.string k.q.who.2)∧w'.cell? ⟨w.heap.size,2,none⟩=some (.string k.q.act.1)∧w'.cell? ⟨w.heap.size,3,none⟩=some (.string k.q.act.2)∧w'.cell? ⟨w.heap.size,4,none⟩=some (.string k.q.what.1)∧w'.cell? ⟨w.heap.size,5,none⟩=some (.string k.q.what.2)∧w'.cell? ⟨w.heap.size,6,none⟩=some (.slice k.q.NA k.q.nn k.q.nc)∧w'.cell? (⟨a'.block,a'.off+1,none⟩:Addr)=some (.int .i64 ((p1:Int):Int))) (first|(with_reducible exact jg Vs.out)|(with_reducible exact jg Vz.out)|(with_reducible exact jg Vy.out)|(with_reducible exact jg V4.out)|(with_reducible exact jg Vx.out)|(with_reducible exact jg Vd.out)|(with_reducible exact jg V3.out)) (first
    |(go_at_call 12;(with_reducible refine K1.out.mono ?_);rintro e w4 ⟨A5,n5,c5,rfl,hN,hf,b4⟩;have N4:=hi9 hN;have F4:=hi9 hf;have B4:=bh Bx b4;have Q4:=bh Qx b4;have V4:=hi9 (Vx.out.keep b4);have R4:=hi9 (Rx.out.keep b4);have C4:=hi9 (Cx.out.keep b4);have Vs:=hi9 (V4.out.but (jN w4 w3.heap.size (.slice A5 n5 c5) (.int .i64 (zZ rb))) hn1 hn2);obtain⟨y0,y1,y2,y3⟩:=C4.out)
    |(go_at_call 12;(with_reducible refine K0.out.mono ?_);rintro e w4 ⟨A5,n5,c5,rfl,hN,hf,b4⟩;have N4:=hi9 hN;have F4:=hi9 hf;have B4:=bh Bd b4;have Q4:=bh Qd b4;have V4:=hi9 (Vd.out.keep b4);have R4:=hi9 (Rd.out.keep b4);have Vy:=hi9 (V4.out.keep (zb w4 (.cells #[.slice none 0 0,.int .i64 0] 30)));have Vz:=hi9 (V4.out.keep (zb w4 (.cells #[.slice A5 n5 c5,.int .i64 (zZ rb)] 30)))))
   focus
    have bz:=zb w4 (.cells #[.slice A5 n5 c5,.int .i64 (zZ rb)] 30);have B5:=bh B4 bz;have V5:=hi9 (V4.out.keep bz);have R5:=hi9 (R4.out.keep bz);have C5:=hi9 (j8 w4 (.slice A5 n5 c5) (.int .i64 (zZ rb)) 30);have N5:=hi9 (N4.out.keep bz);have hwj:w3.heap.size≤w4.heap.size:=Q4.out.size;have HC5:=hi9 (show w3.heap.size≤w4.heap.size from hwj);have F5:=hi9 (show∀a,A5=some a→(a.block<W.heap.size∨w3.heap.size≤a.block) from fun a e=>(F4.out a e).imp id (fun q=>by simpa [go_sem] using q));have Q5:=bh Q4 bz;obtain⟨cb5,hcb⟩:∃cb,w4.heap.size=cb:=⟨_,rfl⟩
    obtain⟨w5,hw5⟩:∃w2,(w4.alloc (.cells #[.slice A5 n5 c5,.int .i64 (zZ rb)] 30))=w2:=⟨_,rfl⟩
    rw [hw5] at B5 V5 R5 C5 N5 Q5 ⊢;rw [hcb] at C5 HC5 ⊢;clear bz hw5 hcb hwj Vy Vz
   rotate_left
   focus
    have hg:=jN w4 w3.heap.size (.slice A5 n5 c5) (.int .i64 (zZ rb));have hsz0:w.heap.size≤w3.heap.size:=B3.out.size;have B5:=hi9 (zaN B4.out hsz0 (.slice A5 n5 c5) (.int .i64 (zZ rb)));have V5:=Vs;have R5:=hi9 (R4.out.but hg (fun e=>by injection e with e;omega));have C5:=hi9 (C4.out.set (.slice A5 n5 c5) (.int .i64 (zZ rb)));have HC5:=hi9 (Nat.le_refl w3.heap.size);have N5:=hi9 (N4.out.but hg (fun _ a e q=>by rcases F4.out a e with h1|h1 <;>(have:=HSW.out;have:=HZX.out;omega)));have F5:=hi9 (show∀a,A5=some a→(a.block<W.heap.size∨w3.heap.size≤a.block) from fun a e=>(F4.out a e).imp id (fun q=>by have:=HZX.out;omega));have Q5:=hi9 (zaN Q4.out (Nat.le_refl _) (.slice A5 n5 c5) (.int .i64 (zZ rb)));obtain⟨cb5,hcb⟩:∃cb,w3.heap.size=cb:=⟨_,rfl⟩
    obtain⟨w5,hw5⟩:∃w2,((w4.setCell ⟨w3.heap.size,0,none⟩ (.slice A5 n5 c5)).setCell ⟨w3.heap.size,1,none⟩ (.int .i64 (zZ rb)))=w2:=⟨_,rfl⟩
    rw [hw5] at B5 V5 R5 C5 N5 Q5 ⊢;rw [hcb] at C5 ⊢;replace HC5:=hi9 (show w3.heap.size≤cb5 from Nat.le_of_eq hcb);clear hg hw5 hcb hsz0 Vs y0 y1 y2 y3 C4
   rotate_left
   all_goals
    clear V4 B4 R4 N4 F4 Q4 Vd Vx Bd Bx Rd Rx Cx K0 K1 HZX hrb hpb hn1 hn2 b4 hN hf V3 B3 R3 Qd Qx;obtain⟨y0,y1,y2,y3⟩:=C5.out;by_cases hu:zZ rb=0
    case neg =>
     have hf:(zZ rb != 0)=true:=by simpa using hu
     have hf0:(zZ rb==0)=false:=beq_eq_false_iff_ne.2 hu;have FX:=hi9 (show∀a,A5=some a→(a.block<W.heap.size∨w.heap.size≤a.block)∧a.block≠w.heap.size+1 from fun a e=>by
      have h2:w.heap.size+1<w3.heap.size:=HRB3.out
      have h3:=HSW.out
      rcases F5.out a e with h1|h1
      ·exact⟨.inl h1,by omega⟩
      ·exact⟨.inr (by omega),by omega⟩)
     have RS:=R5.out.set (.slice A5 n5 c5) (.int .i64 (zZ rb));obtain⟨s0,s1,-,-⟩:=RS;have GF:=hi9 (zA (S:=fun b=>b<W.heap.size) (r:=rb) N5.out FX.out B5.out (show w.heap.size≤w.heap.size+1 by omega));obtain⟨r0,r1,z0,z1⟩:=R5.out;go_wp2_with fail;exact bodyPost_ret (v := .agg #[.slice A5 n5 c5,.int .i64 (zZ rb)]) (by simp [results,Tryz.results28,go_sem,s0,s1]) rfl (by rw [HRE.trans (zt4 hu)];exact GF.out)
    obtain⟨V,rfl,vV⟩:=HRB.out hu;clear y0 y1 y2 y3;replace C5:=hi9 (show Vr2 w5 cb5 (.slice A5 n5 c5) (.int .i64 0) from C5.out);replace N5:=hi9 (show Ns w5 A5 n5 c5 V from N5.out);by_cases g:zf V=1
    case neg =>
     obtain⟨y0,y1,y2,y3⟩:=C5.out;have K:=hi9 (zS A5 n5 c5 (V) 1 w5 N5.out (zm vV));rw [show(zf (V)==1)=false from beq_eq_false_iff_ne.2 g] at K;go_wp2_with fail;refine(K.out).mono ?_;rintro e w6 ⟨rfl,b6⟩;have B6:=bh B5 b6;have R6:=hi9 (R5.out.keep b6);clear y0 y1 y2 y3;clear b6 B5 R5 K;go_wp2_with fail;refine(jA 2 _).mono ?_;rintro e w7 ⟨rfl,b7⟩;have B7:=bh B6 b7;have R7:=hi9 (R6.out.keep b7);clear b7 B6 R6;have RS:=R7.out.set (.slice none 0 0) (.int .i64 2);obtain⟨s0,s1,-,-⟩:=RS;have GF:=hi9 (zA (S:=fun b=>b<W.heap.size) (r := .error 2) (jv _) (jB (S:=fun b=>b<W.heap.size)) B7.out (show w.heap.size≤w.heap.size+1 by omega));obtain⟨r0,r1,z0,z1⟩:=R7.out;go_wp2_with fail;exact bodyPost_ret (v := .agg #[.slice none 0 0,.int .i64 2]) (by simp [results,Tryz.results28,go_sem,s0,s1]) rfl (by rw [HRE.trans (if_neg g)];exact GF.out)
    have FX:=hi9 (show∀a,A5=some a→(a.block<W.heap.size∨w.heap.size≤a.block)∧a.block≠w.heap.size+1 from fun a e=>by
     have h2:w.heap.size+1<w3.heap.size:=HRB3.out
     have h3:=HSW.out
     rcases F5.out a e with h1|h1
     ·exact⟨.inl h1,by omega⟩
     ·exact⟨.inr (by omega),by omega⟩)
    obtain⟨y0,y1,y2,y3⟩:=C5.out;have K:=hi9 (zS A5 n5 c5 (V) 1 w5 N5.out (zm vV));rw [show(zf (V)==1)=true from beq_iff_eq.2 g] at K;go_wp2_with fail;refine(K.out).mono ?_;rintro e w6 ⟨rfl,b6⟩;have B6:=bh B5 b6;have R6:=hi9 (R5.out.keep b6);have C6:=hi9 (C5.out.keep b6);have N6:=hi9 (N5.out.keep b6);clear y0 y1 y2 y3;clear b6 B5 R5 C5 N5 K;obtain⟨y0,y1,y2,y3⟩:=C6.out;have RS:=R6.out.set (.slice A5 n5 c5) (.int .i64 0);obtain⟨s0,s1,-,-⟩:=RS;have GF:=hi9 (zA (S:=fun b=>b<W.heap.size) (r := .ok V) N6.out FX.out B6.out (show w.heap.size≤w.heap.size+1 by omega));obtain⟨r0,r1,z0,z1⟩:=R6.out;go_wp2_with fail;exact bodyPost_ret (v := .agg #[.slice A5 n5 c5,.int .i64 0]) (by simp [results,Tryz.results28,go_sem,s0,s1]) rfl (by rw [HRE.trans (if_pos g)];exact GF.out)
end Go.Proofs.YtkfgabdnppmglaaGreatDoor
