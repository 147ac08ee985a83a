/-
  ref KindEnd: of records. ref FieldsOf, FieldKind, PartKind: where the fields of a record's type stand, and their types; ref KindEnd, KindFault. ref PartsOf: ..
-/
import Derived.Maps.RangeWalk
import Derived.Test.YtjcdeikbghjpkaaGreatDoorQ5
import Derived.Test.YtjcdeikbghjpkaaGreatDoorQ17
import Derived.Test.YtjcdeikbghjpkaaGreatDoorQ18
import Derived.Test.YtjcdeikbghjpkaaGreatDoorQ21
import Derived.Test.YtjcdeikbghjpkaaGreatDoorQ25
set_option maxRecDepth 100000
set_option maxHeartbeats 4000000
namespace Go.Proofs.YtjcdeikbghjpkaaGreatDoor
open Go.RowKit Go.Wk Go.Sort
theorem zs3(P:List Nd)(m:Nat)(a:Addr)(n c q:Nat)(w:World)(ih:KeC P (some a) n c m)(hns:Ns w (some a) n c P)(hq:q<n)(hf:n-q≤m+1)(x:Nd)(hx:P[q]?=some x)(h1:x.op=46)(h2:0≤x.n)(h3:x.s=emp)(h4:x.t=emp):
 Calls Tryz.prog 94 #[.slice (some a) n c,.int .i64 q] w fun e w'=>e = .returned (.int .i64 (zae P q))∧Below w.heap.size w w':=by
 have HE:=hi9 (show zae P q=zeh P x.n.toNat emp (q+1) by rw [zlZ hx h1,if_pos ⟨h2,h3,h4⟩]);have hm:=hns.max;unfold maxLen at hm;have HNS:=hi9 hns;have HLN:=hi9 hns.len;have hxn:x.n≤9223372036854775807:=(hns.ok x (List.mem_of_getElem? hx)).hi;have IH:=hi9 (fun p w' (hp:q<p) hb=>ih p w' (hns.keep (w':=w') hb) (by omega));obtain⟨a',ea,d0,d1,d2,d3⟩:=hns.at_ q x hx;injection ea with ea;subst ea;have hl:(a.add (q*4)).block<w.heap.size:=block_lt_of_cell d0;have HB:=hi9 (za w (.cells #[.int .i64 46,.int .i64 x.n,.string ⟨#[]⟩,.string ⟨#[]⟩] 41));have HX:=hi9 (zqD w (.int .i64 46) (.int .i64 x.n) (.string ⟨#[]⟩) (.string ⟨#[]⟩) 41);have e1:decide (x.n<0)=false:=decide_eq_false (by omega);rw [h1] at d0;rw [show x.s=⟨#[]⟩ from h3] at d2;rw [show x.t=⟨#[]⟩ from h4] at d3;generalize zae P q=r at *;clear hns h1 h3 h4 ih;have g0:decide (n≤q)=false:=decide_eq_false (by omega);go_enter Tryz.func94,Tryz.ntmps94;go_wp2_with fail;go_loopw [1,6,7] (fun u l i wr=>∃(k p:Nat) (last:ByteArray),u = .int .i64 p∧l = .string last∧i = .int .i64 k∧k≤x.n.toNat∧q<p∧p≤n∧Hid (last.size≤maxLen)∧Hid (zeh P x.n.toNat emp (q+1)=zeh P (x.n.toNat-k) last p)∧Hid (Below w.heap.size w wr)∧Hid (wr.cell? ⟨w.heap.size,1,none⟩=some (.int .i64 x.n))) (fun _ _ i _=>x.n.toNat-(intOf i).toNat)
 case atStart=>exact⟨0,q+1,⟨#[]⟩,by go_num,rfl,rfl,Nat.zero_le _,Nat.lt_succ_self _,hq,hi9 (Nat.zero_le _),hi9 rfl,HB,HX⟩
 case round =>
  obtain⟨k,p,last,rfl,rfl,rfl,hk,hqp,hpn,hLS,hFE,hW,hX⟩:=hrel;have x1:=hX.out;have hw1:w.heap.size<wr.heap.size:=block_lt_of_cell x1;by_cases hlt:k<x.n.toNat
  ·have g1:decide ((k:Int)<x.n)=true:=decide_eq_true (by omega);have HFE:=hi9 (show zeh P x.n.toNat emp (q+1)=zeh P (x.n.toNat-k-1+1) last p by rw [hFE.out];congr 1;omega);by_cases hpn2:p<n
   ·have hpl:p<P.length:=by rw [←HLN.out];exact hpn2
    obtain⟨a',ea,e0,e1,e2,e3⟩:=(HNS.out.keep hW.out).at_ p _ (List.getElem?_eq_getElem hpl);injection ea with ea;subst ea;have HYS:=hi9 (HNS.out.ok _ (List.getElem_mem hpl)).s;have HY0:=List.getElem?_eq_getElem hpl;obtain⟨y,hy⟩:∃y,y=P[p]:=⟨_,rfl⟩
    rw [←hy] at e0 e1 e2 e3 HYS HY0;have HY:=hi9 HY0;clear hy HY0;have hla:(a.add (p*4)).block<wr.heap.size:=block_lt_of_cell e0;have HBAD:=hi9 (show¬zha last y→r = -1 from fun h=>by rw [HE.out,HFE.out,zjz HY.out,if_neg h]);have HGOOD:=hi9 (show zha last y→r=if 0≤zae P (p+1) then zeh P (x.n.toNat-k-1) y.s (zae P (p+1)).toNat else -1 from fun h=>by rw [HE.out,HFE.out,zjz HY.out,if_pos h]);have V1:=hi9 (fun w=>jR y.s w HYS.out);have V2:=hi9 (fun w=>zcj last y.s w hLS.out HYS.out);obtain⟨yo,yn,ys,yt⟩:=y;simp only at e0 e1 e2 e3 V1 V2;by_cases h47:yo=47
    ·subst h47;by_cases hn0:yn<0
     ·have HBV:=hi9 (HBAD.out fun h=>by rcases h.2.1 with h|h <;>(simp only at h;omega));have f1:decide (yn<0)=true:=decide_eq_true hn0;clear hn0;go_wp2_with fail;go_ret;exact⟨by rw [HBV.out];rfl,hW.out⟩
     ·have f1:decide (yn<0)=false:=decide_eq_false hn0;by_cases hn1:1<yn
      ·have HBV:=hi9 (HBAD.out fun h=>by rcases h.2.1 with h|h <;>(simp only at h;omega));have f2:decide (1<yn)=true:=decide_eq_true hn1;clear hn0 hn1;go_wp2_with fail;go_ret;exact⟨by rw [HBV.out];rfl,hW.out⟩
      ·have f2:decide (1<yn)=false:=decide_eq_false hn1;have HN01:=hi9 (show yn=0∨yn=1 by omega);rcases zfP yt with rfl|⟨ht,t1,t2⟩
       ·by_cases hf0:zd ys=0
        ·have HF0:=hi9 hf0;rw [hf0] at V1;by_cases hc:0≤zO last ys
         ·have HBV:=hi9 (HBAD.out fun h=>by have:=h.2.2.2.2;simp only at this;omega);have f3:decide (0≤zO last ys)=true:=decide_eq_true hc;clear hn0 hn1 hf0 hc;generalize zO last ys=cc at *;go_wp2_with fail;refine(V1.out _).mono ?_;rintro e w1 ⟨rfl,rfl⟩;go_wp2_with fail;refine(V2.out _).mono ?_;rintro e w2 ⟨rfl,b2⟩;have B2:=hi9 (hW.out.trans (b2.mono hW.out.size));have hw2:w.heap.size<w2.heap.size:=Nat.lt_of_lt_of_le hw1 b2.size;have X2:=hi9 (zb b2 x1);have E2:=hi9 (zb b2 e2);clear b2 e0 e1 e2 e3 x1;go_wp2_with fail;go_ret;exact⟨by rw [HBV.out];rfl,B2.out⟩
         ·have HGV:=hi9 (HGOOD.out ⟨rfl,HN01.out,rfl,HF0.out,by simp only;omega⟩);have f3:decide (0≤zO last ys)=false:=decide_eq_false hc;clear hn0 hn1 hf0 hc HBAD HGOOD;generalize zO last ys=cc at *;go_wp2_with fail;refine(V1.out _).mono ?_;rintro e w1 ⟨rfl,rfl⟩;go_wp2_with fail;refine(V2.out _).mono ?_;rintro e w2 ⟨rfl,b2⟩;have B2:=hi9 (hW.out.trans (b2.mono hW.out.size));have hw2:w.heap.size<w2.heap.size:=Nat.lt_of_lt_of_le hw1 b2.size;have X2:=hi9 (zb b2 x1);have E2:=hi9 (zb b2 e2);have hla2:(a.add (p*4)).block<w2.heap.size:=Nat.lt_of_lt_of_le hla b2.size;clear b2 e0 e1 e2 e3 x1;have e2':=E2.out;go_wp2_with fail;refine(IH.out (p+1) w2 (by omega) B2.out).mono ?_;rintro e w3 ⟨rfl,b3⟩;have B3:=hi9 (B2.out.trans (b3.mono B2.out.size));have X3:=hi9 (zb b3 X2.out);clear b3 e2';by_cases hk0:0≤zae P (p+1)
          ·obtain⟨e',he,hep,hel⟩:=zr8 hk0;have HF2:=hi9 (show zeh P x.n.toNat emp (q+1)=zeh P (x.n.toNat-(k+1)) ys e' by
            have h1:=HGV.out
            rw [if_pos hk0,he,HE.out] at h1
            simp only [Int.toNat_natCast] at h1
            rw [h1,show x.n.toNat-(k+1)=x.n.toNat-k-1 by omega])
           have hen:e'≤n:=by rw [HLN.out];exact hel
           rw [he];clear hk0 he hel;go_wp2_with fail;go_roundw
           case rel=>exact⟨k+1,e',ys,rfl,rfl,by go_num,hlt,by omega,hen,HYS,HF2,B3,X3⟩
           case measure=>simp [intOf];omega
          ·have HBV:=hi9 (show r = -1 by rw [HGV.out,if_neg hk0]);rw [zqF hk0];clear hk0;go_wp2_with fail;go_ret;exact⟨by rw [HBV.out];rfl,B3.out⟩
        ·have HBV:=hi9 (HBAD.out fun h=>hf0 h.2.2.2.1);have f3:(zd ys==0)=false:=beq_eq_false_iff_ne.2 hf0;have f4:(zd ys != 0)=true:=by rw [bne_iff_ne];exact hf0
         clear hn0 hn1 hf0 HBAD HGOOD;generalize zd ys=nf at *;go_wp2_with fail;refine(V1.out _).mono ?_;rintro e w1 ⟨rfl,rfl⟩;go_wp2_with fail;go_ret;exact⟨by rw [HBV.out];rfl,hW.out⟩
       ·have HBV:=hi9 (HBAD.out fun h=>ht h.2.2.1);clear hn0 hn1 ht;go_wp2_with fail;go_ret;exact⟨by rw [HBV.out];rfl,hW.out⟩
    ·have HBV:=hi9 (HBAD.out fun h=>h47 h.1);have f1:(yo==47)=false:=beq_eq_false_iff_ne.2 h47;have f2:(yo != 47)=true:=by rw [bne_iff_ne];exact h47
     clear h47;go_wp2_with fail;go_ret;exact⟨by rw [HBV.out];rfl,hW.out⟩
   ·have HBV:=hi9 (show r = -1 by
     rw [HE.out,HFE.out]
     exact zqy (by rw [←HLN.out];omega))
    have f1:decide ((n:Int)≤(p:Int))=true:=decide_eq_true (by omega)
    go_wp2_with fail
    go_ret
    exact⟨by rw [HBV.out];rfl,hW.out⟩
  ·have g1:decide ((k:Int)<x.n)=false:=decide_eq_false (by omega);have HFE:=hi9 (show r=(p:Int) by
    rw [HE.out,hFE.out,show x.n.toNat-k=0 by omega]
    exact zoe (by rw [←HLN.out];exact hpn))
   go_wp2_with fail;go_ret;exact⟨by rw [HFE.out];rfl,hW.out⟩
theorem zg2(P:List Nd)(A:Option Addr)(n c:Nat):∀m,KeC P A n c m
 | 0=>fun q w h hm=>zpm P A n c q w h.len (by omega)
 | m+1=>fun q w h hm=>by
  by_cases hq:q<n
  ·have ih:=zg2 P A n c m;have hp:q<P.length:=by rw [←h.len];exact hq
   have hx:=List.getElem?_eq_getElem hp;obtain⟨a,rfl,d0,d1,d2,d3⟩:=h.at_ q _ hx;have hok:=h.ok _ (List.getElem_mem hp);generalize P[q]=x at *;by_cases hb:x.t≠emp∨(x.op≠44∧x.s≠emp)∨(x.op≠46∧x.n≠0)∨x.n<0
   ·have e:zae P q = -1:=by
     by_cases b1:jq x.op
     ·rw [zjM hx b1,if_neg];rintro ⟨q1,q2,q3⟩;rcases hb with hb|⟨-,hb⟩|⟨-,hb⟩|hb
      ·exact hb q3
      ·exact hb q2
      ·exact hb q1
      ·omega
     by_cases b2:x.op=44
     ·rw [zml hx b2,if_neg];rintro ⟨q1,q2,q3⟩;rcases hb with hb|⟨hb,-⟩|⟨-,hb⟩|hb
      ·exact hb q3
      ·exact hb b2
      ·exact hb q1
      ·omega
     by_cases b3:x.op=45
     ·rw [zlJ hx b3,if_neg];rintro ⟨q1,q2,q3⟩;rcases hb with hb|⟨-,hb⟩|⟨-,hb⟩|hb
      ·exact hb q3
      ·exact hb q2
      ·exact hb q1
      ·omega
     by_cases b4:x.op=46
     ·rw [zlZ hx b4,if_neg];rintro ⟨q1,q2,q3⟩;rcases hb with hb|⟨-,hb⟩|⟨hb,-⟩|hb
      ·exact hb q3
      ·exact hb q2
      ·exact hb b4
      ·omega
     exact zjt hx b1 b2 b3 b4
    rw [e]
    exact zpX a n c q x.op x.n x.s x.t w h.max hq d0 d1 d2 d3 hb
   ·have ht:x.t=emp:=Decidable.byContradiction fun e=>hb (.inl e);have hs:x.op≠44→x.s=emp:=fun e0=>Decidable.byContradiction fun e=>hb (.inr (.inl ⟨e0,e⟩));have hn:x.op≠46→x.n=0:=fun e0=>Decidable.byContradiction fun e=>hb (.inr (.inr (.inl ⟨e0,e⟩)));have hn0:0≤x.n:=Decidable.byContradiction fun e=>hb (.inr (.inr (.inr (by omega))));by_cases b1:jq x.op
    ·have h44:x.op≠44:=fun e=>by rw [e] at b1;revert b1;decide
     have h46:x.op≠46:=fun e=>by rw [e] at b1;revert b1;decide
     rw [zjM hx b1,if_pos ⟨hn h46,hs h44,ht⟩];exact zro a n c q x.op x.n x.s x.t w h.max hq d0 d1 d2 d3 b1 (hn h46) (hs h44) ht
    by_cases b2:x.op=44
    ·have h46:x.op≠46:=by omega
     have e:zae P q=if zd x.s=0 then((q+1:Nat):Int) else -1:=by
      rw [zml hx b2];by_cases hf:zd x.s=0
      ·rw [if_pos hf,if_pos ⟨hn h46,hf,ht⟩]
      ·rw [if_neg hf,if_neg (fun q=>hf q.2.1)]
     rw [e];exact zsD a n c q x.op x.n x.s x.t w h.max hq d0 d1 d2 d3 hok.s b2 (hn h46) ht
    by_cases b3:x.op=45
    ·exact zs0 P m a n c q w ih h hq hm x hx b3 (hn (by omega)) (hs (by omega)) ht
    by_cases b4:x.op=46
    ·exact zs3 P m a n c q w ih h hq hm x hx b4 hn0 (hs (by omega)) ht
    rw [zjt hx b1 b2 b3 b4];exact zr6 a n c q x.op x.n x.s x.t w h.max hq d0 d1 d2 d3 b1 b2 b3 b4
  ·exact zpm P A n c q w h.len (by omega)
theorem zkw{P:List Nd}{A:Option Addr}{n c:Nat}{w:World}(h:Ns w A n c P)(q:Nat):Calls Tryz.prog 94 #[.slice A n c,.int .i64 q] w fun e w'=>e = .returned (.int .i64 (zae P q))∧Below w.heap.size w w' :=
 zg2 P A n c n q w h (Nat.sub_le _ _)
theorem zjk(A:Option Addr)(n c:Nat)(P:List Nd)(w:World)(h:Ns w A n c P):
 Calls Tryz.prog 89 #[.slice A n c] w fun e w'=>e = .returned (.int .i64 (zo P))∧Below w.heap.size w w':=by
 have HL:=hi9 h.len;have hm:=h.max;unfold maxLen at hm;have K:=hi9 (zkw h 0);by_cases h200:200<n
 ·have HF:=hi9 (show zo P=4 by unfold zo;rw [if_pos (by rw [←HL.out];exact h200)]);have f1:decide (200<(n:Int))=true:=decide_eq_true (by omega);clear h K h200;go_enter Tryz.func89,Tryz.ntmps89;go_wp2_with fail;go_ret;exact⟨by rw [HF.out];rfl,Below.refl _ _⟩
 ·have f1:decide (200<(n:Int))=false:=decide_eq_false (by omega);by_cases hk:zae P 0=(P.length:Int)
  ·have HF:=hi9 (show zo P=0 by unfold zo;rw [if_neg (by rw [←HL.out];exact h200),if_pos (zl9.1 hk)]);rw [hk,←HL.out] at K;clear h h200 hk;go_enter Tryz.func89,Tryz.ntmps89;go_wp2_with fail;refine(K.out).mono ?_;rintro e w1 ⟨rfl,b1⟩;have B1:=hi9 b1;clear b1;go_wp2_with fail;go_ret;exact⟨by rw [HF.out];rfl,B1.out⟩
  ·have HF:=hi9 (show zo P=1 by unfold zo;rw [if_neg (by rw [←HL.out];exact h200),if_neg (fun q=>hk (zl9.2 q))]);have f2:(zae P 0==(n:Int))=false:=beq_eq_false_iff_ne.2 (by rw [HL.out];exact hk);have f3:(zae P 0 !=(n:Int))=true:=by rw [bne_iff_ne,HL.out];exact hk
   generalize zae P 0=r at *;clear h h200 hk;go_enter Tryz.func89,Tryz.ntmps89;go_wp2_with fail;refine(K.out).mono ?_;rintro e w1 ⟨rfl,b1⟩;have B1:=hi9 b1;clear b1;go_wp2_with fail;go_ret;exact⟨by rw [HF.out];rfl,B1.out⟩
def zfc(w:World)(A:Option Addr)(E:List Nat):Prop:=∀(k e:Nat),E[k]?=some e→∃a,A=some a∧w.cell? (a.add k)=some (.int .i64 (e:Int))
theorem zfc.keep{w w':World}{A:Option Addr}{E:List Nat}(h:zfc w A E)(hb:Below w.heap.size w w'):zfc w' A E:=fun k e he=>by
 obtain⟨a,q1,q2⟩:=h k e he;exact⟨a,q1,zb hb q2⟩
def zdh(E:List Nat):List Value:=E.map fun e:Nat=>Value.int .i64 (e:Int)
theorem zgG{w:World}{B:Nat}{v:Value}{E:List Nat}(h:w.ownsRow B 3 1 v E.length (zdh E)):∃A c,v = .slice A E.length c∧E.length≤c∧zfc w A E:=by
 rcases h.2 with ⟨rfl,h0⟩|⟨g,cap,cur,rfl,_,_,hc,_⟩
 ·have:E = []:=List.eq_nil_of_length_eq_zero h0;subst this;exact⟨none,0,rfl,Nat.le_refl _,fun k x hx=>by simp at hx⟩
 ·refine⟨some ⟨g,0,none⟩,cap,rfl,hc,fun k x hx=>⟨_,rfl,h.cells (g:=g) rfl _ _ ?_⟩⟩;unfold zdh;rw [List.getElem?_map,hx];rfl
theorem zqS:(Tryz.prog.info? 3).map (fun i=>(i.zero,i.size,i.bytes))=some (some (.int .i64 0),1,8):=by kernel_rfl
theorem zfF{w1:World}{B:Nat}{v':Value}{E:List Nat}{x:Nat}(h:w1.ownsRow B 3 1 v' (E.length+1) (zdh E ++ [.int .i64 (x:Int)])):
 w1.ownsRow B 3 1 v' (E ++ [x]).length (zdh (E ++ [x])):=by
 rw [show zdh (E ++ [x])=zdh E ++ [.int .i64 (x:Int)] by simp [zdh],List.length_append];exact h
theorem zhr(n:Int):∀u∈ [Value.int .i64 n],u.oneCell'=true:=by
 intro u hu;simp only [List.mem_cons,List.not_mem_nil,or_false] at hu;subst hu;rfl
theorem zfN(f:Fl)(hv:f.validFrom emp)(A:Option Addr)(n c:Nat)(w:World)(h:Ns w A n c (Kd.fs f).flat)(hl:n≤4000):
 Calls Tryz.prog 93 #[.slice A n c] w fun e w'=>∃A' c',e = .returned (.slice A' f.len c')∧f.len≤c'∧zfc w' A' (zc6 1 f)∧Below w.heap.size w w':=by
 obtain⟨i0,hi,hz0,hz1,hz2⟩:=info_parts zqS;obtain⟨a,rfl,d0,d1,d2,d3⟩:=h.at_ 0 ⟨46,f.len,emp,emp⟩ rfl;rw [show a.add (0*4)=a from rfl] at d0 d1 d2 d3;simp only at d0 d1 d2 d3;have hn1:1≤n:=by rw [h.len];simp [Kd.flat]
 have hfl:f.len≤n:=by
  rw [h.len,Kd.flat,List.length_cons];have:∀g:Fl,g.len≤g.flat.length:=fun g=>by
   induction g using Fl.rec (motive_1:=fun _=>True) with
   | nil=>exact Nat.zero_le _
   | cons s m k r _ ih=>simp only [Fl.len,Fl.flat,List.length_cons,List.length_append];omega
   | _=>trivial
  have:=this f;omega
 have K:=hi9 (fun(q:Nat) w' (hb:Below w.heap.size w w')=>zkw (h.keep hb) q);have HLn:=hi9 h.len;have HS:=hi9 (za9.start hv);have HPL:=hi9 (zh7 f 1);generalize (Kd.fs f).flat=t at *;clear h hv d0 d2 d3;go_enter Tryz.func93,Tryz.ntmps93;go_wp2_with fail;go_loopw [3,4,5] (fun v at_ i wr=>∃(k p:Nat) (E:List Nat) (g:Fl),at_ = .int .i64 p∧i = .int .i64 k∧k+g.len=f.len∧E.length=k∧p≤n∧Hid (zc6 1 f=E ++ zc6 p g)∧Hid (za9 t p g)∧Hid (wr.ownsRow w.heap.size 3 1 v E.length (zdh E))∧Hid (Below w.heap.size w wr)) (fun _ _ i _=>f.len-(intOf i).toNat)
 case atStart=>exact⟨0,1,[],f,rfl,rfl,by omega,rfl,hn1,rfl,HS.out,World.ownsRow_nil _ _ _ _,Below.refl _ _⟩
 case round =>
  obtain⟨k,p,E,g,rfl,rfl,hk,hE,hp,hP,hL,hown,hB⟩:=hrel;have e1:=zb hB.out d1;by_cases hlt:k<f.len
  ·obtain⟨s,m,kk,r,rfl⟩:∃s m kk r,g = .cons s m kk r:=by
    cases g with
    | nil=>simp [Fl.len] at hk;omega
    | cons s m kk r=>exact⟨s,m,kk,r,rfl⟩
   obtain⟨hf,hL2⟩:=hL.out.head
   have hle:=hf.le
   rw [←HLn.out] at hle
   have HE:=hi9 hf.end_
   have HL2:=hi9 hL2
   have HP2:=hi9 (show zc6 1 f=(E ++ [p])++ zc6 (p+1+kk.flat.length) r by rw [hP.out];simp [zc6])
   have hk2:k+1+r.len=f.len:=by simp only [Fl.len] at hk;omega
   generalize kk.flat.length=ln at *
   clear hf hL hL2 hP hk
   go_wp2_with (at_builtin;refine wpList_append_own _ rfl _ _ 67 rfl w.heap.size 3 i0 _ 1 8 Tryz.underlying67 hi hz0 hz1 hz2 rfl (by decide) _ E.length (zdh E) rfl (hown.out.alloc _) ⟨_,0,none⟩ 1 1 [.int .i64 (p:Int)] rfl rfl (zV _ _ _) (zhr _) (by unfold maxLen;omega) (by omega) ?c5 ?_)
   case c5=>have:=hB.out.size;simp;omega
   intro v1 w1 hown1 hgrow1 _
   have B1:=hi9 (zaT hB.out (Nat.le_refl _) hown.out _ hgrow1)
   have O1:=hi9 (zfF (E:=E) (x:=p) (by rw [hE];exact hown1))
   clear hown hB hown1 hgrow1 e1
   have CK:=hi9 (K.out (p+1) w1 B1.out)
   rw [HE.out] at CK
   go_wp2_with fail
   refine(CK.out).mono ?_
   rintro e w2 ⟨rfl,b2⟩
   have B2:=hi9 (B1.out.trans (b2.mono B1.out.size))
   have O2:=hi9 (z8 O1.out b2)
   clear b2 B1 O1 HE CK
   go_wp2_with fail
   go_roundw
   case rel=>exact⟨k+1,p+1+ln,E ++ [p],r,rfl,by go_num,by omega,by simp;omega,by omega,HP2,HL2,O2,B2⟩
   case measure=>simp [intOf];omega
  ·obtain rfl:g = .nil:=by
    cases g with
    | nil=>rfl
    | cons s m kk r=>simp [Fl.len] at hk;omega
   have HPE:=hi9 (show zc6 1 f=E by rw [hP.out];simp [zc6])
   have hkf:k=f.len:=by omega
   obtain⟨A',c',hv',hc',hint⟩:=zgG hown.out
   subst hv'
   have HI:=hi9 hint
   have hEl:E.length=f.len:=by omega
   rw [hEl] at *
   clear hL hP hown hint
   go_wp2_with fail
   go_ret
   exact⟨A',c',rfl,by omega,by rw [HPE.out];exact HI.out,hB.out⟩
theorem zbY(f:Fl)(hv:f.validFrom emp)(A:Option Addr)(n c:Nat)(s:ByteArray)(w:World)(h:Ns w A n c (Kd.fs f).flat)(hl:n≤4000)(hs:s.size≤maxLen):
 Calls Tryz.prog 65 #[.slice A n c,.string s] w fun e w'=>e = .returned (.int .i64 (zcu 1 f s))∧Below w.heap.size w w':=by
 have FO:=hi9 (zfN f hv A n c w h hl);have HN:=hi9 h;have HS:=hi9 (za9.start hv);have hfn:f.len<n:=by
  rw [h.len,Kd.flat,List.length_cons];have:∀g:Fl,g.len≤g.flat.length:=fun g=>by
   induction g using Fl.rec (motive_1:=fun _=>True) with
   | nil=>exact Nat.zero_le _
   | cons s m k r _ ih=>simp only [Fl.len,Fl.flat,List.length_cons,List.length_append];omega
   | _=>trivial
  have:=this f;omega
 have HPL:=hi9 (zh7 f 1);generalize (Kd.fs f).flat=t at *;clear h hv;go_enter Tryz.func65,Tryz.ntmps65;go_wp2_with fail;refine(FO.out).mono ?_;rintro e w1 ⟨A',c',rfl,hc',hI,b1⟩;have B1:=hi9 b1;have HI:=hi9 hI;clear b1 hI FO;go_wp2_with fail;go_loopw [6] (fun i wr=>∃(k p:Nat) (g:Fl),i = .int .i64 k∧k+g.len=f.len∧Hid (zc6 p g=(zc6 1 f).drop k)∧Hid (zcu 1 f s=zcu p g s)∧Hid (za9 t p g)∧Hid (Below w1.heap.size w1 wr)) (fun i _=>f.len-(intOf i).toNat)
 case atStart=>exact⟨0,1,f,rfl,by omega,rfl,rfl,HS.out,Below.refl _ _⟩
 case round =>
  obtain⟨k,p,g,rfl,hk,hP,hQ,hL,hB⟩:=hrel;have BW:=hi9 (B1.out.trans (hB.out.mono B1.out.size));by_cases hlt:k<f.len
  ·obtain⟨u,m,kk,r,rfl⟩:∃s m kk r,g = .cons s m kk r:=by
    cases g with
    | nil=>simp [Fl.len] at hk;omega
    | cons s m kk r=>exact⟨s,m,kk,r,rfl⟩
   obtain⟨hf,hL2⟩:=hL.out.head
   have hle:=hf.le
   rw [←HN.out.len] at hle
   have hpe:(zc6 1 f)[k]?=some p:=by
    have:=congrArg (fun l=>l[0]?) hP.out;simp only [zc6,List.getElem?_cons_zero,List.getElem?_drop,Nat.add_zero] at this;exact this.symm
   obtain⟨ai,rfl,hci⟩:=(HI.out.keep hB.out) k p hpe
   obtain⟨a,rfl,d0,d1,d2,d3⟩:=(HN.out.keep BW.out).at_ p _ hf.nd
   have HP2:=hi9 (show zc6 (p+1+kk.flat.length) r=(zc6 1 f).drop (k+1) by
    have:=congrArg (List.drop 1) hP.out
    rw [List.drop_drop] at this
    simpa [zc6] using this)
   have HL2:=hi9 hL2
   have hk2:k+1+r.len=f.len:=by simp only [Fl.len] at hk;omega
   simp only [zbM] at d0 d1 d2 d3
   have hpn:p<n:=by omega
   clear hf hL hL2 hP hk hpe d0 d1 d3
   by_cases hus:u=s
   ·subst hus
    have HR:=hi9 (show zcu 1 f u=(p:Int) by rw [hQ.out];simp [zcu]);clear hQ;go_wp2_with fail;go_ret;exact⟨by rw [HR.out];rfl,BW.out⟩
   ·have HR:=hi9 (show zcu 1 f s=zcu (p+1+kk.flat.length) r s by rw [hQ.out];simp [zcu,hus])
    have f2:(u.toList==s.toList)=false:=beq_eq_false_iff_ne.2 (fun e=>hus (toList_inj e));clear hQ hus;go_wp2_with fail;go_roundw
    case rel=>exact⟨k+1,_,r,by go_num,hk2,HP2,HR,HL2,hB⟩
    case measure=>simp [intOf];omega
  ·obtain rfl:g = .nil:=by
    cases g with
    | nil=>rfl
    | cons s m kk r=>simp [Fl.len] at hk;omega
   have HR:=hi9 (show zcu 1 f s = -1 by rw [hQ.out];rfl)
   clear hQ hP hL
   go_wp2_with fail
   go_ret
   exact⟨by rw [HR.out];rfl,BW.out⟩
theorem zce(t:List Nd)(q:Nat)(s:ByteArray)(m:Bool)(k:Kd)(hf:zff t q s m k)(a:Addr)(n c:Nat)(w:World)(h:Ns w (some a) n c t):
 Calls Tryz.prog 67 #[.slice (some a) n c,.int .i64 q] w fun e w'=>e = .returned (.slice (some (a.add ((q+1)*4))) k.flat.length (c-(q+1)))∧Below w.heap.size w w':=by
 have K:=hi9 (zkw h (q+1));rw [hf.end_] at K;have hle:=hf.le;rw [←h.len] at hle;have hc:=h.cap;have hm:=h.max;unfold maxLen at hm;have hpos:=jL k;generalize k.flat.length=ln at *;have hq1:q+1<c:=by omega
 clear h hf;go_enter Tryz.func67,Tryz.ntmps67;go_wp2_with fail;refine(K.out).mono ?_;rintro e w1 ⟨rfl,b1⟩;have B1:=hi9 b1;clear b1;go_wp2_with fail
 all_goals first
  |(exfalso;omega)
  |(go_ret;exact⟨by show Ending.returned (Value.slice _ (q+1+ln-(q+1)) _)=_;rw [show q+1+ln-(q+1)=ln by omega],B1.out⟩)
theorem zex{t:List Nd}{q:Nat}{s:ByteArray}{m:Bool}{k:Kd}(hf:zff t q s m k){a:Addr}{n c:Nat}{w:World}(h:Ns w (some a) n c t):Ns w (some (a.add ((q+1)*4))) k.flat.length (c-(q+1)) k.flat:=by
 have hle:=hf.le;have:=zgw h (i:=q+1) (j:=q+1+k.flat.length) (by omega) (by rw [h.len];exact hle);rw [hf.seg,show q+1+k.flat.length-(q+1)=k.flat.length by omega] at this;exact this
theorem zbA(A:Option Addr)(n c:Nat)(P:List Nd)(p:Nat)(f:Bool)(x:Ex)(w:World)(h:Ns w A n c P)(hn:n≤4000)(hx:XAt P p f x):
 Calls Tryz.prog 27 #[.slice A n c,.int .i64 p] w fun e w'=>∃A' c',e = .returned (.slice A' (x.parts.len+1) c')∧x.parts.len+1≤c'∧zfc w' A' (zaK (zA x.head) (p+1) x.parts)∧(∀a,A'=some a→w.heap.size≤a.block)∧Below w.heap.size w w':=by
 obtain⟨i0,hi,hz0,hz1,hz2⟩:=info_parts zqS;obtain⟨a,rfl,d0,d1,d2,d3⟩:=h.at_ p _ hx.head;have HLn:=hi9 h.len;have HXL:=hi9 hx.le;have hpn:p<n:=by rw [h.len];exact(List.getElem?_eq_some_iff.1 hx.head).1
 have HXS:=hi9 hx.parts;have hpl:zp x.head=(x.parts.len:Int):=by
  obtain⟨y,ps⟩:=x;exact hx.valid.2.1.symm
 have hll:x.parts.len+p+1≤n:=by
  have h1:=hx.le;have h2:=zam x.parts;have h3:x.flat.length=x.parts.flat.length+1:=by cases x;simp [Ex.flat,Ex.parts]
  rw [h.len];omega
 have CP:=hi9 (fun w=>zbk x.head w);rw [hpl] at CP;unfold ndV at CP;have CB:=hi9 (fun(q:Nat) w' (hb:Below w.heap.size w w')=>zen P (some a) n c n q w' (h.keep hb) (Nat.sub_le _ _));have HR:=hi9 (show∀b:Bool,zA x.head=b→(x.head.op==6)=b from fun b hb=>hb);generalize x.parts=ps at *;generalize x.head=y at *;clear h hx hpl;have B0:=hi9 (za w (.cells #[.int .i64 y.op,.int .i64 y.n,.string y.s,.string y.t] 41));have V0:=hi9 (zfj w y 41);have O0:=World.ownsRow_lit (e:=3) (size:=1) (base:=w.heap.size+1) (w.alloc (.cells #[.int .i64 y.op,.int .i64 y.n,.string y.s,.string y.t] 41)) #[] 0 (by simp) (Nat.zero_le _) rfl;rw [show(w.alloc (.cells #[.int .i64 y.op,.int .i64 y.n,.string y.s,.string y.t] 41)).heap.size=w.heap.size+1 by simp] at O0;have O1:=hi9 O0;have B1:=hi9 (B0.out.alloc (by simp) (.cells #[] 3));have V1:=hi9 (V0.out.keep (za _ (.cells #[] 3)));clear O0 B0 V0;go_enter Tryz.func27,Tryz.ntmps27;go_wp2_with fail;go_loopw [1,6,7] (fun u v i wr=>∃(k q:Nat) (E:List Nat) (R:Exs),u = .int .i64 q∧i = .int .i64 k∧k+R.len=ps.len∧E.length=k∧q≤n∧Hid (zaK (zA y) (p+1) ps=E ++ zaK (zA y) q R)∧Hid (zcB P q (zA y) R)∧Hid (wr.ownsRow (w.heap.size+1) 3 1 v E.length (zdh E))∧Hid (Below w.heap.size w wr)∧Hid (Vn wr w.heap.size y)) (fun _ _ i _=>ps.len-(intOf i).toNat)
 case atStart=>exact⟨0,p+1,[],ps,by go_num,rfl,by omega,rfl,by omega,hi9 rfl,HXS,O1,B1,V1⟩
 case round =>
  clear O1 B1 V1 d0 d1 d2 d3;obtain⟨k,q,E,R,rfl,rfl,hk,hE,hq,hP,hXs,hown,hB,hV⟩:=hrel;obtain⟨v0,v1,v2,v3⟩:=hV.out;go_wp2_with fail;refine(CP.out _).mono ?_;rintro e w2 ⟨rfl,b2⟩;have B2:=bh hB b2;have V2:=hi9 (hV.out.keep b2);have HSZ:=hi9 (show w.heap.size<wr.heap.size from block_lt_of_cell v0);have O2:=hi9 (z8 hown.out b2);clear b2 hB hV hown v0 v1 v2 v3;obtain⟨v0,v1,v2,v3⟩:=V2.out;by_cases hlt:k<ps.len
  ·obtain⟨x1,r,rfl⟩:∃x1 r,R = .cons x1 r:=by
    cases R with
    | nil=>simp [Exs.len] at hk;omega
    | cons x1 r=>exact⟨x1,r,rfl⟩
   have hk2:k+1+r.len=ps.len:=by simp only [Exs.len] at hk;omega
   have HSZ2:w.heap.size+1≤w2.heap.size:=Nat.succ_le_of_lt (block_lt_of_cell v0)
   clear hk
   rcases hr:zA y with _|_
   ·have g2:(y.op==6)=false:=HR.out _ hr
    rw [hr] at hP hXs;obtain⟨h1,h2⟩:=hXs.out.head;have hze:=h1.end_;have hzle:=h1.le;rw [←HLn.out] at hzle;have HE:=hi9 hze;have HX2:=hi9 (show zcB P (q+x1.flat.length) (zA y) r by rw [hr];exact h2);have HP2:=hi9 (show zaK (zA y) (p+1) ps=(E ++ [q])++ zaK (zA y) (q+x1.flat.length) r by rw [hr,hP.out];simp [zaK]);generalize x1.flat.length=ln at *;clear hP hXs h1 h2 hze hr;go_wp2_with (at_builtin;refine wpList_append_own _ rfl _ _ 67 rfl (w.heap.size+1) 3 i0 _ 1 8 Tryz.underlying67 hi hz0 hz1 hz2 rfl (by decide) _ E.length (zdh E) rfl (O2.out.alloc _) ⟨_,0,none⟩ 1 1 [.int .i64 ((q:Nat):Int)] rfl rfl (zV _ _ _) (zhr _) (by unfold maxLen;omega) (by omega) ?c5 ?_)
    case c5=>simp;omega
    intro v1' w3 hown1 hgrow1 _;have b3:Below (w.heap.size+1) w2 w3:=((Below.refl (w.heap.size+1) w2).alloc HSZ2 _).grown hgrow1 (by simp;omega) (zD O2.out);have B3:=hi9 (show Below w.heap.size w w3 from(B2.out.alloc B2.out.size _).grown hgrow1 (by simp;have:=B2.out.size;omega) (fun g hg=>Nat.le_of_succ_le (zD O2.out g hg)));have O3:=hi9 (zfF (E:=E) (x:=q) (by rw [hE];exact hown1));have V3:=hi9 (show Vn w3 w.heap.size y from⟨(b3.cell (p:=⟨w.heap.size,0,none⟩) (Nat.lt_succ_self _)).trans v0,(b3.cell (p:=⟨w.heap.size,1,none⟩) (Nat.lt_succ_self _)).trans v1,(b3.cell (p:=⟨w.heap.size,2,none⟩) (Nat.lt_succ_self _)).trans v2,(b3.cell (p:=⟨w.heap.size,3,none⟩) (Nat.lt_succ_self _)).trans v3⟩);clear b3 hown1 hgrow1 B2 O2 V2 v0 v1 v2 v3 HSZ HSZ2;have CK:=hi9 (CB.out q w3 B3.out);rw [HE.out] at CK;go_wp2_with fail;refine CK.out.mono ?_;rintro e w4 ⟨rfl,b4⟩;have B4:=bh B3 b4;have V4:=hi9 (V3.out.keep b4);have O4:=hi9 (z8 O3.out b4);clear b4 B3 V3 O3 HE CK;go_wp2_with fail;go_roundw
    case rel=>exact⟨k+1,q+ln,E ++ [q],r,rfl,by go_num,hk2,by simp;omega,by omega,HP2,HX2,O4,B4,V4⟩
    case measure=>simp [intOf];omega
   ·have g2:(y.op==6)=true:=HR.out _ hr
    rw [hr] at hP hXs;obtain⟨h1,h2⟩:=hXs.out.head;obtain⟨n1,z,-,-,-,hz,hzl⟩:=h1.field;have hze:=hz.end_;have hzle:=hz.le;rw [show q+1+z.flat.length=q+x1.flat.length by omega] at hze hzle;rw [←HLn.out] at hzle;have HE:=hi9 hze;have HX2:=hi9 (show zcB P (q+x1.flat.length) (zA y) r by rw [hr];exact h2);have HP2:=hi9 (show zaK (zA y) (p+1) ps=(E ++ [(q+1)])++ zaK (zA y) (q+x1.flat.length) r by rw [hr,hP.out];simp [zaK]);generalize x1.flat.length=ln at *;clear hP hXs h1 h2 hze hz hzl hr;go_wp2_with (at_builtin;refine wpList_append_own _ rfl _ _ 67 rfl (w.heap.size+1) 3 i0 _ 1 8 Tryz.underlying67 hi hz0 hz1 hz2 rfl (by decide) _ E.length (zdh E) rfl (O2.out.alloc _) ⟨_,0,none⟩ 1 1 [.int .i64 (((q+1):Nat):Int)] rfl rfl (zV _ _ _) (zhr _) (by unfold maxLen;omega) (by omega) ?c5 ?_)
    case c5=>simp;omega
    intro v1' w3 hown1 hgrow1 _;have b3:Below (w.heap.size+1) w2 w3:=((Below.refl (w.heap.size+1) w2).alloc HSZ2 _).grown hgrow1 (by simp;omega) (zD O2.out);have B3:=hi9 (show Below w.heap.size w w3 from(B2.out.alloc B2.out.size _).grown hgrow1 (by simp;have:=B2.out.size;omega) (fun g hg=>Nat.le_of_succ_le (zD O2.out g hg)));have O3:=hi9 (zfF (E:=E) (x:=(q+1)) (by rw [hE];exact hown1));have V3:=hi9 (show Vn w3 w.heap.size y from⟨(b3.cell (p:=⟨w.heap.size,0,none⟩) (Nat.lt_succ_self _)).trans v0,(b3.cell (p:=⟨w.heap.size,1,none⟩) (Nat.lt_succ_self _)).trans v1,(b3.cell (p:=⟨w.heap.size,2,none⟩) (Nat.lt_succ_self _)).trans v2,(b3.cell (p:=⟨w.heap.size,3,none⟩) (Nat.lt_succ_self _)).trans v3⟩);clear b3 hown1 hgrow1 B2 O2 V2 v0 v1 v2 v3 HSZ HSZ2;have CK:=hi9 (CB.out (q+1) w3 B3.out);rw [HE.out] at CK;go_wp2_with fail;refine CK.out.mono ?_;rintro e w4 ⟨rfl,b4⟩;have B4:=bh B3 b4;have V4:=hi9 (V3.out.keep b4);have O4:=hi9 (z8 O3.out b4);clear b4 B3 V3 O3 HE CK;go_wp2_with fail;go_roundw
    case rel=>exact⟨k+1,q+ln,E ++ [(q+1)],r,rfl,by go_num,hk2,by simp;omega,by omega,HP2,HX2,O4,B4,V4⟩
    case measure=>simp [intOf];omega
  ·obtain rfl:R = .nil:=by
    cases R with
    | nil=>rfl
    | cons x1 r=>simp [Exs.len] at hk;omega
   have hkf:k=ps.len:=by omega
   have HPE:=hi9 (show zaK (zA y) (p+1) ps=E ++ [q] by rw [hP.out];simp [zaK])
   have HSZ2:w.heap.size+1≤w2.heap.size:=Nat.succ_le_of_lt (block_lt_of_cell v0)
   clear hP hXs hk
   go_wp2_with (at_builtin;refine wpList_append_own _ rfl _ _ 67 rfl (w.heap.size+1) 3 i0 _ 1 8 Tryz.underlying67 hi hz0 hz1 hz2 rfl (by decide) _ E.length (zdh E) rfl (O2.out.alloc _) ⟨_,0,none⟩ 1 1 [.int .i64 (q:Int)] rfl rfl (zV _ _ _) (zhr _) (by unfold maxLen;omega) (by omega) ?c5 ?_)
   case c5=>simp;omega
   intro v1' w3 hown1 hgrow1 _
   have B3:=hi9 (show Below w.heap.size w w3 from(B2.out.alloc B2.out.size _).grown hgrow1 (by simp;have:=B2.out.size;omega) (fun g hg=>Nat.le_of_succ_le (zD O2.out g hg)))
   have O3:=zfF (E:=E) (x:=q) (by rw [hE,hkf];exact hown1)
   obtain⟨A',c',hv',hc',hint⟩:=zgG O3
   subst hv'
   have HFR:=hi9 (show∀a,A'=some a→w.heap.size≤a.block from fun a e=>Nat.le_of_succ_le (zD O3 a.block (by rw [e];rfl)))
   have HI:=hi9 hint
   have hEl:(E ++ [q]).length=ps.len+1:=by simp;omega
   rw [hEl] at hc' ⊢
   clear hint hown1 hgrow1 O3 hlt
   go_wp2_with fail
   go_ret
   exact⟨A',c',rfl,hc',by rw [HPE.out];exact HI.out,HFR.out,B3.out⟩
theorem zlT(A:Option Addr)(n c:Nat)(P:List Nd)(p:Nat)(f:Bool)(x:Ex)(w:World)(h:Ns w A n c P)(hn:n≤4000)(hx:XAt P p f x):
 Calls Tryz.prog 27 #[.slice A n c,.int .i64 p] w fun e w'=>∃A' c',e = .returned (.slice A' (x.parts.len+1) c')∧x.parts.len+1≤c'∧zfc w' A' (zaK (zA x.head) (p+1) x.parts)∧Below w.heap.size w w' :=
 (zbA A n c P p f x w h hn hx).mono fun _ _ ⟨A',c',h1,h2,h3,_,h5⟩=>⟨A',c',h1,h2,h3,h5⟩
end Go.Proofs.YtjcdeikbghjpkaaGreatDoor
namespace Go.Proofs.YtjcdeikbghjpkaaGreatDoor
open Go.RowKit Go.Wk
end Go.Proofs.YtjcdeikbghjpkaaGreatDoor
namespace Go.Wk
end Go.Wk
namespace Go.Proofs.YtjcdeikbghjpkaaGreatDoor
open Go.RowKit Go.Wk Go.Maps
theorem Vr2.but{w w':World}{b:Nat}{x y:Value}{g:Option Nat}(h:Vr2 w b x y)(hg:w.grownBy w' g)(hn:some b≠g):Vr2 w' b x y :=
 have hl:=block_lt_of_cell h.c0
 have hb:=hg.block b hl hn
 ⟨(World.cell?_of_block (a:=⟨b,0,none⟩) hb).trans h.c0,(World.cell?_of_block (a:=⟨b,1,none⟩) hb).trans h.c1,(World.frozen?_of_block (a:=⟨b,0,none⟩) hb).trans h.z0,(World.frozen?_of_block (a:=⟨b,1,none⟩) hb).trans h.z1⟩
end Go.Proofs.YtjcdeikbghjpkaaGreatDoor
