/-
  The reference's Fields, Behind and Fault: where an expression ends. ref ..
-/
import Derived.Test.YtokiogmfgpidmaaGreatDoorD39
set_option maxRecDepth 100000
set_option maxHeartbeats 8000000
namespace Go.Proofs.YtokiogmfgpidmaaGreatDoor
open Go.RowKit Go.Wk Go.Sort
def RbC(P:List Nd)(A:Option Addr)(n c m:Nat):Prop:=∀(p:Nat) (w:World),Ns w A n c P->n-p<=m->
 Calls Tryz.prog 22 #[.slice A n c,.int .i64 p] w λe w'=>e = .returned (.int .i64 (jQ P p false))/\Below w.heap.size w w'
theorem zhC(P:List Nd)(A:Option Addr)(n c p:Nat)(w:World)(h:Ns w A n c P)(hp:n<=p):
 Calls Tryz.prog 22 #[.slice A n c,.int .i64 p] w λe w'=>e = .returned (.int .i64 (jQ P p false))/\Below w.heap.size w w':=by
 have HR:=O (QH (t:=P) (p:=p) (f:=false) (by rw [<-h.len];exact hp));have f0:decide (n<=p)=true:=decide_eq_true (by omega);have f1:decide ((p:Int)<0)=false:=decide_eq_false (by omega);clear h;go_enter Tryz.func22,Tryz.ntmps22;go_wp2_with fail;go_ret;exact⟨by rw [HR.o];rfl,Below.refl _ _⟩
theorem zdB{t:List Nd}{s:ByteArray}{c p:Nat}{y:Nd}(h:t[p]?=some y):(¬(y.op=7/\je y=true/\jh s y.s<0)->px t (c+1) true s p = -1)/\
 (y.op=7/\je y=true/\jh s y.s<0->px t (c+1) true s p=if 0<=jQ t (p+1) false then px t c true y.s (jQ t (p+1) false).toNat else -1):=by
 rw [IQ h,zdT h];constructor
 ·intro hn;by_cases h1:jh s y.s<0
  ·rw [if_neg (by simp [h1])];have h2:jC true y=false:=by
    unfold jC;by_cases hf:je y=true
    ·rw [hf,Bool.true_and,decide_eq_false (λq=>hn ⟨q,hf,h1⟩)];rfl
    ·rw [show je y=false by simpa using hf];rfl
   rw [if_neg (by simp [h2])]
   try rfl
  ·rw [if_pos ⟨rfl,h1⟩]
 ·rintro ⟨h1,h2,h3⟩;have h4:jC true y=true:=by unfold jC;rw [h2,decide_eq_true h1];rfl
  rw [if_neg (by simp [h3]),if_pos h4]
theorem zk1(P:List Nd)(m:Nat)(a:Addr)(n c q:Nat)(w:World)(ih:RbC P (some a) n c m)(Gy:Ns w (some a) n c P)(hq:q<n)(hf:n-q<=m+1):
 Calls Tryz.prog 22 #[.slice (some a) n c,.int .i64 q] w λe w'=>e = .returned (.int .i64 (jQ P q false))/\Below w.heap.size w w':=by
 have hm:=Gy.max;unfold maxLen at hm;have Tj:=O Gy;have Ng:=O Gy.len;have hql:q<P.length:=by rw [<-Gy.len];exact hq
 have ZA:=List.getElem?_eq_getElem hql;have hok:=Gy.ok _ (List.getElem_mem hql);have IH:=O (λp w' (hp:q<p) hb=>ih p w' (Gy.keep (w':=w') hb) (by omega));have CF:=O (λp (hp:p<P.length) w'=>UY P[p] w' (Gy.ok _ (List.getElem_mem hp)));obtain⟨a',ea,d0,d1,d2,d3⟩:=Gy.at_ q _ ZA;injection ea with ea;subst ea;have CS:=O (UY P[q] w hok);have CP:=O (λw=>Gm P[q] w);have hpl:=W8 hok;obtain⟨x,hx⟩:∃x,x=P[q]:=⟨_,rfl⟩
 rw [<-hx] at ZA hok d0 d1 d2 d3 CS CP hpl;have HX:=O ZA;clear hx ZA Gy ih hok;have HXE:=O (show Nd4 w (a.add (q*4)) x from⟨d0,d1,d2,d3⟩);unfold ndV at CS CP CF;have f0:decide (n<=q)=false:=decide_eq_false (by omega);have f1:decide ((q:Int)<0)=false:=decide_eq_false (by omega);by_cases ZF:je x=true
 ·rw [ZF] at CS;have HH:=O (zbo (f:=false) ZF);have HP0:=O (Pa ZF);clear ZF;go_enter Tryz.func22,Tryz.ntmps22;go_wp2_with fail;refine CS.o.mono ?_;rintro e w1 ⟨rfl,b1⟩;have B1:=O b1;have zkv:=O (HXE.o.keep b1);obtain⟨e0,e1,e2,e3⟩:=zkv.o;clear b1 CS HXE d0 d1 d2 d3;have he:(x.op==7)=decide (x.op=7):=rfl;by_cases hh:x.op=7
  ·have HE:=O (show jQ P q false = -1 from NF HX.o (by rw [HH.o,decide_eq_true hh];rfl));have f2:(x.op==7)=true:=beq_iff_eq.2 hh;clear hh he;go_wp2_with fail;go_ret;exact⟨by rw [HE.o];rfl,B1.o⟩
  ·have HE:=O (show jQ P q false=px P (zC x).toNat (zB x) emp (q+1) from Rc HX.o (by rw [HH.o,decide_eq_false hh];rfl));have f2:(x.op==7)=false:=beq_eq_false_iff_ne.2 hh;obtain⟨M,hM⟩:∃M:Nat,zC x=(M:Int):=⟨(zC x).toNat,by have:=HP0.o;omega⟩
   rw [hM] at CP hpl;rw [hM,Int.toNat_natCast] at HE;have B2:=O (B1.o.trans ((zb w1 (.cells #[.int .i64 x.op,.int .i64 x.n,.string x.s,.string x.t] 28)).mono B1.o.size));have V2:=O (LW w1 x 28);clear hh he hM HH HP0 HX;go_wp2_with fail;go_loopw [1,6,7] (λu l i wr=>∃(k p:Nat) (last:ByteArray),u = .int .i64 p/\l = .string last/\i = .int .i64 k/\k<=M/\q<p/\p<=n/\Hid (last.size<=maxLen)/\Hid (jQ P q false=px P (M-k) (zB x) last p)/\Hid (Below w.heap.size w wr)/\Hid (Vn wr w1.heap.size x)) (λ_ _ i _=>M-(intOf i).toNat)
   case atStart=>exact⟨0,q+1,⟨#[]⟩,by go_num,rfl,rfl,Nat.zero_le _,Nat.lt_succ_self _,hq,O (Nat.zero_le _),HE,B2,V2⟩
   case round =>
    clear zkv e0 e1 e2 e3 B1 B2 V2 HE;obtain⟨k,p,last,rfl,rfl,rfl,hk,hqp,hpn,hLS,hF,hB,hV⟩:=hrel;obtain⟨v0,v1,v2,v3⟩:=hV.o;have HWR:=O (block_lt_of_cell v0);go_wp2_with fail;refine(CP.o _).mono ?_;rintro e w3 ⟨rfl,b3⟩;have B3:=bh hB b3;have V3:=O (hV.o.keep b3);clear b3 hB hV v0 v1 v2 v3 HWR;obtain⟨v0,v1,v2,v3⟩:=V3.o;by_cases hlt:k<M
    ·have g1:decide ((k:Int)<(M:Int))=true:=decide_eq_true (by omega);have HF:=O (show jQ P q false=px P (M-(k+1)+1) (zB x) last p by rw [hF.o,show M-k=M-(k+1)+1 by omega]);clear hF;by_cases h6:x.op=6
     ·have hr:zB x=true:=by unfold zB;exact decide_eq_true h6
      rw [hr] at HF;have HRC:=O hr;have g2:(x.op==6)=true:=beq_iff_eq.2 h6;clear hr h6;by_cases hpn2:p<n
      ·have hpl:p<P.length:=by rw [<-Ng.o];exact hpn2
       have g3:decide (n<=p)=false:=decide_eq_false (by omega);obtain⟨a',ea,e0,e1,e2,e3⟩:=(Tj.o.keep B3.o).at_ p _ (List.getElem?_eq_getElem hpl);injection ea with ea;subst ea;have HYS:=O (Tj.o.ok _ (List.getElem_mem hpl)).s;have HN:=O (zdB (s:=last) (c:=M-(k+1)) (List.getElem?_eq_getElem hpl));have CY:=O (CF.o p hpl);have V2:=O (λw=>Mj last P[p].s w hLS.o HYS.o);obtain⟨y,hy⟩:∃y,y=P[p]:=⟨_,rfl⟩
       rw [<-hy] at e0 e1 e2 e3 HYS HN CY V2;clear hy;have HYE:=O (show Nd4 w3 (a.add (p*4)) y from⟨e0,e1,e2,e3⟩);by_cases h7:y.op=7
       ·have g4:(y.op != 7)=false:=by rw [bne_eq_false_iff_eq];exact h7
        by_cases hfy:je y=true
        ·rw [hfy] at CY;by_cases hc:0<=jh last y.s
         ·have WG:=O (show jQ P q false = -1 by rw [HF.o,HN.o.1 (λ⟨_,_,h⟩=>by omega)]);have g5:decide (0<=jh last y.s)=true:=decide_eq_true hc;clear hc hfy h7 HN;generalize jh last y.s=cc at *;go_wp2_with fail;refine(CY.o _).mono ?_;rintro e w4 ⟨rfl,b4⟩;have B4:=bh B3 b4;obtain⟨y0,y1,y2,y3⟩:=(HYE.o.keep b4)
          clear b4 e0 e1 e2 e3 v0 v1 v2 v3 V3;go_wp2_with fail;refine(V2.o _).mono ?_;rintro e w5 ⟨rfl,b5⟩;have B5:=bh B4 b5;go_wp2_with fail;go_ret;exact⟨by rw [WG.o];rfl,B5.o⟩
         ·have HGV:=O (HF.o.trans (HN.o.2 ⟨h7,hfy,by omega⟩));have g5:decide (0<=jh last y.s)=false:=decide_eq_false hc;clear hc hfy h7 HN HF;generalize jh last y.s=cc at *;go_wp2_with fail;refine(CY.o _).mono ?_;rintro e w4 ⟨rfl,b4⟩;have B4:=bh B3 b4;have Y4:=O (HYE.o.keep b4);obtain⟨y0,y1,y2,y3⟩:=Y4.o;have V4:=O (V3.o.keep b4);clear b4 e0 e1 e2 e3 v0 v1 v2 v3 V3;go_wp2_with fail;refine(V2.o _).mono ?_;rintro e w5 ⟨rfl,b5⟩;have B5:=bh B4 b5;have Y5:=O (Y4.o.keep b5);have V5:=O (V4.o.keep b5);clear b5 Y4 V4 y0 y1 y2 y3;obtain⟨y0,y1,y2,y3⟩:=Y5.o;obtain⟨v0,v1,v2,v3⟩:=V5.o;go_wp2_with fail;refine(IH.o (p+1) _ (by omega) B5.o).mono ?_;rintro e w6 ⟨rfl,b6⟩;have B6:=bh B5 b6;have V6:=O (V5.o.keep b6);clear b6 Y5 V5 y0 y1 y2 y3 v0 v1 v2 v3;by_cases hk0:0<=jQ P (p+1) false
          ·obtain⟨e',he,hep,Zz⟩:=Qv hk0;have HF2:=O (show jQ P q false=px P (M-(k+1)) (zB x) y.s e' by
            have h1:=HGV.o
            rw [if_pos hk0,he,Int.toNat_natCast] at h1
            rw [h1,HRC.o])
           have hen:e'<=n:=by rw [Ng.o];exact Zz
           have g6:decide ((e':Int)<0)=false:=decide_eq_false (by omega);rw [he];clear hk0 he Zz;go_wp2_with fail;go_roundw
           case rel=>exact⟨k+1,e',y.s,rfl,rfl,by go_num,hlt,by omega,hen,HYS,HF2,B6,V6⟩
           case measure=>simp [intOf];omega
          ·have WG:=O (show jQ P q false = -1 by rw [HGV.o,if_neg hk0]);rw [NV hk0];clear hk0;go_wp2_with fail;go_ret;exact⟨by rw [WG.o];rfl,B6.o⟩
        ·have WG:=O (show jQ P q false = -1 by rw [HF.o,HN.o.1 (λ⟨_,h,_⟩=>hfy h)]);rw [show je y=false by simpa using hfy] at CY;clear hfy h7 HN;go_wp2_with fail;refine(CY.o _).mono ?_;rintro e w4 ⟨rfl,b4⟩;have B4:=bh B3 b4;clear b4;go_wp2_with fail;go_ret;exact⟨by rw [WG.o];rfl,B4.o⟩
       ·have WG:=O (show jQ P q false = -1 by rw [HF.o,HN.o.1 (λ⟨h,_,_⟩=>h7 h)]);have g4:(y.op != 7)=true:=by rw [bne_iff_ne];exact h7
        clear h7 HN;go_wp2_with fail;go_ret;exact⟨by rw [WG.o];rfl,B3.o⟩
      ·have WG:=O (show jQ P q false = -1 by rw [HF.o,Kk (by rw [<-Ng.o];omega)]);have g3:decide (n<=p)=true:=decide_eq_true (by omega);go_wp2_with fail;go_ret;exact⟨by rw [WG.o];rfl,B3.o⟩
     ·have hr:zB x=false:=by unfold zB;exact decide_eq_false h6
      have HRC:=O hr;have g2:(x.op==6)=false:=beq_eq_false_iff_ne.2 h6;have HGV:=O (HF.o.trans ((congrArg (λb=>px P (M-(k+1)+1) b last p) hr).trans RH));clear hr HF h6;go_wp2_with fail;refine(IH.o p _ hqp B3.o).mono ?_;rintro e w6 ⟨rfl,b6⟩;have B6:=bh B3 b6;have V6:=O (V3.o.keep b6);clear b6 V3 v0 v1 v2 v3;by_cases hk0:0<=jQ P p false
      ·obtain⟨e',he,hep,Zz⟩:=Qv hk0;have HF2:=O (show jQ P q false=px P (M-(k+1)) (zB x) last e' by
        have h1:=HGV.o
        rw [if_pos hk0,he,Int.toNat_natCast] at h1
        rw [h1,HRC.o])
       have hen:e'<=n:=by rw [Ng.o];exact Zz
       have g6:decide ((e':Int)<0)=false:=decide_eq_false (by omega);rw [he];clear hk0 he Zz;go_wp2_with fail;go_roundw
       case rel=>exact⟨k+1,e',last,rfl,rfl,by go_num,hlt,by omega,hen,hLS,HF2,B6,V6⟩
       case measure=>simp [intOf];omega
      ·have WG:=O (show jQ P q false = -1 by rw [HGV.o,if_neg hk0]);rw [NV hk0];clear hk0;go_wp2_with fail;go_ret;exact⟨by rw [WG.o];rfl,B6.o⟩
    ·have Kq:=O (show jQ P q false=(p:Int) by
      rw [hF.o,show M-k=0 by omega]
      exact Pf (by rw [<-Ng.o];exact hpn))
     have g1:decide ((k:Int)<(M:Int))=false:=decide_eq_false (by omega);clear hF;go_wp2_with fail;go_ret;exact⟨by rw [Kq.o];rfl,B3.o⟩
 ·have ZF:je x=false:=by simpa using ZF
  rw [ZF] at CS;have HE:=O (show jQ P q false = -1 from NF HX.o (zbm ZF));clear ZF;go_enter Tryz.func22,Tryz.ntmps22;go_wp2_with fail;refine CS.o.mono ?_;rintro e w1 ⟨rfl,b1⟩;have B1:=O b1;clear b1 CS HXE d0 d1 d2 d3;go_wp2_with fail;go_ret;exact⟨by rw [HE.o];rfl,B1.o⟩
theorem Od(P:List Nd)(A:Option Addr)(n c:Nat):∀m,RbC P A n c m
 | 0=>λp w h hm=>zhC P A n c p w h (by omega)
 | m+1=>λp w h hm=>by
  by_cases hp:p<n
  ·rcases A with _|a
   ·have:=h.at_ p _ (List.getElem?_eq_getElem (by rw [<-h.len];exact hp));obtain⟨a,e,-⟩:=this;cases e
   ·exact zk1 P m a n c p w (Od P (some a) n c m) h hp hm
  ·exact zhC P A n c p w h (by omega)
def Oh(w:World)(A:Option Addr)(E:List Nat):Prop:=∀(k e:Nat),E[k]?=some e->∃a,A=some a/\w.cell? (a.add k)=some (.int .i64 (e:Int))
theorem Oh.keep{w w':World}{A:Option Addr}{E:List Nat}(h:Oh w A E)(hb:Below w.heap.size w w'):Oh w' A E:=λk e he=>by
 obtain⟨a,q1,q2⟩:=h k e he;exact⟨a,q1,za hb q2⟩
def Oi(E:List Nat):List Value:=E.map λe:Nat=>Value.int .i64 (e:Int)
theorem zap{w:World}{B:Nat}{v:Value}{E:List Nat}(h:w.ownsRow B 3 1 v E.length (Oi E)):∃A c,v = .slice A E.length c/\E.length<=c/\Oh w A E:=by
 rcases h.2 with ⟨rfl,h0⟩|⟨g,cap,cur,rfl,_,_,hc,_⟩
 ·have:E = []:=List.eq_nil_of_length_eq_zero h0;subst this;exact⟨none,0,rfl,Nat.le_refl _,λk x hx=>by simp at hx⟩
 ·refine⟨some ⟨g,0,none⟩,cap,rfl,hc,λk x hx=>⟨_,rfl,h.cells (g:=g) rfl _ _ ?_⟩⟩;unfold Oi;rw [List.getElem?_map,hx];rfl
theorem znB:(Tryz.prog.info? 3).map (λi=>(i.zero,i.size,i.bytes))=some (some (.int .i64 0),1,8):=by kernel_rfl
theorem UP{w1:World}{B:Nat}{v':Value}{E:List Nat}{x:Nat}(h:w1.ownsRow B 3 1 v' (E.length+1) (Oi E ++ [.int .i64 (x:Int)])):
 w1.ownsRow B 3 1 v' (E ++ [x]).length (Oi (E ++ [x])):=by
 rw [show Oi (E ++ [x])=Oi E ++ [.int .i64 (x:Int)] by simp [Oi],List.length_append];exact h
theorem Yz(n:Int):∀u∈ [Value.int .i64 n],u.oneCell'=true:=by
 intro u hu;simp only [List.mem_cons,List.not_mem_nil,or_false] at hu;subst hu;rfl
theorem XI(A:Option Addr)(n c:Nat)(P:List Nd)(p:Nat)(f:Bool)(x:Ex)(w:World)(h:Ns w A n c P)(hn:n<=4000)(hx:XAt P p f x):
 Calls Tryz.prog 19 #[.slice A n c,.int .i64 p] w λe w'=>∃A' c',e = .returned (.slice A' (x.parts.len+1) c')/\x.parts.len+1<=c'/\Oh w' A' (qm (zB x.head) (p+1) x.parts)/\(∀a,A'=some a->w.heap.size<=a.block)/\Below w.heap.size w w':=by
 obtain⟨i0,hi,hz0,hz1,hz2⟩:=info_parts znB;obtain⟨a,rfl,d0,d1,d2,d3⟩:=h.at_ p _ hx.head;have HLn:=O h.len;have HXL:=O hx.le;have hpn:p<n:=by rw [h.len];exact(List.getElem?_eq_some_iff.1 hx.head).1
 have HXS:=O hx.parts;have hpl:zC x.head=(x.parts.len:Int):=by
  obtain⟨y,ps⟩:=x;exact hx.valid.2.1.symm
 have hll:x.parts.len+p+1<=n:=by
  have h1:=hx.le;have h2:=gY x.parts;have h3:x.flat.length=x.parts.flat.length+1:=by cases x;simp [Ex.flat,Ex.parts]
  rw [h.len];omega
 have CP:=O (λw=>Gm x.head w);rw [hpl] at CP;unfold ndV at CP;have CB:=O (λ(q:Nat) w' (hb:Below w.heap.size w w')=>Od P (some a) n c n q w' (h.keep hb) (Nat.sub_le _ _));have HR:=O (show∀b:Bool,zB x.head=b->(x.head.op==6)=b from λb hb=>hb);generalize x.parts=ps at *;generalize x.head=y at *;clear h hx hpl;have B0:=O (zb w (.cells #[.int .i64 y.op,.int .i64 y.n,.string y.s,.string y.t] 28));have V0:=O (LW w y 28);have O0:=World.ownsRow_lit (e:=3) (size:=1) (base:=w.heap.size+1) (w.alloc (.cells #[.int .i64 y.op,.int .i64 y.n,.string y.s,.string y.t] 28)) #[] 0 (by simp) (Nat.zero_le _) rfl;rw [show(w.alloc (.cells #[.int .i64 y.op,.int .i64 y.n,.string y.s,.string y.t] 28)).heap.size=w.heap.size+1 by simp] at O0;have O1:=O O0;have B1:=O (B0.o.alloc (by simp) (.cells #[] 3));have V1:=O (V0.o.keep (zb _ (.cells #[] 3)));clear O0 B0 V0;go_enter Tryz.func19,Tryz.ntmps19;go_wp2_with fail;go_loopw [1,6,7] (λu v i wr=>∃(k q:Nat) (E:List Nat) (R:Exs),u = .int .i64 q/\i = .int .i64 k/\k+R.len=ps.len/\E.length=k/\q<=n/\Hid (qm (zB y) (p+1) ps=E ++ qm (zB y) q R)/\Hid (Pd P q (zB y) R)/\Hid (wr.ownsRow (w.heap.size+1) 3 1 v E.length (Oi E))/\Hid (Below w.heap.size w wr)/\Hid (Vn wr w.heap.size y)) (λ_ _ i _=>ps.len-(intOf i).toNat)
 case atStart=>exact⟨0,p+1,[],ps,by go_num,rfl,by omega,rfl,by omega,O rfl,HXS,O1,B1,V1⟩
 case round =>
  clear O1 B1 V1 d0 d1 d2 d3;obtain⟨k,q,E,R,rfl,rfl,hk,hE,hq,hP,hXs,hown,hB,hV⟩:=hrel;obtain⟨v0,v1,v2,v3⟩:=hV.o;go_wp2_with fail;refine(CP.o _).mono ?_;rintro e w2 ⟨rfl,b2⟩;have B2:=bh hB b2;have V2:=O (hV.o.keep b2);have HSZ:=O (show w.heap.size<wr.heap.size from block_lt_of_cell v0);have O2:=O (aC hown.o b2);clear b2 hB hV hown v0 v1 v2 v3;obtain⟨v0,v1,v2,v3⟩:=V2.o;by_cases hlt:k<ps.len
  ·obtain⟨x1,r,rfl⟩:∃x1 r,R = .cons x1 r:=by
    cases R with
    | nil=>simp [Exs.len] at hk;omega
    | cons x1 r=>exact⟨x1,r,rfl⟩
   have hk2:k+1+r.len=ps.len:=by simp only [Exs.len] at hk;omega
   have zj9:w.heap.size+1<=w2.heap.size:=Nat.succ_le_of_lt (block_lt_of_cell v0);clear hk;rcases hr:zB y with _|_
   ·have g2:(y.op==6)=false:=HR.o _ hr;rw [hr] at hP hXs;obtain⟨h1,h2⟩:=hXs.o.head;have hze:=h1.end_;have zl5:=h1.le;rw [<-HLn.o] at zl5;have HE:=O hze;have HX2:=O (show Pd P (q+x1.flat.length) (zB y) r by rw [hr];exact h2);have HP2:=O (show qm (zB y) (p+1) ps=(E ++ [q])++ qm (zB y) (q+x1.flat.length) r by rw [hr,hP.o];simp [qm]);generalize x1.flat.length=ln at *;clear hP hXs h1 h2 hze hr;go_wp2_with (at_builtin;refine wpList_append_own _ rfl _ _ 56 rfl (w.heap.size+1) 3 i0 _ 1 8 Tryz.underlying56 hi hz0 hz1 hz2 rfl (by decide) _ E.length (Oi E) rfl (O2.o.alloc _) ⟨_,0,none⟩ 1 1 [.int .i64 ((q:Nat):Int)] rfl rfl (jP _ _ _) (Yz _) (by unfold maxLen;omega) (by omega) ?c5 ?_)
    case c5=>simp;omega
    intro v1' w3 hown1 hgrow1 _;have b3:Below (w.heap.size+1) w2 w3:=((Below.refl (w.heap.size+1) w2).alloc zj9 _).grown hgrow1 (by simp;omega) (zR O2.o);have B3:=O (show Below w.heap.size w w3 from(B2.o.alloc B2.o.size _).grown hgrow1 (by simp;have:=B2.o.size;omega) (λg hg=>Nat.le_of_succ_le (zR O2.o g hg)));have O3:=O (UP (E:=E) (x:=q) (by rw [hE];exact hown1));have V3:=O (show Vn w3 w.heap.size y from⟨(b3.cell (p:=⟨w.heap.size,0,none⟩) (Nat.lt_succ_self _)).trans v0,(b3.cell (p:=⟨w.heap.size,1,none⟩) (Nat.lt_succ_self _)).trans v1,(b3.cell (p:=⟨w.heap.size,2,none⟩) (Nat.lt_succ_self _)).trans v2,(b3.cell (p:=⟨w.heap.size,3,none⟩) (Nat.lt_succ_self _)).trans v3⟩);clear b3 hown1 hgrow1 B2 O2 V2 v0 v1 v2 v3 HSZ zj9;have CK:=O (CB.o q w3 B3.o);rw [HE.o] at CK;go_wp2_with fail;refine CK.o.mono ?_;rintro e w4 ⟨rfl,b4⟩;have B4:=bh B3 b4;have V4:=O (V3.o.keep b4);have O4:=O (aC O3.o b4);clear b4 B3 V3 O3 HE CK;go_wp2_with fail;go_roundw
    case rel=>exact⟨k+1,q+ln,E ++ [q],r,rfl,by go_num,hk2,by simp;omega,by omega,HP2,HX2,O4,B4,V4⟩
    case measure=>simp [intOf];omega
   ·have g2:(y.op==6)=true:=HR.o _ hr;rw [hr] at hP hXs;obtain⟨h1,h2⟩:=hXs.o.head;obtain⟨n1,z,-,-,-,hz,hzl⟩:=h1.field;have hze:=hz.end_;have zl5:=hz.le;rw [show q+1+z.flat.length=q+x1.flat.length by omega] at hze zl5;rw [<-HLn.o] at zl5;have HE:=O hze;have HX2:=O (show Pd P (q+x1.flat.length) (zB y) r by rw [hr];exact h2);have HP2:=O (show qm (zB y) (p+1) ps=(E ++ [(q+1)])++ qm (zB y) (q+x1.flat.length) r by rw [hr,hP.o];simp [qm]);generalize x1.flat.length=ln at *;clear hP hXs h1 h2 hze hz hzl hr;go_wp2_with (at_builtin;refine wpList_append_own _ rfl _ _ 56 rfl (w.heap.size+1) 3 i0 _ 1 8 Tryz.underlying56 hi hz0 hz1 hz2 rfl (by decide) _ E.length (Oi E) rfl (O2.o.alloc _) ⟨_,0,none⟩ 1 1 [.int .i64 (((q+1):Nat):Int)] rfl rfl (jP _ _ _) (Yz _) (by unfold maxLen;omega) (by omega) ?c5 ?_)
    case c5=>simp;omega
    intro v1' w3 hown1 hgrow1 _;have b3:Below (w.heap.size+1) w2 w3:=((Below.refl (w.heap.size+1) w2).alloc zj9 _).grown hgrow1 (by simp;omega) (zR O2.o);have B3:=O (show Below w.heap.size w w3 from(B2.o.alloc B2.o.size _).grown hgrow1 (by simp;have:=B2.o.size;omega) (λg hg=>Nat.le_of_succ_le (zR O2.o g hg)));have O3:=O (UP (E:=E) (x:=(q+1)) (by rw [hE];exact hown1));have V3:=O (show Vn w3 w.heap.size y from⟨(b3.cell (p:=⟨w.heap.size,0,none⟩) (Nat.lt_succ_self _)).trans v0,(b3.cell (p:=⟨w.heap.size,1,none⟩) (Nat.lt_succ_self _)).trans v1,(b3.cell (p:=⟨w.heap.size,2,none⟩) (Nat.lt_succ_self _)).trans v2,(b3.cell (p:=⟨w.heap.size,3,none⟩) (Nat.lt_succ_self _)).trans v3⟩);clear b3 hown1 hgrow1 B2 O2 V2 v0 v1 v2 v3 HSZ zj9;have CK:=O (CB.o (q+1) w3 B3.o);rw [HE.o] at CK;go_wp2_with fail;refine CK.o.mono ?_;rintro e w4 ⟨rfl,b4⟩;have B4:=bh B3 b4;have V4:=O (V3.o.keep b4);have O4:=O (aC O3.o b4);clear b4 B3 V3 O3 HE CK;go_wp2_with fail;go_roundw
    case rel=>exact⟨k+1,q+ln,E ++ [(q+1)],r,rfl,by go_num,hk2,by simp;omega,by omega,HP2,HX2,O4,B4,V4⟩
    case measure=>simp [intOf];omega
  ·obtain rfl:R = .nil:=by
    cases R with
    | nil=>rfl
    | cons x1 r=>simp [Exs.len] at hk;omega
   have hkf:k=ps.len:=by omega
   have HPE:=O (show qm (zB y) (p+1) ps=E ++ [q] by rw [hP.o];simp [qm]);have zj9:w.heap.size+1<=w2.heap.size:=Nat.succ_le_of_lt (block_lt_of_cell v0);clear hP hXs hk;go_wp2_with (at_builtin;refine wpList_append_own _ rfl _ _ 56 rfl (w.heap.size+1) 3 i0 _ 1 8 Tryz.underlying56 hi hz0 hz1 hz2 rfl (by decide) _ E.length (Oi E) rfl (O2.o.alloc _) ⟨_,0,none⟩ 1 1 [.int .i64 (q:Int)] rfl rfl (jP _ _ _) (Yz _) (by unfold maxLen;omega) (by omega) ?c5 ?_)
   case c5=>simp;omega
   intro v1' w3 hown1 hgrow1 _;have B3:=O (show Below w.heap.size w w3 from(B2.o.alloc B2.o.size _).grown hgrow1 (by simp;have:=B2.o.size;omega) (λg hg=>Nat.le_of_succ_le (zR O2.o g hg)));have O3:=UP (E:=E) (x:=q) (by rw [hE,hkf];exact hown1);obtain⟨A',c',hv',hc',hint⟩:=zap O3;subst hv';have II:=O (show∀a,A'=some a->w.heap.size<=a.block from λa e=>Nat.le_of_succ_le (zR O3 a.block (by rw [e];rfl)));have HI:=O hint;have hEl:(E ++ [q]).length=ps.len+1:=by simp;omega
   rw [hEl] at hc' ⊢;clear hint hown1 hgrow1 O3 hlt;go_wp2_with fail;go_ret;exact⟨A',c',rfl,hc',by rw [HPE.o];exact HI.o,II.o,B3.o⟩
theorem NK(A:Option Addr)(n c:Nat)(P:List Nd)(p:Nat)(f:Bool)(x:Ex)(w:World)(h:Ns w A n c P)(hn:n<=4000)(hx:XAt P p f x):
 Calls Tryz.prog 19 #[.slice A n c,.int .i64 p] w λe w'=>∃A' c',e = .returned (.slice A' (x.parts.len+1) c')/\x.parts.len+1<=c'/\Oh w' A' (qm (zB x.head) (p+1) x.parts)/\Below w.heap.size w w' :=
 (XI A n c P p f x w h hn hx).mono λ_ _ ⟨A',c',h1,h2,h3,_,h5⟩=>⟨A',c',h1,h2,h3,h5⟩
theorem jq(b:Bool)(w:World):
 Calls Tryz.prog 8 #[.bool b] w λe w'=>∃A n c,e = .returned (.slice A n c)/\(Ns w' A n c (zI b)/\∀a,A=some a->w.heap.size<=a.block)/\Below w.heap.size w w':=by
 have N1:=O (MF w ⟨1,1,emp,emp⟩ ⟨by decide,by decide,by decide,by decide⟩);have N0:=O (MF w ⟨1,0,emp,emp⟩ ⟨by decide,by decide,by decide,by decide⟩);cases b
 ·go_enter Tryz.func8,Tryz.ntmps8;go_wp2_with fail;go_ret;exact⟨_,1,1,rfl,⟨N0.o,λa e=>by injection e with e;subst e;exact Nat.le_refl _⟩,zb w _⟩
 ·go_enter Tryz.func8,Tryz.ntmps8;go_wp2_with fail;go_ret;exact⟨_,1,1,rfl,⟨N1.o,λa e=>by injection e with e;subst e;exact Nat.le_refl _⟩,zb w _⟩
theorem zfU(b:Bool)(w:World):
 Calls Tryz.prog 8 #[.bool b] w λe w'=>∃A n c,e = .returned (.slice A n c)/\Ns w' A n c (zI b)/\Below w.heap.size w w' :=
 (jq b w).mono λ_ _ ⟨A,n,c,h1,h2,h3⟩=>⟨A,n,c,h1,h2.1,h3⟩
theorem O8(u:Ud)(w:World)(hu:UOk u):
 Calls Tryz.prog 75 #[.agg #[.string u.1,.string u.2]] w λe w'=>∃A n c,e = .returned (.slice A n c)/\(Ns w' A n c (TP u)/\∀a,A=some a->w.heap.size<=a.block)/\Below w.heap.size w w':=by
 have N1:=O (MF (w.alloc (.cells #[.string u.1,.string u.2] 36)) ⟨4,0,u.1,u.2⟩ ⟨hu.1,hu.2,by show _<=(0:Int);decide,by show(0:Int)<=_;decide⟩);rw [show(w.alloc (.cells #[.string u.1,.string u.2] 36)).heap.size=w.heap.size+1 from by simp [go_sem]] at N1;have B1:=O ((zb w (.cells #[.string u.1,.string u.2] 36)).trans ((zb (w.alloc (.cells #[.string u.1,.string u.2] 36)) (.cells #[.int .i64 4,.int .i64 0,.string u.1,.string u.2] 28)).mono (zb w _).size));clear hu;go_enter Tryz.func75,Tryz.ntmps75;go_wp2_with fail;go_ret;exact⟨_,1,1,rfl,⟨N1.o,λa e=>by injection e with e;subst e;exact Nat.le_succ _⟩,B1.o⟩
def zK(S:Nat->Prop)(w:World)(r:Res)(e:Ending)(w':World):Prop :=
 ∃A n c,e = .returned (.agg #[.slice A n c,.int .i64 (z7 r)])/\Ns w' A n c (zh6 r)/\(∀a,A=some a->S a.block\/w.heap.size<=a.block)/\Below w.heap.size w w'
theorem zD{S:Nat->Prop}{w w1:World}{rb:Nat}{r:Res}{A:Option Addr}{n c:Nat}(hN:Ns w1 A n c (zh6 r))(hf:∀a,A=some a->(S a.block\/w.heap.size<=a.block)/\a.block≠rb)(hb:Below w.heap.size w w1)(Xz:w.heap.size<=rb):
 zK S w r (.returned (.agg #[.slice A n c,.int .i64 (z7 r)])) ((w1.setCell ⟨rb,0,none⟩ (.slice A n c)).setCell ⟨rb,1,none⟩ (.int .i64 (z7 r))):=
 ⟨A,n,c,rfl,(hN.but (zr w1 ⟨rb,0,none⟩ (.slice A n c)) (λ_ a e=>(hf a e).2)).but (zr _ ⟨rb,1,none⟩ (.int .i64 (z7 r))) (λ_ a e=>(hf a e).2),λa e=>(hf a e).1,(hb.setCell (p:=⟨rb,0,none⟩) Xz (.slice A n c)).setCell (p:=⟨rb,1,none⟩) Xz (.int .i64 (z7 r))⟩
theorem gZ{S:Nat->Prop}{w w1:World}{rb:Nat}{A:Option Addr}{x y:Value}(hb:Below w.heap.size w w1)(hR:Vr2 w1 rb x y)(h:∀a,A=some a->w1.heap.size<=a.block):∀a,A=some a->(S a.block\/w.heap.size<=a.block)/\a.block≠rb:=λa e=>by
 have h1:=h a e;have h2:rb<w1.heap.size:=block_lt_of_cell hR.c0;exact⟨.inr (Nat.le_trans hb.size h1),by omega⟩
theorem zcQ{S:Nat->Prop}{w:World}{rb:Nat}{A:Option Addr}(Xz:w.heap.size<=rb)(h:∀a,A=some a->S a.block/\a.block<w.heap.size):∀a,A=some a->(S a.block\/w.heap.size<=a.block)/\a.block≠rb:=λa e=>by
 have h1:=h a e;exact⟨.inl h1.1,by omega⟩
theorem zbJ{S:Nat->Prop}{w w1:World}{rb:Nat}{A:Option Addr}{x y:Value}(hb:Below w.heap.size w w1)(hR:Vr2 w1 rb x y)(Xz:w.heap.size<=rb)(h:∀a,A=some a->(S a.block/\a.block<w.heap.size)\/w1.heap.size<=a.block):∀a,A=some a->(S a.block\/w.heap.size<=a.block)/\a.block≠rb:=λa e=>by
 have h2:rb<w1.heap.size:=block_lt_of_cell hR.c0;rcases h a e with h1|h1
 ·exact⟨.inl h1.1,by omega⟩
 ·exact⟨.inr (Nat.le_trans hb.size h1),by omega⟩
theorem j5{S:Nat->Prop}{w:World}{rb:Nat}:∀a,(none:Option Addr)=some a->(S a.block\/w.heap.size<=a.block)/\a.block≠rb:=λa e=>by cases e
theorem MV(w:World)(o:Obj)(t:TypeId):Vr2 ((w.alloc o).alloc (.cells #[.slice none 0 0,.int .i64 0] t)) (w.heap.size+1) (.slice none 0 0) (.int .i64 0):=by
 have h:=ot (w.alloc o) (.slice none 0 0) (.int .i64 0) t;rwa [show(w.alloc o).heap.size=w.heap.size+1 from by simp [go_sem]] at h
theorem ze3(w:World)(o p:Obj)(t:TypeId):Vr2 (((w.alloc o).alloc p).alloc (.cells #[.slice none 0 0,.int .i64 0] t)) (w.heap.size+1+1) (.slice none 0 0) (.int .i64 0):=by
 have h:=ot ((w.alloc o).alloc p) (.slice none 0 0) (.int .i64 0) t;rwa [show((w.alloc o).alloc p).heap.size=w.heap.size+1+1 from by simp [go_sem]] at h
structure Vg(w:World)(b:Nat)(A:Option Addr)(n c:Nat)(e:Int):Prop where
 c0:w.cell? ⟨b,0,none⟩=some (.slice A n c)
 c1:w.cell? ⟨b,1,none⟩=some (.int .i64 e)
theorem Vg.keep{w w':World}{b:Nat}{A:Option Addr}{n c:Nat}{e:Int}(h:Vg w b A n c e)(hb:Below w.heap.size w w'):Vg w' b A n c e:=⟨za hb h.c0,za hb h.c1⟩
theorem Tv(w:World)(A:Option Addr)(n c:Nat)(e:Int)(t:TypeId):Vg (w.alloc (.cells #[.slice A n c,.int .i64 e] t)) w.heap.size A n c e :=
 ⟨(IP w _ _ t).1,(IP w _ _ t).2⟩
theorem jZ(u:Int)(w:World):
 Calls Tryz.prog 76 #[.int .i64 u] w λe w'=>e = .returned (.agg #[.slice none 0 0,.int .i64 u])/\Below w.heap.size w w':=by
 go_enter Tryz.func76,Tryz.ntmps76;go_wp2_with fail;exact⟨rfl,.agg #[.slice none 0 0,.int .i64 u],by simp [results,Tryz.results76,go_sem],rfl,zb w _⟩
theorem jA(A:Option Addr)(n c:Nat)(w:World):
 Calls Tryz.prog 40 #[.slice A n c] w λe w'=>e = .returned (.agg #[.slice A n c,.int .i64 0])/\Below w.heap.size w w':=by
 go_enter Tryz.func40,Tryz.ntmps40;go_wp2_with fail;exact⟨rfl,.agg #[.slice A n c,.int .i64 0],by simp [results,Tryz.results40,go_sem],rfl,zb w _⟩
theorem zhN(A:Option Addr)(n c:Nat)(u:Int)(w:World):
 Calls Tryz.prog 43 #[.slice A n c,.int .i64 u] w λe w'=>e = .returned (.agg #[.slice A n c,.int .i64 u])/\Below w.heap.size w w':=by
 go_enter Tryz.func43,Tryz.ntmps43;go_wp2_with fail;exact⟨rfl,.agg #[.slice A n c,.int .i64 u],by simp [results,Tryz.results43,go_sem],rfl,zb w _⟩
theorem zQ(A:Option Addr)(n c:Nat)(V:List Nd)(o:Int)(w:World)(h:Ns w A n c V)(h0:0<V.length):
 Calls Tryz.prog 77 #[.agg #[.slice A n c,.int .i64 0],.int .i64 o] w λe w'=>e = .returned (.bool (zf V==o))/\Below w.heap.size w w':=by
 have B0:=zb w (.cells #[.slice A n c,.int .i64 0] 61);obtain⟨a,rfl,hn1,D,-,e⟩:=jY (h.keep B0) h0;have d0:=D.c0;have G0:=Tv w (some a) n c 0 61;obtain⟨g0,g1⟩:=G0;rw [e];have hn:(0:Int)<(n:Int):=by omega
 have hn0:0<n:=hn1;have B1:=O B0;generalize hdN V=x at *;clear h D e B0;go_enter Tryz.func77,Tryz.ntmps77;go_wp2_with fail;go_ret;exact⟨rfl,B1.o⟩
theorem Kx(x:Nd)(w:World):
 Calls Tryz.prog 122 #[.agg #[.int .i64 x.op,.int .i64 x.n,.string x.s,.string x.t]] w λe w'=>e = .returned (.agg #[.string x.s,.string x.t])/\Below w.heap.size w w':=by
 have V0:=LW w x 28;obtain⟨v0,v1,v2,v3⟩:=V0;have B1:=O ((zb w (.cells #[.int .i64 x.op,.int .i64 x.n,.string x.s,.string x.t] 28)).trans ((zb (w.alloc (.cells #[.int .i64 x.op,.int .i64 x.n,.string x.s,.string x.t] 28)) (.cells #[.string x.s,.string x.t] 36)).mono (zb w _).size));go_enter Tryz.func122,Tryz.ntmps122;go_wp2_with fail;exact⟨rfl,.agg #[.string x.s,.string x.t],by simp [results,Tryz.results122,go_sem],rfl,B1.o⟩
theorem zg2(S:Nat->Prop)(k:Cx)(s:ByteArray)(w:World)(h:Po w k)(hS:∀a,k.q.NA=some a->S a.block/\a.block<w.heap.size):Calls Tryz.prog 41 #[k.q.v,.string s] w (zK S w (ym k.env s)):=by
 have hrq:=h.rq;have HSS:=O hS;clear hS;have W0:=O ((Pi w k.q 38).keep (zb (w.alloc (.cells #[.string k.q.who.1,.string k.q.who.2,.string k.q.act.1,.string k.q.act.2,.string k.q.what.1,.string k.q.what.2,.slice k.q.NA k.q.nn k.q.nc] 38)) (.cells #[.slice none 0 0,.int .i64 0] 61)));have B0:=O ((zb w (.cells #[.string k.q.who.1,.string k.q.who.2,.string k.q.act.1,.string k.q.act.2,.string k.q.what.1,.string k.q.what.2,.slice k.q.NA k.q.nn k.q.nc] 38)).trans ((zb (w.alloc (.cells #[.string k.q.who.1,.string k.q.who.2,.string k.q.act.1,.string k.q.act.2,.string k.q.what.1,.string k.q.what.2,.slice k.q.NA k.q.nn k.q.nc] 38)) (.cells #[.slice none 0 0,.int .i64 0] 61)).mono (zb w _).size));have R0:=O (MV w (.cells #[.string k.q.who.1,.string k.q.who.2,.string k.q.act.1,.string k.q.act.2,.string k.q.what.1,.string k.q.what.2,.slice k.q.NA k.q.nn k.q.nc] 38) 61);have KG:=O (λA n c w=>jA A n c w);unfold Rq.v;by_cases g0:s=Lb
 ·subst g0;have f0:(Lb.toList == [112,114,105,110,99,105,112,97,108])=true:=beq_iff_eq.2 Ai;have HR:=O (show ym k.env Lb = .ok (TP k.q.who) by unfold ym;rw [if_pos rfl];rfl);rw [HR.o];have KE:=O (λw=>O8 k.q.who w ⟨hrq.w1,hrq.w2⟩);obtain⟨k0,k1,k2,k3,k4,k5,k6⟩:=W0.o;clear h hrq W0;go_enter Tryz.func41,Tryz.ntmps41;go_wp2_with fail;refine(KE.o _).mono ?_;rintro e w1 ⟨A1,n1,c1,rfl,hN,b1⟩;have B1:=bh B0 b1;have HN:=O hN.1;have II:=O (gZ (S:=S) B0.o R0.o hN.2);have R1:=O (R0.o.keep b1);clear b1 hN R0 KE k0 k1 k2 k3 k4 k5 k6;go_wp2_with fail;refine(KG.o A1 n1 c1 _).mono ?_;rintro e w2 ⟨rfl,b2⟩;have B2:=bh B1 b2;have N2:=O (HN.o.keep b2);have R2:=O (R1.o.keep b2);clear b2 HN B1 KG R1;have RS:=R2.o.set (.slice A1 n1 c1) (.int .i64 0);obtain⟨s0,s1,-,-⟩:=RS;have GF:=O (zD (S:=S) (r := .ok (TP k.q.who)) N2.o II.o B2.o (show w.heap.size<=w.heap.size+1 by omega));obtain⟨r0,r1,z0,z1⟩:=R2.o;go_wp2_with fail;exact bodyPost_ret (v := .agg #[.slice A1 n1 c1,.int .i64 0]) (by simp [results,Tryz.results41,go_sem,s0,s1]) rfl GF.o
 by_cases g1:s=Ow
 ·subst g1;have f1:(Ow.toList == [97,99,116,105,111,110])=true:=beq_iff_eq.2 Kc;have f0:(Ow.toList == [112,114,105,110,99,105,112,97,108])=false:=beq_eq_false_iff_ne.2 (λq=>g0 (toList_inj (q.trans Ai.symm)));have HR:=O (show ym k.env Ow = .ok (TP k.q.act) by unfold ym;rw [if_neg g0];rw [if_pos rfl];rfl);rw [HR.o];have KE:=O (λw=>O8 k.q.act w ⟨hrq.a1,hrq.a2⟩);obtain⟨k0,k1,k2,k3,k4,k5,k6⟩:=W0.o;clear h hrq W0 g0;go_enter Tryz.func41,Tryz.ntmps41;go_wp2_with fail;refine(KE.o _).mono ?_;rintro e w1 ⟨A1,n1,c1,rfl,hN,b1⟩;have B1:=bh B0 b1;have HN:=O hN.1;have II:=O (gZ (S:=S) B0.o R0.o hN.2);have R1:=O (R0.o.keep b1);clear b1 hN R0 KE k0 k1 k2 k3 k4 k5 k6;go_wp2_with fail;refine(KG.o A1 n1 c1 _).mono ?_;rintro e w2 ⟨rfl,b2⟩;have B2:=bh B1 b2;have N2:=O (HN.o.keep b2);have R2:=O (R1.o.keep b2);clear b2 HN B1 KG R1;have RS:=R2.o.set (.slice A1 n1 c1) (.int .i64 0);obtain⟨s0,s1,-,-⟩:=RS;have GF:=O (zD (S:=S) (r := .ok (TP k.q.act)) N2.o II.o B2.o (show w.heap.size<=w.heap.size+1 by omega));obtain⟨r0,r1,z0,z1⟩:=R2.o;go_wp2_with fail;exact bodyPost_ret (v := .agg #[.slice A1 n1 c1,.int .i64 0]) (by simp [results,Tryz.results41,go_sem,s0,s1]) rfl GF.o
 by_cases g2:s=IM
 ·subst g2;have f2:(IM.toList == [114,101,115,111,117,114,99,101])=true:=beq_iff_eq.2 Kr;have f0:(IM.toList == [112,114,105,110,99,105,112,97,108])=false:=beq_eq_false_iff_ne.2 (λq=>g0 (toList_inj (q.trans Ai.symm)));have f1:(IM.toList == [97,99,116,105,111,110])=false:=beq_eq_false_iff_ne.2 (λq=>g1 (toList_inj (q.trans Kc.symm)));have HR:=O (show ym k.env IM = .ok (TP k.q.what) by unfold ym;rw [if_neg g0];rw [if_neg g1];rw [if_pos rfl];rfl);rw [HR.o];have KE:=O (λw=>O8 k.q.what w ⟨hrq.t1,hrq.t2⟩);obtain⟨k0,k1,k2,k3,k4,k5,k6⟩:=W0.o;clear h hrq W0 g0 g1;go_enter Tryz.func41,Tryz.ntmps41;go_wp2_with fail;refine(KE.o _).mono ?_;rintro e w1 ⟨A1,n1,c1,rfl,hN,b1⟩;have B1:=bh B0 b1;have HN:=O hN.1;have II:=O (gZ (S:=S) B0.o R0.o hN.2);have R1:=O (R0.o.keep b1);clear b1 hN R0 KE k0 k1 k2 k3 k4 k5 k6;go_wp2_with fail;refine(KG.o A1 n1 c1 _).mono ?_;rintro e w2 ⟨rfl,b2⟩;have B2:=bh B1 b2;have N2:=O (HN.o.keep b2);have R2:=O (R1.o.keep b2);clear b2 HN B1 KG R1;have RS:=R2.o.set (.slice A1 n1 c1) (.int .i64 0);obtain⟨s0,s1,-,-⟩:=RS;have GF:=O (zD (S:=S) (r := .ok (TP k.q.what)) N2.o II.o B2.o (show w.heap.size<=w.heap.size+1 by omega));obtain⟨r0,r1,z0,z1⟩:=R2.o;go_wp2_with fail;exact bodyPost_ret (v := .agg #[.slice A1 n1 c1,.int .i64 0]) (by simp [results,Tryz.results41,go_sem,s0,s1]) rfl GF.o
 by_cases g3:s=Je
 ·subst g3;have f3:(Je.toList == [99,111,110,116,101,120,116])=true:=beq_iff_eq.2 OT;have f0:(Je.toList == [112,114,105,110,99,105,112,97,108])=false:=beq_eq_false_iff_ne.2 (λq=>g0 (toList_inj (q.trans Ai.symm)));have f1:(Je.toList == [97,99,116,105,111,110])=false:=beq_eq_false_iff_ne.2 (λq=>g1 (toList_inj (q.trans Kc.symm)));have f2:(Je.toList == [114,101,115,111,117,114,99,101])=false:=beq_eq_false_iff_ne.2 (λq=>g2 (toList_inj (q.trans Kr.symm)));have HR:=O (show ym k.env Je = .ok (k.q.P) by unfold ym;rw [if_neg g0];rw [if_neg g1];rw [if_neg g2];rw [if_pos rfl];rfl);rw [HR.o];obtain⟨k0,k1,k2,k3,k4,k5,k6⟩:=W0.o;have HN:=O (hrq.ns.keep (w':=(w.alloc (.cells #[.string k.q.who.1,.string k.q.who.2,.string k.q.act.1,.string k.q.act.2,.string k.q.what.1,.string k.q.what.2,.slice k.q.NA k.q.nn k.q.nc] 38)).alloc (.cells #[.slice none 0 0,.int .i64 0] 61)) B0.o);clear h hrq W0 g0 g1 g2;go_enter Tryz.func41,Tryz.ntmps41;go_wp2_with fail;refine(KG.o _ _ _ _).mono ?_;rintro e w2 ⟨rfl,b2⟩;have B2:=bh B0 b2;have N2:=O (HN.o.keep b2);have R2:=O (R0.o.keep b2);clear b2 HN B0 KG k0 k1 k2 k3 k4 k5 k6 R0;have RS:=R2.o.set (.slice k.q.NA k.q.nn k.q.nc) (.int .i64 0);obtain⟨s0,s1,-,-⟩:=RS;have GF:=O (zD (S:=S) (r := .ok (k.q.P)) N2.o (zcQ (by omega) HSS.o) B2.o (show w.heap.size<=w.heap.size+1 by omega));obtain⟨r0,r1,z0,z1⟩:=R2.o;go_wp2_with fail;exact bodyPost_ret (v := .agg #[.slice k.q.NA k.q.nn k.q.nc,.int .i64 0]) (by simp [results,Tryz.results41,go_sem,s0,s1]) rfl GF.o
 have f0:(s.toList == [112,114,105,110,99,105,112,97,108])=false:=beq_eq_false_iff_ne.2 (λq=>g0 (toList_inj (q.trans Ai.symm)));have f1:(s.toList == [97,99,116,105,111,110])=false:=beq_eq_false_iff_ne.2 (λq=>g1 (toList_inj (q.trans Kc.symm)));have f2:(s.toList == [114,101,115,111,117,114,99,101])=false:=beq_eq_false_iff_ne.2 (λq=>g2 (toList_inj (q.trans Kr.symm)));have f3:(s.toList == [99,111,110,116,101,120,116])=false:=beq_eq_false_iff_ne.2 (λq=>g3 (toList_inj (q.trans OT.symm)));have HR:=O (show ym k.env s = .error 3 by unfold ym;rw [if_neg g0,if_neg g1,if_neg g2,if_neg g3]);rw [HR.o];clear h hrq g0 g1 g2 g3 KG W0;go_enter Tryz.func41,Tryz.ntmps41;go_wp2_with fail;refine(jZ 3 _).mono ?_;rintro e w2 ⟨rfl,b2⟩;have B2:=bh B0 b2;have R2:=O (R0.o.keep b2);clear b2 B0 R0;have RS:=R2.o.set (.slice none 0 0) (.int .i64 3);obtain⟨s0,s1,-,-⟩:=RS;have GF:=O (zD (S:=S) (r := .error 3) (jM _) j5 B2.o (show w.heap.size<=w.heap.size+1 by omega));obtain⟨r0,r1,z0,z1⟩:=R2.o;go_wp2_with fail;exact bodyPost_ret (v := .agg #[.slice none 0 0,.int .i64 3]) (by simp [results,Tryz.results41,go_sem,s0,s1]) rfl GF.o
end Go.Proofs.YtokiogmfgpidmaaGreatDoor
namespace Go.Proofs.YtokiogmfgpidmaaGreatDoor
open Go.RowKit Go.Wk
noncomputable def evL(σ:Env):List Ex->Except Int (List (List Nd))
 | [] => .ok []
 | x :: r=>match evX σ x with
  | .error e => .error e
  | .ok V=>match evL σ r with
   | .error e => .error e
   | .ok L => .ok (V :: L)
theorem X9(σ:Env):∀a b:List Ex,evL σ (a ++ b)=(match evL σ a with
 | .error e => .error e
 | .ok A=>match evL σ b with
  | .error e => .error e
  | .ok B => .ok (A ++ B))
 | [],b=>by
  simp only [List.nil_append,evL];cases evL σ b <;> rfl
 | x :: r,b=>by
  simp only [List.cons_append,evL]
  cases evX σ x with
  | error e=>rfl
  | ok V =>
   simp only
   rw [X9 σ r b]
   cases evL σ r with
   | error e=>rfl
   | ok A =>
    simp only
    cases evL σ b with
    | error e=>rfl
    | ok B=>rfl
theorem zjp{σ:Env}{L:List Ex}{j:Nat}(h:j<L.length){Vs:List (List Nd)}(hv:evL σ (L.take j)= .ok Vs):(∀V,evX σ L[j] = .ok V->evL σ (L.take (j+1))= .ok (Vs ++ [V]))/\(∀e,evX σ L[j] = .error e->evL σ L = .error e):=by
 constructor
 ·intro V hV;rw [List.take_succ_eq_append_getElem h,X9,hv];simp only [evL,hV]
 ·intro e he;have:L=L.take j ++ L[j] :: L.drop (j+1):=by
   rw [<-List.drop_eq_getElem_cons h,List.take_append_drop]
  generalize L[j]=y at *;rw [this,X9,hv];simp only [evL,he]
theorem zbW(σ:Env):∀ps:Exs,evS σ ps=evL σ (ps.list.map (E5 false))
 | .nil=>rfl
 | .cons x r=>by
  simp only [evS,Exs.list,List.map_cons,evL,zbW σ r];rfl
theorem zcK{σ:Env}{x:Ex}(h:x.valid true):Lf σ x=evX σ (E5 true x):=by
 obtain⟨n,y,rfl,-⟩:=(XAt.all h).field;simp only [Lf,Jd,E5]
theorem zbO(σ:Env):∀(ps:Exs) (s:ByteArray),ps.valid true s->evF σ ps=(match evL σ (ps.list.map (E5 true)) with
 | .error e => .error e
 | .ok L => .ok ((ps.list.map λx=>x.head.s).zip L))
 | .nil,_,_=>rfl
 | .cons x r,s,h=>by
  simp only [evF,Exs.list,List.map_cons,evL,zbO σ r _ h.2.2,zcK h.2.1]
  cases evX σ (E5 true x) with
  | error e=>rfl
  | ok V =>
   simp only
   cases evL σ (r.list.map (E5 true)) with
   | error e=>rfl
   | ok L=>rfl
theorem zeG{σ:Env}:∀ {L:List Ex} {Vs:List (List Nd)},evL σ L = .ok Vs->Vs.length=L.length
 | [],Vs,h=>by simp only [evL] at h;injection h with h;subst h;rfl
 | x :: r,Vs,h=>by
  simp only [evL] at h
  cases hx:evX σ x with
  | error e=>rw [hx] at h;cases h
  | ok V =>
   rw [hx] at h
   simp only at h
   cases hr:evL σ r with
   | error e=>rw [hr] at h;cases h
   | ok M =>
    rw [hr] at h
    injection h with h
    subst h
    simp [zeG hr]
theorem zf9(σ:Env)(n:Nd)(ps:Exs)(s:ByteArray)(hv:ps.valid (zB n) s)(h1:¬(1<=n.op/\n.op<=4))(h8:n.op≠8)(h11:¬(n.op=11\/n.op=12))(h13:n.op≠13):
 evX σ (.node n ps)=(match evL σ (ps.list.map (E5 (zB n))) with
  | .error e => .error e
  | .ok L=>if n.op=6 then z6 (oC (ps.list.map λx=>x.head.s) L) (Ki (ps.list.map λx=>x.head.s) L) else if n.op=5 then z6 (setE L) (setV L) else NC σ.E n L):=by
 rw [evX,if_neg h1,if_neg h8,if_neg h11,if_neg h13];by_cases h6:n.op=6
 ·have hr:zB n=true:=decide_eq_true h6;rw [if_pos h6];rw [hr] at hv ⊢;rw [zbO σ ps s hv];rcases hL:evL σ (ps.list.map (E5 true)) with e|L
  ·rfl
  ·have hl:=zeG hL;simp only [if_pos h6];rw [List.map_fst_zip (by rw [hl];simp),List.map_snd_zip (by rw [hl];simp)]
 ·have hr:zB n=false:=decide_eq_false h6;rw [if_neg h6,hr,zbW];rcases hL:evL σ (ps.list.map (E5 false)) with e|L
  ·rfl
  ·simp only [if_neg h6]
end Go.Proofs.YtokiogmfgpidmaaGreatDoor
