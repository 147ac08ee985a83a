/-
  The reference's SetFault, Within and Chosen. The document's sets, and two: a ..
-/
import Derived.Test.YtokiogmfgpidmaaGreatDoorD43
set_option maxRecDepth 100000
set_option maxHeartbeats 8000000
namespace Go.Proofs.YtokiogmfgpidmaaGreatDoor
open Go.RowKit Go.Wk Go.Sort
theorem zfJ{L:List (List Nd)}{Q:List Nd}{k:Nat}(h:k<L.length):ly (L.drop k) Q=(decide (zu L[k] Q=0)|| ly (L.drop (k+1)) Q):=by
 rw [List.drop_eq_getElem_cons h];rfl
theorem Vu(A B:Option Addr)(n m c d:Nat)(P Q:List Nd)(w:World)(h:Ns w A n c P)(k:Ns w B m d Q)(h1:zc P=0)(h5:zf P=5):
 Calls Tryz.prog 124 #[.slice A n c,.slice B m d] w λe w'=>e = .returned (.bool (ly (zg P) Q))/\Below w.heap.size w w':=by
 have hE:F3 P=0:=by unfold F3;rw [if_pos h1,if_pos (.inl h5)]
 have W:=O (zfY A n c P w h hE);have hL:Kj P=zg P:=by unfold Kj;rw [if_pos hE,if_pos h5]
 have PL:=O (yr h1 h5);rw [hL] at W;have HK:=O k;clear h k h1 h5 hE hL;go_enter Tryz.func124,Tryz.ntmps124;go_wp2_with fail;refine W.o.mono ?_;rintro e w1 ⟨v,v',U,rfl,hT,hU,b1⟩;obtain⟨AU,cU,rfl,-,hSU⟩:=hT.a.at
 have HU:=O hSU;have HUL:=O hU;have hUl:U.length<=200:=by have:=congrArg List.length hU;have:=PL.o;simp only [List.length_map] at *;omega
 have B1:=O b1;clear hT hSU hU b1;go_wp2_with fail;go_loopw [7] (λi wr=>∃j:Nat,j<=U.length/\i = .int .i64 j/\Hid (ly (zg P) Q=ly ((U.map Sl.P).drop j) Q)/\Hid (Below w1.heap.size w1 wr)) (λi _=>U.length-(intOf i).toNat)
 case atStart=>exact⟨0,Nat.zero_le _,rfl,by rw [HUL.o];rfl,Below.refl _ _⟩
 case round =>
  obtain⟨j,hj,rfl,hE,hB⟩:=hrel;by_cases hlt:j<U.length
  ·obtain⟨a,rfl,q,hs⟩:=(HU.o.keep hB.o).at hlt;have hq:=HK.o.keep (oz B1 hB (Nat.le_refl _)).o;have N:=O (Ot U[j].A B U[j].n m U[j].c d U[j].P Q wr hs.len hq.len hs.max hq.max hs.at_ hq.at_ hs.ok hq.ok);have HA:=O (hE.o.trans (zfJ (by simpa using hlt)));rw [List.getElem_map] at HA;generalize U[j]=r at *;clear hE hs hq;by_cases h0:zu r.P Q=0
   ·rw [h0] at N;rw [decide_eq_true h0,Bool.true_or] at HA;clear h0;go_wp2_with fail;refine(N.o).mono ?_;rintro e w2 ⟨rfl,b2⟩;go_wp2_with fail;go_ret;exact⟨zn HA.o.symm,(oz B1 (bh hB b2) (Nat.le_refl _)).o⟩
   ·rw [decide_eq_false h0,Bool.false_or] at HA;have h2:(zu r.P Q==0)=false:=beq_eq_false_iff_ne.2 h0;clear h0;go_wp2_with fail;refine(N.o).mono ?_;rintro e w2 ⟨rfl,b2⟩;go_wp2_with fail;go_roundw
    case rel=>exact⟨j+1,by omega,by go_num,HA,bh hB b2⟩
    case measure=>simp [intOf];omega
  ·have HA:=O (hE.o.trans (by rw [List.drop_of_length_le (by simp;omega)];rfl:_=false));clear hE;go_wp2_with fail;go_ret;exact⟨zn HA.o.symm,(oz B1 hB (Nat.le_refl _)).o⟩
def UI(w:World)(L:List (List Nd))(e:Ending)(w':World):Prop:=∃(v:Value) (V:List Sl),e = .returned v/\zX w' w.heap.size v V/\V.map Sl.P=L/\Below w.heap.size w w'
def zgQ(A:Option Addr)(w:World)(L:List (List Nd))(e:Ending)(w':World):Prop:=∃(v:Value) (V:List Sl),e = .returned v/\zX w' w.heap.size v V/\V.map Sl.P=L/\Below w.heap.size w w'/\∀r∈V,WN A r
theorem zbe(A B:Option Addr)(n m c d:Nat)(P Q:List Nd)(has:Bool)(w:World)(h:Ns w A n c P)(k:Ns w B m d Q)(h1:zc P=0)(h5:zf P=5)(h2:zc Q=0)(h6:zf Q=5):
 Calls Tryz.prog 125 #[.slice A n c,.slice B m d,.bool has] w (zgQ A w ((zg P).filter λx=>ly (zg Q) x==has)):=by
 obtain⟨i0,hi,hz0,hz1,hz2⟩:=info_parts ML;have W:=O (OO A n c P w h h1 h5);have PL:=O (yr h1 h5);have HK:=O k;have WI:=O (λ(r:Sl) w' (hb:Below w.heap.size w w') (hr:Ns w' r.A r.n r.c r.P)=>Vu B r.A m r.n d r.c Q r.P w' (k.keep hb) hr h2 h6);clear h k h1 h5 h2 h6;go_enter Tryz.func125,Tryz.ntmps125;go_wp2_with fail;refine W.o.mono ?_;rintro e w1 ⟨v,v',U,rfl,hT,hU,b1,hold⟩;have HOLD:=O hold;clear hold;obtain⟨AU,cU,rfl,-,hSU⟩:=hT.a.at
 have HU:=O hSU;have HUL:=O hU;have hUl:U.length<=200:=by have:=congrArg List.length hU;have:=PL.o;simp only [List.length_map] at *;omega
 have B1:=O b1;clear hT hSU hU b1;go_wp2_with fail;go_loopw [7,10] (λv i wr=>∃(j:Nat) (Y:List Sl),j<=U.length/\i = .int .i64 j/\Y.length<=j/\Hid (((zg P).filter λx=>ly (zg Q) x==has)=Y.map Sl.P ++((U.drop j).filter λr=>ly (zg Q) r.P==has).map Sl.P)/\Hid (zX wr w1.heap.size v Y)/\Hid (Below w1.heap.size w1 wr)/\Hid (∀r∈Y,r∈U)) (λ_ i _=>U.length-(intOf i).toNat)
 case atStart=>exact⟨0,[],Nat.zero_le _,rfl,Nat.le_refl _,by rw [<-HUL.o,List.filter_map];rfl,zX.nil _ _,Below.refl _ _,(by intro r hr;cases hr)⟩
 case round =>
  obtain⟨j,Y,hj,rfl,hY,hE,hO,hB,hM⟩:=hrel;by_cases hlt:j<U.length
  ·obtain⟨a,rfl,q,hs⟩:=(HU.o.keep hB.o).at hlt;obtain⟨-,-,-,hs0⟩:=HU.o.at hlt;have VN:=O hs0;have HM:=O (List.getElem_mem hlt);have Cr:=O (WI.o U[j] wr (oz B1 hB (Nat.le_refl _)).o hs);have HA:=O (hE.o.trans (by rw [List.drop_eq_getElem_cons hlt,List.filter_cons]:_=Y.map Sl.P ++(if(ly (zg Q) U[j].P==has)=true then U[j] ::(U.drop (j+1)).filter (λr=>ly (zg Q) r.P==has) else(U.drop (j+1)).filter λr=>ly (zg Q) r.P==has).map Sl.P));generalize U[j]=r at *;clear hE hs hs0;by_cases hp:ly (zg Q) r.P=has
   ·rw [hp] at Cr HA;rw [if_pos (by simp)] at HA;clear hp;go_wp2_with fail;refine(Cr.o).mono ?_;rintro e w2 ⟨rfl,b2⟩;have B2:=bh hB b2;have O2:=O (hO.o.keep b2);have N2:=O (VN.o.keep B2.o);have q2:=za b2 q;have A2:=O (show td r u7.ownBlock by
     intro h0 a' ea q'
     have:=zR O2.o.own a'.block q'
     have:=VN.o.at_.lt h0 a' ea
     omega)
    have zmr:=B2.o.size;clear b2 hO hB q;go_wp2_with (at_builtin;refine wpList_append_own_at _ rfl _ _ 84 rfl w1.heap.size 22 i0 _ 1 24 Tryz.underlying84 hi hz0 hz1 hz2 rfl (by decide) _ Y.length (Y.map Sl.v) rfl (O2.o.own.alloc _) ⟨_,0,none⟩ 1 1 [.slice r.A r.n r.c] rfl rfl (cell_one_new _ _ _) (by intro u hu;simp only [List.mem_cons,List.not_mem_nil,or_false] at hu;subst hu;rfl) ?c1 ?c2 ?c3 ?_)
    case c1=>unfold maxLen;omega
    case c2=>omega
    case c3=>simp;omega
    intro v1 w3 hown hgrow _ hat;have B3:=O ((B2.o.alloc B2.o.size _).grown hgrow (by simp;omega) (λg hg=>by have:=zR O2.o.own g hg;omega));have O3:=O (O2.o.snoc (r:=r) N2.o A2.o hown hgrow (by simpa using hat));have HA2:=O (HA.o.trans (show _=(Y ++ [r]).map Sl.P ++((U.drop (j+1)).filter λr=>ly (zg Q) r.P==has).map Sl.P by simp));have hl2:(Y ++ [r]).length<=j+1:=by simp;omega
    have HM2:=O (show∀x∈Y ++ [r],x∈U from λx hx=>by
     rcases List.mem_append.1 hx with h1|h1
     ·exact hM.o x h1
     ·simp only [List.mem_cons,List.not_mem_nil,or_false] at h1
      subst h1;exact HM.o)
    clear hown hgrow hat O2 N2 A2 HA B2 q2;go_wp2_with fail;go_roundw
    case rel=>exact⟨j+1,Y ++ [r],by omega,by go_num,hl2,HA2,O3,B3,HM2⟩
    case measure=>simp [intOf];omega
   ·have ZC:(ly (zg Q) r.P==has)=false:=beq_eq_false_iff_ne.2 hp;rw [if_neg (by rw [ZC];simp)] at HA;generalize ly (zg Q) r.P=bb at *;clear hp;go_wp2_with fail;refine(Cr.o).mono ?_;rintro e w2 ⟨rfl,b2⟩;go_wp2_with fail;go_roundw
    case rel=>exact⟨j+1,Y,by omega,by go_num,by omega,HA,O (hO.o.keep b2),bh hB b2,hM⟩
    case measure=>simp [intOf];omega
  ·have HA:=O (hE.o.trans (by rw [List.drop_of_length_le (by omega)];simp:_=Y.map Sl.P));clear hE;go_wp2_with fail;go_ret;exact⟨_,Y,rfl,hO.o.mono B1.o.size,HA.o.symm,(oz B1 hB (Nat.le_refl _)).o,λr hr=>HOLD.o r (hM.o r hr)⟩
theorem TG(A B:Option Addr)(n m c d:Nat)(P Q:List Nd)(has:Bool)(w:World)(h:Ns w A n c P)(k:Ns w B m d Q)(h1:zc P=0)(h5:zf P=5)(h2:zc Q=0)(h6:zf Q=5):
 Calls Tryz.prog 125 #[.slice A n c,.slice B m d,.bool has] w (UI w ((zg P).filter λx=>ly (zg Q) x==has)):=
 (zbe A B n m c d P Q has w h k h1 h5 h2 h6).mono λ_ _ ⟨v,V,q1,q2,q3,q4,_⟩=>⟨v,V,q1,q2,q3,q4⟩
structure Vgg(w:World)(b c:Nat)(A B:Option Addr)(n m p q:Nat):Prop where
 x:Vg w b A n p 0
 y:Vg w c B m q 0
theorem Vgg.keep{w w':World}{b c:Nat}{A B:Option Addr}{n m p q:Nat}(h:Vgg w b c A B n m p q)(hb:Below w.heap.size w w'):Vgg w' b c A B n m p q:=⟨h.x.keep hb,h.y.keep hb⟩
theorem zpj{Q:List Nd}(h:zc Q=0)(h5:zf Q=5):(hdN Q).n=((zg Q).length:Int):=by
 obtain⟨-,hv⟩:=zH.1 h;have e:=congrArg (λL=>(hdN L).n) (ER hv h5).1;exact e
theorem zdF{α:Type}(L:List α)(f:α->Bool):decide (0<(L.filter f).length)=L.any f:=by
 rw [Bool.eq_iff_iff,decide_eq_true_iff,List.any_eq_true];constructor
 ·intro h;obtain⟨x,hx⟩:=List.exists_mem_of_length_pos h;exact⟨x,(List.mem_filter.1 hx).1,(List.mem_filter.1 hx).2⟩
 ·rintro ⟨x,hx,hf⟩;exact List.length_pos_of_mem (List.mem_filter.2 ⟨hx,hf⟩)
theorem tB(w:World)(A B:Option Addr)(n m c d:Nat):Hid (Below w.heap.size w (((w.alloc (.cells #[.slice A n c,.int .i64 0] 61)).alloc (.cells #[.slice B m d,.int .i64 0] 61)).alloc (.cells #[.slice none 0 0,.int .i64 0] 61))):=
 have q:=((zb w (.cells #[.slice A n c,.int .i64 0] 61)).trans ((zb (w.alloc (.cells #[.slice A n c,.int .i64 0] 61)) (.cells #[.slice B m d,.int .i64 0] 61)).mono (zb w _).size))
 O (q.trans ((zb ((w.alloc (.cells #[.slice A n c,.int .i64 0] 61)).alloc (.cells #[.slice B m d,.int .i64 0] 61)) (.cells #[.slice none 0 0,.int .i64 0] 61)).mono q.size))
theorem tX(w:World)(A B:Option Addr)(n m c d:Nat):Hid (Vgg (((w.alloc (.cells #[.slice A n c,.int .i64 0] 61)).alloc (.cells #[.slice B m d,.int .i64 0] 61)).alloc (.cells #[.slice none 0 0,.int .i64 0] 61)) w.heap.size (w.heap.size+1) A B n m c d):=
 O ((⟨(Tv w A n c 0 61).keep (zb _ _),zmG w (.cells #[.slice A n c,.int .i64 0] 61) B m d 0 61⟩:Vgg ((w.alloc (.cells #[.slice A n c,.int .i64 0] 61)).alloc (.cells #[.slice B m d,.int .i64 0] 61)) w.heap.size (w.heap.size+1) A B n m c d).keep (zb _ (.cells #[.slice none 0 0,.int .i64 0] 61)))
theorem tR(w:World)(A B:Option Addr)(n m c d:Nat):Hid (Vr2 (((w.alloc (.cells #[.slice A n c,.int .i64 0] 61)).alloc (.cells #[.slice B m d,.int .i64 0] 61)).alloc (.cells #[.slice none 0 0,.int .i64 0] 61)) (w.heap.size+1+1) (.slice none 0 0) (.int .i64 0)):=O (ze3 w _ _ _)
theorem ziN(S:Nat->Prop)(A B:Option Addr)(n m c d:Nat)(P Q:List Nd)(w:World)(h:Ns w A n c P)(k:Ns w B m d Q)(h1:zc P=0)(h2:zc Q=0)(g:zf P≠5):
 Calls Tryz.prog 83 #[.int .i64 25,.agg #[.slice A n c,.int .i64 0],.agg #[.slice B m d,.int .i64 0]] w (zK S w (.error 2)):=by
 have B0:=tB w A B n m c d;have X0:=tX w A B n m c d;have R0:=tR w A B n m c d;have KP:=O (λ(o:Int) w' (hb:Below w.heap.size w w')=>zQ A n c P o w' (h.keep hb) (zk h1));have KQ:=O (λ(o:Int) w' (hb:Below w.heap.size w w')=>zQ B m d Q o w' (k.keep hb) (zk h2));have HP:=O h;have HQ:=O k;have K5:=O (KP.o 5 _ B0.o);rw [show(zf P==5)=false from beq_eq_false_iff_ne.2 g] at K5;clear h k h1 h2 g KP KQ;obtain⟨⟨x0,x1⟩,⟨y0,y1⟩⟩:=X0.o;go_enter Tryz.func83,Tryz.ntmps83;go_wp2_with fail;refine(K5.o).mono ?_;rintro e w1 ⟨rfl,b1⟩;have B1:=bh B0 b1;have X1:=O (X0.o.keep b1);have R1:=O (R0.o.keep b1);clear x0 x1 y0 y1;clear b1 B0 X0 R0;go_wp2_with fail;refine(jZ _ _).mono ?_;rintro e w2 ⟨rfl,b2⟩;have B2:=bh B1 b2;have R2:=O (R1.o.keep b2);clear b2 B1 R1;have RS:=R2.o.set (.slice none 0 0) (.int .i64 (2));obtain⟨s0,s1,-,-⟩:=RS;have GF:=O (zD (S:=S) (r := .error (2)) (jM _) j5 B2.o (show w.heap.size<=w.heap.size+1+1 by omega));obtain⟨r0,r1,z0,z1⟩:=R2.o;go_wp2_with fail;exact bodyPost_ret (v := .agg #[.slice none 0 0,.int .i64 (2)]) (by simp [results,Tryz.results83,go_sem,s0,s1]) rfl GF.o
theorem zi1(S:Nat->Prop)(A B:Option Addr)(n m c d:Nat)(P Q:List Nd)(w:World)(h:Ns w A n c P)(k:Ns w B m d Q)(h1:zc P=0)(h2:zc Q=0)(g:zf P≠5):
 Calls Tryz.prog 83 #[.int .i64 26,.agg #[.slice A n c,.int .i64 0],.agg #[.slice B m d,.int .i64 0]] w (zK S w (.error 2)):=by
 have B0:=tB w A B n m c d;have X0:=tX w A B n m c d;have R0:=tR w A B n m c d;have KP:=O (λ(o:Int) w' (hb:Below w.heap.size w w')=>zQ A n c P o w' (h.keep hb) (zk h1));have KQ:=O (λ(o:Int) w' (hb:Below w.heap.size w w')=>zQ B m d Q o w' (k.keep hb) (zk h2));have HP:=O h;have HQ:=O k;have K5:=O (KP.o 5 _ B0.o);rw [show(zf P==5)=false from beq_eq_false_iff_ne.2 g] at K5;clear h k h1 h2 g KP KQ;obtain⟨⟨x0,x1⟩,⟨y0,y1⟩⟩:=X0.o;go_enter Tryz.func83,Tryz.ntmps83;go_wp2_with fail;refine(K5.o).mono ?_;rintro e w1 ⟨rfl,b1⟩;have B1:=bh B0 b1;have X1:=O (X0.o.keep b1);have R1:=O (R0.o.keep b1);clear x0 x1 y0 y1;clear b1 B0 X0 R0;go_wp2_with fail;refine(jZ _ _).mono ?_;rintro e w2 ⟨rfl,b2⟩;have B2:=bh B1 b2;have R2:=O (R1.o.keep b2);clear b2 B1 R1;have RS:=R2.o.set (.slice none 0 0) (.int .i64 (2));obtain⟨s0,s1,-,-⟩:=RS;have GF:=O (zD (S:=S) (r := .error (2)) (jM _) j5 B2.o (show w.heap.size<=w.heap.size+1+1 by omega));obtain⟨r0,r1,z0,z1⟩:=R2.o;go_wp2_with fail;exact bodyPost_ret (v := .agg #[.slice none 0 0,.int .i64 (2)]) (by simp [results,Tryz.results83,go_sem,s0,s1]) rfl GF.o
theorem zjA(S:Nat->Prop)(A B:Option Addr)(n m c d:Nat)(P Q:List Nd)(w:World)(h:Ns w A n c P)(k:Ns w B m d Q)(h1:zc P=0)(h2:zc Q=0)(g:zf P≠5):
 Calls Tryz.prog 83 #[.int .i64 27,.agg #[.slice A n c,.int .i64 0],.agg #[.slice B m d,.int .i64 0]] w (zK S w (.error 2)):=by
 have B0:=tB w A B n m c d;have X0:=tX w A B n m c d;have R0:=tR w A B n m c d;have KP:=O (λ(o:Int) w' (hb:Below w.heap.size w w')=>zQ A n c P o w' (h.keep hb) (zk h1));have KQ:=O (λ(o:Int) w' (hb:Below w.heap.size w w')=>zQ B m d Q o w' (k.keep hb) (zk h2));have HP:=O h;have HQ:=O k;have K5:=O (KP.o 5 _ B0.o);rw [show(zf P==5)=false from beq_eq_false_iff_ne.2 g] at K5;clear h k h1 h2 g KP KQ;obtain⟨⟨x0,x1⟩,⟨y0,y1⟩⟩:=X0.o;go_enter Tryz.func83,Tryz.ntmps83;go_wp2_with fail;refine(K5.o).mono ?_;rintro e w1 ⟨rfl,b1⟩;have B1:=bh B0 b1;have X1:=O (X0.o.keep b1);have R1:=O (R0.o.keep b1);clear x0 x1 y0 y1;clear b1 B0 X0 R0;go_wp2_with fail;refine(jZ _ _).mono ?_;rintro e w2 ⟨rfl,b2⟩;have B2:=bh B1 b2;have R2:=O (R1.o.keep b2);clear b2 B1 R1;have RS:=R2.o.set (.slice none 0 0) (.int .i64 (2));obtain⟨s0,s1,-,-⟩:=RS;have GF:=O (zD (S:=S) (r := .error (2)) (jM _) j5 B2.o (show w.heap.size<=w.heap.size+1+1 by omega));obtain⟨r0,r1,z0,z1⟩:=R2.o;go_wp2_with fail;exact bodyPost_ret (v := .agg #[.slice none 0 0,.int .i64 (2)]) (by simp [results,Tryz.results83,go_sem,s0,s1]) rfl GF.o
theorem zgo(S:Nat->Prop)(A B:Option Addr)(n m c d:Nat)(P Q:List Nd)(w:World)(h:Ns w A n c P)(k:Ns w B m d Q)(h1:zc P=0)(h2:zc Q=0)(g:zf P=5)(g2:zf Q≠5):
 Calls Tryz.prog 83 #[.int .i64 26,.agg #[.slice A n c,.int .i64 0],.agg #[.slice B m d,.int .i64 0]] w (zK S w (.error 2)):=by
 have B0:=tB w A B n m c d;have X0:=tX w A B n m c d;have R0:=tR w A B n m c d;have KP:=O (λ(o:Int) w' (hb:Below w.heap.size w w')=>zQ A n c P o w' (h.keep hb) (zk h1));have KQ:=O (λ(o:Int) w' (hb:Below w.heap.size w w')=>zQ B m d Q o w' (k.keep hb) (zk h2));have HP:=O h;have HQ:=O k;have K5:=O (KP.o 5 _ B0.o);rw [show(zf P==5)=true from beq_iff_eq.2 g] at K5;have K6:=O (KQ.o 5);rw [show(zf Q==5)=false from beq_eq_false_iff_ne.2 g2] at K6;clear h k h1 h2 g g2 KP KQ;obtain⟨⟨x0,x1⟩,⟨y0,y1⟩⟩:=X0.o;go_enter Tryz.func83,Tryz.ntmps83;go_wp2_with fail;refine(K5.o).mono ?_;rintro e w1 ⟨rfl,b1⟩;have B1:=bh B0 b1;have X1:=O (X0.o.keep b1);have R1:=O (R0.o.keep b1);clear x0 x1 y0 y1;clear b1 B0 X0 R0;obtain⟨⟨x0,x1⟩,⟨y0,y1⟩⟩:=X1.o;go_wp2_with fail;refine(K6.o _ B1.o).mono ?_;rintro e w2 ⟨rfl,b2⟩;have B2:=bh B1 b2;have X2:=O (X1.o.keep b2);have R2:=O (R1.o.keep b2);clear x0 x1 y0 y1;clear b2 B1 X1 R1;go_wp2_with fail;refine(jZ _ _).mono ?_;rintro e w3 ⟨rfl,b3⟩;have B3:=bh B2 b3;have R3:=O (R2.o.keep b3);clear b3 B2 R2;have RS:=R3.o.set (.slice none 0 0) (.int .i64 (2));obtain⟨s0,s1,-,-⟩:=RS;have GF:=O (zD (S:=S) (r := .error (2)) (jM _) j5 B3.o (show w.heap.size<=w.heap.size+1+1 by omega));obtain⟨r0,r1,z0,z1⟩:=R3.o;go_wp2_with fail;exact bodyPost_ret (v := .agg #[.slice none 0 0,.int .i64 (2)]) (by simp [results,Tryz.results83,go_sem,s0,s1]) rfl GF.o
theorem zgN(S:Nat->Prop)(A B:Option Addr)(n m c d:Nat)(P Q:List Nd)(w:World)(h:Ns w A n c P)(k:Ns w B m d Q)(h1:zc P=0)(h2:zc Q=0)(g:zf P=5)(g2:zf Q≠5):
 Calls Tryz.prog 83 #[.int .i64 27,.agg #[.slice A n c,.int .i64 0],.agg #[.slice B m d,.int .i64 0]] w (zK S w (.error 2)):=by
 have B0:=tB w A B n m c d;have X0:=tX w A B n m c d;have R0:=tR w A B n m c d;have KP:=O (λ(o:Int) w' (hb:Below w.heap.size w w')=>zQ A n c P o w' (h.keep hb) (zk h1));have KQ:=O (λ(o:Int) w' (hb:Below w.heap.size w w')=>zQ B m d Q o w' (k.keep hb) (zk h2));have HP:=O h;have HQ:=O k;have K5:=O (KP.o 5 _ B0.o);rw [show(zf P==5)=true from beq_iff_eq.2 g] at K5;have K6:=O (KQ.o 5);rw [show(zf Q==5)=false from beq_eq_false_iff_ne.2 g2] at K6;clear h k h1 h2 g g2 KP KQ;obtain⟨⟨x0,x1⟩,⟨y0,y1⟩⟩:=X0.o;go_enter Tryz.func83,Tryz.ntmps83;go_wp2_with fail;refine(K5.o).mono ?_;rintro e w1 ⟨rfl,b1⟩;have B1:=bh B0 b1;have X1:=O (X0.o.keep b1);have R1:=O (R0.o.keep b1);clear x0 x1 y0 y1;clear b1 B0 X0 R0;obtain⟨⟨x0,x1⟩,⟨y0,y1⟩⟩:=X1.o;go_wp2_with fail;refine(K6.o _ B1.o).mono ?_;rintro e w2 ⟨rfl,b2⟩;have B2:=bh B1 b2;have X2:=O (X1.o.keep b2);have R2:=O (R1.o.keep b2);clear x0 x1 y0 y1;clear b2 B1 X1 R1;go_wp2_with fail;refine(jZ _ _).mono ?_;rintro e w3 ⟨rfl,b3⟩;have B3:=bh B2 b3;have R3:=O (R2.o.keep b3);clear b3 B2 R2;have RS:=R3.o.set (.slice none 0 0) (.int .i64 (2));obtain⟨s0,s1,-,-⟩:=RS;have GF:=O (zD (S:=S) (r := .error (2)) (jM _) j5 B3.o (show w.heap.size<=w.heap.size+1+1 by omega));obtain⟨r0,r1,z0,z1⟩:=R3.o;go_wp2_with fail;exact bodyPost_ret (v := .agg #[.slice none 0 0,.int .i64 (2)]) (by simp [results,Tryz.results83,go_sem,s0,s1]) rfl GF.o
theorem znh(S:Nat->Prop)(A B:Option Addr)(n m c d:Nat)(P Q:List Nd)(w:World)(h:Ns w A n c P)(k:Ns w B m d Q)(h1:zc P=0)(h2:zc Q=0)(g:zf P=5):
 Calls Tryz.prog 83 #[.int .i64 25,.agg #[.slice A n c,.int .i64 0],.agg #[.slice B m d,.int .i64 0]] w (zK S w (.ok (zI (ly (zg P) Q)))):=by
 have B0:=tB w A B n m c d;have X0:=tX w A B n m c d;have R0:=tR w A B n m c d;have KP:=O (λ(o:Int) w' (hb:Below w.heap.size w w')=>zQ A n c P o w' (h.keep hb) (zk h1));have KQ:=O (λ(o:Int) w' (hb:Below w.heap.size w w')=>zQ B m d Q o w' (k.keep hb) (zk h2));have HP:=O h;have HQ:=O k;have K5:=O (KP.o 5 _ B0.o);rw [show(zf P==5)=true from beq_iff_eq.2 g] at K5;have KW:=O (λw' (hb:Below w.heap.size w w')=>Vu A B n m c d P Q w' (h.keep hb) (k.keep hb) h1 g);clear h k h1 h2 g KP KQ;generalize ly (zg P) Q=bb at *;obtain⟨⟨x0,x1⟩,⟨y0,y1⟩⟩:=X0.o;go_enter Tryz.func83,Tryz.ntmps83;go_wp2_with fail;refine(K5.o).mono ?_;rintro e w1 ⟨rfl,b1⟩;have B1:=bh B0 b1;have X1:=O (X0.o.keep b1);have R1:=O (R0.o.keep b1);clear x0 x1 y0 y1;clear b1 B0 X0 R0;obtain⟨⟨x0,x1⟩,⟨y0,y1⟩⟩:=X1.o;go_wp2_with fail;refine(KW.o _ B1.o).mono ?_;rintro e w2 ⟨rfl,b2⟩;have B2:=bh B1 b2;have X2:=O (X1.o.keep b2);have R2:=O (R1.o.keep b2);clear x0 x1 y0 y1;clear b2 B1 X1 R1;go_wp2_with fail;refine(jq (bb) _).mono ?_;rintro e w3 ⟨AT,nT,cT,rfl,hN,b3⟩;have B3:=bh B2 b3;have NT:=O hN.1;have II:=O (gZ (S:=S) B2.o R2.o hN.2);have R3:=O (R2.o.keep b3);clear b3 B2 R2 hN;go_wp2_with fail;refine(jA _ _ _ _).mono ?_;rintro e w4 ⟨rfl,b4⟩;have B4:=bh B3 b4;have R4:=O (R3.o.keep b4);have NZ:=O (NT.o.keep b4);clear b4 B3 R3;have RS:=R4.o.set (.slice AT nT cT) (.int .i64 0);obtain⟨s0,s1,-,-⟩:=RS;have GF:=O (zD (S:=S) (r := .ok _) NZ.o II.o B4.o (show w.heap.size<=w.heap.size+1+1 by omega));obtain⟨r0,r1,z0,z1⟩:=R4.o;go_wp2_with fail;exact bodyPost_ret (v := .agg #[.slice AT nT cT,.int .i64 0]) (by simp [results,Tryz.results83,go_sem,s0,s1]) rfl GF.o
theorem znx(S:Nat->Prop)(A B:Option Addr)(n m c d:Nat)(P Q:List Nd)(w:World)(h:Ns w A n c P)(k:Ns w B m d Q)(h1:zc P=0)(h2:zc Q=0)(g:zf P=5)(g2:zf Q=5):
 Calls Tryz.prog 83 #[.int .i64 26,.agg #[.slice A n c,.int .i64 0],.agg #[.slice B m d,.int .i64 0]] w (zK S w (.ok (zI (decide (((zg Q).filter λx=>ly (zg P) x).length=(zg Q).length))))):=by
 have B0:=tB w A B n m c d;have X0:=tX w A B n m c d;have R0:=tR w A B n m c d;have KP:=O (λ(o:Int) w' (hb:Below w.heap.size w w')=>zQ A n c P o w' (h.keep hb) (zk h1));have KQ:=O (λ(o:Int) w' (hb:Below w.heap.size w w')=>zQ B m d Q o w' (k.keep hb) (zk h2));have HP:=O h;have HQ:=O k;have K5:=O (KP.o 5 _ B0.o);rw [show(zf P==5)=true from beq_iff_eq.2 g] at K5;have K6:=O (KQ.o 5);rw [show(zf Q==5)=true from beq_iff_eq.2 g2] at K6;have KC:=O (λw' (hb:Below w.heap.size w w')=>TG B A m n d c Q P true w' (k.keep hb) (h.keep hb) h2 g2 h1 g);rw [show((zg Q).filter λx=>ly (zg P) x==true)=(zg Q).filter λx=>ly (zg P) x by simp] at KC;unfold UI at KC;have HN:=O (zpj h2 g2);have HQ0:=O (zk h2);have HTT:=O (show∀l:Nat,l=((zg Q).filter λx=>ly (zg P) x).length->((l:Int)==(hdN Q).n)=decide (((zg Q).filter λx=>ly (zg P) x).length=(zg Q).length) from λl hl=>by
  rw [HN.o,<-hl,Bool.eq_iff_iff,beq_iff_eq,decide_eq_true_iff];omega)
 generalize ((zg Q).filter λx=>ly (zg P) x)=FL at *;generalize decide (FL.length=(zg Q).length)=bb at *;clear h k h1 h2 g g2 KP KQ;obtain⟨⟨x0,x1⟩,⟨y0,y1⟩⟩:=X0.o;go_enter Tryz.func83,Tryz.ntmps83;go_wp2_with fail;refine(K5.o).mono ?_;rintro e w1 ⟨rfl,b1⟩;have B1:=bh B0 b1;have X1:=O (X0.o.keep b1);have R1:=O (R0.o.keep b1);clear x0 x1 y0 y1;clear b1 B0 X0 R0;obtain⟨⟨x0,x1⟩,⟨y0,y1⟩⟩:=X1.o;go_wp2_with fail;refine(K6.o _ B1.o).mono ?_;rintro e w2 ⟨rfl,b2⟩;have B2:=bh B1 b2;have X2:=O (X1.o.keep b2);have R2:=O (R1.o.keep b2);clear x0 x1 y0 y1;clear b2 B1 X1 R1;obtain⟨⟨x0,x1⟩,⟨y0,y1⟩⟩:=X2.o;go_wp2_with fail;refine(KC.o _ B2.o).mono ?_;rintro e w3 ⟨v,V,rfl,hO,ZH,b3⟩;have B3:=bh B2 b3;have X3:=O (X2.o.keep b3);have R3:=O (R2.o.keep b3);obtain⟨A3,c3,e3,-,-⟩:=hO.at
 subst e3;obtain⟨l,hl⟩:∃l,l=V.length:=⟨_,rfl⟩
 rw [<-hl];have HL:=O (HTT.o l (by rw [hl,<-ZH,List.length_map]));clear x0 x1 y0 y1;clear b3 B2 X2 R2 hO ZH hl;obtain⟨⟨x0,x1⟩,⟨y0,y1⟩⟩:=X3.o;obtain⟨a4,e4,hn4,D4,-,-⟩:=jY (HQ.o.keep B3.o) HQ0.o;subst e4;have d1:=D4.c1;have hi:(0:Int)<(m:Int):=by omega
 have hi0:0<m:=hn4;clear D4;generalize (hdN Q).n=qn at *;have KTT:∀w,Calls Tryz.prog 8 #[.bool (((l:Int)==qn))] w λe w'=>∃A n c,e = .returned (.slice A n c)/\(Ns w' A n c (zI bb)/\∀a,A=some a->w.heap.size<=a.block)/\Below w.heap.size w w':=λw=>by rw [HL.o];exact jq bb w
 go_wp2_with fail;refine(KTT _).mono ?_;rintro e w4 ⟨AT,nT,cT,rfl,hN,b4⟩;have B4:=bh B3 b4;have NT:=O hN.1;have II:=O (gZ (S:=S) B3.o R3.o hN.2);have R4:=O (R3.o.keep b4);clear b4 B3 R3 hN KTT;go_wp2_with fail;refine(jA _ _ _ _).mono ?_;rintro e w5 ⟨rfl,b5⟩;have B5:=bh B4 b5;have R5:=O (R4.o.keep b5);have NZ:=O (NT.o.keep b5);clear b5 B4 R4;have RS:=R5.o.set (.slice AT nT cT) (.int .i64 0);obtain⟨s0,s1,-,-⟩:=RS;have GF:=O (zD (S:=S) (r := .ok _) NZ.o II.o B5.o (show w.heap.size<=w.heap.size+1+1 by omega));obtain⟨r0,r1,z0,z1⟩:=R5.o;go_wp2_with fail;exact bodyPost_ret (v := .agg #[.slice AT nT cT,.int .i64 0]) (by simp [results,Tryz.results83,go_sem,s0,s1]) rfl GF.o
theorem znm(S:Nat->Prop)(A B:Option Addr)(n m c d:Nat)(P Q:List Nd)(w:World)(h:Ns w A n c P)(k:Ns w B m d Q)(h1:zc P=0)(h2:zc Q=0)(g:zf P=5)(g2:zf Q=5):
 Calls Tryz.prog 83 #[.int .i64 27,.agg #[.slice A n c,.int .i64 0],.agg #[.slice B m d,.int .i64 0]] w (zK S w (.ok (zI ((zg Q).any λx=>ly (zg P) x)))):=by
 have B0:=tB w A B n m c d;have X0:=tX w A B n m c d;have R0:=tR w A B n m c d;have KP:=O (λ(o:Int) w' (hb:Below w.heap.size w w')=>zQ A n c P o w' (h.keep hb) (zk h1));have KQ:=O (λ(o:Int) w' (hb:Below w.heap.size w w')=>zQ B m d Q o w' (k.keep hb) (zk h2));have HP:=O h;have HQ:=O k;have K5:=O (KP.o 5 _ B0.o);rw [show(zf P==5)=true from beq_iff_eq.2 g] at K5;have K6:=O (KQ.o 5);rw [show(zf Q==5)=true from beq_iff_eq.2 g2] at K6;have KC:=O (λw' (hb:Below w.heap.size w w')=>TG B A m n d c Q P true w' (k.keep hb) (h.keep hb) h2 g2 h1 g);rw [show((zg Q).filter λx=>ly (zg P) x==true)=(zg Q).filter λx=>ly (zg P) x by simp] at KC;unfold UI at KC;have HTT:=O (show∀l:Nat,l=((zg Q).filter λx=>ly (zg P) x).length->decide (0<l)=(zg Q).any λx=>ly (zg P) x from λl hl=>by rw [hl];exact zdF _ _);generalize ((zg Q).filter λx=>ly (zg P) x)=FL at *;generalize ((zg Q).any λx=>ly (zg P) x)=bb at *;clear h k h1 h2 g g2 KP KQ;obtain⟨⟨x0,x1⟩,⟨y0,y1⟩⟩:=X0.o;go_enter Tryz.func83,Tryz.ntmps83;go_wp2_with fail;refine(K5.o).mono ?_;rintro e w1 ⟨rfl,b1⟩;have B1:=bh B0 b1;have X1:=O (X0.o.keep b1);have R1:=O (R0.o.keep b1);clear x0 x1 y0 y1;clear b1 B0 X0 R0;obtain⟨⟨x0,x1⟩,⟨y0,y1⟩⟩:=X1.o;go_wp2_with fail;refine(K6.o _ B1.o).mono ?_;rintro e w2 ⟨rfl,b2⟩;have B2:=bh B1 b2;have X2:=O (X1.o.keep b2);have R2:=O (R1.o.keep b2);clear x0 x1 y0 y1;clear b2 B1 X1 R1;obtain⟨⟨x0,x1⟩,⟨y0,y1⟩⟩:=X2.o;go_wp2_with fail;refine(KC.o _ B2.o).mono ?_;rintro e w3 ⟨v,V,rfl,hO,ZH,b3⟩;have B3:=bh B2 b3;have X3:=O (X2.o.keep b3);have R3:=O (R2.o.keep b3);obtain⟨A3,c3,e3,-,-⟩:=hO.at
 subst e3;obtain⟨l,hl⟩:∃l,l=V.length:=⟨_,rfl⟩
 rw [<-hl];have HL:=O (HTT.o l (by rw [hl,<-ZH,List.length_map]));clear x0 x1 y0 y1;clear b3 B2 X2 R2 hO ZH hl;obtain⟨⟨x0,x1⟩,⟨y0,y1⟩⟩:=X3.o;have KTT:∀w,Calls Tryz.prog 8 #[.bool (decide (0<l))] w λe w'=>∃A n c,e = .returned (.slice A n c)/\(Ns w' A n c (zI bb)/\∀a,A=some a->w.heap.size<=a.block)/\Below w.heap.size w w':=λw=>by rw [HL.o];exact jq bb w
 go_wp2_with fail;refine(KTT _).mono ?_;rintro e w4 ⟨AT,nT,cT,rfl,hN,b4⟩;have B4:=bh B3 b4;have NT:=O hN.1;have II:=O (gZ (S:=S) B3.o R3.o hN.2);have R4:=O (R3.o.keep b4);clear b4 B3 R3 hN KTT;go_wp2_with fail;refine(jA _ _ _ _).mono ?_;rintro e w5 ⟨rfl,b5⟩;have B5:=bh B4 b5;have R5:=O (R4.o.keep b5);have NZ:=O (NT.o.keep b5);clear b5 B4 R4;have RS:=R5.o.set (.slice AT nT cT) (.int .i64 0);obtain⟨s0,s1,-,-⟩:=RS;have GF:=O (zD (S:=S) (r := .ok _) NZ.o II.o B5.o (show w.heap.size<=w.heap.size+1+1 by omega));obtain⟨r0,r1,z0,z1⟩:=R5.o;go_wp2_with fail;exact bodyPost_ret (v := .agg #[.slice AT nT cT,.int .i64 0]) (by simp [results,Tryz.results83,go_sem,s0,s1]) rfl GF.o
theorem TD(S:Nat->Prop)(op:Int)(hop:op=25\/op=26\/op=27)(E:List En)(A B:Option Addr)(n m c d:Nat)(P Q:List Nd)(w:World)(h:Ns w A n c P)(k:Ns w B m d Q)(h1:zc P=0)(h2:zc Q=0):
 Calls Tryz.prog 83 #[.int .i64 op,.agg #[.slice A n c,.int .i64 0],.agg #[.slice B m d,.int .i64 0]] w (zK S w (jO E op P Q)):=by
 have hb:zf P=5->zf Q=5->jU P Q=0:=λg g2=>My.2 ⟨h1,h2,g,g2⟩;have hb2:¬(zf P=5/\zf Q=5)->jU P Q=2:=λg=>by unfold jU UJ;rw [h1,zM,h2,zM,if_neg g]
 rcases hop with rfl|rfl|rfl
 ·rw [show jO E 25 P Q=jo (Mr P Q) (OK P Q) from rfl];by_cases g:zf P=5
  ·rw [show jo (Mr P Q) (OK P Q)= .ok (zI (ly (zg P) Q)) by
    have h0:Mr P Q=0:=by unfold Mr;rw [h1,zM,h2,zM,if_pos g]
    unfold jo OK;rw [h0];rfl]
   exact znh S A B n m c d P Q w h k h1 h2 g
  ·rw [show jo (Mr P Q) (OK P Q)= .error 2 by
    have h0:Mr P Q=2:=by unfold Mr;rw [h1,zM,h2,zM,if_neg g]
    unfold jo;rw [h0];rfl]
   exact ziN S A B n m c d P Q w h k h1 h2 g
 ·rw [show jO E 26 P Q=jo (jU P Q) (P9 P Q) from rfl];by_cases g:zf P=5
  ·by_cases g2:zf Q=5
   ·rw [show jo (jU P Q) (P9 P Q)= .ok (zI (decide (((zg Q).filter λx=>ly (zg P) x).length=(zg Q).length))) by
     unfold jo P9;rw [hb g g2];rfl]
    exact znx S A B n m c d P Q w h k h1 h2 g g2
   ·rw [show jo (jU P Q) (P9 P Q)= .error 2 by unfold jo;rw [hb2 λq=>g2 q.2];rfl];exact zgo S A B n m c d P Q w h k h1 h2 g g2
  ·rw [show jo (jU P Q) (P9 P Q)= .error 2 by unfold jo;rw [hb2 λq=>g q.1];rfl];exact zi1 S A B n m c d P Q w h k h1 h2 g
 ·rw [show jO E 27 P Q=jo (jU P Q) (Ri P Q) from rfl];by_cases g:zf P=5
  ·by_cases g2:zf Q=5
   ·rw [show jo (jU P Q) (Ri P Q)= .ok (zI ((zg Q).any λx=>ly (zg P) x)) by
     unfold jo Ri;rw [hb g g2];rfl]
    exact znm S A B n m c d P Q w h k h1 h2 g g2
   ·rw [show jo (jU P Q) (Ri P Q)= .error 2 by unfold jo;rw [hb2 λq=>g2 q.2];rfl];exact zgN S A B n m c d P Q w h k h1 h2 g g2
  ·rw [show jo (jU P Q) (Ri P Q)= .error 2 by unfold jo;rw [hb2 λq=>g q.1];rfl];exact zjA S A B n m c d P Q w h k h1 h2 g
end Go.Proofs.YtokiogmfgpidmaaGreatDoor
namespace Go.Proofs.YtokiogmfgpidmaaGreatDoor
open Go.RowKit Go.Wk
def kQ:List Ud->List Value
 | [] => []
 | u :: U => .string u.1 :: .string u.2 :: kQ U
@[simp] theorem udCells_length (U:List Ud):(kQ U).length=U.length*2:=by
 induction U with
 | nil=>rfl
 | cons u U ih=>simp only [kQ,List.length_cons,ih];omega
theorem Tq(U V:List Ud):kQ (U ++ V)=kQ U ++ kQ V:=by
 induction U with
 | nil=>rfl
 | cons u U ih=>simp only [List.cons_append,kQ,ih]
theorem zbB(U:List Ud):∀v∈kQ U,v.oneCell'=true:=by
 induction U with
 | nil=>intro v hv;cases hv
 | cons u U ih =>
  intro v hv
  simp only [kQ,List.mem_cons] at hv
  rcases hv with rfl|rfl|hv
  ·rfl
  ·rfl
  ·exact ih v hv
theorem zfO{w:World}{a:Addr}{P:List Ud}(h:∀j u,(kQ P)[j]?=some u->w.cell? (a.add j)=some u):RV w (some a) P:=by
 have key:∀(P:List Ud) (k:Nat) (x:Ud),P[k]?=some x->(kQ P)[k*2]?=some (.string x.1)/\(kQ P)[k*2+1]?=some (.string x.2):=by
  intro P
  induction P with
  | nil=>intro k x hx;simp at hx
  | cons y P ih =>
   intro k x hx
   cases k with
   | zero=>simp at hx;subst hx;exact⟨rfl,rfl⟩
   | succ k =>
    have:=ih k x (by simpa using hx)
    rw [show(k+1)*2=k*2+1+1 by omega]
    simpa [kQ] using this
 intro k x hx;obtain⟨h1,h2⟩:=key P k x hx;refine⟨a,rfl,h _ _ h1,?_⟩;have:=h _ _ h2;rw [<-add_add] at this;unfold Addr.add at this ⊢;simpa using this
theorem zgr{w:World}{B:Nat}{v:Value}{P:List Ud}(h:w.ownsRow B 36 2 v P.length (kQ P))(hP:∀x∈P,UOk x)(hl:P.length<=1000000):∃A c,v = .slice A P.length c/\Us w A P.length c P:=by
 rcases h.2 with ⟨rfl,h0⟩|⟨g,cap,cur,rfl,hB,_,hc,_⟩
 ·have:P = []:=List.eq_nil_of_length_eq_zero h0;subst this;exact⟨none,0,rfl,rfl,Nat.le_refl _,Nat.zero_le _,λk x hx=>by simp at hx,λx hx=>nomatch hx⟩
 ·exact⟨some ⟨g,0,none⟩,cap,rfl,rfl,hc,by unfold maxLen;omega,zfO (h.cells (g:=g) rfl),hP⟩
theorem zng:(Tryz.prog.info? 36).map (λi=>(i.zero,i.size,i.bytes))=some (some (.agg #[.string ⟨#[]⟩,.string ⟨#[]⟩]),2,32):=by kernel_rfl
structure Qj(w:World)(B:Nat)(v:Value)(m:Nat)(u:Ud)(L:List Ud):Prop where
 len:m=L.length+1
 own:w.ownsRow B 36 2 v m (kQ (u :: L))
theorem Qj.keep{w w':World}{B m:Nat}{v:Value}{u:Ud}{L:List Ud}(h:Qj w B v m u L)(hb:Below w.heap.size w w'):Qj w' B v m u L:=⟨h.len,aC h.own hb⟩
theorem Qj.us{w:World}{B m:Nat}{v:Value}{u:Ud}{L:List Ud}(h:Qj w B v m u L)(hu:UOk u)(hL:∀x∈L,UOk x)(hl:L.length<=1000):∃A c,v = .slice A m c/\Us w A m c (u :: L):=by
 have e:m=(u :: L).length:=by rw [h.len];rfl
 have h2:=h.own;rw [e] at h2 ⊢;exact zgr h2 (λx hx=>by
  rcases List.mem_cons.1 hx with rfl|hx
  ·exact hu
  ·exact hL x hx) (by simp;omega)
theorem zm7{w:World}{A:Option Addr}{n c:Nat}{E:List En}(h:Es w A n c E){u y:Ud}(hy:Abv (jn E) u y):UOk y:=by
 have:∀p q,Stp (jn E) p q->UOk q:=λp q ⟨e,he,_,h2⟩=>by
  obtain⟨x,hx,rfl⟩:=List.mem_map.1 he;exact(h.enok x hx).us.ok q h2
 induction hy with
 | one s=>exact this _ _ s
 | more _ _ ih=>exact ih
theorem zjm(B:Nat)(v:Value)(m:Nat)(z:Ud)(L:List Ud)(p:Ud)(w:World)(h:Qj w B v m z L)(hB:B<=w.heap.size)(hl:L.length<=1000)(hz:UOk z)(hL:∀x∈L,UOk x):
 Calls Tryz.prog 173 #[v,udV p] w λe w'=>∃v' m',e = .returned v'/\Qj w' B v' m' z (Wc L p)/\w.grownBy w' v.ownBlock:=by
 obtain⟨i0,hi,hz0,hz1,hz2⟩:=info_parts zng;obtain⟨A,c,rfl,ZI⟩:=h.us hz hL hl;have HM:=O h.len;have hm1:m<=1001:=by have:=h.len;omega
 have hm2:1<=m:=by have:=h.len;omega
 have HO:=O h;have HU:=O ZI;have B0:=O (zb w (.cells #[.string p.1,.string p.2] 36));have P0:=O (ot w (.string p.1) (.string p.2) 36);clear h ZI hz hL;unfold udV;go_enter Tryz.func173,Tryz.ntmps173;go_wp2_with fail;obtain⟨w0,hw0⟩:∃w0,w.alloc (.cells #[.string p.1,.string p.2] 36)=w0:=⟨_,rfl⟩
 rw [hw0] at P0 B0 ⊢;clear hw0;go_loopw [5] (λi wr=>∃k:Nat,k<=L.length/\i = .int .i64 (k+1:Nat)/\Hid (CO (L.take k) p=false)/\Hid (Below w.heap.size w wr)/\Hid (Vr2 wr w.heap.size (.string p.1) (.string p.2))) (λi _=>m-(intOf i).toNat)
 case atStart=>exact⟨0,Nat.zero_le _,rfl,rfl,B0,P0⟩
 case round =>
  clear B0 P0;obtain⟨k,hk,rfl,hN,hB',hV⟩:=hrel;by_cases hlt:k<L.length
  ·have hkm:k+1<m:=by have:=HM.o;omega
   have HT:=O (W7 hlt p);obtain⟨a,rfl,q0,q1⟩:=(HU.o.keep hB'.o).at_ (k+1) L[k] (by simp [hlt]);have v0:=cell_regrown hV.o.c0;have v1:=cell_regrown hV.o.c1;by_cases he:L[k]=p
   ·have HY:=O (show Wc L p=L from if_pos (i8.2 (he ▸ List.getElem_mem hlt)));rw [he] at q0 q1;have k0:=cell_regrown q0;have k1:=cell_regrown q1;clear he q0 q1 HT;go_wp2_with fail;refine wp_region_quiet_below (by kernel_rfl) (by kernel_rfl) ?_
    repeat (first|go_big_quiet_step (fail)|quiet_step (fail))
    refine wpQuiet_nil ?_;intro w1 hw';have B1:=O (show Below wr.heap.size wr w1 by obtain⟨⟨d,os⟩,rfl⟩:=hw';exact below_regrown _ _ _);clear hw';have BX:=oz hB' B1 (Nat.le_refl _);clear k0 k1 v0 v1 hB' B1;go_wp2_with fail;go_ret;exact⟨_,m,rfl,by rw [HY.o];exact HO.o.keep BX.o,zA BX.o _⟩
   ·rw [decide_eq_false he,Bool.or_false,hN.o] at HT;have k0:=cell_regrown q0;have k1:=cell_regrown q1;have hne:=MX he;clear he q0 q1;generalize L[k]=y at *;rcases hne with h1|⟨h1,h2⟩
    ·go_wp2_with fail;refine wp_region_quiet_below (by kernel_rfl) (by kernel_rfl) ?_
     repeat (first|go_big_quiet_step (fail)|quiet_step (fail))
     refine wpQuiet_nil ?_;intro w1 hw';have B1:=O (show Below wr.heap.size wr w1 by obtain⟨⟨d,os⟩,rfl⟩:=hw';exact below_regrown _ _ _);clear hw';have BX:=oz hB' B1 (Nat.le_refl _);have VX:=O (hV.o.keep B1.o);clear k0 k1 v0 v1 hB' B1 hV;go_wp2_with fail;go_roundw
     case rel=>exact⟨k+1,by omega,by go_num,HT,BX,VX⟩
     case measure=>simp [intOf];omega
    ·go_wp2_with fail;refine wp_region_quiet_below (by kernel_rfl) (by kernel_rfl) ?_
     repeat (first|go_big_quiet_step (fail)|quiet_step (fail))
     refine wpQuiet_nil ?_;intro w1 hw';have B1:=O (show Below wr.heap.size wr w1 by obtain⟨⟨d,os⟩,rfl⟩:=hw';exact below_regrown _ _ _);clear hw';have BX:=oz hB' B1 (Nat.le_refl _);have VX:=O (hV.o.keep B1.o);clear k0 k1 v0 v1 hB' B1 hV;go_wp2_with fail;go_roundw
     case rel=>exact⟨k+1,by omega,by go_num,HT,BX,VX⟩
     case measure=>simp [intOf];omega
  ·have hkm:¬k+1<m:=by have:=HM.o;omega
   have HN:=O (show Wc L p=L ++ [p] by
    have e:CO L p=false:=by rw [<-hN.o,List.take_of_length_le (by omega)]
    unfold Wc;rw [e];rfl)
   obtain⟨c0,c1,-,-⟩:=hV.o;have HC:=O (jP wr (kQ [p]) 36);have O1:=O ((aC HO.o.own hB'.o).alloc (.cells (kQ [p]).toArray 36));have HB2:=hB'.o.size;go_wp2_with (at_builtin;go_loud (refine wpList_append_own _ rfl _ _ 94 rfl B 36 i0 _ 2 32 Tryz.underlying94 hi hz0 hz1 hz2 rfl (by decide) _ m (kQ (z :: L)) rfl O1.o ⟨_,0,none⟩ 1 1 (kQ [p]) rfl rfl HC.o (zbB _) ?c1 ?c2 ?c3 ?_))
   case c1=>unfold maxLen;omega
   case c2=>omega
   case c3=>simp;omega
   intro v1 w1 hown hgrow _;have OW:=O hown;have GW:=O (((zA hB'.o _).trans (World.grownBy_alloc wr _ _)).trans hgrow);clear hown hgrow O1 HC c0 c1;go_wp2_with fail;go_ret;exact⟨_,m+1,rfl,⟨by rw [HN.o,List.length_append,HM.o];simp,by rw [HN.o,<-List.cons_append,Tq];exact OW.o⟩,GW.o⟩
def zq1(w:World)(E:List En)(u:Ud)(e:Ending)(w':World):Prop :=
 ∃(A:Option Addr) (n c:Nat) (L:List Ud),e = .returned (.slice A n c)/\Us w' A n c L/\(∀y,y∈L↔Abv (jn E) u y)/\L.Nodup/\L.length<=900/\Below w.heap.size w w'
theorem ziP(w:World)(u:Ud):Qj (w.alloc (.cells #[.string u.1,.string u.2] 36)) w.heap.size (.slice (some ⟨w.heap.size,0,none⟩) 1 1) 1 u [] :=
 ⟨rfl,rfl,.inr ⟨_,1,_,rfl,Nat.le_refl _,heap_alloc_new w _,Nat.le_refl _,by unfold maxLen;omega,rfl,rfl⟩⟩
theorem Qj.base{w:World}{B m:Nat}{v:Value}{u:Ud}{L:List Ud}(h:Qj w B v m u L):∀g,v.ownBlock=some g->B<=g:=zR h.own
theorem zji{E:List En}{k:Nat}(h:k<E.length)(h':k<(jn E).length):(jn E)[k]=(E[k].u,E[k].ups):=by
 simp [jn]
theorem zf5(E:List En):(jn E).flatMap (·.2)=vY E:=by
 unfold jn vY;rw [List.flatMap_map]
theorem zlt{w:World}{A:Option Addr}{m c:Nat}{u:Ud}{L:List Ud}(h:Us w A m c (u :: L)):∃a,A=some a/\Us w (some (a.add 2)) (m-1) (c-1) L:=by
 obtain⟨a,e,-⟩:=h.at_ 0 u rfl;have hl:=h.len;have hc:=h.cap;have hm:=h.max;rw [List.length_cons] at hl;refine⟨a,e,by omega,by omega,by omega,λk x hx=>?_,λx hx=>h.ok x (by simp [hx])⟩;obtain⟨b,e2,q1,q2⟩:=h.at_ (k+1) x (by simpa using hx);rw [e] at e2;injection e2 with e2;subst e2;refine⟨_,rfl,?_⟩;rw [add_add,show 2+k*2=(k+1)*2 by omega];exact⟨q1,q2⟩
theorem zk6(A:Option Addr)(n c:Nat)(E:List En)(u:Ud)(w:World)(h:Es w A n c E)(hu:UOk u)(ha:(vY E).length<=900):
 Calls Tryz.prog 157 #[.slice A n c,udV u,.int .i64 n] w (zq1 w E u):=by
 have HG:=O (show n=(jn E).length by rw [h.len,jn,List.length_map]);have HLE:=O (show∀(L L':List Ud),Grw (jn E) u L L'->L'.length<=900 from λL L' g=>by
  have:=g.len
  rw [zf5] at this
  omega)
 have SX:=O (λ(L L':List Ud) (g:Grw (jn E) u L L') (y:Ud) (hy:y∈L')=>zm7 h (g.sound y hy));have HH:=O h;have HL:=O h.len;have HU:=O hu;have zoG:=h.max;unfold maxLen at zoG;clear h ha hu;unfold udV;go_enter Tryz.func157,Tryz.ntmps157;go_wp2_with fail;have B0:=O (zb w (.cells #[.string u.1,.string u.2] 36));have hsz:(w.alloc (.cells #[.string u.1,.string u.2] 36)).heap.size=w.heap.size+1:=by simp
 obtain⟨w0,hw0⟩:∃w0,w.alloc (.cells #[.string u.1,.string u.2] 36)=w0:=⟨_,rfl⟩
 rw [hw0] at B0 hsz ⊢;rw [<-hsz];clear hw0 hsz;have R1:=O (ziP w0 u);have B1:=bh B0 (zb w0 (.cells #[.string u.1,.string u.2] 36));have HB0:=O (show w.heap.size<=w0.heap.size from B0.o.size);have HB1:=O (show w0.heap.size<=(w0.alloc (.cells #[.string u.1,.string u.2] 36)).heap.size by simp);obtain⟨w1,WF⟩:∃w1,w0.alloc (.cells #[.string u.1,.string u.2] 36)=w1:=⟨_,rfl⟩
 rw [WF] at R1 B1 HB1 ⊢;clear WF B0;generalize w0.heap.size=b0 at *;go_loopw [7,8,9,11,12,13] (λout f s _ _ _ wr=>∃(t fr m:Nat) (L:List Ud),t<=n/\f = .int .i64 fr/\s = .int .i64 t/\fr<=m/\Hid (Bfs (jn E) u t fr L)/\Hid (Qj wr b0 out m u L)/\Hid (Below w.heap.size w wr)/\Hid (b0<=wr.heap.size)) (λ_ _ s _ _ _ _=>n-(intOf s).toNat)
 case atStart=>exact⟨0,0,1,[],Nat.zero_le _,rfl,rfl,Nat.zero_le _,O (Bfs.start _ _),R1,B1,HB1⟩
 case round =>
  clear R1 B1 HB1;obtain⟨t,fr,m,L,ht,rfl,rfl,hfr,hF,hR,hB,hb0⟩:=hrel;obtain⟨A1,c1,hv1,hus1⟩:=hR.o.us HU.o (SX.o _ _ hF.o.fnd) (Nat.le_trans (HLE.o _ _ hF.o.fnd) (by omega));have HU1:=O hus1;subst hv1;clear hus1;have HML:=O hR.o.len;have hmb:m<=901:=by have:=hR.o.len;have:=HLE.o _ _ hF.o.fnd;omega
  by_cases hlt:t<n
  ·go_wp2_with fail;go_loopw [7,11,12,13] (λout i _ _ wk=>∃(i' m':Nat) (L':List Ud),i'<=m/\i = .int .i64 i'/\Hid (Wd (jn E) u L i' L')/\Hid (Qj wk b0 out m' u L')/\Hid (Below w.heap.size w wk)/\Hid (b0<=wk.heap.size)) (λ_ i _ _ _=>m-(intOf i).toNat)
   case atStart=>exact⟨fr,m,L,hfr,rfl,O (Wd.start hF.o),hR,hB,hb0⟩
   case round =>
    clear hR hB hb0 HU1;obtain⟨i',m',L',hi,rfl,hM1,hR,hB,hb0⟩:=hrel;by_cases hli:i'<m
    ·have hil:i'<(u :: L).length:=by rw [List.length_cons];have:=HML.o;omega
     go_wp2_with fail;go_loopw [7,12,13] (λout k _ wk=>∃(k' m2:Nat) (L2:List Ud),k'<=n/\k = .int .i64 k'/\Hid (YY (jn E) u (u :: L)[i'] L' k' L2)/\Hid (Qj wk b0 out m2 u L2)/\Hid (Below w.heap.size w wk)/\Hid (b0<=wk.heap.size)) (λ_ k _ _=>n-(intOf k).toNat)
     case atStart=>exact⟨0,m',L',Nat.zero_le _,rfl,O (YY.start hM1.o.grw),hR,hB,hb0⟩
     case round =>
      clear hR hB hb0;obtain⟨k',m2,L2,hk,rfl,hM2,hR,hB,hb0⟩:=hrel;by_cases hlk:k'<n
      ·have VG:k'<E.length:=by rw [<-HL.o];exact hlk
       have HGA:=O (zji VG (by rw [<-HG.o];exact hlk));obtain⟨A2,c2,hv2,zha⟩:=hR.o.us HU.o (SX.o _ _ hM2.o.grw) (Nat.le_trans (HLE.o _ _ hM2.o.grw) (by omega));subst hv2;have HG2:=O (hM1.o.grw.trans hM2.o.grw);obtain⟨a2,ea2,z0,z1⟩:=zha.at_ i' _ (HG2.o.get hil);have hm2:m<=m2:=by
        have h1:=hR.o.len;have h2:=HML.o;obtain⟨R,e⟩:=HG2.o.pre;rw [e,List.length_append] at h1;omega
       subst ea2;have hc2:=zha.cap;have hl2:=HLE.o _ _ hM2.o.grw;have HR2:=O hR.o.len;have HZ:=O (show(u :: L)[i']=u\/(u :: L)[i']∈L2 from by
        rcases List.mem_cons.1 (List.getElem_mem hil) with e|e
        ·exact .inl e
        ·exact .inr (HG2.o.sub _ e))
       clear zha;obtain⟨z,hz⟩:∃z,z=(u :: L)[i']:=⟨_,rfl⟩
       rw [<-hz] at z0 z1 HZ hM2;have HZE:=O hz;clear hz;obtain⟨a,rfl,q0,q1,q2,-,hxo⟩:=(HH.o.keep hB.o).at_ k' _ (List.getElem?_eq_getElem VG);obtain⟨x,hx⟩:∃x,x=E[k']:=⟨_,rfl⟩
       rw [<-hx] at q0 q1 q2 hxo HGA;have HXE:=O (show E[k']?=some x by rw [List.getElem?_eq_getElem VG,hx]);clear hx;have v0:=cell_regrown z0;have v1:=cell_regrown z1;by_cases he:x.u=z
       ·have HE:=O he;rw [he] at q0 q1;have k0:=cell_regrown q0;have k1:=cell_regrown q1;clear q0 q1 z0 z1 he;go_wp2_with fail;refine wp_region_quiet_below (by kernel_rfl) (by kernel_rfl) ?_
        repeat (first|go_big_quiet_step (fail)|quiet_step (fail))
        refine wpQuiet_nil ?_;intro w5 hw';have b5:=O (show Below wr.heap.size wr w5 by obtain⟨⟨d,os⟩,rfl⟩:=hw';exact below_regrown _ _ _);clear hw';have B5:=bh hB b5.o;have R5:=O (hR.o.keep b5.o);have HB5:=O (Nat.le_trans hb0.o b5.o.size);have q2':=za b5.o q2;have HU5:=O (hxo.us.keep b5.o);have HUL:=O hxo.us.len;have hum:=hxo.us.max;unfold maxLen at hum;clear k0 k1 v0 v1 hB hR hb0 b5 q2 hxo HU5 q2';go_wp2_with fail;go_loopw [7,13] (λout p wk=>∃(p' m3:Nat) (L3:List Ud),p'<=x.un/\p = .int .i64 p'/\Hid (Yb (jn E) u x.ups L2 p' L3)/\Hid (Qj wk b0 out m3 u L3)/\Hid (Below w.heap.size w wk)/\Hid (b0<=wk.heap.size)) (λ_ p _=>x.un-(intOf p).toNat)
        case atStart=>exact⟨0,m2,L2,Nat.zero_le _,rfl,O (Yb.start hM2.o.grw),R5,B5,HB5⟩
        case round =>
         clear R5 B5 HB5;obtain⟨p',m3,L3,hp,rfl,hM3,hR,hB,hb0⟩:=hrel;obtain⟨a',ea,-,-,q2,-,hxo⟩:=(HH.o.keep hB.o).at_ k' x HXE.o;injection ea with ea;subst ea;by_cases hlp:p'<x.un
         ·have zn2:p'<x.ups.length:=by rw [<-HUL.o];exact hlp
          obtain⟨b,eb,q3,q4⟩:=hxo.us.at_ p' _ (List.getElem?_eq_getElem zn2);rw [eb] at q2;have HM4:=O (hM3.o.next zn2 HZ.o (show Stp (jn E) z x.ups[p'] from⟨(x.u,x.ups),by rw [<-HGA.o];exact List.getElem_mem _,HE.o,List.getElem_mem zn2⟩));have HK:=O (zjm b0 u7 m3 u L3 x.ups[p'] wr hR.o hb0.o (Nat.le_trans (HLE.o _ _ hM3.o.grw) (by omega)) HU.o (SX.o _ _ hM3.o.grw));generalize x.ups[p']=p at *;unfold udV at HK;clear hxo eb;go_wp2_with fail;refine HK.o.mono ?_;rintro e w6 ⟨v6,m6,rfl,hrow,hgr⟩;have R6:=O hrow;have B6:=O (hB.o.grown hgr hB.o.size (λg hg=>Nat.le_trans HB0.o (hR.o.base g hg)));have HB6:=O (Nat.le_trans hb0.o hgr.size);clear hrow hgr HK hR hB hb0 q2 q3 q4;go_wp2_with fail;go_roundw
          case rel=>exact⟨p'+1,m6,Wc L3 p,by omega,by go_num,HM4,R6,B6,HB6⟩
          case measure=>simp [intOf];omega
         ·have HM4:=O (hM2.o.next hM3.o.grw (by rw [<-HG.o];exact hlk) (λ_=>by rw [HGA.o];exact hM3.o.done (by rw [<-HUL.o];omega)));rw [HZE.o] at HM4;clear hxo;go_wp2_with fail;go_roundw
          case rel=>exact⟨k'+1,m3,L3,by omega,by go_num,HM4,hR,hB,hb0⟩
          case measure=>simp [intOf];omega
       ·have HN:=O he;have k0:=cell_regrown q0;have k1:=cell_regrown q1;have hne:=MX he;clear q0 q1 q2 z0 z1 he hxo;have HM3:=O (hM2.o.next hM2.o.grw.self (by rw [<-HG.o];exact hlk) (λe=>absurd (by rw [<-e,HGA.o]) HN.o));rcases hne with h1|⟨h1,h2⟩
        ·rw [HZE.o] at HM3;go_wp2_with fail;refine wp_region_quiet_below (by kernel_rfl) (by kernel_rfl) ?_
         repeat (first|go_big_quiet_step (fail)|quiet_step (fail))
         refine wpQuiet_nil ?_;intro w5 hw';have b5:=O (show Below wr.heap.size wr w5 by obtain⟨⟨d,os⟩,rfl⟩:=hw';exact below_regrown _ _ _);clear hw';have B5:=bh hB b5.o;have R5:=O (hR.o.keep b5.o);have HB5:=O (Nat.le_trans hb0.o b5.o.size);clear k0 k1 v0 v1 hB hR hb0 b5;go_wp2_with fail;go_roundw
         case rel=>exact⟨k'+1,m2,L2,by omega,by go_num,HM3,R5,B5,HB5⟩
         case measure=>simp [intOf];omega
        ·rw [HZE.o] at HM3;go_wp2_with fail;refine wp_region_quiet_below (by kernel_rfl) (by kernel_rfl) ?_
         repeat (first|go_big_quiet_step (fail)|quiet_step (fail))
         refine wpQuiet_nil ?_;intro w5 hw';have b5:=O (show Below wr.heap.size wr w5 by obtain⟨⟨d,os⟩,rfl⟩:=hw';exact below_regrown _ _ _);clear hw';have B5:=bh hB b5.o;have R5:=O (hR.o.keep b5.o);have HB5:=O (Nat.le_trans hb0.o b5.o.size);clear k0 k1 v0 v1 hB hR hb0 b5;go_wp2_with fail;go_roundw
         case rel=>exact⟨k'+1,m2,L2,by omega,by go_num,HM3,R5,B5,HB5⟩
         case measure=>simp [intOf];omega
      ·have HM4:=O (hM1.o.next hM2.o.grw hil (hM2.o.done (by rw [<-HG.o];omega)));go_wp2_with fail;go_roundw
       case rel=>exact⟨i'+1,m2,L2,by omega,by go_num,HM4,hR,hB,hb0⟩
       case measure=>simp [intOf];omega
    ·have HM5:=O (show Bfs (jn E) u (t+1) m L' by
      have:=Wd.done hF.o hM1.o (by rw [List.length_cons,<-HML.o];omega)
      rwa [<-HML.o] at this)
     have hmm:m<=m':=by
      have h1:=hR.o.len;have h2:=HML.o;obtain⟨R,e⟩:=hM1.o.grw.pre;rw [e,List.length_append] at h1;omega
     go_wp2_with fail;go_roundw
     case rel=>exact⟨t+1,m,m',L',by omega,rfl,by go_num,hmm,HM5,hR,hB,hb0⟩
     case measure=>simp [intOf];omega
  ·have zeq:=O (hF.o.all (by rw [<-HG.o];omega));obtain⟨a1,ea1,zha⟩:=zlt HU1.o;have HU2:=O zha;have HND:=O hF.o.fnd.nd;have HLL:=O (HLE.o _ _ hF.o.fnd);have hm1:1<=m:=by have:=HML.o;omega
   have hcm:=HU1.o.cap;subst ea1;clear zha;go_wp2_with fail
   ·rename_i h1;have hL0:L = []:=List.eq_nil_of_length_eq_zero (by have:=HML.o;omega);go_ret;exact⟨_,_,_,L,rfl,⟨by have:=HML.o;omega,by omega,by unfold maxLen;omega,λk x hx=>by rw [hL0] at hx;simp at hx,λx hx=>by rw [hL0] at hx;cases hx⟩,zeq.o,HND.o,HLL.o,hB.o⟩
   ·go_ret;exact⟨_,m-1,c1-1,L,rfl,by simpa [Addr.add] using HU2.o,zeq.o,HND.o,HLL.o,hB.o⟩
theorem ziS(A:Option Addr)(n c:Nat)(E:List En)(u t:Ud)(w:World)(h:Es w A n c E)(hu:UOk u)(ha:(vY E).length<=900):
 Calls Tryz.prog 126 #[.slice A n c,udV u,udV t,.int .i64 n] w λe w'=>(∃b:Bool,e = .returned (.bool b)/\(b=true↔Abv (jn E) u t))/\Below w.heap.size w w':=by
 have HK:=O (λw' hb=>zk6 A n c E u w' (h.keep (w':=w') hb) hu ha);clear h hu ha;unfold udV at HK ⊢;go_enter Tryz.func126,Tryz.ntmps126;go_wp2_with fail;have B0:=O (zb w (.cells #[.string u.1,.string u.2] 36));have hsz:(w.alloc (.cells #[.string u.1,.string u.2] 36)).heap.size=w.heap.size+1:=by simp
 obtain⟨w0,hw0⟩:∃w0,w.alloc (.cells #[.string u.1,.string u.2] 36)=w0:=⟨_,rfl⟩
 rw [hw0] at B0 hsz ⊢;rw [<-hsz];clear hw0 hsz;have P1:=O (ot w0 (.string t.1) (.string t.2) 36);have B1:=bh B0 (zb w0 (.cells #[.string t.1,.string t.2] 36));obtain⟨w1,WF⟩:∃w1,w0.alloc (.cells #[.string t.1,.string t.2] 36)=w1:=⟨_,rfl⟩
 rw [WF] at P1 B1 ⊢;clear WF B0;refine(HK.o w1 B1.o).mono ?_;rintro e w2 ⟨A2,n2,c2,L,rfl,ZI,hall,hnd,hll,b2⟩;have P2:=O (P1.o.keep b2);have B2:=bh B1 b2;have HU:=O ZI;have HL:=O ZI.len;have zeq:=O hall;have hmx:n2<=900:=by rw [ZI.len];exact hll
 clear ZI hall hnd b2 HK P1 B1 hll;go_wp2_with fail;go_loopw [10] (λi wr=>∃k:Nat,k<=n2/\i = .int .i64 k/\Hid (t ∉ L.take k)/\Hid (Below w2.heap.size w2 wr)) (λi _=>n2-(intOf i).toNat)
 case atStart=>exact⟨0,Nat.zero_le _,rfl,O (by simp),Below.refl _ _⟩
 case round =>
  obtain⟨k,hk,rfl,hN,hB⟩:=hrel;by_cases hlt:k<n2
  ·have ve:k<L.length:=by rw [<-HL.o];exact hlt
   have Lc:=O (List.take_succ_eq_append_getElem ve);have HM:=O (List.getElem_mem ve);obtain⟨a,rfl,q0,q1⟩:=(HU.o.keep hB.o).at_ k _ (List.getElem?_eq_getElem ve);obtain⟨d0,d1,-,-⟩:=P2.o.keep hB.o;have BW:=bh B2 hB.o;generalize L[k]=y at *;have k0:=cell_regrown q0;have k1:=cell_regrown q1;have v0:=cell_regrown d0;have v1:=cell_regrown d1;by_cases he:y=t
   ·have HY:=O (show Abv (jn E) u t from(zeq.o t).1 (he ▸ HM.o));rw [he] at k0 k1;clear he q0 q1 d0 d1 HM Lc;go_wp2_with fail;refine wp_region_quiet_below (by kernel_rfl) (by kernel_rfl) ?_
    repeat (first|go_big_quiet_step (fail)|quiet_step (fail))
    refine wpQuiet_nil ?_;intro w5 hw';have b5:=O (show Below wr.heap.size wr w5 by obtain⟨⟨d,os⟩,rfl⟩:=hw';exact below_regrown _ _ _);clear hw';have B5:=bh BW b5.o;clear k0 k1 v0 v1;go_wp2_with fail;go_ret;exact⟨⟨true,rfl,λ_=>HY.o,λ_=>rfl⟩,B5.o⟩
   ·have VL:=O (show t ∉ L.take (k+1) from λhm=>by
     rw [Lc.o] at hm
     rcases List.mem_append.1 hm with hm|hm
     ·exact hN.o hm
     ·simp only [List.mem_cons,List.not_mem_nil,or_false] at hm;exact he hm.symm)
    have hne:=MX he;clear he q0 q1 d0 d1 HM Lc;rcases hne with h1|⟨h1,h2⟩
    ·go_wp2_with fail;refine wp_region_quiet_below (by kernel_rfl) (by kernel_rfl) ?_
     repeat (first|go_big_quiet_step (fail)|quiet_step (fail))
     refine wpQuiet_nil ?_;intro w5 hw';have b5:=O (show Below wr.heap.size wr w5 by obtain⟨⟨d,os⟩,rfl⟩:=hw';exact below_regrown _ _ _);clear hw';have B5:=oz hB b5 (Nat.le_refl _);clear k0 k1 v0 v1;go_wp2_with fail;go_roundw
     case rel=>exact⟨k+1,by omega,by go_num,VL,B5⟩
     case measure=>simp [intOf];omega
    ·go_wp2_with fail;refine wp_region_quiet_below (by kernel_rfl) (by kernel_rfl) ?_
     repeat (first|go_big_quiet_step (fail)|quiet_step (fail))
     refine wpQuiet_nil ?_;intro w5 hw';have b5:=O (show Below wr.heap.size wr w5 by obtain⟨⟨d,os⟩,rfl⟩:=hw';exact below_regrown _ _ _);clear hw';have B5:=oz hB b5 (Nat.le_refl _);clear k0 k1 v0 v1;go_wp2_with fail;go_roundw
     case rel=>exact⟨k+1,by omega,by go_num,VL,B5⟩
     case measure=>simp [intOf];omega
  ·have HY:=O (show¬Abv (jn E) u t from λh=>hN.o (by rw [List.take_of_length_le (by rw [<-HL.o];omega)];exact(zeq.o t).2 h));have BW:=bh B2 hB.o;go_wp2_with fail;go_ret;exact⟨⟨false,rfl,λh=>(nomatch h),λh=>absurd h HY.o⟩,BW.o⟩
theorem zbE{L:List En}{M:List En}(h:aR M L=0):(vY L).length<=6*L.length:=MQ L λx hx=>((PC L M h).1 x hx).2
open Classical in
noncomputable def zc9(E:List En)(u t:Ud):Bool:=decide (Abv (jn E) u t)
theorem zbn{E:List En}{u t:Ud}:zc9 E u t=true↔Abv (jn E) u t:=by unfold zc9;exact @decide_eq_true_iff _ (_)
theorem Xv(A:Option Addr)(n c:Nat)(E:List En)(u t:Ud)(w:World)(h:Es w A n c E)(hu:UOk u)(ha:(vY E).length<=900):
 Calls Tryz.prog 126 #[.slice A n c,udV u,udV t,.int .i64 n] w λe w'=>e = .returned (.bool (zc9 E u t))/\Below w.heap.size w w' :=
 (ziS A n c E u t w h hu ha).mono λe w' ⟨⟨b,he,hb⟩,h2⟩=>⟨by rw [he,show b=zc9 E u t from Bool.eq_iff_iff.2 (hb.trans zbn.symm)],h2⟩
end Go.Proofs.YtokiogmfgpidmaaGreatDoor
