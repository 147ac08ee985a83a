/-
  The reference's SetFault, Within and Chosen. The document's sets, and two: a node with two parts. (gen_reftwo.py) Uids in a row of the call's own: their cells.
-/
import Derived.Test.YtkfgabdnppmglaaGreatDoorQ22
import Derived.Test.YtkfgabdnppmglaaGreatDoorQ26
import Derived.Test.YtkfgabdnppmglaaGreatDoorQ29
import Derived.Test.YtkfgabdnppmglaaGreatDoorQ35
import Derived.Test.YtkfgabdnppmglaaGreatDoorQ41
import Derived.Test.YtkfgabdnppmglaaGreatDoorQ43
set_option maxRecDepth 100000
set_option maxHeartbeats 4000000
namespace Go.Proofs.YtkfgabdnppmglaaGreatDoor
open Go.RowKit Go.Wk Go.Sort
theorem zpx{L:List (List Nd)}{Q:List Nd}{k:Nat}(h:k<L.length):zad (L.drop k) Q=(decide (zu L[k] Q=0)|| zad (L.drop (k+1)) Q):=by
 rw [List.drop_eq_getElem_cons h];rfl
theorem zir(A B:Option Addr)(n m c d:Nat)(P Q:List Nd)(w:World)(h:Ns w A n c P)(k:Ns w B m d Q)(h1:zc P=0)(h5:zf P=5):
 Calls Tryz.prog 107 #[.slice A n c,.slice B m d] w fun e w'=>e = .returned (.bool (zad (zl P) Q))∧Below w.heap.size w w':=by
 have hE:zbj P=0:=by unfold zbj;rw [if_pos h1,if_pos (.inl h5)]
 have W:=hi9 (zqH A n c P w h hE);have hL:zb7 P=zl P:=by unfold zb7;rw [if_pos hE,if_pos h5]
 have PL:=hi9 (zaR h1 h5);rw [hL] at W;have HK:=hi9 k;clear h k h1 h5 hE hL;go_enter Tryz.func107,Tryz.ntmps107;go_wp2_with fail;refine W.out.mono ?_;rintro e w1 ⟨v,v',U,rfl,hT,hU,b1⟩;obtain⟨AU,cU,rfl,-,hSU⟩:=hT.a.at
 have HU:=hi9 hSU;have HUL:=hi9 hU;have hUl:U.length≤200:=by have:=congrArg List.length hU;have:=PL.out;simp only [List.length_map] at *;omega
 have B1:=hi9 b1;clear hT hSU hU b1;go_wp2_with fail;go_loopw [7] (fun i wr=>∃j:Nat,j≤U.length∧i = .int .i64 j∧Hid (zad (zl P) Q=zad ((U.map Sl.P).drop j) Q)∧Hid (Below w1.heap.size w1 wr)) (fun i _=>U.length-(intOf i).toNat)
 case atStart=>exact⟨0,Nat.zero_le _,rfl,by rw [HUL.out];rfl,Below.refl _ _⟩
 case round =>
  obtain⟨j,hj,rfl,hE,hB⟩:=hrel;by_cases hlt:j<U.length
  ·obtain⟨a,rfl,q,hs⟩:=(HU.out.keep hB.out).at hlt;have hq:=HK.out.keep (j2 B1 hB (Nat.le_refl _)).out;have N:=hi9 (zeh U[j].A B U[j].n m U[j].c d U[j].P Q wr hs.len hq.len hs.max hq.max hs.at_ hq.at_ hs.ok hq.ok);have HA:=hi9 (hE.out.trans (zpx (by simpa using hlt)));rw [List.getElem_map] at HA;generalize U[j]=r at *;clear hE hs hq;by_cases h0:zu r.P Q=0
   ·rw [h0] at N;rw [decide_eq_true h0,Bool.true_or] at HA;clear h0;go_wp2_with fail;refine(N.out).mono ?_;rintro e w2 ⟨rfl,b2⟩;go_wp2_with fail;go_ret;exact⟨zq HA.out.symm,(j2 B1 (bh hB b2) (Nat.le_refl _)).out⟩
   ·rw [decide_eq_false h0,Bool.false_or] at HA;have h2:(zu r.P Q==0)=false:=beq_eq_false_iff_ne.2 h0;clear h0;go_wp2_with fail;refine(N.out).mono ?_;rintro e w2 ⟨rfl,b2⟩;go_wp2_with fail;go_roundw
    case rel=>exact⟨j+1,by omega,by go_num,HA,bh hB b2⟩
    case measure=>simp [intOf];omega
  ·have HA:=hi9 (hE.out.trans (by rw [List.drop_of_length_le (by simp;omega)];rfl:_=false));clear hE;go_wp2_with fail;go_ret;exact⟨zq HA.out.symm,(j2 B1 hB (Nat.le_refl _)).out⟩
def zhC(w:World)(L:List (List Nd))(e:Ending)(w':World):Prop:=∃(v:Value) (V:List Sl),e = .returned v∧zT w' w.heap.size v V∧V.map Sl.P=L∧Below w.heap.size w w'
def zpv(A:Option Addr)(w:World)(L:List (List Nd))(e:Ending)(w':World):Prop:=∃(v:Value) (V:List Sl),e = .returned v∧zT w' w.heap.size v V∧V.map Sl.P=L∧Below w.heap.size w w'∧∀r∈V,zjQ A r
theorem zmP(A B:Option Addr)(n m c d:Nat)(P Q:List Nd)(has:Bool)(w:World)(h:Ns w A n c P)(k:Ns w B m d Q)(h1:zc P=0)(h5:zf P=5)(h2:zc Q=0)(h6:zf Q=5):
 Calls Tryz.prog 108 #[.slice A n c,.slice B m d,.bool has] w (zpv A w ((zl P).filter fun x=>zad (zl Q) x==has)):=by
 obtain⟨i0,hi,hz0,hz1,hz2⟩:=info_parts zcP;have W:=hi9 (zeu A n c P w h h1 h5);have PL:=hi9 (zaR h1 h5);have HK:=hi9 k;have WI:=hi9 (fun(r:Sl) w' (hb:Below w.heap.size w w') (hr:Ns w' r.A r.n r.c r.P)=>zir B r.A m r.n d r.c Q r.P w' (k.keep hb) hr h2 h6);clear h k h1 h5 h2 h6;go_enter Tryz.func108,Tryz.ntmps108;go_wp2_with fail;refine W.out.mono ?_;rintro e w1 ⟨v,v',U,rfl,hT,hU,b1,hold⟩;have HOLD:=hi9 hold;clear hold;obtain⟨AU,cU,rfl,-,hSU⟩:=hT.a.at
 have HU:=hi9 hSU;have HUL:=hi9 hU;have hUl:U.length≤200:=by have:=congrArg List.length hU;have:=PL.out;simp only [List.length_map] at *;omega
 have B1:=hi9 b1;clear hT hSU hU b1;go_wp2_with fail;go_loopw [7,10] (fun v i wr=>∃(j:Nat) (Y:List Sl),j≤U.length∧i = .int .i64 j∧Y.length≤j∧Hid (((zl P).filter fun x=>zad (zl Q) x==has)=Y.map Sl.P ++((U.drop j).filter fun r=>zad (zl Q) r.P==has).map Sl.P)∧Hid (zT wr w1.heap.size v Y)∧Hid (Below w1.heap.size w1 wr)∧Hid (∀r∈Y,r∈U)) (fun _ i _=>U.length-(intOf i).toNat)
 case atStart=>exact⟨0,[],Nat.zero_le _,rfl,Nat.le_refl _,by rw [←HUL.out,List.filter_map];rfl,zT.nil _ _,Below.refl _ _,(by intro r hr;cases hr)⟩
 case round =>
  obtain⟨j,Y,hj,rfl,hY,hE,hO,hB,hM⟩:=hrel;by_cases hlt:j<U.length
  ·obtain⟨a,rfl,q,hs⟩:=(HU.out.keep hB.out).at hlt;obtain⟨-,-,-,hs0⟩:=HU.out.at hlt;have HS0:=hi9 hs0;have HM:=hi9 (List.getElem_mem hlt);have Cr:=hi9 (WI.out U[j] wr (j2 B1 hB (Nat.le_refl _)).out hs);have HA:=hi9 (hE.out.trans (by rw [List.drop_eq_getElem_cons hlt,List.filter_cons]:_=Y.map Sl.P ++(if(zad (zl Q) U[j].P==has)=true then U[j] ::(U.drop (j+1)).filter (fun r=>zad (zl Q) r.P==has) else(U.drop (j+1)).filter fun r=>zad (zl Q) r.P==has).map Sl.P));generalize U[j]=r at *;clear hE hs hs0;by_cases hp:zad (zl Q) r.P=has
   ·rw [hp] at Cr HA;rw [if_pos (by simp)] at HA;clear hp;go_wp2_with fail;refine(Cr.out).mono ?_;rintro e w2 ⟨rfl,b2⟩;have B2:=bh hB b2;have O2:=hi9 (hO.out.keep b2);have N2:=hi9 (HS0.out.keep B2.out);have q2:=za b2 q;have A2:=hi9 (show zaC r u7.ownBlock by
     intro h0 a' ea q'
     have:=zW O2.out.own a'.block q'
     have:=HS0.out.at_.lt h0 a' ea
     omega)
    have hsz1:=B2.out.size;clear b2 hO hB q;go_wp2_with (at_builtin;refine wpList_append_own_at _ rfl _ _ 69 rfl w1.heap.size 25 i0 _ 1 24 Tryz.underlying69 hi hz0 hz1 hz2 rfl (by decide) _ Y.length (Y.map Sl.v) rfl (O2.out.own.alloc _) ⟨_,0,none⟩ 1 1 [.slice r.A r.n r.c] rfl rfl (cell_one_new _ _ _) (by intro u hu;simp only [List.mem_cons,List.not_mem_nil,or_false] at hu;subst hu;rfl) ?c1 ?c2 ?c3 ?_)
    case c1=>unfold maxLen;omega
    case c2=>omega
    case c3=>simp;omega
    intro v1 w3 hown hgrow _ hat;have B3:=hi9 ((B2.out.alloc B2.out.size _).grown hgrow (by simp;omega) (fun g hg=>by have:=zW O2.out.own g hg;omega));have O3:=hi9 (O2.out.snoc (r:=r) N2.out A2.out hown hgrow (by simpa using hat));have HA2:=hi9 (HA.out.trans (show _=(Y ++ [r]).map Sl.P ++((U.drop (j+1)).filter fun r=>zad (zl Q) r.P==has).map Sl.P by simp));have hl2:(Y ++ [r]).length≤j+1:=by simp;omega
    have HM2:=hi9 (show∀x∈Y ++ [r],x∈U from fun x hx=>by
     rcases List.mem_append.1 hx with h1|h1
     ·exact hM.out x h1
     ·simp only [List.mem_cons,List.not_mem_nil,or_false] at h1
      subst h1;exact HM.out)
    clear hown hgrow hat O2 N2 A2 HA B2 q2;go_wp2_with fail;go_roundw
    case rel=>exact⟨j+1,Y ++ [r],by omega,by go_num,hl2,HA2,O3,B3,HM2⟩
    case measure=>simp [intOf];omega
   ·have hpb:(zad (zl Q) r.P==has)=false:=beq_eq_false_iff_ne.2 hp;rw [if_neg (by rw [hpb];simp)] at HA;generalize zad (zl Q) r.P=bb at *;clear hp;go_wp2_with fail;refine(Cr.out).mono ?_;rintro e w2 ⟨rfl,b2⟩;go_wp2_with fail;go_roundw
    case rel=>exact⟨j+1,Y,by omega,by go_num,by omega,HA,hi9 (hO.out.keep b2),bh hB b2,hM⟩
    case measure=>simp [intOf];omega
  ·have HA:=hi9 (hE.out.trans (by rw [List.drop_of_length_le (by omega)];simp:_=Y.map Sl.P));clear hE;go_wp2_with fail;go_ret;exact⟨_,Y,rfl,hO.out.mono B1.out.size,HA.out.symm,(j2 B1 hB (Nat.le_refl _)).out,fun r hr=>HOLD.out r (hM.out r hr)⟩
theorem ziA(A B:Option Addr)(n m c d:Nat)(P Q:List Nd)(has:Bool)(w:World)(h:Ns w A n c P)(k:Ns w B m d Q)(h1:zc P=0)(h5:zf P=5)(h2:zc Q=0)(h6:zf Q=5):
 Calls Tryz.prog 108 #[.slice A n c,.slice B m d,.bool has] w (zhC w ((zl P).filter fun x=>zad (zl Q) x==has)):=
 (zmP A B n m c d P Q has w h k h1 h5 h2 h6).mono fun _ _ ⟨v,V,q1,q2,q3,q4,_⟩=>⟨v,V,q1,q2,q3,q4⟩
structure Vgg(w:World)(b c:Nat)(A B:Option Addr)(n m p q:Nat):Prop where
 x:Vg w b A n p 0
 y:Vg w c B m q 0
theorem Vgg.keep{w w':World}{b c:Nat}{A B:Option Addr}{n m p q:Nat}(h:Vgg w b c A B n m p q)(hb:Below w.heap.size w w'):Vgg w' b c A B n m p q:=⟨h.x.keep hb,h.y.keep hb⟩
theorem zvf{Q:List Nd}(h:zc Q=0)(h5:zf Q=5):(hdN Q).n=((zl Q).length:Int):=by
 obtain⟨-,hv⟩:=zP.1 h;have e:=congrArg (fun L=>(hdN L).n) (zdt hv h5).1;exact e
theorem zoB{α:Type}(L:List α)(f:α→Bool):decide (0<(L.filter f).length)=L.any f:=by
 rw [Bool.eq_iff_iff,decide_eq_true_iff,List.any_eq_true];constructor
 ·intro h;obtain⟨x,hx⟩:=List.exists_mem_of_length_pos h;exact⟨x,(List.mem_filter.1 hx).1,(List.mem_filter.1 hx).2⟩
 ·rintro ⟨x,hx,hf⟩;exact List.length_pos_of_mem (List.mem_filter.2 ⟨hx,hf⟩)
theorem tB(w:World)(A B:Option Addr)(n m c d:Nat):Hid (Below w.heap.size w (((w.alloc (.cells #[.slice A n c,.int .i64 0] 30)).alloc (.cells #[.slice B m d,.int .i64 0] 30)).alloc (.cells #[.slice none 0 0,.int .i64 0] 30))):=
 have q:=((zb w (.cells #[.slice A n c,.int .i64 0] 30)).trans ((zb (w.alloc (.cells #[.slice A n c,.int .i64 0] 30)) (.cells #[.slice B m d,.int .i64 0] 30)).mono (zb w _).size))
 hi9 (q.trans ((zb ((w.alloc (.cells #[.slice A n c,.int .i64 0] 30)).alloc (.cells #[.slice B m d,.int .i64 0] 30)) (.cells #[.slice none 0 0,.int .i64 0] 30)).mono q.size))
theorem tX(w:World)(A B:Option Addr)(n m c d:Nat):Hid (Vgg (((w.alloc (.cells #[.slice A n c,.int .i64 0] 30)).alloc (.cells #[.slice B m d,.int .i64 0] 30)).alloc (.cells #[.slice none 0 0,.int .i64 0] 30)) w.heap.size (w.heap.size+1) A B n m c d):=
 hi9 ((⟨(zf4 w A n c 0 30).keep (zb _ _),zuf w (.cells #[.slice A n c,.int .i64 0] 30) B m d 0 30⟩:Vgg ((w.alloc (.cells #[.slice A n c,.int .i64 0] 30)).alloc (.cells #[.slice B m d,.int .i64 0] 30)) w.heap.size (w.heap.size+1) A B n m c d).keep (zb _ (.cells #[.slice none 0 0,.int .i64 0] 30)))
theorem tR(w:World)(A B:Option Addr)(n m c d:Nat):Hid (Vr2 (((w.alloc (.cells #[.slice A n c,.int .i64 0] 30)).alloc (.cells #[.slice B m d,.int .i64 0] 30)).alloc (.cells #[.slice none 0 0,.int .i64 0] 30)) (w.heap.size+1+1) (.slice none 0 0) (.int .i64 0)):=hi9 (zph w _ _ _)
theorem zsS(S:Nat→Prop)(A B:Option Addr)(n m c d:Nat)(P Q:List Nd)(w:World)(h:Ns w A n c P)(k:Ns w B m d Q)(h1:zc P=0)(h2:zc Q=0)(g:zf P≠5):
 Calls Tryz.prog 65 #[.int .i64 25,.agg #[.slice A n c,.int .i64 0],.agg #[.slice B m d,.int .i64 0]] w (zD S w (.error 2)):=by
 have B0:=tB w A B n m c d;have X0:=tX w A B n m c d;have R0:=tR w A B n m c d;have KP:=hi9 (fun(o:Int) w' (hb:Below w.heap.size w w')=>zS A n c P o w' (h.keep hb) (zm h1));have KQ:=hi9 (fun(o:Int) w' (hb:Below w.heap.size w w')=>zS B m d Q o w' (k.keep hb) (zm h2));have HP:=hi9 h;have HQ:=hi9 k;have K5:=hi9 (KP.out 5 _ B0.out);rw [show(zf P==5)=false from beq_eq_false_iff_ne.2 g] at K5;clear h k h1 h2 g KP KQ;obtain⟨⟨x0,x1⟩,⟨y0,y1⟩⟩:=X0.out;go_enter Tryz.func65,Tryz.ntmps65;go_wp2_with fail;refine(K5.out).mono ?_;rintro e w1 ⟨rfl,b1⟩;have B1:=bh B0 b1;have X1:=hi9 (X0.out.keep b1);have R1:=hi9 (R0.out.keep b1);clear x0 x1 y0 y1;clear b1 B0 X0 R0;go_wp2_with fail;refine(jA _ _).mono ?_;rintro e w2 ⟨rfl,b2⟩;have B2:=bh B1 b2;have R2:=hi9 (R1.out.keep b2);clear b2 B1 R1;have RS:=R2.out.set (.slice none 0 0) (.int .i64 (2));obtain⟨s0,s1,-,-⟩:=RS;have GF:=hi9 (zA (S:=S) (r := .error (2)) (jv _) jB B2.out (show w.heap.size≤w.heap.size+1+1 by omega));obtain⟨r0,r1,z0,z1⟩:=R2.out;go_wp2_with fail;exact bodyPost_ret (v := .agg #[.slice none 0 0,.int .i64 (2)]) (by simp [results,Tryz.results65,go_sem,s0,s1]) rfl GF.out
theorem zqR(S:Nat→Prop)(A B:Option Addr)(n m c d:Nat)(P Q:List Nd)(w:World)(h:Ns w A n c P)(k:Ns w B m d Q)(h1:zc P=0)(h2:zc Q=0)(g:zf P≠5):
 Calls Tryz.prog 65 #[.int .i64 26,.agg #[.slice A n c,.int .i64 0],.agg #[.slice B m d,.int .i64 0]] w (zD S w (.error 2)):=by
 have B0:=tB w A B n m c d;have X0:=tX w A B n m c d;have R0:=tR w A B n m c d;have KP:=hi9 (fun(o:Int) w' (hb:Below w.heap.size w w')=>zS A n c P o w' (h.keep hb) (zm h1));have KQ:=hi9 (fun(o:Int) w' (hb:Below w.heap.size w w')=>zS B m d Q o w' (k.keep hb) (zm h2));have HP:=hi9 h;have HQ:=hi9 k;have K5:=hi9 (KP.out 5 _ B0.out);rw [show(zf P==5)=false from beq_eq_false_iff_ne.2 g] at K5;clear h k h1 h2 g KP KQ;obtain⟨⟨x0,x1⟩,⟨y0,y1⟩⟩:=X0.out;go_enter Tryz.func65,Tryz.ntmps65;go_wp2_with fail;refine(K5.out).mono ?_;rintro e w1 ⟨rfl,b1⟩;have B1:=bh B0 b1;have X1:=hi9 (X0.out.keep b1);have R1:=hi9 (R0.out.keep b1);clear x0 x1 y0 y1;clear b1 B0 X0 R0;go_wp2_with fail;refine(jA _ _).mono ?_;rintro e w2 ⟨rfl,b2⟩;have B2:=bh B1 b2;have R2:=hi9 (R1.out.keep b2);clear b2 B1 R1;have RS:=R2.out.set (.slice none 0 0) (.int .i64 (2));obtain⟨s0,s1,-,-⟩:=RS;have GF:=hi9 (zA (S:=S) (r := .error (2)) (jv _) jB B2.out (show w.heap.size≤w.heap.size+1+1 by omega));obtain⟨r0,r1,z0,z1⟩:=R2.out;go_wp2_with fail;exact bodyPost_ret (v := .agg #[.slice none 0 0,.int .i64 (2)]) (by simp [results,Tryz.results65,go_sem,s0,s1]) rfl GF.out
theorem zrY(S:Nat→Prop)(A B:Option Addr)(n m c d:Nat)(P Q:List Nd)(w:World)(h:Ns w A n c P)(k:Ns w B m d Q)(h1:zc P=0)(h2:zc Q=0)(g:zf P≠5):
 Calls Tryz.prog 65 #[.int .i64 27,.agg #[.slice A n c,.int .i64 0],.agg #[.slice B m d,.int .i64 0]] w (zD S w (.error 2)):=by
 have B0:=tB w A B n m c d;have X0:=tX w A B n m c d;have R0:=tR w A B n m c d;have KP:=hi9 (fun(o:Int) w' (hb:Below w.heap.size w w')=>zS A n c P o w' (h.keep hb) (zm h1));have KQ:=hi9 (fun(o:Int) w' (hb:Below w.heap.size w w')=>zS B m d Q o w' (k.keep hb) (zm h2));have HP:=hi9 h;have HQ:=hi9 k;have K5:=hi9 (KP.out 5 _ B0.out);rw [show(zf P==5)=false from beq_eq_false_iff_ne.2 g] at K5;clear h k h1 h2 g KP KQ;obtain⟨⟨x0,x1⟩,⟨y0,y1⟩⟩:=X0.out;go_enter Tryz.func65,Tryz.ntmps65;go_wp2_with fail;refine(K5.out).mono ?_;rintro e w1 ⟨rfl,b1⟩;have B1:=bh B0 b1;have X1:=hi9 (X0.out.keep b1);have R1:=hi9 (R0.out.keep b1);clear x0 x1 y0 y1;clear b1 B0 X0 R0;go_wp2_with fail;refine(jA _ _).mono ?_;rintro e w2 ⟨rfl,b2⟩;have B2:=bh B1 b2;have R2:=hi9 (R1.out.keep b2);clear b2 B1 R1;have RS:=R2.out.set (.slice none 0 0) (.int .i64 (2));obtain⟨s0,s1,-,-⟩:=RS;have GF:=hi9 (zA (S:=S) (r := .error (2)) (jv _) jB B2.out (show w.heap.size≤w.heap.size+1+1 by omega));obtain⟨r0,r1,z0,z1⟩:=R2.out;go_wp2_with fail;exact bodyPost_ret (v := .agg #[.slice none 0 0,.int .i64 (2)]) (by simp [results,Tryz.results65,go_sem,s0,s1]) rfl GF.out
theorem zqL(S:Nat→Prop)(A B:Option Addr)(n m c d:Nat)(P Q:List Nd)(w:World)(h:Ns w A n c P)(k:Ns w B m d Q)(h1:zc P=0)(h2:zc Q=0)(g:zf P=5)(g2:zf Q≠5):
 Calls Tryz.prog 65 #[.int .i64 26,.agg #[.slice A n c,.int .i64 0],.agg #[.slice B m d,.int .i64 0]] w (zD S w (.error 2)):=by
 have B0:=tB w A B n m c d;have X0:=tX w A B n m c d;have R0:=tR w A B n m c d;have KP:=hi9 (fun(o:Int) w' (hb:Below w.heap.size w w')=>zS A n c P o w' (h.keep hb) (zm h1));have KQ:=hi9 (fun(o:Int) w' (hb:Below w.heap.size w w')=>zS B m d Q o w' (k.keep hb) (zm h2));have HP:=hi9 h;have HQ:=hi9 k;have K5:=hi9 (KP.out 5 _ B0.out);rw [show(zf P==5)=true from beq_iff_eq.2 g] at K5;have K6:=hi9 (KQ.out 5);rw [show(zf Q==5)=false from beq_eq_false_iff_ne.2 g2] at K6;clear h k h1 h2 g g2 KP KQ;obtain⟨⟨x0,x1⟩,⟨y0,y1⟩⟩:=X0.out;go_enter Tryz.func65,Tryz.ntmps65;go_wp2_with fail;refine(K5.out).mono ?_;rintro e w1 ⟨rfl,b1⟩;have B1:=bh B0 b1;have X1:=hi9 (X0.out.keep b1);have R1:=hi9 (R0.out.keep b1);clear x0 x1 y0 y1;clear b1 B0 X0 R0;obtain⟨⟨x0,x1⟩,⟨y0,y1⟩⟩:=X1.out;go_wp2_with fail;refine(K6.out _ B1.out).mono ?_;rintro e w2 ⟨rfl,b2⟩;have B2:=bh B1 b2;have X2:=hi9 (X1.out.keep b2);have R2:=hi9 (R1.out.keep b2);clear x0 x1 y0 y1;clear b2 B1 X1 R1;go_wp2_with fail;refine(jA _ _).mono ?_;rintro e w3 ⟨rfl,b3⟩;have B3:=bh B2 b3;have R3:=hi9 (R2.out.keep b3);clear b3 B2 R2;have RS:=R3.out.set (.slice none 0 0) (.int .i64 (2));obtain⟨s0,s1,-,-⟩:=RS;have GF:=hi9 (zA (S:=S) (r := .error (2)) (jv _) jB B3.out (show w.heap.size≤w.heap.size+1+1 by omega));obtain⟨r0,r1,z0,z1⟩:=R3.out;go_wp2_with fail;exact bodyPost_ret (v := .agg #[.slice none 0 0,.int .i64 (2)]) (by simp [results,Tryz.results65,go_sem,s0,s1]) rfl GF.out
theorem zpX(S:Nat→Prop)(A B:Option Addr)(n m c d:Nat)(P Q:List Nd)(w:World)(h:Ns w A n c P)(k:Ns w B m d Q)(h1:zc P=0)(h2:zc Q=0)(g:zf P=5)(g2:zf Q≠5):
 Calls Tryz.prog 65 #[.int .i64 27,.agg #[.slice A n c,.int .i64 0],.agg #[.slice B m d,.int .i64 0]] w (zD S w (.error 2)):=by
 have B0:=tB w A B n m c d;have X0:=tX w A B n m c d;have R0:=tR w A B n m c d;have KP:=hi9 (fun(o:Int) w' (hb:Below w.heap.size w w')=>zS A n c P o w' (h.keep hb) (zm h1));have KQ:=hi9 (fun(o:Int) w' (hb:Below w.heap.size w w')=>zS B m d Q o w' (k.keep hb) (zm h2));have HP:=hi9 h;have HQ:=hi9 k;have K5:=hi9 (KP.out 5 _ B0.out);rw [show(zf P==5)=true from beq_iff_eq.2 g] at K5;have K6:=hi9 (KQ.out 5);rw [show(zf Q==5)=false from beq_eq_false_iff_ne.2 g2] at K6;clear h k h1 h2 g g2 KP KQ;obtain⟨⟨x0,x1⟩,⟨y0,y1⟩⟩:=X0.out;go_enter Tryz.func65,Tryz.ntmps65;go_wp2_with fail;refine(K5.out).mono ?_;rintro e w1 ⟨rfl,b1⟩;have B1:=bh B0 b1;have X1:=hi9 (X0.out.keep b1);have R1:=hi9 (R0.out.keep b1);clear x0 x1 y0 y1;clear b1 B0 X0 R0;obtain⟨⟨x0,x1⟩,⟨y0,y1⟩⟩:=X1.out;go_wp2_with fail;refine(K6.out _ B1.out).mono ?_;rintro e w2 ⟨rfl,b2⟩;have B2:=bh B1 b2;have X2:=hi9 (X1.out.keep b2);have R2:=hi9 (R1.out.keep b2);clear x0 x1 y0 y1;clear b2 B1 X1 R1;go_wp2_with fail;refine(jA _ _).mono ?_;rintro e w3 ⟨rfl,b3⟩;have B3:=bh B2 b3;have R3:=hi9 (R2.out.keep b3);clear b3 B2 R2;have RS:=R3.out.set (.slice none 0 0) (.int .i64 (2));obtain⟨s0,s1,-,-⟩:=RS;have GF:=hi9 (zA (S:=S) (r := .error (2)) (jv _) jB B3.out (show w.heap.size≤w.heap.size+1+1 by omega));obtain⟨r0,r1,z0,z1⟩:=R3.out;go_wp2_with fail;exact bodyPost_ret (v := .agg #[.slice none 0 0,.int .i64 (2)]) (by simp [results,Tryz.results65,go_sem,s0,s1]) rfl GF.out
theorem zu4(S:Nat→Prop)(A B:Option Addr)(n m c d:Nat)(P Q:List Nd)(w:World)(h:Ns w A n c P)(k:Ns w B m d Q)(h1:zc P=0)(h2:zc Q=0)(g:zf P=5):
 Calls Tryz.prog 65 #[.int .i64 25,.agg #[.slice A n c,.int .i64 0],.agg #[.slice B m d,.int .i64 0]] w (zD S w (.ok (zt (zad (zl P) Q)))):=by
 have B0:=tB w A B n m c d;have X0:=tX w A B n m c d;have R0:=tR w A B n m c d;have KP:=hi9 (fun(o:Int) w' (hb:Below w.heap.size w w')=>zS A n c P o w' (h.keep hb) (zm h1));have KQ:=hi9 (fun(o:Int) w' (hb:Below w.heap.size w w')=>zS B m d Q o w' (k.keep hb) (zm h2));have HP:=hi9 h;have HQ:=hi9 k;have K5:=hi9 (KP.out 5 _ B0.out);rw [show(zf P==5)=true from beq_iff_eq.2 g] at K5;have KW:=hi9 (fun w' (hb:Below w.heap.size w w')=>zir A B n m c d P Q w' (h.keep hb) (k.keep hb) h1 g);clear h k h1 h2 g KP KQ;generalize zad (zl P) Q=bb at *;obtain⟨⟨x0,x1⟩,⟨y0,y1⟩⟩:=X0.out;go_enter Tryz.func65,Tryz.ntmps65;go_wp2_with fail;refine(K5.out).mono ?_;rintro e w1 ⟨rfl,b1⟩;have B1:=bh B0 b1;have X1:=hi9 (X0.out.keep b1);have R1:=hi9 (R0.out.keep b1);clear x0 x1 y0 y1;clear b1 B0 X0 R0;obtain⟨⟨x0,x1⟩,⟨y0,y1⟩⟩:=X1.out;go_wp2_with fail;refine(KW.out _ B1.out).mono ?_;rintro e w2 ⟨rfl,b2⟩;have B2:=bh B1 b2;have X2:=hi9 (X1.out.keep b2);have R2:=hi9 (R1.out.keep b2);clear x0 x1 y0 y1;clear b2 B1 X1 R1;go_wp2_with fail;refine(jq (bb) _).mono ?_;rintro e w3 ⟨AT,nT,cT,rfl,hN,b3⟩;have B3:=bh B2 b3;have NT:=hi9 hN.1;have HFR:=hi9 (j5 (S:=S) B2.out R2.out hN.2);have R3:=hi9 (R2.out.keep b3);clear b3 B2 R2 hN;go_wp2_with fail;refine(jr _ _ _ _).mono ?_;rintro e w4 ⟨rfl,b4⟩;have B4:=bh B3 b4;have R4:=hi9 (R3.out.keep b4);have NZ:=hi9 (NT.out.keep b4);clear b4 B3 R3;have RS:=R4.out.set (.slice AT nT cT) (.int .i64 0);obtain⟨s0,s1,-,-⟩:=RS;have GF:=hi9 (zA (S:=S) (r := .ok _) NZ.out HFR.out B4.out (show w.heap.size≤w.heap.size+1+1 by omega));obtain⟨r0,r1,z0,z1⟩:=R4.out;go_wp2_with fail;exact bodyPost_ret (v := .agg #[.slice AT nT cT,.int .i64 0]) (by simp [results,Tryz.results65,go_sem,s0,s1]) rfl GF.out
theorem zu3(S:Nat→Prop)(A B:Option Addr)(n m c d:Nat)(P Q:List Nd)(w:World)(h:Ns w A n c P)(k:Ns w B m d Q)(h1:zc P=0)(h2:zc Q=0)(g:zf P=5)(g2:zf Q=5):
 Calls Tryz.prog 65 #[.int .i64 26,.agg #[.slice A n c,.int .i64 0],.agg #[.slice B m d,.int .i64 0]] w (zD S w (.ok (zt (decide (((zl Q).filter fun x=>zad (zl P) x).length=(zl Q).length))))):=by
 have B0:=tB w A B n m c d;have X0:=tX w A B n m c d;have R0:=tR w A B n m c d;have KP:=hi9 (fun(o:Int) w' (hb:Below w.heap.size w w')=>zS A n c P o w' (h.keep hb) (zm h1));have KQ:=hi9 (fun(o:Int) w' (hb:Below w.heap.size w w')=>zS B m d Q o w' (k.keep hb) (zm h2));have HP:=hi9 h;have HQ:=hi9 k;have K5:=hi9 (KP.out 5 _ B0.out);rw [show(zf P==5)=true from beq_iff_eq.2 g] at K5;have K6:=hi9 (KQ.out 5);rw [show(zf Q==5)=true from beq_iff_eq.2 g2] at K6;have KC:=hi9 (fun w' (hb:Below w.heap.size w w')=>ziA B A m n d c Q P true w' (k.keep hb) (h.keep hb) h2 g2 h1 g);rw [show((zl Q).filter fun x=>zad (zl P) x==true)=(zl Q).filter fun x=>zad (zl P) x by simp] at KC;unfold zhC at KC;have HN:=hi9 (zvf h2 g2);have HQ0:=hi9 (zm h2);have HTT:=hi9 (show∀l:Nat,l=((zl Q).filter fun x=>zad (zl P) x).length→((l:Int)==(hdN Q).n)=decide (((zl Q).filter fun x=>zad (zl P) x).length=(zl Q).length) from fun l hl=>by
  rw [HN.out,←hl,Bool.eq_iff_iff,beq_iff_eq,decide_eq_true_iff];omega)
 generalize ((zl Q).filter fun x=>zad (zl P) x)=FL at *;generalize decide (FL.length=(zl Q).length)=bb at *;clear h k h1 h2 g g2 KP KQ;obtain⟨⟨x0,x1⟩,⟨y0,y1⟩⟩:=X0.out;go_enter Tryz.func65,Tryz.ntmps65;go_wp2_with fail;refine(K5.out).mono ?_;rintro e w1 ⟨rfl,b1⟩;have B1:=bh B0 b1;have X1:=hi9 (X0.out.keep b1);have R1:=hi9 (R0.out.keep b1);clear x0 x1 y0 y1;clear b1 B0 X0 R0;obtain⟨⟨x0,x1⟩,⟨y0,y1⟩⟩:=X1.out;go_wp2_with fail;refine(K6.out _ B1.out).mono ?_;rintro e w2 ⟨rfl,b2⟩;have B2:=bh B1 b2;have X2:=hi9 (X1.out.keep b2);have R2:=hi9 (R1.out.keep b2);clear x0 x1 y0 y1;clear b2 B1 X1 R1;obtain⟨⟨x0,x1⟩,⟨y0,y1⟩⟩:=X2.out;go_wp2_with fail;refine(KC.out _ B2.out).mono ?_;rintro e w3 ⟨v,V,rfl,hO,hVP,b3⟩;have B3:=bh B2 b3;have X3:=hi9 (X2.out.keep b3);have R3:=hi9 (R2.out.keep b3);obtain⟨A3,c3,e3,-,-⟩:=hO.at
 subst e3;obtain⟨l,hl⟩:∃l,l=V.length:=⟨_,rfl⟩
 rw [←hl];have HL:=hi9 (HTT.out l (by rw [hl,←hVP,List.length_map]));clear x0 x1 y0 y1;clear b3 B2 X2 R2 hO hVP hl;obtain⟨⟨x0,x1⟩,⟨y0,y1⟩⟩:=X3.out;obtain⟨a4,e4,hn4,D4,-,-⟩:=jm (HQ.out.keep B3.out) HQ0.out;subst e4;have d1:=D4.c1;have hi:(0:Int)<(m:Int):=by omega
 have hi0:0<m:=hn4;clear D4;generalize (hdN Q).n=qn at *;have KTT:∀w,Calls Tryz.prog 60 #[.bool (((l:Int)==qn))] w fun e w'=>∃A n c,e = .returned (.slice A n c)∧(Ns w' A n c (zt bb)∧∀a,A=some a→w.heap.size≤a.block)∧Below w.heap.size w w':=fun w=>by rw [HL.out];exact jq bb w
 go_wp2_with fail;refine(KTT _).mono ?_;rintro e w4 ⟨AT,nT,cT,rfl,hN,b4⟩;have B4:=bh B3 b4;have NT:=hi9 hN.1;have HFR:=hi9 (j5 (S:=S) B3.out R3.out hN.2);have R4:=hi9 (R3.out.keep b4);clear b4 B3 R3 hN KTT;go_wp2_with fail;refine(jr _ _ _ _).mono ?_;rintro e w5 ⟨rfl,b5⟩;have B5:=bh B4 b5;have R5:=hi9 (R4.out.keep b5);have NZ:=hi9 (NT.out.keep b5);clear b5 B4 R4;have RS:=R5.out.set (.slice AT nT cT) (.int .i64 0);obtain⟨s0,s1,-,-⟩:=RS;have GF:=hi9 (zA (S:=S) (r := .ok _) NZ.out HFR.out B5.out (show w.heap.size≤w.heap.size+1+1 by omega));obtain⟨r0,r1,z0,z1⟩:=R5.out;go_wp2_with fail;exact bodyPost_ret (v := .agg #[.slice AT nT cT,.int .i64 0]) (by simp [results,Tryz.results65,go_sem,s0,s1]) rfl GF.out
theorem zuD(S:Nat→Prop)(A B:Option Addr)(n m c d:Nat)(P Q:List Nd)(w:World)(h:Ns w A n c P)(k:Ns w B m d Q)(h1:zc P=0)(h2:zc Q=0)(g:zf P=5)(g2:zf Q=5):
 Calls Tryz.prog 65 #[.int .i64 27,.agg #[.slice A n c,.int .i64 0],.agg #[.slice B m d,.int .i64 0]] w (zD S w (.ok (zt ((zl Q).any fun x=>zad (zl P) x)))):=by
 have B0:=tB w A B n m c d;have X0:=tX w A B n m c d;have R0:=tR w A B n m c d;have KP:=hi9 (fun(o:Int) w' (hb:Below w.heap.size w w')=>zS A n c P o w' (h.keep hb) (zm h1));have KQ:=hi9 (fun(o:Int) w' (hb:Below w.heap.size w w')=>zS B m d Q o w' (k.keep hb) (zm h2));have HP:=hi9 h;have HQ:=hi9 k;have K5:=hi9 (KP.out 5 _ B0.out);rw [show(zf P==5)=true from beq_iff_eq.2 g] at K5;have K6:=hi9 (KQ.out 5);rw [show(zf Q==5)=true from beq_iff_eq.2 g2] at K6;have KC:=hi9 (fun w' (hb:Below w.heap.size w w')=>ziA B A m n d c Q P true w' (k.keep hb) (h.keep hb) h2 g2 h1 g);rw [show((zl Q).filter fun x=>zad (zl P) x==true)=(zl Q).filter fun x=>zad (zl P) x by simp] at KC;unfold zhC at KC;have HTT:=hi9 (show∀l:Nat,l=((zl Q).filter fun x=>zad (zl P) x).length→decide (0<l)=(zl Q).any fun x=>zad (zl P) x from fun l hl=>by rw [hl];exact zoB _ _);generalize ((zl Q).filter fun x=>zad (zl P) x)=FL at *;generalize ((zl Q).any fun x=>zad (zl P) x)=bb at *;clear h k h1 h2 g g2 KP KQ;obtain⟨⟨x0,x1⟩,⟨y0,y1⟩⟩:=X0.out;go_enter Tryz.func65,Tryz.ntmps65;go_wp2_with fail;refine(K5.out).mono ?_;rintro e w1 ⟨rfl,b1⟩;have B1:=bh B0 b1;have X1:=hi9 (X0.out.keep b1);have R1:=hi9 (R0.out.keep b1);clear x0 x1 y0 y1;clear b1 B0 X0 R0;obtain⟨⟨x0,x1⟩,⟨y0,y1⟩⟩:=X1.out;go_wp2_with fail;refine(K6.out _ B1.out).mono ?_;rintro e w2 ⟨rfl,b2⟩;have B2:=bh B1 b2;have X2:=hi9 (X1.out.keep b2);have R2:=hi9 (R1.out.keep b2);clear x0 x1 y0 y1;clear b2 B1 X1 R1;obtain⟨⟨x0,x1⟩,⟨y0,y1⟩⟩:=X2.out;go_wp2_with fail;refine(KC.out _ B2.out).mono ?_;rintro e w3 ⟨v,V,rfl,hO,hVP,b3⟩;have B3:=bh B2 b3;have X3:=hi9 (X2.out.keep b3);have R3:=hi9 (R2.out.keep b3);obtain⟨A3,c3,e3,-,-⟩:=hO.at
 subst e3;obtain⟨l,hl⟩:∃l,l=V.length:=⟨_,rfl⟩
 rw [←hl];have HL:=hi9 (HTT.out l (by rw [hl,←hVP,List.length_map]));clear x0 x1 y0 y1;clear b3 B2 X2 R2 hO hVP hl;obtain⟨⟨x0,x1⟩,⟨y0,y1⟩⟩:=X3.out;have KTT:∀w,Calls Tryz.prog 60 #[.bool (decide (0<l))] w fun e w'=>∃A n c,e = .returned (.slice A n c)∧(Ns w' A n c (zt bb)∧∀a,A=some a→w.heap.size≤a.block)∧Below w.heap.size w w':=fun w=>by rw [HL.out];exact jq bb w
 go_wp2_with fail;refine(KTT _).mono ?_;rintro e w4 ⟨AT,nT,cT,rfl,hN,b4⟩;have B4:=bh B3 b4;have NT:=hi9 hN.1;have HFR:=hi9 (j5 (S:=S) B3.out R3.out hN.2);have R4:=hi9 (R3.out.keep b4);clear b4 B3 R3 hN KTT;go_wp2_with fail;refine(jr _ _ _ _).mono ?_;rintro e w5 ⟨rfl,b5⟩;have B5:=bh B4 b5;have R5:=hi9 (R4.out.keep b5);have NZ:=hi9 (NT.out.keep b5);clear b5 B4 R4;have RS:=R5.out.set (.slice AT nT cT) (.int .i64 0);obtain⟨s0,s1,-,-⟩:=RS;have GF:=hi9 (zA (S:=S) (r := .ok _) NZ.out HFR.out B5.out (show w.heap.size≤w.heap.size+1+1 by omega));obtain⟨r0,r1,z0,z1⟩:=R5.out;go_wp2_with fail;exact bodyPost_ret (v := .agg #[.slice AT nT cT,.int .i64 0]) (by simp [results,Tryz.results65,go_sem,s0,s1]) rfl GF.out
theorem zhu(S:Nat→Prop)(op:Int)(hop:op=25∨op=26∨op=27)(E:List En)(A B:Option Addr)(n m c d:Nat)(P Q:List Nd)(w:World)(h:Ns w A n c P)(k:Ns w B m d Q)(h1:zc P=0)(h2:zc Q=0):
 Calls Tryz.prog 65 #[.int .i64 op,.agg #[.slice A n c,.int .i64 0],.agg #[.slice B m d,.int .i64 0]] w (zD S w (jQ E op P Q)):=by
 have hb:zf P=5→zf Q=5→jM P Q=0:=fun g g2=>zdl.2 ⟨h1,h2,g,g2⟩;have hb2:¬(zf P=5∧zf Q=5)→jM P Q=2:=fun g=>by unfold jM ziv;rw [h1,zx,h2,zx,if_neg g]
 rcases hop with rfl|rfl|rfl
 ·rw [show jQ E 25 P Q=js (zc7 P Q) (zeo P Q) from rfl];by_cases g:zf P=5
  ·rw [show js (zc7 P Q) (zeo P Q)= .ok (zt (zad (zl P) Q)) by
    have h0:zc7 P Q=0:=by unfold zc7;rw [h1,zx,h2,zx,if_pos g]
    unfold js zeo;rw [h0];rfl]
   exact zu4 S A B n m c d P Q w h k h1 h2 g
  ·rw [show js (zc7 P Q) (zeo P Q)= .error 2 by
    have h0:zc7 P Q=2:=by unfold zc7;rw [h1,zx,h2,zx,if_neg g]
    unfold js;rw [h0];rfl]
   exact zsS S A B n m c d P Q w h k h1 h2 g
 ·rw [show jQ E 26 P Q=js (jM P Q) (zfa P Q) from rfl];by_cases g:zf P=5
  ·by_cases g2:zf Q=5
   ·rw [show js (jM P Q) (zfa P Q)= .ok (zt (decide (((zl Q).filter fun x=>zad (zl P) x).length=(zl Q).length))) by
     unfold js zfa;rw [hb g g2];rfl]
    exact zu3 S A B n m c d P Q w h k h1 h2 g g2
   ·rw [show js (jM P Q) (zfa P Q)= .error 2 by unfold js;rw [hb2 fun q=>g2 q.2];rfl];exact zqL S A B n m c d P Q w h k h1 h2 g g2
  ·rw [show js (jM P Q) (zfa P Q)= .error 2 by unfold js;rw [hb2 fun q=>g q.1];rfl];exact zqR S A B n m c d P Q w h k h1 h2 g
 ·rw [show jQ E 27 P Q=js (jM P Q) (zfY P Q) from rfl];by_cases g:zf P=5
  ·by_cases g2:zf Q=5
   ·rw [show js (jM P Q) (zfY P Q)= .ok (zt ((zl Q).any fun x=>zad (zl P) x)) by
     unfold js zfY;rw [hb g g2];rfl]
    exact zuD S A B n m c d P Q w h k h1 h2 g g2
   ·rw [show js (jM P Q) (zfY P Q)= .error 2 by unfold js;rw [hb2 fun q=>g2 q.2];rfl];exact zpX S A B n m c d P Q w h k h1 h2 g g2
  ·rw [show js (jM P Q) (zfY P Q)= .error 2 by unfold js;rw [hb2 fun q=>g q.1];rfl];exact zrY S A B n m c d P Q w h k h1 h2 g
end Go.Proofs.YtkfgabdnppmglaaGreatDoor
namespace Go.Proofs.YtkfgabdnppmglaaGreatDoor
open Go.RowKit Go.Wk
def zab:List Ud→List Value
 | [] => []
 | u :: U => .string u.1 :: .string u.2 :: zab U
@[simp] theorem udCells_length (U:List Ud):(zab U).length=U.length*2:=by
 induction U with
 | nil=>rfl
 | cons u U ih=>simp only [zab,List.length_cons,ih];omega
theorem zis(U V:List Ud):zab (U ++ V)=zab U ++ zab V:=by
 induction U with
 | nil=>rfl
 | cons u U ih=>simp only [List.cons_append,zab,ih]
theorem zni(U:List Ud):∀v∈zab U,v.oneCell'=true:=by
 induction U with
 | nil=>intro v hv;cases hv
 | cons u U ih =>
  intro v hv
  simp only [zab,List.mem_cons] at hv
  rcases hv with rfl|rfl|hv
  ·rfl
  ·rfl
  ·exact ih v hv
theorem zqi{w:World}{a:Addr}{P:List Ud}(h:∀j u,(zab P)[j]?=some u→w.cell? (a.add j)=some u):zgG w (some a) P:=by
 have key:∀(P:List Ud) (k:Nat) (x:Ud),P[k]?=some x→(zab P)[k*2]?=some (.string x.1)∧(zab P)[k*2+1]?=some (.string x.2):=by
  intro P
  induction P with
  | nil=>intro k x hx;simp at hx
  | cons y P ih =>
   intro k x hx
   cases k with
   | zero=>simp at hx;subst hx;exact⟨rfl,rfl⟩
   | succ k =>
    have:=ih k x (by simpa using hx)
    rw [show(k+1)*2=k*2+1+1 by omega]
    simpa [zab] using this
 intro k x hx;obtain⟨h1,h2⟩:=key P k x hx;refine⟨a,rfl,h _ _ h1,?_⟩;have:=h _ _ h2;rw [←add_add] at this;unfold Addr.add at this ⊢;simpa using this
theorem zpY{w:World}{B:Nat}{v:Value}{P:List Ud}(h:w.ownsRow B 24 2 v P.length (zab P))(hP:∀x∈P,UOk x)(hl:P.length≤1000000):∃A c,v = .slice A P.length c∧Us w A P.length c P:=by
 rcases h.2 with ⟨rfl,h0⟩|⟨g,cap,cur,rfl,hB,_,hc,_⟩
 ·have:P = []:=List.eq_nil_of_length_eq_zero h0;subst this;exact⟨none,0,rfl,rfl,Nat.le_refl _,Nat.zero_le _,fun k x hx=>by simp at hx,fun x hx=>nomatch hx⟩
 ·exact⟨some ⟨g,0,none⟩,cap,rfl,rfl,hc,by unfold maxLen;omega,zqi (h.cells (g:=g) rfl),hP⟩
theorem zup:(Tryz.prog.info? 24).map (fun i=>(i.zero,i.size,i.bytes))=some (some (.agg #[.string ⟨#[]⟩,.string ⟨#[]⟩]),2,32):=by kernel_rfl
end Go.Proofs.YtkfgabdnppmglaaGreatDoor
