/-
  fold's worth: the walk of the loop over the parts, and what comes behind it. ..
-/
import Derived.Deep.DeepCutAuto
import Derived.Test.YtokiogmfgpidmaaGreatDoorQ37
set_option maxRecDepth 100000
set_option maxHeartbeats 16000000
namespace Go.Proofs.YtokiogmfgpidmaaGreatDoor
open Go.RowKit Go.Wk Go.Sort
theorem EN(nd:Nd)(ps:Exs)(A:Option Addr)(c:Nat)(w:World)(B:Nat->Prop)(hB:∀b,B b->b<w.heap.size)(hvx:(Ex.node nd ps).valid false)(hl:(Ex.node nd ps).flat.length<=200)(hx:PAt w B (.node nd ps) [.int .i64 nd.op,.int .i64 nd.n,.string nd.s,.string nd.t,.slice A ps.len c])(hno:er nd)(hp:jL w B A 0 ps)(hk:¬((ps.len=0/\nd.op≠5/\nd.op≠6)\/nd.op=7))(hv:zc (Ex.node nd ps).flat≠0)(hd:aD w):
 Calls Tryz.prog 35 #[.agg #[.slice none 0 0,.bool false],.agg #[.int .i64 nd.op,.int .i64 nd.n,.string nd.s,.string nd.t,.slice A ps.len c]] w (ie w B (.node nd ps)):=by
 obtain⟨i0,hi,hz0,hz1,hz2⟩:=info_parts gz;obtain⟨j0,hj,jz0,jz1,jz2⟩:=info_parts il;have C4:=O (PAt.ok _ _ hx);have HL:=O hl;have HV:=O hv;have lB:=O hB;have HD:=O hd;have HK:=O hp;have vS:=O hno.s;have IQ:=O (λh=>EZ (n:=nd) (ps:=ps) h);have Oj:=O (λc3 hall=>uL hvx hk hv c3 hall);have OD:=O (λc3=>Ak hvx hk c3);have HPT:=O (show nd.op=6->∀y∈exL ps,y.valid true from λh=>d6 (by have h3:=hvx.2.2;rwa [show zP nd=true from decide_eq_true h] at h3));have OE:=O (show nd.op≠6->∀y∈exL ps,y.valid false from λh=>d6 (by have h3:=hvx.2.2;rwa [show zP nd=false from decide_eq_false h] at h3));have KJ:=O (show∀y∈exL ps,y.flat.length<=200 from λy hy=>Nat.le_trans (gW ps y hy) (by rw [Ex.flat,List.length_cons] at hl;omega));have ym:ps.len<=200:=Nat.le_trans (am ps) (by rw [Ex.flat,List.length_cons] at hl;omega);have h7:nd.op≠7:=λe=>hk (.inr e);have v7:ps.len≠0\/(ps.len=0/\nd.op=5)\/(ps.len=0/\nd.op=6):=by
  by_cases h0:ps.len=0
  ·by_cases h5:nd.op=5
   ·exact .inr (.inl ⟨h0,h5⟩)
   ·by_cases h6:nd.op=6
    ·exact .inr (.inr ⟨h0,h6⟩)
    ·exact(hk (.inl ⟨h0,h5,h6⟩)).elim
  ·exact .inl h0
 have HM:=O (dz ps);obtain⟨xx,LU⟩:∃xx,xx=Ex.node nd ps:=⟨_,rfl⟩
 rw [<-LU] at C4 HL HV IQ Oj hx ⊢;clear LU hk hl hv hvx hno hp hd;obtain⟨o,n,s,t⟩:=nd;dsimp only at hx h7 v7 IQ Oj OD HPT OE vS ⊢;obtain⟨m,hm⟩:∃m,m=ps.len:=⟨_,rfl⟩
 rw [<-hm] at hx v7 ym HM OD ⊢;clear hm;have b0:=zb w (.cells #[.slice none 0 0,.bool false] 53);have b1:=zb (w.alloc (.cells #[.slice none 0 0,.bool false] 53)) (.cells #[.int .i64 o,.int .i64 n,.string s,.string t,.slice A m c] 49);have b2:=zb ((w.alloc (.cells #[.slice none 0 0,.bool false] 53)).alloc (.cells #[.int .i64 o,.int .i64 n,.string s,.string t,.slice A m c] 49)) (.cells #[.int .i64 0,.int .i64 0,.string ⟨#[]⟩,.string ⟨#[]⟩,.slice none 0 0] 49);have B3:=O (b0.trans ((b1.trans (b2.mono b1.size)).mono b0.size));have Lc:=b1.trans (b2.mono b1.size);have x1:=jp (w.alloc (.cells #[.slice none 0 0,.bool false] 53)) (.int .i64 o) (.int .i64 n) (.string s) (.string t) (.slice A m c) 49;have x2:=jp ((w.alloc (.cells #[.slice none 0 0,.bool false] 53)).alloc (.cells #[.int .i64 o,.int .i64 n,.string s,.string t,.slice A m c] 49)) (.int .i64 0) (.int .i64 0) (.string ⟨#[]⟩) (.string ⟨#[]⟩) (.slice none 0 0) 49;rw [show(w.alloc (.cells #[.slice none 0 0,.bool false] 53)).heap.size=w.heap.size+1 by simp] at x1;rw [show((w.alloc (.cells #[.slice none 0 0,.bool false] 53)).alloc (.cells #[.int .i64 o,.int .i64 n,.string s,.string t,.slice A m c] 49)).heap.size=w.heap.size+2 by simp] at x2;have L3:=O (show WLp w (((w.alloc (.cells #[.slice none 0 0,.bool false] 53)).alloc (.cells #[.int .i64 o,.int .i64 n,.string s,.string t,.slice A m c] 49)).alloc (.cells #[.int .i64 0,.int .i64 0,.string ⟨#[]⟩,.string ⟨#[]⟩,.slice none 0 0] 49)) o n s t A m c (.slice none 0 0) (.slice none 0 0) [] [] from
  ⟨za Lc (a7 w _ _ 0 rfl),za Lc (a7 w _ _ 1 rfl),x1.keep b2,x2,⟨zO.nil _ _,World.ownsRow_nil _ _ _ 1,.inl rfl,(by intro r hr;cases hr)⟩,B3.o,by simp⟩)
 have KF:=O (sO xx _ (((w.alloc (.cells #[.slice none 0 0,.bool false] 53)).alloc (.cells #[.int .i64 o,.int .i64 n,.string s,.string t,.slice A m c] 49)).alloc (.cells #[.int .i64 0,.int .i64 0,.string ⟨#[]⟩,.string ⟨#[]⟩,.slice none 0 0] 49)) B HL.o (PAt.cong (λb hb=>B3.o.block b (hB b hb)) _ _ hx) (λb hb=>Nat.lt_of_lt_of_le (hB b hb) B3.o.size));have X1:=O (x1.keep b2);clear b0 b1 b2 Lc x1 x2 hx hB;have e7:(o==7)=false:=by simp [h7]
 have three:((m:Int)==0)=false\/(((m:Int)==0)=true/\(o != 5)=false)\/(((m:Int)==0)=true/\(o != 5)=true/\(o != 6)=false):=by
  rcases v7 with h|⟨h1,h2⟩|⟨h1,h2⟩
  ·exact .inl (by simp [h])
  ·exact .inr (.inl ⟨by simp [h1],by simp [h2]⟩)
  ·exact .inr (.inr ⟨by simp [h1],by simp [h2],by simp [h2]⟩)
 clear v7 h7;go_enter Tryz.func35,Tryz.ntmps35;go_upto_region 1 with fail;go_cut [42] from 15 (λv wx=>v = .bool false/\Hid (WLp w wx o n s t A m c (.slice none 0 0) (.slice none 0 0) [] []))
 case first =>
  rcases three with em|⟨em,e5⟩|⟨em,e5,e6⟩
  all_goals
   go_wp2_with fail;refine KF.o.mono ?_;rintro e w4 ⟨a4,n4,c4,rfl,gh,-,b4⟩;have K4:=O (d5 (some a4) n4 c4 _ w4 gh.len gh.cap gh.max gh.at_ gh.ok);rw [zn HV.o] at K4;have L4:=O (L3.o.keep b4);clear gh b4 KF;go_wp2_with fail;refine K4.o.mono ?_;rintro e w5 ⟨rfl,b5⟩;have L5:=O (L4.o.keep b5);clear b5 K4 L4 L3 X1 B3;go_wp2_with fail;go_meet;exact⟨rfl,L5⟩
 case rest =>
  obtain⟨rfl,L5⟩:=hcut;clear three KF L3 X1 B3 e7;obtain⟨x0,x1,x2,x3,x4,-,-,-,-,-⟩:=L5.o.X1;go_wp2_with fail;clear x0 x1 x2 x3 x4;go_loopw [6,7,47] (λnv v i wr=>∃(k:Nat) (V:List Sl) (N:List ByteArray),i = .int .i64 k/\k<=m/\V.length=k/\N.length<=k/\Hid (V.map Sl.P=((exL ps).take k).map zN)/\Hid (o=6->N=((exL ps).take k).map λq=>q.head.s)/\Hid (∀z∈N,z.size<=maxLen)/\Hid (∀q∈(exL ps).take k,jK false (zN q)=true)/\Hid (WLp w wr o n s t A m c nv v V N)) (λ_ _ i _=>m-(intOf i).toNat)
  case atStart=>exact⟨0,[],[],rfl,Nat.zero_le _,rfl,Nat.le_refl _,O rfl,O (λ_=>rfl),O (λz hz=>nomatch hz),O (λq hq=>by simp at hq),L5⟩
  case round =>
   clear L5;obtain⟨k,V,N,rfl,MP,ox,hNl,Db,Kg,Kc,hW,hL⟩:=hrel;by_cases hlt:k<m
   ·have CW:k<(exL ps).length:=by rw [HM.o];exact hlt
    have HOLD:=O (show∀b,B b->wr.heap[b]?=w.heap[b]? from λb hb=>hL.o.G.block b (lB.o b hb));obtain⟨a,u,rfl,Mw,hr,hx⟩:=jL.at ps A 0 (jL.cong HOLD.o ps A 0 HK.o) k _ (List.getElem?_eq_getElem CW);rw [Nat.zero_add] at hr;have Ag:=O (List.take_succ_eq_append_getElem CW);have ov:=O (List.getElem_mem CW);obtain⟨y,hy⟩:∃y,y=(exL ps)[k]:=⟨_,rfl⟩
    rw [<-hy] at hx Ag ov;clear hy;have HX:=O hx;obtain⟨hn,qs⟩:=y;rw [PAt] at hx;obtain⟨hno,A',c',rfl,-⟩:=hx;have HNO2:=O hno.s;obtain⟨l,hl⟩:∃l,l=qs.len:=⟨_,rfl⟩
    rw [<-hl] at hr HX;clear hl;have q0:wr.cell? (a.add (k*5))=some (.int .i64 hn.op):=hr 0 _ rfl;have q1:wr.cell? ⟨(a.add (k*5)).block,(a.add (k*5)).off+1,none⟩=some (.int .i64 hn.n):=by rw [uT _ _ _ (by decide)];exact hr 1 _ rfl
    have q2:wr.cell? ⟨(a.add (k*5)).block,(a.add (k*5)).off+2,none⟩=some (.string hn.s):=by rw [uT _ _ _ (by decide)];exact hr 2 _ rfl
    have q3:wr.cell? ⟨(a.add (k*5)).block,(a.add (k*5)).off+3,none⟩=some (.string hn.t):=by rw [uT _ _ _ (by decide)];exact hr 3 _ rfl
    have q4:wr.cell? ⟨(a.add (k*5)).block,(a.add (k*5)).off+4,none⟩=some (.slice A' l c'):=by rw [uT _ _ _ (by decide)];exact hr 4 _ rfl
    have Ba:=zb wr (.cells #[.int .i64 hn.op,.int .i64 hn.n,.string hn.s,.string hn.t,.slice A' l c'] 49);have Lf:∀b,B b->b<wr.heap.size:=λb hb=>Nat.lt_of_lt_of_le (lB.o b hb) hL.o.G.size;have KC:=O (sO (.node hn qs) _ (wr.alloc (.cells #[.int .i64 hn.op,.int .i64 hn.n,.string hn.s,.string hn.t,.slice A' l c'] 49)) B (KJ.o _ ov.o) (PAt.cong (λb hb=>Ba.block b (Lf b hb)) _ _ HX.o) (λb hb=>Nat.lt_of_lt_of_le (Lf b hb) Ba.size));have BA:=O Ba;have XA:=O (jp wr (.int .i64 hn.op) (.int .i64 hn.n) (.string hn.s) (.string hn.t) (.slice A' l c') 49);clear Ba Lf hr Mw HOLD;go_wp2_with fail;refine KC.o.mono ?_;rintro e w6 ⟨a6,n6,c6,rfl,hN6,OY,b6⟩;have L6:=O (hL.o.keep (BA.o.trans (b6.mono BA.o.size)));have X6:=O (XA.o.keep b6);have N6:=O hN6;have Mn:=O (show wr.heap.size<a6.block by have:=Nat.le_trans (show wr.heap.size+1<=_ from by simp) OY;exact this);have OR:=O (show∀g,u6.ownBlock=some g->g<wr.heap.size from bK hL.o.T.b);have HSW:=O (show∀g,u7.ownBlock=some g->g<wr.heap.size from bK hL.o.T.a.own);clear hN6 OY b6 KC q0 q1 q2 q3 q4 BA XA HX hL;obtain⟨x0,x1,x2,x3,x4,-,-,-,-,-⟩:=X6.o;by_cases h6:o=6
    case' pos =>
     obtain⟨h7,hh,rr,hf,hs,hne,Ge⟩:=EM (HPT.o h6 _ ov.o);have e9:(hn.op==7)=true:=by rw [beq_iff_eq];exact h7
     rw [Ex.flat] at hf N6;injection hf with KZ hf2;subst KZ hf2;have ID:=O Ge;have La:=N6.o.len;have Mv:=N6.o.cap;rw [List.length_cons] at La;have OV:0<qs.flat.length:=List.length_pos_iff.2 hne;have f1:(1:Int)<=(n6:Int):=by omega
     have f2:¬c6=1:=by omega
     have f3:1<=n6:=by omega
     have f4:n6<=c6:=Mv;have Na:n6-1=qs.flat.length:=by omega
     have HL7:=O Na;clear h7 hne Ge hs La Mv OV Na h6;go_wp2_with (at_builtin;refine wpList_append_own_at _ rfl _ _ 85 rfl (w.heap.size+3) 9 j0 _ 1 16 Tryz.underlying85 hj jz0 jz1 jz2 rfl (by decide) _ N.length (N.map Value.string) rfl (L6.o.T.b.alloc _) ⟨_,0,none⟩ 1 1 [.string hn.s] rfl rfl (cell_one_new _ _ _) (by intro u hu;simp only [List.mem_cons,List.not_mem_nil,or_false] at hu;subst hu;rfl) ?c1 ?c2 ?c3 ?_)
     case' c1=>unfold maxLen;omega
     case' c2=>omega
     case' c3=>have:=L6.o.z;simp;omega
     intro v8 w8 hown hgrow _ hat;have T8:=O (L6.o.T.name (s:=hn.s) hown hgrow (by simpa using hat));have L8:=O ((L6.o.keep (zb w6 _)).row hgrow (λg hg=>jm L6.o.T.b g hg) T8.o);have h6l:a6.block<w6.heap.size:=N6.o.at_.lt (by simp) a6 rfl;have N7:=(N6.o.keep (zb w6 (.cells #[.string hn.s] 9)))
     have AP:=(show aG ⟨some a6,n6,c6,hn :: qs.flat⟩ u6.ownBlock from λ_ a e q=>by
      injection e with e
      subst e
      have h1:=OR.o _ q
      have h2:=Mn.o
      omega)
     have N9:=Ns.row (r:=⟨some a6,n6,c6,hn :: qs.flat⟩) N7 hgrow AP;have N8:=O (show Ns w8 (some (a6.add 4)) (n6-1) (c6-1) (zN (.node hn qs)) from by
      rw [ID.o]
      exact wy (U := [hn]) (V:=qs.flat) (R := []) (by rw [List.append_nil];exact N9) HL7.o rfl)
     have Mq:=O (show aG ⟨some (a6.add 4),n6-1,c6-1,zN (.node hn qs)⟩ u7.ownBlock from λ_ a e q=>by
      injection e with e
      subst e
      have h1:=HSW.o _ q
      have h2:=Mn.o
      rw [jQ] at h1
      omega)
     have Mp:=O (show aG ⟨some (a6.add 4),n6-1,c6-1,zN (.node hn qs)⟩ v8.ownBlock from λ_ a e q=>by
      injection e with e
      subst e
      rw [jQ] at q
      rcases hat with h|h
      ·rw [h] at q
       have h1:=OR.o _ q
       have h2:=Mn.o
       omega
      ·rw [h] at q
       injection q with q
       first|omega|(simp at q;omega))
     have OO:=O (show o=6->N ++ [hn.s]=((exL ps).take (k+1)).map λq=>q.head.s from λh=>by rw [Ag.o,List.map_append,<-Kg.o h];rfl);have Kl:(N ++ [hn.s]).length<=k+1:=by simp;omega
     have Kx:=O (show∀z∈N ++ [hn.s],z.size<=maxLen from λz hz=>by
      rcases List.mem_append.1 hz with hz|hz
      ·exact Kc.o z hz
      ·simp only [List.mem_cons,List.not_mem_nil,or_false] at hz
       subst hz
       exact HNO2.o)
     clear hown hgrow hat T8 L6 N7 AP N9 N6 X6 h6l HL7 ID x0 x1 x2 x3 x4 Kg Kc;have K9:=O (d5 (some (a6.add 4)) (n6-1) (c6-1) _ w8 N8.o.len N8.o.cap N8.o.max N8.o.at_ N8.o.ok);go_wp2_with fail;refine K9.o.mono ?_;rintro e w10 ⟨rfl,b10⟩;have sL:=O (L8.o.keep b10);have Gv:=O (N8.o.keep b10);clear b10 K9 L8 N8;by_cases hv9:zc (zN (.node hn qs))=0
     case neg =>
      rw [zn hv9];have Gq:=O (IQ.o (.inl ⟨_,ov.o,by rw [ci,decide_eq_false hv9];rfl⟩));clear hv9;have RS:=O (sL.o.X2.set (.int .i64 o) (.int .i64 n) (.string s) (.string t) (.slice (some a) m c));have HE:=O (sL.o.left B xx Gq.o o n s t (some a) m c);obtain⟨z0,z1,z2,z3,z4,-,-,-,-,-⟩:=sL.o.X1;obtain⟨r0,r1,r2,r3,r4,t0,t1,t2,t3,t4⟩:=sL.o.X2;go_wp2_with fail;obtain⟨s0,s1,s2,s3,s4,-,-,-,-,-⟩:=RS.o;exact bodyPost_ret (v := .tuple #[.agg #[.int .i64 o,.int .i64 n,.string s,.string t,.slice (some a) m c],.bool false]) (by simp [results,Tryz.results35,go_sem,s0,s1,s2,s3,s4]) rfl HE.o
     rw [hv9,zk];have f1:=sL.o.F1;have KN:=O (dS (some (a6.add 4)) (n6-1) (c6-1) _ w10 Gv.o);by_cases he:dh (zN (.node hn qs))=true
     case pos =>
      rw [he] at KN;have Gq:=O (IQ.o (.inl ⟨_,ov.o,by rw [ci,he,Bool.not_true,Bool.and_false]⟩));clear hv9 he;go_wp2_with fail;refine KN.o.mono ?_;rintro e w11 ⟨rfl,b11⟩;have oz:=O (sL.o.keep b11);clear b11 KN f1 sL;have RS:=O (oz.o.X2.set (.int .i64 o) (.int .i64 n) (.string s) (.string t) (.slice (some a) m c));have HE:=O (oz.o.left B xx Gq.o o n s t (some a) m c);obtain⟨z0,z1,z2,z3,z4,-,-,-,-,-⟩:=oz.o.X1;obtain⟨r0,r1,r2,r3,r4,t0,t1,t2,t3,t4⟩:=oz.o.X2;go_wp2_with fail;obtain⟨s0,s1,s2,s3,s4,-,-,-,-,-⟩:=RS.o;exact bodyPost_ret (v := .tuple #[.agg #[.int .i64 o,.int .i64 n,.string s,.string t,.slice (some a) m c],.bool false]) (by simp [results,Tryz.results35,go_sem,s0,s1,s2,s3,s4]) rfl HE.o
     have he2:dh (zN (.node hn qs))=false:=by simpa using he
     rw [he2] at KN;have Mx:=O (show jK false (zN (.node hn qs))=true by rw [ci,he2,decide_eq_true hv9];rfl);clear hv9 he he2;go_wp2_with fail;refine KN.o.mono ?_;rintro e w11 ⟨rfl,b11⟩;have oz:=O (sL.o.keep b11);have Jm:=O (Gv.o.keep b11);clear b11 KN f1 sL Gv;go_wp2_with (at_builtin;refine wpList_append_own_at _ rfl _ _ 84 rfl (w.heap.size+3) 22 i0 _ 1 24 Tryz.underlying84 hi hz0 hz1 hz2 rfl (by decide) _ V.length (V.map Sl.v) rfl (oz.o.T.a.own.alloc _) ⟨_,0,none⟩ 1 1 [.slice (some (a6.add 4)) ((n6-1)) ((c6-1))] rfl rfl (cell_one_new _ _ _) (by intro u hu;simp only [List.mem_cons,List.not_mem_nil,or_false] at hu;subst hu;rfl) ?d1 ?d2 ?d3 ?_)
     case d1=>unfold maxLen;omega
     case d2=>omega
     case d3=>have:=oz.o.z;simp;omega
     intro v12 w12 hown hgrow _ hat;have LO:=O (oz.o.T.part (r:=⟨(some (a6.add 4)),(n6-1),(c6-1),zN (.node hn qs)⟩) Jm.o Mq.o Mp.o (by rw [ox];exact hown) hgrow (by simpa using hat));have NW:=O ((oz.o.keep (zb w11 _)).row hgrow (λg hg=>jm oz.o.T.a.own g hg) LO.o);have Kh:(V ++ [(⟨(some (a6.add 4)),(n6-1),(c6-1),zN (.node hn qs)⟩:Sl)]).length=k+1:=by simp [ox]
     have Kq:=O (show(V ++ [(⟨(some (a6.add 4)),(n6-1),(c6-1),zN (.node hn qs)⟩:Sl)]).map Sl.P=((exL ps).take (k+1)).map zN by rw [Ag.o,List.map_append,List.map_append,Db.o];rfl);have Ky:=O (show∀q∈(exL ps).take (k+1),jK false (zN q)=true from λq hq=>by
      rw [Ag.o] at hq
      rcases List.mem_append.1 hq with hq|hq
      ·exact hW.o q hq
      ·simp only [List.mem_cons,List.not_mem_nil,or_false] at hq
       subst hq
       exact Mx.o)
     clear hown hgrow hat LO oz Jm Mq Mp Db hW Mx;go_wp2_with fail;go_roundw
     case rel=>exact⟨k+1,_,_,by go_num,hlt,Kh,Kl,Kq,OO,Kx,Ky,NW⟩
     case measure=>simp [intOf];omega
    case' neg =>
     have e9:(hn.op==7)=false:=by
      have:=xu (OE.o h6 _ ov.o);rw [beq_eq_false_iff_ne];exact this
     have ID:=O (kK (OE.o h6 _ ov.o));have N8:=O (show Ns w6 (some a6) n6 c6 (zN (.node hn qs)) from by rw [ID.o];exact N6.o);have Mq:=O (show aG ⟨some a6,n6,c6,zN (.node hn qs)⟩ u7.ownBlock from λ_ a e q=>by
      injection e with e
      subst e
      have h1:=HSW.o _ q
      have h2:=Mn.o
      omega)
     have Mp:=O (show aG ⟨some a6,n6,c6,zN (.node hn qs)⟩ u6.ownBlock from λ_ a e q=>by
      injection e with e
      subst e
      have h1:=OR.o _ q
      have h2:=Mn.o
      omega)
     have OO:=O (show o=6->N=((exL ps).take (k+1)).map λq=>q.head.s from λh=>absurd h h6);have Kl:N.length<=k+1:=by omega
     have Kx:=Kc;have L8:=L6;clear L6 N6 X6 ID Kg Kc h6;have K9:=O (d5 (some a6) n6 c6 _ w6 N8.o.len N8.o.cap N8.o.max N8.o.at_ N8.o.ok);go_wp2_with fail;refine K9.o.mono ?_;rintro e w10 ⟨rfl,b10⟩;have sL:=O (L8.o.keep b10);have Gv:=O (N8.o.keep b10);clear b10 K9 L8 N8;by_cases hv9:zc (zN (.node hn qs))=0
     case neg =>
      rw [zn hv9];have Gq:=O (IQ.o (.inl ⟨_,ov.o,by rw [ci,decide_eq_false hv9];rfl⟩));clear hv9;have RS:=O (sL.o.X2.set (.int .i64 o) (.int .i64 n) (.string s) (.string t) (.slice (some a) m c));have HE:=O (sL.o.left B xx Gq.o o n s t (some a) m c);obtain⟨z0,z1,z2,z3,z4,-,-,-,-,-⟩:=sL.o.X1;obtain⟨r0,r1,r2,r3,r4,t0,t1,t2,t3,t4⟩:=sL.o.X2;go_wp2_with fail;obtain⟨s0,s1,s2,s3,s4,-,-,-,-,-⟩:=RS.o;exact bodyPost_ret (v := .tuple #[.agg #[.int .i64 o,.int .i64 n,.string s,.string t,.slice (some a) m c],.bool false]) (by simp [results,Tryz.results35,go_sem,s0,s1,s2,s3,s4]) rfl HE.o
     rw [hv9,zk];have f1:=sL.o.F1;have KN:=O (dS (some a6) n6 c6 _ w10 Gv.o);by_cases he:dh (zN (.node hn qs))=true
     case pos =>
      rw [he] at KN;have Gq:=O (IQ.o (.inl ⟨_,ov.o,by rw [ci,he,Bool.not_true,Bool.and_false]⟩));clear hv9 he;go_wp2_with fail;refine KN.o.mono ?_;rintro e w11 ⟨rfl,b11⟩;have oz:=O (sL.o.keep b11);clear b11 KN f1 sL;have RS:=O (oz.o.X2.set (.int .i64 o) (.int .i64 n) (.string s) (.string t) (.slice (some a) m c));have HE:=O (oz.o.left B xx Gq.o o n s t (some a) m c);obtain⟨z0,z1,z2,z3,z4,-,-,-,-,-⟩:=oz.o.X1;obtain⟨r0,r1,r2,r3,r4,t0,t1,t2,t3,t4⟩:=oz.o.X2;go_wp2_with fail;obtain⟨s0,s1,s2,s3,s4,-,-,-,-,-⟩:=RS.o;exact bodyPost_ret (v := .tuple #[.agg #[.int .i64 o,.int .i64 n,.string s,.string t,.slice (some a) m c],.bool false]) (by simp [results,Tryz.results35,go_sem,s0,s1,s2,s3,s4]) rfl HE.o
     have he2:dh (zN (.node hn qs))=false:=by simpa using he
     rw [he2] at KN;have Mx:=O (show jK false (zN (.node hn qs))=true by rw [ci,he2,decide_eq_true hv9];rfl);clear hv9 he he2;go_wp2_with fail;refine KN.o.mono ?_;rintro e w11 ⟨rfl,b11⟩;have oz:=O (sL.o.keep b11);have Jm:=O (Gv.o.keep b11);clear b11 KN f1 sL Gv;go_wp2_with (at_builtin;refine wpList_append_own_at _ rfl _ _ 84 rfl (w.heap.size+3) 22 i0 _ 1 24 Tryz.underlying84 hi hz0 hz1 hz2 rfl (by decide) _ V.length (V.map Sl.v) rfl (oz.o.T.a.own.alloc _) ⟨_,0,none⟩ 1 1 [.slice (some a6) (n6) (c6)] rfl rfl (cell_one_new _ _ _) (by intro u hu;simp only [List.mem_cons,List.not_mem_nil,or_false] at hu;subst hu;rfl) ?d1 ?d2 ?d3 ?_)
     case d1=>unfold maxLen;omega
     case d2=>omega
     case d3=>have:=oz.o.z;simp;omega
     intro v12 w12 hown hgrow _ hat;have LO:=O (oz.o.T.part (r:=⟨(some a6),n6,c6,zN (.node hn qs)⟩) Jm.o Mq.o Mp.o (by rw [ox];exact hown) hgrow (by simpa using hat));have NW:=O ((oz.o.keep (zb w11 _)).row hgrow (λg hg=>jm oz.o.T.a.own g hg) LO.o);have Kh:(V ++ [(⟨(some a6),n6,c6,zN (.node hn qs)⟩:Sl)]).length=k+1:=by simp [ox]
     have Kq:=O (show(V ++ [(⟨(some a6),n6,c6,zN (.node hn qs)⟩:Sl)]).map Sl.P=((exL ps).take (k+1)).map zN by rw [Ag.o,List.map_append,List.map_append,Db.o];rfl);have Ky:=O (show∀q∈(exL ps).take (k+1),jK false (zN q)=true from λq hq=>by
      rw [Ag.o] at hq
      rcases List.mem_append.1 hq with hq|hq
      ·exact hW.o q hq
      ·simp only [List.mem_cons,List.not_mem_nil,or_false] at hq
       subst hq
       exact Mx.o)
     clear hown hgrow hat LO oz Jm Mq Mp Db hW Mx;go_wp2_with fail;go_roundw
     case rel=>exact⟨k+1,_,_,by go_num,hlt,Kh,Kl,Kq,OO,Kx,Ky,NW⟩
     case measure=>simp [intOf];omega
   ·obtain rfl:m=k:=by omega
    have hall:(exL ps).take m=exL ps:=List.take_of_length_le (by rw [HM.o];exact Nat.le_refl _);rw [hall] at Db Kg hW;obtain⟨A1,c1,rfl,-,C5⟩:=hL.o.T.a.at
    obtain⟨A2,c2,rfl,Lg⟩:=dA hL.o.T.b;rw [ox] at hL ⊢;obtain⟨l2,hl2⟩:∃l2,l2=N.length:=⟨_,rfl⟩
    rw [<-hl2] at hL hNl ⊢;by_cases h3:o=11\/o=12\/o=13
    case pos =>
     have Gq:=O (IQ.o (.inr h3));have three:(o==11)=true\/((o==11)=false/\(o==12)=true)\/((o==11)=false/\(o==12)=false/\(o==13)=true):=by
      rcases h3 with h|h|h
      ·exact .inl (by simp [h])
      ·exact .inr (.inl ⟨by simp [h],by simp [h]⟩)
      ·exact .inr (.inr ⟨by simp [h],by simp [h],by simp [h]⟩)
     clear h3 C5 Lg Db Kg hW Kc hl2;rcases three with e11|⟨e11,e12⟩|⟨e11,e12,e13⟩
     all_goals
      have RS:=O (hL.o.X2.set (.int .i64 o) (.int .i64 n) (.string s) (.string t) (.slice A m c));have HE:=O (hL.o.left B xx Gq.o o n s t A m c);obtain⟨z0,z1,z2,z3,z4,-,-,-,-,-⟩:=hL.o.X1;obtain⟨r0,r1,r2,r3,r4,t0,t1,t2,t3,t4⟩:=hL.o.X2;go_wp2_with fail;obtain⟨s0,s1,s2,s3,s4,-,-,-,-,-⟩:=RS.o;exact bodyPost_ret (v := .tuple #[.agg #[.int .i64 o,.int .i64 n,.string s,.string t,.slice A m c],.bool false]) (by simp [results,Tryz.results35,go_sem,s0,s1,s2,s3,s4]) rfl HE.o
    have e11:(o==11)=false:=by simp;omega
    have e12:(o==12)=false:=by simp;omega
    have e13:(o==13)=false:=by simp;omega
    obtain⟨h0,hE,hO⟩:=Oj.o h3 hW.o;have eA:bo [] ⟨o,n,s,t⟩ N (V.map Sl.P)=bo [] ⟨o,n,s,t⟩ ((exL ps).map λq=>q.head.s) ((exL ps).map zN):=by rw [Db.o];exact xq Kg.o
    have hval:∀r∈V,zc r.P=0:=λr hr=>by
     have h1:r.P∈(exL ps).map zN:=by rw [<-Db.o];exact List.mem_map.2 ⟨r,hr,rfl⟩
     obtain⟨q,hq,e⟩:=List.mem_map.1 h1;rw [<-e];exact nN (hW.o q hq)
    have KA:=O (wX ⟨o,n,s,t⟩ vS.o m (OD.o h3) N A2 l2 c2 hl2 (by omega) Kc.o wr (λi x hi=>Lg i (.string x) (by rw [List.getElem?_map,hi];rfl)) A1 c1 V ox (by omega) C5 hval (HD.o.keep hL.o.G) (by rw [eA];exact h0));rw [eA] at KA;have HE:=O hE;have HO:=O hO;have H0:=O h0;unfold cu ndV at KA;dsimp only at KA;generalize bo [] ⟨o,n,s,t⟩ ((exL ps).map λq=>q.head.s) ((exL ps).map zN)=r at *;have f0:=hL.o.F0;obtain⟨z0,z1,z2,z3,z4,-,-,-,-,-⟩:=hL.o.X1;clear h0 hE hO eA hval h3 C5 Lg Db Kg hW Kc hl2;go_wp2_with fail;refine KA.o.mono ?_;rintro e w8 ⟨A8,n8,c8,rfl,hN8,b8⟩;have L8:=O (hL.o.keep b8);have N8:=O hN8;clear hN8 b8 KA hL f0 z0 z1 z2 z3 z4;rcases r with u|V8
    case error =>
     have hu:u≠0:=λe=>H0.o (by rw [e]);have Gq:=O (HE.o u rfl);rw [show jr (FY (.error u))=jr u from rfl,zn hu];clear hu;have RS:=O (L8.o.X2.set (.int .i64 o) (.int .i64 n) (.string s) (.string t) (.slice A m c));have HE:=O (L8.o.left B xx Gq.o o n s t A m c);obtain⟨z0,z1,z2,z3,z4,-,-,-,-,-⟩:=L8.o.X1;obtain⟨r0,r1,r2,r3,r4,t0,t1,t2,t3,t4⟩:=L8.o.X2;go_wp2_with fail;obtain⟨s0,s1,s2,s3,s4,-,-,-,-,-⟩:=RS.o;exact bodyPost_ret (v := .tuple #[.agg #[.int .i64 o,.int .i64 n,.string s,.string t,.slice A m c],.bool false]) (by simp [results,Tryz.results35,go_sem,s0,s1,s2,s3,s4]) rfl HE.o
    obtain⟨y,hy,hyv,Ou,Ld⟩:=HO.o V8 rfl;rw [show jr (FY (.ok V8))= .nilIface from zk];have HY:=O hy;have KR:=O (rm y.flat.length y false A8 n8 c8 [] w8 (Nat.le_refl _) (by rw [Ou];omega) hyv (by rw [List.append_nil,Ou];exact N8.o));clear hy hyv Ou Ld N8 HO HE H0;go_wp2_with fail;refine KR.o.mono ?_;rintro e w9 ⟨o9,n9,s9,t9,A9,m9,k9,A7,n7,c7,rfl,hx9,-,b9⟩;have L9:=O (L8.o.keep b9);have HX9:=O hx9;have NK:=O (show w.heap.size+2<w8.heap.size by have:=L8.o.z;omega);have b10:=zb w9 (.cells #[.int .i64 o9,.int .i64 n9,.string s9,.string t9,.slice A9 m9 k9] 49);have RS:=O ((L9.o.X2.keep b10).set (.int .i64 o9) (.int .i64 n9) (.string s9) (.string t9) (.slice A9 m9 k9));have BS:=O (jH (L9.o.G.trans (b10.mono L9.o.G.size)) (Nat.le_add_right w.heap.size 2) (.int .i64 o9) (.int .i64 n9) (.string s9) (.string t9) (.slice A9 m9 k9));have PS:=O (PAt.mono (B':=λb=>B b\/w.heap.size<=b) (λb hb _ => .inr (by have:=NK.o;omega)) _ _ (FU HX9.o NK.o (.cells #[.int .i64 o9,.int .i64 n9,.string s9,.string t9,.slice A9 m9 k9] 49) (.int .i64 o9) (.int .i64 n9) (.string s9) (.string t9) (.slice A9 m9 k9)));obtain⟨r0,r1,r2,r3,r4,t0,t1,t2,t3,t4⟩:=L9.o.X2.keep b10;clear hx9 b9 b10 L8 KR HX9 NK L9;go_wp2_with fail;obtain⟨s0,s1,s2,s3,s4,-,-,-,-,-⟩:=RS.o;exact bodyPost_ret (v := .tuple #[.agg #[.int .i64 o9,.int .i64 n9,.string s9,.string t9,.slice A9 m9 k9],.bool true]) (by simp [results,Tryz.results35,go_sem,s0,s1,s2,s3,s4]) rfl ⟨_,_,_,_,_,_,_,true,rfl,λ_=>⟨y,HY.o,PS.o⟩,λhb=>(nomatch hb),BS.o⟩
theorem yK:Ee:=λx f hv hl u w B hB hx hd=>by
 obtain⟨nd,ps⟩:=x;have Jd:=hx;rw [PAt] at Jd;obtain⟨hno,A,c,rfl,-,-,hp⟩:=Jd;by_cases hk:(ps.len=0/\nd.op≠5/\nd.op≠6)\/nd.op=7
 ·exact Fj nd ps A c w B hk
 by_cases h0:zc (Ex.node nd ps).flat=0
 ·exact Aw nd ps A c w B hB hl hx hk h0
 have hf:f=false:=by
  cases f with
  | false=>rfl
  | true =>
   have h2:=hv.1
   unfold jA at h2
   rw [Bool.and_eq_true] at h2
   exact(hk (.inr (by simpa using h2.2))).elim
 subst hf;exact EN nd ps A c w B hB hv hl hx hno hp hk h0 hd
end Go.Proofs.YtokiogmfgpidmaaGreatDoor
namespace Go.Proofs.YtokiogmfgpidmaaGreatDoor
open Go.RowKit Go.Wk
def gv:Ex := .node ⟨17,0,emp,emp⟩ (.cons (.node ⟨2,2,emp,emp⟩ .nil) (.cons (.node ⟨2,3,emp,emp⟩ .nil) .nil))
theorem gX:gv.valid false:=⟨by decide,by decide,λe=>Bool.noConfusion e,⟨by decide,by decide,trivial⟩,λe=>Bool.noConfusion e,⟨by decide,by decide,trivial⟩,trivial⟩
theorem Dx:bo [] ⟨17,0,emp,emp⟩ [emp,emp] [[⟨2,2,emp,emp⟩],[⟨2,3,emp,emp⟩]] = .ok (fc 5):=by
 unfold bo;rw [if_neg (by decide),if_neg (by decide)];simp only [fh];unfold j7;rw [if_neg (by decide),if_neg (by decide),if_neg (by decide),if_neg (by decide),if_neg (by decide),if_pos ⟨rfl,rfl⟩,if_neg (by decide),if_neg (by decide)];rfl
theorem pN{n:Nd}(h5:n.op≠5)(h6:n.op≠6):jC [] false (.node n .nil)= .node n .nil:=by
 have hl:∀m,jR m (.node n .nil)= .node n .nil:=λm=>by
  cases m with
  | zero=>rfl
  | succ m=>rw [jR];rfl
 rw [jC,zY];unfold kO;rw [hl,jN,if_pos (.inl ⟨rfl,h5,h6⟩)]
theorem Am:(jC [] false gv).flat=fc 5:=by
 have hl:∀m,jR m gv=gv:=λm=>by
  cases m with
  | zero=>rfl
  | succ m =>
   have:jW gv=none:=by
    unfold gv jW;simp only;rw [if_neg (by decide)]
   rw [jR,this]
 have hall:∀q∈exL (.cons (.node ⟨2,2,emp,emp⟩ .nil) (.cons (.node ⟨2,3,emp,emp⟩ .nil) .nil)),jK false (zN q)=true:=by
  intro q hq;simp only [exL,List.mem_cons,List.not_mem_nil,or_false] at hq;rcases hq with rfl|rfl
  all_goals
   unfold jK;rw [Bool.and_eq_true];exact⟨by decide +kernel,by decide +kernel⟩
 obtain⟨-,-,h3⟩:=uL gX (by decide) (by decide +kernel) (by decide) hall;obtain⟨y,hy,-,hf,-⟩:=h3 (fc 5) Dx;have e:jC [] false gv=y:=by
  show jC [] false (.node _ _)=y;rw [jC,zY,zY,zY,pN (by decide) (by decide),pN (by decide) (by decide)];show kO [] false gv=y;unfold kO;rw [hl];show(match jN [] false gv with|some r=>r|none=>gv)=y;rw [show jN [] false gv=some y from hy]
 rw [e,hf]
end Go.Proofs.YtokiogmfgpidmaaGreatDoor
namespace Go.Proofs.YtokiogmfgpidmaaGreatDoor
open Go.RowKit Go.Wk Go.Sort
theorem EH(A B:Option Addr)(n m c d:Nat)(P Q:List Nd)(e f:Int)(w:World)(h:Ns w A n c P)(k:Ns w B m d Q)(hg:aD w):
 Calls Tryz.prog 14 #[.slice A n c,jr e,.slice B m d,jr f] w λr w'=>r = .returned (.bool (decide (zC P Q=0)&& e==f))/\Below w.heap.size w w':=by
 have K1:=O (h.same k);have K2:=O (λw' hb=>BH e f w' (hg.keep (w':=w') hb));generalize decide (zC P Q=0)=p1 at *;generalize (e==f)=p2 at *;generalize jr e=ve at *;generalize jr f=vf at *;clear h k hg;go_enter Tryz.func14,Tryz.ntmps14;go_wp2_with fail;refine K1.o.mono ?_;rintro e w1 ⟨rfl,b1⟩;have B1:=O b1;clear b1 K1;go_wp2_with fail;refine(K2.o _ B1.o).mono ?_;rintro e w2 ⟨rfl,b2⟩;have B2:=bh B1 b2;clear b2 B1 K2;rcases p1 with _|_
 ·go_wp2_with fail;go_ret;exact⟨rfl,B2.o⟩
 ·go_wp2_with fail;go_ret;exact⟨rfl,B2.o⟩
theorem rx(n:Int)(w:World):Calls Tryz.prog 10 #[.int .i64 n] w λe w'=>e = .returned (.agg #[.int .i64 2,.int .i64 n,.string ⟨#[]⟩,.string ⟨#[]⟩])/\Below w.heap.size w w':=by
 go_enter Tryz.func10,Tryz.ntmps10;go_wp2_with fail;exact⟨rfl,.agg #[.int .i64 2,.int .i64 n,.string ⟨#[]⟩,.string ⟨#[]⟩],by simp [results,Tryz.results10,go_sem],rfl,zb w _⟩
theorem Jy(w:World)(P:List Nd)(t:TypeId)(h:P.length<=1000)(ho:au P):Ns (w.alloc (.cells (zT P).toArray t)) (some ⟨w.heap.size,0,none⟩) P.length P.length P :=
 ⟨rfl,Nat.le_refl _,by unfold maxLen;omega,yY w P t,ho⟩
theorem Hm(w:World):Ns (w.alloc (.cells #[.int .i64 17,.int .i64 0,.string ⟨#[]⟩,.string ⟨#[]⟩,.int .i64 2,.int .i64 2,.string ⟨#[]⟩,.string ⟨#[]⟩,.int .i64 2,.int .i64 3,.string ⟨#[]⟩,.string ⟨#[]⟩] 28)) (some ⟨w.heap.size,0,none⟩) 3 3 [Lj 17,⟨2,2,emp,emp⟩,⟨2,3,emp,emp⟩] :=
 Jy w [Lj 17,⟨2,2,emp,emp⟩,⟨2,3,emp,emp⟩] 28 (by decide) (by intro x hx;simp only [List.mem_cons,List.not_mem_nil,or_false] at hx;rcases hx with rfl|rfl|rfl <;> exact⟨by decide,by decide,by decide,by decide⟩)
theorem Fa{w:World}{b:Nat}{q:Rq}(h:Vq w b q):w.cell? ⟨b,0,none⟩=some (.string q.who.1)/\w.cell? ⟨b,1,none⟩=some (.string q.who.2)/\w.cell? ⟨b,2,none⟩=some (.string q.act.1)/\w.cell? ⟨b,3,none⟩=some (.string q.act.2)/\w.cell? ⟨b,4,none⟩=some (.string q.what.1)/\w.cell? ⟨b,5,none⟩=some (.string q.what.2)/\w.cell? ⟨b,6,none⟩=some (.slice q.NA q.nn q.nc):=
 ⟨h.c0,h.c1,h.c2,h.c3,h.c4,h.c5,h.c6⟩
theorem AZ(A B:Option Addr)(n m c d:Nat)(r s:Res)(w:World)(e:r=s)(h:Ns w A n c (Dj r))(k:Ns w B m d (Dj s))(hg:aD w):
 Calls Tryz.prog 14 #[.slice A n c,jr (FY r),.slice B m d,jr (FY s)] w λr w'=>r = .returned (.bool true)/\Below w.heap.size w w':=by
 subst e;refine(EH A B n m c d _ _ _ _ w h k hg).mono ?_;rintro e w' ⟨rfl,hb⟩;exact⟨by rw [decide_eq_true (show zC (Dj r) (Dj r)=0 from z7.self _)];simp,hb⟩
section
variable (a:Addr) (n c q:Nat) (xo xn:Int) (xs xt:ByteArray) (w:World) (hm:n<=maxLen) (hq:q<n) (d0:w.cell? (a.add (q*4))=some (.int .i64 xo)) (d1:w.cell? ⟨(a.add (q*4)).block,(a.add (q*4)).off+1,none⟩=some (.int .i64 xn)) (d2:w.cell? ⟨(a.add (q*4)).block,(a.add (q*4)).off+2,none⟩=some (.string xs)) (d3:w.cell? ⟨(a.add (q*4)).block,(a.add (q*4)).off+3,none⟩=some (.string xt))
include hm hq d0 d1 d2 d3
end
def RbC(P:List Nd)(A:Option Addr)(n c m:Nat):Prop:=∀(p:Nat) (w:World),Ns w A n c P->n-p<=m->
 Calls Tryz.prog 22 #[.slice A n c,.int .i64 p] w λe w'=>e = .returned (.int .i64 (ju P p false))/\Below w.heap.size w w'
theorem FS(P:List Nd)(A:Option Addr)(n c p:Nat)(w:World)(h:Ns w A n c P)(hp:n<=p):
 Calls Tryz.prog 22 #[.slice A n c,.int .i64 p] w λe w'=>e = .returned (.int .i64 (ju P p false))/\Below w.heap.size w w':=by
 have HR:=O (i7 (t:=P) (p:=p) (f:=false) (by rw [<-h.len];exact hp));have f0:decide (n<=p)=true:=decide_eq_true (by omega);have f1:decide ((p:Int)<0)=false:=decide_eq_false (by omega);clear h;go_enter Tryz.func22,Tryz.ntmps22;go_wp2_with fail;go_ret;exact⟨by rw [HR.o];rfl,Below.refl _ _⟩
theorem xP{t:List Nd}{s:ByteArray}{c p:Nat}{y:Nd}(h:t[p]?=some y):(¬(y.op=7/\jd y=true/\js s y.s<0)->j6 t (c+1) true s p = -1)/\
 (y.op=7/\jd y=true/\js s y.s<0->j6 t (c+1) true s p=if 0<=ju t (p+1) false then j6 t c true y.s (ju t (p+1) false).toNat else -1):=by
 rw [cj h,yf h];constructor
 ·intro hn;by_cases h1:js s y.s<0
  ·rw [if_neg (by simp [h1])];have h2:jA true y=false:=by
    unfold jA;by_cases hf:jd y=true
    ·rw [hf,Bool.true_and,decide_eq_false (λq=>hn ⟨q,hf,h1⟩)];rfl
    ·rw [show jd y=false by simpa using hf];rfl
   rw [if_neg (by simp [h2])]
   try rfl
  ·rw [if_pos ⟨rfl,h1⟩]
 ·rintro ⟨h1,h2,h3⟩;have h4:jA true y=true:=by unfold jA;rw [h2,decide_eq_true h1];rfl
  rw [if_neg (by simp [h3]),if_pos h4]
theorem Hq(P:List Nd)(m:Nat)(a:Addr)(n c q:Nat)(w:World)(ih:RbC P (some a) n c m)(fa:Ns w (some a) n c P)(hq:q<n)(hf:n-q<=m+1):
 Calls Tryz.prog 22 #[.slice (some a) n c,.int .i64 q] w λe w'=>e = .returned (.int .i64 (ju P q false))/\Below w.heap.size w w':=by
 have hm:=fa.max;unfold maxLen at hm;have vS:=O fa;have ow:=O fa.len;have Kb:q<P.length:=by rw [<-fa.len];exact hq
 have IP:=List.getElem?_eq_getElem Kb;have ee:=fa.ok _ (List.getElem_mem Kb);have IH:=O (λp w' (hp:q<p) hb=>ih p w' (fa.keep (w':=w') hb) (by omega));have CF:=O (λp (hp:p<P.length) w'=>nM P[p] w' (fa.ok _ (List.getElem_mem hp)));obtain⟨a',ea,d0,d1,d2,d3⟩:=fa.at_ q _ IP;injection ea with ea;subst ea;have CS:=O (nM P[q] w ee);have CP:=O (λw=>ck P[q] w);have hpl:=pO ee;obtain⟨x,hx⟩:∃x,x=P[q]:=⟨_,rfl⟩
 rw [<-hx] at IP ee d0 d1 d2 d3 CS CP hpl;have HX:=O IP;clear hx IP fa ih ee;have Ga:=O (show Nd4 w (a.add (q*4)) x from⟨d0,d1,d2,d3⟩);unfold ndV at CS CP CF;have f0:decide (n<=q)=false:=decide_eq_false (by omega);have f1:decide ((q:Int)<0)=false:=decide_eq_false (by omega);by_cases sK:jd x=true
 ·rw [sK] at CS;have HH:=O (uz (f:=false) sK);have Ms:=O (gw sK);clear sK;go_enter Tryz.func22,Tryz.ntmps22;go_wp2_with fail;refine CS.o.mono ?_;rintro e w1 ⟨rfl,b1⟩;have B1:=O b1;have Gn:=O (Ga.o.keep b1);obtain⟨e0,e1,e2,e3⟩:=Gn.o;clear b1 CS Ga d0 d1 d2 d3;have he:(x.op==7)=decide (x.op=7):=rfl;by_cases hh:x.op=7
  ·have HE:=O (show ju P q false = -1 from ft HX.o (by rw [HH.o,decide_eq_true hh];rfl));have f2:(x.op==7)=true:=beq_iff_eq.2 hh;clear hh he;go_wp2_with fail;go_ret;exact⟨by rw [HE.o];rfl,B1.o⟩
  ·have HE:=O (show ju P q false=j6 P (zt x).toNat (zP x) emp (q+1) from kg HX.o (by rw [HH.o,decide_eq_false hh];rfl));have f2:(x.op==7)=false:=beq_eq_false_iff_ne.2 hh;obtain⟨M,hM⟩:∃M:Nat,zt x=(M:Int):=⟨(zt x).toNat,by have:=Ms.o;omega⟩
   rw [hM] at CP hpl;rw [hM,Int.toNat_natCast] at HE;have B2:=O (B1.o.trans ((zb w1 (.cells #[.int .i64 x.op,.int .i64 x.n,.string x.s,.string x.t] 28)).mono B1.o.size));have V2:=O (FX w1 x 28);clear hh he hM HH Ms HX;go_wp2_with fail;go_loopw [1,6,7] (λu l i wr=>∃(k p:Nat) (last:ByteArray),u = .int .i64 p/\l = .string last/\i = .int .i64 k/\k<=M/\q<p/\p<=n/\Hid (last.size<=maxLen)/\Hid (ju P q false=j6 P (M-k) (zP x) last p)/\Hid (Below w.heap.size w wr)/\Hid (Vn wr w1.heap.size x)) (λ_ _ i _=>M-(intOf i).toNat)
   case atStart=>exact⟨0,q+1,⟨#[]⟩,by go_num,rfl,rfl,Nat.zero_le _,Nat.lt_succ_self _,hq,O (Nat.zero_le _),HE,B2,V2⟩
   case round =>
    clear Gn e0 e1 e2 e3 B1 B2 V2 HE;obtain⟨k,p,last,rfl,rfl,rfl,hk,MX,Gi,hLS,hF,hB,hV⟩:=hrel;obtain⟨v0,v1,v2,v3⟩:=hV.o;have HWR:=O (block_lt_of_cell v0);go_wp2_with fail;refine(CP.o _).mono ?_;rintro e w3 ⟨rfl,b3⟩;have B3:=bh hB b3;have V3:=O (hV.o.keep b3);clear b3 hB hV v0 v1 v2 v3 HWR;obtain⟨v0,v1,v2,v3⟩:=V3.o;by_cases hlt:k<M
    ·have g1:decide ((k:Int)<(M:Int))=true:=decide_eq_true (by omega);have HF:=O (show ju P q false=j6 P (M-(k+1)+1) (zP x) last p by rw [hF.o,show M-k=M-(k+1)+1 by omega]);clear hF;by_cases h6:x.op=6
     ·have hr:zP x=true:=by unfold zP;exact decide_eq_true h6
      rw [hr] at HF;have Ke:=O hr;have g2:(x.op==6)=true:=beq_iff_eq.2 h6;clear hr h6;by_cases hpn2:p<n
      ·have hpl:p<P.length:=by rw [<-ow.o];exact hpn2
       have g3:decide (n<=p)=false:=decide_eq_false (by omega);obtain⟨a',ea,e0,e1,e2,e3⟩:=(vS.o.keep B3.o).at_ p _ (List.getElem?_eq_getElem hpl);injection ea with ea;subst ea;have Kz:=O (vS.o.ok _ (List.getElem_mem hpl)).s;have HN:=O (xP (s:=last) (c:=M-(k+1)) (List.getElem?_eq_getElem hpl));have CY:=O (CF.o p hpl);have V2:=O (λw=>Cl last P[p].s w hLS.o Kz.o);obtain⟨y,hy⟩:∃y,y=P[p]:=⟨_,rfl⟩
       rw [<-hy] at e0 e1 e2 e3 Kz HN CY V2;clear hy;have HYE:=O (show Nd4 w3 (a.add (p*4)) y from⟨e0,e1,e2,e3⟩);by_cases h7:y.op=7
       ·have g4:(y.op != 7)=false:=by rw [bne_eq_false_iff_eq];exact h7
        by_cases J9:jd y=true
        ·rw [J9] at CY;by_cases hc:0<=js last y.s
         ·have py:=O (show ju P q false = -1 by rw [HF.o,HN.o.1 (λ⟨_,_,h⟩=>by omega)]);have g5:decide (0<=js last y.s)=true:=decide_eq_true hc;clear hc J9 h7 HN;generalize js last y.s=cc at *;go_wp2_with fail;refine(CY.o _).mono ?_;rintro e w4 ⟨rfl,b4⟩;have B4:=bh B3 b4;obtain⟨y0,y1,y2,y3⟩:=(HYE.o.keep b4)
          clear b4 e0 e1 e2 e3 v0 v1 v2 v3 V3;go_wp2_with fail;refine(V2.o _).mono ?_;rintro e w5 ⟨rfl,b5⟩;have B5:=bh B4 b5;go_wp2_with fail;go_ret;exact⟨by rw [py.o];rfl,B5.o⟩
         ·have Gl:=O (HF.o.trans (HN.o.2 ⟨h7,J9,by omega⟩));have g5:decide (0<=js last y.s)=false:=decide_eq_false hc;clear hc J9 h7 HN HF;generalize js last y.s=cc at *;go_wp2_with fail;refine(CY.o _).mono ?_;rintro e w4 ⟨rfl,b4⟩;have B4:=bh B3 b4;have Y4:=O (HYE.o.keep b4);obtain⟨y0,y1,y2,y3⟩:=Y4.o;have V4:=O (V3.o.keep b4);clear b4 e0 e1 e2 e3 v0 v1 v2 v3 V3;go_wp2_with fail;refine(V2.o _).mono ?_;rintro e w5 ⟨rfl,b5⟩;have B5:=bh B4 b5;have Y5:=O (Y4.o.keep b5);have V5:=O (V4.o.keep b5);clear b5 Y4 V4 y0 y1 y2 y3;obtain⟨y0,y1,y2,y3⟩:=Y5.o;obtain⟨v0,v1,v2,v3⟩:=V5.o;go_wp2_with fail;refine(IH.o (p+1) _ (by omega) B5.o).mono ?_;rintro e w6 ⟨rfl,b6⟩;have B6:=bh B5 b6;have V6:=O (V5.o.keep b6);clear b6 Y5 V5 y0 y1 y2 y3 v0 v1 v2 v3;by_cases hk0:0<=ju P (p+1) false
          ·obtain⟨e',he,NP,CU⟩:=iu hk0;have vT:=O (show ju P q false=j6 P (M-(k+1)) (zP x) y.s e' by
            have h1:=Gl.o
            rw [if_pos hk0,he,Int.toNat_natCast] at h1
            rw [h1,Ke.o])
           have hen:e'<=n:=by rw [ow.o];exact CU
           have g6:decide ((e':Int)<0)=false:=decide_eq_false (by omega);rw [he];clear hk0 he CU;go_wp2_with fail;go_roundw
           case rel=>exact⟨k+1,e',y.s,rfl,rfl,by go_num,hlt,by omega,hen,Kz,vT,B6,V6⟩
           case measure=>simp [intOf];omega
          ·have py:=O (show ju P q false = -1 by rw [Gl.o,if_neg hk0]);rw [fH hk0];clear hk0;go_wp2_with fail;go_ret;exact⟨by rw [py.o];rfl,B6.o⟩
        ·have py:=O (show ju P q false = -1 by rw [HF.o,HN.o.1 (λ⟨_,h,_⟩=>J9 h)]);rw [show jd y=false by simpa using J9] at CY;clear J9 h7 HN;go_wp2_with fail;refine(CY.o _).mono ?_;rintro e w4 ⟨rfl,b4⟩;have B4:=bh B3 b4;clear b4;go_wp2_with fail;go_ret;exact⟨by rw [py.o];rfl,B4.o⟩
       ·have py:=O (show ju P q false = -1 by rw [HF.o,HN.o.1 (λ⟨h,_,_⟩=>h7 h)]);have g4:(y.op != 7)=true:=by rw [bne_iff_ne];exact h7
        clear h7 HN;go_wp2_with fail;go_ret;exact⟨by rw [py.o];rfl,B3.o⟩
      ·have py:=O (show ju P q false = -1 by rw [HF.o,cX (by rw [<-ow.o];omega)]);have g3:decide (n<=p)=true:=decide_eq_true (by omega);go_wp2_with fail;go_ret;exact⟨by rw [py.o];rfl,B3.o⟩
     ·have hr:zP x=false:=by unfold zP;exact decide_eq_false h6
      have Ke:=O hr;have g2:(x.op==6)=false:=beq_eq_false_iff_ne.2 h6;have Gl:=O (HF.o.trans ((congrArg (λb=>j6 P (M-(k+1)+1) b last p) hr).trans kT));clear hr HF h6;go_wp2_with fail;refine(IH.o p _ MX B3.o).mono ?_;rintro e w6 ⟨rfl,b6⟩;have B6:=bh B3 b6;have V6:=O (V3.o.keep b6);clear b6 V3 v0 v1 v2 v3;by_cases hk0:0<=ju P p false
      ·obtain⟨e',he,NP,CU⟩:=iu hk0;have vT:=O (show ju P q false=j6 P (M-(k+1)) (zP x) last e' by
        have h1:=Gl.o
        rw [if_pos hk0,he,Int.toNat_natCast] at h1
        rw [h1,Ke.o])
       have hen:e'<=n:=by rw [ow.o];exact CU
       have g6:decide ((e':Int)<0)=false:=decide_eq_false (by omega);rw [he];clear hk0 he CU;go_wp2_with fail;go_roundw
       case rel=>exact⟨k+1,e',last,rfl,rfl,by go_num,hlt,by omega,hen,hLS,vT,B6,V6⟩
       case measure=>simp [intOf];omega
      ·have py:=O (show ju P q false = -1 by rw [Gl.o,if_neg hk0]);rw [fH hk0];clear hk0;go_wp2_with fail;go_ret;exact⟨by rw [py.o];rfl,B6.o⟩
    ·have aC:=O (show ju P q false=(p:Int) by
      rw [hF.o,show M-k=0 by omega]
      exact gu (by rw [<-ow.o];exact Gi))
     have g1:decide ((k:Int)<(M:Int))=false:=decide_eq_false (by omega);clear hF;go_wp2_with fail;go_ret;exact⟨by rw [aC.o];rfl,B3.o⟩
 ·have sK:jd x=false:=by simpa using sK
  rw [sK] at CS;have HE:=O (show ju P q false = -1 from ft HX.o (vx sK));clear sK;go_enter Tryz.func22,Tryz.ntmps22;go_wp2_with fail;refine CS.o.mono ?_;rintro e w1 ⟨rfl,b1⟩;have B1:=O b1;clear b1 CS Ga d0 d1 d2 d3;go_wp2_with fail;go_ret;exact⟨by rw [HE.o];rfl,B1.o⟩
theorem k7(P:List Nd)(A:Option Addr)(n c:Nat):∀m,RbC P A n c m
 | 0=>λp w h hm=>FS P A n c p w h (by omega)
 | m+1=>λp w h hm=>by
  by_cases hp:p<n
  ·rcases A with _|a
   ·have:=h.at_ p _ (List.getElem?_eq_getElem (by rw [<-h.len];exact hp));obtain⟨a,e,-⟩:=this;cases e
   ·exact Hq P m a n c p w (k7 P (some a) n c m) h hp hm
  ·exact FS P A n c p w h (by omega)
theorem Ch(A:Option Addr)(n c:Nat)(P:List Nd)(w:World)(h:Ns w A n c P):
 Calls Tryz.prog 12 #[.slice A n c] w λe w'=>e = .returned (.int .i64 (jc P))/\Below w.heap.size w w':=by
 have hl:=h.len;by_cases bX:200<n
 ·have HR:=O (show jc P=4 by unfold jc;rw [if_pos (by omega)]);have f0:decide ((200:Int)<(n:Int))=true:=decide_eq_true (by omega);clear h hl;go_enter Tryz.func12,Tryz.ntmps12;go_wp2_with fail;go_ret;exact⟨by rw [HR.o];rfl,Below.refl _ _⟩
 ·have C:=O (k7 P A n c n 0 w h (by omega));have f0:decide ((200:Int)<(n:Int))=false:=decide_eq_false (by omega);have HR:=O (show jc P=if(fi P).isSome then 0 else 1 by unfold jc;rw [if_neg (by omega)]);have HA:=O (tU (t:=P));rw [<-hl] at HA;clear h hl bX;generalize ju P 0 false=r at *;go_enter Tryz.func12,Tryz.ntmps12;go_wp2_with fail;refine C.o.mono ?_;rintro e w1 ⟨rfl,b1⟩;have B1:=O b1;clear b1 C;by_cases hr:r=(n:Int)
  ·have HE:=O (show jc P=0 by rw [HR.o,if_pos (HA.o.1 hr)]);have f1:(r !=(n:Int))=false:=by rw [bne_eq_false_iff_eq];exact hr
   clear hr;go_wp2_with fail;go_ret;exact⟨by rw [HE.o];rfl,B1.o⟩
  ·have HE:=O (show jc P=1 by rw [HR.o,if_neg (λq=>hr (HA.o.2 q))]);have f1:(r !=(n:Int))=true:=by rw [bne_iff_ne];exact hr
   clear hr;go_wp2_with fail;go_ret;exact⟨by rw [HE.o];rfl,B1.o⟩
theorem xp(w:World)(hg:aD w):Calls Tryz.prog 5 #[.slice (some ⟨w.heap.size,0,none⟩) 3 3] (w.alloc (.cells #[.int .i64 17,.int .i64 0,.string ⟨#[]⟩,.string ⟨#[]⟩,.int .i64 2,.int .i64 2,.string ⟨#[]⟩,.string ⟨#[]⟩,.int .i64 2,.int .i64 3,.string ⟨#[]⟩,.string ⟨#[]⟩] 28)) λe w' =>
 ∃A n c,e = .returned (.tuple #[.slice A n c,.nilIface])/\Ns w' A n c (fc 5)/\Below w.heap.size w w':=by
 have b:=zb w (.cells #[.int .i64 17,.int .i64 0,.string ⟨#[]⟩,.string ⟨#[]⟩,.int .i64 2,.int .i64 2,.string ⟨#[]⟩,.string ⟨#[]⟩,.int .i64 2,.int .i64 3,.string ⟨#[]⟩,.string ⟨#[]⟩] 28);refine(kY yK (some ⟨w.heap.size,0,none⟩) 3 3 gv.flat _ (Hm w) (hg.keep b)).mono ?_;rintro e w' ⟨A,n,c,rfl,hN,b'⟩;have h:=hN gv gX rfl (by decide);rw [Am] at h;exact⟨A,n,c,by rw [show jc gv.flat=0 from jO.2 ⟨by decide,gv,gX,rfl⟩,zk],h,b.trans (b'.mono b.size)⟩
theorem oH(A0:Option Addr)(n0 c0:Nat)(E:List En)(q:Rq)(A2:Option Addr)(n2 c2:Nat)(P2:List Nd)(w:World)(hE:Es w A0 n0 c0 E)(hq:oV w q)(h2:Ns w A2 n2 c2 P2)(hg:aD w):
 Calls Tryz.prog 4 #[.slice A0 n0 c0,q.v,.slice A2 n2 c2] w λe w'=>e = .returned (.bool true)/\Below w.heap.size w w':=by
 have HVl:=O (λ(A:Option Addr) (n c:Nat) (P:List Nd) (w':World) (hb:Below w.heap.size w w') (hP:Ns w' A n c P)=>wO A0 n0 c0 E q A n c P w' (hE.keep hb) (hq.keep hb) hP (hg.keep hb));have C2:=O (λw' (hb:Below w.heap.size w w')=>kY yK A2 n2 c2 P2 w' (h2.keep hb) (hg.keep hb));have R2:=O (λw' (hb:Below w.heap.size w w')=>Ch A2 n2 c2 P2 w' (h2.keep hb));have HG:=O hg;have H2:=O h2;have W0:=O (xH w q 38);have B0:=O (zb w (.cells #[.string q.who.1,.string q.who.2,.string q.act.1,.string q.act.2,.string q.what.1,.string q.what.2,.slice q.NA q.nn q.nc] 38));unfold Rq.v at HVl ⊢;unfold cu at HVl;unfold l8 at C2;clear hE hq h2 hg;go_enter Tryz.func4,Tryz.ntmps4;go_wp2_with fail;refine(rx 2 _).mono ?_;rintro e w1 ⟨rfl,b1⟩;have B1:=bh B0 b1;have W1:=O (W0.o.keep b1);clear b1 B0 W0;go_wp2_with fail;refine(rx 3 w1).mono ?_;rintro e w2 ⟨rfl,b2⟩;have B2:=bh B1 b2;have W2:=O (W1.o.keep b2);clear b2 B1 W1;go_wp2_with fail;refine(xp w2 (HG.o.keep B2.o)).mono ?_;rintro e w3 ⟨A3,n3,c3,rfl,hN3,b3⟩;have B3:=bh B2 b3;have W3:=O (W2.o.keep b3);have N3:=O hN3;clear b3 B2 W2 hN3;go_wp2_with fail;refine(rx 5 w3).mono ?_;rintro e w4 ⟨rfl,b4⟩;have B4:=bh B3 b4;have W4:=O (W3.o.keep b4);have N4:=O (N3.o.keep b4);clear b4 B3 W3 N3;go_wp2_with fail;have b5:=zb w4 (.cells #[.int .i64 2,.int .i64 5,.string ⟨#[]⟩,.string ⟨#[]⟩] 28);have B5:=bh B4 b5;have W5:=O (W4.o.keep b5);have K2:=O ((N4.o.keep b5).same (ru w4 ⟨2,5,emp,emp⟩ ⟨by decide,by decide,by decide,by decide⟩));rw [decide_eq_true (show zC (fc 5) [⟨2,5,emp,emp⟩]=0 from z7.self _)] at K2;clear b5 B4 W4 N4;refine K2.o.mono ?_;rintro e w6 ⟨rfl,b6⟩;have B6:=bh B5 b6;have W6:=O (W5.o.keep b6);clear b6 B5 W5 K2;go_wp2_with fail;refine(C2.o _ B6.o).mono ?_;rintro e w7 ⟨A7,n7,c7,rfl,hN7,b7⟩;have B7:=bh B6 b7;have W7:=O (W6.o.keep b7);have N7:=O hN7;clear b7 B6 W6 C2 hN7;go_wp2_with fail;refine(R2.o _ B7.o).mono ?_;rintro e w8 ⟨rfl,b8⟩;have B8:=bh B7 b8;have W8:=O (W7.o.keep b8);have Q8:=O b8;clear b8 W7 R2;go_wp2_with fail;refine(wR (jc P2) (jc P2) _ (HG.o.keep B8.o)).mono ?_;rintro e w9 ⟨rfl,b9⟩;have B9:=bh B8 b9;have W9:=O (W8.o.keep b9);have Q9:=bh Q8 b9;clear b9 B8 W8 Q8;rw [beq_self_eq_true];by_cases q2:jc P2=0
 case neg =>
  rw [zn q2];clear q2;go_wp2_with fail;go_ret;exact⟨rfl,B9.o⟩
 rw [q2,zk];obtain⟨hl,x,hv,e⟩:=jO.1 q2;have M:=O (show ct ⟨E,q.who,q.act,q.what,q.P⟩ P2=ct ⟨E,q.who,q.act,q.what,q.P⟩ (jC [] false x).flat by rw [e];exact(Ct _ hv (e ▸ hl)).symm);have F:=Jc hv (e ▸ hl);have N9:=O ((N7.o x hv e hl).keep Q9.o);have HF:=O F.2;have Mi:=O (show n7<=n2 by rw [N9.o.len,H2.o.len,e];exact F.1);generalize (jC [] false x).flat=P7 at *;clear e F hv x hl q2 N7 B7 Q9;obtain⟨s0,s1,s2,s3,s4,s5,s6⟩:=Fa W9.o;go_wp2_with fail;refine(HVl.o A2 n2 c2 P2 _ B9.o (H2.o.keep B9.o)).mono ?_;rintro e w10 ⟨A10,n10,c10,rfl,hN10,b10⟩;have Oq:=bh B9 b10;have W10:=O (W9.o.keep b10);have Gv:=O hN10;have OG:=O (N9.o.keep b10);clear b10 B9 W9 N9 hN10 s0 s1 s2 s3 s4 s5 s6;obtain⟨s0,s1,s2,s3,s4,s5,s6⟩:=Fa W10.o;go_wp2_with fail;refine(HVl.o A7 n7 c7 P7 _ Oq.o OG.o).mono ?_;rintro e w11 ⟨A11,n11,c11,rfl,hN11,b11⟩;have Ox:=bh Oq b11;have Jm:=O hN11;have O11:=O (Gv.o.keep b11);have M11:=O (OG.o.keep b11);clear b11 Oq W10 Gv OG hN11 s0 s1 s2 s3 s4 s5 s6;go_wp2_with fail;refine(AZ A10 A11 n10 n11 c10 c11 _ _ w11 M.o O11.o Jm.o (HG.o.keep Ox.o)).mono ?_;rintro e w12 ⟨rfl,b12⟩;have Lc:=bh Ox b12;have M12:=O (M11.o.keep b12);clear b12 Ox Jm O11 M11;have hle:(n7:Int)<=(n2:Int):=by have:=Mi.o;omega
 have K3:=O (de A7 n7 c7 P7 w12 M12.o);rw [HF.o,zk] at K3;go_wp2_with fail;refine K3.o.mono ?_;rintro e w13 ⟨rfl,b13⟩;have B13:=bh Lc b13;clear b13 Lc M12 K3;go_wp2_with fail;go_ret;exact⟨rfl,B13.o⟩
end Go.Proofs.YtokiogmfgpidmaaGreatDoor
