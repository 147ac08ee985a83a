/-
  fold's worth: the walk of the loop over the parts, and what comes behind it. ..
-/
import Derived.Deep.DeepCutAuto
import Derived.Test.YtokiogmfgpidmaaGreatDoorD15
import Derived.Test.YtokiogmfgpidmaaGreatDoorD38
set_option maxRecDepth 100000
set_option maxHeartbeats 16000000
namespace Go.Proofs.YtokiogmfgpidmaaGreatDoor
open Go.RowKit Go.Wk Go.Sort
theorem zhy(nd:Nd)(ps:Exs)(A:Option Addr)(c:Nat)(w:World)(B:Nat->Prop)(hB:∀b,B b->b<w.heap.size)(hvx:(Ex.node nd ps).valid false)(hl:(Ex.node nd ps).flat.length<=200)(hx:PAt w B (.node nd ps) [.int .i64 nd.op,.int .i64 nd.n,.string nd.s,.string nd.t,.slice A ps.len c])(hno:Kb nd)(hp:lV w B A 0 ps)(hk:¬((ps.len=0/\nd.op≠5/\nd.op≠6)\/nd.op=7))(hv:zc (Ex.node nd ps).flat≠0)(hd:CQ w):
 Calls Tryz.prog 35 #[.agg #[.slice none 0 0,.bool false],.agg #[.int .i64 nd.op,.int .i64 nd.n,.string nd.s,.string nd.t,.slice A ps.len c]] w (P8 w B (.node nd ps)):=by
 obtain⟨i0,hi,hz0,hz1,hz2⟩:=info_parts ML;obtain⟨j0,hj,jz0,jz1,jz2⟩:=info_parts OC;have SX:=O (PAt.ok _ _ hx);have HL:=O hl;have HV:=O hv;have QK:=O hB;have HD:=O hd;have HK:=O hp;have Tj:=O hno.s;have HNO:=O (λh=>zh5 (n:=nd) (ps:=ps) h);have HON:=O (λc3 hall=>zbv hvx hk hv c3 hall);have HSH:=O (λc3=>zg3 hvx hk c3);have HPT:=O (show nd.op=6->∀y∈exL ps,y.valid true from λh=>Kl (by have h3:=hvx.2.2;rwa [show zB nd=true from decide_eq_true h] at h3));have HPF:=O (show nd.op≠6->∀y∈exL ps,y.valid false from λh=>Kl (by have h3:=hvx.2.2;rwa [show zB nd=false from decide_eq_false h] at h3));have HPL:=O (show∀y∈exL ps,y.flat.length<=200 from λy hy=>Nat.le_trans (Pj ps y hy) (by rw [Ex.flat,List.length_cons] at hl;omega));have hml:ps.len<=200:=Nat.le_trans (gY ps) (by rw [Ex.flat,List.length_cons] at hl;omega);have h7:nd.op≠7:=λe=>hk (.inr e);have hm0:ps.len≠0\/(ps.len=0/\nd.op=5)\/(ps.len=0/\nd.op=6):=by
  by_cases h0:ps.len=0
  ·by_cases h5:nd.op=5
   ·exact .inr (.inl ⟨h0,h5⟩)
   ·by_cases h6:nd.op=6
    ·exact .inr (.inr ⟨h0,h6⟩)
    ·exact(hk (.inl ⟨h0,h5,h6⟩)).elim
  ·exact .inl h0
 have HM:=O (J' ps);obtain⟨xx,hxx⟩:∃xx,xx=Ex.node nd ps:=⟨_,rfl⟩
 rw [<-hxx] at SX HL HV HNO HON hx ⊢;clear hxx hk hl hv hvx hno hp hd;obtain⟨o,n,s,t⟩:=nd;dsimp only at hx h7 hm0 HNO HON HSH HPT HPF Tj ⊢;obtain⟨m,hm⟩:∃m,m=ps.len:=⟨_,rfl⟩
 rw [<-hm] at hx hm0 hml HM HSH ⊢;clear hm;have b0:=zb w (.cells #[.slice none 0 0,.bool false] 53);have b1:=zb (w.alloc (.cells #[.slice none 0 0,.bool false] 53)) (.cells #[.int .i64 o,.int .i64 n,.string s,.string t,.slice A m c] 49);have b2:=zb ((w.alloc (.cells #[.slice none 0 0,.bool false] 53)).alloc (.cells #[.int .i64 o,.int .i64 n,.string s,.string t,.slice A m c] 49)) (.cells #[.int .i64 0,.int .i64 0,.string ⟨#[]⟩,.string ⟨#[]⟩,.slice none 0 0] 49);have B3:=O (b0.trans ((b1.trans (b2.mono b1.size)).mono b0.size));have B12:=b1.trans (b2.mono b1.size);have x1:=jR (w.alloc (.cells #[.slice none 0 0,.bool false] 53)) (.int .i64 o) (.int .i64 n) (.string s) (.string t) (.slice A m c) 49;have x2:=jR ((w.alloc (.cells #[.slice none 0 0,.bool false] 53)).alloc (.cells #[.int .i64 o,.int .i64 n,.string s,.string t,.slice A m c] 49)) (.int .i64 0) (.int .i64 0) (.string ⟨#[]⟩) (.string ⟨#[]⟩) (.slice none 0 0) 49;rw [show(w.alloc (.cells #[.slice none 0 0,.bool false] 53)).heap.size=w.heap.size+1 by simp] at x1;rw [show((w.alloc (.cells #[.slice none 0 0,.bool false] 53)).alloc (.cells #[.int .i64 o,.int .i64 n,.string s,.string t,.slice A m c] 49)).heap.size=w.heap.size+2 by simp] at x2;have L3:=O (show WLp w (((w.alloc (.cells #[.slice none 0 0,.bool false] 53)).alloc (.cells #[.int .i64 o,.int .i64 n,.string s,.string t,.slice A m c] 49)).alloc (.cells #[.int .i64 0,.int .i64 0,.string ⟨#[]⟩,.string ⟨#[]⟩,.slice none 0 0] 49)) o n s t A m c (.slice none 0 0) (.slice none 0 0) [] [] from
  ⟨za B12 (E3 w _ _ 0 rfl),za B12 (E3 w _ _ 1 rfl),x1.keep b2,x2,⟨zX.nil _ _,World.ownsRow_nil _ _ _ 1,.inl rfl,(by intro r hr;cases hr)⟩,B3.o,by simp⟩)
 have KF:=O (zbK xx _ (((w.alloc (.cells #[.slice none 0 0,.bool false] 53)).alloc (.cells #[.int .i64 o,.int .i64 n,.string s,.string t,.slice A m c] 49)).alloc (.cells #[.int .i64 0,.int .i64 0,.string ⟨#[]⟩,.string ⟨#[]⟩,.slice none 0 0] 49)) B HL.o (PAt.cong (λb hb=>B3.o.block b (hB b hb)) _ _ hx) (λb hb=>Nat.lt_of_lt_of_le (hB b hb) B3.o.size));have X1:=O (x1.keep b2);clear b0 b1 b2 B12 x1 x2 hx hB;have e7:(o==7)=false:=by simp [h7]
 have three:((m:Int)==0)=false\/(((m:Int)==0)=true/\(o != 5)=false)\/(((m:Int)==0)=true/\(o != 5)=true/\(o != 6)=false):=by
  rcases hm0 with h|⟨h1,h2⟩|⟨h1,h2⟩
  ·exact .inl (by simp [h])
  ·exact .inr (.inl ⟨by simp [h1],by simp [h2]⟩)
  ·exact .inr (.inr ⟨by simp [h1],by simp [h2],by simp [h2]⟩)
 clear hm0 h7;go_enter Tryz.func35,Tryz.ntmps35;go_upto_region 1 with fail;go_cut [42] from 15 (λv wx=>v = .bool false/\Hid (WLp w wx o n s t A m c (.slice none 0 0) (.slice none 0 0) [] []))
 case first =>
  rcases three with em|⟨em,e5⟩|⟨em,e5,e6⟩
  all_goals
   go_wp2_with fail;refine KF.o.mono ?_;rintro e w4 ⟨a4,n4,c4,rfl,ON,-,b4⟩;have K4:=O (Mi (some a4) n4 c4 _ w4 ON.len ON.cap ON.max ON.at_ ON.ok);rw [zy HV.o] at K4;have L4:=O (L3.o.keep b4);clear ON b4 KF;go_wp2_with fail;refine K4.o.mono ?_;rintro e w5 ⟨rfl,b5⟩;have L5:=O (L4.o.keep b5);clear b5 K4 L4 L3 X1 B3;go_wp2_with fail;go_meet;exact⟨rfl,L5⟩
 case rest =>
  obtain⟨rfl,L5⟩:=hcut;clear three KF L3 X1 B3 e7;obtain⟨x0,x1,x2,x3,x4,-,-,-,-,-⟩:=L5.o.X1;go_wp2_with fail;clear x0 x1 x2 x3 x4;go_loopw [6,7,47] (λnv v i wr=>∃(k:Nat) (V:List Sl) (N:List ByteArray),i = .int .i64 k/\k<=m/\V.length=k/\N.length<=k/\Hid (V.map Sl.P=((exL ps).take k).map zP)/\Hid (o=6->N=((exL ps).take k).map λq=>q.head.s)/\Hid (∀z∈N,z.size<=maxLen)/\Hid (∀q∈(exL ps).take k,eZ false (zP q)=true)/\Hid (WLp w wr o n s t A m c nv v V N)) (λ_ _ i _=>m-(intOf i).toNat)
  case atStart=>exact⟨0,[],[],rfl,Nat.zero_le _,rfl,Nat.le_refl _,O rfl,O (λ_=>rfl),O (λz hz=>nomatch hz),O (λq hq=>by simp at hq),L5⟩
  case round =>
   clear L5;obtain⟨k,V,N,rfl,hkm,hVl,hNl,ZH,hNs,hNz,hW,hL⟩:=hrel;by_cases hlt:k<m
   ·have VG:k<(exL ps).length:=by rw [HM.o];exact hlt
    have HOLD:=O (show∀b,B b->wr.heap[b]?=w.heap[b]? from λb hb=>hL.o.G.block b (QK.o b hb));obtain⟨a,u,rfl,hBa,hr,hx⟩:=lV.at ps A 0 (lV.cong HOLD.o ps A 0 HK.o) k _ (List.getElem?_eq_getElem VG);rw [Nat.zero_add] at hr;have Lc:=O (List.take_succ_eq_append_getElem VG);have VI:=O (List.getElem_mem VG);obtain⟨y,hy⟩:∃y,y=(exL ps)[k]:=⟨_,rfl⟩
    rw [<-hy] at hx Lc VI;clear hy;have HX:=O hx;obtain⟨hn,qs⟩:=y;rw [PAt] at hx;obtain⟨hno,A',c',rfl,-⟩:=hx;have RF:=O hno.s;obtain⟨l,hl⟩:∃l,l=qs.len:=⟨_,rfl⟩
    rw [<-hl] at hr HX;clear hl;have q0:wr.cell? (a.add (k*5))=some (.int .i64 hn.op):=hr 0 _ rfl;have q1:wr.cell? ⟨(a.add (k*5)).block,(a.add (k*5)).off+1,none⟩=some (.int .i64 hn.n):=by rw [Z8 _ _ _ (by decide)];exact hr 1 _ rfl
    have q2:wr.cell? ⟨(a.add (k*5)).block,(a.add (k*5)).off+2,none⟩=some (.string hn.s):=by rw [Z8 _ _ _ (by decide)];exact hr 2 _ rfl
    have q3:wr.cell? ⟨(a.add (k*5)).block,(a.add (k*5)).off+3,none⟩=some (.string hn.t):=by rw [Z8 _ _ _ (by decide)];exact hr 3 _ rfl
    have q4:wr.cell? ⟨(a.add (k*5)).block,(a.add (k*5)).off+4,none⟩=some (.slice A' l c'):=by rw [Z8 _ _ _ (by decide)];exact hr 4 _ rfl
    have Ba:=zb wr (.cells #[.int .i64 hn.op,.int .i64 hn.n,.string hn.s,.string hn.t,.slice A' l c'] 49);have hwb:∀b,B b->b<wr.heap.size:=λb hb=>Nat.lt_of_lt_of_le (QK.o b hb) hL.o.G.size;have KC:=O (zbK (.node hn qs) _ (wr.alloc (.cells #[.int .i64 hn.op,.int .i64 hn.n,.string hn.s,.string hn.t,.slice A' l c'] 49)) B (HPL.o _ VI.o) (PAt.cong (λb hb=>Ba.block b (hwb b hb)) _ _ HX.o) (λb hb=>Nat.lt_of_lt_of_le (hwb b hb) Ba.size));have BA:=O Ba;have XA:=O (jR wr (.int .i64 hn.op) (.int .i64 hn.n) (.string hn.s) (.string hn.t) (.slice A' l c') 49);clear Ba hwb hr hBa HOLD;go_wp2_with fail;refine KC.o.mono ?_;rintro e w6 ⟨a6,n6,c6,rfl,hN6,hb6,b6⟩;have L6:=O (hL.o.keep (BA.o.trans (b6.mono BA.o.size)));have X6:=O (XA.o.keep b6);have N6:=O hN6;have HA6:=O (show wr.heap.size<a6.block by have:=Nat.le_trans (show wr.heap.size+1<=_ from by simp) hb6;exact this);have HSV:=O (show∀g,u6.ownBlock=some g->g<wr.heap.size from JL hL.o.T.b);have VO:=O (show∀g,u7.ownBlock=some g->g<wr.heap.size from JL hL.o.T.a.own);clear hN6 hb6 b6 KC q0 q1 q2 q3 q4 BA XA HX hL;obtain⟨x0,x1,x2,x3,x4,-,-,-,-,-⟩:=X6.o;by_cases h6:o=6
    case' pos =>
     obtain⟨h7,hh,rr,hf,hs,hne,hpv⟩:=zb0 (HPT.o h6 _ VI.o);have e9:(hn.op==7)=true:=by rw [beq_iff_eq];exact h7
     rw [Ex.flat] at hf N6;injection hf with hf1 hf2;subst hf1 hf2;have HPV:=O hpv;have hl6:=N6.o.len;have hc6:=N6.o.cap;rw [List.length_cons] at hl6;have hpq:0<qs.flat.length:=List.length_pos_iff.2 hne;have f1:(1:Int)<=(n6:Int):=by omega
     have f2:¬c6=1:=by omega
     have f3:1<=n6:=by omega
     have f4:n6<=c6:=hc6;have hl7:n6-1=qs.flat.length:=by omega
     have HL7:=O hl7;clear h7 hne hpv hs hl6 hc6 hpq hl7 h6;go_wp2_with (at_builtin;refine wpList_append_own_at _ rfl _ _ 85 rfl (w.heap.size+3) 9 j0 _ 1 16 Tryz.underlying85 hj jz0 jz1 jz2 rfl (by decide) _ N.length (N.map Value.string) rfl (L6.o.T.b.alloc _) ⟨_,0,none⟩ 1 1 [.string hn.s] rfl rfl (cell_one_new _ _ _) (by intro u hu;simp only [List.mem_cons,List.not_mem_nil,or_false] at hu;subst hu;rfl) ?c1 ?c2 ?c3 ?_)
     case' c1=>unfold maxLen;omega
     case' c2=>omega
     case' c3=>have:=L6.o.z;simp;omega
     intro v8 w8 hown hgrow _ hat;have T8:=O (L6.o.T.name (s:=hn.s) hown hgrow (by simpa using hat));have L8:=O ((L6.o.keep (zb w6 _)).row hgrow (λg hg=>zR L6.o.T.b g hg) T8.o);have h6l:a6.block<w6.heap.size:=N6.o.at_.lt (by simp) a6 rfl;have N7:=(N6.o.keep (zb w6 (.cells #[.string hn.s] 9)))
     have AP:=(show td ⟨some a6,n6,c6,hn :: qs.flat⟩ u6.ownBlock from λ_ a e q=>by
      injection e with e
      subst e
      have h1:=HSV.o _ q
      have h2:=HA6.o
      omega)
     have N9:=Ns.row (r:=⟨some a6,n6,c6,hn :: qs.flat⟩) N7 hgrow AP;have N8:=O (show Ns w8 (some (a6.add 4)) (n6-1) (c6-1) (zP (.node hn qs)) from by
      rw [HPV.o]
      exact zdj (U := [hn]) (V:=qs.flat) (R := []) (by rw [List.append_nil];exact N9) HL7.o rfl)
     have AP8:=O (show td ⟨some (a6.add 4),n6-1,c6-1,zP (.node hn qs)⟩ u7.ownBlock from λ_ a e q=>by
      injection e with e
      subst e
      have h1:=VO.o _ q
      have h2:=HA6.o
      rw [vW] at h1
      omega)
     have AQ8:=O (show td ⟨some (a6.add 4),n6-1,c6-1,zP (.node hn qs)⟩ v8.ownBlock from λ_ a e q=>by
      injection e with e
      subst e
      rw [vW] at q
      rcases hat with h|h
      ·rw [h] at q
       have h1:=HSV.o _ q
       have h2:=HA6.o
       omega
      ·rw [h] at q
       injection q with q
       first|omega|(simp at q;omega))
     have HN8:=O (show o=6->N ++ [hn.s]=((exL ps).take (k+1)).map λq=>q.head.s from λh=>by rw [Lc.o,List.map_append,<-hNs.o h];rfl);have zoB:(N ++ [hn.s]).length<=k+1:=by simp;omega
     have zn5:=O (show∀z∈N ++ [hn.s],z.size<=maxLen from λz hz=>by
      rcases List.mem_append.1 hz with hz|hz
      ·exact hNz.o z hz
      ·simp only [List.mem_cons,List.not_mem_nil,or_false] at hz
       subst hz
       exact RF.o)
     clear hown hgrow hat T8 L6 N7 AP N9 N6 X6 h6l HL7 HPV x0 x1 x2 x3 x4 hNs hNz;have K9:=O (Mi (some (a6.add 4)) (n6-1) (c6-1) _ w8 N8.o.len N8.o.cap N8.o.max N8.o.at_ N8.o.ok);go_wp2_with fail;refine K9.o.mono ?_;rintro e w10 ⟨rfl,b10⟩;have ZE:=O (L8.o.keep b10);have N10:=O (N8.o.keep b10);clear b10 K9 L8 N8;by_cases hv9:zc (zP (.node hn qs))=0
     case neg =>
      rw [zy hv9];have HWN:=O (HNO.o (.inl ⟨_,VI.o,by rw [Gi,decide_eq_false hv9];rfl⟩));clear hv9;have RS:=O (ZE.o.X2.set (.int .i64 o) (.int .i64 n) (.string s) (.string t) (.slice (some a) m c));have HE:=O (ZE.o.left B xx HWN.o o n s t (some a) m c);obtain⟨z0,z1,z2,z3,z4,-,-,-,-,-⟩:=ZE.o.X1;obtain⟨r0,r1,r2,r3,r4,t0,t1,t2,t3,t4⟩:=ZE.o.X2;go_wp2_with fail;obtain⟨s0,s1,s2,s3,s4,-,-,-,-,-⟩:=RS.o;exact bodyPost_ret (v := .tuple #[.agg #[.int .i64 o,.int .i64 n,.string s,.string t,.slice (some a) m c],.bool false]) (by simp [results,Tryz.results35,go_sem,s0,s1,s2,s3,s4]) rfl HE.o
     rw [hv9,zm];have f1:=ZE.o.F1;have KN:=O (Mp (some (a6.add 4)) (n6-1) (c6-1) _ w10 N10.o);by_cases he:IC (zP (.node hn qs))=true
     case pos =>
      rw [he] at KN;have HWN:=O (HNO.o (.inl ⟨_,VI.o,by rw [Gi,he,Bool.not_true,Bool.and_false]⟩));clear hv9 he;go_wp2_with fail;refine KN.o.mono ?_;rintro e w11 ⟨rfl,b11⟩;have VH:=O (ZE.o.keep b11);clear b11 KN f1 ZE;have RS:=O (VH.o.X2.set (.int .i64 o) (.int .i64 n) (.string s) (.string t) (.slice (some a) m c));have HE:=O (VH.o.left B xx HWN.o o n s t (some a) m c);obtain⟨z0,z1,z2,z3,z4,-,-,-,-,-⟩:=VH.o.X1;obtain⟨r0,r1,r2,r3,r4,t0,t1,t2,t3,t4⟩:=VH.o.X2;go_wp2_with fail;obtain⟨s0,s1,s2,s3,s4,-,-,-,-,-⟩:=RS.o;exact bodyPost_ret (v := .tuple #[.agg #[.int .i64 o,.int .i64 n,.string s,.string t,.slice (some a) m c],.bool false]) (by simp [results,Tryz.results35,go_sem,s0,s1,s2,s3,s4]) rfl HE.o
     have he2:IC (zP (.node hn qs))=false:=by simpa using he
     rw [he2] at KN;have HWY:=O (show eZ false (zP (.node hn qs))=true by rw [Gi,he2,decide_eq_true hv9];rfl);clear hv9 he he2;go_wp2_with fail;refine KN.o.mono ?_;rintro e w11 ⟨rfl,b11⟩;have VH:=O (ZE.o.keep b11);have N11:=O (N10.o.keep b11);clear b11 KN f1 ZE N10;go_wp2_with (at_builtin;refine wpList_append_own_at _ rfl _ _ 84 rfl (w.heap.size+3) 22 i0 _ 1 24 Tryz.underlying84 hi hz0 hz1 hz2 rfl (by decide) _ V.length (V.map Sl.v) rfl (VH.o.T.a.own.alloc _) ⟨_,0,none⟩ 1 1 [.slice (some (a6.add 4)) ((n6-1)) ((c6-1))] rfl rfl (cell_one_new _ _ _) (by intro u hu;simp only [List.mem_cons,List.not_mem_nil,or_false] at hu;subst hu;rfl) ?d1 ?d2 ?d3 ?_)
     case d1=>unfold maxLen;omega
     case d2=>omega
     case d3=>have:=VH.o.z;simp;omega
     intro v12 w12 hown hgrow _ hat;have T12:=O (VH.o.T.part (r:=⟨(some (a6.add 4)),(n6-1),(c6-1),zP (.node hn qs)⟩) N11.o AP8.o AQ8.o (by rw [hVl];exact hown) hgrow (by simpa using hat));have L12:=O ((VH.o.keep (zb w11 _)).row hgrow (λg hg=>zR VH.o.T.a.own g hg) T12.o);have zoi:(V ++ [(⟨(some (a6.add 4)),(n6-1),(c6-1),zP (.node hn qs)⟩:Sl)]).length=k+1:=by simp [hVl]
     have zoa:=O (show(V ++ [(⟨(some (a6.add 4)),(n6-1),(c6-1),zP (.node hn qs)⟩:Sl)]).map Sl.P=((exL ps).take (k+1)).map zP by rw [Lc.o,List.map_append,List.map_append,ZH.o];rfl);have zoj:=O (show∀q∈(exL ps).take (k+1),eZ false (zP q)=true from λq hq=>by
      rw [Lc.o] at hq
      rcases List.mem_append.1 hq with hq|hq
      ·exact hW.o q hq
      ·simp only [List.mem_cons,List.not_mem_nil,or_false] at hq
       subst hq
       exact HWY.o)
     clear hown hgrow hat T12 VH N11 AP8 AQ8 ZH hW HWY;go_wp2_with fail;go_roundw
     case rel=>exact⟨k+1,_,_,by go_num,hlt,zoi,zoB,zoa,HN8,zn5,zoj,L12⟩
     case measure=>simp [intOf];omega
    case' neg =>
     have e9:(hn.op==7)=false:=by
      have:=Ph (HPF.o h6 _ VI.o);rw [beq_eq_false_iff_ne];exact this
     have HPV:=O (Mm (HPF.o h6 _ VI.o));have N8:=O (show Ns w6 (some a6) n6 c6 (zP (.node hn qs)) from by rw [HPV.o];exact N6.o);have AP8:=O (show td ⟨some a6,n6,c6,zP (.node hn qs)⟩ u7.ownBlock from λ_ a e q=>by
      injection e with e
      subst e
      have h1:=VO.o _ q
      have h2:=HA6.o
      omega)
     have AQ8:=O (show td ⟨some a6,n6,c6,zP (.node hn qs)⟩ u6.ownBlock from λ_ a e q=>by
      injection e with e
      subst e
      have h1:=HSV.o _ q
      have h2:=HA6.o
      omega)
     have HN8:=O (show o=6->N=((exL ps).take (k+1)).map λq=>q.head.s from λh=>absurd h h6);have zoB:N.length<=k+1:=by omega
     have zn5:=hNz;have L8:=L6;clear L6 N6 X6 HPV hNs hNz h6;have K9:=O (Mi (some a6) n6 c6 _ w6 N8.o.len N8.o.cap N8.o.max N8.o.at_ N8.o.ok);go_wp2_with fail;refine K9.o.mono ?_;rintro e w10 ⟨rfl,b10⟩;have ZE:=O (L8.o.keep b10);have N10:=O (N8.o.keep b10);clear b10 K9 L8 N8;by_cases hv9:zc (zP (.node hn qs))=0
     case neg =>
      rw [zy hv9];have HWN:=O (HNO.o (.inl ⟨_,VI.o,by rw [Gi,decide_eq_false hv9];rfl⟩));clear hv9;have RS:=O (ZE.o.X2.set (.int .i64 o) (.int .i64 n) (.string s) (.string t) (.slice (some a) m c));have HE:=O (ZE.o.left B xx HWN.o o n s t (some a) m c);obtain⟨z0,z1,z2,z3,z4,-,-,-,-,-⟩:=ZE.o.X1;obtain⟨r0,r1,r2,r3,r4,t0,t1,t2,t3,t4⟩:=ZE.o.X2;go_wp2_with fail;obtain⟨s0,s1,s2,s3,s4,-,-,-,-,-⟩:=RS.o;exact bodyPost_ret (v := .tuple #[.agg #[.int .i64 o,.int .i64 n,.string s,.string t,.slice (some a) m c],.bool false]) (by simp [results,Tryz.results35,go_sem,s0,s1,s2,s3,s4]) rfl HE.o
     rw [hv9,zm];have f1:=ZE.o.F1;have KN:=O (Mp (some a6) n6 c6 _ w10 N10.o);by_cases he:IC (zP (.node hn qs))=true
     case pos =>
      rw [he] at KN;have HWN:=O (HNO.o (.inl ⟨_,VI.o,by rw [Gi,he,Bool.not_true,Bool.and_false]⟩));clear hv9 he;go_wp2_with fail;refine KN.o.mono ?_;rintro e w11 ⟨rfl,b11⟩;have VH:=O (ZE.o.keep b11);clear b11 KN f1 ZE;have RS:=O (VH.o.X2.set (.int .i64 o) (.int .i64 n) (.string s) (.string t) (.slice (some a) m c));have HE:=O (VH.o.left B xx HWN.o o n s t (some a) m c);obtain⟨z0,z1,z2,z3,z4,-,-,-,-,-⟩:=VH.o.X1;obtain⟨r0,r1,r2,r3,r4,t0,t1,t2,t3,t4⟩:=VH.o.X2;go_wp2_with fail;obtain⟨s0,s1,s2,s3,s4,-,-,-,-,-⟩:=RS.o;exact bodyPost_ret (v := .tuple #[.agg #[.int .i64 o,.int .i64 n,.string s,.string t,.slice (some a) m c],.bool false]) (by simp [results,Tryz.results35,go_sem,s0,s1,s2,s3,s4]) rfl HE.o
     have he2:IC (zP (.node hn qs))=false:=by simpa using he
     rw [he2] at KN;have HWY:=O (show eZ false (zP (.node hn qs))=true by rw [Gi,he2,decide_eq_true hv9];rfl);clear hv9 he he2;go_wp2_with fail;refine KN.o.mono ?_;rintro e w11 ⟨rfl,b11⟩;have VH:=O (ZE.o.keep b11);have N11:=O (N10.o.keep b11);clear b11 KN f1 ZE N10;go_wp2_with (at_builtin;refine wpList_append_own_at _ rfl _ _ 84 rfl (w.heap.size+3) 22 i0 _ 1 24 Tryz.underlying84 hi hz0 hz1 hz2 rfl (by decide) _ V.length (V.map Sl.v) rfl (VH.o.T.a.own.alloc _) ⟨_,0,none⟩ 1 1 [.slice (some a6) (n6) (c6)] rfl rfl (cell_one_new _ _ _) (by intro u hu;simp only [List.mem_cons,List.not_mem_nil,or_false] at hu;subst hu;rfl) ?d1 ?d2 ?d3 ?_)
     case d1=>unfold maxLen;omega
     case d2=>omega
     case d3=>have:=VH.o.z;simp;omega
     intro v12 w12 hown hgrow _ hat;have T12:=O (VH.o.T.part (r:=⟨(some a6),n6,c6,zP (.node hn qs)⟩) N11.o AP8.o AQ8.o (by rw [hVl];exact hown) hgrow (by simpa using hat));have L12:=O ((VH.o.keep (zb w11 _)).row hgrow (λg hg=>zR VH.o.T.a.own g hg) T12.o);have zoi:(V ++ [(⟨(some a6),n6,c6,zP (.node hn qs)⟩:Sl)]).length=k+1:=by simp [hVl]
     have zoa:=O (show(V ++ [(⟨(some a6),n6,c6,zP (.node hn qs)⟩:Sl)]).map Sl.P=((exL ps).take (k+1)).map zP by rw [Lc.o,List.map_append,List.map_append,ZH.o];rfl);have zoj:=O (show∀q∈(exL ps).take (k+1),eZ false (zP q)=true from λq hq=>by
      rw [Lc.o] at hq
      rcases List.mem_append.1 hq with hq|hq
      ·exact hW.o q hq
      ·simp only [List.mem_cons,List.not_mem_nil,or_false] at hq
       subst hq
       exact HWY.o)
     clear hown hgrow hat T12 VH N11 AP8 AQ8 ZH hW HWY;go_wp2_with fail;go_roundw
     case rel=>exact⟨k+1,_,_,by go_num,hlt,zoi,zoB,zoa,HN8,zn5,zoj,L12⟩
     case measure=>simp [intOf];omega
   ·obtain rfl:m=k:=by omega
    have hall:(exL ps).take m=exL ps:=List.take_of_length_le (by rw [HM.o];exact Nat.le_refl _);rw [hall] at ZH hNs hW;obtain⟨A1,c1,rfl,-,hSl⟩:=hL.o.T.a.at
    obtain⟨A2,c2,rfl,hTx⟩:=Oc hL.o.T.b;rw [hVl] at hL ⊢;obtain⟨l2,hl2⟩:∃l2,l2=N.length:=⟨_,rfl⟩
    rw [<-hl2] at hL hNl ⊢;by_cases h3:o=11\/o=12\/o=13
    case pos =>
     have HWN:=O (HNO.o (.inr h3));have three:(o==11)=true\/((o==11)=false/\(o==12)=true)\/((o==11)=false/\(o==12)=false/\(o==13)=true):=by
      rcases h3 with h|h|h
      ·exact .inl (by simp [h])
      ·exact .inr (.inl ⟨by simp [h],by simp [h]⟩)
      ·exact .inr (.inr ⟨by simp [h],by simp [h],by simp [h]⟩)
     clear h3 hSl hTx ZH hNs hW hNz hl2;rcases three with e11|⟨e11,e12⟩|⟨e11,e12,e13⟩
     all_goals
      have RS:=O (hL.o.X2.set (.int .i64 o) (.int .i64 n) (.string s) (.string t) (.slice A m c));have HE:=O (hL.o.left B xx HWN.o o n s t A m c);obtain⟨z0,z1,z2,z3,z4,-,-,-,-,-⟩:=hL.o.X1;obtain⟨r0,r1,r2,r3,r4,t0,t1,t2,t3,t4⟩:=hL.o.X2;go_wp2_with fail;obtain⟨s0,s1,s2,s3,s4,-,-,-,-,-⟩:=RS.o;exact bodyPost_ret (v := .tuple #[.agg #[.int .i64 o,.int .i64 n,.string s,.string t,.slice A m c],.bool false]) (by simp [results,Tryz.results35,go_sem,s0,s1,s2,s3,s4]) rfl HE.o
    have e11:(o==11)=false:=by simp;omega
    have e12:(o==12)=false:=by simp;omega
    have e13:(o==13)=false:=by simp;omega
    obtain⟨h0,hE,hO⟩:=HON.o h3 hW.o;have eA:Gc [] ⟨o,n,s,t⟩ N (V.map Sl.P)=Gc [] ⟨o,n,s,t⟩ ((exL ps).map λq=>q.head.s) ((exL ps).map zP):=by rw [ZH.o];exact zcD hNs.o
    have hval:∀r∈V,zc r.P=0:=λr hr=>by
     have h1:r.P∈(exL ps).map zP:=by rw [<-ZH.o];exact List.mem_map.2 ⟨r,hr,rfl⟩
     obtain⟨q,hq,e⟩:=List.mem_map.1 h1;rw [<-e];exact Nc (hW.o q hq)
    have KA:=O (zeg ⟨o,n,s,t⟩ Tj.o m (HSH.o h3) N A2 l2 c2 hl2 (by omega) hNz.o wr (λi x hi=>hTx i (.string x) (by rw [List.getElem?_map,hi];rfl)) A1 c1 V hVl (by omega) hSl hval (HD.o.keep hL.o.G) (by rw [eA];exact h0));rw [eA] at KA;have HE:=O hE;have HO:=O hO;have H0:=O h0;unfold OB ndV at KA;dsimp only at KA;generalize Gc [] ⟨o,n,s,t⟩ ((exL ps).map λq=>q.head.s) ((exL ps).map zP)=r at *;have f0:=hL.o.F0;obtain⟨z0,z1,z2,z3,z4,-,-,-,-,-⟩:=hL.o.X1;clear h0 hE hO eA hval h3 hSl hTx ZH hNs hW hNz hl2;go_wp2_with fail;refine KA.o.mono ?_;rintro e w8 ⟨A8,n8,c8,rfl,hN8,b8⟩;have L8:=O (hL.o.keep b8);have N8:=O hN8;clear hN8 b8 KA hL f0 z0 z1 z2 z3 z4;rcases r with u|V8
    case error =>
     have hu:u≠0:=λe=>H0.o (by rw [e]);have HWN:=O (HE.o u rfl);rw [show fa (z7 (.error u))=fa u from rfl,zy hu];clear hu;have RS:=O (L8.o.X2.set (.int .i64 o) (.int .i64 n) (.string s) (.string t) (.slice A m c));have HE:=O (L8.o.left B xx HWN.o o n s t A m c);obtain⟨z0,z1,z2,z3,z4,-,-,-,-,-⟩:=L8.o.X1;obtain⟨r0,r1,r2,r3,r4,t0,t1,t2,t3,t4⟩:=L8.o.X2;go_wp2_with fail;obtain⟨s0,s1,s2,s3,s4,-,-,-,-,-⟩:=RS.o;exact bodyPost_ret (v := .tuple #[.agg #[.int .i64 o,.int .i64 n,.string s,.string t,.slice A m c],.bool false]) (by simp [results,Tryz.results35,go_sem,s0,s1,s2,s3,s4]) rfl HE.o
    obtain⟨y,hy,hyv,hyf,hyl⟩:=HO.o V8 rfl;rw [show fa (z7 (.ok V8))= .nilIface from zm];have HY:=O hy;have KR:=O (XF y.flat.length y false A8 n8 c8 [] w8 (Nat.le_refl _) (by rw [hyf];omega) hyv (by rw [List.append_nil,hyf];exact N8.o));clear hy hyv hyf hyl N8 HO HE H0;go_wp2_with fail;refine KR.o.mono ?_;rintro e w9 ⟨o9,n9,s9,t9,A9,m9,k9,A7,n7,c7,rfl,hx9,-,b9⟩;have L9:=O (L8.o.keep b9);have HX9:=O hx9;have HLO:=O (show w.heap.size+2<w8.heap.size by have:=L8.o.z;omega);have b10:=zb w9 (.cells #[.int .i64 o9,.int .i64 n9,.string s9,.string t9,.slice A9 m9 k9] 49);have RS:=O ((L9.o.X2.keep b10).set (.int .i64 o9) (.int .i64 n9) (.string s9) (.string t9) (.slice A9 m9 k9));have BS:=O (ed (L9.o.G.trans (b10.mono L9.o.G.size)) (Nat.le_add_right w.heap.size 2) (.int .i64 o9) (.int .i64 n9) (.string s9) (.string t9) (.slice A9 m9 k9));have PS:=O (PAt.mono (B':=λb=>B b\/w.heap.size<=b) (λb hb _ => .inr (by have:=HLO.o;omega)) _ _ (zjT HX9.o HLO.o (.cells #[.int .i64 o9,.int .i64 n9,.string s9,.string t9,.slice A9 m9 k9] 49) (.int .i64 o9) (.int .i64 n9) (.string s9) (.string t9) (.slice A9 m9 k9)));obtain⟨r0,r1,r2,r3,r4,t0,t1,t2,t3,t4⟩:=L9.o.X2.keep b10;clear hx9 b9 b10 L8 KR HX9 HLO L9;go_wp2_with fail;obtain⟨s0,s1,s2,s3,s4,-,-,-,-,-⟩:=RS.o;exact bodyPost_ret (v := .tuple #[.agg #[.int .i64 o9,.int .i64 n9,.string s9,.string t9,.slice A9 m9 k9],.bool true]) (by simp [results,Tryz.results35,go_sem,s0,s1,s2,s3,s4]) rfl ⟨_,_,_,_,_,_,_,true,rfl,λ_=>⟨y,HY.o,PS.o⟩,λhb=>(nomatch hb),BS.o⟩
theorem YS:zjk:=λx f hv hl u w B hB hx hd=>by
 obtain⟨nd,ps⟩:=x;have hx':=hx;rw [PAt] at hx';obtain⟨hno,A,c,rfl,-,-,hp⟩:=hx';by_cases hk:(ps.len=0/\nd.op≠5/\nd.op≠6)\/nd.op=7
 ·exact zju nd ps A c w B hk
 by_cases h0:zc (Ex.node nd ps).flat=0
 ·exact zg1 nd ps A c w B hB hl hx hk h0
 have hf:f=false:=by
  cases f with
  | false=>rfl
  | true =>
   have h2:=hv.1
   unfold jC at h2
   rw [Bool.and_eq_true] at h2
   exact(hk (.inr (by simpa using h2.2))).elim
 subst hf;exact zhy nd ps A c w B hB hv hl hx hno hp hk h0 hd
theorem zlQ(w:World)(r:Sl)(hr:Ns w r.A r.n r.c r.P)(t:TypeId):ou (w.alloc (.cells #[.slice r.A r.n r.c] t)) (some ⟨w.heap.size,0,none⟩) [r]:=λk x hx=>by
 match k,hx with
 | 0,hx=>simp at hx;subst hx;exact⟨_,rfl,jk (heap_alloc_last w _) rfl,hr.keep (zb w _)⟩
 | k+1,hx=>simp at hx
def zjL:ByteArray:=⟨#[0x41]⟩
def zd4:Ud:=(zjL,emp)
def zpg:List Nd := [⟨6,0,emp,emp⟩]
def YB(b:Nat):Rq:=⟨zd4,zd4,zd4,some ⟨b,0,none⟩,1,1,zpg⟩
end Go.Proofs.YtokiogmfgpidmaaGreatDoor
namespace Go.Proofs.YtokiogmfgpidmaaGreatDoor
open Go.RowKit Go.Wk
mutual
def jx:Ex->Prop
 | .node n ps=>ju (.node n ps)=none/\jJ [] false (.node n ps)=none/\ji ps
def ji:Exs->Prop
 | .nil=>True
 | .cons x r=>jx x/\ji r
end
theorem jx.log:∀ {x:Ex},jx x->ju x=none
 | .node _ _,h=>by rw [jx] at h;exact h.1
theorem jx.wor:∀ {x:Ex},jx x->jJ [] false x=none
 | .node _ _,h=>by rw [jx] at h;exact h.2.1
theorem jx.parts{n:Nd}{ps:Exs}(h:jx (.node n ps)):ji ps:=by rw [jx] at h;exact h.2.2
theorem MR{x:Ex}(h:ju x=none):∀m,eO m x=x
 | 0=>rfl
 | m+1=>by rw [eO,h]
theorem zhR{x:Ex}(h1:ju x=none)(h2:jJ [] false x=none):NP [] false x=x:=by
 unfold NP;rw [MR h1,h2]
mutual
theorem Xb:∀(x:Ex),jx x->jV [] false x=x
 | .node n ps,h=>by
  rw [jV,UH ps h.parts];exact zhR h.log h.wor
theorem UH:∀(ps:Exs),ji ps->zZ [] false ps=ps
 | .nil,_=>by rw [zZ]
 | .cons x r,h=>by
  rw [ji] at h;rw [zZ,Xb x h.1,UH r h.2]
end
theorem zjC{n:Nd}:∀ {ps:Exs} {y:Ex},ji ps->ju (.node n ps)=some y->jx y
 | .nil,y,_,h=>by simp [ju] at h
 | .cons (.node m .nil) .nil,y,_,h=>by simp [ju] at h
 | .cons (.node m (.cons b .nil)) .nil,y,hps,h=>by
  simp only [ju] at h;split at h
  ·injection h with h;subst h;rw [ji] at hps;have:=hps.1.parts;rw [ji] at this;exact this.1
  ·cases h
 | .cons (.node m (.cons b (.cons b2 r))) .nil,y,_,h=>by simp [ju] at h
 | .cons a (.cons b .nil),y,hps,h=>by
  simp only [ju] at h;rw [ji,ji] at hps
  repeat' split at h
  all_goals first
   |(cases h;done)
   |(injection h with h;subst h;exact hps.1)
   |(injection h with h;subst h;exact hps.2.1)
 | .cons c (.cons a (.cons b .nil)),y,hps,h=>by
  simp only [ju] at h;rw [ji,ji,ji] at hps
  repeat' split at h
  all_goals first
   |(cases h;done)
   |(injection h with h;subst h;exact hps.2.1)
   |(injection h with h;subst h;exact hps.2.2.1)
 | .cons _ (.cons _ (.cons _ (.cons _ _))),y,_,h=>by simp [ju] at h
theorem zjy{n:Nd}{ps:Exs}(h:ji ps)(m:Nat):eO m (.node n ps)= .node n ps\/jx (eO m (.node n ps)):=by
 cases m with
 | zero=>exact .inl rfl
 | succ m =>
  rcases hq:ju (.node n ps) with _|y
  ·exact .inl (MR hq _)
  ·have hy:=zjC h hq
   refine .inr ?_;rw [eO,hq];simp only;rw [MR hy.log];exact hy
theorem PG{n:Nd}{ps:Exs}(h9:n.op≠9)(h:n.op≠11/\n.op≠12/\n.op≠13):ju (.node n ps)=none:=by
 obtain⟨h1,h2,h3⟩:=h
 match ps with
 | .nil=>simp [ju]
 | .cons (.node m .nil) .nil=>simp [ju]
 | .cons (.node m (.cons b .nil)) .nil=>simp only [ju];rw [if_neg (λq=>h9 q.1)]
 | .cons (.node m (.cons b (.cons b2 r))) .nil=>simp [ju]
 | .cons a (.cons b .nil)=>simp only [ju];rw [if_neg (λq=>q.elim h1 h2)]
 | .cons c (.cons a (.cons b .nil))=>simp only [ju];rw [if_neg (λq=>h3 q.1)]
 | .cons _ (.cons _ (.cons _ (.cons _ _)))=>simp [ju]
theorem Q7{n:Nd}{ps:Exs}(h:zc (Ex.node n ps).flat=0):jJ [] false (.node n ps)=none:=by
 rw [jJ,if_pos (.inr (.inr h))]
theorem WL{n:Nd}{ps:Exs}(h:n.op=7):jJ [] false (.node n ps)=none:=by
 rw [jJ,if_pos (.inr (.inl h))]
theorem zbQ:∀(T:List Ex),(∀x∈T,jx x)->ji (SH T)
 | [],_=>by rw [SH,ji];trivial
 | x :: r,h=>by
  rw [SH,ji];exact⟨h x (by simp),zbQ r λy hy=>h y (by simp [hy])⟩
theorem zb2:∀(T:List (ByteArray × Ex)),(∀p∈T,jx p.2)->ji (SA T)
 | [],_=>by rw [SA,ji];trivial
 | p :: r,h=>by
  rw [SA,ji];refine⟨?_,zb2 r λy hy=>h y (by simp [hy])⟩;unfold XO;rw [jx,ji,ji];exact⟨PG (by show(7:Int)≠9;decide) (by show(7:Int)≠11/\(7:Int)≠12/\(7:Int)≠13;decide),WL rfl,h p (by simp),trivial⟩
theorem zjQ{x:Ex}(hx:x.valid false)(h:zc x.flat=0):jx x:=by
 obtain⟨hl,hv⟩:=zH.1 h;obtain⟨y,hy,e,hM⟩:=zfx (λy=>y.flat.length<=200->jx y) (λn hn hV _=>by
  rw [jx,ji]
  exact⟨PG (by omega) (by omega),Q7 (zH.2 ⟨by simp [Ex.flat,Exs.flat],hV⟩),trivial⟩)
  (λT P hP h5 hT ih hl=>by
   obtain⟨e,-,-,-⟩:=ER hP h5
   have hf:(Ex.node (jm (zg P).length) (SH T)).flat=P:=by rw [Ex.flat,Oo,hT];exact e.symm
   rw [jx]
   refine⟨PG (by show(5:Int)≠9;decide) (by show(5:Int)≠11/\(5:Int)≠12/\(5:Int)≠13;decide),Q7 (by rw [hf];exact zH.2 ⟨by rw [<-hf];exact hl,hP⟩),zbQ T λx hx=>ih x hx ?_⟩
   have h1:x.flat.length<=((T.map Ex.flat).flatten).length:=by
    clear ih hf hT hl
    induction T with
    | nil=>cases hx
    | cons z r ihr =>
     simp only [List.map_cons,List.flatten_cons,List.length_append]
     rcases List.mem_cons.1 hx with rfl|hx
     ·omega
     ·have:=ihr hx;omega
   rw [Ex.flat,Oo,List.length_cons] at hl
   omega)
  (λT P hP h6 hT ih hl=>by
   obtain⟨e,-,-,-⟩:=Kh hP h6
   have hf:(Ex.node (zG (zo P).length) (SA T)).flat=P:=by rw [Ex.flat,Oz,hT];exact e.symm
   rw [jx]
   refine⟨PG (by show(6:Int)≠9;decide) (by show(6:Int)≠11/\(6:Int)≠12/\(6:Int)≠13;decide),Q7 (by rw [hf];exact zH.2 ⟨by rw [<-hf];exact hl,hP⟩),zb2 T λp hp=>ih p hp ?_⟩
   have h1:p.2.flat.length<=(zw (T.map λp=>(p.1,p.2.flat))).length:=by
    clear ih hf hT hl
    induction T with
    | nil=>cases hp
    | cons z r ihr =>
     simp only [List.map_cons,zw,List.length_cons,List.length_append]
     rcases List.mem_cons.1 hp with rfl|hp
     ·omega
     ·have:=ihr hp;omega
   rw [Ex.flat,Oz,List.length_cons] at hl
   omega) hv
 rw [Ui hx hy e.symm];exact hM (by rw [e];exact hl)
theorem zjU{n:Nd}{ps:Exs}(hv:(Ex.node n ps).valid false)(h:ji ps):jx (NP [] false (.node n ps)):=by
 have h2:=zjy (n:=n) h (Ex.node n ps).flat.length;have hd:=Ro vS _ hv (Nat.le_refl _);unfold NP;rcases h2 with h2|h2
 ·rw [h2] at hd ⊢;rcases hq:jJ [] false (.node n ps) with _|r
  ·simp only;rw [jx];exact⟨hd,hq,h⟩
  ·obtain⟨-,h3,h4⟩:=ZQ (E := []) (knows:=false) (λe=>(by cases e)) vS hv hq;exact zjQ h3 (Jm vS _ false hv _ h4)
 ·rw [h2.wor];exact h2
mutual
theorem zbk:∀(x:Ex) (f:Bool),x.valid f->jx (jV [] false x)
 | .node n ps,f,hv=>by
  have hq:=W1 ps _ _ hv.2.2;rw [jV]
  cases f with
  | true =>
   have h7:n.op=7:=by
    have h2:=hv.1;unfold jC at h2;rw [Bool.and_eq_true] at h2;simpa using h2.2
   rw [Zj h7,jx]
   exact⟨PG (by omega) (by omega),WL h7,hq⟩
  | false =>
   have hv':(Ex.node n (zZ [] false ps)).valid false:=by
    obtain⟨h1,hl,h3⟩:=hv;by_cases h6:n.op=6
    ·have hr:zB n=true:=by unfold zB;exact decide_eq_true h6
     rw [hr] at h3;obtain⟨-,e2,e3⟩:=Vt vS (E := []) (knows:=false) (λe=>(by cases e)) ps _ h3;exact⟨h1,by rw [e3];exact hl,by rw [hr];exact e2⟩
    ·have hr:zB n=false:=by unfold zB;exact decide_eq_false h6
     rw [hr] at h3;obtain⟨-,e2,e3⟩:=Re vS (E := []) (knows:=false) (λe=>(by cases e)) ps _ h3;exact⟨h1,by rw [e3];exact hl,by rw [hr];exact e2⟩
   exact zjU hv' hq
theorem W1:∀(ps:Exs) (c:Bool) (l:ByteArray),ps.valid c l->ji (zZ [] false ps)
 | .nil,_,_,_=>by rw [zZ,ji];trivial
 | .cons x r,c,l,hv=>by
  rw [zZ,ji];exact⟨zbk x c hv.2.1,W1 r c _ hv.2.2⟩
end
theorem Rs(x:Ex):zf x.flat=x.head.op:=by cases x;rfl
theorem znu(x:Ex):hdN x.flat=x.head:=by cases x;rfl
theorem ziv{σ:Env}(hσ:vq σ){n:Nd}{ps:Exs}(hv:(Ex.node n ps).valid false)(h:1<=n.op/\n.op<=4):zc (Ex.node n ps).flat=0:=by
 have hl:=hv.2.1;unfold zC at hl;rw [if_neg (by omega),if_pos (by omega)] at hl
 cases ps with
 | nil=>exact Jm hσ _ false hv _ (by rw [evX,if_pos h];rfl)
 | cons a r=>simp only [Exs.len] at hl;omega
theorem zd5{σ:Env}(hσ:vq σ)(hE:σ.E = []){n:Nd}{ps:Exs}(hv:(Ex.node n ps).valid false)(hd:ju (.node n ps)=none)(hw:jJ [] false (.node n ps)=none)(hnv:zc (Ex.node n ps).flat≠0)(hall:∀q∈exL ps,eZ false (zP q)=true)(h8:n.op≠8):
 ∃e,evX σ (.node n ps)= .error e/\e≠0:=by
 have h14:¬(1<=n.op/\n.op<=4):=λh=>hnv (ziv hσ hv h);have h7:n.op≠7:=Ph hv;suffices h:∃e,evX σ (.node n ps)= .error e by
  obtain⟨e,he⟩:=h;exact⟨e,he,λh0=>Mv _ hv (by rw [he,h0])⟩
 have hl:=hv.2.1;have hval:∀q∈exL ps,q.valid false->evX σ q = .ok q.flat:=λq hq hqv=>YQ σ hqv (by have:=Nc (hall q hq);rwa [Mm hqv] at this);by_cases h12:n.op=11\/n.op=12
 ·have h3:=hv.2.2;rw [show zB n=false by unfold zB;exact decide_eq_false (by omega)] at h3;unfold zC at hl;rw [if_neg (by omega),if_neg (by omega),if_neg (by omega),if_neg (by omega),if_pos (by omega)] at hl
  match ps,hl,h3,hval,hd with
  | .cons a (.cons b .nil),_,h3,hval,hd =>
   have ea:=hval a (by simp [exL]) h3.2.1
   have eb:=hval b (by simp [exL]) h3.2.2.2.1
   rw [evX,if_neg h14,if_neg h8,if_pos h12,jK,ea]
   simp only [ju] at hd
   rw [if_pos h12] at hd
   simp only [Rs,znu]
   by_cases g:a.head.op=1
   ·rw [if_pos g] at hd ⊢
    by_cases g2:decide (a.head.n=1)=decide (n.op=12)
    ·rw [if_pos g2] at hd;cases hd
    ·rw [if_neg g2] at hd ⊢;by_cases g3:ofT b.head.op=true
     ·rw [if_pos g3] at hd;cases hd
     ·rw [CW,eb];simp only [Rs];rw [if_neg (λq=>g3 (by rw [q];decide))];exact⟨_,rfl⟩
   ·rw [if_neg g]
    exact⟨_,rfl⟩
  | .nil,hl,_,_,_=>simp [Exs.len] at hl
  | .cons _ .nil,hl,_,_,_=>simp [Exs.len] at hl
  | .cons _ (.cons _ (.cons _ _)),hl,_,_,_=>simp only [Exs.len] at hl;omega
 ·by_cases h13:n.op=13
  ·have h3:=hv.2.2;rw [show zB n=false by unfold zB;exact decide_eq_false (by omega)] at h3;unfold zC at hl;rw [if_neg (by omega),if_neg (by omega),if_neg (by omega),if_pos (by omega)] at hl
   match ps,hl,h3,hval,hd with
   | .cons c (.cons a (.cons b .nil)),_,h3,hval,hd =>
    have ec:=hval c (by simp [exL]) h3.2.1
    rw [evX,if_neg h14,if_neg h8,if_neg h12,if_pos h13,MZ,ec]
    simp only [ju] at hd
    simp only [Rs]
    by_cases g:c.head.op=1
    ·rw [if_pos ⟨h13,g⟩] at hd
     split at hd <;> cases hd
    ·rw [if_neg g]
     exact⟨_,rfl⟩
   | .nil,hl,_,_,_=>simp [Exs.len] at hl
   | .cons _ .nil,hl,_,_,_=>simp [Exs.len] at hl
   | .cons _ (.cons _ .nil),hl,_,_,_=>simp [Exs.len] at hl
   | .cons _ (.cons _ (.cons _ (.cons _ _))),hl,_,_,_=>simp only [Exs.len] at hl;omega
  ·have c1:¬((ps.len=0/\n.op≠5/\n.op≠6)\/n.op=7):=by
    rintro (⟨h0,h5,h6⟩|h)
    ·unfold zC at hl
     repeat' split at hl
     all_goals omega
    ·exact h7 h
   have c3:¬(n.op=11\/n.op=12\/n.op=13):=by omega
   have e:=zdu σ hv (λh=>h.elim (λh=>c1 (.inl h)) λh=>h.elim (λh=>c1 (.inr h)) hnv) c3 (λq hq=>Nc (hall q hq));rw [hE] at e;obtain⟨-,-,h3⟩:=zbv hv c1 hnv c3 hall;rcases hq:Gc [] n ((exL ps).map λq=>q.head.s) ((exL ps).map zP) with u|V
   ·exact⟨u,e.trans hq⟩
   ·obtain⟨y,hy,-⟩:=h3 V hq;rw [hw] at hy;cases hy
mutual
theorem zew{t:List Nd}:∀(x:Ex) (f:Bool) (p:Nat),XAt t p f x->jx x->∀i,p<=i->i<p+x.flat.length->∃y g,XAt t i g y/\jx y
 | .node n ps,f,p,h,hd,i,h1,h2=>by
  by_cases e:i=p
  ·subst e;exact⟨_,f,h,hd⟩
  ·rw [Ex.flat,List.length_cons] at h2;exact zan ps _ (p+1) h.parts hd.parts i (by omega) (by omega)
theorem zan{t:List Nd}:∀(r:Exs) (c:Bool) (p:Nat),Pd t p c r->ji r->∀i,p<=i->i<p+r.flat.length->∃y g,XAt t i g y/\jx y
 | .nil,_,p,_,_,i,h1,h2=>by
  rw [Exs.flat,List.length_nil] at h2;omega
 | .cons x r,c,p,h,hd,i,h1,h2=>by
  rw [ji] at hd;obtain⟨g1,g2⟩:=h.head;rw [Exs.flat,List.length_append] at h2;by_cases e:i<p+x.flat.length
  ·exact zew x c p g1 hd.1 i h1 e
  ·exact zan r c (p+x.flat.length) g2 hd.2 i (by omega) (by omega)
end
end Go.Proofs.YtokiogmfgpidmaaGreatDoor
namespace Go.Proofs.YtokiogmfgpidmaaGreatDoor
open Go.RowKit Go.Wk Go.Sort
section
variable (a:Addr) (n c q:Nat) (xo xn:Int) (xs xt:ByteArray) (w:World) (hm:n<=maxLen) (hq:q<n) (d0:w.cell? (a.add (q*4))=some (.int .i64 xo)) (d1:w.cell? ⟨(a.add (q*4)).block,(a.add (q*4)).off+1,none⟩=some (.int .i64 xn)) (d2:w.cell? ⟨(a.add (q*4)).block,(a.add (q*4)).off+2,none⟩=some (.string xs)) (d3:w.cell? ⟨(a.add (q*4)).block,(a.add (q*4)).off+3,none⟩=some (.string xt))
include hm hq d0 d1 d2 d3
end
end Go.Proofs.YtokiogmfgpidmaaGreatDoor
