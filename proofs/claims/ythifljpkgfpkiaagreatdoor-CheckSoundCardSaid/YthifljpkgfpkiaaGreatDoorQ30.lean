/-
  kinds.own: of records. kinds: Has, Own over nodes that are handed in. ref ..
-/
import Derived.Test.YthifljpkgfpkiaaGreatDoorQ11
import Derived.Test.YthifljpkgfpkiaaGreatDoorQ29
set_option maxRecDepth 100000
set_option maxHeartbeats 4000000
namespace Go.Proofs.YthifljpkgfpkiaaGreatDoor
open Go.RowKit Go.Wk Go.Sort
theorem uw{ops:Array Oper}{o:Oper}{a:Act}{w:World}{K:Act->World->Prop}{Q:Exit->Act->World->Prop}{E':Prop}(hgd:o.guard=none)(s x:Operand)
 (ho:o.op = .call { callee := .builtin .append,args:=#[s,x],argTypes:=#[79,79] })
 (base:Nat) (v:Value) (E:List Fe) (hs:a.eval s=v) (hrow:ie w base v E) (z:Fe) (ad:Addr) (c:Nat) (hx:a.eval x = .slice (some ad) 1 c)
 (hnews:∀j u,z.eight[j]?=some u->w.cell? (ad.add j)=some u) (hz:KAt w (λb=>base<=b/\some b≠v.ownBlock) z.y.2.2 z.u) (hl:E.length<=1000000) (hbase:base<=w.heap.size)
 (h:∀v' w',ie w' base v' (E ++ [z])->w.grownBy w' v.ownBlock->K (a.put o.dst v') w'):
 if Region.wanted o (yielded ops a.tmps)=true then Oper.wp Tryz.prog o a w K Q else E':=by
 have hi:=Ij
 cases hq:Tryz.prog.info? 143 with
 | none=>rw [hq] at hi;cases hi
 | some i0 =>
  rw [hq] at hi
  simp only [Option.map_some,Option.some.injEq,Prod.mk.injEq] at hi
  refine step_append_lies w hgd s x _ ho base _ i0 _ 8 104 Tryz.underlying79 hq hi.1 hi.2.1 hi.2.2 (by decide) (by decide) v E.length (jP E) hs hrow.own ad 1 c z.eight hx rfl hnews ?_ (by decide) (by unfold maxLen;omega) (by omega) hbase _ rfl ?_
  ·intro u hu
   have:=gB [z] u (by simpa [jP,Fe.eight,Fe.u] using hu);exact this
  ·intro g cap w' h1 h2 h3 _
   refine h _ w' (hrow.snoc hz h1 h2 ?_) h2;rcases h3 with h3|h3
   ·exact .inl h3.symm
   ·exact .inr (by rw [h3];rfl)
structure RLp(w w4 wr:World)(E:List Fe)(v:Value):Prop where
 X:Bx6 wr (w.heap.size+2) (.int .i64 46) (.int .i64 0) (.string ⟨#[]⟩) (.string ⟨#[]⟩) (.pointer none) v
 F:ie wr w4.heap.size v E
 H:w4.grownBy wr (some (w.heap.size+2))
theorem Jl{w:World}{a:Addr}{n c i:Nat}{P:List Nd}(h:Ns w (some a) n c P)(hi:i<=n)(hlt:i<n->i<c)(a':Addr)(ha:i<c->a'=a.add (i*4)):Ns w (some a') (n-i) (c-i) (P.drop i):=by
 have hl:=h.len;have hc:=h.cap;have hm:=h.max;refine⟨by rw [List.length_drop];omega,by omega,by omega,λk y hy=>?_,λy hy=>h.ok y (List.mem_of_mem_drop hy)⟩;rw [List.getElem?_drop] at hy;have hk:i+k<P.length:=by
  rcases Nat.lt_or_ge (i+k) P.length with h1|h1
  ·exact h1
  ·rw [List.getElem?_eq_none h1] at hy;cases hy
 obtain⟨b,e,q0,q1,q2,q3⟩:=h.at_ (i+k) y hy;injection e with e;subst e;refine⟨a',rfl,?_⟩;rw [ha (hlt (by omega)),add_add,show i*4+k*4=(i+k)*4 by omega];exact⟨q0,q1,q2,q3⟩
theorem GV(L:List (ByteArray × List Nd))(k:Nat)(h:k<L.length):zV (L.drop k)=dm L[k].1 ::(L[k].2 ++ zV (L.drop (k+1))):=by
 rw [List.drop_eq_getElem_cons h];rfl
theorem Se(N:Nat)(ih:Ve N)(A:Option Addr)(n c:Nat)(P:List Nd)(w:World)(hN:P.length<=N+1)(ci:P.length<=200)(df:Ns w A n c P)(hV:IsV P)(h6:zg P=6):
 Calls Tryz.prog 31 #[.slice A n c] w (sB w (jJ P)):=by
 have HE:=O (vP hV h6);have Wz:=O (dD hV h6).2.2.1;have WS:=O (λx (hx:x∈zo P)=>gr hV h6 hx);have UU:=O (dD hV h6).1;have Xk:=O (show ic P=(zo P).map (·.2)/\cC P=0 by
  have h0:zh P=0:=zy.2 ⟨ci,hV⟩
  have h1:cC P=0:=by unfold cC;rw [if_pos h0,if_pos (.inr h6)]
  refine⟨?_,h1⟩
  unfold ic
  rw [if_pos h1,if_neg (by omega)])
 have Xg:=O (λw' hb=>aB A n c P w' (df.keep (w':=w') hb));have Ua:=O df;have HLEN:=O df.len;obtain⟨x,r,FN,-,-⟩:=iM hV;have hop:x.op=6:=by rw [FN] at h6;exact h6
 obtain⟨a,rfl,q0,q1,q2,q3⟩:=df.at_ 0 x (by rw [FN];rfl);rw [show a.add (0*4)=a from rfl] at q0 q1 q2 q3;have hl:a.block<w.heap.size:=block_lt_of_cell q0;have hn1:1<=n:=by rw [df.len,FN,List.length_cons];omega
 have hnc:n<=c:=df.cap;have hm:=df.max;unfold maxLen at hm;rw [hop] at q0;have HP:=O hN;have WQ:=O ci;generalize jJ P=kk at *;have IH:=O ih;clear df hV h6 FN hop hN ci ih;have Ba:=za w (.cells #[.int .i64 0,.int .i64 0,.string ⟨#[]⟩,.string ⟨#[]⟩,.pointer none,.slice none 0 0] 81);have Bb:=za (w.alloc (.cells #[.int .i64 0,.int .i64 0,.string ⟨#[]⟩,.string ⟨#[]⟩,.pointer none,.slice none 0 0] 81)) (.cells #[.int .i64 6,.int .i64 x.n,.string x.s,.string x.t] 47);have Bc:=za ((w.alloc (.cells #[.int .i64 0,.int .i64 0,.string ⟨#[]⟩,.string ⟨#[]⟩,.pointer none,.slice none 0 0] 81)).alloc (.cells #[.int .i64 6,.int .i64 x.n,.string x.s,.string x.t] 47)) (.cells #[.int .i64 46,.int .i64 0,.string ⟨#[]⟩,.string ⟨#[]⟩,.pointer none,.slice none 0 0] 81);have B3:=O (Ba.trans ((Bb.trans (Bc.mono (by simp))).mono (by simp)));have XR:=O (((jf w (.int .i64 0) (.int .i64 0) (.string ⟨#[]⟩) (.string ⟨#[]⟩) (.pointer none) (.slice none 0 0) 81).keep Bb).keep Bc);have xp:=jf ((w.alloc (.cells #[.int .i64 0,.int .i64 0,.string ⟨#[]⟩,.string ⟨#[]⟩,.pointer none,.slice none 0 0] 81)).alloc (.cells #[.int .i64 6,.int .i64 x.n,.string x.s,.string x.t] 47)) (.int .i64 46) (.int .i64 0) (.string ⟨#[]⟩) (.string ⟨#[]⟩) (.pointer none) (.slice none 0 0) 81;have hz2:((w.alloc (.cells #[.int .i64 0,.int .i64 0,.string ⟨#[]⟩,.string ⟨#[]⟩,.pointer none,.slice none 0 0] 81)).alloc (.cells #[.int .i64 6,.int .i64 x.n,.string x.s,.string x.t] 47)).heap.size=w.heap.size+2:=by simp
 have hz3:(((w.alloc (.cells #[.int .i64 0,.int .i64 0,.string ⟨#[]⟩,.string ⟨#[]⟩,.pointer none,.slice none 0 0] 81)).alloc (.cells #[.int .i64 6,.int .i64 x.n,.string x.s,.string x.t] 47)).alloc (.cells #[.int .i64 46,.int .i64 0,.string ⟨#[]⟩,.string ⟨#[]⟩,.pointer none,.slice none 0 0] 81)).heap.size=w.heap.size+3:=by simp
 rw [hz2] at xp;have XP:=O xp;have MF:=O hz3;clear Ba Bb Bc xp hz2 hz3;have Yk:=O (show(zV (zo P)).length+1=n by
  have h2:=congrArg List.length UU.o
  rw [List.length_cons] at h2
  rw [HLEN.o];exact h2.symm)
 have Yn:=O (show c=1->Ns w (some a) 0 0 (zV (zo P)) from λh=>by
  have h0:zV (zo P)= []:=List.eq_nil_of_length_eq_zero (by have:=Yk.o;omega)
  rw [h0]
  exact⟨rfl,Nat.le_refl _,Nat.zero_le _,λk y hy=>by simp at hy,λy hy=>nomatch hy⟩)
 have iY:=O (show¬c=1->Ns w (some (a.add 4)) (n-1) (c-1) (zV (zo P)) from λh=>by
  have h1:=Jl (i:=1) Ua.o hn1 (λh=>by omega) (a.add 4) (λ_=>rfl)
  rw [UU.o] at h1
  exact h1)
 rcases Decidable.em (c=1) with rfl|hc
 all_goals
  go_enter Tryz.func31,Tryz.ntmps31;go_wp2_with fail;obtain⟨w3,hw3⟩:∃w3,((w.alloc (.cells #[.int .i64 0,.int .i64 0,.string ⟨#[]⟩,.string ⟨#[]⟩,.pointer none,.slice none 0 0] 81)).alloc (.cells #[.int .i64 6,.int .i64 x.n,.string x.s,.string x.t] 47)).alloc (.cells #[.int .i64 46,.int .i64 0,.string ⟨#[]⟩,.string ⟨#[]⟩,.pointer none,.slice none 0 0] 81)=w3:=⟨_,rfl⟩
  rw [hw3] at B3 XR XP MF ⊢;clear hw3 q0 q1 q2 q3;refine(Xg.o _ B3.o).mono ?_;rintro e w4 ⟨v,V,rfl,Ue,BI,XY,b4⟩;rw [Xk.o.2,zj];rw [Xk.o.1] at BI;have BQ:=O BI;rw [MF.o] at Ue;have FC:=O (show∀r∈V,∀a,r.A=some a->w.heap.size+3<=a.block from λr hr a ha=>by have:=XY r hr a ha;have:=MF.o;omega);have MP:=O (B3.o.trans (b4.mono B3.o.size));have XR4:=O (XR.o.keep b4);have Zf:=O (XP.o.keep b4);have ZL:=O (show w.heap.size+3<=w4.heap.size by have:=b4.size;have:=MF.o;omega);have HV4:=O Ue;obtain⟨A5,c5,YF,-,-⟩:=Ue.at
  obtain⟨nv,WU⟩:∃nv,nv=V.length:=⟨_,rfl⟩
  have YC:=O WU;have qX:nv<=200:=by
   have h1:=congrArg List.length BI;rw [List.length_map,List.length_map] at h1;have h2:=congrArg List.length UU.o;rw [List.length_cons,ow] at h2;have h3:(zo P).length<=((zo P).map λx=>x.2.length+1).sum:=by
    have:∀L:List (ByteArray × List Nd),L.length<=(L.map λx=>x.2.length+1).sum:=λL=>by
     induction L with
     | nil=>exact Nat.le_refl _
     | cons y L ih=>simp only [List.length_cons,List.map_cons,List.sum_cons];omega
    exact this _
   have:=WQ.o;omega
  rw [<-WU] at YF;subst YF;clear Ue BI XY WU b4 B3 XR XP Xg;go_wp2_with fail;go_loopw [10,71] (λu i wr=>∃(k:Nat) (E:List Fe) (v:Value) (Ar:Option Addr) (nr cr:Nat),u = .slice Ar nr cr/\i = .int .i64 k/\k<=nv/\Hid (E.map Fe.y=((zo P).take k).map λx=>(x.1,true,jJ x.2))/\Hid (Ns w4 Ar nr cr (zV ((zo P).drop k))/\∀b,Ar=some b->b.block<w.heap.size)/\Hid (RLp w w4 wr E v)) (λ_ i _=>nv-(intOf i).toNat)
  case atStart =>
   refine⟨0,[],_,_,_,_,rfl,rfl,Nat.zero_le _,O rfl,O ⟨?_,?_⟩,O ⟨Zf.o,ie.nil _ _,World.grownBy.refl _ _⟩⟩
   ·rw [List.drop_zero]
    first
     | exact(Yn.o (by trivial)).keep MP.o
     | exact(iY.o (by assumption)).keep MP.o
   ·intro b e;injection e with e;subst e;exact hl
  case round =>
   obtain⟨k,E,v,Ar,nr,cr,rfl,rfl,hk,hE,hN,hL⟩:=hrel;by_cases hlt:k<nv
   ·have Rr:k<V.length:=by rw [<-YC.o];exact hlt
    have WO:k<(zo P).length:=by
     have:=congrArg List.length BQ.o;rw [List.length_map,List.length_map] at this;omega
    have YK:V[k].P=(zo P)[k].2:=by
     have h1:(V.map Sl.P)[k]?=((zo P).map (·.2))[k]?:=by rw [BQ.o]
     rw [List.getElem?_map,List.getElem?_map,List.getElem?_eq_getElem Rr,List.getElem?_eq_getElem WO] at h1;simpa using h1
    have kS:(zo P)[k]∈zo P:=List.getElem_mem WO;have Ry:=O (Wz.o _ kS).1;have yy:=O (WS.o _ kS);have wl:=O (GV (zo P) k WO);have Xh:=O (show∀z:Fe,z.y=((zo P)[k].1,true,jJ (zo P)[k].2)->(E ++ [z]).map Fe.y=((zo P).take (k+1)).map λx=>(x.1,true,jJ x.2) from λz hz=>by
     rw [List.take_succ_eq_append_getElem WO,List.map_append,List.map_append,hE.o]
     simp [hz])
    have Uo:=O (show E.length<=1000000 by
     have:=congrArg List.length hE.o
     simp at this
     omega)
    have df:=hN.o.1;rw [wl.o] at df;obtain⟨ar,har,-,-,g2,-⟩:=df.at_ 0 _ rfl;have hab:=hN.o.2 ar har;subst har;rw [show ar.add (0*4)=ar from rfl] at g2;have hnr1:1<=nr:=by have:=df.len;rw [List.length_cons] at this;omega
    have hnr0:¬nr=0:=by omega
    have hnr2:(0:Int)<(nr:Int):=by omega
    have HNR:=O df.len;have HNC:=O df.cap;have HNM:=O df.max;have Uq:=O df;obtain⟨A5',c5',e5,-,XM⟩:=HV4.o.at
    injection e5 with e5 e5n e5';clear e5n;subst e5 e5';obtain⟨a5,rfl,hcell,qo⟩:=XM.at Rr;rw [YK] at qo;have ZR:w.heap.size+3<=a5.block:=by
     rcases HV4.o.own.2 with ⟨e0,-⟩|⟨gg,cap,cur,e0,UH,-⟩
     ·cases e0
     ·injection e0 with e0;injection e0 with e0;subst e0;exact UH
    have Wa:=O (FC.o _ (List.getElem_mem Rr));obtain⟨y,hy⟩:∃y,y=V[k]:=⟨_,rfl⟩
    rw [<-hy] at hcell qo Wa;obtain⟨yP,Yp⟩:∃yP,yP=(zo P)[k].2:=⟨_,rfl⟩
    obtain⟨nm,JM⟩:∃nm,nm=(zo P)[k].1:=⟨_,rfl⟩
    rw [<-Yp] at qo Ry yy Xh Uq HNR;rw [<-JM] at Xh Uq HNR;have g2:w4.cell? ⟨ar.block,ar.off+2,none⟩=some (.string nm):=by rw [JM];exact g2
    obtain⟨yA,yn,yc,yp⟩:=y;simp only at hcell qo Wa;have hyn:yn=yP.length:=qo.len;have hynr:yn+1<=nr:=by have:=HNR.o;rw [List.length_cons,List.length_append] at this;omega
    have ZJ:=O hyn;have hcell2:wr.cell? (a5.add k)=some (.slice yA yn yc):=(World.cell?_of_block (hL.o.H.block (a5.add k).block (block_lt_of_cell hcell) (λe=>by rw [ax] at e;injection e with e;omega))).trans hcell;have hns6:=Ns.row (r:=⟨yA,yn,yc,yP⟩) qo hL.o.H (λ_ b hb e=>by injection e with e;have:=Wa.o b hb;omega);have hab2:ar.block<w4.heap.size:=block_lt_of_cell (a:=⟨ar.block,ar.off+2,none⟩) g2;have G2:=O (show∀w',w4.grownBy w' (some (w.heap.size+2))->w'.cell? ⟨ar.block,ar.off+2,none⟩=some (.string nm) from λw' hg=>(World.cell?_of_block (a:=⟨ar.block,ar.off+2,none⟩) (hg.block ar.block hab2 (λe=>by injection e with e;omega))).trans g2);have bd:Below wr.heap.size wr wr.drew:=⟨rfl,rfl,rfl,Nat.le_refl _,λ_ _=>rfl⟩
    have KO:=O (IH.o yA yn yc yP wr.drew (by have:=yy.o;have:=HP.o;omega) (by have:=yy.o;have:=WQ.o;omega) (hns6.keep bd) Ry.o);have HW:=O hL.o.H.size;have BD:=O bd;have HS:=O (λ(w':World) (hb:Below wr.heap.size wr w')=>(show w'.cell? ⟨w.heap.size+2,5,none⟩=some v/\w'.cell? ⟨ar.block,ar.off+2,none⟩=some (.string nm) from⟨(hL.o.X.keep hb).c5,G2.o w' (zf hL.o.H (zc hb _))⟩));have WH:=O (show w.heap.size+3<=w4.heap.size from ZL.o);clear YK kS XM hy Yp JM hyn qo hns6 bd df g2 hcell;go_wp2_with fail;clear hcell2;refine wp_region_noPanic ?_;refine a8 (λ(w':World)=>w'.cell? ⟨w.heap.size+2,5,none⟩=some v/\w'.cell? ⟨ar.block,ar.off+2,none⟩=some (.string nm)) 12 (by kernel_rfl) (HS.o _ BD.o) (λhHeld=>?_);refine zr 0 75 (.pointer (some ⟨w.heap.size+2,5,none⟩)) rfl (λw' hSw=>?_) hHeld ?_
    ·obtain⟨a0,a1⟩:=hSw;go_simp
    try simp only [Act.put,zL]
    refine zr 1 76 v rfl (λw' hSw=>?_) hHeld ?_
    ·obtain⟨a0,a1⟩:=hSw;go_simp
    try simp only [Act.put,zL]
    refine zr 2 77 (.slice (some ar) nr cr) rfl (λw' hSw=>?_) hHeld ?_
    ·obtain⟨a0,a1⟩:=hSw;go_simp
    try simp only [Act.put,zL]
    refine zr 3 78 (.pointer (some ar)) rfl (λw' hSw=>?_) hHeld ?_
    ·obtain⟨a0,a1⟩:=hSw;go_simp
    try simp only [Act.put,zL]
    refine zr 4 79 (.pointer (some ⟨ar.block,ar.off+2,none⟩)) rfl (λw' hSw=>?_) hHeld ?_
    ·obtain⟨a0,a1⟩:=hSw;go_simp
    try simp only [Act.put,zL]
    refine zr 5 80 (.string nm) rfl (λw' hSw=>?_) hHeld ?_
    ·obtain⟨a0,a1⟩:=hSw;go_simp
    try simp only [Act.put,zL]
    refine zr 6 81 (.slice yA yn yc) rfl (λw' hSw=>?_) hHeld ?_
    ·obtain⟨a0,a1⟩:=hSw;go_simp
    try simp only [Act.put,zL]
    refine zA (i:=7) (o:=⟨some 82,_,_,_,_,_⟩) (by kernel_rfl) rfl (λK' hK'=>?_);go_simp;go_at_call 31;refine KO.o.mono ?_;rintro e w6 ⟨u,rfl,ku,b6⟩;have B6:=O (BD.o.trans (b6.mono BD.o.size));obtain⟨o6,n6,s6,t6,p6,A6,m6,c6,rfl⟩:=aG ku;have KU:=O ku;clear ku b6;go_wp2_with fail;refine hK'.out _ _ (λ_=>HS.o _ B6.o) ?_;clear hK' K' hHeld
    try simp only [Act.put,zL]
    refine zr 8 83 (.agg #[.string nm,.bool true,.int .i64 o6,.int .i64 n6,.string s6,.string t6,.pointer p6,.slice A6 m6 c6]) rfl (λw' hSw=>?_) (HS.o _ B6.o) ?_
    ·clear hSw;go_simp
    try simp only [Act.put,zL]
    have B7:=O (B6.o.trans ((za w6 (.cells #[.string nm,.bool true,.int .i64 o6,.int .i64 n6,.string s6,.string t6,.pointer p6,.slice A6 m6 c6] 143)).mono B6.o.size));refine zA (i:=9) (o:=⟨some 84,_,_,_,_,_⟩) (by kernel_rfl) rfl (λK' hK'=>?_);go_simp;refine hK'.out _ _ (λ_=>HS.o _ B7.o) ?_;clear hK' K'
    try simp only [Act.put,zL]
    have RN:=O (eW w6 [.string nm,.bool true,.int .i64 o6,.int .i64 n6,.string s6,.string t6,.pointer p6,.slice A6 m6 c6] 143);have X7:=O (hL.o.X.keep B7.o);have F7:=O (hL.o.F.keepN (zc B7.o none));have H7:=O (zf hL.o.H (zc B7.o (some (w.heap.size+2))));have MY:=O (λg hg=>hL.o.F.own.lt g hg);have KK:=O (show KAt (w6.alloc (.cells #[.string nm,.bool true,.int .i64 o6,.int .i64 n6,.string s6,.string t6,.pointer p6,.slice A6 m6 c6] 143)) (λb=>w4.heap.size<=b/\some b≠v.ownBlock) (jJ yP) [.int .i64 o6,.int .i64 n6,.string s6,.string t6,.pointer p6,.slice A6 m6 c6] from
     ((KU.o.mono (B':=λb=>wr.heap.size<=b/\b<w6.heap.size) λb h1 h2=>⟨h1,h2⟩).cong λb hb=>(za w6 _).block b hb.2).mono λb hb _=>⟨Nat.le_trans HW.o hb.1,λe=>by have:=(MY.o b e.symm).2;have:=hb.1;omega⟩)
    have HB7:=O (show w4.heap.size<=(w6.alloc (.cells #[.string nm,.bool true,.int .i64 o6,.int .i64 n6,.string s6,.string t6,.pointer p6,.slice A6 m6 c6] 143)).heap.size from Nat.le_trans HW.o B7.o.size);refine zA (i:=10) (o:=⟨some 85,_,_,_,_,_⟩) (by kernel_rfl) rfl (λK' hK'=>?_);refine uw rfl (.tmp 76) (.tmp 84) rfl w4.heap.size v E rfl F7.o ⟨(nm,true,jJ yP),o6,n6,s6,t6,p6,A6,m6,c6⟩ ⟨w6.heap.size,0,none⟩ 1 rfl RN.o KK.o Uo.o HB7.o ?_;intro v' w8 hrow hg;have hn:∀b,b<w4.heap.size->some b≠v.ownBlock:=λb hb e=>by have:=(MY.o b e.symm).1;omega
    have X8:=O (X7.o.but hg (hn _ (by have:=WH.o;omega)));have H8:=O (show w4.grownBy w8 (some (w.heap.size+2)) from by
     rcases hv2:v.ownBlock with _|q
     ·rw [hv2] at hg
      exact zf H7.o ⟨hg.os,hg.tape,hg.output,hg.size,λi hi _=>hg.block i hi (λe=>nomatch e)⟩
     ·rw [hv2] at hg
      exact jQ H7.o hg (MY.o q hv2).1)
    have S8:=O (show w8.cell? ⟨w.heap.size+2,5,none⟩=some v/\w8.cell? ⟨ar.block,ar.off+2,none⟩=some (.string nm) from⟨X8.o.c5,G2.o w8 H8.o⟩);have MJ:=O hrow;obtain⟨A8,cp8,hv',-,-,-⟩:=hrow.fat;obtain⟨nl,qX⟩:∃nl,nl=(E ++ [(⟨(nm,true,jJ yP),o6,n6,s6,t6,p6,A6,m6,c6⟩:Fe)]).length:=⟨_,rfl⟩
    rw [<-qX] at hv';subst hv';refine hK'.out _ _ (λ_=>S8.o) ?_;clear qX hrow hg hn hK' K'
    try simp only [Act.put,zL]
    refine zr 11 86 (.pointer (some ⟨w.heap.size+2,5,none⟩)) rfl (λw' hSw=>?_) S8.o ?_
    ·clear hSw;go_simp
    try simp only [Act.put,zL]
    obtain⟨k0,k1,k2,k3,k4,k5,y0,y1,y2,y3,y4,y5⟩:=X8.o;refine zA (i:=12) (o:=⟨none,_,_,_,_,_⟩) (by kernel_rfl) rfl (λK' hK'=>?_);go_simp;refine hK'.out _ _ (λh=>absurd rfl h) ?_;refine jR (by kernel_rfl) ?_;refine NoPanic.normal ?_;clear hK' K' k0 k1 k2 k3 k4 k5 y0 y1 y2 y3 y4 y5;have MR:=O (show RLp w w4 (w8.setCell ⟨w.heap.size+2,5,none⟩ (.slice A8 nl cp8)) (E ++ [⟨(nm,true,jJ yP),o6,n6,s6,t6,p6,A6,m6,c6⟩]) (.slice A8 nl cp8) from by
     have gs:w8.grownBy (w8.setCell ⟨w.heap.size+2,5,none⟩ (.slice A8 nl cp8)) (some (w.heap.size+2)):=zl w8 ⟨w.heap.size+2,5,none⟩ _
     exact⟨X8.o.set5 _,MJ.o.keep gs (by have:=WH.o;omega),zf H8.o gs⟩)
    have hyb:yn<=200:=by have:=yy.o;have:=WQ.o;have:=ZJ.o;omega
    have HNS2:=O (show∀a',(1+yn<cr->a'=ar.add ((1+yn)*4))->Ns w4 (some a') (nr-(1+yn)) (cr-(1+yn)) (zV ((zo P).drop (k+1))) from λa' ha'=>by
     have h1:=Jl (i:=1+yn) Uq.o (by omega) (λh=>by have:=HNC.o;omega) a' ha'
     have e:(dm nm ::(yP ++ zV ((zo P).drop (k+1)))).drop (1+yn)=zV ((zo P).drop (k+1)):=by
      rw [ZJ.o,Nat.add_comm,List.drop_succ_cons,List.drop_append_of_le_length (Nat.le_refl _),List.drop_length,List.nil_append]
     rw [e] at h1
     exact h1)
    have hnc2:1+yn<=cr:=by have:=HNC.o;omega
    go_wp2_with fail;go_roundw
    case rel =>
     obtain⟨a',e',ha',hb'⟩:∃a':Addr,(if cr=1+yn then some ar else some (ar.add ((1+yn)*4)))=some a'/\(1+yn<cr->a'=ar.add ((1+yn)*4))/\a'.block<w.heap.size:=by
      split
      ·exact⟨ar,rfl,λh=>by omega,hab⟩
      ·exact⟨_,rfl,λ_=>rfl,by rw [ax];exact hab⟩
     exact⟨k+1,E ++ [⟨(nm,true,jJ yP),o6,n6,s6,t6,p6,A6,m6,c6⟩],_,some a',_,_,by rw [e'],by go_num,hlt,O (Xh.o _ rfl),O ⟨HNS2.o a' ha',λb e=>by injection e with e;subst e;exact hb'⟩,MR⟩
    case measure=>simp [intOf];omega
   ·have Xd:k=nv:=by omega
    have HEQ:=O (show kk = .fs (ofL (E.map Fe.y)) by
     have h1:=hE.o
     have h2:(zo P).length=nv:=by
      have:=congrArg List.length BQ.o
      rw [List.length_map,List.length_map] at this
      rw [YC.o];omega
     rw [Xd,<-h2,List.take_length] at h1
     rw [HE.o,h1])
    have R4:=O (XR4.o.but hL.o.H (λe=>by injection e with e;omega));obtain⟨A7,cp7,hv',BM,hle,hcm⟩:=hL.o.F.fat;have hlen:(ofL (E.map Fe.y)).len=E.length:=by rw [so,List.length_map]
    rw [<-hlen] at hv' hle;obtain⟨nl,qX⟩:∃nl,nl=(ofL (E.map Fe.y)).len:=⟨_,rfl⟩
    rw [<-qX] at hv' hle;subst hv';have WN:=O BM;have MV:=O hle;have Yd:=O hcm;have HNLL:=O qX;have XL:=O (show Below w.heap.size w wr from MP.o.trans (jE hL.o.H (by omega) MP.o.size));have HZ:=O (show w.heap.size+3<=w4.heap.size from ZL.o);clear BM hle hcm hlen qX Xd;obtain⟨k0,k1,k2,k3,k4,k5,-,-,-,-,-,-⟩:=hL.o.X;obtain⟨z0,z1,z2,z3,z4,z5,r0,r1,r2,r3,r4,r5⟩:=R4.o;go_wp2_with fail;obtain⟨j0,j1,j2,j3,j4,j5,-,-,-,-,-,-⟩:=R4.o.set (.int .i64 46) (.int .i64 0) (.string ⟨#[]⟩) (.string ⟨#[]⟩) (.pointer none) (.slice A7 nl cp7);refine bodyPost_ret (v := .agg #[.int .i64 46,.int .i64 0,.string ⟨#[]⟩,.string ⟨#[]⟩,.pointer none,.slice A7 nl cp7]) (by simp [results,Tryz.results31,go_sem,j0,j1,j2,j3,j4,j5]) rfl ?_;rw [HEQ.o];refine⟨[.int .i64 46,.int .i64 0,.string ⟨#[]⟩,.string ⟨#[]⟩,.pointer none,.slice A7 nl cp7],rfl,⟨0,A7,cp7,by rw [HNLL.o];rfl,by rw [<-HNLL.o];exact MV.o,Yd.o,?_⟩,jY XL.o (Nat.le_refl _) _ _ _ _ _ _⟩;exact(WN.o.cong λb hb=>ae wr w.heap.size _ _ _ _ _ _ (by have:=HZ.o;omega)).mono λb hb _=>by have:=HZ.o;omega
theorem tU:∀N:Nat,Ve N
 | 0=>λA n c P w h _ _ hV=>absurd hV.pos (by omega)
 | N+1=>λA n c P w h h2 df hV=>by
  by_cases h5:zg P=5
  ·exact Su N (tU N) A n c P w h h2 df hV h5
  ·by_cases h6:zg P=6
   ·exact Se N (tU N) A n c P w h h2 df hV h6
   ·exact QV A n c P w df hV h5 h6
theorem Ns.kinds_Has{A1 A2:Option Addr}{n1 c1 n2 c2:Nat}{T V:List Nd}{w:World}(h:Ns w A1 n1 c1 T)(k:Ns w A2 n2 c2 V):
 Calls Tryz.prog 10 #[.slice A1 n1 c1,.slice A2 n2 c2] w λe w'=>e = .returned (.tuple #[.bool (gV T V),je (gz T V)])/\Below w.heap.size w w':=by
 have C1:=O (kJ A1 n1 c1 T w h);have C2:=O (λw' hb=>zP (k.keep (w':=w') hb));have HV:=O k;have HF:=O (show gz T V=if zK T=0 then zh V else zK T from rfl);clear h k;go_enter Tryz.func10,Tryz.ntmps10;go_wp2_with fail;refine C1.o.mono ?_;rintro e w1 ⟨b1,o,n,s,t,p,A,m,c,rfl,hk⟩;have B1:=O b1;have HK:=O hk;have X1:=O (jf w1 (.int .i64 o) (.int .i64 n) (.string s) (.string t) (.pointer p) (.slice A m c) 81);have BX:=O (b1.trans ((za w1 (.cells #[.int .i64 o,.int .i64 n,.string s,.string t,.pointer p,.slice A m c] 81)).mono b1.size));have HZ:=O (show(w1.alloc (.cells #[.int .i64 o,.int .i64 n,.string s,.string t,.pointer p,.slice A m c] 81)).heap.size=w1.heap.size+1 by simp);clear b1 hk C1;obtain⟨f1,Uu⟩:∃f1,f1=zK T:=⟨_,rfl⟩
 obtain⟨f2,hf2⟩:∃f2,f2=zh V:=⟨_,rfl⟩
 obtain⟨f,hf⟩:∃f,f=gz T V:=⟨_,rfl⟩
 have RA:=O hf;rw [<-hf,<-Uu,<-hf2] at HF;rw [<-hf2] at C2;rw [<-Uu];have Zu:=O Uu;have FI:=O hf2;clear Uu hf2 hf;have KF:=O (show∀(ad:Addr) (w':World),w'.cell? ad=some (je f1)->w'.cell? ⟨ad.block,ad.off+1,none⟩=some (je f2)->Calls Tryz.prog 28 #[.slice (some ad) 2 2] w' λe w''=>e = .returned (je f)/\Below w'.heap.size w' w'' from λad w' h0 h1=>by
  rw [HF.o];exact uF f1 f2 ad w' h0 h1)
 have W1:=(mP f1).imp And.right And.right;have W2:=(mP f2).imp And.right And.right;by_cases h0:f=0
 ·rw [h0,zj] at KF;have Rv:=Fg.1 (RA.o.symm.trans h0);obtain⟨kk,vk,ek,kat⟩:=HK.o Rv.1;have Xe:=O kat;have Ry:=O vk;have hkin:Kin T kk:=⟨vk,ek,(cm.1 Rv.1).1⟩
  have HB:=O (hkin.has Rv.2);have HKS:=O hkin.sz;have XG:=O (zy.1 Rv.2);have HF0:=O h0;clear h0 Rv vk ek kat hkin HK;generalize je f1=v1 at *;generalize je f2=v2 at *;rcases W1 with rfl|rfl <;> rcases W2 with rfl|rfl
  all_goals
   go_wp2_with fail;refine(C2.o _ BX.o).mono ?_;rintro e w2 ⟨rfl,b2⟩;have B2:=O b2;clear b2;have rn:=λv1 v2=>ag w2 [v1,v2] 34;have R0:=O (λv1 v2=>rn v1 v2 0 _ rfl);have R1:=O (λv1 v2=>rn v1 v2 1 _ rfl);clear rn;go_wp2_with fail;refine(KF.o _ _ (R0.o _ _) (R1.o _ _)).mono ?_;rintro e w3 ⟨rfl,b3⟩;have B3:=O (B2.o.trans (((za w2 _).trans (b3.mono (by simp))).mono B2.o.size));clear b3;go_wp2_with fail;have X3:=O (X1.o.keep B3.o);have YM:=O (BX.o.trans (B3.o.mono BX.o.size));have B13:=O (show Below w1.heap.size w1 w3 from(za w1 (.cells #[.int .i64 o,.int .i64 n,.string s,.string t,.pointer p,.slice A m c] 81)).trans (B3.o.mono (by simp)));have bd:Below w3.heap.size w3 w3.drew:=⟨rfl,rfl,rfl,Nat.le_refl _,λ_ _=>rfl⟩
   have BD:=O bd;have KO:=O (tU _ A2 n2 c2 V w3.drew (Nat.le_refl _) XG.o.1 (HV.o.keep (YM.o.trans (bd.mono YM.o.size))) XG.o.2);have HOS:=O (GG XG.o.2);have KBB:=O (λ(u:List Value) (w5:World) (hb:Below w3.heap.size w3 w5) (ku:KAt w5 (λb=>w3.drew.heap.size<=b) (jJ V) u)=>ov _ (jJ V) kk u _ w5 (λb=>w.heap.size<=b/\b<w5.heap.size) (Nat.le_refl _) (by have:=HOS.o;have:=XG.o.1;omega) (by have:=HKS.o;omega)
    (ku.mono λb h1 h2=>⟨Nat.le_trans YM.o.size h1,h2⟩)
    (((Xe.o.mono (B':=λb=>w.heap.size<=b/\b<w1.heap.size) λb h1 h2=>⟨h1,h2⟩).cong (w':=w5) λb hb2=>(B13.o.trans (hb.mono B13.o.size)).block b hb2.2).mono λb h1 h2=>⟨h1.1,h2⟩)
    (mJ XG.o.2) Ry.o (λb hb=>hb.2))
   clear bd;obtain⟨a0,a1,a2,a3,a4,a5,-,-,-,-,-,-⟩:=X3.o;go_region_held3 (λ(w':World)=>w'.cell? ⟨w1.heap.size,0,none⟩=some (.int .i64 o)/\w'.cell? ⟨w1.heap.size,1,none⟩=some (.int .i64 n)/\w'.cell? ⟨w1.heap.size,2,none⟩=some (.string s)/\w'.cell? ⟨w1.heap.size,3,none⟩=some (.string t)/\w'.cell? ⟨w1.heap.size,4,none⟩=some (.pointer p)/\w'.cell? ⟨w1.heap.size,5,none⟩=some (Value.slice A m c)) (first|go_keep)
    (first
     |(go_at_call 31;(refine KO.o.mono ?_);rintro e w5 ⟨u,rfl,ku,b5⟩;(have B5:=O (BD.o.trans (b5.mono BD.o.size)));(have KB:=O (KBB.o u w5 B5.o ku));(obtain⟨o6,n6,s6,t6,p6,A6,m6,c6,rfl⟩:=aG ku);clear a0 a1 a2 a3 a4 a5 ku b5;(obtain⟨a0,a1,a2,a3,a4,a5,-,-,-,-,-,-⟩:=X3.o.keep B5.o))
     |(go_at_call 30;(refine KB.o.mono ?_);rintro e w6 ⟨rfl,b6⟩;(have B6:=O (B5.o.trans (b6.mono B5.o.size)));clear a0 a1 a2 a3 a4 a5 b6;(obtain⟨a0,a1,a2,a3,a4,a5,-,-,-,-,-,-⟩:=X3.o.keep B6.o)))
   all_goals
    go_wp2_with fail;go_ret2;exact⟨by rw [HB.o,<-RA.o,HF0.o];rfl,YM.o.trans (B6.o.mono YM.o.size)⟩
 ·have HE:=O (show gV T V=false by unfold gV;rw [<-RA.o,decide_eq_false h0];rfl);have ay:=O (show je (gz T V)= .iface 41 (.int .i64 f) by rw [<-RA.o];exact zm h0);rw [zm h0] at KF;clear h0;generalize je f1=v1 at *;generalize je f2=v2 at *;rcases W1 with rfl|rfl <;> rcases W2 with rfl|rfl
  all_goals
   go_wp2_with fail;refine(C2.o _ BX.o).mono ?_;rintro e w2 ⟨rfl,b2⟩;have B2:=O b2;clear b2;have rn:=λv1 v2=>ag w2 [v1,v2] 34;have R0:=O (λv1 v2=>rn v1 v2 0 _ rfl);have R1:=O (λv1 v2=>rn v1 v2 1 _ rfl);clear rn;go_wp2_with fail;refine(KF.o _ _ (R0.o _ _) (R1.o _ _)).mono ?_;rintro e w3 ⟨rfl,b3⟩;have B3:=O (B2.o.trans (((za w2 _).trans (b3.mono (by simp))).mono B2.o.size));clear b3;go_wp2_with fail;go_ret2;exact⟨by rw [HE.o,ay.o];rfl,BX.o.trans (B3.o.mono BX.o.size)⟩
end Go.Proofs.YthifljpkgfpkiaaGreatDoor
namespace Go.Proofs.YthifljpkgfpkiaaGreatDoor
open Go.RowKit Go.Wk
def kB:List Ud->List Value
 | [] => []
 | u :: U => .string u.1 :: .string u.2 :: kB U
@[simp] theorem udCells_length (U:List Ud):(kB U).length=U.length*2:=by
 induction U with
 | nil=>rfl
 | cons u U ih=>simp only [kB,List.length_cons,ih];omega
theorem udCells_append(U V:List Ud):kB (U ++ V)=kB U ++ kB V:=by
 induction U with
 | nil=>rfl
 | cons u U ih=>simp only [List.cons_append,kB,ih]
end Go.Proofs.YthifljpkgfpkiaaGreatDoor
namespace Go.Wk
def ir(K M:List Ud):Nat:=(K.filter λp => !cM M p).length
theorem DC(K M:List Ud):ir K M<=K.length:=List.length_filter_le _ _
theorem tV{K M M':List Ud}(h:∀x∈M,x∈M'):ir K M'<=ir K M:=by
 induction K with
 | nil=>exact Nat.le_refl _
 | cons x K ih =>
  unfold ir at ih ⊢
  simp only [List.filter_cons]
  by_cases h1:cM M x=true
  ·rw [bE.2 (h x (bE.1 h1)),h1];simpa using ih
  ·have MH:cM M x=false:=by simpa using h1
   rw [MH];by_cases h2:cM M' x=true
   ·rw [h2];simp;omega
   ·have Rm:cM M' x=false:=by simpa using h2
    rw [Rm];simp;omega
theorem GN{K M:List Ud}{p:Ud}(hp:p∈K)(hn:p ∉ M):ir K (M ++ [p])<ir K M:=by
 induction K with
 | nil=>cases hp
 | cons x K ih =>
  have hle:=tV (K:=K) (M:=M) (M':=M ++ [p]) (λy hy=>List.mem_append_left _ hy)
  unfold ir at ih hle ⊢
  simp only [List.filter_cons]
  by_cases hx:x=p
  ·subst hx
   have h1:cM M x=false:=QF.2 hn;have h2:cM (M ++ [x]) x=true:=bE.2 (by simp);rw [h1,h2];simp;omega
  ·have Y8:p∈K:=by
    rcases List.mem_cons.1 hp with h|h
    ·exact absurd h.symm hx
    ·exact h
   have:=ih Y8;have e:cM (M ++ [p]) x=cM M x:=by
    rw [Bool.eq_iff_iff,bE,bE,List.mem_append];constructor
    ·rintro (h|h)
     ·exact h
     ·simp only [List.mem_cons,List.not_mem_nil,or_false] at h;exact absurd h hx
    ·exact λh => .inl h
   rw [e];by_cases h1:cM M x=true
   ·rw [h1];simpa using this
   ·have MH:cM M x=false:=by simpa using h1
    rw [MH];simp;omega
structure VC(G:List (Ud × List Ud))(u:Ud)(M M':List Ud):Prop where
 sub:∀x∈M,x∈M'
 sound:∀x∈M',x∈M\/Abv G u x
 here:∀p,Stp G u p->p∈M'
 shut:∀x∈M',x ∉ M->∀p,Stp G x p->p∈M'
theorem Nw{G:List (Ud × List Ud)}{u:Ud}{M':List Ud}(h:VC G u [] M')(x:Ud):x∈M'↔Abv G u x :=
 ⟨λhx=>(h.sound x hx).resolve_left (by simp),tf (C:=λy=>y∈M') (λy hy p hp=>h.shut y hy (by simp) p hp) h.here x⟩
theorem JW{G:List (Ud × List Ud)}{a:Ud}{M':List Ud}(h:VC G a [a] M')(x:Ud):x∈M'↔x=a\/Abv G a x:=by
 constructor
 ·intro hx;rcases h.sound x hx with h1|h1
  ·simp only [List.mem_cons,List.not_mem_nil,or_false] at h1;exact .inl h1
  ·exact .inr h1
 ·rintro (rfl|h1)
  ·exact h.sub _ (by simp)
  ·exact tf (C:=λy=>y∈M') (λy hy p hp=>by
    by_cases e:y=a
    ·subst e;exact h.here p hp
    ·exact h.shut y hy (by simpa using e) p hp) h.here x h1
end Go.Wk
namespace Go.Proofs.YthifljpkgfpkiaaGreatDoor
open Go.RowKit Go.Wk Go.Maps
theorem Us.but0{w w':World}{A:Option Addr}{n c:Nat}{P:List Ud}{g:Option Nat}(h:Us w A n c P)(hg:w.grownBy w' g)(hR:0<P.length->∀a,A=some a->g≠some a.block):Us w' A n c P:=by
 rcases Nat.eq_zero_or_pos P.length with h0|h0
 ·have:P = []:=List.eq_nil_of_length_eq_zero h0;subst this;exact⟨h.len,h.cap,h.max,λk x hx=>by simp at hx,h.ok⟩
 ·exact h.but hg (hR h0)
structure ky(w:World)(bs bm:Nat)(E:List En):Prop where
 map:w.ownsMap Tryz.prog 28 aT bs E.length (ew (cd E))
 ne:bs≠bm
 ups:∀x∈E,Us w x.UA x.un x.uc x.ups
 ap:∀x∈E,0<x.ups.length->∀a,x.UA=some a->some bm≠some a.block
theorem ky.grown{w w':World}{bs bm:Nat}{E:List En}(h:ky w bs bm E)(hg:w.grownBy w' (some bm)):ky w' bs bm E :=
 ⟨wA h.map (hg.block bs h.map.lt (λe=>h.ne (by injection e))),h.ne,λx hx=>(h.ups x hx).but0 hg (h.ap x hx),h.ap⟩
def wM(M:List Ud):List (Ud × Value):=M.map λp=>(p,.int .i64 1)
def k7(w:World)(bm:Nat)(M:List Ud):Prop:=w.ownsMap Tryz.prog 28 aT bm M.length (ew (wM M))
theorem qD(M:List Ud)(p:Ud):gw (wM M) p=if cM M p=true then some (.int .i64 1) else none:=by
 induction M with
 | nil=>rfl
 | cons x r ih =>
  have:cM (x :: r) p=(decide (x=p)|| cM r p):=rfl
  simp only [wM,List.map_cons,gw]
  have ih':gw (List.map (λp=>(p,Value.int .i64 1)) r) p=if cM r p=true then some (.int .i64 1) else none:=ih
  rw [ih',this]
  by_cases h1:cM r p=true
  ·rw [h1];simp
  ·have MH:cM r p=false:=by simpa using h1
   rw [MH];by_cases h2:x=p
   ·simp [h2]
   ·simp [h2]
theorem y8{M:List Ud}(h:∀x∈M,UOk x):∀y∈wM M,UOk y.1:=λy hy=>by
 obtain⟨x,hx,rfl⟩:=List.mem_map.1 hy;exact h x hx
def cP(E:List En):List (Ud × List Ud):=E.map λx=>(x.u,x.ups)
def fg(E:List En):List Ud:=E.flatMap λx=>x.ups
theorem FX{w:World}{bs bm:Nat}{E:List En}(h:ky w bs bm E)(hn:(E.map En.u).Nodup)(de:∀x∈E,UOk x.u)(u:Ud)(hu:UOk u):
 ∃(ty id:ByteArray) (UA:Option Addr) (un uc:Nat) (ups:List Ud) (NA:Option Addr) (nn nc:Nat),
  (ew (cd E)).atKey (fA u) (.held Uy)= .held (.agg #[.string ty,.string id,.slice UA un uc,.slice NA nn nc])/\Us w UA un uc ups/\
  (0<ups.length->∀a,UA=some a->some bm≠some a.block)/\(∀p,Stp (cP E) u p↔p∈ups)/\∀p∈ups,p∈fg E:=by
 by_cases hx:∃x∈E,x.u=u
 ·obtain⟨x,hx,rfl⟩:=hx;refine⟨x.u.1,x.u.2,x.UA,x.un,x.uc,x.ups,x.NA,x.nn,x.nc,?_,h.ups x hx,h.ap x hx,λp=>⟨?_,λhp=>⟨(x.u,x.ups),List.mem_map.2 ⟨x,hx,rfl⟩,rfl,hp⟩⟩,λp hp=>List.mem_flatMap.2 ⟨x,hx,hp⟩⟩
  ·rw [oW _ _ (de x hx) _ (EB de)];have:gw (cd E) x.u=some x.v:=Gc (x:=(x.u,x.v)) (by rw [cd,List.map_map];exact hn) (List.mem_map.2 ⟨x,hx,rfl⟩);rw [this];rfl
  ·rintro ⟨e,he,h1,h2⟩;obtain⟨y,hy,rfl⟩:=List.mem_map.1 he;have:y=x:=by
    obtain⟨i,hi,rfl⟩:=List.getElem_of_mem hy;obtain⟨j,hj,rfl⟩:=List.getElem_of_mem hx;have hp:=List.pairwise_iff_getElem.1 hn;rcases Nat.lt_trichotomy i j with hlt|he|hlt
    ·have q:=hp i j (by simpa using hi) (by simpa using hj) hlt;rw [List.getElem_map,List.getElem_map] at q;exact absurd h1 q
    ·subst he;rfl
    ·have q:=hp j i (by simpa using hj) (by simpa using hi) hlt;rw [List.getElem_map,List.getElem_map] at q;exact absurd h1.symm q
   subst this;exact h2
 ·refine⟨⟨#[]⟩,⟨#[]⟩,none,0,0,[],none,0,0,?_,⟨rfl,Nat.le_refl _,Nat.zero_le _,λk x hx=>by simp at hx,λx hx=>by cases hx⟩,λh=>absurd h (by simp),λp=>⟨?_,λh=>by cases h⟩,λp hp=>by cases hp⟩
  ·rw [oW _ _ hu _ (EB de),u6]
   ·rfl
   ·intro y hy e;obtain⟨z,hz,rfl⟩:=List.mem_map.1 hy;exact hx ⟨z,hz,e⟩
  ·rintro ⟨e,he,h1,h2⟩;obtain⟨y,hy,rfl⟩:=List.mem_map.1 he;exact absurd ⟨y,hy,h1⟩ hx
structure Mid(E:List En)(u:Ud)(ups M Mk:List Ud)(k:Nat)(w wr:World)(bm:Nat):Prop where
 sub:∀x∈M,x∈Mk
 sound:∀x∈Mk,x∈M\/Abv (cP E) u x
 here:∀p∈ups.take k,p∈Mk
 shut:∀x∈Mk,x ∉ M->∀p,Stp (cP E) x p->p∈Mk
 ok:∀x∈Mk,UOk x
 cnt:Mk.length+ir (fg E) Mk<=M.length+ir (fg E) M
 met:k7 wr bm Mk
 grow:w.grownBy wr (some bm)
def TU(E:List En)(u:Ud)(M:List Ud)(w:World)(bm:Nat)(e:Ending)(w':World):Prop :=
 e = .returned (.tuple #[])/\∃M',VC (cP E) u M M'/\(∀x∈M',UOk x)/\M'.length+ir (fg E) M'<=M.length+ir (fg E) M/\k7 w' bm M'/\w.grownBy w' (some bm)
theorem Pe(x y:Value)(A B:Option Addr)(n c m d:Nat)(w:World):(Instr.field 56 (.agg #[x,y,.slice A n c,.slice B m d]) 1).run Tryz.prog w = .ok (.slice A n c) w:=by kernel_rfl
theorem iz(w:World):(zeroValue 3).run Tryz.prog w = .ok (.int .i64 0) w:=by kernel_rfl
theorem x9(E:List En)(bs bm:Nat)(hn:(E.map En.u).Nodup)(de:∀x∈E,UOk x.u):∀(m:Nat) (w:World) (u:Ud) (M:List Ud),UOk u->(∀x∈M,UOk x)->ir (fg E) M<m->M.length+ir (fg E) M<=1000000->
 ky w bs bm E->k7 w bm M->Calls Tryz.prog 41 #[.map (some bs),udV u,.map (some bm)] w (TU E u M w bm):=by
 intro m
 induction m with
 | zero=>intro w u M _ _ h;omega
 | succ m ih =>
  intro w u M hu hM hm hc hS hMet
  obtain⟨ty,id,UA,un,uc,ups,NA,nn,nc,hat,RE,hap,hstp,Rz⟩:=FX hS hn de u hu
  have HS:=O hS
  have HMet:=O hMet
  have Xc:=O hat
  have HUS:=O RE
  have HK:=O (dN u hu)
  have HSTP:=O hstp
  have HIN:=O Rz
  have HAP:=O hap
  have HUL:=O RE.len
  have hmax:=RE.max
  unfold maxLen at hmax
  clear hS hMet hat RE hstp Rz hap
  unfold udV at HK ⊢
  have G0:=O (World.grownBy_alloc w (.cells #[.string u.1,.string u.2] 28) (some bm))
  have S0:=O (HS.o.grown G0.o)
  have M0:=O (show k7 _ bm M from jA HMet.o (za w (.cells #[.string u.1,.string u.2] 28)))
  have U0:=O (HUS.o.keep (za w (.cells #[.string u.1,.string u.2] 28)))
  clear HS HMet HUS
  go_enter Tryz.func41,Tryz.ntmps41
  go_wp2_with (at_lookup;refine am _ rfl _ _ 98 rfl 28 56 bc Tryz.underlying98 (Qe _) bs E.length _ rfl S0.o.map _ _ rfl HK.o _ Xc.o ?_)
  obtain⟨w0,hw0⟩:∃w0,w.alloc (.cells #[.string u.1,.string u.2] 28)=w0:=⟨_,rfl⟩
  rw [hw0] at G0 S0 M0 U0 ⊢
  clear hw0 HK Xc
  have Ze:=Pe (.string ty) (.string id) UA NA un uc nn nc
  go_wp2_with fail
  rw [Ze]
  clear Ze
  go_wp2_with fail
  go_loopw [7,13] (λ_ i wr=>∃(k:Nat) (Mk:List Ud),k<=un/\i = .int .i64 k/\Hid (Mid E u ups M Mk k w0 wr bm)) (λ_ i _=>un-(intOf i).toNat)
  case atStart=>exact⟨0,M,Nat.zero_le _,rfl,⟨λ_ h=>h,λ_ h => .inl h,λp h=>by simp at h,λx h h2=>absurd h h2,hM,Nat.le_refl _,M0.o,⟨rfl,rfl,rfl,Nat.le_refl _,λ_ _ _=>rfl⟩⟩⟩
  case round =>
   obtain⟨k,Mk,hk,rfl,dT⟩:=hrel;by_cases hlt:k<un
   ·have db:k<ups.length:=by rw [<-HUL.o];exact hlt
    have SR:=O (S0.o.grown dT.o.grow);have UR:=O (U0.o.but0 dT.o.grow HAP.o);obtain⟨a,rfl,q0,q1⟩:=UR.o.at_ k _ (List.getElem?_eq_getElem db);have Y8:=HIN.o _ (List.getElem_mem db);have Rw:=(HSTP.o _).2 (List.getElem_mem db);have hpo:UOk ups[k]:=UR.o.ok _ (List.getElem_mem db);have WF:ups.take (k+1)=ups.take k ++ [ups[k]]:=List.take_succ_eq_append_getElem db;generalize ups[k]=p at *;have HKp:=O (dN p hpo);have Zk:=O WF;have US:=O Y8;have WS:=O Rw;have Xm:=O hpo;clear WF Y8 Rw hpo;unfold udV at HKp;have G1:=O (dT.o.grow.trans (World.grownBy_alloc wr (.cells #[.string p.1,.string p.2] 28) (some bm)));have M1:=O (show k7 _ bm Mk from jA dT.o.met (za wr (.cells #[.string p.1,.string p.2] 28)));have P1:=O (kM wr (.string p.1) (.string p.2) 28);have S1:=O (SR.o.grown (World.grownBy_alloc wr (.cells #[.string p.1,.string p.2] 28) (some bm)));have BU:=O (oW (wM Mk) p Xm.o (.int .i64 0) (y8 dT.o.ok));rw [qD] at BU;by_cases hp:p∈Mk
    ·rw [if_pos (bE.2 hp)] at BU;have HP:=O hp;clear hp;go_wp2_with (at_lookup;refine am _ rfl _ _ 100 rfl 28 3 bc Tryz.underlying100 (iz _) bm Mk.length _ rfl M1.o _ _ rfl HKp.o _ BU.o ?_);go_wp2_with fail;go_roundw
     case rel =>
      refine⟨k+1,Mk,by omega,by go_num,O ⟨dT.o.sub,dT.o.sound,λy hy=>?_,dT.o.shut,dT.o.ok,dT.o.cnt,M1.o,G1.o⟩⟩;rw [Zk.o] at hy;rcases List.mem_append.1 hy with hy|hy
      ·exact dT.o.here y hy
      ·simp only [List.mem_cons,List.not_mem_nil,or_false] at hy;subst hy;exact HP.o
     case measure=>simp [intOf];omega
    ·rw [if_neg (λe=>hp (bE.1 e))] at BU;have hum:=GN US.o hp;have HP:=O hp;clear hp;go_wp2_with (first|(at_lookup;refine am _ rfl _ _ 100 rfl 28 3 bc Tryz.underlying100 (iz _) bm Mk.length _ rfl M1.o _ _ rfl HKp.o _ BU.o ?_)|(at_mapUpdate;refine wpList_mapUpdate_own _ rfl _ _ _ 100 rfl 28 3 bc Tryz.underlying100 aT bm Mk.length _ rfl M1.o (by have:=dT.o.cnt;unfold maxLen;omega) _ _ _ rfl rfl HKp.o _ [] rfl ?_));intro w4 hown hgrow;have hbl:=M1.o.lt;have Wt:bm<wr.heap.size:=dT.o.met.lt;have M4:=O (show k7 w4 bm (Mk ++ [p]) by
      unfold k7
      have e:wM (Mk ++ [p])=wM Mk ++ [(p,.int .i64 1)]:=by simp [wM]
      rw [e,iU,List.length_append];exact hown)
     have G4:=O (G1.o.trans hgrow);have S4:=O (S1.o.grown hgrow);have Ys:w4.heap[wr.heap.size]?=(wr.alloc (.cells #[.string p.1,.string p.2] 28)).heap[wr.heap.size]?:=hgrow.block _ (by simp) (by intro e;injection e with e;omega);have c0:w4.cell? ⟨wr.heap.size,0,none⟩=some (.string p.1):=(World.cell?_of_block (a:=⟨wr.heap.size,0,none⟩) Ys).trans P1.o.c0;have c1:w4.cell? ⟨wr.heap.size,1,none⟩=some (.string p.2):=(World.cell?_of_block (a:=⟨wr.heap.size,1,none⟩) Ys).trans P1.o.c1;have hcnt:=dT.o.cnt;have hmono:=tV (K:=fg E) dT.o.sub;have hlen1:(Mk ++ [p]).length=Mk.length+1:=by simp
     have KI:=O (ih w4 p (Mk ++ [p]) Xm.o (λy hy=>by
      rcases List.mem_append.1 hy with hy|hy
      ·exact dT.o.ok y hy
      ·simp only [List.mem_cons,List.not_mem_nil,or_false] at hy;subst hy;exact Xm.o) (by omega) (by omega) S4.o M4.o)
     unfold udV at KI;clear hown hgrow hbl Wt Ys M1 P1 S1 G1 q0 q1 SR UR BU;go_wp2_with fail;refine(KI.o).mono ?_;rintro e w5 ⟨rfl,M5,hA,hok5,hc5,hm5,hg5⟩;go_wp2_with fail;go_roundw
     case rel =>
      have MM:∀y∈Mk,y∈M5:=λy hy=>hA.sub y (List.mem_append_left _ hy);have hpM:p∈M5:=hA.sub p (by simp);refine⟨k+1,M5,by omega,by go_num,O ⟨λy hy=>MM y (dT.o.sub y hy),λy hy=>?_,λy hy=>?_,λy hy hyM q hq=>?_,hok5,by omega,hm5,G4.o.trans hg5⟩⟩
      ·rcases hA.sound y hy with h|h
       ·rcases List.mem_append.1 h with h|h
        ·exact dT.o.sound y h
        ·simp only [List.mem_cons,List.not_mem_nil,or_false] at h;subst h;exact .inr (.one WS.o)
       ·exact .inr (.more WS.o h)
      ·rw [Zk.o] at hy;rcases List.mem_append.1 hy with hy|hy
       ·exact MM y (dT.o.here y hy)
       ·simp only [List.mem_cons,List.not_mem_nil,or_false] at hy;subst hy;exact hpM
      ·by_cases h1:y∈Mk
       ·exact MM q (dT.o.shut y h1 hyM q hq)
       ·by_cases h2:y=p
        ·subst h2;exact hA.here q hq
        ·exact hA.shut y hy (by
          intro h
          rcases List.mem_append.1 h with h|h
          ·exact h1 h
          ·simp only [List.mem_cons,List.not_mem_nil,or_false] at h;exact h2 h) q hq
     case measure=>simp [intOf];omega
   ·have WF:ups.take k=ups:=List.take_of_length_le (by rw [<-HUL.o];omega);go_wp2_with fail;go_end0;refine⟨rfl,Mk,⟨dT.o.sub,dT.o.sound,λq hq=>dT.o.here q (by rw [WF];exact(HSTP.o q).1 hq),dT.o.shut⟩,dT.o.ok,dT.o.cnt,dT.o.met,G0.o.trans dT.o.grow⟩
end Go.Proofs.YthifljpkgfpkiaaGreatDoor
namespace Go.Proofs.YthifljpkgfpkiaaGreatDoor
open Go.RowKit Go.Wk
theorem H5(x e:En)(b:Nat)(w:World)(hv:Vr4 w b e):
 Calls Tryz.prog 38 #[x.v,.pointer (some ⟨b,0,none⟩)] w λr w'=>r = .returned (.bool (decide (x.u=e.u)))/\Below w.heap.size w w':=by
 have B0:=O (za w (.cells #[.string x.u.1,.string x.u.2,.slice x.UA x.un x.uc,.slice x.NA x.nn x.nc] 56));obtain⟨e0,e1,-,-⟩:=hv.keep B0.o;clear hv;have HD:=O (show decide (x.u=e.u)=(x.u.1.toList==e.u.1.toList && x.u.2.toList==e.u.2.toList) by
  by_cases he:x.u=e.u
  ·rw [he];simp
  ·rcases Ih he with h1|⟨h1,h2⟩
   ·rw [decide_eq_false he,h1];rfl
   ·rw [decide_eq_false he,h1,h2];rfl)
 obtain⟨d,hd⟩:∃d,d=decide (x.u=e.u):=⟨_,rfl⟩
 rw [<-hd] at HD ⊢;clear hd;unfold En.v;obtain⟨⟨p1,p2⟩,UA,un,uc,ups,NA,nn,nc,P⟩:=x;generalize e.u=q at *;dsimp only at *;rcases h1:(p1.toList==q.1.toList) with _|_
 ·rw [h1] at HD;go_enter Tryz.func38,Tryz.ntmps38;go_wp2_with fail;go_ret;exact⟨by rw [HD.o];rfl,B0.o⟩
 ·rcases h2:(p2.toList==q.2.toList) with _|_
  ·rw [h1,h2] at HD;go_enter Tryz.func38,Tryz.ntmps38;go_wp2_with fail;go_ret;exact⟨by rw [HD.o];rfl,B0.o⟩
  ·rw [h1,h2] at HD;go_enter Tryz.func38,Tryz.ntmps38;go_wp2_with fail;go_ret;exact⟨by rw [HD.o];rfl,B0.o⟩
def mU(E:List En)(u:Ud):Bool:=E.any λx=>decide (x.u=u)
theorem Ec{E:List En}{u:Ud}:mU E u=true↔∃x∈E,x.u=u:=by simp [mU]
theorem Ky{E:List En}{k:Nat}(h:k<E.length)(u:Ud):mU (E.take (k+1)) u=(mU (E.take k) u || decide (E[k].u=u)):=by
 unfold mU;rw [List.take_succ_eq_append_getElem h,List.any_append];simp
theorem Es.take{w:World}{A:Option Addr}{n c k:Nat}{E:List En}(h:Es w A n c E)(hk:k<=n):Es w A k c (E.take k):=
 ⟨by rw [List.length_take,<-h.len];omega,Nat.le_trans hk h.cap,Nat.le_trans hk h.max,λj x hx=>by
  rw [List.getElem?_take] at hx
  split at hx
  ·exact h.at_ j x hx
  ·cases hx⟩
theorem vo(A:Option Addr)(n c:Nat)(E:List En)(e:En)(b:Nat)(w:World)(h:Es w A n c E)(hv:Vr4 w b e):
 Calls Tryz.prog 79 #[.slice A n c,.func (.func 38) #[] #[.pointer (some ⟨b,0,none⟩)]] w
  λr w'=>(∃k:Int,r = .returned (.int .i64 k)/\(0<=k↔mU E e.u=true))/\Below w.heap.size w w':=by
 have eg:∀args w,(callFunc 38 args).run Tryz.prog w = .ok (.enter 38 args) w:=enters_of Tryz.func38 (by kernel_rfl) rfl;have K:=O (λx w' hb=>H5 x e b w' (hv.keep (w':=w') hb));have HL:=O h.len;have HM:=h.max;unfold maxLen at HM;have HA:=O (h.at_);clear h hv;generalize e.u=u at *;go_enter Tryz.func79,Tryz.ntmps79;go_wp2_with fail;go_loopw [5,8] (λ_ i wr=>∃k:Nat,k<=n/\i = .int .i64 k/\Hid (mU (E.take k) u=false)/\Hid (Below w.heap.size w wr)) (λ_ i _=>n-(intOf i).toNat)
 case atStart=>exact⟨0,Nat.zero_le _,rfl,rfl,O (Below.refl _ _)⟩
 case round =>
  obtain⟨k,hk,rfl,hN,hB⟩:=hrel;by_cases hlt:k<n
  ·have db:k<E.length:=by rw [<-HL.o];exact hlt
   have HT:=O (Ky db u);obtain⟨a,rfl,q0,q1,q2,q3,-⟩:=(HA.o.keep hB.o) k _ (List.getElem?_eq_getElem db);have KX:=O (K.o E[k] wr hB.o);have HY:=O (show decide (E[k].u=u)=true->mU E u=true from λhe=>Ec.2 ⟨_,List.getElem_mem db,of_decide_eq_true he⟩);generalize E[k]=x at *;unfold En.v at KX;rcases hd:decide (x.u=u) with _|_
   ·rw [hd,Bool.or_false,hN.o] at HT;rw [hd] at KX;clear hd;go_wp2_with (go_at_fn 38;refine KX.o.mono ?_;rintro e w1 ⟨rfl,b1⟩);have B1:=bh hB b1;clear q0 q1 q2 q3 hB b1 KX;go_wp2_with fail;go_roundw
    case rel=>exact⟨k+1,by omega,by go_num,HT,B1⟩
    case measure=>simp [intOf];omega
   ·rw [hd] at KX;have HZ:=O (HY.o hd);clear hd HT;go_wp2_with (go_at_fn 38;refine KX.o.mono ?_;rintro e w1 ⟨rfl,b1⟩);have B1:=bh hB b1;clear q0 q1 q2 q3 hB b1 KX;go_wp2_with fail;go_ret;exact⟨⟨k,rfl,by rw [HZ.o];simp⟩,B1.o⟩
  ·have HN:=O (show mU E u=false by rw [<-hN.o,List.take_of_length_le (by rw [<-HL.o];omega)]);go_wp2_with fail;go_ret;exact⟨⟨-1,rfl,by rw [HN.o];simp⟩,hB.o⟩
theorem pN(A:Option Addr)(n c:Nat)(E:List En)(e:En)(b:Nat)(w:World)(h:Es w A n c E)(hv:Vr4 w b e):
 Calls Tryz.prog 37 #[.slice A n c,.func (.func 38) #[] #[.pointer (some ⟨b,0,none⟩)]] w
  λr w'=>r = .returned (.bool (mU E e.u))/\Below w.heap.size w w':=by
 have K:=O (vo A n c E e b w h hv);clear h hv;go_enter Tryz.func37,Tryz.ntmps37;go_wp2_with fail;refine K.o.mono ?_;rintro r w1 ⟨⟨k,rfl,hk⟩,b1⟩;have B1:=O b1;have HK:=O (show decide (0<=k)=mU E e.u by
  rcases hu:mU E e.u with _|_
  ·exact decide_eq_false (λh=>by have:=hk.1 h;rw [hu] at this;cases this)
  ·exact decide_eq_true (hk.2 hu))
 clear hk b1;go_wp2_with fail;go_ret;exact⟨by rw [<-HK.o];rfl,B1.o⟩
end Go.Proofs.YthifljpkgfpkiaaGreatDoor
