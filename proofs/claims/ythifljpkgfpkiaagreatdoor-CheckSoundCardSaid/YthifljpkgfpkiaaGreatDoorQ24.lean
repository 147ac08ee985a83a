/-
  kinds.below: of records. kinds.below: is a type below another one. The head of ..
-/
import Derived.Test.YthifljpkgfpkiaaGreatDoorQ8
import Derived.Test.YthifljpkgfpkiaaGreatDoorQ23
set_option maxRecDepth 100000
set_option maxHeartbeats 8000000
namespace Go.Proofs.YthifljpkgfpkiaaGreatDoor
open Go.RowKit Go.Wk Go.Sort
theorem Gs(N:Nat)(ih:U2 N)(f g:Fl)(va vb:List Value)(w:World)(B:Nat->Prop)(h:f.sz<=N)(hp:f.sz<=90000)(hq:g.sz<=90000)(ha:KAt w B (.fs f) va)(hb:KAt w B (.fs g) vb)(vf:(Kd.fs f).valid)(vg:(Kd.fs g).valid)(hB:∀b,B b->b<w.heap.size):
 Calls Tryz.prog 30 #[.agg va.toArray,.agg vb.toArray] w λe w'=>e = .returned (.bool (fc f g && kZ g f))/\Below w.heap.size w w':=by
 have of:=bw.1 vf;have og:=bw.1 vg;clear vf vg;obtain⟨n1,A1,c1,rfl,hc1,UJ,k1⟩:=ha;obtain⟨n2,A2,c2,rfl,hc2,sN,k2⟩:=hb;have L1:=tm f;have L2:=tm g;rw [fV] at hc1 hc2 L1 L2 ⊢;rw [fV];obtain⟨m1,hn1⟩:∃m1,m1=f.list.length:=⟨_,rfl⟩
 obtain⟨m2,hn2⟩:∃m2,m2=g.list.length:=⟨_,rfl⟩
 rw [<-hn1] at hc1 L1 ⊢;rw [<-hn2] at hc2 L2 ⊢;have KF:=O k1;have KG:=O k2;have fi:=O hn1;have se:=O hn2;have mZ:=O hB;have IH:=O ih;clear k1 k2 hn1 hn2 hB ih;have HB:=O ((za w (.cells #[.int .i64 46,.int .i64 n1,.string ⟨#[]⟩,.string ⟨#[]⟩,.pointer none,.slice A1 m1 c1] 81)).trans ((za _ (.cells #[.int .i64 46,.int .i64 n2,.string ⟨#[]⟩,.string ⟨#[]⟩,.pointer none,.slice A2 m2 c2] 81)).mono (by simp)));have hsz:(w.alloc (.cells #[.int .i64 46,.int .i64 n1,.string ⟨#[]⟩,.string ⟨#[]⟩,.pointer none,.slice A1 m1 c1] 81)).heap.size=w.heap.size+1:=by simp
 have X1:=(jf w (.int .i64 46) (.int .i64 n1) (.string ⟨#[]⟩) (.string ⟨#[]⟩) (.pointer none) (.slice A1 m1 c1) 81).keep (za _ (.cells #[.int .i64 46,.int .i64 n2,.string ⟨#[]⟩,.string ⟨#[]⟩,.pointer none,.slice A2 m2 c2] 81));have X2:=jf (w.alloc (.cells #[.int .i64 46,.int .i64 n1,.string ⟨#[]⟩,.string ⟨#[]⟩,.pointer none,.slice A1 m1 c1] 81)) (.int .i64 46) (.int .i64 n2) (.string ⟨#[]⟩) (.string ⟨#[]⟩) (.pointer none) (.slice A2 m2 c2) 81;rw [hsz] at X2;obtain⟨res,hres⟩:∃res,res=(fc f g && kZ g f):=⟨_,rfl⟩
 have BK:=O (hres.trans (by rw [tg,xN]));rw [<-hres];clear hres;change Calls Tryz.prog 30 #[.agg #[.int .i64 46,.int .i64 n1,.string ⟨#[]⟩,.string ⟨#[]⟩,.pointer none,.slice A1 m1 c1],.agg #[.int .i64 46,.int .i64 n2,.string ⟨#[]⟩,.string ⟨#[]⟩,.pointer none,.slice A2 m2 c2]] w _;go_enter Tryz.func30,Tryz.ntmps30;go_wp2_with fail;obtain⟨w2,hw2⟩:∃w2,(w.alloc (.cells #[.int .i64 46,.int .i64 n1,.string ⟨#[]⟩,.string ⟨#[]⟩,.pointer none,.slice A1 m1 c1] 81)).alloc (.cells #[.int .i64 46,.int .i64 n2,.string ⟨#[]⟩,.string ⟨#[]⟩,.pointer none,.slice A2 m2 c2] 81)=w2:=⟨_,rfl⟩
 have HZ:=O (show w2.heap.size=w.heap.size+2 by rw [<-hw2];simp);rw [hw2] at X1 X2 HB ⊢;have wd:=O X1;have oJ:=O X2;clear hw2 hsz X1 X2;go_loopw [58] (λi wr=>∃k:Nat,i = .int .i64 k/\k<=m1/\Hid ((f.list.take k).all (eV g)=true)/\Hid (Below w2.heap.size w2 wr)) (λi _=>m1-(intOf i).toNat)
 case atStart=>exact⟨0,rfl,Nat.zero_le _,O rfl,O (Below.refl _ _)⟩
 case round =>
  obtain⟨k,rfl,hk,MA,hW⟩:=hrel;have HX1r:=O (wd.o.keep hW.o);have HX2r:=O (oJ.o.keep hW.o);have HBr:=O (HB.o.trans (hW.o.mono (by have:=HZ.o;omega)));by_cases hlt:k<m1
  ·have eK:k<f.list.length:=by rw [<-fi.o];exact hlt
   obtain⟨a,rfl,li⟩:=((KF.o.cong (w':=wr) (λb hb=>HBr.o.block b (mZ.o b hb))).at) k _ (List.getElem?_eq_getElem eK);rw [Nat.zero_add] at li;have ij:=O (λhx=>Jg (p:=eV g) eK hx);have hZ:=O (λhx=>nE (p:=eV g) eK MA.o hx);have IG:=O (show f.list[k].2.2.valid/\f.list[k].2.2.sz<f.sz from by
    have Yw:=(bY of.1 (s:=f.list[k].1) (m:=f.list[k].2.1) (k:=f.list[k].2.2)).2 (List.getElem_mem eK)
    exact⟨dX of.2 Yw,dM Yw⟩)
   obtain⟨y,hy⟩:∃y,y=f.list[k]:=⟨_,rfl⟩
   rw [<-hy] at li ij hZ IG;clear hy;obtain⟨o,nn,s0,t0,p,A',m',c',mg,q0,q1,q2,q3,q4,q5,q6,q7⟩:=li.cells;have Um:=O mg;clear li mg;have Re:m1<=100000:=by omega
   have QW:m2<=100000:=by omega
   obtain⟨x0,x1,x2,x3,x4,x5,-,-,-,-,-,-⟩:=HX2r.o;have hl2:w.heap.size+1<wr.heap.size:=block_lt_of_cell x0;have Ba:=za wr (.cells #[.string y.1,.bool y.2.1,.int .i64 o,.int .i64 nn,.string s0,.string t0,.pointer p,.slice A' m' c'] 143);have Y4:=ft wr (.string y.1) (.bool y.2.1) (.int .i64 o) (.int .i64 nn) (.string s0) (.string t0) (.pointer p) (.slice A' m' c') 143;go_wp2_with fail;obtain⟨wa,Q7⟩:∃wa,wr.alloc (.cells #[.string y.1,.bool y.2.1,.int .i64 o,.int .i64 nn,.string s0,.string t0,.pointer p,.slice A' m' c'] 143)=wa:=⟨_,rfl⟩
   rw [Q7] at Ba Y4 ⊢;clear Q7 x0 x1 x2 x3 x4 x5 q0 q1 q2 q3 q4 q5 q6 q7;have Wp:Below w.heap.size w wa:=HBr.o.trans (Ba.mono HBr.o.size);refine(my A2 m2 c2 g B _ _ _ _ _ y.1 wa (KG.o.cong (λb hb=>Wp.block b (mZ.o b hb))) se.o QW hc2 og.1 (λb hb=>Nat.lt_of_lt_of_le (mZ.o b hb) Wp.size)).mono ?_;rintro e w4 ⟨b4,zX⟩;have Y5:=O (Y4.keep b4);have Yx:=O (hW.o.trans ((Ba.trans (b4.mono Ba.size)).mono hW.o.size));have Za:=Yx;have VY:=O (Um.o.cong (w':=w4) λb hb=>(Ba.trans (b4.mono Ba.size)).block b (Nat.lt_of_lt_of_le (mZ.o b hb) HBr.o.size));have IF:=O (show w2.heap.size<=w4.heap.size from Yx.o.size);have HBw4:=O (show w.heap.size<=w4.heap.size by have:=HZ.o;have:=IF.o;omega);clear b4 Ba Y4 Wp hW;obtain⟨y0,y1,y2,y3,y4,y5,y6,y7,-,-,-,-,-,-,-,-⟩:=Y5.o;have Rj:wr.heap.size<w4.heap.size:=block_lt_of_cell y0;rcases hfg:g.find y.1 with _|⟨mm,k'⟩
   ·rw [hfg] at zX;have zX:e = .returned (.tuple #[.agg #[.string ⟨#[]⟩,.bool false,.int .i64 0,.int .i64 0,.string ⟨#[]⟩,.string ⟨#[]⟩,.pointer none,.slice none 0 0],.bool false]):=zX;subst zX;have HX:=O (show eV g y=false by unfold eV;rw [hfg]);obtain rfl:res=false:=by rw [BK.o,ij.o HX.o];rfl
    clear hfg;go_wp2_with fail;go_ret;exact⟨rfl,HB.o.trans ((Za.o.trans ((za _ _).mono IF.o)).mono (by have:=HZ.o;omega))⟩
   ·rw [hfg] at zX;obtain⟨u,rfl,FA⟩:=zX;have Yv:=O hfg;have XN:=O (show k'.valid/\k'.sz<g.sz from⟨dX og.2 hfg,dM hfg⟩);obtain⟨o2,n2',s2,t2,p2,BJ,m2',c2',rfl⟩:=aG FA;have HC:=O (λw' (hb:Below w4.heap.size w4 w')=>IH.o y.2.2 k' _ _ w' B (by have:=IG.o.2;omega) (by have:=IG.o.2;omega) (by have:=XN.o.2;omega) (VY.o.cong λb hb'=>hb.block b (Nat.lt_of_lt_of_le (mZ.o b hb') HBw4.o)) (FA.cong λb hb'=>hb.block b (Nat.lt_of_lt_of_le (mZ.o b hb') HBw4.o)) IG.o.1 XN.o.1 (λb hb'=>Nat.lt_of_lt_of_le (mZ.o b hb') (Nat.le_trans HBw4.o hb.size)));clear FA hfg
    cases MS:mm with
    | true =>
     subst MS
     cases yz:y.2.1 with
     | false =>
      rw [yz] at y1
      have HX:=O (show eV g y=false by unfold eV;rw [Yv.o];simp [yz])
      obtain rfl:res=false:=by rw [BK.o,ij.o HX.o];rfl
      go_wp2_with fail
      go_ret
      exact⟨rfl,HB.o.trans ((Za.o.trans ((za _ _).mono IF.o)).mono (by have:=HZ.o;omega))⟩
     | true =>
      rw [yz] at y1
      go_wp2_with fail
      refine(HC.o _ (za _ _)).mono ?_
      rintro e w6 ⟨rfl,b6⟩
      have B6:=O (Za.o.trans (((za _ _).trans (b6.mono (by simp))).mono IF.o))
      clear b6 HC
      rcases hr:zO y.2.2 k' with _|_
      ·have HX:=O (show eV g y=false by unfold eV;rw [Yv.o];simp [hr])
       obtain rfl:res=false:=by rw [BK.o,ij.o HX.o];rfl
       go_wp2_with fail;go_ret;exact⟨rfl,HB.o.trans (B6.o.mono (by have:=HZ.o;omega))⟩
      ·have HX:=O (show eV g y=true by unfold eV;rw [Yv.o];simp [hr,yz])
       have WM:=O (hZ.o HX.o);go_wp2_with fail;go_roundw
       case rel=>exact⟨k+1,by go_num,hlt,WM,B6⟩
       case measure=>simp [intOf];omega
    | false =>
     subst MS
     go_wp2_with fail
     refine(HC.o _ (za _ _)).mono ?_
     rintro e w6 ⟨rfl,b6⟩
     have B6:=O (Za.o.trans (((za _ _).trans (b6.mono (by simp))).mono IF.o))
     clear b6 HC
     rcases hr:zO y.2.2 k' with _|_
     ·have HX:=O (show eV g y=false by unfold eV;rw [Yv.o];simp [hr])
      obtain rfl:res=false:=by rw [BK.o,ij.o HX.o];rfl
      go_wp2_with fail;go_ret;exact⟨rfl,HB.o.trans (B6.o.mono (by have:=HZ.o;omega))⟩
     ·have HX:=O (show eV g y=true by unfold eV;rw [Yv.o];simp [hr])
      have WM:=O (hZ.o HX.o);go_wp2_with fail;go_roundw
      case rel=>exact⟨k+1,by go_num,hlt,WM,B6⟩
      case measure=>simp [intOf];omega
  ·have IE:k=m1:=by omega
   have VZ:=O (show f.list.all (eV g)=true by
    have:=MA.o
    rwa [IE,fi.o,List.take_length] at this)
   clear MA IE;obtain⟨x0,x1,x2,x3,x4,x5,-,-,-,-,-,-⟩:=HX1r.o;obtain⟨z0,z1,z2,z3,z4,z5,-,-,-,-,-,-⟩:=HX2r.o;have Re:m1<=100000:=by omega
   have QW:m2<=100000:=by omega
   go_wp2_with fail;go_loopw [92] (λi wr2=>∃k:Nat,i = .int .i64 k/\k<=m2/\Hid ((g.list.take k).all (λy:Kfd => !y.2.1 ||(f.find y.1).isSome)=true)/\Hid (Below w2.heap.size w2 wr2)) (λi _=>m2-(intOf i).toNat)
   case atStart=>exact⟨0,rfl,Nat.zero_le _,O rfl,hW⟩
   case round =>
    clear x0 x1 x2 x3 x4 x5 z0 z1 z2 z3 z4 z5 HX1r HX2r HBr hW;obtain⟨k2,rfl,hk2,MA,hW⟩:=hrel;have HX1r:=O (wd.o.keep hW.o);have HX2r:=O (oJ.o.keep hW.o);have HBr:=O (HB.o.trans (hW.o.mono (by have:=HZ.o;omega)));by_cases ln:k2<m2
    ·have eK:k2<g.list.length:=by rw [<-se.o];exact ln
     obtain⟨a,rfl,li⟩:=((KG.o.cong (w':=wr) (λb hb=>HBr.o.block b (mZ.o b hb))).at) k2 _ (List.getElem?_eq_getElem eK);rw [Nat.zero_add] at li;have ij:=O (λhx=>Jg (p:=(λy:Kfd => !y.2.1 ||(f.find y.1).isSome)) eK hx);have hZ:=O (λhx=>nE (p:=(λy:Kfd => !y.2.1 ||(f.find y.1).isSome)) eK MA.o hx);obtain⟨y,hy⟩:∃y,y=g.list[k2]:=⟨_,rfl⟩
     rw [<-hy] at li ij hZ;clear hy;obtain⟨o,nn,s0,t0,p,A',m',c',mg,q0,q1,q2,q3,q4,q5,q6,q7⟩:=li.cells;clear li mg;obtain⟨x0,x1,x2,x3,x4,x5,-,-,-,-,-,-⟩:=HX1r.o;have hl2:w.heap.size<wr.heap.size:=block_lt_of_cell x0;have Ba:=za wr (.cells #[.string y.1,.bool y.2.1,.int .i64 o,.int .i64 nn,.string s0,.string t0,.pointer p,.slice A' m' c'] 143);have Y4:=ft wr (.string y.1) (.bool y.2.1) (.int .i64 o) (.int .i64 nn) (.string s0) (.string t0) (.pointer p) (.slice A' m' c') 143;go_wp2_with fail;obtain⟨wa,Q7⟩:∃wa,wr.alloc (.cells #[.string y.1,.bool y.2.1,.int .i64 o,.int .i64 nn,.string s0,.string t0,.pointer p,.slice A' m' c'] 143)=wa:=⟨_,rfl⟩
     rw [Q7] at Ba Y4 ⊢;clear Q7 x0 x1 x2 x3 x4 x5 q0 q1 q2 q3 q4 q5 q6 q7;have Wp:Below w.heap.size w wa:=HBr.o.trans (Ba.mono HBr.o.size);refine(my A1 m1 c1 f B _ _ _ _ _ y.1 wa (KF.o.cong (λb hb=>Wp.block b (mZ.o b hb))) fi.o Re hc1 of.1 (λb hb=>Nat.lt_of_lt_of_le (mZ.o b hb) Wp.size)).mono ?_;rintro e w4 ⟨b4,zX⟩;have Y5:=O (Y4.keep b4);have Yx:=O (hW.o.trans ((Ba.trans (b4.mono Ba.size)).mono hW.o.size));have IF:=O (show w2.heap.size<=w4.heap.size from Yx.o.size);have BWa:=O (λo=>Yx.o.trans ((za w4 o).mono IF.o));clear b4 Ba Y4 Wp hW;obtain⟨y0,y1,y2,y3,y4,y5,y6,y7,-,-,-,-,-,-,-,-⟩:=Y5.o;have Rj:wr.heap.size<w4.heap.size:=block_lt_of_cell y0;rcases hfg:f.find y.1 with _|⟨mm,k'⟩
     ·rw [hfg] at zX;have zX:e = .returned (.tuple #[.agg #[.string ⟨#[]⟩,.bool false,.int .i64 0,.int .i64 0,.string ⟨#[]⟩,.string ⟨#[]⟩,.pointer none,.slice none 0 0],.bool false]):=zX;subst zX
      cases yz:y.2.1 with
      | true =>
       rw [yz] at y1
       have HX:=O (show(λy:Kfd => !y.2.1 ||(f.find y.1).isSome) y=false by simp [hfg,yz])
       obtain rfl:res=false:=by rw [BK.o,ij.o HX.o,Bool.and_false]
       clear hfg
       go_wp2_with fail
       go_ret
       exact⟨rfl,HB.o.trans ((BWa.o _).mono (by have:=HZ.o;omega))⟩
      | false =>
       rw [yz] at y1
       have HX:=O (show(λy:Kfd => !y.2.1 ||(f.find y.1).isSome) y=true by simp [yz])
       have WM:=O (hZ.o HX.o)
       clear hfg
       go_wp2_with fail
       go_roundw
       case rel=>exact⟨k2+1,by go_num,ln,WM,O (BWa.o _)⟩
       case measure=>simp [intOf];omega
     ·rw [hfg] at zX;obtain⟨u,rfl,FA⟩:=zX;obtain⟨o2,n2',s2,t2,p2,BJ,m2',c2',rfl⟩:=aG FA;have HX:=O (show(λy:Kfd => !y.2.1 ||(f.find y.1).isSome) y=true by simp [hfg]);have WM:=O (hZ.o HX.o);clear FA hfg;obtain⟨ym,yz⟩:∃ym,ym=y.2.1:=⟨_,rfl⟩
      rw [<-yz] at y1;clear yz;cases ym
      all_goals
       go_wp2_with fail;go_roundw
       case rel=>exact⟨k2+1,by go_num,ln,WM,O (BWa.o _)⟩
       case measure=>simp [intOf];omega
    ·have Ul:k2=m2:=by omega
     obtain rfl:res=true:=by
      have:=MA.o;rw [Ul,se.o,List.take_length] at this;rw [BK.o,VZ.o,this];rfl
     go_wp2_with fail;go_ret;exact⟨rfl,HBr.o⟩
theorem iF{x:Int}(h:(Kd.base x).valid):x=41\/x=42\/x=43\/x=48\/x=49:=h
theorem xY{a b:Kd}(ha:a.valid)(hb:b.valid)(h1:opN a=opN b)(h2:nmN a=nmN b):
 (∃x,a = .base x/\b = .base x)\/(∃s,a = .ent s/\b = .ent s)\/(∃p q,a = .set p/\b = .set q)\/∃f g,a = .fs f/\b = .fs g:=by
 cases a with
 | base x =>
  have:=iF ha
  cases b with
  | base y=>simp only [opN] at h1;exact .inl ⟨x,rfl,by rw [h1]⟩
  | ent s=>simp only [opN] at h1;omega
  | set q=>simp only [opN] at h1;omega
  | fs g=>simp only [opN] at h1;omega
 | ent s =>
  cases b with
  | base y=>have:=iF hb;simp only [opN] at h1;omega
  | ent t=>simp only [nmN] at h2;exact .inr (.inl ⟨s,rfl,by rw [h2]⟩)
  | set q=>simp [opN] at h1
  | fs g=>simp [opN] at h1
 | set p =>
  cases b with
  | base y=>have:=iF hb;simp only [opN] at h1;omega
  | ent t=>simp [opN] at h1
  | set q=>exact .inr (.inr (.inl ⟨p,q,rfl,rfl⟩))
  | fs g=>simp [opN] at h1
 | fs f =>
  cases b with
  | base y=>have:=iF hb;simp only [opN] at h1;omega
  | ent t=>simp [opN] at h1
  | set q=>simp [opN] at h1
  | fs g=>exact .inr (.inr (.inr ⟨f,g,rfl,rfl⟩))
theorem yX{a:Kd}(ha:a.valid)(h:opN a=49):a = .base 49:=by
 cases a with
 | base x=>simp only [opN] at h;rw [h]
 | _=>simp [opN] at h
theorem Ht{a:Kd}(ha:a.valid)(h:opN a=48):a = .base 48:=by
 cases a with
 | base x=>simp only [opN] at h;rw [h]
 | _=>simp [opN] at h
theorem NJ{a b:Kd}(h1:opN a≠49)(h2:opN b≠48)(h:opN a≠opN b\/nmN a≠nmN b):zO a b=false:=by
 rw [Bool.eq_false_iff];intro e;have hb:b≠ .base 48:=λq=>h2 (by rw [q];rfl);have ha:a≠ .base 49:=λq=>h1 (by rw [q];rfl)
 cases a with
 | base x =>
  rcases jm.1 e with e|e|e
  ·exact ha (by rw [e])
  ·exact hb e
  ·subst e;simp at h
 | ent s =>
  rcases ao.1 e with e|e
  ·exact hb e
  ·subst e;simp at h
 | set p =>
  rcases jB.1 e with e|⟨q,e,-⟩
  ·exact hb e
  ·subst e;simp [opN,nmN] at h
 | fs f =>
  rcases jW.1 e with e|⟨g,e,-⟩
  ·exact hb e
  ·subst e;simp [opN,nmN] at h
theorem pM{w:World}{B:Nat->Prop}{k:Kd}{v:List Value}(h:KAt w B k v)(hb:(∃x,k = .base x)\/∃s,k = .ent s):∃(n:Int),v = [.int .i64 (opN k),.int .i64 n,.string (nmN k),.string emp,.pointer none,.slice none 0 0]:=by
 rcases hb with ⟨x,rfl⟩|⟨s,rfl⟩
 ·obtain⟨n,rfl⟩:=h;exact⟨n,rfl⟩
 ·obtain⟨n,rfl⟩:=h;exact⟨n,rfl⟩
theorem ov:∀N:Nat,U2 N
 | 0=>λa _ _ _ _ _ h=>by cases a <;> simp [Kd.sz] at h
 | N+1=>by
  intro a b va vb w B h h1 h2 ha hb va' vb' hB;obtain⟨n1,p1,A1,m1,c1,e1⟩:=po ha;obtain⟨n2,p2,A2,m2,c2,e2⟩:=po hb;by_cases hn:opN a=49\/opN b=48
  ·have hr:zO a b=true:=by
    rcases hn with hn|hn
    ·rw [yX va' hn];exact kD _ _ rfl
    ·rw [Ht vb' hn];exact xW _ _ rfl
   rw [hr,e1,e2];exact JS _ _ _ _ _ _ _ _ _ _ _ _ _ _ _ _ w hn
  ·have wi:opN a≠49:=λe=>hn (.inl e);have IJ:opN b≠48:=λe=>hn (.inr e);by_cases hd:opN a≠opN b\/nmN a≠nmN b
   ·rw [NJ wi IJ hd,e1,e2];exact yV _ _ _ _ _ _ _ _ _ _ _ _ _ _ _ _ w wi IJ hd
   ·have ho:opN a=opN b:=Decidable.byContradiction λe=>hd (.inl e);have hs:nmN a=nmN b:=Decidable.byContradiction λe=>hd (.inr e);rcases xY va' vb' ho hs with ⟨x,rfl,rfl⟩|⟨s,rfl,rfl⟩|⟨p,q,rfl,rfl⟩|⟨f,g,rfl,rfl⟩
    ·obtain⟨k1,rfl⟩:=pM ha (.inl ⟨x,rfl⟩);obtain⟨k2,rfl⟩:=pM hb (.inl ⟨x,rfl⟩);rw [jm.2 (.inr (.inr rfl))];exact tl x k1 k2 emp emp emp none none w wi IJ (λe=>by have:=iF va';omega)
    ·obtain⟨k1,rfl⟩:=pM ha (.inr ⟨s,rfl⟩);obtain⟨k2,rfl⟩:=pM hb (.inr ⟨s,rfl⟩);rw [ao.2 (.inr rfl)];exact tl 44 k1 k2 s emp emp none none w wi IJ (by decide)
    ·have hr:zO (.set p) (.set q)=zO p q:=by simp [zO,du]
     simp only [Kd.sz] at h h1 h2;rw [hr];exact Iu N (ov N) p q va vb w B (by omega) (by omega) (by omega) ha hb va' vb' hB
    ·have hr:zO (.fs f) (.fs g)=(fc f g && kZ g f):=by simp [zO,du]
     simp only [Kd.sz] at h h1 h2;rw [hr];exact Gs N (ov N) f g va vb w B (by omega) (by omega) (by omega) ha hb va' vb' hB
theorem Lm(k:Kd):∃(x:Int) (r:List Nd),k.flat=⟨opN k,x,nmN k,emp⟩:: r:=by
 cases k with
 | base x=>exact⟨_,_,rfl⟩
 | ent s=>exact⟨_,_,rfl⟩
 | set q=>exact⟨_,_,rfl⟩
 | fs f=>exact⟨_,_,rfl⟩
theorem mL{w:World}{A:Option Addr}{n c:Nat}{k:Kd}(h:Ns w A n c k.flat):∃a,A=some a/\1<=n/\w.cell? a=some (.int .i64 (opN k))/\w.cell? ⟨a.block,a.off+2,none⟩=some (.string (nmN k)):=by
 obtain⟨x,r,e⟩:=Lm k;obtain⟨a,ea,d0,d1,d2,d3⟩:=h.at_ 0 ⟨opN k,x,nmN k,emp⟩ (by rw [e];rfl);exact⟨a,ea,by rw [h.len];exact ct k,d0,d2⟩
end Go.Proofs.YthifljpkgfpkiaaGreatDoor
namespace Go.Wk
end Go.Wk
namespace Go.Proofs.YthifljpkgfpkiaaGreatDoor
open Go.RowKit Go.Wk Go.Sort
def fY(V:List Sl):Int:=fS (V.map (·.P))
theorem EO{V:List Sl}{k:Nat}(h:k<V.length):fY (V.drop k)=or2 (zh V[k].P) (fY (V.drop (k+1))):=by
 unfold fY;rw [List.drop_eq_getElem_cons h];rfl
theorem BH{V:List Sl}{k:Nat}(h:V.length<=k):fY (V.drop k)=0:=by
 unfold fY;rw [List.drop_of_length_le h];rfl
end Go.Proofs.YthifljpkgfpkiaaGreatDoor
namespace Go.Wk
end Go.Wk
namespace Go.Proofs.YthifljpkgfpkiaaGreatDoor
open Go.RowKit Go.Wk Go.Sort
set_option linter.unusedSectionVars false
theorem Qg{w:World}{A:Option Addr}{n c:Nat}{P:List Nd}(h:Ns w A n c P)(hp:0<P.length):∃a,A=some a/\1<=n/\w.cell? a=some (.int .i64 (zg P))/\w.cell? ⟨a.block,a.off+2,none⟩=some (.string (Cy P)):=by
 cases P with
 | nil=>simp at hp
 | cons x r =>
  obtain⟨a,ea,d0,d1,d2,d3⟩:=h.at_ 0 x rfl
  exact⟨a,ea,by rw [h.len];simp,d0,d2⟩
section
variable (a b:Addr) (n c m d:Nat) (o1 o2:Int) (s1 s2:ByteArray) (w:World) (hn:1<=n) (hm:1<=m) (hl:n<=4000) (hl2:m<=4000) (hnc:n<=c) (hmd:m<=d) (d0:w.cell? a=some (.int .i64 o1)) (d2:w.cell? ⟨a.block,a.off+2,none⟩=some (.string s1)) (e0:w.cell? b=some (.int .i64 o2)) (e2:w.cell? ⟨b.block,b.off+2,none⟩=some (.string s2))
include hn hm hl hl2 hnc hmd d0 d2 e0 e2
end
theorem rK.cell{w:World}{A:Option Addr}{N:List ByteArray}(h:rK w A N){k:Nat}(hk:k<N.length):∃a,A=some a/\w.cell? (a.add k)=some (.string N[k]):=h k N[k] (List.getElem?_eq_getElem hk)
theorem Kz{N:List ByteArray}{s:ByteArray}{k:Nat}(hk:k<N.length)(h:ai (N.take k) s=false)(hn:N[k]≠s):ai (N.take (k+1)) s=false:=by
 rw [List.take_succ_eq_append_getElem hk];unfold ai at *;rw [List.any_append,h];simp only [List.any_cons,List.any_nil,Bool.or_false,Bool.false_or,decide_eq_false_iff_not];exact λe=>hn ((zw.zero _ _).1 e)
structure Vs(w:World)(b:Nat)(s:Sc):Prop where
 c0:w.cell? ⟨b,0,none⟩=some (.slice s.KA s.kn s.kc)
 c1:w.cell? ⟨b,1,none⟩=some (.slice s.AA s.an s.ac)
theorem Vs.keep{w w':World}{b:Nat}{s:Sc}(h:Vs w b s)(hb:Below w.heap.size w w'):Vs w' b s:=⟨zb hb h.c0,zb hb h.c1⟩
theorem lL(w:World)(s:Sc)(t:TypeId):Vs (w.alloc (.cells #[.slice s.KA s.kn s.kc,.slice s.AA s.an s.ac] t)) w.heap.size s :=
 ⟨zt (heap_alloc_last w _) rfl,zt (heap_alloc_last w _) rfl⟩
structure Vk(w:World)(b:Nat)(x:Kn):Prop where
 c0:w.cell? ⟨b,0,none⟩=some (.string x.d.nm)
 c1:w.cell? ⟨b,1,none⟩=some (.slice x.UA x.un x.uc)
 c2:w.cell? ⟨b,2,none⟩=some (.slice x.NA x.nn x.nc)
theorem Vk.keep{w w':World}{b:Nat}{x:Kn}(h:Vk w b x)(hb:Below w.heap.size w w'):Vk w' b x:=⟨zb hb h.c0,zb hb h.c1,zb hb h.c2⟩
theorem O9(w:World)(x:Kn)(t:TypeId):Vk (w.alloc (.cells #[.string x.d.nm,.slice x.UA x.un x.uc,.slice x.NA x.nn x.nc] t)) w.heap.size x :=
 ⟨zt (heap_alloc_last w _) rfl,zt (heap_alloc_last w _) rfl,zt (heap_alloc_last w _) rfl⟩
theorem LA(a b c:Int):or2 (or2 a b) c=or2 a (or2 b c):=by
 by_cases h:a=0
 ·rw [h,zu,zu]
 ·rw [zR h,zR h,zR h]
structure Va(w:World)(b:Nat)(x:An):Prop where
 c0:w.cell? ⟨b,0,none⟩=some (.string x.d.id)
 c1:w.cell? ⟨b,1,none⟩=some (.slice x.WA x.wn x.wc)
 c2:w.cell? ⟨b,2,none⟩=some (.slice x.TA x.tn x.tc)
 c3:w.cell? ⟨b,3,none⟩=some (.slice x.NA x.nn x.nc)
theorem Va.keep{w w':World}{b:Nat}{x:An}(h:Va w b x)(hb:Below w.heap.size w w'):Va w' b x:=⟨zb hb h.c0,zb hb h.c1,zb hb h.c2,zb hb h.c3⟩
theorem PH(w:World)(x:An)(t:TypeId):Va (w.alloc (.cells #[.string x.d.id,.slice x.WA x.wn x.wc,.slice x.TA x.tn x.tc,.slice x.NA x.nn x.nc] t)) w.heap.size x :=
 ⟨zt (heap_alloc_last w _) rfl,zt (heap_alloc_last w _) rfl,zt (heap_alloc_last w _) rfl,zt (heap_alloc_last w _) rfl⟩
theorem Sc.k_at(s:Sc){i:Nat}(h:i<s.K.length):(s.k)[i]'(by unfold Sc.k;rw [List.length_map];exact h)=s.K[i].d:=by
 unfold Sc.k;rw [List.getElem_map]
theorem Sc.a_at(s:Sc){i:Nat}(h:i<s.L.length):(s.a)[i]'(by unfold Sc.a;rw [List.length_map];exact h)=s.L[i].d:=by
 unfold Sc.a;rw [List.getElem_map]
theorem Sc.k_names(s:Sc)(i:Nat):((s.k).take i).map KD.nm=(s.K.take i).map λx=>x.d.nm:=by
 unfold Sc.k;rw [<-List.map_take,List.map_map];rfl
theorem Sc.a_names(s:Sc)(i:Nat):((s.a).take i).map AD.id=(s.L.take i).map λx=>x.d.id:=by
 unfold Sc.a;rw [<-List.map_take,List.map_map];rfl
theorem ng{α:Type}{L:List α}{p:α->Bool}{i:Nat}(h:i<L.length)(hp:p L[i]=true)(hn:∀x∈L.take i,p x=false):L.find? p=some L[i]:=by
 induction L generalizing i with
 | nil=>simp at h
 | cons a r ih =>
  cases i with
  | zero=>simp at hp;simp [hp]
  | succ i =>
   have ha:=hn a (by simp)
   simp only [List.find?_cons,ha,List.getElem_cons_succ] at *
   exact ih (by simpa using h) hp (λx hx=>hn x (by simp [hx]))
def Hh(w:World)(s:Sc)(x:ByteArray)(e:Ending)(w':World):Prop :=
 ((cN s.k x=none/\e = .returned (.int .i64 (-1)))\/∃i,∃h:i<s.K.length,cN s.k x=some s.K[i].d/\e = .returned (.int .i64 i))/\Below w.heap.size w w'
def GT(w:World)(s:Sc)(x:ByteArray)(e:Ending)(w':World):Prop :=
 ((fj s.a x=none/\e = .returned (.int .i64 (-1)))\/∃i,∃h:i<s.L.length,fj s.a x=some s.L[i].d/\e = .returned (.int .i64 i))/\Below w.heap.size w w'
def fR(w:World)(R:Nat):Option (Kd × List Nd)->Ending->World->Prop
 | none,e,w'=>e = .panicked tY/\w.grownBy w' (some R)
 | some (k,r),e,w'=>∃v:List Value,e = .returned (.agg v.toArray)/\KAt w' (λb=>w.heap.size<=b) k v/\RdK w' R r/\w.grownBy w' (some R)
def Jb(R m:Nat):Prop:=∀(Q:List Nd) (w:World),RdK w R Q->Q.length<=m->Calls Tryz.prog 67 #[.pointer (some ⟨R,0,none⟩)] w (fR w R (zT m Q))
def TJ(w:World)(R:Nat):Option (ByteArray × Bool × Kd × List Nd)->Ending->World->Prop
 | none,e,w'=>e = .panicked tY/\w.grownBy w' (some R)
 | some (s,b,k,r),e,w'=>∃u:List Value,e = .returned (.agg (.string s :: .bool b :: u).toArray)/\KAt w' (λb=>w.heap.size<=b) k u/\RdK w' R r/\w.grownBy w' (some R)
theorem RdK.but{w w':World}{R b:Nat}{Q:List Nd}(h:RdK w R Q)(hg:w.grownBy w' (some b))(hb:R<b):RdK w' R Q:=by
 obtain⟨⟨A,n,c,h1,h2,h3⟩,h4⟩:=h;have hne:some R≠some b:=λe=>by injection e with e;omega
 refine⟨⟨A,n,c,hg.cell h1 hne,h2.but hg (λh0 a e=>Nat.ne_of_lt (Nat.lt_trans (h3 h0 a e) hb)),h3⟩,?_⟩;exact(World.frozen?_of_block (a:=⟨R,0,none⟩) (hg.block R (block_lt_of_cell h1) hne)).trans h4
theorem uC(w:World)(b:Nat)(y0 y1 y2 y3 y4 y5 y6 y7:Value):w.grownBy ((((((((w.setCell ⟨b,0,none⟩ y0).setCell ⟨b,1,none⟩ y1).setCell ⟨b,2,none⟩ y2).setCell ⟨b,3,none⟩ y3).setCell ⟨b,4,none⟩ y4).setCell ⟨b,5,none⟩ y5).setCell ⟨b,6,none⟩ y6).setCell ⟨b,7,none⟩ y7) (some b):=
 zf (zf (zf (zf (zf (zf (zf (zf (cj w (some b)) (zl _ ⟨b,0,none⟩ _)) (zl _ ⟨b,1,none⟩ _)) (zl _ ⟨b,2,none⟩ _)) (zl _ ⟨b,3,none⟩ _)) (zl _ ⟨b,4,none⟩ _)) (zl _ ⟨b,5,none⟩ _)) (zl _ ⟨b,6,none⟩ _)) (zl _ ⟨b,7,none⟩ _)
theorem qP(w:World)(b:Nat)(y0 y1 y2 y3 y4 y5 y6 y7:Value){g:Nat}(h:g≠b):((((((((w.setCell ⟨b,0,none⟩ y0).setCell ⟨b,1,none⟩ y1).setCell ⟨b,2,none⟩ y2).setCell ⟨b,3,none⟩ y3).setCell ⟨b,4,none⟩ y4).setCell ⟨b,5,none⟩ y5).setCell ⟨b,6,none⟩ y6).setCell ⟨b,7,none⟩ y7).heap[g]?=w.heap[g]?:=by
 iterate 8 rw [Below.heap_setCell _ _ _ g h]
theorem jQ{w w4 W:World}{R b:Nat}(h:w.grownBy w4 (some R))(k:w4.grownBy W (some b))(hb:w.heap.size<=b):w.grownBy W (some R):=
 ⟨k.os.trans h.os,k.tape.trans h.tape,k.output.trans h.output,Nat.le_trans h.size k.size,λi hi hn=>(k.block i (Nat.lt_of_lt_of_le hi h.size) (λe=>by injection e with e;omega)).trans (h.block i hi hn)⟩
theorem ox:emp.toList = []:=by rw [ByteArray.toList_eq];rfl
theorem iI{w:World}{B:Nat->Prop}{k:Kd}{v:List Value}(h:KAt w B k v):∃(o n:Int) (s t:ByteArray) (p:Option Addr) (A:Option Addr) (m c:Nat),v = [.int .i64 o,.int .i64 n,.string s,.string t,.pointer p,.slice A m c]:=by
 cases k with
 | base x=>obtain⟨_,rfl⟩:=h;exact⟨_,_,_,_,_,_,_,_,rfl⟩
 | ent s=>obtain⟨_,rfl⟩:=h;exact⟨_,_,_,_,_,_,_,_,rfl⟩
 | set q=>obtain⟨_,_,_,rfl,_⟩:=h;exact⟨_,_,_,_,_,_,_,_,rfl⟩
 | fs f=>obtain⟨_,_,_,rfl,_⟩:=h;exact⟨_,_,_,_,_,_,_,_,rfl⟩
theorem Hk(R m:Nat)(ih:Jb R m)(x:ByteArray)(Q:List Nd)(w:World)(h:RdK w R Q)(hl:Q.length<=m+1):
 Calls Tryz.prog 111 #[.pointer (some ⟨R,0,none⟩),.string x] w (TJ w R (i9 m x Q)):=by
 have HR:=O h;have IH:=O ih;clear h ih;go_enter Tryz.func111,Tryz.ntmps111;go_wp2_with fail;have G0:=O (zc (za w (.cells #[.string ⟨#[]⟩,.bool false,.int .i64 0,.int .i64 0,.string ⟨#[]⟩,.string ⟨#[]⟩,.pointer none,.slice none 0 0] 143)) (some R));have X0:=O (ft w (.string ⟨#[]⟩) (.bool false) (.int .i64 0) (.int .i64 0) (.string ⟨#[]⟩) (.string ⟨#[]⟩) (.pointer none) (.slice none 0 0) 143);have R0:=O (HR.o.keep (za w (.cells #[.string ⟨#[]⟩,.bool false,.int .i64 0,.int .i64 0,.string ⟨#[]⟩,.string ⟨#[]⟩,.pointer none,.slice none 0 0] 143)));have sO:=O (show R<w.heap.size by obtain⟨⟨_,_,_,h1,_⟩,_⟩:=HR.o;exact block_lt_of_cell h1);have BO:=O (show some w.heap.size≠some R from λe=>by injection e with e;have:=sO.o;omega);obtain⟨w0,hw0⟩:∃w0,w.alloc (.cells #[.string ⟨#[]⟩,.bool false,.int .i64 0,.int .i64 0,.string ⟨#[]⟩,.string ⟨#[]⟩,.pointer none,.slice none 0 0] 143)=w0:=⟨_,rfl⟩
 have rJ:=O (show w.heap.size<=w0.heap.size by rw [<-hw0];simp);rw [hw0] at G0 X0 R0 ⊢;clear hw0 HR;refine(dY R Q w0 R0.o).mono ?_
 cases Q with
 | nil =>
  rintro e w1 ⟨rfl,g1⟩
  go_wp2_with fail
  exact⟨rfl,rfl,G0.o.trans g1⟩
 | cons y r =>
  rintro e w1 ⟨rfl,r1,g1⟩
  have G1:=O (G0.o.trans g1)
  have X1:=O (X0.o.but g1 BO.o)
  have R1:=O r1
  have sd:=O (Nat.le_trans rJ.o g1.size)
  have IG:=O (show lk y by obtain⟨⟨_,_,_,_,h2,_⟩,_⟩:=R0.o;exact h2.ok y (by simp))
  have HW1:=O (show R<w1.heap.size by have:=sO.o;have:=sd.o;omega)
  clear r1 g1 G0 X0 R0 rJ
  unfold ndV
  have ij:=O (show¬ED x y->i9 m x (y :: r)=none from λh=>if_neg h)
  have hZ:=O (show ED x y->i9 m x (y :: r)=(match zT m r with|none=>none|some (k,r')=>some (y.s,y.n==1,k,r')) from λh=>if_pos h)
  generalize i9 m x (y :: r)=PP at *
  by_cases ho:y.op=47
  ·have HO:=O ho
   have KN:=O (λw=>aL y.s w IG.o.s);rw [ho];clear ho;by_cases hn:y.n=0
   ·have HN:=O hn;rw [hn];clear hn;rcases ju y.t with ht|⟨t1,t2,t3⟩
    ·have HT:=O ht;rw [ht];clear ht;have B2:=O (za w1 (.cells #[.int .i64 47,.int .i64 0,.string y.s,.string ⟨#[]⟩] 47));have V2:=O (fq w1 (.int .i64 47) (.int .i64 0) (.string y.s) (.string ⟨#[]⟩) 47);go_wp2_with fail;obtain⟨w2,hw2⟩:∃w2,w1.alloc (.cells #[.int .i64 47,.int .i64 0,.string y.s,.string ⟨#[]⟩] 47)=w2:=⟨_,rfl⟩
     rw [hw2] at B2 V2 ⊢;clear hw2;refine(KN.o w2).mono ?_;rintro e w3 ⟨rfl,b3⟩;have B3:=bh B2 b3;have V3:=O (V2.o.keep b3);have G3:=O (zf G1.o (zc B3.o (some R)));have R3:=O (R1.o.keep B3.o);have X3:=O (X1.o.keep B3.o);have MI:=O (Nat.le_trans sd.o B3.o.size);clear b3 B2 V2 G1 R1 X1 sd KN B3;obtain⟨c0,c1,c2,c3,-,-,-,-⟩:=V3.o;by_cases hf:zk y.s=0
     ·have HF:=O hf;rw [hf,zj];clear hf;rcases pY y.s x with ⟨l0,l1,l2⟩|hl2
      ·have Wh:=O (hZ.o ⟨HO.o,by rw [HN.o];simp,HT.o,HF.o,l0⟩);have bd3:Below w3.heap.size w3 w3.drew:=⟨rfl,rfl,rfl,Nat.le_refl _,λ_ _=>rfl⟩
       have VD:=O (V3.o.keep bd3);have XD:=O (X3.o.keep bd3);have GD:=O (zf G3.o (zc bd3 (some R)));have HSD:=O (show w.heap.size<=w3.drew.heap.size from MI.o);have Z2:=O (show R<w1.heap.size from HW1.o);have IK:=O (IH.o r w3.drew (R3.o.keep bd3) (by simp at hl;omega));clear bd3;obtain⟨e0,e1,e2,e3,-,-,-,-⟩:=VD.o;rcases hp:zT m r with _|⟨k,r'⟩
       ·have lp:=O (show PP=none by rw [Wh.o,hp]);have Yj:=O (λd os=>(IH.o r (grow (redrawn w3 d) os) (R3.o.keep (below_regrown w3 d os)) (by simp at hl;omega)));simp only [hp] at Yj;clear IK hp e0 e1 e2 e3 Wh;have k0:=cell_regrown c0;have k1:=cell_regrown c1;have k2:=cell_regrown c2;have k3:=cell_regrown c3;go_wp2_with fail;refine aD (l := [_,_,_,_,_,_]) [0,1,2,3,4,5] [6] (by kernel_rfl) (by decide) (by kernel_rfl) rfl (λw'=>∃p:Regrown,w'=grow (redrawn w3 p.d) p.os) (λch w'=>ch=tY/\w3.grownBy w' (some R)) ⟨⟨w3.drawn+1,#[]⟩,by rw [grow_empty];rfl⟩ ?_ ?_
        ·rintro a' ch w' hd ⟨rfl,hg⟩;exact⟨hd,by rw [lp.o];exact⟨rfl,zf G3.o hg⟩⟩
        ·repeat (first|go_big_quiet_step (fail)|quiet_step (fail))
         refine wpQuiet_nil ?_;refine⟨λo ho=>?_,trivial⟩;injection ho with ho;subst ho;refine⟨by go_simp,?_⟩;rintro w' ⟨⟨d,os⟩,rfl⟩;go_wp2_with fail;refine(Yj.o d os).mono ?_;rintro e w4 ⟨rfl,g4⟩;exact⟨rfl,zf (zc (below_regrown w3 d os) _) g4⟩
       ·have lp:=O (show PP=some (y.s,y.n==1,k,r') by rw [Wh.o,hp]);rw [hp] at IK;clear hp;go_wp2_with fail;go_region_with (go_at_call 67;(refine IK.o.mono ?_);rintro e w4 ⟨v,rfl,hk,hr,g4⟩;(obtain⟨o,n,s0,t0,p,A,m0,cc,rfl⟩:=iI hk);(have ZE:=O hk);(have Z6:=O hr);(have G4:=O g4);(obtain⟨u0,u1,u2,u3,-,-,-,-⟩:=VD.o.but g4 (by intro e;injection e with e;have:=Z2.o;omega));(obtain⟨d0,d1,d2,d3,d4,d5,d6,d7,z0,z1,z2,z3,z4,z5,z6,z7⟩:=XD.o.but g4 BO.o);clear hk hr g4)
        all_goals
         have HPB:=O (show PP=some (y.s,false,k,r') by rw [lp.o,HN.o];rfl);have Y5:=(XD.o.but G4.o BO.o).set (.string y.s) (.bool false) (.int .i64 o) (.int .i64 n) (.string s0) (.string t0) (.pointer p) (.slice A m0 cc);obtain⟨j0,j1,j2,j3,j4,j5,j6,j7,-,-,-,-,-,-,-,-⟩:=Y5;have gs:=uC w4 w.heap.size (.string y.s) (.bool false) (.int .i64 o) (.int .i64 n) (.string s0) (.string t0) (.pointer p) (.slice A m0 cc);have hRb:=sO.o;have R5:=O (Z6.o.but gs hRb);have K5:=O ((ZE.o.cong (λg hg=>qP w4 w.heap.size (.string y.s) (.bool false) (.int .i64 o) (.int .i64 n) (.string s0) (.string t0) (.pointer p) (.slice A m0 cc) (by have hq:w.heap.size<w3.drew.heap.size:=block_lt_of_cell XD.o.c0;have yx:w3.drew.heap.size<=g:=hg;omega))).mono (B':=λb=>w.heap.size<=b) (λb hb _=>Nat.le_trans HSD.o hb));have G5:=O (show w.grownBy _ (some R) from jQ (zf GD.o G4.o) gs (Nat.le_refl _));clear gs;go_wp2_with fail;refine bodyPost_ret (v := .agg #[.string y.s,.bool false,.int .i64 o,.int .i64 n,.string s0,.string t0,.pointer p,.slice A m0 cc]) (by simp [results,Tryz.results111,go_sem,j0,j1,j2,j3,j4,j5,j6,j7]) rfl ?_;rw [HPB.o];exact⟨[.int .i64 o,.int .i64 n,.string s0,.string t0,.pointer p,.slice A m0 cc],rfl,K5.o,R5.o,G5.o⟩
      ·have lp:=O (ij.o (λh=>by rcases hl2 with h2|h2 <;> exact h2.1 h.2.2.2.2));have GB:=G3;rcases hl2 with ⟨-,l1⟩|⟨-,l1,l2⟩
       ·go_wp2_with fail;refine⟨rfl,?_⟩;rw [lp.o];exact⟨rfl,GB.o⟩
       ·go_wp2_with fail;refine⟨rfl,?_⟩;rw [lp.o];exact⟨rfl,GB.o⟩
     ·have lp:=O (ij.o (λh=>hf h.2.2.2.1));rw [zm hf];generalize zk y.s=ff at *;clear hf;have GB:=G3;go_wp2_with fail;refine⟨rfl,?_⟩;rw [lp.o];exact⟨rfl,GB.o⟩
    ·have lp:=O (ij.o (λh=>t2 (by rw [h.2.2.1];exact ox)));clear ij hZ;go_wp2_with fail;refine⟨rfl,?_⟩;rw [lp.o];exact⟨rfl,zf G1.o (zc (za _ _) _)⟩
   ·by_cases hn1:y.n=1
    ·have hn:=hn1;clear hn1;have HN:=O hn;rw [hn];clear hn;rcases ju y.t with ht|⟨t1,t2,t3⟩
     ·have HT:=O ht;rw [ht];clear ht;have B2:=O (za w1 (.cells #[.int .i64 47,.int .i64 1,.string y.s,.string ⟨#[]⟩] 47));have V2:=O (fq w1 (.int .i64 47) (.int .i64 1) (.string y.s) (.string ⟨#[]⟩) 47);go_wp2_with fail;obtain⟨w2,hw2⟩:∃w2,w1.alloc (.cells #[.int .i64 47,.int .i64 1,.string y.s,.string ⟨#[]⟩] 47)=w2:=⟨_,rfl⟩
      rw [hw2] at B2 V2 ⊢;clear hw2;refine(KN.o w2).mono ?_;rintro e w3 ⟨rfl,b3⟩;have B3:=bh B2 b3;have V3:=O (V2.o.keep b3);have G3:=O (zf G1.o (zc B3.o (some R)));have R3:=O (R1.o.keep B3.o);have X3:=O (X1.o.keep B3.o);have MI:=O (Nat.le_trans sd.o B3.o.size);clear b3 B2 V2 G1 R1 X1 sd KN B3;obtain⟨c0,c1,c2,c3,-,-,-,-⟩:=V3.o;by_cases hf:zk y.s=0
      ·have HF:=O hf;rw [hf,zj];clear hf;rcases pY y.s x with ⟨l0,l1,l2⟩|hl2
       ·have Wh:=O (hZ.o ⟨HO.o,by rw [HN.o];simp,HT.o,HF.o,l0⟩);have bd3:Below w3.heap.size w3 w3.drew:=⟨rfl,rfl,rfl,Nat.le_refl _,λ_ _=>rfl⟩
        have VD:=O (V3.o.keep bd3);have XD:=O (X3.o.keep bd3);have GD:=O (zf G3.o (zc bd3 (some R)));have HSD:=O (show w.heap.size<=w3.drew.heap.size from MI.o);have Z2:=O (show R<w1.heap.size from HW1.o);have IK:=O (IH.o r w3.drew (R3.o.keep bd3) (by simp at hl;omega));clear bd3;obtain⟨e0,e1,e2,e3,-,-,-,-⟩:=VD.o;rcases hp:zT m r with _|⟨k,r'⟩
        ·have lp:=O (show PP=none by rw [Wh.o,hp]);have Yj:=O (λd os=>(IH.o r (grow (redrawn w3 d) os) (R3.o.keep (below_regrown w3 d os)) (by simp at hl;omega)));simp only [hp] at Yj;clear IK hp e0 e1 e2 e3 Wh;have k0:=cell_regrown c0;have k1:=cell_regrown c1;have k2:=cell_regrown c2;have k3:=cell_regrown c3;go_wp2_with fail;refine aD (l := [_,_,_,_,_,_]) [0,1,2,3,4,5] [6] (by kernel_rfl) (by decide) (by kernel_rfl) rfl (λw'=>∃p:Regrown,w'=grow (redrawn w3 p.d) p.os) (λch w'=>ch=tY/\w3.grownBy w' (some R)) ⟨⟨w3.drawn+1,#[]⟩,by rw [grow_empty];rfl⟩ ?_ ?_
         ·rintro a' ch w' hd ⟨rfl,hg⟩;exact⟨hd,by rw [lp.o];exact⟨rfl,zf G3.o hg⟩⟩
         ·repeat (first|go_big_quiet_step (fail)|quiet_step (fail))
          refine wpQuiet_nil ?_;refine⟨λo ho=>?_,trivial⟩;injection ho with ho;subst ho;refine⟨by go_simp,?_⟩;rintro w' ⟨⟨d,os⟩,rfl⟩;go_wp2_with fail;refine(Yj.o d os).mono ?_;rintro e w4 ⟨rfl,g4⟩;exact⟨rfl,zf (zc (below_regrown w3 d os) _) g4⟩
        ·have lp:=O (show PP=some (y.s,y.n==1,k,r') by rw [Wh.o,hp]);rw [hp] at IK;clear hp;go_wp2_with fail;go_region_with (go_at_call 67;(refine IK.o.mono ?_);rintro e w4 ⟨v,rfl,hk,hr,g4⟩;(obtain⟨o,n,s0,t0,p,A,m0,cc,rfl⟩:=iI hk);(have ZE:=O hk);(have Z6:=O hr);(have G4:=O g4);(obtain⟨u0,u1,u2,u3,-,-,-,-⟩:=VD.o.but g4 (by intro e;injection e with e;have:=Z2.o;omega));(obtain⟨d0,d1,d2,d3,d4,d5,d6,d7,z0,z1,z2,z3,z4,z5,z6,z7⟩:=XD.o.but g4 BO.o);clear hk hr g4)
         all_goals
          have HPB:=O (show PP=some (y.s,true,k,r') by rw [lp.o,HN.o];rfl);have Y5:=(XD.o.but G4.o BO.o).set (.string y.s) (.bool true) (.int .i64 o) (.int .i64 n) (.string s0) (.string t0) (.pointer p) (.slice A m0 cc);obtain⟨j0,j1,j2,j3,j4,j5,j6,j7,-,-,-,-,-,-,-,-⟩:=Y5;have gs:=uC w4 w.heap.size (.string y.s) (.bool true) (.int .i64 o) (.int .i64 n) (.string s0) (.string t0) (.pointer p) (.slice A m0 cc);have hRb:=sO.o;have R5:=O (Z6.o.but gs hRb);have K5:=O ((ZE.o.cong (λg hg=>qP w4 w.heap.size (.string y.s) (.bool true) (.int .i64 o) (.int .i64 n) (.string s0) (.string t0) (.pointer p) (.slice A m0 cc) (by have hq:w.heap.size<w3.drew.heap.size:=block_lt_of_cell XD.o.c0;have yx:w3.drew.heap.size<=g:=hg;omega))).mono (B':=λb=>w.heap.size<=b) (λb hb _=>Nat.le_trans HSD.o hb));have G5:=O (show w.grownBy _ (some R) from jQ (zf GD.o G4.o) gs (Nat.le_refl _));clear gs;go_wp2_with fail;refine bodyPost_ret (v := .agg #[.string y.s,.bool true,.int .i64 o,.int .i64 n,.string s0,.string t0,.pointer p,.slice A m0 cc]) (by simp [results,Tryz.results111,go_sem,j0,j1,j2,j3,j4,j5,j6,j7]) rfl ?_;rw [HPB.o];exact⟨[.int .i64 o,.int .i64 n,.string s0,.string t0,.pointer p,.slice A m0 cc],rfl,K5.o,R5.o,G5.o⟩
       ·have lp:=O (ij.o (λh=>by rcases hl2 with h2|h2 <;> exact h2.1 h.2.2.2.2));have GB:=G3;rcases hl2 with ⟨-,l1⟩|⟨-,l1,l2⟩
        ·go_wp2_with fail;refine⟨rfl,?_⟩;rw [lp.o];exact⟨rfl,GB.o⟩
        ·go_wp2_with fail;refine⟨rfl,?_⟩;rw [lp.o];exact⟨rfl,GB.o⟩
      ·have lp:=O (ij.o (λh=>hf h.2.2.2.1));rw [zm hf];generalize zk y.s=ff at *;clear hf;have GB:=G3;go_wp2_with fail;refine⟨rfl,?_⟩;rw [lp.o];exact⟨rfl,GB.o⟩
     ·have lp:=O (ij.o (λh=>t2 (by rw [h.2.2.1];exact ox)));clear ij hZ;go_wp2_with fail;refine⟨rfl,?_⟩;rw [lp.o];exact⟨rfl,zf G1.o (zc (za _ _) _)⟩
    ·have lp:=O (ij.o (λh=>h.2.1.elim hn hn1));have e0:(y.n != 0)=true:=by rw [bne_iff_ne];exact hn
     have e1:(y.n != 1)=true:=by rw [bne_iff_ne];exact hn1
     clear ij hZ hn hn1;go_wp2_with fail;refine⟨rfl,?_⟩;rw [lp.o];exact⟨rfl,zf G1.o (zc (za _ _) _)⟩
  ·have lp:=O (ij.o (λh=>ho h.1))
   have h1:(y.op != 47)=true:=by rw [bne_iff_ne];exact ho
   clear ho ij hZ;go_wp2_with fail;refine⟨rfl,?_⟩;rw [lp.o];exact⟨rfl,zf G1.o (zc (za _ _) _)⟩
end Go.Proofs.YthifljpkgfpkiaaGreatDoor
