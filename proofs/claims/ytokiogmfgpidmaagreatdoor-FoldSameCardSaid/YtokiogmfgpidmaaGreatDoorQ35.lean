/-
  eval.double: numbers. (gen_evnum.py) eval.in: is an entity one of others, or ..
-/
import Derived.Test.YtokiogmfgpidmaaGreatDoorQ34
set_option maxRecDepth 100000
set_option maxHeartbeats 8000000
namespace Go.Proofs.YtokiogmfgpidmaaGreatDoor
open Go.RowKit Go.Wk Go.Sort
theorem ig{E:List En}{op:Int}{P Q:List Nd}(h:op≠14/\op≠20/\op≠25/\op≠26/\op≠27):j7 E op P Q=if zf P=2/\zf Q=2 then
 (if op=15 then .ok (zK (decide ((hdN P).n<(hdN Q).n))) else if op=16 then .ok (zK (decide ((hdN P).n<=(hdN Q).n)))
  else je (cM op (hdN P).n (hdN Q).n) (fc (dn op (hdN P).n (hdN Q).n))) else .error 2:=by
 unfold j7;rw [if_neg h.1,if_neg h.2.1,if_neg h.2.2.1,if_neg h.2.2.2.1,if_neg h.2.2.2.2]
theorem xe{w:World}{R:Nat}{k:Cx}(_h:br w R k)(op:Int)(hop:op≠14/\op≠20/\op≠25/\op≠26/\op≠27)(A B:Option Addr)(n m c d:Nat)(P Q:List Nd)(hP:Ns w A n c P)(h0:0<P.length)(_hQ:Ns w B m d Q)(_h1:0<Q.length)(g:zf P≠2):
 Calls Tryz.prog 61 #[.pointer (some ⟨R,0,none⟩),.int .i64 op,.slice A n c,.slice B m d] w (zU w (j7 k.E op P Q)):=by
 have HR:=O (show j7 k.E op P Q = .error 2 by rw [ig hop,if_neg (λq=>g q.1)]);rw [HR.o];have f14:(op==14)=false:=beq_eq_false_iff_ne.2 hop.1;have f20:(op==20)=false:=beq_eq_false_iff_ne.2 hop.2.1;have f25:(op==25)=false:=beq_eq_false_iff_ne.2 hop.2.2.1;have f26:(op==26)=false:=beq_eq_false_iff_ne.2 hop.2.2.2.1;have f27:(op==27)=false:=beq_eq_false_iff_ne.2 hop.2.2.2.2;have KM:=O (λd os=>zG A n c P 2 (grow (redrawn w d) os) (hP.keep (below_regrown w d os)) h0);simp only [if_neg g] at KM;clear hop hP h0 g;go_enter Tryz.func61,Tryz.ntmps61;go_wp2_with fail;refine aN (l := [_,_]) [0,5] [1] (by kernel_rfl) (by decide) (by kernel_rfl) rfl (λw'=>∃p:Regrown,w'=grow (redrawn w p.d) p.os) (λch w'=>ch=bj 2/\Below w.heap.size w w') ⟨⟨w.drawn+1,#[]⟩,by rw [grow_empty];rfl⟩ ?_ ?_
 ·rintro a' ch w' hd ⟨rfl,hg⟩;exact⟨hd,jx hg⟩
 ·repeat (first|go_big_quiet_step (fail)|quiet_step (fail))
  refine wpQuiet_nil ?_;refine⟨λo ho=>?_,trivial⟩;injection ho with ho;subst ho;refine⟨by go_simp,?_⟩;rintro w' ⟨⟨d,os⟩,rfl⟩;go_wp2_with fail;refine(KM.o d os).mono ?_;rintro e w4 ⟨rfl,b4⟩;exact⟨rfl,(below_regrown w d os).trans (b4.mono (below_regrown w d os).size)⟩
theorem wt{w:World}{R:Nat}{k:Cx}(_h:br w R k)(op:Int)(hop:op≠14/\op≠20/\op≠25/\op≠26/\op≠27)(A B:Option Addr)(n m c d:Nat)(P Q:List Nd)(hP:Ns w A n c P)(h0:0<P.length)(hQ:Ns w B m d Q)(h1:0<Q.length)(g:zf P=2)(g2:zf Q≠2):
 Calls Tryz.prog 61 #[.pointer (some ⟨R,0,none⟩),.int .i64 op,.slice A n c,.slice B m d] w (zU w (j7 k.E op P Q)):=by
 have HR:=O (show j7 k.E op P Q = .error 2 by rw [ig hop,if_neg (λq=>g2 q.2)]);rw [HR.o];have f14:(op==14)=false:=beq_eq_false_iff_ne.2 hop.1;have f20:(op==20)=false:=beq_eq_false_iff_ne.2 hop.2.1;have f25:(op==25)=false:=beq_eq_false_iff_ne.2 hop.2.2.1;have f26:(op==26)=false:=beq_eq_false_iff_ne.2 hop.2.2.2.1;have f27:(op==27)=false:=beq_eq_false_iff_ne.2 hop.2.2.2.2;obtain⟨a,rfl,hn1,⟨-,d1,-,-⟩,-,-⟩:=jZ hP h0;have hn:(0:Int)<(n:Int):=by omega
 have hn0:0<n:=hn1;have k1:=cell_regrown d1;have R1:=rq (w:=w) (λw' hb=>by have:=zG (some a) n c P 2 w' (hP.keep hb) h0;rwa [if_pos g] at this);have KM:=O (λd' os=>zG B m d Q 2 (grow (redrawn w d') os) (hQ.keep (below_regrown w d' os)) h1);simp only [if_neg g2] at KM;generalize hdN P=y at *;clear hop hP h0 hQ h1 g g2;go_enter Tryz.func61,Tryz.ntmps61;go_wp2_with fail;refine aN (l := [_,_,_,_,_,_]) [0,1,2,3,4,5] [6] (by kernel_rfl) (by decide) (by kernel_rfl) rfl (λw'=>∃p:Regrown,w'=grow (redrawn w p.d) p.os) (λch w'=>ch=bj 2/\Below w.heap.size w w') ⟨⟨w.drawn+1,#[]⟩,by rw [grow_empty];rfl⟩ ?_ ?_
 ·rintro a' ch w' hd ⟨rfl,hg⟩;exact⟨hd,jx hg⟩
 ·repeat (first|go_big_quiet_step (with_reducible exact R1 _ _)|quiet_step (with_reducible exact R1 _ _))
  refine wpQuiet_nil ?_;refine⟨λo ho=>?_,trivial⟩;injection ho with ho;subst ho;refine⟨by go_simp,?_⟩;rintro w' ⟨⟨d',os⟩,rfl⟩;go_wp2_with fail;refine(KM.o d' os).mono ?_;rintro e w4 ⟨rfl,b4⟩;exact⟨rfl,(below_regrown w d' os).trans (b4.mono (below_regrown w d' os).size)⟩
theorem Cc{w:World}{R:Nat}{k:Cx}(_h:br w R k)(A B:Option Addr)(n m c d:Nat)(P Q:List Nd)(hP:Ns w A n c P)(h0:0<P.length)(hQ:Ns w B m d Q)(h1:0<Q.length)(g:zf P=2)(g2:zf Q=2):
 Calls Tryz.prog 61 #[.pointer (some ⟨R,0,none⟩),.int .i64 15,.slice A n c,.slice B m d] w (zU w (j7 k.E 15 P Q)):=by
 have HR:=O (show j7 k.E 15 P Q = .ok (zK (decide ((hdN P).n<(hdN Q).n))) by rw [ig ⟨by decide,by decide,by decide,by decide,by decide⟩,if_pos ⟨g,g2⟩];rfl);rw [HR.o];obtain⟨a,rfl,hn1,⟨-,d1,-,-⟩,-,-⟩:=jZ hP h0;obtain⟨a2,rfl,hn2,⟨-,d2,-,-⟩,-,-⟩:=jZ hQ h1;have hn:(0:Int)<(n:Int):=by omega
 have hm:(0:Int)<(m:Int):=by omega
 have hn0:0<n:=hn1;have v7:0<m:=hn2;have k1:=cell_regrown d1;have k2:=cell_regrown d2;have R1:=rq (w:=w) (λw' hb=>by have:=zG (some a) n c P 2 w' (hP.keep hb) h0;rwa [if_pos g] at this);have R2:=rq (w:=w) (λw' hb=>by have:=zG (some a2) m d Q 2 w' (hQ.keep hb) h1;rwa [if_pos g2] at this);generalize hdN P=y at *;generalize hdN Q=z at *;clear hP h0 hQ h1 g g2;go_enter Tryz.func61,Tryz.ntmps61;go_wp2_with fail;refine wp_region_quiet_below (by kernel_rfl) (by kernel_rfl) ?_
 repeat (first|go_big_quiet_step (first|with_reducible exact R1 _ _|with_reducible exact R2 _ _)|quiet_step (first|with_reducible exact R1 _ _|with_reducible exact R2 _ _))
 refine wpQuiet_nil ?_;intro w1 hw';have b1:=O (show Below w.heap.size w w1 by obtain⟨⟨d,os⟩,rfl⟩:=hw';exact below_regrown _ _ _);clear hw';go_wp2_with fail;refine(jz (decide (y.n<z.n)) w1).mono ?_;rintro e w2 hp;have HP:=O (hp.up b1.o);obtain⟨-,A3,n3,c3,rfl,-,-⟩:=hp;go_wp2_with fail;go_ret;exact HP.o
theorem BI{w:World}{R:Nat}{k:Cx}(_h:br w R k)(A B:Option Addr)(n m c d:Nat)(P Q:List Nd)(hP:Ns w A n c P)(h0:0<P.length)(hQ:Ns w B m d Q)(h1:0<Q.length)(g:zf P=2)(g2:zf Q=2):
 Calls Tryz.prog 61 #[.pointer (some ⟨R,0,none⟩),.int .i64 16,.slice A n c,.slice B m d] w (zU w (j7 k.E 16 P Q)):=by
 have HR:=O (show j7 k.E 16 P Q = .ok (zK (decide ((hdN P).n<=(hdN Q).n))) by rw [ig ⟨by decide,by decide,by decide,by decide,by decide⟩,if_pos ⟨g,g2⟩];rfl);rw [HR.o];obtain⟨a,rfl,hn1,⟨-,d1,-,-⟩,-,-⟩:=jZ hP h0;obtain⟨a2,rfl,hn2,⟨-,d2,-,-⟩,-,-⟩:=jZ hQ h1;have hn:(0:Int)<(n:Int):=by omega
 have hm:(0:Int)<(m:Int):=by omega
 have hn0:0<n:=hn1;have v7:0<m:=hn2;have k1:=cell_regrown d1;have k2:=cell_regrown d2;have R1:=rq (w:=w) (λw' hb=>by have:=zG (some a) n c P 2 w' (hP.keep hb) h0;rwa [if_pos g] at this);have R2:=rq (w:=w) (λw' hb=>by have:=zG (some a2) m d Q 2 w' (hQ.keep hb) h1;rwa [if_pos g2] at this);generalize hdN P=y at *;generalize hdN Q=z at *;clear hP h0 hQ h1 g g2;go_enter Tryz.func61,Tryz.ntmps61;go_wp2_with fail;refine wp_region_quiet_below (by kernel_rfl) (by kernel_rfl) ?_
 repeat (first|go_big_quiet_step (first|with_reducible exact R1 _ _|with_reducible exact R2 _ _)|quiet_step (first|with_reducible exact R1 _ _|with_reducible exact R2 _ _))
 refine wpQuiet_nil ?_;intro w1 hw';have b1:=O (show Below w.heap.size w w1 by obtain⟨⟨d,os⟩,rfl⟩:=hw';exact below_regrown _ _ _);clear hw';go_wp2_with fail;refine(jz (decide (y.n<=z.n)) w1).mono ?_;rintro e w2 hp;have HP:=O (hp.up b1.o);obtain⟨-,A3,n3,c3,rfl,-,-⟩:=hp;go_wp2_with fail;go_ret;exact HP.o
theorem Bv{w:World}{R:Nat}{k:Cx}(h:br w R k)(op:Int)(hop:op≠14/\op≠20/\op≠25/\op≠26/\op≠27)(hop2:op≠15/\op≠16)(A B:Option Addr)(n m c d:Nat)(P Q:List Nd)(hP:Ns w A n c P)(h0:0<P.length)(hQ:Ns w B m d Q)(h1:0<Q.length)(g:zf P=2)(g2:zf Q=2):
 Calls Tryz.prog 61 #[.pointer (some ⟨R,0,none⟩),.int .i64 op,.slice A n c,.slice B m d] w (zU w (j7 k.E op P Q)):=by
 have HR:=O (show j7 k.E op P Q=je (cM op (hdN P).n (hdN Q).n) (fc (dn op (hdN P).n (hdN Q).n)) by rw [ig hop,if_pos ⟨g,g2⟩,if_neg hop2.1,if_neg hop2.2]);rw [HR.o];have f14:(op==14)=false:=beq_eq_false_iff_ne.2 hop.1;have f20:(op==20)=false:=beq_eq_false_iff_ne.2 hop.2.1;have f25:(op==25)=false:=beq_eq_false_iff_ne.2 hop.2.2.1;have f26:(op==26)=false:=beq_eq_false_iff_ne.2 hop.2.2.2.1;have f27:(op==27)=false:=beq_eq_false_iff_ne.2 hop.2.2.2.2;have f15:(op==15)=false:=beq_eq_false_iff_ne.2 hop2.1;have f16:(op==16)=false:=beq_eq_false_iff_ne.2 hop2.2;obtain⟨a,rfl,hn1,⟨-,d1,-,-⟩,o1,-⟩:=jZ hP h0;obtain⟨a2,rfl,hn2,⟨-,d2,-,-⟩,o2,-⟩:=jZ hQ h1;have hn:(0:Int)<(n:Int):=by omega
 have hm:(0:Int)<(m:Int):=by omega
 have hn0:0<n:=hn1;have v7:0<m:=hn2;have k1:=cell_regrown d1;have k2:=cell_regrown d2;have R1:=rq (w:=w) (λw' hb=>by have:=zG (some a) n c P 2 w' (hP.keep hb) h0;rwa [if_pos g] at this);have R2:=rq (w:=w) (λw' hb=>by have:=zG (some a2) m d Q 2 w' (hQ.keep hb) h1;rwa [if_pos g2] at this);have sN:=O h.door;generalize hdN P=y at *;generalize hdN Q=z at *;have KN:=O (λw=>F6 op y.n z.n w ⟨o1.lo,o1.hi⟩ ⟨o2.lo,o2.hi⟩);have Oz:=O (vG op y.n z.n);clear hP h0 hQ h1 g g2 hop hop2 h o1 o2;generalize dn op y.n z.n=r at *;by_cases q:cM op y.n z.n=0
 ·have HT:=O (show je (cM op y.n z.n) (fc r)= .ok (fc r) by unfold je;rw [if_pos q]);rw [HT.o];simp only [q,zk] at KN;clear q;go_enter Tryz.func61,Tryz.ntmps61;go_wp2_with fail;refine wp_region_quiet_below (by kernel_rfl) (by kernel_rfl) ?_
  repeat (first|go_big_quiet_step (first|with_reducible exact R1 _ _|with_reducible exact R2 _ _)|quiet_step (first|with_reducible exact R1 _ _|with_reducible exact R2 _ _))
  refine wpQuiet_nil ?_;intro w1 hw';have b1:=O (show Below w.heap.size w w1 by obtain⟨⟨d,os⟩,rfl⟩:=hw';exact below_regrown _ _ _);clear hw';go_wp2_with fail;refine(KN.o _).mono ?_;rintro e w2 ⟨rfl,rfl⟩;go_wp2_with fail;refine(kR (.int .i64 r) w1).mono ?_;rintro e w3 ⟨rfl,b3⟩;have B3:=bh b1 b3;clear b3;go_wp2_with fail;go_ret;exact(ij w3 ⟨2,r,emp,emp⟩ (nJ _ _ Oz.o)).up B3.o
 ·have HT:=O (show je (cM op y.n z.n) (fc r)= .error (cM op y.n z.n) by unfold je;rw [if_neg q]);rw [HT.o];simp only [zn q] at KN;generalize cM op y.n z.n=u at *;clear q;go_enter Tryz.func61,Tryz.ntmps61;go_wp2_with fail;refine wp_region_quiet_below (by kernel_rfl) (by kernel_rfl) ?_
  repeat (first|go_big_quiet_step (first|with_reducible exact R1 _ _|with_reducible exact R2 _ _)|quiet_step (first|with_reducible exact R1 _ _|with_reducible exact R2 _ _))
  refine wpQuiet_nil ?_;intro w1 hw';have b1:=O (show Below w.heap.size w w1 by obtain⟨⟨d,os⟩,rfl⟩:=hw';exact below_regrown _ _ _);clear hw';go_wp2_with fail;refine(KN.o _).mono ?_;rintro e w2 ⟨rfl,rfl⟩;go_wp2_with fail;refine(lz (.int .i64 r) u w1 (sN.o.keep b1.o)).mono ?_;rintro e w3 ⟨rfl,b3⟩;have B3:=bh b1 b3;clear b3;go_wp2_with fail;exact⟨rfl,jx B3.o⟩
theorem Ef(A:Option Addr)(n c:Nat)(V:List Sl)(p:List Nd->Bool)(bx ba:Nat)(w:World)(hn:n=V.length)(hm:n<=maxLen)(hV:aw w A V)
 (C:Hid (∀r∈V,∀(w':World),Below w.heap.size w w'->Ns w' r.A r.n r.c r.P->Calls Tryz.prog 148 #[.slice r.A r.n r.c,.pointer (some ⟨bx,0,none⟩),.pointer (some ⟨ba,0,none⟩)] w' λe w''=>e = .returned (.bool (p r.P))/\Below w'.heap.size w' w'')):
 Calls Tryz.prog 169 #[.slice A n c,(.func (.func 148) #[] #[.pointer (some ⟨bx,0,none⟩),.pointer (some ⟨ba,0,none⟩)])] w (fY (V.any λr=>p r.P) w):=by
 unfold maxLen at hm;have HV:=O hV;have HN:=O hn;clear hV hn;go_enter Tryz.func169,Tryz.ntmps169;go_wp2_with fail;go_loopw [5,8] (λ_ i wr=>∃k:Nat,k<=n/\i = .int .i64 k/\Hid ((V.any λr=>p r.P)=(V.drop k).any λr=>p r.P)/\Hid (Below w.heap.size w wr)) (λ_ i _=>n-(intOf i).toNat)
 case atStart=>exact⟨0,Nat.zero_le _,rfl,rfl,Below.refl _ _⟩
 case round =>
  obtain⟨k,hk,rfl,hE,hB⟩:=hrel;by_cases hlt:k<n
  ·have h1:k<V.length:=by rw [<-HN.o];exact hlt
   obtain⟨a,rfl,q,hs⟩:=(HV.o.keep hB.o).at h1;have HA:=O (hE.o.trans (mR h1));have Cr:=O (C.o V[k] (List.getElem_mem h1) wr hB.o hs);generalize V[k]=r at *;clear hE hs;rcases hp:p r.P with _|_
   ·rw [hp] at Cr HA;clear hp;go_wp2_with fail;refine(Cr.o).mono ?_;rintro e w1 ⟨rfl,b1⟩;go_wp2_with fail;go_roundw
    case rel=>exact⟨k+1,by omega,by go_num,HA,bh hB b1⟩
    case measure=>simp [intOf];omega
   ·rw [hp] at Cr HA;clear hp;go_wp2_with fail;refine(Cr.o).mono ?_;rintro e w1 ⟨rfl,b1⟩;go_wp2_with fail;go_ret;exact⟨_,rfl,by rw [HA.o];simp,(bh hB b1).o⟩
  ·have HA:=O (hE.o.trans (by rw [List.drop_of_length_le (by rw [<-HN.o];omega)];rfl:_=false));clear hE;go_wp2_with fail;go_ret;exact⟨_,rfl,by rw [HA.o];rfl,hB.o⟩
theorem ln(A:Option Addr)(n c:Nat)(V:List Sl)(p:List Nd->Bool)(bx ba:Nat)(w:World)(hn:n=V.length)(hm:n<=maxLen)(hV:aw w A V)
 (C:Hid (∀r∈V,∀(w':World),Below w.heap.size w w'->Ns w' r.A r.n r.c r.P->Calls Tryz.prog 148 #[.slice r.A r.n r.c,.pointer (some ⟨bx,0,none⟩),.pointer (some ⟨ba,0,none⟩)] w' λe w''=>e = .returned (.bool (p r.P))/\Below w'.heap.size w' w'')):
 Calls Tryz.prog 147 #[.slice A n c,(.func (.func 148) #[] #[.pointer (some ⟨bx,0,none⟩),.pointer (some ⟨ba,0,none⟩)])] w λe w'=>e = .returned (.bool (V.any λr=>p r.P))/\Below w.heap.size w w':=by
 have I:=O (Ef A n c V p bx ba w hn hm hV C);unfold fY at I;clear hn hV C;go_enter Tryz.func147,Tryz.ntmps147;go_wp2_with fail;refine(I.o).mono ?_;rintro e w1 ⟨i,rfl,hi,b1⟩;have HI:=O hi;clear hi;go_wp2_with fail;go_ret;exact⟨zl HI.o,b1⟩
theorem Dt{V:List Nd}(h:er (hdN V)):UOk (jX V):=⟨h.s,h.t⟩
theorem ud{w:World}{R:Nat}{k:Cx}(h:br w R k)(A B:Option Addr)(n m c d:Nat)(P Q:List Nd)(hP:Ns w A n c P)(h0:0<P.length)(hQ:Ns w B m d Q)(h1:0<Q.length)(bx ba:Nat)
 (cx:w.cell? ⟨bx,0,none⟩=some (.pointer (some ⟨R,0,none⟩))) (ca:w.cell? ⟨ba,0,none⟩=some (.slice A n c)):
 Calls Tryz.prog 148 #[.slice B m d,.pointer (some ⟨bx,0,none⟩),.pointer (some ⟨ba,0,none⟩)] w λe w'=>e = .returned (.bool (inB k.E (jX P) (jX Q)))/\Below w.heap.size w w':=by
 obtain⟨a1,rfl,q1,-,o1,-⟩:=jZ hP h0;obtain⟨a2,rfl,q2,-,o2,-⟩:=jZ hQ h1;have R1:=rq (w:=w) (λw' hb=>nu (some a1) n c P w' (hP.keep hb) h0);have R2:=rq (w:=w) (λw' hb=>nu (some a2) m d Q w' (hQ.keep hb) h1);have R3:=rq (w:=w) (λw' hb=>by
  have:=JR k.EA k.en k.ec k.E (jX P) (jX Q) w' (h.es.keep hb) (Dt o1) (Dt o2)
  rwa [show jw k.E=0 from h.e,zk] at this)
 have R4:=rq (w:=w) (λw' hb=>bT (.bool (inB k.E (jX P) (jX Q))) w');have c0:=h.c0;have k0:=cell_regrown c0;have k1:=cell_regrown cx;have k2:=cell_regrown ca;unfold udV at R1 R2 R3;generalize inB k.E (jX P) (jX Q)=b at *;generalize jX P=u at *;generalize jX Q=v at *;clear h hP hQ h0 h1 o1 o2 q1 q2;go_enter Tryz.func148,Tryz.ntmps148;go_wp2_with fail;refine wp_region_quiet_below (by kernel_rfl) (by kernel_rfl) ?_
 repeat (first|go_big_quiet_step (first|with_reducible exact R1 _ _|with_reducible exact R2 _ _|with_reducible exact R3 _ _|with_reducible exact R4 _ _)|quiet_step (first|with_reducible exact R1 _ _|with_reducible exact R2 _ _|with_reducible exact R3 _ _|with_reducible exact R4 _ _))
 refine wpQuiet_nil ?_;intro w2 hw';have b2:=O (show Below w.heap.size w w2 by obtain⟨⟨d,os⟩,rfl⟩:=hw';exact below_regrown _ _ _);clear hw';go_wp2_with fail;go_ret;exact⟨rfl,b2.o⟩
theorem GY(w:World)(r:Sl)(hr:Ns w r.A r.n r.c r.P)(t:TypeId):aw (w.alloc (.cells #[.slice r.A r.n r.c] t)) (some ⟨w.heap.size,0,none⟩) [r]:=λk x hx=>by
 match k,hx with
 | 0,hx=>simp at hx;subst hx;exact⟨_,rfl,zV (heap_alloc_last w _) rfl,hr.keep (zb w _)⟩
 | k+1,hx=>simp at hx
def nO(w:World)(E:List En)(P Q:List Nd)(e:Ending)(w':World):Prop :=
 Below w.heap.size w w'/\e=if zf P=4/\(jY Q).all (λt=>decide (zf t=4)) then .returned (.bool ((jY Q).any λt=>inB E (jX P) (jX t))) else .panicked (bj 2)
def inW(w:World)(R:Nat)(A:Option Addr)(n c:Nat):World:=(w.alloc (.cells #[.pointer (some ⟨R,0,none⟩)] 67)).alloc (.cells #[.slice A n c] 70)
theorem cY(w:World)(R:Nat)(A:Option Addr)(n c:Nat):Below w.heap.size w (inW w R A n c):=(zb w _).trans ((zb _ _).mono (by simp))
theorem I'(w:World)(R:Nat)(A:Option Addr)(n c:Nat):(inW w R A n c).cell? ⟨w.heap.size,0,none⟩=some (.pointer (some ⟨R,0,none⟩)):=za (zb _ _) (zV (heap_alloc_last w _) rfl)
theorem I9(w:World)(R:Nat)(A:Option Addr)(n c:Nat):(inW w R A n c).cell? ⟨w.heap.size+1,0,none⟩=some (.slice A n c):=by
 have:=zV (heap_alloc_last (w.alloc (.cells #[.pointer (some ⟨R,0,none⟩)] 67)) (.cells #[.slice A n c] 70)) (k:=0) (u := .slice A n c) rfl;rw [World.size_alloc] at this;exact this
theorem LK{w:World}{R:Nat}{k:Cx}(_h:br w R k)(A B:Option Addr)(n m c d:Nat)(P Q:List Nd)(hP:Ns w A n c P)(h0:0<P.length)(_hQ:Ns w B m d Q)(_h1:0<Q.length)(g:zf P≠4):
 Calls Tryz.prog 108 #[.pointer (some ⟨R,0,none⟩),.slice A n c,.slice B m d] w (nO w k.E P Q):=by
 have K:=O (zG A n c P 4 (inW w R A n c) (hP.keep (cY w R A n c)) h0);rw [if_neg g] at K;have B0:=O (cY w R A n c);have HR:=O (show(if zf P=4/\(jY Q).all (λt=>decide (zf t=4)) then Ending.returned (.bool ((jY Q).any λt=>inB k.E (jX P) (jX t))) else .panicked (bj 2))= .panicked (bj 2) from if_neg (λq=>g q.1));unfold inW at K B0;clear hP h0 g;go_enter Tryz.func108,Tryz.ntmps108;go_wp2_with fail;refine K.o.mono ?_;rintro e w1 ⟨rfl,b1⟩;have B1:=bh B0 b1;clear b1 K;go_wp2_with fail;exact⟨rfl,B1.o,by rw [HR.o]⟩
theorem JF{w:World}{R:Nat}{k:Cx}(h:br w R k)(A B:Option Addr)(n m c d:Nat)(P Q:List Nd)(hP:Ns w A n c P)(h0:0<P.length)(hQ:Ns w B m d Q)(h1:0<Q.length)(g:zf P=4)(g5:zf Q≠5):
 Calls Tryz.prog 108 #[.pointer (some ⟨R,0,none⟩),.slice A n c,.slice B m d] w (nO w k.E P Q):=by
 have K:=O (zG A n c P 4 (inW w R A n c) (hP.keep (cY w R A n c)) h0);rw [if_pos g] at K;have B0:=O (cY w R A n c);have HX:=O (I' w R A n c);have HA:=O (I9 w R A n c);have HP:=O hP;have HQ:=O hQ;have HE:=O h;have H0:=O h0;have sN:=O h.door;have KI:=O (λw' hb=>dr B m d Q 5 w' (hQ.keep (w':=w') hb) h1);unfold inW at K B0 HX HA;have f5:(zf Q==5)=false:=beq_eq_false_iff_ne.2 g5;rw [f5] at KI;clear f5;go_enter Tryz.func108,Tryz.ntmps108;go_wp2_with fail;refine K.o.mono ?_;rintro e w1 ⟨rfl,b1⟩;have B1:=bh B0 b1;have Md:=O (za b1 HX.o);have Iz:=O (za b1 HA.o);clear b1 K B0 HX HA;go_wp2_with fail;have HS:=O (GY w1 ⟨B,m,d,Q⟩ (HQ.o.keep B1.o) 22);have B2:=bh B1 (zb w1 (.cells #[.slice B m d] 22));have MH:=O (za (zb w1 (.cells #[.slice B m d] 22)) Md.o);have Kk:=O (za (zb w1 (.cells #[.slice B m d] 22)) Iz.o);refine(KI.o _ B2.o).mono ?_;rintro e w3 ⟨rfl,b3⟩;have B3:=bh B2 b3;have Me:=O (za b3 MH.o);have Mc:=O (za b3 Kk.o);have Ko:=O (HS.o.keep b3);obtain⟨V,hV⟩:∃V:List Sl,[⟨B,m,d,Q⟩]=V:=⟨_,rfl⟩
 have Kr:=O (show V.length=1 by rw [<-hV];rfl);have IV:=O (show V.map Sl.P=jY Q by rw [<-hV];unfold jY;rw [if_neg g5];rfl);have My:=O (show∀r∈V,0<r.P.length by rw [<-hV];intro r hr;simp only [List.mem_cons,List.not_mem_nil,or_false] at hr;subst hr;exact h1);rw [hV] at Ko;obtain⟨TA,hTA⟩:∃TA:Option Addr,(some ⟨w1.heap.size,0,none⟩:Option Addr)=TA:=⟨_,rfl⟩
 rw [hTA] at Ko ⊢;clear hTA;clear b3 B2 B1 Md Iz MH Kk HS hV KI;have HG:=O g;have Ow:Hid (1<=maxLen):=O (by unfold maxLen;omega);clear g g5 h0 h1 hP hQ h;go_wp2_with fail;have II:∀(fn:Fn) (first cap:Array Value) (w:World),(Instr.makeFunc fn first cap).run Tryz.prog w = .ok (.func fn first cap) w:=λ_ _ _ _=>rfl;go_loopw [23] (λi wr=>∃j:Nat,i = .int .i64 j/\j<=1/\Hid ((V.take j).all (λr=>decide (zf r.P=4))=true)/\Hid (Below w.heap.size w wr)/\Hid (aw wr (TA) V)/\Hid (wr.cell? ⟨w.heap.size,0,none⟩=some (.pointer (some ⟨R,0,none⟩)))/\Hid (wr.cell? ⟨w.heap.size+1,0,none⟩=some (.slice A n c))) (λi _=>1-(intOf i).toNat)
 case atStart=>exact⟨0,rfl,Nat.zero_le _,O rfl,B3,Ko,Me,Mc⟩
 case round =>
  clear B3 Ko Me Mc;obtain⟨j,rfl,hj,hF,hB,hS,hx,ha⟩:=hrel;by_cases hlt:j<1
  ·have hl:j<V.length:=by have:=Kr.o;omega
   obtain⟨a,hA,q,hN⟩:=hS.o.at hl;cases hA;have hp:=My.o _ (List.getElem_mem hl);have hall:(V.take (j+1)).all (λr=>decide (zf r.P=4))=((V.take j).all (λr=>decide (zf r.P=4))&& decide (zf V[j].P=4)):=by
    rw [List.take_succ_eq_append_getElem hl,List.all_append];simp
   rw [hF.o,Bool.true_and] at hall;have yk:V[j].P∈jY Q:=by rw [<-IV.o];exact List.mem_map_of_mem (List.getElem_mem hl)
   have KM:=O (zG V[j].A V[j].n V[j].c V[j].P 4 wr hN hp);generalize V[j]=r at *;by_cases h4:zf r.P=4
   ·rw [if_pos h4] at KM;rw [decide_eq_true h4] at hall;have C9:=O hall;clear hall h4 hN hp yk;go_wp2_with fail;refine KM.o.mono ?_;rintro e w4 ⟨rfl,b4⟩;have B4:=bh hB b4;have IR:=O (hS.o.keep b4);have K6:=O (za b4 hx.o);have C':=O (za b4 ha.o);clear b4 hB hS hx ha hF;go_wp2_with fail;go_roundw
    case rel=>exact⟨j+1,by go_num,by omega,C9,B4,IR,K6,C'⟩
    case measure=>simp [intOf];omega
   ·rw [if_neg h4] at KM;have HR:=O (show(if zf P=4/\(jY Q).all (λt=>decide (zf t=4)) then Ending.returned (.bool ((jY Q).any λt=>inB k.E (jX P) (jX t))) else .panicked (bj 2))= .panicked (bj 2) from if_neg (λz=>h4 (by simpa using List.all_eq_true.1 z.2 _ yk)));clear hall h4 hN hp yk;go_wp2_with fail;refine KM.o.mono ?_;rintro e w4 ⟨rfl,b4⟩;have B4:=bh hB b4;clear b4 hB;go_wp2_with fail;exact⟨rfl,B4.o,by rw [HR.o]⟩
  ·have hall:(jY Q).all (λt=>decide (zf t=4))=true:=by
    rw [<-IV.o,List.all_map];have:=hF.o;rwa [List.take_of_length_le (by have:=Kr.o;omega)] at this
   have HR:=O (show(if zf P=4/\(jY Q).all (λt=>decide (zf t=4)) then Ending.returned (.bool ((jY Q).any λt=>inB k.E (jX P) (jX t))) else .panicked (bj 2))= .returned (.bool (V.any λr=>inB k.E (jX P) (jX r.P))) by
    rw [if_pos ⟨HG.o,hall⟩,<-IV.o,List.any_map];rfl)
   have KC:=O (ln (TA) (1) (1) V (λt=>inB k.E (jX P) (jX t)) w.heap.size (w.heap.size+1) wr Kr.o.symm Ow.o hS.o (O λr hr w' hb hN=>ud (HE.o.keep (hB.o.trans (hb.mono hB.o.size))) A r.A n r.n c r.c P r.P (HP.o.keep (hB.o.trans (hb.mono hB.o.size))) H0.o hN (My.o r hr) w.heap.size (w.heap.size+1) (za hb hx.o) (za hb ha.o)));generalize (V.any λr=>inB k.E (jX P) (jX r.P))=bb at *;clear hall hF hS;have Jd:=hx.o;have ha':=ha.o;go_wp2_with fail;refine KC.o.mono ?_;rintro e w4 ⟨rfl,b4⟩;have B4:=bh hB b4;clear b4 hB;go_wp2_with fail;go_ret;exact⟨B4.o,by rw [HR.o];rfl⟩
theorem JG{w:World}{R:Nat}{k:Cx}(h:br w R k)(A B:Option Addr)(n m c d:Nat)(P Q:List Nd)(hP:Ns w A n c P)(h0:0<P.length)(hQ:Ns w B m d Q)(h1:0<Q.length)(g:zf P=4)(g5:zf Q=5)(vQ:zc Q=0):
 Calls Tryz.prog 108 #[.pointer (some ⟨R,0,none⟩),.slice A n c,.slice B m d] w (nO w k.E P Q):=by
 have K:=O (zG A n c P 4 (inW w R A n c) (hP.keep (cY w R A n c)) h0);rw [if_pos g] at K;have B0:=O (cY w R A n c);have HX:=O (I' w R A n c);have HA:=O (I9 w R A n c);have HP:=O hP;have HQ:=O hQ;have HE:=O h;have H0:=O h0;have sN:=O h.door;have KI:=O (λw' hb=>dr B m d Q 5 w' (hQ.keep (w':=w') hb) h1);unfold inW at K B0 HX HA;have f5:(zf Q==5)=true:=beq_iff_eq.2 g5;rw [f5] at KI;clear f5;have KP:=O (λw' hb=>ae B m d Q w' (hQ.keep (w':=w') hb));have NI:=O (show bV Q=0 by unfold bV;rw [if_pos vQ,if_pos (Or.inl g5)]);have KJ:=O (show fB Q=jY Q by unfold fB jY;rw [NI.o,if_pos rfl,if_pos g5,if_pos g5]);have Lh:=O (show∀t∈jY Q,0<t.length by
  unfold jY
  rw [if_pos g5]
  exact λt ht=>((eB (zH.1 vQ).2 g5).2.2.1 t ht).pos)
 have Nf:=O (show(jY Q).length<=200 by
  unfold jY
  rw [if_pos g5]
  obtain⟨h2,h3⟩:=zH.1 vQ
  obtain⟨e,-,h4,-⟩:=eB h3 g5
  have h6:(zq Q).length<=(zq Q).flatten.length:=by
   clear e
   generalize zq Q=L at *
   induction L with
   | nil=>simp
   | cons x L ih =>
    have:=(h4 x (by simp)).pos
    have:=ih λy hy=>h4 y (by simp [hy])
    simp only [List.length_cons,List.flatten_cons,List.length_append]
    omega
  have h5:=congrArg List.length e
  simp only [List.length_cons] at h5
  omega)
 unfold bG at KP;rw [NI.o,zk] at KP;go_enter Tryz.func108,Tryz.ntmps108;go_wp2_with fail;refine K.o.mono ?_;rintro e w1 ⟨rfl,b1⟩;have B1:=bh B0 b1;have Md:=O (za b1 HX.o);have Iz:=O (za b1 HA.o);clear b1 K B0 HX HA;go_wp2_with fail;have B2:=bh B1 (zb w1 (.cells #[.slice B m d] 22));have MH:=O (za (zb w1 (.cells #[.slice B m d] 22)) Md.o);have Kk:=O (za (zb w1 (.cells #[.slice B m d] 22)) Iz.o);refine(KI.o _ B2.o).mono ?_;rintro e w3 ⟨rfl,b3⟩;have OJ:=bh B2 b3;have HX3':=O (za b3 MH.o);have HA3':=O (za b3 Kk.o);clear b3 B2 B1 Md Iz MH Kk KI;go_wp2_with fail;refine(KP.o _ OJ.o).mono ?_;rintro e w4 ⟨pv,V,rfl,hO,Db,-,b4⟩;have B4:=bh OJ b4;have K6:=O (za b4 HX3'.o);have C':=O (za b4 HA3'.o);have IV:=O (Db.trans KJ.o);obtain⟨TA,tc,rfl,htc,C5⟩:=hO.at
 have IR:=O C5;have My:=O (show∀r∈V,0<r.P.length from λr hr=>Lh.o r.P (by rw [<-IV.o];exact List.mem_map_of_mem hr));obtain⟨tn,Oa⟩:∃tn:Nat,tn=V.length:=⟨_,rfl⟩
 have Kr:=O Oa.symm;have hv2:V.length<=200:=by have h7:=congrArg List.length IV.o;rw [List.length_map] at h7;rw [h7];exact Nf.o
 rw [<-Oa] at hv2 ⊢;have Ow:Hid (tn<=maxLen):=O (by unfold maxLen;omega);have HG:=O g;clear b4 OJ HX3' HA3' KP hO Db htc C5 Oa Lh Nf NI KJ g g5 h0 h1 hP hQ h vQ;go_wp2_with fail;refine(tm _ w4).mono ?_;rintro e w5 ⟨rfl,b5⟩;have B3:=bh B4 b5;have Me:=O (za b5 K6.o);have Mc:=O (za b5 C'.o);have Ko:=O (IR.o.keep b5);clear b5 B4 K6 C' IR;go_wp2_with fail;have II:∀(fn:Fn) (first cap:Array Value) (w:World),(Instr.makeFunc fn first cap).run Tryz.prog w = .ok (.func fn first cap) w:=λ_ _ _ _=>rfl;go_loopw [23] (λi wr=>∃j:Nat,i = .int .i64 j/\j<=tn/\Hid ((V.take j).all (λr=>decide (zf r.P=4))=true)/\Hid (Below w.heap.size w wr)/\Hid (aw wr (TA) V)/\Hid (wr.cell? ⟨w.heap.size,0,none⟩=some (.pointer (some ⟨R,0,none⟩)))/\Hid (wr.cell? ⟨w.heap.size+1,0,none⟩=some (.slice A n c))) (λi _=>tn-(intOf i).toNat)
 case atStart=>exact⟨0,rfl,Nat.zero_le _,O rfl,B3,Ko,Me,Mc⟩
 case round =>
  clear B3 Ko Me Mc;obtain⟨j,rfl,hj,hF,hB,hS,hx,ha⟩:=hrel;by_cases hlt:j<tn
  ·have hl:j<V.length:=by have:=Kr.o;omega
   obtain⟨a,hA,q,hN⟩:=hS.o.at hl;cases hA;have hp:=My.o _ (List.getElem_mem hl);have hall:(V.take (j+1)).all (λr=>decide (zf r.P=4))=((V.take j).all (λr=>decide (zf r.P=4))&& decide (zf V[j].P=4)):=by
    rw [List.take_succ_eq_append_getElem hl,List.all_append];simp
   rw [hF.o,Bool.true_and] at hall;have yk:V[j].P∈jY Q:=by rw [<-IV.o];exact List.mem_map_of_mem (List.getElem_mem hl)
   have KM:=O (zG V[j].A V[j].n V[j].c V[j].P 4 wr hN hp);generalize V[j]=r at *;by_cases h4:zf r.P=4
   ·rw [if_pos h4] at KM;rw [decide_eq_true h4] at hall;have C9:=O hall;clear hall h4 hN hp yk;go_wp2_with fail;refine KM.o.mono ?_;rintro e w4 ⟨rfl,b4⟩;have B4:=bh hB b4;have IR:=O (hS.o.keep b4);have K6:=O (za b4 hx.o);have C':=O (za b4 ha.o);clear b4 hB hS hx ha hF;go_wp2_with fail;go_roundw
    case rel=>exact⟨j+1,by go_num,by omega,C9,B4,IR,K6,C'⟩
    case measure=>simp [intOf];omega
   ·rw [if_neg h4] at KM;have HR:=O (show(if zf P=4/\(jY Q).all (λt=>decide (zf t=4)) then Ending.returned (.bool ((jY Q).any λt=>inB k.E (jX P) (jX t))) else .panicked (bj 2))= .panicked (bj 2) from if_neg (λz=>h4 (by simpa using List.all_eq_true.1 z.2 _ yk)));clear hall h4 hN hp yk;go_wp2_with fail;refine KM.o.mono ?_;rintro e w4 ⟨rfl,b4⟩;have B4:=bh hB b4;clear b4 hB;go_wp2_with fail;exact⟨rfl,B4.o,by rw [HR.o]⟩
  ·have hall:(jY Q).all (λt=>decide (zf t=4))=true:=by
    rw [<-IV.o,List.all_map];have:=hF.o;rwa [List.take_of_length_le (by have:=Kr.o;omega)] at this
   have HR:=O (show(if zf P=4/\(jY Q).all (λt=>decide (zf t=4)) then Ending.returned (.bool ((jY Q).any λt=>inB k.E (jX P) (jX t))) else .panicked (bj 2))= .returned (.bool (V.any λr=>inB k.E (jX P) (jX r.P))) by
    rw [if_pos ⟨HG.o,hall⟩,<-IV.o,List.any_map];rfl)
   have KC:=O (ln (TA) (tn) (tc) V (λt=>inB k.E (jX P) (jX t)) w.heap.size (w.heap.size+1) wr Kr.o.symm Ow.o hS.o (O λr hr w' hb hN=>ud (HE.o.keep (hB.o.trans (hb.mono hB.o.size))) A r.A n r.n c r.c P r.P (HP.o.keep (hB.o.trans (hb.mono hB.o.size))) H0.o hN (My.o r hr) w.heap.size (w.heap.size+1) (za hb hx.o) (za hb ha.o)));generalize (V.any λr=>inB k.E (jX P) (jX r.P))=bb at *;clear hall hF hS;have Jd:=hx.o;have ha':=ha.o;go_wp2_with fail;refine KC.o.mono ?_;rintro e w4 ⟨rfl,b4⟩;have B4:=bh hB b4;clear b4 hB;go_wp2_with fail;go_ret;exact⟨B4.o,by rw [HR.o];rfl⟩
theorem H8{w:World}{R:Nat}{k:Cx}(h:br w R k)(A B:Option Addr)(n m c d:Nat)(P Q:List Nd)(hP:Ns w A n c P)(h0:0<P.length)(hQ:Ns w B m d Q)(h1:0<Q.length)(vQ:zc Q=0):
 Calls Tryz.prog 108 #[.pointer (some ⟨R,0,none⟩),.slice A n c,.slice B m d] w (nO w k.E P Q):=by
 by_cases g:zf P=4
 ·by_cases g5:zf Q=5
  ·exact JG h A B n m c d P Q hP h0 hQ h1 g g5 vQ
  ·exact JF h A B n m c d P Q hP h0 hQ h1 g g5
 ·exact LK h A B n m c d P Q hP h0 hQ h1 g
theorem D8{W:World}{R N:Nat}{k:Cx}(ih:eV W R k N){w:World}{p:Nat}(h:ja W w R k (p:Int))(n:Nd)(ps:Exs)(hx:gU k.P p false ps)(h5:n.op=5)(hn:n.n=(ps.len:Int))(hl:ps.flat.length<=N)(bX:ps.len<=200):
 Calls Tryz.prog 59 #[.pointer (some ⟨R,0,none⟩),ndV n] w (zZ W w R k ((p+ps.flat.length:Nat):Int) (BL (evS k.env ps))):=by
 obtain⟨i0,hi,hz0,hz1,hz2⟩:=info_parts gz;have IH:=O ih;have sN:=O (λw' hb=>h.cx.door.keep (w':=w') hb);have H0:=O (h.keep (zb w (.cells #[.int .i64 5,.int .i64 n.n,.string n.s,.string n.t] 28)));have G0:=O (zj (zb w (.cells #[.int .i64 5,.int .i64 n.n,.string n.s,.string n.t] 28)) (some R));have px:=h.lt;have HX:=O hx;have HL:=O hl;unfold ndV;rw [h5];obtain⟨m,hm⟩:∃m:Nat,m=ps.len:=⟨_,rfl⟩
 rw [<-hm] at hn bX;rw [hn] at H0 G0 ⊢;have HM:=O hm;clear h hx hl h5 ih hm hn;go_enter Tryz.func59,Tryz.ntmps59;go_wp2_with fail;go_loopw [5,6,9] (λnv v i wr=>∃(j q:Nat) (r:Exs) (V:List Sl),nv = .slice none 0 0/\i = .int .i64 j/\j<=m/\V.length=j/\Hid (j+r.len=m)/\Hid (evS k.env ps=iW (V.map Sl.P) (evS k.env r))/\Hid (gU k.P q false r)/\Hid (q+r.flat.length=p+ps.flat.length)/\Hid (r.flat.length<=N)/\
  Hid (zO wr (w.heap.size+1) v V)/\Hid (ja W wr R k q)/\Hid (w.grownBy wr (some R))/\wr.cell? ⟨w.heap.size,0,none⟩=some (.int .i64 5)) (λ_ _ i _=>m-(intOf i).toNat)
 case atStart=>exact⟨0,p,ps,[],rfl,rfl,Nat.zero_le _,rfl,O (by rw [Nat.zero_add];exact HM.o.symm),O (tG _).symm,HX,O rfl,HL,O (zO.nil _ _),H0,G0,by simp⟩
 case round =>
  obtain⟨j,q,r,V,rfl,rfl,hj,ox,hM,hS,I0,hQ,hN,hO,hE,hG,hb⟩:=hrel;clear H0 G0;by_cases hlt:j<m
  ·obtain⟨a,r',rfl⟩:∃a r',r = .cons a r':=by
    cases r with
    | nil=>have:=hM.o;simp only [Exs.len] at this;omega
    | cons a r'=>exact⟨a,r',rfl⟩
   obtain⟨ha,Iy⟩:=I0.o.head;have kQ:(Exs.cons a r').flat.length=a.flat.length+r'.flat.length:=by simp [Exs.flat]
   have la:a.flat.length<=N:=by have:=hN.o;omega
   have LX:=O (show q+a.flat.length+r'.flat.length=p+ps.flat.length by have:=hQ.o;omega);have Gb:=O (show r'.flat.length<=N by have:=hN.o;omega);have MI:=O (show j+1+r'.len=m by have:=hM.o;simp only [Exs.len] at this;omega);have vO:=O Iy;have C:=O (IH.o a q wr hE.o ha la);have hwr:w.heap.size<wr.heap.size:=block_lt_of_cell hb;rcases qa:evX k.env a with e|U
   ·have HEr:=O (hS.o.trans (tV qa));rw [qa] at C;unfold zZ at C;clear hS I0 hQ hN ha Iy kQ la qa LX Gb MI vO;go_wp2_with fail;refine C.o.mono ?_;rintro e w1 ⟨g1,rfl⟩;have G1:=O (zg hG.o g1);clear g1;go_wp2_with fail;refine⟨rfl,?_⟩;rw [EI HEr.o];exact⟨G1.o,rfl⟩
   ·have HSr:=O (hS.o.trans (yU qa));rw [qa] at C;unfold zZ at C;clear hS I0 hQ hN ha Iy kQ la qa;go_wp2_with fail;refine C.o.mono ?_;rintro e w1 ⟨g1,⟨A1,n1,c1,rfl,N1,F1⟩,E1⟩;have T1:=O (hO.o.past g1 (Nat.lt_succ_of_lt px) (λx hx=>hE.o.apart (hO.o.each x hx)));have AP:=O (gV hE.o (Nat.lt_succ_of_lt px) hO.o.own ⟨A1,n1,c1,U⟩ F1);have G1:=O (zg hG.o g1);have eb:=O (show Ns w1 (⟨A1,n1,c1,U⟩:Sl).A _ _ _ from N1);have eZ:=O E1;have vY:w.heap.size<w1.heap.size:=Nat.lt_of_lt_of_le hwr g1.size;have hb1:w1.cell? ⟨w.heap.size,0,none⟩=some (.int .i64 5):=g1.cell hb (show some w.heap.size≠some R from λe=>by injection e with e;omega);have OB:=O (λg hg=>jm T1.o.own g hg);clear g1 N1 E1 F1 C hO hE hG hb;go_wp2_with (at_builtin;refine wpList_append_own_at _ rfl _ _ 84 rfl (w.heap.size+1) 22 i0 _ 1 24 Tryz.underlying84 hi hz0 hz1 hz2 rfl (by decide) _ V.length (V.map Sl.v) rfl (T1.o.own.alloc _) ⟨_,0,none⟩ 1 1 [.slice A1 n1 c1] rfl rfl (cell_one_new _ _ _) (by intro u hu;simp only [List.mem_cons,List.not_mem_nil,or_false] at hu;subst hu;rfl) ?d1 ?d2 ?d3 ?_)
    case d1=>unfold maxLen;omega
    case d2=>omega
    case d3=>simp;omega
    intro v2 w5 hown hgrow _ hat;have E5:=O ((eZ.o.keep (zb w1 _)).far hgrow (λx hx=>by have:=OB.o x hx;omega));have G5:=O (kE (zg G1.o (zj (zb w1 _) _)) hgrow (λx hx=>Nat.le_of_succ_le (OB.o x hx)));have T5:=O (T1.o.snoc (r:=⟨A1,n1,c1,U⟩) eb.o AP.o (by rw [ox];exact hown) hgrow (by simpa using hat));have Ah:w5.cell? ⟨w.heap.size,0,none⟩=some (.int .i64 5):=hgrow.cell (za (zb w1 _) hb1) (λe=>by have:=OB.o w.heap.size e.symm;omega);have L0:(V ++ [(⟨A1,n1,c1,U⟩:Sl)]).length=j+1:=by simp [ox]
    have MZ:=O (show evS k.env ps=iW ((V ++ [(⟨A1,n1,c1,U⟩:Sl)]).map Sl.P) (evS k.env r') by rw [HSr.o,List.map_append];rfl);clear hown hgrow hat T1 eb AP eZ G1 HSr;go_wp2_with fail;go_roundw
    case rel=>exact⟨j+1,q+a.flat.length,r',_,rfl,by go_num,by omega,L0,MI,MZ,vO,LX,Gb,T5,E5,G5,Ah⟩
    case measure=>simp [intOf];omega
  ·obtain rfl:r = .nil:=by
    cases r with
    | nil=>rfl
    | cons a r'=>have:=hM.o;simp only [Exs.len] at this;omega
   have HV:=O (GT (L:=V.map Sl.P) (hS.o.trans (by simp [evS,iW])));have HQ:=O (show p+ps.flat.length=q by have:=hQ.o;simpa [Exs.flat] using this.symm);obtain⟨A,c,rfl,hc,C5⟩:=hO.o.at
   have K:=O (tM A j c V (.slice none 0 0) wr ox.symm (by omega) C5 hE.o.cx.door);have TE:=O (λe w2 (h:zU wr (je (Wk.setE (V.map Sl.P)) (dH (V.map Sl.P))) e w2)=>cP h hE.o hG.o);generalize je (Wk.setE (V.map Sl.P)) (dH (V.map Sl.P))=rr at *;clear hM hS I0 hQ hN hO hE hG C5 hc;rcases rr with u|U
   ·go_wp2_with fail;refine K.o.mono ?_;rintro e w2 hp;have HP:=O (TE.o _ _ hp);obtain⟨-,rfl⟩:=hp;go_wp2_with fail;refine⟨rfl,?_⟩;rw [HV.o]
    first
     |(rw [show((p:Int)+(ps.flat.length:Int))=(q:Int) by have:=HQ.o;omega];exact HP.o)
     |(rw [HQ.o];exact HP.o)
   ·go_wp2_with fail;refine K.o.mono ?_;rintro e w2 hp;have HP:=O (TE.o _ _ hp);obtain⟨-,A2,n2,c2,rfl,-,-⟩:=hp;go_wp2_with fail;go_ret;rw [HV.o]
    first
     |(rw [HQ.o];exact HP.o)
     |(rw [show((p:Int)+(ps.flat.length:Int))=(q:Int) by have:=HQ.o;omega];exact HP.o)
def wu(L:List (ByteArray × List Nd)):Except Int (List (ByteArray × List Nd))->Except Int (List (ByteArray × List Nd))
 | .error e => .error e
 | .ok M => .ok (L ++ M)
theorem DY(x:Except Int (List (ByteArray × List Nd))):wu [] x=x:=by cases x <;> rfl
theorem E9{σ:Env}{L:List (ByteArray × List Nd)}{x:Ex}{r:Exs}{e:Int}(h:cJ σ x = .error e):wu L (evF σ (.cons x r))= .error e:=by rw [evF,h];rfl
theorem GZ{σ:Env}{L:List (ByteArray × List Nd)}{x:Ex}{r:Exs}{U:List Nd}(h:cJ σ x = .ok U):wu L (evF σ (.cons x r))=wu (L ++ [(x.head.s,U)]) (evF σ r):=by
 rw [evF,h];simp only;rcases evF σ r with e|M
 ·rfl
 ·simp [wu]
theorem jv.past{w w':World}{B R:Nat}{v v':Value}{V:List Sl}{N:List ByteArray}(h:jv w B v v' V N)(hg:w.grownBy w' (some R))(hR:R<B)(ha:∀r∈V,aG r (some R)):jv w' B v v' V N :=
 ⟨h.a.row hg (gP h.a.own hR) ha,h.b.kept hg (gP h.b hR),h.ab,h.ap⟩
theorem jv.name2{w w':World}{B:Nat}{v v' v1:Value}{V:List Sl}{N:List ByteArray}{s:ByteArray}(h:jv w B v v' V N)
 (hown:w'.ownsRow B 9 1 v1 (N.length+1) (N.map Value.string ++ [.string s])) (hg:w.grownBy w' v'.ownBlock) (hat:v1.ownBlock=v'.ownBlock\/v1.ownBlock=some w.heap.size):jv w' B v v1 V (N ++ [s]):=by
 refine⟨h.a.row hg h.ab h.ap,by simpa using hown,?_,λr hr h0 a e=>?_⟩
 ·rcases hv:v.ownBlock with _|g
  ·exact .inl rfl
  ·have hlt:=bK h.a.own g hv;refine .inr ?_;rcases hat with q|q
   ·rw [q,<-hv];rcases h.ab with z|z
    ·rw [hv] at z;cases z
    ·exact z
   ·rw [q];intro z;injection z with z;omega
 ·rcases hat with q|q
  ·rw [q];exact h.ap r hr h0 a e
  ·rw [q];have:=(h.a.each r hr).at_.lt h0 a e;intro z;injection z with z;omega
theorem lH{ops:Array Oper}{o:Oper}{a:Act}{w:World}{K:Act->World->Prop}{Q:Exit->Act->World->Prop}{E:Prop}(hgd:o.guard=none)(s x:Operand)
 (ho:o.op = .call { callee := .builtin .append,args:=#[s,x],argTypes:=#[85,85] })
 (base:Nat) (v:Value) (N:List ByteArray) (hs:a.eval s=v) (hrow:w.ownsRow base 9 1 v N.length (N.map Value.string)) (z:ByteArray) (ad:Addr) (c:Nat) (hx:a.eval x = .slice (some ad) 1 c)
 (hnew:w.cell? ad=some (.string z)) (hl:N.length<=1000000) (hbase:base<=w.heap.size)
 (h:∀v' w',w'.ownsRow base 9 1 v' (N.length+1) (N.map Value.string ++ [.string z])->w.grownBy w' v.ownBlock->(v'.ownBlock=v.ownBlock\/v'.ownBlock=some w.heap.size)->K (a.put o.dst v') w'):
 if Region.wanted o (yielded ops a.tmps)=true then Oper.wp Tryz.prog o a w K Q else E:=by
 have hi:=il
 cases hq:Tryz.prog.info? 9 with
 | none=>rw [hq] at hi;cases hi
 | some i0 =>
  rw [hq] at hi
  simp only [Option.map_some,Option.some.injEq,Prod.mk.injEq] at hi
  refine step_append_lies w hgd s x _ ho base _ i0 _ 1 16 Tryz.underlying85 hq hi.1 hi.2.1 hi.2.2 (by decide) (by decide) v N.length (N.map Value.string) hs hrow ad 1 c [.string z] hx rfl ?_ ?_ (by decide) (by unfold maxLen;omega) (by omega) hbase _ rfl ?_
  ·intro j u hj
   match j,hj with
   | 0,hj =>
    simp only [List.getElem?_cons_zero,Option.some.injEq] at hj
    subst hj
    exact hnew
   | j+1,hj=>simp at hj
  ·intro u hu
   simp only [List.mem_cons,List.not_mem_nil,or_false] at hu;subst hu;rfl
  ·intro g cap w' h1 h2 h3 h4
   refine h _ w' h1 h2 ?_;rcases h3 with h3|h3
   ·exact .inl h3.symm
   ·exact .inr (by rw [<-h3];rfl)
theorem EW{W:World}{R N:Nat}{k:Cx}(ih:eV W R k N){w:World}{p:Nat}(h:ja W w R k (p:Int))(n:Nd)(ps:Exs)(hx:gU k.P p true ps)(h6:n.op=6)(hn:n.n=(ps.len:Int))(hl:ps.flat.length<=N)(bX:ps.len<=200):
 Calls Tryz.prog 59 #[.pointer (some ⟨R,0,none⟩),ndV n] w (zZ W w R k ((p+ps.flat.length:Nat):Int) (Dc (evF k.env ps))):=by
 obtain⟨i0,hi,hz0,hz1,hz2⟩:=info_parts gz;obtain⟨j0,hj0,jz0,jz1,jz2⟩:=info_parts il;have IH:=O ih;have H0:=O (h.keep (zb w (.cells #[.int .i64 6,.int .i64 n.n,.string n.s,.string n.t] 28)));have G0:=O (zj (zb w (.cells #[.int .i64 6,.int .i64 n.n,.string n.s,.string n.t] 28)) (some R));have px:=h.lt;have HX:=O hx;have HL:=O hl;have hmx:=h.cx.ns.max;unfold maxLen at hmx;unfold ndV;rw [h6];obtain⟨m,hm⟩:∃m:Nat,m=ps.len:=⟨_,rfl⟩
 rw [<-hm] at hn bX;rw [hn] at H0 G0 ⊢;have HM:=O hm;clear h hx hl h6 ih hm hn;go_enter Tryz.func59,Tryz.ntmps59;go_wp2_with fail;go_loopw [5,6,9] (λnv v i wr=>∃(j q:Nat) (r:Exs) (V:List Sl) (X:List (ByteArray × List Nd)),i = .int .i64 j/\j<=m/\V.length=j/\X.length=j/\Hid (V.map Sl.P=X.map Prod.snd)/\Hid (∀x∈X,x.1.size<=maxLen)/\Hid (j+r.len=m)/\Hid (evF k.env ps=wu X (evF k.env r))/\Hid (gU k.P q true r)/\Hid (q+r.flat.length=p+ps.flat.length)/\Hid (r.flat.length<=N)/\
  Hid (jv wr (w.heap.size+1) v nv V (X.map Prod.fst))/\Hid (ja W wr R k q)/\Hid (w.grownBy wr (some R))/\wr.cell? ⟨w.heap.size,0,none⟩=some (.int .i64 6)) (λ_ _ i _=>m-(intOf i).toNat)
 case atStart=>exact⟨0,p,ps,[],[],rfl,Nat.zero_le _,rfl,rfl,O rfl,O (λx hx=>nomatch hx),O (by rw [Nat.zero_add];exact HM.o.symm),O (DY _).symm,HX,O rfl,HL,O ⟨zO.nil _ _,World.ownsRow_nil _ _ _ 1,.inl rfl,(by intro r hr;cases hr)⟩,H0,G0,by simp⟩
 case round =>
  obtain⟨j,q,r,V,X,rfl,hj,ox,KO,Kw,Nj,hM,hS,I0,hQ,hN,hT,hE,hG,hb⟩:=hrel;clear H0 G0;by_cases hlt:j<m
  ·obtain⟨x,r',rfl⟩:∃x r',r = .cons x r':=by
    cases r with
    | nil=>have:=hM.o;simp only [Exs.len] at this;omega
    | cons x r'=>exact⟨x,r',rfl⟩
   obtain⟨hx,Iy⟩:=I0.o.head;obtain⟨fn,y,rfl,h7,-,hy,Ld⟩:=hx.field;obtain⟨a,ha,MU,D,ho⟩:=hE.o.node hx;have kQ:(Exs.cons (.node fn (.cons y .nil)) r').flat.length=(Ex.node fn (.cons y .nil)).flat.length+r'.flat.length:=by simp [Exs.flat]
   have ly:y.flat.length<=N:=by have:=hN.o;omega
   have LX:=O (show q+1+y.flat.length+r'.flat.length=p+ps.flat.length by have:=hQ.o;omega);have Gb:=O (show r'.flat.length<=N by have:=hN.o;omega);have MI:=O (show j+1+r'.len=m by have:=hM.o;simp only [Exs.len] at this;omega);have vO:=O (show gU k.P (q+1+y.flat.length) true r' by rw [show q+1+y.flat.length=q+(Ex.node fn (.cons y .nil)).flat.length by omega];exact Iy);have HY:=O hy;have c8:wr.cell? ⟨R,8,none⟩=some (.slice (some a) k.n k.c):=by rw [<-ha];exact hE.o.c8
   have c9:=hE.o.c9;have z9:=hE.o.z 9;have hRl2:=hE.o.lt;have d2:=D.c2;have hwr:w.heap.size<wr.heap.size:=block_lt_of_cell hb;have BA:Below wr.heap.size wr ((wr.alloc (.cells #[.string fn.s] 9)).drew):=(zb wr _).trans ((z6 _).mono (by simp));have hsA:((wr.alloc (.cells #[.string fn.s] 9)).drew).heap.size=wr.heap.size+1:=by
    show(wr.alloc (.cells #[.string fn.s] 9)).heap.size=_;simp
   have T1:=hT.o.keep BA;have e8:=za BA c8;have e9:=za BA c9;have ed:=za BA d2;have hbA:=za BA hb;have EA:=hE.o.keep BA;have GA:=zg hG.o (zj BA (some R));have hcell:((wr.alloc (.cells #[.string fn.s] 9)).drew).cell? ⟨wr.heap.size,0,none⟩=some (.string fn.s):=zV (heap_alloc_last wr _) rfl;have OBs:∀g,u5.ownBlock=some g->w.heap.size+1<=g:=λg hg=>jm hT.o.b g hg;have Ny:some R≠u5.ownBlock:=λe=>by have:=OBs R e.symm;omega
   have NEa:some (a.add (q*4)).block≠u5.ownBlock:=λe=>by
    have h1:=OBs _ e.symm;have h2:=hE.o.ok.ns.at_.lt (by rw [<-hE.o.ok.ns.len];omega) a ha;have h3:=hE.o.hi;rw [jQ] at h1;omega
   have NEb:some w.heap.size≠u5.ownBlock:=λe=>by have:=OBs _ e.symm;omega
   have Nh:(X.map Prod.fst).length<=1000000:=by rw [List.length_map];omega
   have LV:w.heap.size+1<=((wr.alloc (.cells #[.string fn.s] 9)).drew).heap.size:=by rw [hsA];omega
   have IK:(0:Int)<=(q:Int):=by omega
   have dK:(q:Int)<(k.n:Int):=by omega
   have FB:∀g,u5.ownBlock=some g->R<g:=λg hg=>by have:=OBs g hg;omega
   go_wp2_with fail;go_region_held3 (λw':World=>w'.cell? ⟨R,8,none⟩=some (.slice (some a) k.n k.c)/\w'.cell? ⟨R,9,none⟩=some (.int .i64 q)/\w'.cell? ⟨(a.add (q*4)).block,(a.add (q*4)).off+2,none⟩=some (.string fn.s)) (first|exact⟨c8,c9,d2⟩|exact⟨e8,e9,ed⟩|exact⟨t8,t9,td⟩)
    ((refine lH rfl (.tmp 14) (.tmp 26) rfl (w.heap.size+1) u5 (X.map Prod.fst) rfl T1.b fn.s ⟨wr.heap.size,0,none⟩ 1 rfl hcell Nh LV ?_;intro v1 w1 hown hgrow hat;have t8:=hgrow.cell e8 Ny;have t9:=hgrow.cell e9 Ny;have td:=hgrow.cell ed NEa))
   have T2:=T1.name2 (s:=fn.s) hown hgrow hat;have E1:=EA.far hgrow FB;have G1:=kE GA hgrow (λx hx=>Nat.le_of_succ_le (OBs x hx));have hb1:w1.cell? ⟨w.heap.size,0,none⟩=some (.int .i64 6):=hgrow.cell hbA NEb;have E2:=nZ E1 ((q:Int)+1);have T3:=O (T2.past E2.2 (Nat.lt_succ_of_lt px) (λr hr=>E1.apart (T2.a.each r hr)));have G2:=O (zg G1 E2.2);have hb2:=E2.2.cell hb1 (show some w.heap.size≠some R from λe=>by injection e with e;omega);have aC:=O E2.1;have zz:=E1.z 9;have hlw:=E1.lt;have C:=O (IH.o y (q+1) (w1.setCell ⟨R,9,none⟩ (.int .i64 ((q:Int)+1))) E2.1 HY.o ly);have hXl2:(X ++ [(fn.s,([]:List Nd))]).length=j+1:=by simp [KO]
   have OQ:=O ho.s;have hq64:(q:Int)+1<=9223372036854775807:=by omega
   have hq0:(0:Int)<=(q:Int):=by omega
   clear hown hgrow hat T1 T2 E1 G1 EA GA hbA hcell OBs Ny NEa NEb Nh LV FB BA hsA e8 e9 ed hT hE hG td t8 c8 c9 d2 D ha ho z9 IK hb;rcases qa:evX k.env y with e|U
   ·have HEr:=O (hS.o.trans (E9 (x := .node fn (.cons y .nil)) (by rw [cJ,cC,qa])));rw [qa] at C;unfold zZ at C;clear hS I0 hQ hN hx Iy kQ ly qa LX Gb MI vO hy Ld;go_wp2_with fail;refine C.o.mono ?_;rintro e w3 ⟨g3,rfl⟩;have G3:=O (zg G2.o g3);clear g3;go_wp2_with fail;refine⟨rfl,?_⟩;rw [Fh HEr.o];exact⟨G3.o,rfl⟩
   ·have HSr:=O (hS.o.trans (GZ (x := .node fn (.cons y .nil)) (by rw [cJ,cC,qa])));rw [qa] at C;unfold zZ at C;clear hS I0 hQ hN hx Iy kQ ly qa hy Ld;go_wp2_with fail;refine C.o.mono ?_;rintro e w3 ⟨g3,⟨A1,n1,c1,rfl,N1,F1⟩,E3⟩;have T4:=O (T3.o.past g3 (Nat.lt_succ_of_lt px) (λx hx=>aC.o.apart (T3.o.a.each x hx)));have A4:=O (gV aC.o (Nat.lt_succ_of_lt px) T3.o.a.own ⟨A1,n1,c1,U⟩ F1);have A5:=O (gV aC.o (Nat.lt_succ_of_lt px) T3.o.b ⟨A1,n1,c1,U⟩ F1);have G3:=O (zg G2.o g3);have eb:=O (show Ns w3 (⟨A1,n1,c1,U⟩:Sl).A _ _ _ from N1);have qm:=O E3;have hb3:w3.cell? ⟨w.heap.size,0,none⟩=some (.int .i64 6):=g3.cell hb2 (show some w.heap.size≠some R from λe=>by injection e with e;omega);have hw3:w.heap.size<w3.heap.size:=block_lt_of_cell hb3;have OB:=O (λg hg=>jm T4.o.a.own g hg);clear g3 N1 E3 F1 C T3 aC G2 hb2 hb1 t9 zz hlw;go_wp2_with (at_builtin;refine wpList_append_own_at _ rfl _ _ 84 rfl (w.heap.size+1) 22 i0 _ 1 24 Tryz.underlying84 hi hz0 hz1 hz2 rfl (by decide) _ V.length (V.map Sl.v) rfl (T4.o.a.own.alloc _) ⟨_,0,none⟩ 1 1 [.slice A1 n1 c1] rfl rfl (cell_one_new _ _ _) (by intro u hu;simp only [List.mem_cons,List.not_mem_nil,or_false] at hu;subst hu;rfl) ?d1 ?d2 ?d3 ?_)
    case d1=>unfold maxLen;omega
    case d2=>omega
    case d3=>simp;omega
    intro v2 w5 hown hgrow _ hat;have E5:=O ((qm.o.keep (zb w3 _)).far hgrow (λx hx=>by have:=OB.o x hx;omega));have G5:=O (kE (zg G3.o (zj (zb w3 _) _)) hgrow (λx hx=>Nat.le_of_succ_le (OB.o x hx)));have T5:=T4.o.part (r:=⟨A1,n1,c1,U⟩) eb.o A4.o A5.o (by rw [ox];exact hown) hgrow (by simpa using hat);have Ah:w5.cell? ⟨w.heap.size,0,none⟩=some (.int .i64 6):=hgrow.cell (za (zb w3 _) hb3) (λe=>by have:=OB.o w.heap.size e.symm;omega);have L0:(V ++ [(⟨A1,n1,c1,U⟩:Sl)]).length=j+1:=by simp [ox]
    have La:(X ++ [(fn.s,U)]).length=j+1:=by simp [KO]
    have HVX:=O (show(V ++ [(⟨A1,n1,c1,U⟩:Sl)]).map Sl.P=(X ++ [(fn.s,U)]).map Prod.snd by rw [List.map_append,List.map_append,Kw.o];rfl);have HXZ:=O (show∀x∈X ++ [(fn.s,U)],x.1.size<=maxLen from λx hx=>by
     rcases List.mem_append.1 hx with hx|hx
     ·exact Nj.o x hx
     ·simp only [List.mem_cons,List.not_mem_nil,or_false] at hx
      subst hx
      exact OQ.o)
    have T6:=O (show jv w5 (w.heap.size+1) v2 v1 (V ++ [(⟨A1,n1,c1,U⟩:Sl)]) ((X ++ [(fn.s,U)]).map Prod.fst) by rw [List.map_append];exact T5);clear hown hgrow hat T4 T5 eb A4 A5 qm G3 Kw Nj;go_wp2_with fail;go_roundw
    case rel=>exact⟨j+1,q+1+y.flat.length,r',_,_,by go_num,by omega,L0,La,HVX,HXZ,MI,HSr,vO,LX,Gb,T6,E5,G5,Ah⟩
    case measure=>simp [intOf];omega
  ·obtain rfl:r = .nil:=by
    cases r with
    | nil=>rfl
    | cons a r'=>have:=hM.o;simp only [Exs.len] at this;omega
   have HV:=O (It (L:=X) (hS.o.trans (by simp [evF,wu])));have HQ:=O (show p+ps.flat.length=q by have:=hQ.o;simpa [Exs.flat] using this.symm);obtain⟨A,c,rfl,hc,C5⟩:=hT.o.a.at
   obtain⟨A2,c2,rfl,Lg⟩:=dA hT.o.b;have Nh:(X.map Prod.fst).length=j:=by rw [List.length_map];exact KO
   have K:=O (tj A2 j c2 (X.map Prod.fst) A j c V wr Nh.symm (by omega) (λi x hi=>Lg i (.string x) (by rw [List.getElem?_map,hi];rfl)) (λx hx=>by obtain⟨y,hy,rfl⟩:=List.mem_map.1 hx;exact Nj.o y hy) ox.symm (by omega) C5 hE.o.cx.door);rw [Kw.o] at K;have TE:=O (λe w2 (h:zU wr (je (aU (X.map Prod.fst) (X.map Prod.snd)) (dJ (X.map Prod.fst) (X.map Prod.snd))) e w2)=>cP h hE.o hG.o);generalize je (aU (X.map Prod.fst) (X.map Prod.snd)) (dJ (X.map Prod.fst) (X.map Prod.snd))=rr at *;clear hM hS I0 hQ hN hT hE hG C5 hc Lg Kw Nj;rcases rr with u|U
   ·go_wp2_with fail;refine K.o.mono ?_;rintro e w2 hp;have HP:=O (TE.o _ _ hp);obtain⟨-,rfl⟩:=hp;go_wp2_with fail;refine⟨rfl,?_⟩;rw [HV.o]
    first
     |(rw [show((p:Int)+(ps.flat.length:Int))=(q:Int) by have:=HQ.o;omega];exact HP.o)
     |(rw [HQ.o];exact HP.o)
   ·go_wp2_with fail;refine K.o.mono ?_;rintro e w2 hp;have HP:=O (TE.o _ _ hp);obtain⟨-,A3,n3,c3,rfl,-,-⟩:=hp;go_wp2_with fail;go_ret;rw [HV.o]
    first
     |(rw [HQ.o];exact HP.o)
     |(rw [show((p:Int)+(ps.flat.length:Int))=(q:Int) by have:=HQ.o;omega];exact HP.o)
end Go.Proofs.YtokiogmfgpidmaaGreatDoor
