/-
  eval.double: numbers. (gen_evnum.py) eval.in: is an entity one of others, or ..
-/
import Derived.Test.YtokiogmfgpidmaaGreatDoorD35
set_option maxRecDepth 100000
set_option maxHeartbeats 8000000
namespace Go.Proofs.YtokiogmfgpidmaaGreatDoor
open Go.RowKit Go.Wk Go.Sort
theorem Py{E:List En}{op:Int}{P Q:List Nd}(h:op≠14/\op≠20/\op≠25/\op≠26/\op≠27):jO E op P Q=if zf P=2/\zf Q=2 then
 (if op=15 then .ok (zI (decide ((hdN P).n<(hdN Q).n))) else if op=16 then .ok (zI (decide ((hdN P).n<=(hdN Q).n)))
  else z6 (pU op (hdN P).n (hdN Q).n) (LU (vP op (hdN P).n (hdN Q).n))) else .error 2:=by
 unfold jO;rw [if_neg h.1,if_neg h.2.1,if_neg h.2.2.1,if_neg h.2.2.2.1,if_neg h.2.2.2.2]
theorem zdp{w:World}{R:Nat}{k:Cx}(_h:Gh w R k)(op:Int)(hop:op≠14/\op≠20/\op≠25/\op≠26/\op≠27)(A B:Option Addr)(n m c d:Nat)(P Q:List Nd)(hP:Ns w A n c P)(h0:0<P.length)(_hQ:Ns w B m d Q)(_h1:0<Q.length)(g:zf P≠2):
 Calls Tryz.prog 61 #[.pointer (some ⟨R,0,none⟩),.int .i64 op,.slice A n c,.slice B m d] w (jl w (jO k.E op P Q)):=by
 have HR:=O (show jO k.E op P Q = .error 2 by rw [Py hop,if_neg (λq=>g q.1)]);rw [HR.o];have f14:(op==14)=false:=beq_eq_false_iff_ne.2 hop.1;have f20:(op==20)=false:=beq_eq_false_iff_ne.2 hop.2.1;have f25:(op==25)=false:=beq_eq_false_iff_ne.2 hop.2.2.1;have f26:(op==26)=false:=beq_eq_false_iff_ne.2 hop.2.2.2.1;have f27:(op==27)=false:=beq_eq_false_iff_ne.2 hop.2.2.2.2;have KM:=O (λd os=>jD A n c P 2 (grow (redrawn w d) os) (hP.keep (below_regrown w d os)) h0);simp only [if_neg g] at KM;clear hop hP h0 g;go_enter Tryz.func61,Tryz.ntmps61;go_wp2_with fail;refine Ah (l := [_,_]) [0,5] [1] (by kernel_rfl) (by decide) (by kernel_rfl) rfl (λw'=>∃p:Regrown,w'=grow (redrawn w p.d) p.os) (λch w'=>ch=Gd 2/\Below w.heap.size w w') ⟨⟨w.drawn+1,#[]⟩,by rw [grow_empty];rfl⟩ ?_ ?_
 ·rintro a' ch w' hd ⟨rfl,hg⟩;exact⟨hd,j8 hg⟩
 ·repeat (first|go_big_quiet_step (fail)|quiet_step (fail))
  refine wpQuiet_nil ?_;refine⟨λo ho=>?_,trivial⟩;injection ho with ho;subst ho;refine⟨by go_simp,?_⟩;rintro w' ⟨⟨d,os⟩,rfl⟩;go_wp2_with fail;refine(KM.o d os).mono ?_;rintro e w4 ⟨rfl,b4⟩;exact⟨rfl,(below_regrown w d os).trans (b4.mono (below_regrown w d os).size)⟩
theorem zdc{w:World}{R:Nat}{k:Cx}(_h:Gh w R k)(op:Int)(hop:op≠14/\op≠20/\op≠25/\op≠26/\op≠27)(A B:Option Addr)(n m c d:Nat)(P Q:List Nd)(hP:Ns w A n c P)(h0:0<P.length)(hQ:Ns w B m d Q)(h1:0<Q.length)(g:zf P=2)(g2:zf Q≠2):
 Calls Tryz.prog 61 #[.pointer (some ⟨R,0,none⟩),.int .i64 op,.slice A n c,.slice B m d] w (jl w (jO k.E op P Q)):=by
 have HR:=O (show jO k.E op P Q = .error 2 by rw [Py hop,if_neg (λq=>g2 q.2)]);rw [HR.o];have f14:(op==14)=false:=beq_eq_false_iff_ne.2 hop.1;have f20:(op==20)=false:=beq_eq_false_iff_ne.2 hop.2.1;have f25:(op==25)=false:=beq_eq_false_iff_ne.2 hop.2.2.1;have f26:(op==26)=false:=beq_eq_false_iff_ne.2 hop.2.2.2.1;have f27:(op==27)=false:=beq_eq_false_iff_ne.2 hop.2.2.2.2;obtain⟨a,rfl,hn1,⟨-,d1,-,-⟩,-,-⟩:=jY hP h0;have hn:(0:Int)<(n:Int):=by omega
 have hn0:0<n:=hn1;have k1:=cell_regrown d1;have R1:=rq (w:=w) (λw' hb=>by have:=jD (some a) n c P 2 w' (hP.keep hb) h0;rwa [if_pos g] at this);have KM:=O (λd' os=>jD B m d Q 2 (grow (redrawn w d') os) (hQ.keep (below_regrown w d' os)) h1);simp only [if_neg g2] at KM;generalize hdN P=y at *;clear hop hP h0 hQ h1 g g2;go_enter Tryz.func61,Tryz.ntmps61;go_wp2_with fail;refine Ah (l := [_,_,_,_,_,_]) [0,1,2,3,4,5] [6] (by kernel_rfl) (by decide) (by kernel_rfl) rfl (λw'=>∃p:Regrown,w'=grow (redrawn w p.d) p.os) (λch w'=>ch=Gd 2/\Below w.heap.size w w') ⟨⟨w.drawn+1,#[]⟩,by rw [grow_empty];rfl⟩ ?_ ?_
 ·rintro a' ch w' hd ⟨rfl,hg⟩;exact⟨hd,j8 hg⟩
 ·repeat (first|go_big_quiet_step (with_reducible exact R1 _ _)|quiet_step (with_reducible exact R1 _ _))
  refine wpQuiet_nil ?_;refine⟨λo ho=>?_,trivial⟩;injection ho with ho;subst ho;refine⟨by go_simp,?_⟩;rintro w' ⟨⟨d',os⟩,rfl⟩;go_wp2_with fail;refine(KM.o d' os).mono ?_;rintro e w4 ⟨rfl,b4⟩;exact⟨rfl,(below_regrown w d' os).trans (b4.mono (below_regrown w d' os).size)⟩
theorem zge{w:World}{R:Nat}{k:Cx}(_h:Gh w R k)(A B:Option Addr)(n m c d:Nat)(P Q:List Nd)(hP:Ns w A n c P)(h0:0<P.length)(hQ:Ns w B m d Q)(h1:0<Q.length)(g:zf P=2)(g2:zf Q=2):
 Calls Tryz.prog 61 #[.pointer (some ⟨R,0,none⟩),.int .i64 15,.slice A n c,.slice B m d] w (jl w (jO k.E 15 P Q)):=by
 have HR:=O (show jO k.E 15 P Q = .ok (zI (decide ((hdN P).n<(hdN Q).n))) by rw [Py ⟨by decide,by decide,by decide,by decide,by decide⟩,if_pos ⟨g,g2⟩];rfl);rw [HR.o];obtain⟨a,rfl,hn1,⟨-,d1,-,-⟩,-,-⟩:=jY hP h0;obtain⟨a2,rfl,hn2,⟨-,d2,-,-⟩,-,-⟩:=jY hQ h1;have hn:(0:Int)<(n:Int):=by omega
 have hm:(0:Int)<(m:Int):=by omega
 have hn0:0<n:=hn1;have hm0:0<m:=hn2;have k1:=cell_regrown d1;have k2:=cell_regrown d2;have R1:=rq (w:=w) (λw' hb=>by have:=jD (some a) n c P 2 w' (hP.keep hb) h0;rwa [if_pos g] at this);have R2:=rq (w:=w) (λw' hb=>by have:=jD (some a2) m d Q 2 w' (hQ.keep hb) h1;rwa [if_pos g2] at this);generalize hdN P=y at *;generalize hdN Q=z at *;clear hP h0 hQ h1 g g2;go_enter Tryz.func61,Tryz.ntmps61;go_wp2_with fail;refine wp_region_quiet_below (by kernel_rfl) (by kernel_rfl) ?_
 repeat (first|go_big_quiet_step (first|with_reducible exact R1 _ _|with_reducible exact R2 _ _)|quiet_step (first|with_reducible exact R1 _ _|with_reducible exact R2 _ _))
 refine wpQuiet_nil ?_;intro w1 hw';have b1:=O (show Below w.heap.size w w1 by obtain⟨⟨d,os⟩,rfl⟩:=hw';exact below_regrown _ _ _);clear hw';go_wp2_with fail;refine(j6 (decide (y.n<z.n)) w1).mono ?_;rintro e w2 hp;have HP:=O (hp.up b1.o);obtain⟨-,A3,n3,c3,rfl,-,-⟩:=hp;go_wp2_with fail;go_ret;exact HP.o
theorem zgn{w:World}{R:Nat}{k:Cx}(_h:Gh w R k)(A B:Option Addr)(n m c d:Nat)(P Q:List Nd)(hP:Ns w A n c P)(h0:0<P.length)(hQ:Ns w B m d Q)(h1:0<Q.length)(g:zf P=2)(g2:zf Q=2):
 Calls Tryz.prog 61 #[.pointer (some ⟨R,0,none⟩),.int .i64 16,.slice A n c,.slice B m d] w (jl w (jO k.E 16 P Q)):=by
 have HR:=O (show jO k.E 16 P Q = .ok (zI (decide ((hdN P).n<=(hdN Q).n))) by rw [Py ⟨by decide,by decide,by decide,by decide,by decide⟩,if_pos ⟨g,g2⟩];rfl);rw [HR.o];obtain⟨a,rfl,hn1,⟨-,d1,-,-⟩,-,-⟩:=jY hP h0;obtain⟨a2,rfl,hn2,⟨-,d2,-,-⟩,-,-⟩:=jY hQ h1;have hn:(0:Int)<(n:Int):=by omega
 have hm:(0:Int)<(m:Int):=by omega
 have hn0:0<n:=hn1;have hm0:0<m:=hn2;have k1:=cell_regrown d1;have k2:=cell_regrown d2;have R1:=rq (w:=w) (λw' hb=>by have:=jD (some a) n c P 2 w' (hP.keep hb) h0;rwa [if_pos g] at this);have R2:=rq (w:=w) (λw' hb=>by have:=jD (some a2) m d Q 2 w' (hQ.keep hb) h1;rwa [if_pos g2] at this);generalize hdN P=y at *;generalize hdN Q=z at *;clear hP h0 hQ h1 g g2;go_enter Tryz.func61,Tryz.ntmps61;go_wp2_with fail;refine wp_region_quiet_below (by kernel_rfl) (by kernel_rfl) ?_
 repeat (first|go_big_quiet_step (first|with_reducible exact R1 _ _|with_reducible exact R2 _ _)|quiet_step (first|with_reducible exact R1 _ _|with_reducible exact R2 _ _))
 refine wpQuiet_nil ?_;intro w1 hw';have b1:=O (show Below w.heap.size w w1 by obtain⟨⟨d,os⟩,rfl⟩:=hw';exact below_regrown _ _ _);clear hw';go_wp2_with fail;refine(j6 (decide (y.n<=z.n)) w1).mono ?_;rintro e w2 hp;have HP:=O (hp.up b1.o);obtain⟨-,A3,n3,c3,rfl,-,-⟩:=hp;go_wp2_with fail;go_ret;exact HP.o
theorem zfN{w:World}{R:Nat}{k:Cx}(h:Gh w R k)(op:Int)(hop:op≠14/\op≠20/\op≠25/\op≠26/\op≠27)(zek:op≠15/\op≠16)(A B:Option Addr)(n m c d:Nat)(P Q:List Nd)(hP:Ns w A n c P)(h0:0<P.length)(hQ:Ns w B m d Q)(h1:0<Q.length)(g:zf P=2)(g2:zf Q=2):
 Calls Tryz.prog 61 #[.pointer (some ⟨R,0,none⟩),.int .i64 op,.slice A n c,.slice B m d] w (jl w (jO k.E op P Q)):=by
 have HR:=O (show jO k.E op P Q=z6 (pU op (hdN P).n (hdN Q).n) (LU (vP op (hdN P).n (hdN Q).n)) by rw [Py hop,if_pos ⟨g,g2⟩,if_neg zek.1,if_neg zek.2]);rw [HR.o];have f14:(op==14)=false:=beq_eq_false_iff_ne.2 hop.1;have f20:(op==20)=false:=beq_eq_false_iff_ne.2 hop.2.1;have f25:(op==25)=false:=beq_eq_false_iff_ne.2 hop.2.2.1;have f26:(op==26)=false:=beq_eq_false_iff_ne.2 hop.2.2.2.1;have f27:(op==27)=false:=beq_eq_false_iff_ne.2 hop.2.2.2.2;have f15:(op==15)=false:=beq_eq_false_iff_ne.2 zek.1;have f16:(op==16)=false:=beq_eq_false_iff_ne.2 zek.2;obtain⟨a,rfl,hn1,⟨-,d1,-,-⟩,o1,-⟩:=jY hP h0;obtain⟨a2,rfl,hn2,⟨-,d2,-,-⟩,o2,-⟩:=jY hQ h1;have hn:(0:Int)<(n:Int):=by omega
 have hm:(0:Int)<(m:Int):=by omega
 have hn0:0<n:=hn1;have hm0:0<m:=hn2;have k1:=cell_regrown d1;have k2:=cell_regrown d2;have R1:=rq (w:=w) (λw' hb=>by have:=jD (some a) n c P 2 w' (hP.keep hb) h0;rwa [if_pos g] at this);have R2:=rq (w:=w) (λw' hb=>by have:=jD (some a2) m d Q 2 w' (hQ.keep hb) h1;rwa [if_pos g2] at this);have HDR:=O h.door;generalize hdN P=y at *;generalize hdN Q=z at *;have KN:=O (λw=>zhw op y.n z.n w ⟨o1.lo,o1.hi⟩ ⟨o2.lo,o2.hi⟩);have HVI:=O (PV op y.n z.n);clear hP h0 hQ h1 g g2 hop zek h o1 o2;generalize vP op y.n z.n=r at *;by_cases q:pU op y.n z.n=0
 ·have HT:=O (show z6 (pU op y.n z.n) (LU r)= .ok (LU r) by unfold z6;rw [if_pos q]);rw [HT.o];simp only [q,zm] at KN;clear q;go_enter Tryz.func61,Tryz.ntmps61;go_wp2_with fail;refine wp_region_quiet_below (by kernel_rfl) (by kernel_rfl) ?_
  repeat (first|go_big_quiet_step (first|with_reducible exact R1 _ _|with_reducible exact R2 _ _)|quiet_step (first|with_reducible exact R1 _ _|with_reducible exact R2 _ _))
  refine wpQuiet_nil ?_;intro w1 hw';have b1:=O (show Below w.heap.size w w1 by obtain⟨⟨d,os⟩,rfl⟩:=hw';exact below_regrown _ _ _);clear hw';go_wp2_with fail;refine(KN.o _).mono ?_;rintro e w2 ⟨rfl,rfl⟩;go_wp2_with fail;refine(RO (.int .i64 r) w1).mono ?_;rintro e w3 ⟨rfl,b3⟩;have B3:=bh b1 b3;clear b3;go_wp2_with fail;go_ret;exact(Tk w3 ⟨2,r,emp,emp⟩ (UF _ _ HVI.o)).up B3.o
 ·have HT:=O (show z6 (pU op y.n z.n) (LU r)= .error (pU op y.n z.n) by unfold z6;rw [if_neg q]);rw [HT.o];simp only [zy q] at KN;generalize pU op y.n z.n=u at *;clear q;go_enter Tryz.func61,Tryz.ntmps61;go_wp2_with fail;refine wp_region_quiet_below (by kernel_rfl) (by kernel_rfl) ?_
  repeat (first|go_big_quiet_step (first|with_reducible exact R1 _ _|with_reducible exact R2 _ _)|quiet_step (first|with_reducible exact R1 _ _|with_reducible exact R2 _ _))
  refine wpQuiet_nil ?_;intro w1 hw';have b1:=O (show Below w.heap.size w w1 by obtain⟨⟨d,os⟩,rfl⟩:=hw';exact below_regrown _ _ _);clear hw';go_wp2_with fail;refine(KN.o _).mono ?_;rintro e w2 ⟨rfl,rfl⟩;go_wp2_with fail;refine(Sr (.int .i64 r) u w1 (HDR.o.keep b1.o)).mono ?_;rintro e w3 ⟨rfl,b3⟩;have B3:=bh b1 b3;clear b3;go_wp2_with fail;exact⟨rfl,j8 B3.o⟩
theorem zhX(A:Option Addr)(n c:Nat)(V:List Sl)(p:List Nd->Bool)(bx ba:Nat)(w:World)(hn:n=V.length)(hm:n<=maxLen)(hV:ou w A V)
 (C:Hid (∀r∈V,∀(w':World),Below w.heap.size w w'->Ns w' r.A r.n r.c r.P->Calls Tryz.prog 148 #[.slice r.A r.n r.c,.pointer (some ⟨bx,0,none⟩),.pointer (some ⟨ba,0,none⟩)] w' λe w''=>e = .returned (.bool (p r.P))/\Below w'.heap.size w' w'')):
 Calls Tryz.prog 169 #[.slice A n c,(.func (.func 148) #[] #[.pointer (some ⟨bx,0,none⟩),.pointer (some ⟨ba,0,none⟩)])] w (OE (V.any λr=>p r.P) w):=by
 unfold maxLen at hm;have HV:=O hV;have HN:=O hn;clear hV hn;go_enter Tryz.func169,Tryz.ntmps169;go_wp2_with fail;go_loopw [5,8] (λ_ i wr=>∃k:Nat,k<=n/\i = .int .i64 k/\Hid ((V.any λr=>p r.P)=(V.drop k).any λr=>p r.P)/\Hid (Below w.heap.size w wr)) (λ_ i _=>n-(intOf i).toNat)
 case atStart=>exact⟨0,Nat.zero_le _,rfl,rfl,Below.refl _ _⟩
 case round =>
  obtain⟨k,hk,rfl,hE,hB⟩:=hrel;by_cases hlt:k<n
  ·have h1:k<V.length:=by rw [<-HN.o];exact hlt
   obtain⟨a,rfl,q,hs⟩:=(HV.o.keep hB.o).at h1;have HA:=O (hE.o.trans (Tn h1));have Cr:=O (C.o V[k] (List.getElem_mem h1) wr hB.o hs);generalize V[k]=r at *;clear hE hs;rcases hp:p r.P with _|_
   ·rw [hp] at Cr HA;clear hp;go_wp2_with fail;refine(Cr.o).mono ?_;rintro e w1 ⟨rfl,b1⟩;go_wp2_with fail;go_roundw
    case rel=>exact⟨k+1,by omega,by go_num,HA,bh hB b1⟩
    case measure=>simp [intOf];omega
   ·rw [hp] at Cr HA;clear hp;go_wp2_with fail;refine(Cr.o).mono ?_;rintro e w1 ⟨rfl,b1⟩;go_wp2_with fail;go_ret;exact⟨_,rfl,by rw [HA.o];simp,(bh hB b1).o⟩
  ·have HA:=O (hE.o.trans (by rw [List.drop_of_length_le (by rw [<-HN.o];omega)];rfl:_=false));clear hE;go_wp2_with fail;go_ret;exact⟨_,rfl,by rw [HA.o];rfl,hB.o⟩
theorem Sb(A:Option Addr)(n c:Nat)(V:List Sl)(p:List Nd->Bool)(bx ba:Nat)(w:World)(hn:n=V.length)(hm:n<=maxLen)(hV:ou w A V)
 (C:Hid (∀r∈V,∀(w':World),Below w.heap.size w w'->Ns w' r.A r.n r.c r.P->Calls Tryz.prog 148 #[.slice r.A r.n r.c,.pointer (some ⟨bx,0,none⟩),.pointer (some ⟨ba,0,none⟩)] w' λe w''=>e = .returned (.bool (p r.P))/\Below w'.heap.size w' w'')):
 Calls Tryz.prog 147 #[.slice A n c,(.func (.func 148) #[] #[.pointer (some ⟨bx,0,none⟩),.pointer (some ⟨ba,0,none⟩)])] w λe w'=>e = .returned (.bool (V.any λr=>p r.P))/\Below w.heap.size w w':=by
 have I:=O (zhX A n c V p bx ba w hn hm hV C);unfold OE at I;clear hn hV C;go_enter Tryz.func147,Tryz.ntmps147;go_wp2_with fail;refine(I.o).mono ?_;rintro e w1 ⟨i,rfl,hi,b1⟩;have HI:=O hi;clear hi;go_wp2_with fail;go_ret;exact⟨zn HI.o,b1⟩
theorem zhB{V:List Nd}(h:Kb (hdN V)):UOk (jc V):=⟨h.s,h.t⟩
theorem zcc{w:World}{R:Nat}{k:Cx}(h:Gh w R k)(A B:Option Addr)(n m c d:Nat)(P Q:List Nd)(hP:Ns w A n c P)(h0:0<P.length)(hQ:Ns w B m d Q)(h1:0<Q.length)(bx ba:Nat)
 (cx:w.cell? ⟨bx,0,none⟩=some (.pointer (some ⟨R,0,none⟩))) (ca:w.cell? ⟨ba,0,none⟩=some (.slice A n c)):
 Calls Tryz.prog 148 #[.slice B m d,.pointer (some ⟨bx,0,none⟩),.pointer (some ⟨ba,0,none⟩)] w λe w'=>e = .returned (.bool (inB k.E (jc P) (jc Q)))/\Below w.heap.size w w':=by
 obtain⟨a1,rfl,q1,-,o1,-⟩:=jY hP h0;obtain⟨a2,rfl,q2,-,o2,-⟩:=jY hQ h1;have R1:=rq (w:=w) (λw' hb=>TV (some a1) n c P w' (hP.keep hb) h0);have R2:=rq (w:=w) (λw' hb=>TV (some a2) m d Q w' (hQ.keep hb) h1);have R3:=rq (w:=w) (λw' hb=>by
  have:=znf k.EA k.en k.ec k.E (jc P) (jc Q) w' (h.es.keep hb) (zhB o1) (zhB o2)
  rwa [show jW k.E=0 from h.e,zm] at this)
 have R4:=rq (w:=w) (λw' hb=>IE (.bool (inB k.E (jc P) (jc Q))) w');have c0:=h.c0;have k0:=cell_regrown c0;have k1:=cell_regrown cx;have k2:=cell_regrown ca;unfold udV at R1 R2 R3;generalize inB k.E (jc P) (jc Q)=b at *;generalize jc P=u at *;generalize jc Q=v at *;clear h hP hQ h0 h1 o1 o2 q1 q2;go_enter Tryz.func148,Tryz.ntmps148;go_wp2_with fail;refine wp_region_quiet_below (by kernel_rfl) (by kernel_rfl) ?_
 repeat (first|go_big_quiet_step (first|with_reducible exact R1 _ _|with_reducible exact R2 _ _|with_reducible exact R3 _ _|with_reducible exact R4 _ _)|quiet_step (first|with_reducible exact R1 _ _|with_reducible exact R2 _ _|with_reducible exact R3 _ _|with_reducible exact R4 _ _))
 refine wpQuiet_nil ?_;intro w2 hw';have b2:=O (show Below w.heap.size w w2 by obtain⟨⟨d,os⟩,rfl⟩:=hw';exact below_regrown _ _ _);clear hw';go_wp2_with fail;go_ret;exact⟨rfl,b2.o⟩
theorem zkJ(w:World)(r:Sl)(hr:Ns w r.A r.n r.c r.P)(t:TypeId):ou (w.alloc (.cells #[.slice r.A r.n r.c] t)) (some ⟨w.heap.size,0,none⟩) [r]:=λk x hx=>by
 match k,hx with
 | 0,hx=>simp at hx;subst hx;exact⟨_,rfl,jk (heap_alloc_last w _) rfl,hr.keep (zb w _)⟩
 | k+1,hx=>simp at hx
def Tr(w:World)(E:List En)(P Q:List Nd)(e:Ending)(w':World):Prop :=
 Below w.heap.size w w'/\e=if zf P=4/\(f9 Q).all (λt=>decide (zf t=4)) then .returned (.bool ((f9 Q).any λt=>inB E (jc P) (jc t))) else .panicked (Gd 2)
def inW(w:World)(R:Nat)(A:Option Addr)(n c:Nat):World:=(w.alloc (.cells #[.pointer (some ⟨R,0,none⟩)] 67)).alloc (.cells #[.slice A n c] 70)
theorem Ko(w:World)(R:Nat)(A:Option Addr)(n c:Nat):Below w.heap.size w (inW w R A n c):=(zb w _).trans ((zb _ _).mono (by simp))
theorem zmA(w:World)(R:Nat)(A:Option Addr)(n c:Nat):(inW w R A n c).cell? ⟨w.heap.size,0,none⟩=some (.pointer (some ⟨R,0,none⟩)):=za (zb _ _) (jk (heap_alloc_last w _) rfl)
theorem zmE(w:World)(R:Nat)(A:Option Addr)(n c:Nat):(inW w R A n c).cell? ⟨w.heap.size+1,0,none⟩=some (.slice A n c):=by
 have:=jk (heap_alloc_last (w.alloc (.cells #[.pointer (some ⟨R,0,none⟩)] 67)) (.cells #[.slice A n c] 70)) (k:=0) (u := .slice A n c) rfl;rw [World.size_alloc] at this;exact this
theorem zps{w:World}{R:Nat}{k:Cx}(_h:Gh w R k)(A B:Option Addr)(n m c d:Nat)(P Q:List Nd)(hP:Ns w A n c P)(h0:0<P.length)(_hQ:Ns w B m d Q)(_h1:0<Q.length)(g:zf P≠4):
 Calls Tryz.prog 108 #[.pointer (some ⟨R,0,none⟩),.slice A n c,.slice B m d] w (Tr w k.E P Q):=by
 have K:=O (jD A n c P 4 (inW w R A n c) (hP.keep (Ko w R A n c)) h0);rw [if_neg g] at K;have B0:=O (Ko w R A n c);have HR:=O (show(if zf P=4/\(f9 Q).all (λt=>decide (zf t=4)) then Ending.returned (.bool ((f9 Q).any λt=>inB k.E (jc P) (jc t))) else .panicked (Gd 2))= .panicked (Gd 2) from if_neg (λq=>g q.1));unfold inW at K B0;clear hP h0 g;go_enter Tryz.func108,Tryz.ntmps108;go_wp2_with fail;refine K.o.mono ?_;rintro e w1 ⟨rfl,b1⟩;have B1:=bh B0 b1;clear b1 K;go_wp2_with fail;exact⟨rfl,B1.o,by rw [HR.o]⟩
theorem znL{w:World}{R:Nat}{k:Cx}(h:Gh w R k)(A B:Option Addr)(n m c d:Nat)(P Q:List Nd)(hP:Ns w A n c P)(h0:0<P.length)(hQ:Ns w B m d Q)(h1:0<Q.length)(g:zf P=4)(g5:zf Q≠5):
 Calls Tryz.prog 108 #[.pointer (some ⟨R,0,none⟩),.slice A n c,.slice B m d] w (Tr w k.E P Q):=by
 have K:=O (jD A n c P 4 (inW w R A n c) (hP.keep (Ko w R A n c)) h0);rw [if_pos g] at K;have B0:=O (Ko w R A n c);have HX:=O (zmA w R A n c);have HA:=O (zmE w R A n c);have HP:=O hP;have HQ:=O hQ;have HE:=O h;have H0:=O h0;have HDR:=O h.door;have KI:=O (λw' hb=>LM B m d Q 5 w' (hQ.keep (w':=w') hb) h1);unfold inW at K B0 HX HA;have f5:(zf Q==5)=false:=beq_eq_false_iff_ne.2 g5;rw [f5] at KI;clear f5;go_enter Tryz.func108,Tryz.ntmps108;go_wp2_with fail;refine K.o.mono ?_;rintro e w1 ⟨rfl,b1⟩;have B1:=bh B0 b1;have HX1:=O (za b1 HX.o);have HA1:=O (za b1 HA.o);clear b1 K B0 HX HA;go_wp2_with fail;have HS:=O (zkJ w1 ⟨B,m,d,Q⟩ (HQ.o.keep B1.o) 22);have B2:=bh B1 (zb w1 (.cells #[.slice B m d] 22));have HX2:=O (za (zb w1 (.cells #[.slice B m d] 22)) HX1.o);have HA2:=O (za (zb w1 (.cells #[.slice B m d] 22)) HA1.o);refine(KI.o _ B2.o).mono ?_;rintro e w3 ⟨rfl,b3⟩;have B3:=bh B2 b3;have HX3:=O (za b3 HX2.o);have HA3:=O (za b3 HA2.o);have HS3:=O (HS.o.keep b3);obtain⟨V,hV⟩:∃V:List Sl,[⟨B,m,d,Q⟩]=V:=⟨_,rfl⟩
 have HVL:=O (show V.length=1 by rw [<-hV];rfl);have QL:=O (show V.map Sl.P=f9 Q by rw [<-hV];unfold f9;rw [if_neg g5];rfl);have HV0:=O (show∀r∈V,0<r.P.length by rw [<-hV];intro r hr;simp only [List.mem_cons,List.not_mem_nil,or_false] at hr;subst hr;exact h1);rw [hV] at HS3;obtain⟨TA,hTA⟩:∃TA:Option Addr,(some ⟨w1.heap.size,0,none⟩:Option Addr)=TA:=⟨_,rfl⟩
 rw [hTA] at HS3 ⊢;clear hTA;clear b3 B2 B1 HX1 HA1 HX2 HA2 HS hV KI;have HG:=O g;have HMX:Hid (1<=maxLen):=O (by unfold maxLen;omega);clear g g5 h0 h1 hP hQ h;go_wp2_with fail;have hmf:∀(fn:Fn) (first cap:Array Value) (w:World),(Instr.makeFunc fn first cap).run Tryz.prog w = .ok (.func fn first cap) w:=λ_ _ _ _=>rfl;go_loopw [23] (λi wr=>∃j:Nat,i = .int .i64 j/\j<=1/\Hid ((V.take j).all (λr=>decide (zf r.P=4))=true)/\Hid (Below w.heap.size w wr)/\Hid (ou wr (TA) V)/\Hid (wr.cell? ⟨w.heap.size,0,none⟩=some (.pointer (some ⟨R,0,none⟩)))/\Hid (wr.cell? ⟨w.heap.size+1,0,none⟩=some (.slice A n c))) (λi _=>1-(intOf i).toNat)
 case atStart=>exact⟨0,rfl,Nat.zero_le _,O rfl,B3,HS3,HX3,HA3⟩
 case round =>
  clear B3 HS3 HX3 HA3;obtain⟨j,rfl,hj,hF,hB,hS,hx,ha⟩:=hrel;by_cases hlt:j<1
  ·have hl:j<V.length:=by have:=HVL.o;omega
   obtain⟨a,hA,q,hN⟩:=hS.o.at hl;cases hA;have hp:=HV0.o _ (List.getElem_mem hl);have hall:(V.take (j+1)).all (λr=>decide (zf r.P=4))=((V.take j).all (λr=>decide (zf r.P=4))&& decide (zf V[j].P=4)):=by
    rw [List.take_succ_eq_append_getElem hl,List.all_append];simp
   rw [hF.o,Bool.true_and] at hall;have SQ:V[j].P∈f9 Q:=by rw [<-QL.o];exact List.mem_map_of_mem (List.getElem_mem hl)
   have KM:=O (jD V[j].A V[j].n V[j].c V[j].P 4 wr hN hp);generalize V[j]=r at *;by_cases h4:zf r.P=4
   ·rw [if_pos h4] at KM;rw [decide_eq_true h4] at hall;have RE:=O hall;clear hall h4 hN hp SQ;go_wp2_with fail;refine KM.o.mono ?_;rintro e w4 ⟨rfl,b4⟩;have B4:=bh hB b4;have HS4:=O (hS.o.keep b4);have HX4:=O (za b4 hx.o);have HA4:=O (za b4 ha.o);clear b4 hB hS hx ha hF;go_wp2_with fail;go_roundw
    case rel=>exact⟨j+1,by go_num,by omega,RE,B4,HS4,HX4,HA4⟩
    case measure=>simp [intOf];omega
   ·rw [if_neg h4] at KM;have HR:=O (show(if zf P=4/\(f9 Q).all (λt=>decide (zf t=4)) then Ending.returned (.bool ((f9 Q).any λt=>inB k.E (jc P) (jc t))) else .panicked (Gd 2))= .panicked (Gd 2) from if_neg (λz=>h4 (by simpa using List.all_eq_true.1 z.2 _ SQ)));clear hall h4 hN hp SQ;go_wp2_with fail;refine KM.o.mono ?_;rintro e w4 ⟨rfl,b4⟩;have B4:=bh hB b4;clear b4 hB;go_wp2_with fail;exact⟨rfl,B4.o,by rw [HR.o]⟩
  ·have hall:(f9 Q).all (λt=>decide (zf t=4))=true:=by
    rw [<-QL.o,List.all_map];have:=hF.o;rwa [List.take_of_length_le (by have:=HVL.o;omega)] at this
   have HR:=O (show(if zf P=4/\(f9 Q).all (λt=>decide (zf t=4)) then Ending.returned (.bool ((f9 Q).any λt=>inB k.E (jc P) (jc t))) else .panicked (Gd 2))= .returned (.bool (V.any λr=>inB k.E (jc P) (jc r.P))) by
    rw [if_pos ⟨HG.o,hall⟩,<-QL.o,List.any_map];rfl)
   have KC:=O (Sb (TA) (1) (1) V (λt=>inB k.E (jc P) (jc t)) w.heap.size (w.heap.size+1) wr HVL.o.symm HMX.o hS.o (O λr hr w' hb hN=>zcc (HE.o.keep (hB.o.trans (hb.mono hB.o.size))) A r.A n r.n c r.c P r.P (HP.o.keep (hB.o.trans (hb.mono hB.o.size))) H0.o hN (HV0.o r hr) w.heap.size (w.heap.size+1) (za hb hx.o) (za hb ha.o)));generalize (V.any λr=>inB k.E (jc P) (jc r.P))=bb at *;clear hall hF hS;have hx':=hx.o;have ha':=ha.o;go_wp2_with fail;refine KC.o.mono ?_;rintro e w4 ⟨rfl,b4⟩;have B4:=bh hB b4;clear b4 hB;go_wp2_with fail;go_ret;exact⟨B4.o,by rw [HR.o];rfl⟩
theorem znP{w:World}{R:Nat}{k:Cx}(h:Gh w R k)(A B:Option Addr)(n m c d:Nat)(P Q:List Nd)(hP:Ns w A n c P)(h0:0<P.length)(hQ:Ns w B m d Q)(h1:0<Q.length)(g:zf P=4)(g5:zf Q=5)(vQ:zc Q=0):
 Calls Tryz.prog 108 #[.pointer (some ⟨R,0,none⟩),.slice A n c,.slice B m d] w (Tr w k.E P Q):=by
 have K:=O (jD A n c P 4 (inW w R A n c) (hP.keep (Ko w R A n c)) h0);rw [if_pos g] at K;have B0:=O (Ko w R A n c);have HX:=O (zmA w R A n c);have HA:=O (zmE w R A n c);have HP:=O hP;have HQ:=O hQ;have HE:=O h;have H0:=O h0;have HDR:=O h.door;have KI:=O (λw' hb=>LM B m d Q 5 w' (hQ.keep (w':=w') hb) h1);unfold inW at K B0 HX HA;have f5:(zf Q==5)=true:=beq_iff_eq.2 g5;rw [f5] at KI;clear f5;have KP:=O (λw' hb=>qa B m d Q w' (hQ.keep (w':=w') hb));have HPR:=O (show F3 Q=0 by unfold F3;rw [if_pos vQ,if_pos (Or.inl g5)]);have HPL:=O (show Kj Q=f9 Q by unfold Kj f9;rw [HPR.o,if_pos rfl,if_pos g5,if_pos g5]);have HPO:=O (show∀t∈f9 Q,0<t.length by
  unfold f9
  rw [if_pos g5]
  exact λt ht=>((ER (zH.1 vQ).2 g5).2.2.1 t ht).pos)
 have HPN:=O (show(f9 Q).length<=200 by
  unfold f9
  rw [if_pos g5]
  obtain⟨h2,h3⟩:=zH.1 vQ
  obtain⟨e,-,h4,-⟩:=ER h3 g5
  have h6:(zg Q).length<=(zg Q).flatten.length:=by
   clear e
   generalize zg Q=L at *
   induction L with
   | nil=>simp
   | cons x L ih =>
    have:=(h4 x (by simp)).pos
    have:=ih λy hy=>h4 y (by simp [hy])
    simp only [List.length_cons,List.flatten_cons,List.length_append]
    omega
  have h5:=congrArg List.length e
  simp only [List.length_cons] at h5
  omega)
 unfold Gx at KP;rw [HPR.o,zm] at KP;go_enter Tryz.func108,Tryz.ntmps108;go_wp2_with fail;refine K.o.mono ?_;rintro e w1 ⟨rfl,b1⟩;have B1:=bh B0 b1;have HX1:=O (za b1 HX.o);have HA1:=O (za b1 HA.o);clear b1 K B0 HX HA;go_wp2_with fail;have B2:=bh B1 (zb w1 (.cells #[.slice B m d] 22));have HX2:=O (za (zb w1 (.cells #[.slice B m d] 22)) HX1.o);have HA2:=O (za (zb w1 (.cells #[.slice B m d] 22)) HA1.o);refine(KI.o _ B2.o).mono ?_;rintro e w3 ⟨rfl,b3⟩;have B3':=bh B2 b3;have HX3':=O (za b3 HX2.o);have HA3':=O (za b3 HA2.o);clear b3 B2 B1 HX1 HA1 HX2 HA2 KI;go_wp2_with fail;refine(KP.o _ B3'.o).mono ?_;rintro e w4 ⟨pv,V,rfl,hO,ZH,-,b4⟩;have B4:=bh B3' b4;have HX4:=O (za b4 HX3'.o);have HA4:=O (za b4 HA3'.o);have QL:=O (ZH.trans HPL.o);obtain⟨TA,tc,rfl,htc,hSl⟩:=hO.at
 have HS4:=O hSl;have HV0:=O (show∀r∈V,0<r.P.length from λr hr=>HPO.o r.P (by rw [<-QL.o];exact List.mem_map_of_mem hr));obtain⟨tn,htn⟩:∃tn:Nat,tn=V.length:=⟨_,rfl⟩
 have HVL:=O htn.symm;have hv2:V.length<=200:=by have h7:=congrArg List.length QL.o;rw [List.length_map] at h7;rw [h7];exact HPN.o
 rw [<-htn] at hv2 ⊢;have HMX:Hid (tn<=maxLen):=O (by unfold maxLen;omega);have HG:=O g;clear b4 B3' HX3' HA3' KP hO ZH htc hSl htn HPO HPN HPR HPL g g5 h0 h1 hP hQ h vQ;go_wp2_with fail;refine(zaf _ w4).mono ?_;rintro e w5 ⟨rfl,b5⟩;have B3:=bh B4 b5;have HX3:=O (za b5 HX4.o);have HA3:=O (za b5 HA4.o);have HS3:=O (HS4.o.keep b5);clear b5 B4 HX4 HA4 HS4;go_wp2_with fail;have hmf:∀(fn:Fn) (first cap:Array Value) (w:World),(Instr.makeFunc fn first cap).run Tryz.prog w = .ok (.func fn first cap) w:=λ_ _ _ _=>rfl;go_loopw [23] (λi wr=>∃j:Nat,i = .int .i64 j/\j<=tn/\Hid ((V.take j).all (λr=>decide (zf r.P=4))=true)/\Hid (Below w.heap.size w wr)/\Hid (ou wr (TA) V)/\Hid (wr.cell? ⟨w.heap.size,0,none⟩=some (.pointer (some ⟨R,0,none⟩)))/\Hid (wr.cell? ⟨w.heap.size+1,0,none⟩=some (.slice A n c))) (λi _=>tn-(intOf i).toNat)
 case atStart=>exact⟨0,rfl,Nat.zero_le _,O rfl,B3,HS3,HX3,HA3⟩
 case round =>
  clear B3 HS3 HX3 HA3;obtain⟨j,rfl,hj,hF,hB,hS,hx,ha⟩:=hrel;by_cases hlt:j<tn
  ·have hl:j<V.length:=by have:=HVL.o;omega
   obtain⟨a,hA,q,hN⟩:=hS.o.at hl;cases hA;have hp:=HV0.o _ (List.getElem_mem hl);have hall:(V.take (j+1)).all (λr=>decide (zf r.P=4))=((V.take j).all (λr=>decide (zf r.P=4))&& decide (zf V[j].P=4)):=by
    rw [List.take_succ_eq_append_getElem hl,List.all_append];simp
   rw [hF.o,Bool.true_and] at hall;have SQ:V[j].P∈f9 Q:=by rw [<-QL.o];exact List.mem_map_of_mem (List.getElem_mem hl)
   have KM:=O (jD V[j].A V[j].n V[j].c V[j].P 4 wr hN hp);generalize V[j]=r at *;by_cases h4:zf r.P=4
   ·rw [if_pos h4] at KM;rw [decide_eq_true h4] at hall;have RE:=O hall;clear hall h4 hN hp SQ;go_wp2_with fail;refine KM.o.mono ?_;rintro e w4 ⟨rfl,b4⟩;have B4:=bh hB b4;have HS4:=O (hS.o.keep b4);have HX4:=O (za b4 hx.o);have HA4:=O (za b4 ha.o);clear b4 hB hS hx ha hF;go_wp2_with fail;go_roundw
    case rel=>exact⟨j+1,by go_num,by omega,RE,B4,HS4,HX4,HA4⟩
    case measure=>simp [intOf];omega
   ·rw [if_neg h4] at KM;have HR:=O (show(if zf P=4/\(f9 Q).all (λt=>decide (zf t=4)) then Ending.returned (.bool ((f9 Q).any λt=>inB k.E (jc P) (jc t))) else .panicked (Gd 2))= .panicked (Gd 2) from if_neg (λz=>h4 (by simpa using List.all_eq_true.1 z.2 _ SQ)));clear hall h4 hN hp SQ;go_wp2_with fail;refine KM.o.mono ?_;rintro e w4 ⟨rfl,b4⟩;have B4:=bh hB b4;clear b4 hB;go_wp2_with fail;exact⟨rfl,B4.o,by rw [HR.o]⟩
  ·have hall:(f9 Q).all (λt=>decide (zf t=4))=true:=by
    rw [<-QL.o,List.all_map];have:=hF.o;rwa [List.take_of_length_le (by have:=HVL.o;omega)] at this
   have HR:=O (show(if zf P=4/\(f9 Q).all (λt=>decide (zf t=4)) then Ending.returned (.bool ((f9 Q).any λt=>inB k.E (jc P) (jc t))) else .panicked (Gd 2))= .returned (.bool (V.any λr=>inB k.E (jc P) (jc r.P))) by
    rw [if_pos ⟨HG.o,hall⟩,<-QL.o,List.any_map];rfl)
   have KC:=O (Sb (TA) (tn) (tc) V (λt=>inB k.E (jc P) (jc t)) w.heap.size (w.heap.size+1) wr HVL.o.symm HMX.o hS.o (O λr hr w' hb hN=>zcc (HE.o.keep (hB.o.trans (hb.mono hB.o.size))) A r.A n r.n c r.c P r.P (HP.o.keep (hB.o.trans (hb.mono hB.o.size))) H0.o hN (HV0.o r hr) w.heap.size (w.heap.size+1) (za hb hx.o) (za hb ha.o)));generalize (V.any λr=>inB k.E (jc P) (jc r.P))=bb at *;clear hall hF hS;have hx':=hx.o;have ha':=ha.o;go_wp2_with fail;refine KC.o.mono ?_;rintro e w4 ⟨rfl,b4⟩;have B4:=bh hB b4;clear b4 hB;go_wp2_with fail;go_ret;exact⟨B4.o,by rw [HR.o];rfl⟩
theorem zla{w:World}{R:Nat}{k:Cx}(h:Gh w R k)(A B:Option Addr)(n m c d:Nat)(P Q:List Nd)(hP:Ns w A n c P)(h0:0<P.length)(hQ:Ns w B m d Q)(h1:0<Q.length)(vQ:zc Q=0):
 Calls Tryz.prog 108 #[.pointer (some ⟨R,0,none⟩),.slice A n c,.slice B m d] w (Tr w k.E P Q):=by
 by_cases g:zf P=4
 ·by_cases g5:zf Q=5
  ·exact znP h A B n m c d P Q hP h0 hQ h1 g g5 vQ
  ·exact znL h A B n m c d P Q hP h0 hQ h1 g g5
 ·exact zps h A B n m c d P Q hP h0 hQ h1 g
end Go.Proofs.YtokiogmfgpidmaaGreatDoor
