/-
  eval.double: numbers. (gen_evnum.py) eval.in: is an entity one of others, or ..
-/
import Derived.Test.YthidiimbeaabhaaGreatDoorQ32
set_option maxRecDepth 100000
set_option maxHeartbeats 8000000
namespace Go.Proofs.YthidiimbeaabhaaGreatDoor
open Go.RowKit Go.Wk Go.Sort
theorem iM{E:List En}{op:Int}{P Q:List Nd}(h:op≠14/\op≠20/\op≠25/\op≠26/\op≠27):aT E op P Q=if zg P=2/\zg Q=2 then
 (if op=15 then .ok (zw (decide ((hdN P).n<(hdN Q).n))) else if op=16 then .ok (zw (decide ((hdN P).n<=(hdN Q).n)))
  else jo (db op (hdN P).n (hdN Q).n) (lQ (dr op (hdN P).n (hdN Q).n))) else .error 2:=by
 unfold aT;rw [if_neg h.1,if_neg h.2.1,if_neg h.2.2.1,if_neg h.2.2.2.1,if_neg h.2.2.2.2]
theorem vF{w:World}{R:Nat}{k:Cx}(_h:bJ w R k)(op:Int)(hop:op≠14/\op≠20/\op≠25/\op≠26/\op≠27)(A B:Option Addr)(n m c d:Nat)(P Q:List Nd)(hP:Ns w A n c P)(h0:0<P.length)(_hQ:Ns w B m d Q)(_h1:0<Q.length)(g:zg P≠2):
 Calls Tryz.prog 64 #[.pointer (some ⟨R,0,none⟩),.int .i64 op,.slice A n c,.slice B m d] w (zT w (aT k.E op P Q)):=by
 have HR:=O (show aT k.E op P Q = .error 2 by rw [iM hop,if_neg (λq=>g q.1)]);rw [HR.o];have f14:(op==14)=false:=beq_eq_false_iff_ne.2 hop.1;have f20:(op==20)=false:=beq_eq_false_iff_ne.2 hop.2.1;have f25:(op==25)=false:=beq_eq_false_iff_ne.2 hop.2.2.1;have f26:(op==26)=false:=beq_eq_false_iff_ne.2 hop.2.2.2.1;have f27:(op==27)=false:=beq_eq_false_iff_ne.2 hop.2.2.2.2;have KM:=O (λd os=>zB A n c P 2 (grow (redrawn w d) os) (hP.keep (below_regrown w d os)) h0);simp only [if_neg g] at KM;clear hop hP h0 g;go_enter Tryz.func64,Tryz.ntmps64;go_wp2_with fail;refine aN (l := [_,_]) [0,5] [1] (by kernel_rfl) (by decide) (by kernel_rfl) rfl (λw'=>∃p:Regrown,w'=grow (redrawn w p.d) p.os) (λch w'=>ch=bz 2/\Below w.heap.size w w') ⟨⟨w.drawn+1,#[]⟩,by rw [grow_empty];rfl⟩ ?_ ?_
 ·rintro a' ch w' hd ⟨rfl,hg⟩;exact⟨hd,js hg⟩
 ·repeat (first|go_big_quiet_step (fail)|quiet_step (fail))
  refine wpQuiet_nil ?_;refine⟨λo ho=>?_,trivial⟩;injection ho with ho;subst ho;refine⟨by go_simp,?_⟩;rintro w' ⟨⟨d,os⟩,rfl⟩;go_wp2_with fail;refine(KM.o d os).mono ?_;rintro e w4 ⟨rfl,b4⟩;exact⟨rfl,(below_regrown w d os).trans (b4.mono (below_regrown w d os).size)⟩
theorem uX{w:World}{R:Nat}{k:Cx}(_h:bJ w R k)(op:Int)(hop:op≠14/\op≠20/\op≠25/\op≠26/\op≠27)(A B:Option Addr)(n m c d:Nat)(P Q:List Nd)(hP:Ns w A n c P)(h0:0<P.length)(hQ:Ns w B m d Q)(h1:0<Q.length)(g:zg P=2)(g2:zg Q≠2):
 Calls Tryz.prog 64 #[.pointer (some ⟨R,0,none⟩),.int .i64 op,.slice A n c,.slice B m d] w (zT w (aT k.E op P Q)):=by
 have HR:=O (show aT k.E op P Q = .error 2 by rw [iM hop,if_neg (λq=>g2 q.2)]);rw [HR.o];have f14:(op==14)=false:=beq_eq_false_iff_ne.2 hop.1;have f20:(op==20)=false:=beq_eq_false_iff_ne.2 hop.2.1;have f25:(op==25)=false:=beq_eq_false_iff_ne.2 hop.2.2.1;have f26:(op==26)=false:=beq_eq_false_iff_ne.2 hop.2.2.2.1;have f27:(op==27)=false:=beq_eq_false_iff_ne.2 hop.2.2.2.2;obtain⟨a,rfl,hn1,⟨-,d1,-,-⟩,-,-⟩:=jY hP h0;have hn:(0:Int)<(n:Int):=by omega
 have hn0:0<n:=hn1;have k1:=cell_regrown d1;have R1:=rq (w:=w) (λw' hb=>by have:=zB (some a) n c P 2 w' (hP.keep hb) h0;rwa [if_pos g] at this);have KM:=O (λd' os=>zB B m d Q 2 (grow (redrawn w d') os) (hQ.keep (below_regrown w d' os)) h1);simp only [if_neg g2] at KM;generalize hdN P=y at *;clear hop hP h0 hQ h1 g g2;go_enter Tryz.func64,Tryz.ntmps64;go_wp2_with fail;refine aN (l := [_,_,_,_,_,_]) [0,1,2,3,4,5] [6] (by kernel_rfl) (by decide) (by kernel_rfl) rfl (λw'=>∃p:Regrown,w'=grow (redrawn w p.d) p.os) (λch w'=>ch=bz 2/\Below w.heap.size w w') ⟨⟨w.drawn+1,#[]⟩,by rw [grow_empty];rfl⟩ ?_ ?_
 ·rintro a' ch w' hd ⟨rfl,hg⟩;exact⟨hd,js hg⟩
 ·repeat (first|go_big_quiet_step (with_reducible exact R1 _ _)|quiet_step (with_reducible exact R1 _ _))
  refine wpQuiet_nil ?_;refine⟨λo ho=>?_,trivial⟩;injection ho with ho;subst ho;refine⟨by go_simp,?_⟩;rintro w' ⟨⟨d',os⟩,rfl⟩;go_wp2_with fail;refine(KM.o d' os).mono ?_;rintro e w4 ⟨rfl,b4⟩;exact⟨rfl,(below_regrown w d' os).trans (b4.mono (below_regrown w d' os).size)⟩
theorem Ag{w:World}{R:Nat}{k:Cx}(_h:bJ w R k)(A B:Option Addr)(n m c d:Nat)(P Q:List Nd)(hP:Ns w A n c P)(h0:0<P.length)(hQ:Ns w B m d Q)(h1:0<Q.length)(g:zg P=2)(g2:zg Q=2):
 Calls Tryz.prog 64 #[.pointer (some ⟨R,0,none⟩),.int .i64 15,.slice A n c,.slice B m d] w (zT w (aT k.E 15 P Q)):=by
 have HR:=O (show aT k.E 15 P Q = .ok (zw (decide ((hdN P).n<(hdN Q).n))) by rw [iM ⟨by decide,by decide,by decide,by decide,by decide⟩,if_pos ⟨g,g2⟩];rfl);rw [HR.o];obtain⟨a,rfl,hn1,⟨-,d1,-,-⟩,-,-⟩:=jY hP h0;obtain⟨a2,rfl,hn2,⟨-,d2,-,-⟩,-,-⟩:=jY hQ h1;have hn:(0:Int)<(n:Int):=by omega
 have hm:(0:Int)<(m:Int):=by omega
 have hn0:0<n:=hn1;have Ku:0<m:=hn2;have k1:=cell_regrown d1;have k2:=cell_regrown d2;have R1:=rq (w:=w) (λw' hb=>by have:=zB (some a) n c P 2 w' (hP.keep hb) h0;rwa [if_pos g] at this);have R2:=rq (w:=w) (λw' hb=>by have:=zB (some a2) m d Q 2 w' (hQ.keep hb) h1;rwa [if_pos g2] at this);generalize hdN P=y at *;generalize hdN Q=z at *;clear hP h0 hQ h1 g g2;go_enter Tryz.func64,Tryz.ntmps64;go_wp2_with fail;refine wp_region_quiet_below (by kernel_rfl) (by kernel_rfl) ?_
 repeat (first|go_big_quiet_step (first|with_reducible exact R1 _ _|with_reducible exact R2 _ _)|quiet_step (first|with_reducible exact R1 _ _|with_reducible exact R2 _ _))
 refine wpQuiet_nil ?_;intro w1 hw';have b1:=O (show Below w.heap.size w w1 by obtain⟨⟨d,os⟩,rfl⟩:=hw';exact below_regrown _ _ _);clear hw';go_wp2_with fail;refine(jp (decide (y.n<z.n)) w1).mono ?_;rintro e w2 hp;have HP:=O (hp.up b1.o);obtain⟨-,A3,n3,c3,rfl,-,-⟩:=hp;go_wp2_with fail;go_ret;exact HP.o
theorem yI{w:World}{R:Nat}{k:Cx}(_h:bJ w R k)(A B:Option Addr)(n m c d:Nat)(P Q:List Nd)(hP:Ns w A n c P)(h0:0<P.length)(hQ:Ns w B m d Q)(h1:0<Q.length)(g:zg P=2)(g2:zg Q=2):
 Calls Tryz.prog 64 #[.pointer (some ⟨R,0,none⟩),.int .i64 16,.slice A n c,.slice B m d] w (zT w (aT k.E 16 P Q)):=by
 have HR:=O (show aT k.E 16 P Q = .ok (zw (decide ((hdN P).n<=(hdN Q).n))) by rw [iM ⟨by decide,by decide,by decide,by decide,by decide⟩,if_pos ⟨g,g2⟩];rfl);rw [HR.o];obtain⟨a,rfl,hn1,⟨-,d1,-,-⟩,-,-⟩:=jY hP h0;obtain⟨a2,rfl,hn2,⟨-,d2,-,-⟩,-,-⟩:=jY hQ h1;have hn:(0:Int)<(n:Int):=by omega
 have hm:(0:Int)<(m:Int):=by omega
 have hn0:0<n:=hn1;have Ku:0<m:=hn2;have k1:=cell_regrown d1;have k2:=cell_regrown d2;have R1:=rq (w:=w) (λw' hb=>by have:=zB (some a) n c P 2 w' (hP.keep hb) h0;rwa [if_pos g] at this);have R2:=rq (w:=w) (λw' hb=>by have:=zB (some a2) m d Q 2 w' (hQ.keep hb) h1;rwa [if_pos g2] at this);generalize hdN P=y at *;generalize hdN Q=z at *;clear hP h0 hQ h1 g g2;go_enter Tryz.func64,Tryz.ntmps64;go_wp2_with fail;refine wp_region_quiet_below (by kernel_rfl) (by kernel_rfl) ?_
 repeat (first|go_big_quiet_step (first|with_reducible exact R1 _ _|with_reducible exact R2 _ _)|quiet_step (first|with_reducible exact R1 _ _|with_reducible exact R2 _ _))
 refine wpQuiet_nil ?_;intro w1 hw';have b1:=O (show Below w.heap.size w w1 by obtain⟨⟨d,os⟩,rfl⟩:=hw';exact below_regrown _ _ _);clear hw';go_wp2_with fail;refine(jp (decide (y.n<=z.n)) w1).mono ?_;rintro e w2 hp;have HP:=O (hp.up b1.o);obtain⟨-,A3,n3,c3,rfl,-,-⟩:=hp;go_wp2_with fail;go_ret;exact HP.o
theorem yB{w:World}{R:Nat}{k:Cx}(h:bJ w R k)(op:Int)(hop:op≠14/\op≠20/\op≠25/\op≠26/\op≠27)(hop2:op≠15/\op≠16)(A B:Option Addr)(n m c d:Nat)(P Q:List Nd)(hP:Ns w A n c P)(h0:0<P.length)(hQ:Ns w B m d Q)(h1:0<Q.length)(g:zg P=2)(g2:zg Q=2):
 Calls Tryz.prog 64 #[.pointer (some ⟨R,0,none⟩),.int .i64 op,.slice A n c,.slice B m d] w (zT w (aT k.E op P Q)):=by
 have HR:=O (show aT k.E op P Q=jo (db op (hdN P).n (hdN Q).n) (lQ (dr op (hdN P).n (hdN Q).n)) by rw [iM hop,if_pos ⟨g,g2⟩,if_neg hop2.1,if_neg hop2.2]);rw [HR.o];have f14:(op==14)=false:=beq_eq_false_iff_ne.2 hop.1;have f20:(op==20)=false:=beq_eq_false_iff_ne.2 hop.2.1;have f25:(op==25)=false:=beq_eq_false_iff_ne.2 hop.2.2.1;have f26:(op==26)=false:=beq_eq_false_iff_ne.2 hop.2.2.2.1;have f27:(op==27)=false:=beq_eq_false_iff_ne.2 hop.2.2.2.2;have f15:(op==15)=false:=beq_eq_false_iff_ne.2 hop2.1;have f16:(op==16)=false:=beq_eq_false_iff_ne.2 hop2.2;obtain⟨a,rfl,hn1,⟨-,d1,-,-⟩,o1,-⟩:=jY hP h0;obtain⟨a2,rfl,hn2,⟨-,d2,-,-⟩,o2,-⟩:=jY hQ h1;have hn:(0:Int)<(n:Int):=by omega
 have hm:(0:Int)<(m:Int):=by omega
 have hn0:0<n:=hn1;have Ku:0<m:=hn2;have k1:=cell_regrown d1;have k2:=cell_regrown d2;have R1:=rq (w:=w) (λw' hb=>by have:=zB (some a) n c P 2 w' (hP.keep hb) h0;rwa [if_pos g] at this);have R2:=rq (w:=w) (λw' hb=>by have:=zB (some a2) m d Q 2 w' (hQ.keep hb) h1;rwa [if_pos g2] at this);have rU:=O h.door;generalize hdN P=y at *;generalize hdN Q=z at *;have KN:=O (λw=>Cy op y.n z.n w ⟨o1.lo,o1.hi⟩ ⟨o2.lo,o2.hi⟩);have Me:=O (sX op y.n z.n);clear hP h0 hQ h1 g g2 hop hop2 h o1 o2;generalize dr op y.n z.n=r at *;by_cases q:db op y.n z.n=0
 ·have HT:=O (show jo (db op y.n z.n) (lQ r)= .ok (lQ r) by unfold jo;rw [if_pos q]);rw [HT.o];simp only [q,zf] at KN;clear q;go_enter Tryz.func64,Tryz.ntmps64;go_wp2_with fail;refine wp_region_quiet_below (by kernel_rfl) (by kernel_rfl) ?_
  repeat (first|go_big_quiet_step (first|with_reducible exact R1 _ _|with_reducible exact R2 _ _)|quiet_step (first|with_reducible exact R1 _ _|with_reducible exact R2 _ _))
  refine wpQuiet_nil ?_;intro w1 hw';have b1:=O (show Below w.heap.size w w1 by obtain⟨⟨d,os⟩,rfl⟩:=hw';exact below_regrown _ _ _);clear hw';go_wp2_with fail;refine(KN.o _).mono ?_;rintro e w2 ⟨rfl,rfl⟩;go_wp2_with fail;refine(lr (.int .i64 r) w1).mono ?_;rintro e w3 ⟨rfl,b3⟩;have B3:=bh b1 b3;clear b3;go_wp2_with fail;go_ret;exact(iY w3 ⟨2,r,emp,emp⟩ (nP _ _ Me.o)).up B3.o
 ·have HT:=O (show jo (db op y.n z.n) (lQ r)= .error (db op y.n z.n) by unfold jo;rw [if_neg q]);rw [HT.o];simp only [zl q] at KN;generalize db op y.n z.n=u at *;clear q;go_enter Tryz.func64,Tryz.ntmps64;go_wp2_with fail;refine wp_region_quiet_below (by kernel_rfl) (by kernel_rfl) ?_
  repeat (first|go_big_quiet_step (first|with_reducible exact R1 _ _|with_reducible exact R2 _ _)|quiet_step (first|with_reducible exact R1 _ _|with_reducible exact R2 _ _))
  refine wpQuiet_nil ?_;intro w1 hw';have b1:=O (show Below w.heap.size w w1 by obtain⟨⟨d,os⟩,rfl⟩:=hw';exact below_regrown _ _ _);clear hw';go_wp2_with fail;refine(KN.o _).mono ?_;rintro e w2 ⟨rfl,rfl⟩;go_wp2_with fail;refine(lk (.int .i64 r) u w1 (rU.o.keep b1.o)).mono ?_;rintro e w3 ⟨rfl,b3⟩;have B3:=bh b1 b3;clear b3;go_wp2_with fail;exact⟨rfl,js B3.o⟩
theorem BZ(A:Option Addr)(n c:Nat)(V:List Sl)(p:List Nd->Bool)(bx ba:Nat)(w:World)(hn:n=V.length)(hm:n<=maxLen)(hV:jD w A V)
 (C:Hid (∀r∈V,∀(w':World),Below w.heap.size w w'->Ns w' r.A r.n r.c r.P->Calls Tryz.prog 125 #[.slice r.A r.n r.c,.pointer (some ⟨bx,0,none⟩),.pointer (some ⟨ba,0,none⟩)] w' λe w''=>e = .returned (.bool (p r.P))/\Below w'.heap.size w' w'')):
 Calls Tryz.prog 150 #[.slice A n c,(.func (.func 125) #[] #[.pointer (some ⟨bx,0,none⟩),.pointer (some ⟨ba,0,none⟩)])] w (gl (V.any λr=>p r.P) w):=by
 unfold maxLen at hm;have HV:=O hV;have HN:=O hn;clear hV hn;go_enter Tryz.func150,Tryz.ntmps150;go_wp2_with fail;go_loopw [5,8] (λ_ i wr=>∃k:Nat,k<=n/\i = .int .i64 k/\Hid ((V.any λr=>p r.P)=(V.drop k).any λr=>p r.P)/\Hid (Below w.heap.size w wr)) (λ_ i _=>n-(intOf i).toNat)
 case atStart=>exact⟨0,Nat.zero_le _,rfl,rfl,Below.refl _ _⟩
 case round =>
  obtain⟨k,hk,rfl,hE,hB⟩:=hrel;by_cases hlt:k<n
  ·have h1:k<V.length:=by rw [<-HN.o];exact hlt
   obtain⟨a,rfl,q,hs⟩:=(HV.o.keep hB.o).at h1;have HA:=O (hE.o.trans (mQ h1));have Cr:=O (C.o V[k] (List.getElem_mem h1) wr hB.o hs);generalize V[k]=r at *;clear hE hs;rcases hp:p r.P with _|_
   ·rw [hp] at Cr HA;clear hp;go_wp2_with fail;refine(Cr.o).mono ?_;rintro e w1 ⟨rfl,b1⟩;go_wp2_with fail;go_roundw
    case rel=>exact⟨k+1,by omega,by go_num,HA,bh hB b1⟩
    case measure=>simp [intOf];omega
   ·rw [hp] at Cr HA;clear hp;go_wp2_with fail;refine(Cr.o).mono ?_;rintro e w1 ⟨rfl,b1⟩;go_wp2_with fail;go_ret;exact⟨_,rfl,by rw [HA.o];simp,(bh hB b1).o⟩
  ·have HA:=O (hE.o.trans (by rw [List.drop_of_length_le (by rw [<-HN.o];omega)];rfl:_=false));clear hE;go_wp2_with fail;go_ret;exact⟨_,rfl,by rw [HA.o];rfl,hB.o⟩
theorem k7(A:Option Addr)(n c:Nat)(V:List Sl)(p:List Nd->Bool)(bx ba:Nat)(w:World)(hn:n=V.length)(hm:n<=maxLen)(hV:jD w A V)
 (C:Hid (∀r∈V,∀(w':World),Below w.heap.size w w'->Ns w' r.A r.n r.c r.P->Calls Tryz.prog 125 #[.slice r.A r.n r.c,.pointer (some ⟨bx,0,none⟩),.pointer (some ⟨ba,0,none⟩)] w' λe w''=>e = .returned (.bool (p r.P))/\Below w'.heap.size w' w'')):
 Calls Tryz.prog 124 #[.slice A n c,(.func (.func 125) #[] #[.pointer (some ⟨bx,0,none⟩),.pointer (some ⟨ba,0,none⟩)])] w λe w'=>e = .returned (.bool (V.any λr=>p r.P))/\Below w.heap.size w w':=by
 have I:=O (BZ A n c V p bx ba w hn hm hV C);unfold gl at I;clear hn hV C;go_enter Tryz.func124,Tryz.ntmps124;go_wp2_with fail;refine(I.o).mono ?_;rintro e w1 ⟨i,rfl,hi,b1⟩;have HI:=O hi;clear hi;go_wp2_with fail;go_ret;exact⟨zC HI.o,b1⟩
theorem Dk{V:List Nd}(h:fC (hdN V)):UOk (jV V):=⟨h.s,h.t⟩
theorem tA{w:World}{R:Nat}{k:Cx}(h:bJ w R k)(A B:Option Addr)(n m c d:Nat)(P Q:List Nd)(hP:Ns w A n c P)(h0:0<P.length)(hQ:Ns w B m d Q)(h1:0<Q.length)(bx ba:Nat)
 (cx:w.cell? ⟨bx,0,none⟩=some (.pointer (some ⟨R,0,none⟩))) (ca:w.cell? ⟨ba,0,none⟩=some (.slice A n c)):
 Calls Tryz.prog 125 #[.slice B m d,.pointer (some ⟨bx,0,none⟩),.pointer (some ⟨ba,0,none⟩)] w λe w'=>e = .returned (.bool (inB k.E (jV P) (jV Q)))/\Below w.heap.size w w':=by
 obtain⟨a1,rfl,q1,-,o1,-⟩:=jY hP h0;obtain⟨a2,rfl,q2,-,o2,-⟩:=jY hQ h1;have R1:=rq (w:=w) (λw' hb=>mX (some a1) n c P w' (hP.keep hb) h0);have R2:=rq (w:=w) (λw' hb=>mX (some a2) m d Q w' (hQ.keep hb) h1);have R3:=rq (w:=w) (λw' hb=>by
  have:=Hz k.EA k.en k.ec k.E (jV P) (jV Q) w' (h.es.keep hb) (Dk o1) (Dk o2)
  rwa [show zQ k.E=0 from h.e,zf] at this)
 have R4:=rq (w:=w) (λw' hb=>ck (.bool (inB k.E (jV P) (jV Q))) w');have c0:=h.c0;have k0:=cell_regrown c0;have k1:=cell_regrown cx;have k2:=cell_regrown ca;unfold udV at R1 R2 R3;generalize inB k.E (jV P) (jV Q)=b at *;generalize jV P=u at *;generalize jV Q=v at *;clear h hP hQ h0 h1 o1 o2 q1 q2;go_enter Tryz.func125,Tryz.ntmps125;go_wp2_with fail;refine wp_region_quiet_below (by kernel_rfl) (by kernel_rfl) ?_
 repeat (first|go_big_quiet_step (first|with_reducible exact R1 _ _|with_reducible exact R2 _ _|with_reducible exact R3 _ _|with_reducible exact R4 _ _)|quiet_step (first|with_reducible exact R1 _ _|with_reducible exact R2 _ _|with_reducible exact R3 _ _|with_reducible exact R4 _ _))
 refine wpQuiet_nil ?_;intro w2 hw';have b2:=O (show Below w.heap.size w w2 by obtain⟨⟨d,os⟩,rfl⟩:=hw';exact below_regrown _ _ _);clear hw';go_wp2_with fail;go_ret;exact⟨rfl,b2.o⟩
theorem FY(w:World)(r:Sl)(hr:Ns w r.A r.n r.c r.P)(t:TypeId):jD (w.alloc (.cells #[.slice r.A r.n r.c] t)) (some ⟨w.heap.size,0,none⟩) [r]:=λk x hx=>by
 match k,hx with
 | 0,hx=>simp at hx;subst hx;exact⟨_,rfl,zr (heap_alloc_last w _) rfl,hr.keep (za w _)⟩
 | k+1,hx=>simp at hx
def nV(w:World)(E:List En)(P Q:List Nd)(e:Ending)(w':World):Prop :=
 Below w.heap.size w w'/\e=if zg P=4/\(jX Q).all (λt=>decide (zg t=4)) then .returned (.bool ((jX Q).any λt=>inB E (jV P) (jV t))) else .panicked (bz 2)
def inW(w:World)(R:Nat)(A:Option Addr)(n c:Nat):World:=(w.alloc (.cells #[.pointer (some ⟨R,0,none⟩)] 82)).alloc (.cells #[.slice A n c] 85)
theorem dn(w:World)(R:Nat)(A:Option Addr)(n c:Nat):Below w.heap.size w (inW w R A n c):=(za w _).trans ((za _ _).mono (by simp))
theorem GX(w:World)(R:Nat)(A:Option Addr)(n c:Nat):(inW w R A n c).cell? ⟨w.heap.size,0,none⟩=some (.pointer (some ⟨R,0,none⟩)):=zb (za _ _) (zr (heap_alloc_last w _) rfl)
theorem GW(w:World)(R:Nat)(A:Option Addr)(n c:Nat):(inW w R A n c).cell? ⟨w.heap.size+1,0,none⟩=some (.slice A n c):=by
 have:=zr (heap_alloc_last (w.alloc (.cells #[.pointer (some ⟨R,0,none⟩)] 82)) (.cells #[.slice A n c] 85)) (k:=0) (u := .slice A n c) rfl;rw [World.size_alloc] at this;exact this
theorem JC{w:World}{R:Nat}{k:Cx}(_h:bJ w R k)(A B:Option Addr)(n m c d:Nat)(P Q:List Nd)(hP:Ns w A n c P)(h0:0<P.length)(_hQ:Ns w B m d Q)(_h1:0<Q.length)(g:zg P≠4):
 Calls Tryz.prog 96 #[.pointer (some ⟨R,0,none⟩),.slice A n c,.slice B m d] w (nV w k.E P Q):=by
 have K:=O (zB A n c P 4 (inW w R A n c) (hP.keep (dn w R A n c)) h0);rw [if_neg g] at K;have B0:=O (dn w R A n c);have HR:=O (show(if zg P=4/\(jX Q).all (λt=>decide (zg t=4)) then Ending.returned (.bool ((jX Q).any λt=>inB k.E (jV P) (jV t))) else .panicked (bz 2))= .panicked (bz 2) from if_neg (λq=>g q.1));unfold inW at K B0;clear hP h0 g;go_enter Tryz.func96,Tryz.ntmps96;go_wp2_with fail;refine K.o.mono ?_;rintro e w1 ⟨rfl,b1⟩;have B1:=bh B0 b1;clear b1 K;go_wp2_with fail;exact⟨rfl,B1.o,by rw [HR.o]⟩
theorem Hn{w:World}{R:Nat}{k:Cx}(h:bJ w R k)(A B:Option Addr)(n m c d:Nat)(P Q:List Nd)(hP:Ns w A n c P)(h0:0<P.length)(hQ:Ns w B m d Q)(h1:0<Q.length)(g:zg P=4)(g5:zg Q≠5):
 Calls Tryz.prog 96 #[.pointer (some ⟨R,0,none⟩),.slice A n c,.slice B m d] w (nV w k.E P Q):=by
 have K:=O (zB A n c P 4 (inW w R A n c) (hP.keep (dn w R A n c)) h0);rw [if_pos g] at K;have B0:=O (dn w R A n c);have HX:=O (GX w R A n c);have HA:=O (GW w R A n c);have HP:=O hP;have HQ:=O hQ;have HE:=O h;have H0:=O h0;have rU:=O h.door;have KI:=O (λw' hb=>dI B m d Q 5 w' (hQ.keep (w':=w') hb) h1);unfold inW at K B0 HX HA;have f5:(zg Q==5)=false:=beq_eq_false_iff_ne.2 g5;rw [f5] at KI;clear f5;go_enter Tryz.func96,Tryz.ntmps96;go_wp2_with fail;refine K.o.mono ?_;rintro e w1 ⟨rfl,b1⟩;have B1:=bh B0 b1;have J0:=O (zb b1 HX.o);have J7:=O (zb b1 HA.o);clear b1 K B0 HX HA;go_wp2_with fail;have HS:=O (FY w1 ⟨B,m,d,Q⟩ (HQ.o.keep B1.o) 30);have B2:=bh B1 (za w1 (.cells #[.slice B m d] 30));have J1:=O (zb (za w1 (.cells #[.slice B m d] 30)) J0.o);have IP:=O (zb (za w1 (.cells #[.slice B m d] 30)) J7.o);refine(KI.o _ B2.o).mono ?_;rintro e w3 ⟨rfl,b3⟩;have B3:=bh B2 b3;have JP:=O (zb b3 J1.o);have J8:=O (zb b3 IP.o);have IQ:=O (HS.o.keep b3);obtain⟨V,hV⟩:∃V:List Sl,[⟨B,m,d,Q⟩]=V:=⟨_,rfl⟩
 have IK:=O (show V.length=1 by rw [<-hV];rfl);have Eh:=O (show V.map Sl.P=jX Q by rw [<-hV];unfold jX;rw [if_neg g5];rfl);have Gu:=O (show∀r∈V,0<r.P.length by rw [<-hV];intro r hr;simp only [List.mem_cons,List.not_mem_nil,or_false] at hr;subst hr;exact h1);rw [hV] at IQ;obtain⟨TA,hTA⟩:∃TA:Option Addr,(some ⟨w1.heap.size,0,none⟩:Option Addr)=TA:=⟨_,rfl⟩
 rw [hTA] at IQ ⊢;clear hTA;clear b3 B2 B1 J0 J7 J1 IP HS hV KI;have HG:=O g;have LD:Hid (1<=maxLen):=O (by unfold maxLen;omega);clear g g5 h0 h1 hP hQ h;go_wp2_with fail;have I6:∀(fn:Fn) (first cap:Array Value) (w:World),(Instr.makeFunc fn first cap).run Tryz.prog w = .ok (.func fn first cap) w:=λ_ _ _ _=>rfl;go_loopw [23] (λi wr=>∃j:Nat,i = .int .i64 j/\j<=1/\Hid ((V.take j).all (λr=>decide (zg r.P=4))=true)/\Hid (Below w.heap.size w wr)/\Hid (jD wr (TA) V)/\Hid (wr.cell? ⟨w.heap.size,0,none⟩=some (.pointer (some ⟨R,0,none⟩)))/\Hid (wr.cell? ⟨w.heap.size+1,0,none⟩=some (.slice A n c))) (λi _=>1-(intOf i).toNat)
 case atStart=>exact⟨0,rfl,Nat.zero_le _,O rfl,B3,IQ,JP,J8⟩
 case round =>
  clear B3 IQ JP J8;obtain⟨j,rfl,hj,hF,hB,hS,hx,ha⟩:=hrel;by_cases hlt:j<1
  ·have hl:j<V.length:=by have:=IK.o;omega
   obtain⟨a,hA,q,hN⟩:=hS.o.at hl;cases hA;have hp:=Gu.o _ (List.getElem_mem hl);have hall:(V.take (j+1)).all (λr=>decide (zg r.P=4))=((V.take j).all (λr=>decide (zg r.P=4))&& decide (zg V[j].P=4)):=by
    rw [List.take_succ_eq_append_getElem hl,List.all_append];simp
   rw [hF.o,Bool.true_and] at hall;have wQ:V[j].P∈jX Q:=by rw [<-Eh.o];exact List.mem_map_of_mem (List.getElem_mem hl)
   have KM:=O (zB V[j].A V[j].n V[j].c V[j].P 4 wr hN hp);generalize V[j]=r at *;by_cases h4:zg r.P=4
   ·rw [if_pos h4] at KM;rw [decide_eq_true h4] at hall;have J3:=O hall;clear hall h4 hN hp wQ;go_wp2_with fail;refine KM.o.mono ?_;rintro e w4 ⟨rfl,b4⟩;have B4:=bh hB b4;have Jh:=O (hS.o.keep b4);have I0:=O (zb b4 hx.o);have Jd:=O (zb b4 ha.o);clear b4 hB hS hx ha hF;go_wp2_with fail;go_roundw
    case rel=>exact⟨j+1,by go_num,by omega,J3,B4,Jh,I0,Jd⟩
    case measure=>simp [intOf];omega
   ·rw [if_neg h4] at KM;have HR:=O (show(if zg P=4/\(jX Q).all (λt=>decide (zg t=4)) then Ending.returned (.bool ((jX Q).any λt=>inB k.E (jV P) (jV t))) else .panicked (bz 2))= .panicked (bz 2) from if_neg (λz=>h4 (by simpa using List.all_eq_true.1 z.2 _ wQ)));clear hall h4 hN hp wQ;go_wp2_with fail;refine KM.o.mono ?_;rintro e w4 ⟨rfl,b4⟩;have B4:=bh hB b4;clear b4 hB;go_wp2_with fail;exact⟨rfl,B4.o,by rw [HR.o]⟩
  ·have hall:(jX Q).all (λt=>decide (zg t=4))=true:=by
    rw [<-Eh.o,List.all_map];have:=hF.o;rwa [List.take_of_length_le (by have:=IK.o;omega)] at this
   have HR:=O (show(if zg P=4/\(jX Q).all (λt=>decide (zg t=4)) then Ending.returned (.bool ((jX Q).any λt=>inB k.E (jV P) (jV t))) else .panicked (bz 2))= .returned (.bool (V.any λr=>inB k.E (jV P) (jV r.P))) by
    rw [if_pos ⟨HG.o,hall⟩,<-Eh.o,List.any_map];rfl)
   have KC:=O (k7 (TA) (1) (1) V (λt=>inB k.E (jV P) (jV t)) w.heap.size (w.heap.size+1) wr IK.o.symm LD.o hS.o (O λr hr w' hb hN=>tA (HE.o.keep (hB.o.trans (hb.mono hB.o.size))) A r.A n r.n c r.c P r.P (HP.o.keep (hB.o.trans (hb.mono hB.o.size))) H0.o hN (Gu.o r hr) w.heap.size (w.heap.size+1) (zb hb hx.o) (zb hb ha.o)));generalize (V.any λr=>inB k.E (jV P) (jV r.P))=bb at *;clear hall hF hS;have Mq:=hx.o;have ha':=ha.o;go_wp2_with fail;refine KC.o.mono ?_;rintro e w4 ⟨rfl,b4⟩;have B4:=bh hB b4;clear b4 hB;go_wp2_with fail;go_ret;exact⟨B4.o,by rw [HR.o];rfl⟩
theorem Hq{w:World}{R:Nat}{k:Cx}(h:bJ w R k)(A B:Option Addr)(n m c d:Nat)(P Q:List Nd)(hP:Ns w A n c P)(h0:0<P.length)(hQ:Ns w B m d Q)(h1:0<Q.length)(g:zg P=4)(g5:zg Q=5)(vQ:zc Q=0):
 Calls Tryz.prog 96 #[.pointer (some ⟨R,0,none⟩),.slice A n c,.slice B m d] w (nV w k.E P Q):=by
 have K:=O (zB A n c P 4 (inW w R A n c) (hP.keep (dn w R A n c)) h0);rw [if_pos g] at K;have B0:=O (dn w R A n c);have HX:=O (GX w R A n c);have HA:=O (GW w R A n c);have HP:=O hP;have HQ:=O hQ;have HE:=O h;have H0:=O h0;have rU:=O h.door;have KI:=O (λw' hb=>dI B m d Q 5 w' (hQ.keep (w':=w') hb) h1);unfold inW at K B0 HX HA;have f5:(zg Q==5)=true:=beq_iff_eq.2 g5;rw [f5] at KI;clear f5;have KP:=O (λw' hb=>j5 B m d Q w' (hQ.keep (w':=w') hb));have L8:=O (show cy Q=0 by unfold cy;rw [if_pos vQ,if_pos (Or.inl g5)]);have HPL:=O (show fV Q=jX Q by unfold fV jX;rw [L8.o,if_pos rfl,if_pos g5,if_pos g5]);have Jm:=O (show∀t∈jX Q,0<t.length by
  unfold jX
  rw [if_pos g5]
  exact λt ht=>((rK (zL.1 vQ).2 g5).2.2.1 t ht).pos)
 have HPN:=O (show(jX Q).length<=200 by
  unfold jX
  rw [if_pos g5]
  obtain⟨h2,h3⟩:=zL.1 vQ
  obtain⟨e,-,h4,-⟩:=rK h3 g5
  have h6:(zy Q).length<=(zy Q).flatten.length:=by
   clear e
   generalize zy Q=L at *
   induction L with
   | nil=>simp
   | cons x L ih =>
    have:=(h4 x (by simp)).pos
    have:=ih λy hy=>h4 y (by simp [hy])
    simp only [List.length_cons,List.flatten_cons,List.length_append]
    omega
  have h5:=congrArg List.length e
  simp only [List.length_cons] at h5
  omega)
 unfold bQ at KP;rw [L8.o,zf] at KP;go_enter Tryz.func96,Tryz.ntmps96;go_wp2_with fail;refine K.o.mono ?_;rintro e w1 ⟨rfl,b1⟩;have B1:=bh B0 b1;have J0:=O (zb b1 HX.o);have J7:=O (zb b1 HA.o);clear b1 K B0 HX HA;go_wp2_with fail;have B2:=bh B1 (za w1 (.cells #[.slice B m d] 30));have J1:=O (zb (za w1 (.cells #[.slice B m d] 30)) J0.o);have IP:=O (zb (za w1 (.cells #[.slice B m d] 30)) J7.o);refine(KI.o _ B2.o).mono ?_;rintro e w3 ⟨rfl,b3⟩;have Mj:=bh B2 b3;have HX3':=O (zb b3 J1.o);have HA3':=O (zb b3 IP.o);clear b3 B2 B1 J0 J7 J1 IP KI;go_wp2_with fail;refine(KP.o _ Mj.o).mono ?_;rintro e w4 ⟨pv,V,rfl,hO,hVP,-,b4⟩;have B4:=bh Mj b4;have I0:=O (zb b4 HX3'.o);have Jd:=O (zb b4 HA3'.o);have Eh:=O (hVP.trans HPL.o);obtain⟨TA,tc,rfl,htc,He⟩:=hO.at
 have Jh:=O He;have Gu:=O (show∀r∈V,0<r.P.length from λr hr=>Jm.o r.P (by rw [<-Eh.o];exact List.mem_map_of_mem hr));obtain⟨tn,Mn⟩:∃tn:Nat,tn=V.length:=⟨_,rfl⟩
 have IK:=O Mn.symm;have hv2:V.length<=200:=by have h7:=congrArg List.length Eh.o;rw [List.length_map] at h7;rw [h7];exact HPN.o
 rw [<-Mn] at hv2 ⊢;have LD:Hid (tn<=maxLen):=O (by unfold maxLen;omega);have HG:=O g;clear b4 Mj HX3' HA3' KP hO hVP htc He Mn Jm HPN L8 HPL g g5 h0 h1 hP hQ h vQ;go_wp2_with fail;refine(ud _ w4).mono ?_;rintro e w5 ⟨rfl,b5⟩;have B3:=bh B4 b5;have JP:=O (zb b5 I0.o);have J8:=O (zb b5 Jd.o);have IQ:=O (Jh.o.keep b5);clear b5 B4 I0 Jd Jh;go_wp2_with fail;have I6:∀(fn:Fn) (first cap:Array Value) (w:World),(Instr.makeFunc fn first cap).run Tryz.prog w = .ok (.func fn first cap) w:=λ_ _ _ _=>rfl;go_loopw [23] (λi wr=>∃j:Nat,i = .int .i64 j/\j<=tn/\Hid ((V.take j).all (λr=>decide (zg r.P=4))=true)/\Hid (Below w.heap.size w wr)/\Hid (jD wr (TA) V)/\Hid (wr.cell? ⟨w.heap.size,0,none⟩=some (.pointer (some ⟨R,0,none⟩)))/\Hid (wr.cell? ⟨w.heap.size+1,0,none⟩=some (.slice A n c))) (λi _=>tn-(intOf i).toNat)
 case atStart=>exact⟨0,rfl,Nat.zero_le _,O rfl,B3,IQ,JP,J8⟩
 case round =>
  clear B3 IQ JP J8;obtain⟨j,rfl,hj,hF,hB,hS,hx,ha⟩:=hrel;by_cases hlt:j<tn
  ·have hl:j<V.length:=by have:=IK.o;omega
   obtain⟨a,hA,q,hN⟩:=hS.o.at hl;cases hA;have hp:=Gu.o _ (List.getElem_mem hl);have hall:(V.take (j+1)).all (λr=>decide (zg r.P=4))=((V.take j).all (λr=>decide (zg r.P=4))&& decide (zg V[j].P=4)):=by
    rw [List.take_succ_eq_append_getElem hl,List.all_append];simp
   rw [hF.o,Bool.true_and] at hall;have wQ:V[j].P∈jX Q:=by rw [<-Eh.o];exact List.mem_map_of_mem (List.getElem_mem hl)
   have KM:=O (zB V[j].A V[j].n V[j].c V[j].P 4 wr hN hp);generalize V[j]=r at *;by_cases h4:zg r.P=4
   ·rw [if_pos h4] at KM;rw [decide_eq_true h4] at hall;have J3:=O hall;clear hall h4 hN hp wQ;go_wp2_with fail;refine KM.o.mono ?_;rintro e w4 ⟨rfl,b4⟩;have B4:=bh hB b4;have Jh:=O (hS.o.keep b4);have I0:=O (zb b4 hx.o);have Jd:=O (zb b4 ha.o);clear b4 hB hS hx ha hF;go_wp2_with fail;go_roundw
    case rel=>exact⟨j+1,by go_num,by omega,J3,B4,Jh,I0,Jd⟩
    case measure=>simp [intOf];omega
   ·rw [if_neg h4] at KM;have HR:=O (show(if zg P=4/\(jX Q).all (λt=>decide (zg t=4)) then Ending.returned (.bool ((jX Q).any λt=>inB k.E (jV P) (jV t))) else .panicked (bz 2))= .panicked (bz 2) from if_neg (λz=>h4 (by simpa using List.all_eq_true.1 z.2 _ wQ)));clear hall h4 hN hp wQ;go_wp2_with fail;refine KM.o.mono ?_;rintro e w4 ⟨rfl,b4⟩;have B4:=bh hB b4;clear b4 hB;go_wp2_with fail;exact⟨rfl,B4.o,by rw [HR.o]⟩
  ·have hall:(jX Q).all (λt=>decide (zg t=4))=true:=by
    rw [<-Eh.o,List.all_map];have:=hF.o;rwa [List.take_of_length_le (by have:=IK.o;omega)] at this
   have HR:=O (show(if zg P=4/\(jX Q).all (λt=>decide (zg t=4)) then Ending.returned (.bool ((jX Q).any λt=>inB k.E (jV P) (jV t))) else .panicked (bz 2))= .returned (.bool (V.any λr=>inB k.E (jV P) (jV r.P))) by
    rw [if_pos ⟨HG.o,hall⟩,<-Eh.o,List.any_map];rfl)
   have KC:=O (k7 (TA) (tn) (tc) V (λt=>inB k.E (jV P) (jV t)) w.heap.size (w.heap.size+1) wr IK.o.symm LD.o hS.o (O λr hr w' hb hN=>tA (HE.o.keep (hB.o.trans (hb.mono hB.o.size))) A r.A n r.n c r.c P r.P (HP.o.keep (hB.o.trans (hb.mono hB.o.size))) H0.o hN (Gu.o r hr) w.heap.size (w.heap.size+1) (zb hb hx.o) (zb hb ha.o)));generalize (V.any λr=>inB k.E (jV P) (jV r.P))=bb at *;clear hall hF hS;have Mq:=hx.o;have ha':=ha.o;go_wp2_with fail;refine KC.o.mono ?_;rintro e w4 ⟨rfl,b4⟩;have B4:=bh hB b4;clear b4 hB;go_wp2_with fail;go_ret;exact⟨B4.o,by rw [HR.o];rfl⟩
theorem F7{w:World}{R:Nat}{k:Cx}(h:bJ w R k)(A B:Option Addr)(n m c d:Nat)(P Q:List Nd)(hP:Ns w A n c P)(h0:0<P.length)(hQ:Ns w B m d Q)(h1:0<Q.length)(vQ:zc Q=0):
 Calls Tryz.prog 96 #[.pointer (some ⟨R,0,none⟩),.slice A n c,.slice B m d] w (nV w k.E P Q):=by
 by_cases g:zg P=4
 ·by_cases g5:zg Q=5
  ·exact Hq h A B n m c d P Q hP h0 hQ h1 g g5 vQ
  ·exact Hn h A B n m c d P Q hP h0 hQ h1 g g5
 ·exact JC h A B n m c d P Q hP h0 hQ h1 g
theorem CG(A:Option Addr)(n c:Nat)(V:List Sl)(nv:Value)(w:World)(hn:n=V.length)(hm:n<=1000)(hV:jD w A V)(hd:aU w):
 Calls Tryz.prog 86 #[.int .i64 5,nv,.slice A n c] w (zT w (jo (Wk.setE (V.map Sl.P)) (ga (V.map Sl.P)))):=by
 have K:=O (uO A n c V w hn (by omega) hV);unfold sY at K;generalize V.map Sl.P=L at *;have HD:=O hd;clear hn hm hV hd;by_cases z:Wk.setE L=0
 ·have HT:=O (show jo (Wk.setE L) (ga L)= .ok (ga L) by unfold jo;rw [if_pos z]);rw [HT.o];rw [z,zf] at K;clear z;go_enter Tryz.func86,Tryz.ntmps86;go_wp2_with fail;refine K.o.mono ?_;rintro e w1 ⟨A2,n2,c2,rfl,hN,hF,b1⟩;have B1:=O b1;have HN:=O hN;have HF:=O hF;clear b1 hN hF K;go_wp2_with fail;refine(fE (.slice A2 n2 c2) w1).mono ?_;rintro e w2 ⟨rfl,b2⟩;have B2:=bh B1 b2;have AL:=O (HN.o.keep b2);clear b2 B1 HN;go_wp2_with fail;go_ret;exact⟨B2.o,A2,n2,c2,rfl,AL.o,HF.o⟩
 ·have HT:=O (show jo (Wk.setE L) (ga L)= .error (Wk.setE L) by unfold jo;rw [if_neg z]);rw [HT.o];rw [zl z] at K;generalize Wk.setE L=u at *;clear z;go_enter Tryz.func86,Tryz.ntmps86;go_wp2_with fail;refine K.o.mono ?_;rintro e w1 ⟨A2,n2,c2,rfl,-,-,b1⟩;have B1:=O b1;clear b1 K;go_wp2_with fail;refine(fS (.slice A2 n2 c2) u w1 (HD.o.keep B1.o)).mono ?_;rintro e w2 ⟨rfl,b2⟩;have B2:=bh B1 b2;clear b2 B1;go_wp2_with fail;exact⟨rfl,js B2.o⟩
theorem Dn(A:Option Addr)(n c:Nat)(N:List ByteArray)(A':Option Addr)(m c':Nat)(V:List Sl)(w:World)(hn:n=N.length)(hn2:n<=1000)(hT:oh w A N)(hz:∀x∈N,x.size<=maxLen)(hm:m=V.length)(I':m<=1000)(hV:jD w A' V)(hd:aU w):
 Calls Tryz.prog 86 #[.int .i64 6,.slice A n c,.slice A' m c'] w (zT w (jo (cb N (V.map Sl.P)) (gP N (V.map Sl.P)))):=by
 have K:=O (wd A n c N A' m c' V w hn (by omega) hT hz hm (by omega) hV);unfold nB at K;generalize V.map Sl.P=L at *;have HD:=O hd;clear hn hm hV hd hn2 I' hT hz;by_cases z:cb N L=0
 ·have HT:=O (show jo (cb N L) (gP N L)= .ok (gP N L) by unfold jo;rw [if_pos z]);rw [HT.o];rw [z,zf] at K;clear z;go_enter Tryz.func86,Tryz.ntmps86;go_wp2_with fail;refine K.o.mono ?_;rintro e w1 ⟨A2,n2,c2,rfl,hN,hF,b1⟩;have B1:=O b1;have HN:=O hN;have HF:=O hF;clear b1 hN hF K;go_wp2_with fail;refine(fE (.slice A2 n2 c2) w1).mono ?_;rintro e w2 ⟨rfl,b2⟩;have B2:=bh B1 b2;have AL:=O (HN.o.keep b2);clear b2 B1 HN;go_wp2_with fail;go_ret;exact⟨B2.o,A2,n2,c2,rfl,AL.o,HF.o⟩
 ·have HT:=O (show jo (cb N L) (gP N L)= .error (cb N L) by unfold jo;rw [if_neg z]);rw [HT.o];rw [zl z] at K;generalize cb N L=u at *;clear z;go_enter Tryz.func86,Tryz.ntmps86;go_wp2_with fail;refine K.o.mono ?_;rintro e w1 ⟨A2,n2,c2,rfl,-,-,b1⟩;have B1:=O b1;clear b1 K;go_wp2_with fail;refine(fS (.slice A2 n2 c2) u w1 (HD.o.keep B1.o)).mono ?_;rintro e w2 ⟨rfl,b2⟩;have B2:=bh B1 b2;clear b2 B1;go_wp2_with fail;exact⟨rfl,js B2.o⟩
theorem zK.past{w w':World}{B R:Nat}{v:Value}{V:List Sl}(h:zK w B v V)(hg:w.grownBy w' (some R))(hR:R<B)(ha:∀r∈V,bE r (some R)):zK w' B v V:=h.row hg (ib h.own hR) ha
theorem z7.apart{W w:World}{R:Nat}{k:Cx}{p:Int}(h:z7 W w R k p){r:Sl}(hr:Ns w r.A r.n r.c r.P):bE r (some R):=λh0 a e q=>by
 injection q with q;exact h.fork hr h0 a e q.symm
theorem z7.far{W w w':World}{R:Nat}{k:Cx}{p:Int}{g:Option Nat}(h:z7 W w R k p)(hg:w.grownBy w' g)(hne:∀x,g=some x->R<x):z7 W w' R k p:=by
 obtain⟨t,e⟩:=h.row;exact⟨h.base.grown hg h.base.size (λx hx=>Nat.le_trans h.hi (Nat.le_of_lt (hne x hx))),h.hi,h.ok,t,(hg.block R h.lt (λq=>by have:=hne R q.symm;omega)).trans e⟩
theorem kK{w w1 w2:World}{r g:Option Nat}(h:w.grownBy w1 r)(k:w1.grownBy w2 g)(hg:∀x,g=some x->w.heap.size<=x):w.grownBy w2 r :=
 ⟨k.os.trans h.os,k.tape.trans h.tape,k.output.trans h.output,Nat.le_trans h.size k.size,λi hi hn=>(k.block i (Nat.lt_of_lt_of_le hi h.size) (λe=>by have:=hg i e.symm;omega)).trans (h.block i hi hn)⟩
theorem de{W w w1 w2:World}{R:Nat}{k:Cx}{q:Int}{r:Res}{e:Ending}(h:zT w1 r e w2)(E:z7 W w1 R k q)(G:w.grownBy w1 (some R)):zU W w R k q r e w2:=by
 refine⟨zh G (zj h.1 _),?_⟩
 cases r with
 | error x=>exact h.2
 | ok V =>
  obtain⟨A,n,c,he,hN,hF⟩:=h.2
  exact⟨⟨A,n,c,he,hN,λa ha => .inr (Nat.le_trans G.size (hF a ha))⟩,E.keep h.1⟩
theorem ii{W w:World}{R B:Nat}{k:Cx}{p:Int}{v:Value}{n:Nat}{xs:List Value}{t:TypeId}{z:Nat}(h:z7 W w R k p)(hR:R<B)(hv:w.ownsRow B t z v n xs)(r:Sl)(hF:∀a,r.A=some a->a.block<W.heap.size\/w.heap.size<=a.block):bE r v.ownBlock:=λ_ a e q=>by
 have h1:=cT hv a.block q;have h2:=jb hv a.block q;have h3:=h.hi;rcases hF a e with h4|h4 <;> omega
def xN:Except Int (List (List Nd))->Res
 | .error e => .error e
 | .ok L=>jo (Wk.setE L) (ga L)
def D7:Except Int (List (ByteArray × List Nd))->Res
 | .error e => .error e
 | .ok L=>jo (cb (L.map Prod.fst) (L.map Prod.snd)) (gP (L.map Prod.fst) (L.map Prod.snd))
theorem DG{x:Except Int (List (List Nd))}{e:Int}(h:x = .error e):xN x = .error e:=by rw [h];rfl
theorem EZ{x:Except Int (List (List Nd))}{L:List (List Nd)}(h:x = .ok L):xN x=jo (Wk.setE L) (ga L):=by rw [h];rfl
theorem Bm{x:Except Int (List (ByteArray × List Nd))}{e:Int}(h:x = .error e):D7 x = .error e:=by rw [h];rfl
theorem FI{x:Except Int (List (ByteArray × List Nd))}{L:List (ByteArray × List Nd)}(h:x = .ok L):D7 x=jo (cb (L.map Prod.fst) (L.map Prod.snd)) (gP (L.map Prod.fst) (L.map Prod.snd)):=by rw [h];rfl
def ui(L:List (List Nd)):Except Int (List (List Nd))->Except Int (List (List Nd))
 | .error e => .error e
 | .ok M => .ok (L ++ M)
theorem Dc(x:Except Int (List (List Nd))):ui [] x=x:=by cases x <;> rfl
theorem Cn{σ:Env}{L:List (List Nd)}{a:Ex}{r:Exs}{e:Int}(h:evX σ a = .error e):ui L (evS σ (.cons a r))= .error e:=by rw [evS,h];rfl
theorem Gh{σ:Env}{L:List (List Nd)}{a:Ex}{r:Exs}{U:List Nd}(h:evX σ a = .ok U):ui L (evS σ (.cons a r))=ui (L ++ [U]) (evS σ r):=by
 rw [evS,h];simp only;rcases evS σ r with e|M
 ·rfl
 ·simp [ui]
theorem Be{W:World}{R N:Nat}{k:Cx}(ih:fq W R k N){w:World}{p:Nat}(h:z7 W w R k (p:Int))(n:Nd)(ps:Exs)(hx:iy k.P p false ps)(h5:n.op=5)(hn:n.n=(ps.len:Int))(hl:ps.flat.length<=N)(cR:ps.len<=200):
 Calls Tryz.prog 62 #[.pointer (some ⟨R,0,none⟩),ndV n] w (zU W w R k ((p+ps.flat.length:Nat):Int) (xN (evS k.env ps))):=by
 obtain⟨i0,hi,hz0,hz1,hz2⟩:=info_parts kE;have IH:=O ih;have rU:=O (λw' hb=>h.cx.door.keep (w':=w') hb);have H0:=O (h.keep (za w (.cells #[.int .i64 5,.int .i64 n.n,.string n.s,.string n.t] 47)));have G0:=O (zj (za w (.cells #[.int .i64 5,.int .i64 n.n,.string n.s,.string n.t] 47)) (some R));have pw:=h.lt;have HX:=O hx;have HL:=O hl;unfold ndV;rw [h5];obtain⟨m,hm⟩:∃m:Nat,m=ps.len:=⟨_,rfl⟩
 rw [<-hm] at hn cR;rw [hn] at H0 G0 ⊢;have HM:=O hm;clear h hx hl h5 ih hm hn;go_enter Tryz.func62,Tryz.ntmps62;go_wp2_with fail;go_loopw [5,6,9] (λnv v i wr=>∃(j q:Nat) (r:Exs) (V:List Sl),nv = .slice none 0 0/\i = .int .i64 j/\j<=m/\V.length=j/\Hid (j+r.len=m)/\Hid (evS k.env ps=ui (V.map Sl.P) (evS k.env r))/\Hid (iy k.P q false r)/\Hid (q+r.flat.length=p+ps.flat.length)/\Hid (r.flat.length<=N)/\
  Hid (zK wr (w.heap.size+1) v V)/\Hid (z7 W wr R k q)/\Hid (w.grownBy wr (some R))/\wr.cell? ⟨w.heap.size,0,none⟩=some (.int .i64 5)) (λ_ _ i _=>m-(intOf i).toNat)
 case atStart=>exact⟨0,p,ps,[],rfl,rfl,Nat.zero_le _,rfl,O (by rw [Nat.zero_add];exact HM.o.symm),O (Dc _).symm,HX,O rfl,HL,O (zK.nil _ _),H0,G0,by simp⟩
 case round =>
  obtain⟨j,q,r,V,rfl,rfl,hj,rS,hM,hS,GM,hQ,hN,hO,hE,hG,hb⟩:=hrel;clear H0 G0;by_cases hlt:j<m
  ·obtain⟨a,r',rfl⟩:∃a r',r = .cons a r':=by
    cases r with
    | nil=>have:=hM.o;simp only [Exs.len] at this;omega
    | cons a r'=>exact⟨a,r',rfl⟩
   obtain⟨ha,GT⟩:=GM.o.head;have lY:(Exs.cons a r').flat.length=a.flat.length+r'.flat.length:=by simp [Exs.flat]
   have la:a.flat.length<=N:=by have:=hN.o;omega
   have Ke:=O (show q+a.flat.length+r'.flat.length=p+ps.flat.length by have:=hQ.o;omega);have uL:=O (show r'.flat.length<=N by have:=hN.o;omega);have JF:=O (show j+1+r'.len=m by have:=hM.o;simp only [Exs.len] at this;omega);have uG:=O GT;have C:=O (IH.o a q wr hE.o ha la);have hwr:w.heap.size<wr.heap.size:=block_lt_of_cell hb;rcases qa:evX k.env a with e|U
   ·have HEr:=O (hS.o.trans (Cn qa));rw [qa] at C;unfold zU at C;clear hS GM hQ hN ha GT lY la qa Ke uL JF uG;go_wp2_with fail;refine C.o.mono ?_;rintro e w1 ⟨g1,rfl⟩;have G1:=O (zh hG.o g1);clear g1;go_wp2_with fail;refine⟨rfl,?_⟩;rw [DG HEr.o];exact⟨G1.o,rfl⟩
   ·have HSr:=O (hS.o.trans (Gh qa));rw [qa] at C;unfold zU at C;clear hS GM hQ hN ha GT lY la qa;go_wp2_with fail;refine C.o.mono ?_;rintro e w1 ⟨g1,⟨A1,n1,c1,rfl,N1,F1⟩,E1⟩;have T1:=O (hO.o.past g1 (Nat.lt_succ_of_lt pw) (λx hx=>hE.o.apart (hO.o.each x hx)));have AP:=O (ii hE.o (Nat.lt_succ_of_lt pw) hO.o.own ⟨A1,n1,c1,U⟩ F1);have G1:=O (zh hG.o g1);have eG:=O (show Ns w1 (⟨A1,n1,c1,U⟩:Sl).A _ _ _ from N1);have fB:=O E1;have rR:w.heap.size<w1.heap.size:=Nat.lt_of_lt_of_le hwr g1.size;have hb1:w1.cell? ⟨w.heap.size,0,none⟩=some (.int .i64 5):=g1.cell hb (show some w.heap.size≠some R from λe=>by injection e with e;omega);have OB:=O (λg hg=>jb T1.o.own g hg);clear g1 N1 E1 F1 C hO hE hG hb;go_wp2_with (at_builtin;refine wpList_append_own_at _ rfl _ _ 54 rfl (w.heap.size+1) 30 i0 _ 1 24 Tryz.underlying54 hi hz0 hz1 hz2 rfl (by decide) _ V.length (V.map Sl.v) rfl (T1.o.own.alloc _) ⟨_,0,none⟩ 1 1 [.slice A1 n1 c1] rfl rfl (cell_one_new _ _ _) (by intro u hu;simp only [List.mem_cons,List.not_mem_nil,or_false] at hu;subst hu;rfl) ?d1 ?d2 ?d3 ?_)
    case d1=>unfold maxLen;omega
    case d2=>omega
    case d3=>simp;omega
    intro v2 w5 hown hgrow _ hat;have E5:=O ((fB.o.keep (za w1 _)).far hgrow (λx hx=>by have:=OB.o x hx;omega));have G5:=O (kK (zh G1.o (zj (za w1 _) _)) hgrow (λx hx=>Nat.le_of_succ_le (OB.o x hx)));have T5:=O (T1.o.snoc (r:=⟨A1,n1,c1,U⟩) eG.o AP.o (by rw [rS];exact hown) hgrow (by simpa using hat));have xJ:w5.cell? ⟨w.heap.size,0,none⟩=some (.int .i64 5):=hgrow.cell (zb (za w1 _) hb1) (λe=>by have:=OB.o w.heap.size e.symm;omega);have JX:(V ++ [(⟨A1,n1,c1,U⟩:Sl)]).length=j+1:=by simp [rS]
    have Le:=O (show evS k.env ps=ui ((V ++ [(⟨A1,n1,c1,U⟩:Sl)]).map Sl.P) (evS k.env r') by rw [HSr.o,List.map_append];rfl);clear hown hgrow hat T1 eG AP fB G1 HSr;go_wp2_with fail;go_roundw
    case rel=>exact⟨j+1,q+a.flat.length,r',_,rfl,by go_num,by omega,JX,JF,Le,uG,Ke,uL,T5,E5,G5,xJ⟩
    case measure=>simp [intOf];omega
  ·obtain rfl:r = .nil:=by
    cases r with
    | nil=>rfl
    | cons a r'=>have:=hM.o;simp only [Exs.len] at this;omega
   have HV:=O (EZ (L:=V.map Sl.P) (hS.o.trans (by simp [evS,ui])));have HQ:=O (show p+ps.flat.length=q by have:=hQ.o;simpa [Exs.flat] using this.symm);obtain⟨A,c,rfl,hc,He⟩:=hO.o.at
   have K:=O (CG A j c V (.slice none 0 0) wr rS.symm (by omega) He hE.o.cx.door);have TE:=O (λe w2 (h:zT wr (jo (Wk.setE (V.map Sl.P)) (ga (V.map Sl.P))) e w2)=>de h hE.o hG.o);generalize jo (Wk.setE (V.map Sl.P)) (ga (V.map Sl.P))=rr at *;clear hM hS GM hQ hN hO hE hG He hc;rcases rr with u|U
   ·go_wp2_with fail;refine K.o.mono ?_;rintro e w2 hp;have HP:=O (TE.o _ _ hp);obtain⟨-,rfl⟩:=hp;go_wp2_with fail;refine⟨rfl,?_⟩;rw [HV.o]
    first
     |(rw [show((p:Int)+(ps.flat.length:Int))=(q:Int) by have:=HQ.o;omega];exact HP.o)
     |(rw [HQ.o];exact HP.o)
   ·go_wp2_with fail;refine K.o.mono ?_;rintro e w2 hp;have HP:=O (TE.o _ _ hp);obtain⟨-,A2,n2,c2,rfl,-,-⟩:=hp;go_wp2_with fail;go_ret;rw [HV.o]
    first
     |(rw [HQ.o];exact HP.o)
     |(rw [show((p:Int)+(ps.flat.length:Int))=(q:Int) by have:=HQ.o;omega];exact HP.o)
end Go.Proofs.YthidiimbeaabhaaGreatDoor
