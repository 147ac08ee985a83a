/-
  The order of nodes: val.compare, slices.CompareFunc, val.order. The contracts ..
-/
import Derived.Test.YtokiogmfgpidmaaGreatDoorD16
set_option maxRecDepth 100000
set_option maxHeartbeats 8000000
namespace Go.Proofs.YtokiogmfgpidmaaGreatDoor
open Go.RowKit Go.Wk
def ndV(x:Nd):Value := .agg #[.int .i64 x.op,.int .i64 x.n,.string x.s,.string x.t]
def jt(w:World)(A:Option Addr)(P:List Nd):Prop :=
 ∀(k:Nat) (x:Nd),P[k]?=some x->∃a,A=some a/\w.cell? (a.add (k*4))=some (.int .i64 x.op)/\
  w.cell? ⟨(a.add (k*4)).block,(a.add (k*4)).off+1,none⟩=some (.int .i64 x.n)/\
  w.cell? ⟨(a.add (k*4)).block,(a.add (k*4)).off+2,none⟩=some (.string x.s)/\
  w.cell? ⟨(a.add (k*4)).block,(a.add (k*4)).off+3,none⟩=some (.string x.t)
theorem jt.keep{w w':World}{A:Option Addr}{P:List Nd}(h:jt w A P)(hb:Below w.heap.size w w'):jt w' A P :=
 λk x hx=>let ⟨a,h1,h2,h3,h4,h5⟩:=h k x hx;⟨a,h1,za hb h2,za hb h3,za hb h4,za hb h5⟩
theorem cmp_Compare_int(x y:Int)(w:World):Calls Tryz.prog 178 #[.int .i64 x,.int .i64 y] w λe w'=>e = .returned (.int .i64 (Gl x y))/\w'=w :=
 (Tryz.cmp_Compare_int x y w).mono λ_ _ h=>h
theorem ze2(x y z u:Int)(ad:Addr)(w:World)(h0:w.cell? ad=some (.int .i64 x))(h1:w.cell? ⟨ad.block,ad.off+1,none⟩=some (.int .i64 y))
 (h2:w.cell? ⟨ad.block,ad.off+2,none⟩=some (.int .i64 z)) (h3:w.cell? ⟨ad.block,ad.off+3,none⟩=some (.int .i64 u)):
 Calls Tryz.prog 177 #[.slice (some ad) 4 4] w λe w'=>e = .returned (.int .i64 (or4 x y z u))/\w=w':=by
 go_enter Tryz.func177,Tryz.ntmps177;go_wp2;go_loop [5,8] (λs i=>∃k:Nat,k<=4/\i = .int .i64 k/\(1<=k->x=0)/\(2<=k->y=0)/\(3<=k->z=0)/\(4<=k->u=0)) (λ_ i=>4-(intOf i).toNat)
 case atStart=>exact⟨0,by omega,rfl,by omega,by omega,by omega,by omega⟩
 case round =>
  obtain⟨k,hk,rfl,hx,hy,hz,hu⟩:=hrel;have hk3:k=0\/k=1\/k=2\/k=3\/k=4:=by omega
  rcases hk3 with rfl|rfl|rfl|rfl|rfl
  ·clear hx hy hz hu;by_cases hx0:x=0
   ·subst hx0;go_wp2;go_round
    case rel=>exact⟨1,by omega,by go_num,by simp,by omega,by omega,by omega⟩
    case measure=>simp [intOf]
   ·go_wp2;go_ret;exact⟨jb (by simp [or4,or2,hx0]),rfl⟩
  ·have hx0:=hx (by omega);clear hx hy hz hu;subst hx0;by_cases hy0:y=0
   ·subst hy0;go_wp2;go_round
    case rel=>exact⟨2,by omega,by go_num,by simp,by simp,by omega,by omega⟩
    case measure=>simp [intOf]
   ·go_wp2;go_ret;exact⟨jb (by simp [or4,or2,hy0]),rfl⟩
  ·have hx0:=hx (by omega);have hy0:=hy (by omega);clear hx hy hz hu;subst hx0 hy0;by_cases hz0:z=0
   ·subst hz0;go_wp2;go_round
    case rel=>exact⟨3,by omega,by go_num,by simp,by simp,by simp,by omega⟩
    case measure=>simp [intOf]
   ·go_wp2;go_ret;exact⟨jb (by simp [or4,or2,hz0]),rfl⟩
  ·have hx0:=hx (by omega);have hy0:=hy (by omega);have hz0:=hz (by omega);clear hx hy hz hu;subst hx0 hy0 hz0;by_cases hu0:u=0
   ·subst hu0;go_wp2;go_round
    case rel=>exact⟨4,by omega,by go_num,by simp,by simp,by simp,by simp⟩
    case measure=>simp [intOf]
   ·go_wp2;go_ret;exact⟨jb (by simp [or4,or2]),rfl⟩
  ·have hx0:=hx (by omega);have hy0:=hy (by omega);have hz0:=hz (by omega);have hu0:=hu (by omega);clear hx hy hz hu;subst hx0 hy0 hz0 hu0;go_wp2;go_ret;exact⟨jb (by simp [or4,or2]),rfl⟩
theorem zbH(x y:Nd)(w:World):
 Calls Tryz.prog 161 #[ndV x,ndV y] w λe w'=>e = .returned (.int .i64 (NH x y))/\Below w.heap.size w w':=by
 unfold ndV;go_enter Tryz.func161,Tryz.ntmps161;go_wp2;refine T9 20 (by kernel_rfl) (by kernel_rfl) ?_;simp only [List.take_succ_cons,List.take_zero,List.drop_succ_cons,List.drop_zero]
 iterate 4 still_step
 still_call (cmp_Compare_int _ _ _)
 iterate 4 still_step
 still_call (cmp_Compare_int _ _ _)
 iterate 4 still_step
 still_call (strings_Compare _ _ _)
 iterate 4 still_step
 still_call (strings_Compare _ _ _);refine wpStill_nil ?_;go_wp2_with (go_at_call 177;refine(ze2 (Gl x.op y.op) (Gl x.n y.n) (jh x.s y.s) (jh x.t y.t) _ _ (by go_simp) (by go_simp) (by go_simp) (by go_simp)).mono ?_;rintro e w' ⟨rfl,rfl⟩);go_ret;exact⟨rfl,((((Below.refl _ _).alloc (Nat.le_refl _) _).alloc (by simp) _).alloc (by simp;omega) _).drew⟩
theorem IR{P Q:List Nd}{k:Nat}(h1:k<P.length)(h2:k<Q.length):zu (P.drop k) (Q.drop k)=or2 (NH P[k] Q[k]) (zu (P.drop (k+1)) (Q.drop (k+1))):=by
 rw [List.drop_eq_getElem_cons h1,List.drop_eq_getElem_cons h2];rfl
theorem Np{P Q:List Nd}{k:Nat}(h1:P.length<=k)(h2:k<Q.length):zu (P.drop k) (Q.drop k)= -1:=by
 rw [List.drop_of_length_le h1,List.drop_eq_getElem_cons h2];rfl
theorem NR{P Q:List Nd}{k:Nat}(h1:k<P.length)(h2:Q.length<=k):zu (P.drop k) (Q.drop k)=1:=by
 rw [List.drop_of_length_le h2,List.drop_eq_getElem_cons h1];rfl
theorem Gv{P Q:List Nd}{k:Nat}(h1:P.length<=k)(h2:Q.length<=k):zu (P.drop k) (Q.drop k)=0:=by
 rw [List.drop_of_length_le h1,List.drop_of_length_le h2];rfl
theorem Su(A B:Option Addr)(n m c d:Nat)(P Q:List Nd)(w:World)(hn:n=P.length)(hm:m=Q.length)(hln:n<=maxLen)(_hlm:m<=maxLen)(hP:jt w A P)(hQ:jt w B Q):
 Calls Tryz.prog 160 #[.slice A n c,.slice B m d,.func (.func 161) #[] #[]] w λe w'=>e = .returned (.int .i64 (zu P Q))/\Below w.heap.size w w':=by
 unfold maxLen at hln _hlm;have HP:=O hP;have HQ:=O hQ;have HN:=O hn;have HM:=O hm;clear hP hQ hn hm;go_enter Tryz.func160,Tryz.ntmps160;go_wp2;go_loopw [7,8,9,10,13] (λ_ _ _ _ i wr=>∃k:Nat,k<=n/\k<=m/\i = .int .i64 k/\Hid (zu P Q=zu (P.drop k) (Q.drop k))/\Below w.heap.size w wr) (λ_ _ _ _ i _=>n-(intOf i).toNat)
 case atStart=>exact⟨0,Nat.zero_le _,Nat.zero_le _,rfl,rfl,Below.refl _ _⟩
 case round =>
  obtain⟨k,hkn,hkm,rfl,hc,yj⟩:=hrel;obtain⟨wo,rfl⟩:∃wo:World,wo=wr:=⟨_,rfl⟩
  by_cases h1:k<n
  ·have XC:k<P.length:=by rw [<-HN.o];exact h1
   obtain⟨a,rfl,a1,a2,a3,a4⟩:=(HP.o.keep yj) k P[k] (List.getElem?_eq_getElem XC);by_cases h2:k<m
   ·have h2':k<Q.length:=by rw [<-HM.o];exact h2
    obtain⟨b,rfl,b1,b2,b3,b4⟩:=(HQ.o.keep yj) k Q[k] (List.getElem?_eq_getElem h2');have HA:=O (hc.o.trans (IR XC h2'));have g:∀(o:Obj) (x:Addr) (v:Value),wo.cell? x=some v->(wo.alloc o).cell? x=some v:=λo x v h=>za ((Below.refl _ _).alloc (Nat.le_refl _) o) h;replace b1:=λo=>g o _ _ b1;replace b2:=λo=>g o _ _ b2;replace b3:=λo=>g o _ _ b3;replace b4:=λo=>g o _ _ b4;clear hc g;go_wp2_with fail;refine(zbH P[k] Q[k] _).mono ?_;rintro e w1 ⟨rfl,hb1⟩;have hbw:=O ((yj.alloc (by have:=yj.size;omega) _).alloc (by have:=yj.size;simp;omega) _ |>.trans (hb1.mono (by have:=yj.size;simp;omega)));clear hb1 b1 b2 b3 b4 a1 a2 a3 a4;by_cases h0:NH P[k] Q[k]=0
    ·have HC:=O (HA.o.trans (by rw [h0];rfl:_=zu (P.drop (k+1)) (Q.drop (k+1))));rw [h0];clear h0 HA;go_wp2;go_roundw
     case rel=>exact⟨k+1,by omega,by omega,by go_num,HC,hbw.o⟩
     case measure=>simp [intOf];omega
    ·have HC:=O (HA.o.trans (jw h0 _));have h0':(NH P[k] Q[k]==0)=false:=beq_eq_false_iff_ne.2 h0;clear HA;go_wp2;go_ret;exact⟨jb HC.o.symm,hbw.o⟩
   ·have HA:=O (hc.o.trans (NR XC (by rw [<-HM.o];omega)));clear hc;go_wp2;go_ret;exact⟨jb HA.o.symm,yj.alloc (by have:=yj.size;omega) _⟩
  ·obtain rfl:k=n:=by omega
   by_cases h2:k<m
   ·have HA:=O (hc.o.trans (Np (by rw [<-HN.o];omega) (by rw [<-HM.o];exact h2)));clear hc;go_wp2;go_ret;exact⟨jb HA.o.symm,yj⟩
   ·have HA:=O (hc.o.trans (Gv (by rw [<-HN.o];omega) (by rw [<-HM.o];omega)));clear hc;go_wp2;go_ret;exact⟨jb HA.o.symm,yj⟩
theorem zgF(A B:Option Addr)(n m c d:Nat)(P Q:List Nd)(w:World)(hn:n=P.length)(hm:m=Q.length)(hln:n<=maxLen)(hlm:m<=maxLen)(hP:jt w A P)(hQ:jt w B Q):
 Calls Tryz.prog 136 #[.slice A n c,.slice B m d] w λe w'=>e = .returned (.int .i64 (zu P Q))/\Below w.heap.size w w':=by
 have H:=Su A B n m c d P Q w hn hm hln hlm hP hQ;clear hn hm hP hQ;go_enter Tryz.func136,Tryz.ntmps136;go_wp2_with fail;refine H.mono ?_;rintro e w1 ⟨rfl,hb1⟩;go_wp2;go_ret;exact⟨rfl,hb1⟩
theorem NQ(n:Int)(w:World)(h0:0<=n)(h1:n<=255):Calls Tryz.prog 130 #[.int .u8 n] w λe w'=>e = .returned (.bool (J8 n))/\w=w':=by
 go_enter Tryz.func130,Tryz.ntmps130;go_wp2
 all_goals (go_ret;exact⟨zn (by unfold J8;rw [Bool.eq_iff_iff];simp;omega),rfl⟩)
theorem zc3(n:Int)(w:World)(h0:0<=n)(h1:n<=255):Calls Tryz.prog 131 #[.int .u8 n] w λe w'=>e = .returned (.bool (Qr n))/\w=w':=by
 go_enter Tryz.func131,Tryz.ntmps131;go_wp2
 all_goals (go_ret;exact⟨zn (by unfold Qr;rw [Bool.eq_iff_iff];simp;omega),rfl⟩)
theorem Om(s:ByteArray)(w:World):∃(c:Nat) (w1:World),(convert 9 196 (.string s)).run Tryz.prog w = .ok (.slice (some ⟨w.heap.size,0,none⟩) s.size c) w1/\Below w.heap.size w w1/\
 ∀(k:Nat) (h:k<s.size),w1.cell? ⟨w.heap.size,k,none⟩=some (.int .u8 (s[k].toNat:Int)):=by
 have h:=run_bytes_of_string (P:=Tryz.prog) w 9 196 5 s Tryz.underlying9 Tryz.underlying196 Tryz.underlying5;refine⟨_,_,h,((Below.refl _ _).drew).alloc (by simp) _,λk hk=>?_⟩;have e:w.heap.size=w.drew.heap.size:=rfl;rw [e,World.cell?_alloc_mark,bytesRow_at s _ k hk];rfl
theorem SB(s:ByteArray)(w:World)(h:60<s.size)(hs:s.size<=maxLen):Calls Tryz.prog 114 #[.string s] w λe w'=>e = .returned (fa (zt s))/\Below w.heap.size w w':=by
 have H:=O (show zt s=4 by unfold zt;rw [if_pos h]);unfold maxLen at hs;go_enter Tryz.func114,Tryz.ntmps114;go_wp2;go_ret;exact⟨by rw [H.o];rfl,Below.refl _ _⟩
theorem Rm(s:ByteArray)(w:World)(hs:s.size<=60):Calls Tryz.prog 114 #[.string s] w λe w'=>e = .returned (fa (zt s))/\Below w.heap.size w w':=by
 have H:=O (show zt s=if s.data.toList.all CU then 0 else 1 by unfold zt;rw [if_neg (by omega)]);obtain⟨c,w1,hrun,hb,hcell⟩:=Om s w;have HC:=O hcell;clear hcell;go_enter Tryz.func114,Tryz.ntmps114;go_wp2;clear hrun;go_loop [2,4,12] (λr _ i=>∃k:Nat,k<=s.size/\i = .int .i64 k/\r = .nilIface/\Hid ((s.data.toList.take k).all CU=true)) (λ_ _ i=>s.size-(intOf i).toNat)
 case atStart=>exact⟨0,Nat.zero_le _,rfl,rfl,by simp [Hid]⟩
 case round =>
  obtain⟨k,hk,rfl,rfl,hall⟩:=hrel;by_cases hlt:k<s.size
  ·have hc:=HC.o k hlt;by_cases hp:32<=(s[k].toNat:Int)/\(s[k].toNat:Int)<=126
   ·have H2:=O (show(s.data.toList.take (k+1)).all CU=true by
     rw [TS s CU hlt,hall.o,Bool.true_and];unfold CU zbG;simp;omega)
    obtain⟨Nn,QM⟩:=hp;go_wp2;go_round
    case rel=>exact⟨k+1,by omega,by go_num,rfl,H2⟩
    case measure=>simp [intOf];omega
   ·have H2:=O (show s.data.toList.all CU=false from QC hlt (by unfold CU zbG;rw [Bool.eq_false_iff];simp;omega));by_cases hq:(s[k].toNat:Int)<32
    ·clear hp;go_wp2;go_ret;exact⟨by rw [H.o,H2.o];rfl,hb⟩
    ·have hq2:126<(s[k].toNat:Int):=by omega
     clear hp;go_wp2;go_ret;exact⟨by rw [H.o,H2.o];rfl,hb⟩
  ·have H2:=O (show s.data.toList.all CU=true from(Yq (k:=k) (by omega)).symm.trans hall.o);clear hall;go_wp2;go_ret;exact⟨by rw [H.o,H2.o];rfl,hb⟩
theorem IL(s:ByteArray)(w:World)(hs:s.size<=maxLen):Calls Tryz.prog 114 #[.string s] w λe w'=>e = .returned (fa (zt s))/\Below w.heap.size w w':=by
 by_cases h:60<s.size
 ·exact SB s w h hs
 ·exact Rm s w (by omega)
theorem Rb(s:ByteArray)(w:World)(h:s.size=0):Calls Tryz.prog 89 #[.string s] w λe w'=>e = .returned (fa (zh s))/\Below w.heap.size w w':=by
 have H:=O (show zh s=1 by unfold zh;rw [Mw h];rfl);have h1:s=⟨#[]⟩:=ql (List.eq_nil_of_length_eq_zero (by rw [Array.length_toList];exact h));clear h;subst h1;go_enter Tryz.func89,Tryz.ntmps89;go_wp2;go_ret;exact⟨by rw [H.o];rfl,Below.refl _ _⟩
theorem Gu{s:ByteArray}(h:0<s.size):s.toList = []↔False:=by
 rw [ByteArray.toList_eq];constructor
 ·intro h';have:s.data.toList.length=0:=by rw [h'];rfl
  rw [Array.length_toList] at this;exact absurd (show s.size=0 from this) (by omega)
 ·exact False.elim
theorem Rr(s:ByteArray)(w:World)(h:0<s.size)(hl:J8 (s[0].toNat:Int)=false):Calls Tryz.prog 89 #[.string s] w λe w'=>e = .returned (fa (zh s))/\Below w.heap.size w w':=by
 have H:=O (show zh s=1 by unfold zh;rw [MM h hl];rfl);have he:s.toList.isEmpty=false:=by rw [List.isEmpty_eq_false_iff];exact λq=>(Gu h).1 q
 have he2:¬s.toList = []:=λq=>(Gu h).1 q;have C1:=O (λw=>NQ (s[0].toNat:Int) w (by omega) (by have:=s[0].toNat_lt;omega));rw [hl] at C1;clear hl;go_enter Tryz.func89,Tryz.ntmps89;go_wp2_with (go_at_call 130;refine(C1.o _).mono ?_;rintro e w' ⟨rfl,rfl⟩);go_ret;exact⟨by rw [H.o];rfl,Below.refl _ _⟩
theorem SC(s:ByteArray)(w:World)(h:0<s.size)(hs:s.size<=maxLen)(hl:J8 (s[0].toNat:Int)=true):Calls Tryz.prog 89 #[.string s] w λe w'=>e = .returned (fa (zh s))/\Below w.heap.size w w':=by
 have H:=O (show zh s=if s.data.toList.all IK then(if 20<s.size then 4 else 0) else 1 by unfold zh;rw [Uz h hl]);have he:s.toList.isEmpty=false:=by rw [List.isEmpty_eq_false_iff];exact λq=>(Gu h).1 q
 have he2:¬s.toList = []:=λq=>(Gu h).1 q;have C1:=O (λw=>NQ (s[0].toNat:Int) w (by omega) (by have:=s[0].toNat_lt;omega));rw [hl] at C1;clear hl;unfold maxLen at hs;obtain⟨c,w1,hrun,hb,hcell⟩:=Om s w;have HC:=O hcell;clear hcell;go_enter Tryz.func89,Tryz.ntmps89;go_wp2_with (go_at_call 130;refine(C1.o _).mono ?_;rintro e w' ⟨rfl,rfl⟩);clear hrun C1;go_loop [2,4,17] (λr _ i=>∃k:Nat,k<=s.size/\i = .int .i64 k/\r = .nilIface/\Hid ((s.data.toList.take k).all IK=true)) (λ_ _ i=>s.size-(intOf i).toNat)
 case atStart=>exact⟨0,Nat.zero_le _,rfl,rfl,by simp [Hid]⟩
 case round =>
  obtain⟨k,hk,rfl,rfl,hall⟩:=hrel;by_cases hlt:k<s.size
  ·have hc:=HC.o k hlt;have C1:=O (λw=>NQ (s[k].toNat:Int) w (by omega) (by have:=s[k].toNat_lt;omega));have C2:=O (λw=>zc3 (s[k].toNat:Int) w (by omega) (by have:=s[k].toNat_lt;omega));have hst:IK s[k]=(J8 (s[k].toNat:Int)|| Qr (s[k].toNat:Int)):=rfl;have G1:=O (λq:IK s[k]=true=>(show(s.data.toList.take (k+1)).all IK=true by rw [TS s IK hlt,hall.o,Bool.true_and,q]));have G2:=O (λq:IK s[k]=false=>(QC hlt q:s.data.toList.all IK=false));rw [hst] at G1 G2;clear hst hall;rcases hx:J8 (s[k].toNat:Int) with _|_ <;> rcases hy:Qr (s[k].toNat:Int) with _|_ <;> rw [hx] at C1 G1 G2 <;> rw [hy] at C2 G1 G2 <;> clear hx hy
   all_goals go_wp2_with (first|(go_at_call 130;refine(C1.o _).mono ?_;rintro e w' ⟨rfl,rfl⟩)|(go_at_call 131;refine(C2.o _).mono ?_;rintro e w' ⟨rfl,rfl⟩))
   ·go_ret;exact⟨by rw [H.o,G2.o rfl];rfl,hb⟩
   all_goals
    go_round
    case rel=>exact⟨k+1,by omega,by go_num,rfl,G1.o rfl⟩
    case measure=>simp [intOf];omega
  ·have H2:=O (show s.data.toList.all IK=true from(Yq (k:=k) (by omega)).symm.trans hall.o);clear hall;by_cases h20:20<s.size
   ·have H3:=O (show zh s=4 by rw [H.o,H2.o,if_pos rfl,if_pos h20]);clear H H2;go_wp2;go_ret;exact⟨by rw [H3.o];rfl,hb⟩
   ·have H3:=O (show zh s=0 by rw [H.o,H2.o,if_pos rfl,if_neg h20]);clear H H2;go_wp2;go_ret;exact⟨by rw [H3.o];rfl,hb⟩
theorem Gj(s:ByteArray)(w:World)(hs:s.size<=maxLen):Calls Tryz.prog 89 #[.string s] w λe w'=>e = .returned (fa (zh s))/\Below w.heap.size w w':=by
 by_cases h:s.size=0
 ·exact Rb s w h
 ·rcases hl:J8 ((s[0]'(by omega)).toNat:Int) with _|_
  ·exact Rr s w (by omega) hl
  ·exact SC s w (by omega) hs hl
theorem zJ(s:ByteArray):s=⟨#[]⟩\/(s.toList.isEmpty=false/\(¬s.toList = [])/\noB s=false):=by
 by_cases h:0<s.size
 ·exact .inr ⟨by rw [List.isEmpty_eq_false_iff];exact λq=>(Gu h).1 q,λq=>(Gu h).1 q,by unfold noB;rw [decide_eq_false_iff_not];omega⟩
 ·exact .inl (ql (List.eq_nil_of_length_eq_zero (by rw [Array.length_toList];exact(by omega:s.size=0))))
theorem jH:noB ⟨#[]⟩=true:=rfl
theorem zx{w w1:World}{o:Obj}(h:Below (w.alloc o).heap.size (w.alloc o) w1):Below w.heap.size w w1:=(zb w o).trans (h.mono (by simp))
theorem zb8(n:Int)(s t:ByteArray)(w:World):
 Calls Tryz.prog 135 #[.agg #[.int .i64 1,.int .i64 n,.string s,.string t]] w λe w'=>e = .returned (.bool ((decide (n=0)|| decide (n=1))&& noB s && noB t))/\Below w.heap.size w w':=by
 by_cases h0:n=0
 ·subst h0;rcases zJ s with rfl|⟨s1,s2,s3⟩<;> rcases zJ t with rfl|⟨t1,t2,t3⟩
  all_goals
   go_enter Tryz.func135,Tryz.ntmps135;go_wp2;go_ret;exact⟨zn (by simp [*,jH]),zb _ _⟩
 ·by_cases h1:n=1
  ·subst h1;clear h0;rcases zJ s with rfl|⟨s1,s2,s3⟩<;> rcases zJ t with rfl|⟨t1,t2,t3⟩
   all_goals
    go_enter Tryz.func135,Tryz.ntmps135;go_wp2;go_ret;exact⟨zn (by simp [*,jH]),zb _ _⟩
  ·have e0:(n==0)=false:=beq_eq_false_iff_ne.2 h0;have e1:(n==1)=false:=beq_eq_false_iff_ne.2 h1;go_enter Tryz.func135,Tryz.ntmps135;go_wp2;go_ret;exact⟨zn (by simp [h0,h1]),zb _ _⟩
theorem zcL(n:Int)(s t:ByteArray)(w:World):
 Calls Tryz.prog 135 #[.agg #[.int .i64 2,.int .i64 n,.string s,.string t]] w λe w'=>e = .returned (.bool (noB s && noB t))/\Below w.heap.size w w':=by
 rcases zJ s with rfl|⟨s1,s2,s3⟩<;> rcases zJ t with rfl|⟨t1,t2,t3⟩
 all_goals
  go_enter Tryz.func135,Tryz.ntmps135;go_wp2;go_ret;exact⟨zn (by simp [*,jH]),zb _ _⟩
theorem Ts{w w1:World}{o:Obj}(hb:Below (w.alloc o).heap.size (w.alloc o) w1)(k:Nat)(v:Value)(h:(w.alloc o).cell? ⟨w.heap.size,k,none⟩=some v):w1.cell? ⟨w.heap.size,k,none⟩=some v :=
 (hb.cell (by simp)).trans h
theorem zaB(n:Int)(s t:ByteArray)(w:World)(hs:s.size<=maxLen):
 Calls Tryz.prog 135 #[.agg #[.int .i64 3,.int .i64 n,.string s,.string t]] w λe w'=>e = .returned (.bool (decide (n=0)&& noB t && decide (zt s=0)))/\Below w.heap.size w w':=by
 have P:=O (λw=>IL s w hs);by_cases h0:n=0
 ·subst h0;rcases zJ t with rfl|⟨t1,t2,t3⟩
  ·by_cases h1:zt s=0
   ·rw [h1,zm] at P;go_enter Tryz.func135,Tryz.ntmps135;go_wp2_with fail;refine(P.o _).mono ?_;rintro e w1 ⟨rfl,hb⟩;go_wp2;go_ret;exact⟨zn (by simp [h1,jH]),zx hb⟩
   ·rw [zy h1] at P;go_enter Tryz.func135,Tryz.ntmps135;go_wp2_with fail;refine(P.o _).mono ?_;rintro e w1 ⟨rfl,hb⟩;go_wp2;go_ret;exact⟨zn (by simp [h1]),zx hb⟩
  ·go_enter Tryz.func135,Tryz.ntmps135;go_wp2;go_ret;exact⟨zn (by simp [t3]),zb _ _⟩
 ·have e0:(n==0)=false:=beq_eq_false_iff_ne.2 h0;go_enter Tryz.func135,Tryz.ntmps135;go_wp2;go_ret;exact⟨zn (by simp [h0]),zb _ _⟩
theorem YP(n:Int)(s t:ByteArray)(w:World)(hs:s.size<=maxLen):
 Calls Tryz.prog 135 #[.agg #[.int .i64 7,.int .i64 n,.string s,.string t]] w λe w'=>e = .returned (.bool (decide (n=0)&& noB t && decide (zh s=0)))/\Below w.heap.size w w':=by
 have P:=O (λw=>Gj s w hs);by_cases h0:n=0
 ·subst h0;rcases zJ t with rfl|⟨t1,t2,t3⟩
  ·by_cases h1:zh s=0
   ·rw [h1,zm] at P;go_enter Tryz.func135,Tryz.ntmps135;go_wp2_with fail;refine(P.o _).mono ?_;rintro e w1 ⟨rfl,hb⟩;go_wp2;go_ret;exact⟨zn (by simp [h1,jH]),zx hb⟩
   ·rw [zy h1] at P;go_enter Tryz.func135,Tryz.ntmps135;go_wp2_with fail;refine(P.o _).mono ?_;rintro e w1 ⟨rfl,hb⟩;go_wp2;go_ret;exact⟨zn (by simp [h1]),zx hb⟩
  ·go_enter Tryz.func135,Tryz.ntmps135;go_wp2;go_ret;exact⟨zn (by simp [t3]),zb _ _⟩
 ·have e0:(n==0)=false:=beq_eq_false_iff_ne.2 h0;go_enter Tryz.func135,Tryz.ntmps135;go_wp2;go_ret;exact⟨zn (by simp [h0]),zb _ _⟩
theorem zdv(n:Int)(s t:ByteArray)(w:World)(hs:s.size<=maxLen)(ht:t.size<=maxLen):
 Calls Tryz.prog 135 #[.agg #[.int .i64 4,.int .i64 n,.string s,.string t]] w λe w'=>e = .returned (.bool (decide (n=0)&& decide (zh s=0)&& decide (zt t=0)))/\Below w.heap.size w w':=by
 have P:=O (λw=>Gj s w hs);have T:=O (λw=>IL t w ht);by_cases h0:n=0
 ·subst h0;by_cases h1:zh s=0
  ·rw [h1,zm] at P;by_cases h2:zt t=0
   ·rw [h2,zm] at T;go_enter Tryz.func135,Tryz.ntmps135;go_wp2_with fail;refine(P.o _).mono ?_;rintro e w1 ⟨rfl,hb⟩;have c3:=Ts hb 3 (.string t) (by simp);have HB:=O (zx hb);clear hb;go_wp2_with fail;refine(T.o _).mono ?_;rintro e w2 ⟨rfl,hb2⟩;go_wp2;go_ret;exact⟨zn (by simp [h1,h2]),HB.o.trans (hb2.mono HB.o.size)⟩
   ·rw [zy h2] at T;go_enter Tryz.func135,Tryz.ntmps135;go_wp2_with fail;refine(P.o _).mono ?_;rintro e w1 ⟨rfl,hb⟩;have c3:=Ts hb 3 (.string t) (by simp);have HB:=O (zx hb);clear hb;go_wp2_with fail;refine(T.o _).mono ?_;rintro e w2 ⟨rfl,hb2⟩;go_wp2;go_ret;exact⟨zn (by simp [h1,h2]),HB.o.trans (hb2.mono HB.o.size)⟩
  ·rw [zy h1] at P;go_enter Tryz.func135,Tryz.ntmps135;go_wp2_with fail;refine(P.o _).mono ?_;rintro e w1 ⟨rfl,hb⟩;go_wp2;go_ret;exact⟨zn (by simp [h1]),zx hb⟩
 ·have e0:(n==0)=false:=beq_eq_false_iff_ne.2 h0;go_enter Tryz.func135,Tryz.ntmps135;go_wp2;go_ret;exact⟨zn (by simp [h0]),zb _ _⟩
theorem zbr(o n:Int)(s t:ByteArray)(w:World)(ho:o=5\/o=6):
 Calls Tryz.prog 135 #[.agg #[.int .i64 o,.int .i64 n,.string s,.string t]] w λe w'=>e = .returned (.bool (decide (0<=n)&& noB s && noB t))/\Below w.heap.size w w':=by
 by_cases h0:0<=n
 ·rcases ho with rfl|rfl <;> rcases zJ s with rfl|⟨s1,s2,s3⟩<;> rcases zJ t with rfl|⟨t1,t2,t3⟩
  all_goals
   go_enter Tryz.func135,Tryz.ntmps135;go_wp2;go_ret;exact⟨zn (by simp [*,jH]),zb _ _⟩
 ·rcases ho with rfl|rfl
  all_goals
   go_enter Tryz.func135,Tryz.ntmps135;go_wp2;go_ret;exact⟨zn (by rw [decide_eq_false (by omega)];rfl),zb _ _⟩
theorem YZ(o n:Int)(s t:ByteArray)(w:World)(h1:(o==1)=false)(h2:(o==2)=false)(h3:(o==3)=false)(h4:(o==4)=false)(h5:(o==5)=false)(h6:(o==6)=false)(h7:(o==7)=false):
 Calls Tryz.prog 135 #[.agg #[.int .i64 o,.int .i64 n,.string s,.string t]] w λe w'=>e = .returned (.bool false)/\Below w.heap.size w w':=by
 go_enter Tryz.func135,Tryz.ntmps135;go_wp2;go_ret;exact⟨rfl,zb _ _⟩
theorem IY(x:Nd)(w:World)(hs:x.s.size<=maxLen)(ht:x.t.size<=maxLen):
 Calls Tryz.prog 135 #[ndV x] w λe w'=>e = .returned (.bool (zq x))/\Below w.heap.size w w':=by
 obtain⟨o,n,s,t⟩:=x;unfold ndV zq;simp only at hs ht ⊢;by_cases h1:o=1
 ·subst h1;rw [if_pos rfl];exact zb8 n s t w
 rw [if_neg h1];by_cases h2:o=2
 ·subst h2;rw [if_pos rfl];exact zcL n s t w
 rw [if_neg h2];by_cases h3:o=3
 ·subst h3;rw [if_pos rfl];exact zaB n s t w hs
 rw [if_neg h3];by_cases h4:o=4
 ·subst h4;rw [if_pos rfl];exact zdv n s t w hs ht
 rw [if_neg h4];by_cases h5:o=5\/o=6
 ·rw [if_pos h5];exact zbr o n s t w h5
 rw [if_neg h5];by_cases h7:o=7
 ·subst h7;rw [if_pos rfl];exact YP n s t w hs
 rw [if_neg h7];exact YZ o n s t w (beq_eq_false_iff_ne.2 h1) (beq_eq_false_iff_ne.2 h2) (beq_eq_false_iff_ne.2 h3) (beq_eq_false_iff_ne.2 h4) (beq_eq_false_iff_ne.2 λq=>h5 (.inl q)) (beq_eq_false_iff_ne.2 λq=>h5 (.inr q)) (beq_eq_false_iff_ne.2 h7)
end Go.Proofs.YtokiogmfgpidmaaGreatDoor
namespace Go.Proofs.YtokiogmfgpidmaaGreatDoor
open Go.RowKit Go.Wk Go.Sort
theorem add_add(a:Addr)(x y:Nat):(a.add x).add y=a.add (x+y):=by
 unfold Addr.add;by_cases hx:x=0 <;> by_cases hy:y=0 <;> simp [hx,hy,Nat.add_assoc]
theorem vW(a:Addr)(x:Nat):(a.add x).block=a.block:=by unfold Addr.add;split <;> rfl
theorem zd1(w:World)(r:Option Nat):w.grownBy w r:=⟨rfl,rfl,rfl,Nat.le_refl _,λ_ _ _=>rfl⟩
theorem z8{a b c:World}{r:Option Nat}(h:a.grownBy b r)(k:b.grownBy c r):a.grownBy c r :=
 ⟨k.os.trans h.os,k.tape.trans h.tape,k.output.trans h.output,Nat.le_trans h.size k.size,λi hi hn=>(k.block i (Nat.lt_of_lt_of_le hi h.size) hn).trans (h.block i hi hn)⟩
theorem jt.but{w w':World}{A:Option Addr}{P:List Nd}{R:Nat}(h:jt w A P)(hg:w.grownBy w' (some R))(hR:∀a,A=some a->a.block≠R):jt w' A P:=by
 intro k x hx;obtain⟨a,h1,h2,h3,h4,h5⟩:=h k x hx;have hn:some a.block≠some R:=λe=>hR a h1 (by injection e);have hb:=vW a (k*4);exact⟨a,h1,hg.cell h2 (by rw [hb];exact hn),hg.cell h3 (by rw [hb];exact hn),hg.cell h4 (by rw [hb];exact hn),hg.cell h5 (by rw [hb];exact hn)⟩
theorem jt.seg{w:World}{a:Addr}{P:List Nd}(h:jt w (some a) P)(i j:Nat):jt w (some (a.add (i*4))) (seg P i j):=by
 intro k x hx;have hx':P[i+k]?=some x:=by
  unfold Wk.seg at hx;rw [List.getElem?_take] at hx;split at hx
  ·rw [List.getElem?_drop] at hx;exact hx
  ·cases hx
 obtain⟨b,h1,h2,h3,h4,h5⟩:=h (i+k) x hx';injection h1 with h1;subst h1;have e:(a.add (i*4)).add (k*4)=a.add ((i+k)*4):=by rw [add_add,Nat.add_mul]
 exact⟨_,rfl,by rw [e];exact h2,by rw [e];exact h3,by rw [e];exact h4,by rw [e];exact h5⟩
structure Kb(x:Nd):Prop where
 s:x.s.size<=maxLen
 t:x.t.size<=maxLen
 lo : -9223372036854775808<=x.n
 hi:x.n<=9223372036854775807
def gh(P:List Nd):Prop:=∀x∈P,Kb x
theorem gh.at{P:List Nd}(h:gh P){k:Nat}(hk:k<P.length):Kb P[k]:=h _ (List.getElem_mem hk)
structure Gz(w:World)(R:Nat)(v:Value)(p:Nat):Prop where
 c0:w.cell? ⟨R,0,none⟩=some v
 c1:w.cell? ⟨R,1,none⟩=some (.int .i64 p)
 f1:w.frozen? ⟨R,1,none⟩=false
theorem Gz.keep{w w':World}{R p:Nat}{v:Value}(h:Gz w R v p)(hb:Below w.heap.size w w'):Gz w' R v p :=
 ⟨za hb h.c0,za hb h.c1,(hb.frozen (p:=⟨R,1,none⟩) (block_lt_of_cell h.c1)).trans h.f1⟩
theorem Gz.lt{w:World}{R p:Nat}{v:Value}(h:Gz w R v p):R<w.heap.size:=block_lt_of_cell h.c0
theorem Gz.put{w:World}{R p:Nat}{v:Value}(h:Gz w R v p)(q:Nat):Gz (w.setCell ⟨R,1,none⟩ (.int .i64 q)) R v q:=by
 refine⟨?_,?_,?_⟩
 ·exact(World.cell?_setCell_other _ _ _ _ (by simp)).trans h.c0
 ·exact World.cell?_setCell_same _ _ _ h.c1
 ·rw [World.frozen?_setCell];exact h.f1
abbrev znA:List PanicEntry := [{ v := .iface 151 (.agg #[]),recovered:=false }]
def Kw(R:Nat)(A:Option Addr)(n c p:Nat)(w:World):Option Nat->Ending->World->Prop
 | some e,x,w'=>x = .returned (.slice (A.map λa=>a.add (p*4)) (e-p) (c-p))/\Gz w' R (.slice A n c) e/\w.grownBy w' (some R)
 | none,x,w'=>x = .panicked znA/\w.grownBy w' (some R)
theorem zjl(A:Option Addr)(n c p R:Nat)(w:World)(hr:Gz w R (.slice A n c) p)(hp:n<=p):
 Calls Tryz.prog 94 #[.pointer (some ⟨R,0,none⟩)] w (Kw R A n c p w none):=by
 obtain⟨c0,c1,f1⟩:=hr;go_enter Tryz.func94,Tryz.ntmps94;go_wp2_with fail;exact⟨rfl,rfl,zd1 _ _⟩
theorem zhP(a:Addr)(P:List Nd)(n c p R:Nat)(w:World)(hr:Gz w R (.slice (some a) n c) p)(hn:n=P.length)(hp:p<n)(hP:jt w (some a) P)(hO:gh P)(hs:zq (P[p]'(by omega))=false):
 Calls Tryz.prog 94 #[.pointer (some ⟨R,0,none⟩)] w (Kw R (some a) n c p w none):=by
 obtain⟨c0,c1,f1⟩:=hr;have Iy:p<P.length:=by omega
 obtain⟨b,hb0,q1,q2,q3,q4⟩:=hP p P[p] (List.getElem?_eq_getElem Iy);injection hb0 with hb0;subst hb0;have S:=O (λw=>IY P[p] w (hO.at Iy).s (hO.at Iy).t);rw [hs] at S;unfold ndV at S;generalize P[p]=x at *;clear hO hP hn;go_enter Tryz.func94,Tryz.ntmps94;go_wp2_with fail;refine(S.o _).mono ?_;rintro e w1 ⟨rfl,hb⟩;go_wp2_with fail;exact⟨rfl,rfl,zA hb _⟩
theorem Gz.drewN{w:World}{R p:Nat}{v:Value}(h:Gz w R v p)(k:Nat):Gz (w.drewN k) R v p:=⟨h.c0,h.c1,h.f1⟩
theorem Lh{w w1:World}{r:Option Nat}(h:w.grownBy w1 r)(k:Nat):w.grownBy (w1.drewN k) r:=⟨h.os,h.tape,h.output,h.size,h.block⟩
theorem ZT{w w1:World}{r:Option Nat}(h:w.grownBy w1 r)(o:Obj):w.grownBy (w1.alloc o) r:=z8 h (zA ((Below.refl _ _).alloc (Nat.le_refl _) o) _)
theorem Tb{w w1:World}{A:Option Addr}{R n c p:Nat}(hr:Gz w R (.slice A n c) p)(hb:Below w.heap.size w w1)(o:Obj):
 Gz ((w1.setCell ⟨R,1,none⟩ (.int .i64 ((p:Int)+1))).alloc o) R (.slice A n c) (p+1)/\w.grownBy ((w1.setCell ⟨R,1,none⟩ (.int .i64 ((p:Int)+1))).alloc o) (some R):=by
 have h1:=((hr.keep hb).put (p+1)).keep ((Below.refl _ _).alloc (Nat.le_refl _) o);exact⟨h1,ZT (z8 (zA hb _) (zr _ ⟨R,1,none⟩ _)) o⟩
theorem zfy(a:Addr)(P:List Nd)(n c p R:Nat)(w:World)(hr:Gz w R (.slice (some a) n c) p)(hn:n=P.length)(hc:n<=c)(hm:n<=maxLen)(hp:p<n)(hP:jt w (some a) P)(hO:gh P)(hs:zq (P[p]'(by omega))=true)
 (h5:((P[p]'(by omega)).op==5)=false) (h6:((P[p]'(by omega)).op==6)=false) (h7:((P[p]'(by omega)).op==7)=false):
 Calls Tryz.prog 94 #[.pointer (some ⟨R,0,none⟩)] w (Kw R (some a) n c p w (some (p+1))):=by
 unfold maxLen at hm;have HR:=O hr;have HS:=O (λw1 (hb:Below w.heap.size w w1) o=>Tb hr hb o);obtain⟨c0,c1,f1⟩:=hr;have Iy:p<P.length:=by omega
 obtain⟨b,hb0,q1,q2,q3,q4⟩:=hP p P[p] (List.getElem?_eq_getElem Iy);injection hb0 with hb0;subst hb0;have S:=O (λw=>IY P[p] w (hO.at Iy).s (hO.at Iy).t);rw [hs] at S;unfold ndV at S;generalize P[p]=x at *;clear hO hP hn;go_enter Tryz.func94,Tryz.ntmps94;go_wp2_with fail;refine(S.o _).mono ?_;rintro e w1 ⟨rfl,hb⟩;replace c0:=za hb c0;replace c1:=za hb c1;replace q1:=za hb q1;replace q2:=za hb q2;replace q3:=za hb q3;replace q4:=za hb q4;have f1':=(hb.frozen (p:=⟨R,1,none⟩) HR.o.lt).trans f1;clear f1;have hR:=Nat.lt_of_lt_of_le HR.o.lt hb.size;have HB:=O hb;clear hb;go_wp2_with fail;go_quiet (fail);go_wp2_with fail;go_ret;obtain⟨s1,s2⟩:=HS.o _ HB.o (.cells #[.int .i64 x.op,.int .i64 x.n,.string x.s,.string x.t] 28);exact⟨by rw [show p+1-p=1 by omega];rfl,s1.drewN _,Lh s2 _⟩
def ziM(P:List Nd)(A:Option Addr)(n c R:Nat)(m:Nat):Prop :=
 ∀(q:Nat) (w:World),Gz w R (.slice A n c) q->jt w A P->n-q<m->Calls Tryz.prog 94 #[.pointer (some ⟨R,0,none⟩)] w (Kw R A n c q w (zl P m q))
def zhu(a:Addr)(c q:Nat):Option Nat->Value
 | none => .slice none 0 0
 | some l => .slice (some (a.add (l*4))) (q-l) (c-l)
theorem Ql{v:List Nd}{f:Nat->Option Nat}{N k:Nat}{last:Option Nat}{q:Nat}(hk:k<N)(h:f q=none):zY v f (N-k) last q=none:=by
 obtain⟨j,hj⟩:∃j,N-k=j+1:=⟨N-k-1,by omega⟩
 rw [hj];simp only [zY,h]
theorem P7{v:List Nd}{f:Nat->Option Nat}{N k:Nat}{last:Option Nat}{q e:Nat}(hk:k<N)(h:f q=some e)(hr:Qc v last q e=false):zY v f (N-k) last q=none:=by
 obtain⟨j,hj⟩:∃j,N-k=j+1:=⟨N-k-1,by omega⟩
 rw [hj];simp only [zY,h,hr,Bool.false_eq_true,if_false]
theorem Kf{v:List Nd}{f:Nat->Option Nat}{N k:Nat}{last:Option Nat}{q e:Nat}(hk:k<N)(h:f q=some e)(hr:Qc v last q e=true):zY v f (N-k) last q=zY v f (N-(k+1)) (some q) e:=by
 obtain⟨j,hj⟩:∃j,N-k=j+1:=⟨N-k-1,by omega⟩
 rw [hj,show N-(k+1)=j by omega];simp only [zY,h,hr,if_true]
theorem zhZ(a:Addr)(P:List Nd)(n c p R m:Nat)(w:World)(hr:Gz w R (.slice (some a) n c) p)(hn:n=P.length)(hc:n<=c)(hm:n<=maxLen)(hp:p<n)(hP:jt w (some a) P)(hO:gh P)(hs:zq (P[p]'(by omega))=true)
 (h5:(P[p]'(by omega)).op=5) (hR:a.block≠R) (ih:ziM P (some a) n c R m) (hfu:n-p<m+1):
 Calls Tryz.prog 94 #[.pointer (some ⟨R,0,none⟩)] w (Kw R (some a) n c p w (zY P (zl P m) (P[p]'(by omega)).n.toNat none (p+1))):=by
 have HM:=O hm;unfold maxLen at hm;have HR:=O hr;have HS:=O (λw1 (hb:Below w.heap.size w w1) o=>Tb hr hb o);have HP:=O hP;have HN:=O hn;have IH:=O ih;obtain⟨c0,c1,f1⟩:=hr;have Iy:p<P.length:=by omega
 obtain⟨b,hb0,q1,q2,q3,q4⟩:=hP p P[p] (List.getElem?_eq_getElem Iy);injection hb0 with hb0;subst hb0;have S:=O (λw=>IY P[p] w (hO.at Iy).s (hO.at Iy).t);rw [hs] at S;unfold ndV at S;obtain⟨-,-,SV,hhi⟩:=hO.at Iy;rw [h5] at q1 S;generalize P[p]=x at *;have hx0:0<=x.n:=by
  unfold zq at hs;rw [h5] at hs;simp at hs;exact hs.1.1
 clear hP hn h5 hs SV ih;have hnp:decide (n<=p)=false:=decide_eq_false (by omega);go_enter Tryz.func94,Tryz.ntmps94;go_wp2_with fail;refine(S.o _).mono ?_;rintro e w1 ⟨rfl,hb⟩;replace c0:=za hb c0;replace c1:=za hb c1;replace q1:=za hb q1;replace q2:=za hb q2;replace q3:=za hb q3;replace q4:=za hb q4;have f1':=(hb.frozen (p:=⟨R,1,none⟩) HR.o.lt).trans f1;clear f1;have hRl:=Nat.lt_of_lt_of_le HR.o.lt hb.size;have HB:=O hb;clear hb;go_wp2_with fail;obtain⟨s1,s2⟩:=HS.o _ HB.o (.cells #[.int .i64 5,.int .i64 x.n,.string x.s,.string x.t] 28);have S1:=O s1;have S2:=O s2;clear s1 s2 c0 c1 f1' q1 q2 q3 q4 hRl S HS HR;go_loopw [5,6,7,53] (λlast _ _ i wr=>∃(k q:Nat) (lo:Option Nat),i = .int .i64 k/\(k:Int)<=x.n/\last=zhu a c q lo/\Hid (lo=none↔k=0)/\Hid (∀l,lo=some l->l<q)/\q<=n/\p<q/\
  Hid (zY P (zl P m) x.n.toNat none (p+1)=zY P (zl P m) (x.n.toNat-k) lo q)/\Hid (Gz wr R (.slice (some a) n c) q)/\Hid (w.grownBy wr (some R))) (λ_ _ _ i _=>(x.n-intOf i).toNat)
 case atStart=>exact⟨0,p+1,none,rfl,hx0,rfl,⟨λ_=>rfl,λ_=>rfl⟩,(by intro l hl;cases hl),by omega,by omega,rfl,S1.o,S2.o⟩
 case round =>
  obtain⟨k,q,lo,rfl,hk,rfl,SV,hlq,hq,hpq,hE,VM,hgr⟩:=hrel;by_cases hlt:(k:Int)<x.n
  ·have N:=O (HP.o.but hgr.o (λa' e=>by cases e;exact hR));have C:=O (IH.o q wr VM.o N.o (by omega));rcases hf:zl P m q with _|e
   ·have HF:=O (hE.o.trans (Ql (by omega) hf));rw [hf] at C;clear hf hE;go_wp2_with fail;refine C.o.mono ?_;rintro e w2 hpost;obtain⟨rfl,g2⟩:=hpost;go_wp2_with fail;rw [HF.o];exact⟨rfl,rfl,z8 hgr.o g2⟩
   ·have HF:=O hf;have hpe:=jN _ _ _ hf;rw [<-HN.o] at hpe;rw [hf] at C;clear hf;by_cases hk0:k=0
    ·have hlo0:=SV.o.2 hk0;subst hlo0;have hz:decide (0<k)=false:=decide_eq_false (by omega);have HG:=O (hE.o.trans (Kf (by omega) HF.o rfl));clear hE SV hlq hk0;unfold zhu;go_wp2_with fail;refine C.o.mono ?_;rintro e' w2 hpost;obtain⟨rfl,r2,g2⟩:=hpost;have R2:=O r2;have G2:=O g2;clear r2 g2;go_wp2_with fail;go_roundw
     case rel=>exact⟨k+1,e,some q,by go_num,by omega,rfl,⟨(by intro h;cases h),(by intro h;omega)⟩,(by intro l hl;cases hl;exact hpe.1),by omega,by omega,HG.o,R2.o,z8 hgr.o G2.o⟩
     case measure=>simp [intOf];omega
    ·have hk1:decide (0<k)=true:=decide_eq_true (by omega);obtain⟨l,rfl⟩:∃l,lo=some l:=Option.ne_none_iff_exists'.1 (λh=>hk0 (SV.o.1 h));have hlq':=hlq.o l rfl;clear SV hlq hk0;have V:=O (λw2 (g2:wr.grownBy w2 (some R))=>zgF (some (a.add (l*4))) (some (a.add (q*4))) (q-l) (e-q) (c-l) (c-q) (seg P l q) (seg P q e) w2 (jL (by rw [<-HN.o];omega)).symm (jL (by rw [<-HN.o];omega)).symm (Nat.le_trans (by omega) HM.o) (Nat.le_trans (by omega) HM.o)
      ((N.o.but g2 (λa' e=>by cases e;exact hR)).seg l q) ((N.o.but g2 (λa' e=>by cases e;exact hR)).seg q e))
     unfold zhu;by_cases hcmp:zu (seg P l q) (seg P q e)<0
     ·have HG:=O (hE.o.trans (Kf (by omega) HF.o (decide_eq_true hcmp)));clear hE;go_wp2_with fail;refine C.o.mono ?_;rintro e' w2 hpost;obtain⟨rfl,r2,g2⟩:=hpost;have R2:=O r2;have G2:=O g2;clear r2 g2;go_wp2_with fail;refine(V.o _ G2.o).mono ?_;rintro e' w3 ⟨rfl,hb3⟩;have R3:=O (R2.o.keep hb3);have G3:=O (z8 G2.o (zA hb3 _));clear hb3;go_wp2_with fail;go_roundw
      case rel=>exact⟨k+1,e,some q,by go_num,by omega,rfl,⟨(by intro h;cases h),(by intro h;omega)⟩,(by intro l hl;cases hl;exact hpe.1),by omega,by omega,HG.o,R3.o,z8 hgr.o G3.o⟩
      case measure=>simp [intOf];omega
     ·have HG:=O (hE.o.trans (P7 (by omega) HF.o (decide_eq_false hcmp)));clear hE;go_wp2_with fail;refine C.o.mono ?_;rintro e' w2 hpost;obtain⟨rfl,r2,g2⟩:=hpost;have G2:=O g2;clear r2 g2;go_wp2_with fail;refine(V.o _ G2.o).mono ?_;rintro e' w3 ⟨rfl,hb3⟩;go_wp2_with fail;rw [HG.o];exact⟨rfl,rfl,z8 hgr.o (z8 G2.o (zA hb3 _))⟩
  ·have HG:=O (hE.o.trans (by rw [show x.n.toNat-k=0 by omega];rfl:_=some q));obtain⟨d0,d1,d2⟩:=VM.o;have RD:=O VM.o;clear hE SV hlq VM;go_wp2_with fail;go_quiet (fail);go_wp2_with fail;go_ret;rw [HG.o];exact⟨rfl,RD.o.drewN _,Lh hgr.o _⟩
end Go.Proofs.YtokiogmfgpidmaaGreatDoor
namespace Go.Wk
theorem zie(a b:List UInt8):Op.bytesLess a b=decide (Lib.compareBytes a b<0):=by
 induction a generalizing b with
 | nil=>cases b <;> simp [Op.bytesLess,Lib.compareBytes]
 | cons x a ih =>
  cases b with
  | nil=>simp [Op.bytesLess,Lib.compareBytes]
  | cons y b =>
   simp only [Op.bytesLess,Lib.compareBytes,ih]
   by_cases h1:x<y
   ·simp [h1]
   ·by_cases h2:y<x
    ·have:(x==y)=false:=by
      rw [beq_eq_false_iff_ne];intro e;subst e;exact h1 h2
     simp [h1,h2,this]
    ·have:x=y:=by
      have a1:¬x.toNat<y.toNat:=h1;have a2:¬y.toNat<x.toNat:=h2;exact UInt8.toNat_inj.1 (by omega)
     subst this;simp [h1]
theorem zaJ(a b:ByteArray):(jh b a<0/\Op.bytesLess a.toList b.toList=false/\(a.toList==b.toList)=false)\/(¬jh b a<0/\Op.bytesLess a.toList b.toList=true)\/(¬jh b a<0/\Op.bytesLess a.toList b.toList=false/\(a.toList==b.toList)=true):=by
 rw [zie];have e:Lib.compareBytes a.toList b.toList=jh a b:=by unfold jh;rw [ByteArray.toList_eq,ByteArray.toList_eq]
 rw [e];have h1:=jf.anti a b;have h2:=jf.zero a b;by_cases h:jh a b<0
 ·exact .inr (.inl ⟨by omega,by simpa using h⟩)
 ·by_cases h0:jh a b=0
  ·exact .inr (.inr ⟨by omega,by simpa using h,by rw [h2.1 h0];simp⟩)
  ·refine .inl ⟨by omega,by simpa using h,?_⟩;rw [beq_eq_false_iff_ne];intro q;rw [ByteArray.toList_eq,ByteArray.toList_eq] at q;exact h0 (h2.2 (ql q))
theorem Gq{v:List Nd}{f:Nat->Option Nat}{N k:Nat}{last:ByteArray}{q:Nat}(hk:k<N)(h:bJ v last q=none):zV v f (N-k) last q=none:=by
 obtain⟨j,hj⟩:∃j,N-k=j+1:=⟨N-k-1,by omega⟩
 rw [hj];simp only [zV,h]
theorem Qt{v:List Nd}{f:Nat->Option Nat}{N k:Nat}{last s:ByteArray}{q:Nat}(hk:k<N)(h:bJ v last q=some s)(hf:f (q+1)=none):zV v f (N-k) last q=none:=by
 obtain⟨j,hj⟩:∃j,N-k=j+1:=⟨N-k-1,by omega⟩
 rw [hj];simp only [zV,h,hf]
theorem Nf{v:List Nd}{f:Nat->Option Nat}{N k:Nat}{last s:ByteArray}{q e:Nat}(hk:k<N)(h:bJ v last q=some s)(hf:f (q+1)=some e):zV v f (N-k) last q=zV v f (N-(k+1)) s e:=by
 obtain⟨j,hj⟩:∃j,N-k=j+1:=⟨N-k-1,by omega⟩
 rw [hj,show N-(k+1)=j by omega];simp only [zV,h,hf]
theorem Sp{v:List Nd}{last:ByteArray}{p:Nat}(h:v.length<=p):bJ v last p=none:=by
 unfold bJ;rw [List.getElem?_eq_none h]
theorem Pg{v:List Nd}{last:ByteArray}{p:Nat}(h:p<v.length)(hq:(decide (v[p].op=7)&& zq v[p] && decide (jh last v[p].s<0))=false):bJ v last p=none:=by
 unfold bJ;rw [List.getElem?_eq_getElem h];simp only [hq,Bool.false_eq_true,if_false]
theorem RU{v:List Nd}{last:ByteArray}{p:Nat}(h:p<v.length)(hq:(decide (v[p].op=7)&& zq v[p] && decide (jh last v[p].s<0))=true):bJ v last p=some v[p].s:=by
 unfold bJ;rw [List.getElem?_eq_getElem h];simp only [hq,if_true]
end Go.Wk
namespace Go.Proofs.YtokiogmfgpidmaaGreatDoor
open Go.RowKit Go.Wk Go.Sort
theorem zix(a:Addr)(P:List Nd)(n c p R m:Nat)(w:World)(hr:Gz w R (.slice (some a) n c) p)(hn:n=P.length)(hc:n<=c)(hm:n<=maxLen)(hp:p<n)(hP:jt w (some a) P)(hO:gh P)(hs:zq (P[p]'(by omega))=true)
 (h5:(P[p]'(by omega)).op=6) (hR:a.block≠R) (ih:ziM P (some a) n c R m) (hfu:n-p<m+1):
 Calls Tryz.prog 94 #[.pointer (some ⟨R,0,none⟩)] w (Kw R (some a) n c p w (zV P (zl P m) (P[p]'(by omega)).n.toNat .empty (p+1))):=by
 unfold maxLen at hm;have HR:=O hr;have HS:=O (λw1 (hb:Below w.heap.size w w1) o=>Tb hr hb o);have HP:=O hP;have HN:=O hn;have HO:=O hO;have IH:=O ih;obtain⟨c0,c1,f1⟩:=hr;have Iy:p<P.length:=by omega
 obtain⟨b,hb0,q1,q2,q3,q4⟩:=hP p P[p] (List.getElem?_eq_getElem Iy);injection hb0 with hb0;subst hb0;have S:=O (λw=>IY P[p] w (hO.at Iy).s (hO.at Iy).t);rw [hs] at S;unfold ndV at S;obtain⟨-,-,SV,hhi⟩:=hO.at Iy;rw [h5] at q1 S;generalize P[p]=x at *;have hx0:0<=x.n:=by
  unfold zq at hs;rw [h5] at hs;simp at hs;exact hs.1.1
 clear hP hn h5 hs SV ih hO;have hnp:decide (n<=p)=false:=decide_eq_false (by omega);go_enter Tryz.func94,Tryz.ntmps94;go_wp2_with fail;refine(S.o _).mono ?_;rintro e w1 ⟨rfl,hb⟩;replace c0:=za hb c0;replace c1:=za hb c1;replace q1:=za hb q1;replace q2:=za hb q2;replace q3:=za hb q3;replace q4:=za hb q4;have f1':=(hb.frozen (p:=⟨R,1,none⟩) HR.o.lt).trans f1;clear f1;have hRl:=Nat.lt_of_lt_of_le HR.o.lt hb.size;have HB:=O hb;clear hb;go_wp2_with fail;obtain⟨s1,s2⟩:=HS.o _ HB.o (.cells #[.int .i64 6,.int .i64 x.n,.string x.s,.string x.t] 28);have S1:=O s1;have S2:=O s2;clear s1 s2 c0 c1 f1' q1 q2 q3 q4 hRl S HS HR;go_loopw [8,74] (λlast i wr=>∃(k q:Nat) (ls:ByteArray),i = .int .i64 k/\(k:Int)<=x.n/\last = .string ls/\q<=n/\p<q/\
  Hid (zV P (zl P m) x.n.toNat .empty (p+1)=zV P (zl P m) (x.n.toNat-k) ls q)/\Hid (Gz wr R (.slice (some a) n c) q)/\Hid (w.grownBy wr (some R))) (λ_ i _=>(x.n-intOf i).toNat)
 case atStart=>exact⟨0,p+1,.empty,rfl,hx0,rfl,by omega,by omega,rfl,S1.o,S2.o⟩
 case round =>
  obtain⟨k,q,ls,rfl,hk,rfl,hq,hpq,hE,VM,hgr⟩:=hrel;by_cases hlt:(k:Int)<x.n
  ·have N:=O (HP.o.but hgr.o (λa' e=>by cases e;exact hR));have kc0:=cell_regrown VM.o.c0;have kc1:=cell_regrown VM.o.c1;by_cases hqn:q<n
   ·have hq':q<P.length:=by rw [<-HN.o];exact hqn
    obtain⟨b,hb0,q1,q2,q3,q4⟩:=N.o q P[q] (List.getElem?_eq_getElem hq');injection hb0 with hb0;subst hb0;have hnq:decide (n<=q)=false:=decide_eq_false (by omega);by_cases h7:P[q].op=7
    ·rw [h7] at q1;have hy:=HO.o.at hq';have S0:Hid (∀w,Calls Tryz.prog 135 #[.agg #[.int .i64 7,.int .i64 P[q].n,.string P[q].s,.string P[q].t]] w λe w'=>e = .returned (.bool (zq P[q]))/\Below w.heap.size w w'):=
      O (λw=>by have:=IY P[q] w hy.s hy.t;unfold ndV at this;rw [h7] at this;exact this)
     have HY:=O (show∀b,(decide (P[q].op=7)&& zq P[q] && decide (jh ls P[q].s<0))=b->(b=true->bJ P ls q=some P[q].s)/\(b=false->bJ P ls q=none) from
      λb hb=>⟨λe=>RU hq' (hb.trans e),λe=>Pg hq' (hb.trans e)⟩)
     rw [h7] at HY;generalize P[q]=y at *;clear h7 hy;have kq1:=cell_regrown q1;have kq2:=cell_regrown q2;have kq3:=cell_regrown q3;have kq4:=cell_regrown q4;by_cases hsy:zq y=true
     ·rw [hsy] at S0 HY;clear hsy;rcases zaJ y.s ls with ⟨l0,l1,l2⟩|hl
      ·have HF:=O ((HY.o true (by simp [l0])).1 rfl);have cS:∀d os,Calls Tryz.prog 135 #[.agg #[.int .i64 7,.int .i64 y.n,.string y.s,.string y.t]] (grow (redrawn wr d) os) λe w''=>e = .returned (.bool true)/\∃p:Regrown,w''=grow (redrawn wr p.d) p.os:=λd os=>Calls.regrown_of (S0.o _);clear l0 HY S0;have Q1:=O q1;have Q2:=O q2;have Q3:=O q3;have Q4:=O q4;clear q1 q2 q3 q4;go_wp2_with fail;refine wp_region_quiet_below (by kernel_rfl) (by kernel_rfl) ?_
       repeat (first|go_big_quiet_step (exact cS _ _)|quiet_step (exact cS _ _))
       refine wpQuiet_nil ?_;intro w2 hw';have b2:Below wr.heap.size wr w2:=by obtain⟨⟨d,os⟩,rfl⟩:=hw';exact below_regrown _ _ _
       clear hw' kq1 kq2 kq3 kq4 kc0 kc1 cS;have rd2:=VM.o.keep b2;have q3:=za b2 Q3.o;have nd2:=N.o.keep b2;have RS:=O (λk=>(rd2.put (q+1)).drewN k);have gs:wr.grownBy (w2.setCell ⟨R,1,none⟩ (.int .i64 (q+1:Nat))) (some R):=z8 (zA b2 _) (zr _ ⟨R,1,none⟩ _);have GS:=O (λk=>Lh gs k);have NS:=O (λk=>N.o.but (GS.o k) (λa' e=>by cases e;exact hR));have hl2:=rd2.lt;obtain⟨d0,d1,d2⟩:=rd2;have C:=O (λk=>IH.o (q+1) _ (RS.o k) (NS.o k) (by omega));clear b2 nd2 gs Q1 Q2 Q3 Q4 l1 l2 N VM NS;rcases hf:zl P m (q+1) with _|e
       ·have HG:=O (hE.o.trans (Qt (by omega) HF.o hf));rw [hf] at C;clear hE HF hf;go_wp2_with fail;go_quiet (fail);go_wp2_with fail;refine(C.o _).mono ?_;rintro e w3 hpost;obtain⟨rfl,g3⟩:=hpost;go_wp2_with fail;rw [HG.o];exact⟨rfl,rfl,z8 hgr.o (z8 (GS.o _) g3)⟩
       ·have HG:=O (hE.o.trans (Nf (by omega) HF.o hf));have hpe:=jN _ _ _ hf;rw [<-HN.o] at hpe;rw [hf] at C;clear hE HF hf;go_wp2_with fail;go_quiet (fail);go_wp2_with fail;refine(C.o _).mono ?_;rintro e' w3 hpost;obtain⟨rfl,r3,g3⟩:=hpost;have R3:=O r3;have G3:=O (z8 hgr.o (z8 (GS.o _) g3));clear r3 g3;go_wp2_with fail;go_roundw
        case rel=>exact⟨k+1,e,_,by go_num,by omega,rfl,by omega,by omega,HG.o,R3.o,G3.o⟩
        case measure=>simp [intOf];omega
      ·have HF:=O ((HY.o false (by rcases hl with ⟨l0,_⟩|⟨l0,_⟩<;> simp [l0])).2 rfl);have HG:=O (hE.o.trans (Gq (by omega) HF.o));have cS:∀d os,Calls Tryz.prog 135 #[.agg #[.int .i64 7,.int .i64 y.n,.string y.s,.string y.t]] (grow (redrawn wr d) os) λe w''=>e = .returned (.bool true)/\∃p:Regrown,w''=grow (redrawn wr p.d) p.os:=λd os=>Calls.regrown_of (S0.o _);clear hE HY S0;rcases hl with ⟨-,l1⟩|⟨-,l1,l2⟩
       all_goals
        go_wp2_with fail;refine wp_region_quiet_below (by kernel_rfl) (by kernel_rfl) ?_
        repeat (first|go_big_quiet_step (exact cS _ _)|quiet_step (exact cS _ _))
        refine wpQuiet_nil ?_;intro w2 hw';have B2:=O (show Below wr.heap.size wr w2 by obtain⟨⟨d,os⟩,rfl⟩:=hw';exact below_regrown _ _ _);clear hw';go_wp2_with fail;rw [HG.o];exact⟨rfl,rfl,z8 hgr.o (zA B2.o _)⟩
     ·rw [Bool.not_eq_true] at hsy;rw [hsy] at S0 HY;clear hsy;have HF:=O ((HY.o false (by simp)).2 rfl);have HG:=O (hE.o.trans (Gq (by omega) HF.o));have cS:∀d os,Calls Tryz.prog 135 #[.agg #[.int .i64 7,.int .i64 y.n,.string y.s,.string y.t]] (grow (redrawn wr d) os) λe w''=>e = .returned (.bool false)/\∃p:Regrown,w''=grow (redrawn wr p.d) p.os:=λd os=>Calls.regrown_of (S0.o _);clear hE HY S0;go_wp2_with fail;refine wp_region_quiet_below (by kernel_rfl) (by kernel_rfl) ?_
      repeat (first|go_big_quiet_step (exact cS _ _)|quiet_step (exact cS _ _))
      refine wpQuiet_nil ?_;intro w2 hw';have B2:=O (show Below wr.heap.size wr w2 by obtain⟨⟨d,os⟩,rfl⟩:=hw';exact below_regrown _ _ _);clear hw';go_wp2_with fail;rw [HG.o];exact⟨rfl,rfl,z8 hgr.o (zA B2.o _)⟩
    ·have hs7:(P[q].op != 7)=true:=by rw [bne_iff_ne];exact h7
     have HG:=O (hE.o.trans (Gq (by omega) (Pg hq' (by simp [h7]))));clear hE h7;have kq1:=cell_regrown q1;go_wp2_with fail;refine wp_region_quiet_below (by kernel_rfl) (by kernel_rfl) ?_
     repeat (first|go_big_quiet_step (fail)|quiet_step (fail))
     refine wpQuiet_nil ?_;intro w2 hw';have B2:=O (show Below wr.heap.size wr w2 by obtain⟨⟨d,os⟩,rfl⟩:=hw';exact below_regrown _ _ _);clear hw';go_wp2_with fail;rw [HG.o];exact⟨rfl,rfl,z8 hgr.o (zA B2.o _)⟩
   ·have hnq:decide (n<=q)=true:=decide_eq_true (by omega);have HG:=O (hE.o.trans (Gq (by omega) (Sp (by rw [<-HN.o];omega))));clear hE;go_wp2_with fail;refine wp_region_quiet_below (by kernel_rfl) (by kernel_rfl) ?_
    repeat (first|go_big_quiet_step (fail)|quiet_step (fail))
    refine wpQuiet_nil ?_;intro w2 hw';have B2:=O (show Below wr.heap.size wr w2 by obtain⟨⟨d,os⟩,rfl⟩:=hw';exact below_regrown _ _ _);clear hw';go_wp2_with fail;rw [HG.o];exact⟨rfl,rfl,z8 hgr.o (zA B2.o _)⟩
  ·have HG:=O (hE.o.trans (by rw [show x.n.toNat-k=0 by omega];rfl:_=some q));obtain⟨d0,d1,d2⟩:=VM.o;have RD:=O VM.o;clear hE VM;go_wp2_with fail;go_quiet (fail);go_wp2_with fail;go_ret;rw [HG.o];exact⟨rfl,RD.o.drewN _,Lh hgr.o _⟩
end Go.Proofs.YtokiogmfgpidmaaGreatDoor
