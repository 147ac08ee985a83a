/-
  The order of nodes: val.compare, slices.CompareFunc, val.order. The contracts ..
-/
import Derived.Test.YthidiimbeaabhaaGreatDoorQ15
set_option maxRecDepth 100000
set_option maxHeartbeats 8000000
namespace Go.Proofs.YthidiimbeaabhaaGreatDoor
open Go.RowKit Go.Wk
def ndV(x:Nd):Value := .agg #[.int .i64 x.op,.int .i64 x.n,.string x.s,.string x.t]
def jk(w:World)(A:Option Addr)(P:List Nd):Prop :=
 ∀(k:Nat) (x:Nd),P[k]?=some x->∃a,A=some a/\w.cell? (a.add (k*4))=some (.int .i64 x.op)/\
  w.cell? ⟨(a.add (k*4)).block,(a.add (k*4)).off+1,none⟩=some (.int .i64 x.n)/\
  w.cell? ⟨(a.add (k*4)).block,(a.add (k*4)).off+2,none⟩=some (.string x.s)/\
  w.cell? ⟨(a.add (k*4)).block,(a.add (k*4)).off+3,none⟩=some (.string x.t)
theorem jk.keep{w w':World}{A:Option Addr}{P:List Nd}(h:jk w A P)(hb:Below w.heap.size w w'):jk w' A P :=
 λk x hx=>let ⟨a,h1,h2,h3,h4,h5⟩:=h k x hx;⟨a,h1,zb hb h2,zb hb h3,zb hb h4,zb hb h5⟩
theorem cmp_Compare_int(x y:Int)(w:World):Calls Tryz.prog 169 #[.int .i64 x,.int .i64 y] w λe w'=>e = .returned (.int .i64 (i8 x y))/\w'=w :=
 (Tryz.cmp_Compare_int x y w).mono λ_ _ h=>h
theorem xb(x y z u:Int)(ad:Addr)(w:World)(h0:w.cell? ad=some (.int .i64 x))(h1:w.cell? ⟨ad.block,ad.off+1,none⟩=some (.int .i64 y))
 (h2:w.cell? ⟨ad.block,ad.off+2,none⟩=some (.int .i64 z)) (h3:w.cell? ⟨ad.block,ad.off+3,none⟩=some (.int .i64 u)):
 Calls Tryz.prog 168 #[.slice (some ad) 4 4] w λe w'=>e = .returned (.int .i64 (or4 x y z u))/\w=w':=by
 go_enter Tryz.func168,Tryz.ntmps168;go_wp2;go_loop [5,8] (λs i=>∃k:Nat,k<=4/\i = .int .i64 k/\(1<=k->x=0)/\(2<=k->y=0)/\(3<=k->z=0)/\(4<=k->u=0)) (λ_ i=>4-(intOf i).toNat)
 case atStart=>exact⟨0,by omega,rfl,by omega,by omega,by omega,by omega⟩
 case round =>
  obtain⟨k,hk,rfl,hx,hy,hz,hu⟩:=hrel;have hk3:k=0\/k=1\/k=2\/k=3\/k=4:=by omega
  rcases hk3 with rfl|rfl|rfl|rfl|rfl
  ·clear hx hy hz hu;by_cases hx0:x=0
   ·subst hx0;go_wp2;go_round
    case rel=>exact⟨1,by omega,by go_num,by simp,by omega,by omega,by omega⟩
    case measure=>simp [intOf]
   ·go_wp2;go_ret;exact⟨br (by simp [or4,or2,hx0]),rfl⟩
  ·have hx0:=hx (by omega);clear hx hy hz hu;subst hx0;by_cases Hg:y=0
   ·subst Hg;go_wp2;go_round
    case rel=>exact⟨2,by omega,by go_num,by simp,by simp,by omega,by omega⟩
    case measure=>simp [intOf]
   ·go_wp2;go_ret;exact⟨br (by simp [or4,or2,Hg]),rfl⟩
  ·have hx0:=hx (by omega);have Hg:=hy (by omega);clear hx hy hz hu;subst hx0 Hg;by_cases hz0:z=0
   ·subst hz0;go_wp2;go_round
    case rel=>exact⟨3,by omega,by go_num,by simp,by simp,by simp,by omega⟩
    case measure=>simp [intOf]
   ·go_wp2;go_ret;exact⟨br (by simp [or4,or2,hz0]),rfl⟩
  ·have hx0:=hx (by omega);have Hg:=hy (by omega);have hz0:=hz (by omega);clear hx hy hz hu;subst hx0 Hg hz0;by_cases JG:u=0
   ·subst JG;go_wp2;go_round
    case rel=>exact⟨4,by omega,by go_num,by simp,by simp,by simp,by simp⟩
    case measure=>simp [intOf]
   ·go_wp2;go_ret;exact⟨br (by simp [or4,or2]),rfl⟩
  ·have hx0:=hx (by omega);have Hg:=hy (by omega);have hz0:=hz (by omega);have JG:=hu (by omega);clear hx hy hz hu;subst hx0 Hg hz0 JG;go_wp2;go_ret;exact⟨br (by simp [or4,or2]),rfl⟩
theorem t6(x y:Nd)(w:World):
 Calls Tryz.prog 142 #[ndV x,ndV y] w λe w'=>e = .returned (.int .i64 (gW x y))/\Below w.heap.size w w':=by
 unfold ndV;go_enter Tryz.func142,Tryz.ntmps142;go_wp2;refine my 20 (by kernel_rfl) (by kernel_rfl) ?_;simp only [List.take_succ_cons,List.take_zero,List.drop_succ_cons,List.drop_zero]
 iterate 4 still_step
 still_call (cmp_Compare_int _ _ _)
 iterate 4 still_step
 still_call (cmp_Compare_int _ _ _)
 iterate 4 still_step
 still_call (strings_Compare _ _ _)
 iterate 4 still_step
 still_call (strings_Compare _ _ _);refine wpStill_nil ?_;go_wp2_with (go_at_call 168;refine(xb (i8 x.op y.op) (i8 x.n y.n) (ai x.s y.s) (ai x.t y.t) _ _ (by go_simp) (by go_simp) (by go_simp) (by go_simp)).mono ?_;rintro e w' ⟨rfl,rfl⟩);go_ret;exact⟨rfl,((((Below.refl _ _).alloc (Nat.le_refl _) _).alloc (by simp) _).alloc (by simp;omega) _).drew⟩
theorem dl{P Q:List Nd}{k:Nat}(h1:k<P.length)(h2:k<Q.length):zx (P.drop k) (Q.drop k)=or2 (gW P[k] Q[k]) (zx (P.drop (k+1)) (Q.drop (k+1))):=by
 rw [List.drop_eq_getElem_cons h1,List.drop_eq_getElem_cons h2];rfl
theorem lx{P Q:List Nd}{k:Nat}(h1:P.length<=k)(h2:k<Q.length):zx (P.drop k) (Q.drop k)= -1:=by
 rw [List.drop_of_length_le h1,List.drop_eq_getElem_cons h2];rfl
theorem lA{P Q:List Nd}{k:Nat}(h1:k<P.length)(h2:Q.length<=k):zx (P.drop k) (Q.drop k)=1:=by
 rw [List.drop_of_length_le h2,List.drop_eq_getElem_cons h1];rfl
theorem cP{P Q:List Nd}{k:Nat}(h1:P.length<=k)(h2:Q.length<=k):zx (P.drop k) (Q.drop k)=0:=by
 rw [List.drop_of_length_le h1,List.drop_of_length_le h2];rfl
theorem lK(A B:Option Addr)(n m c d:Nat)(P Q:List Nd)(w:World)(hn:n=P.length)(hm:m=Q.length)(uJ:n<=maxLen)(_hlm:m<=maxLen)(hP:jk w A P)(hQ:jk w B Q):
 Calls Tryz.prog 141 #[.slice A n c,.slice B m d,.func (.func 142) #[] #[]] w λe w'=>e = .returned (.int .i64 (zx P Q))/\Below w.heap.size w w':=by
 unfold maxLen at uJ _hlm;have HP:=O hP;have HQ:=O hQ;have HN:=O hn;have HM:=O hm;clear hP hQ hn hm;go_enter Tryz.func141,Tryz.ntmps141;go_wp2;go_loopw [7,8,9,10,13] (λ_ _ _ _ i wr=>∃k:Nat,k<=n/\k<=m/\i = .int .i64 k/\Hid (zx P Q=zx (P.drop k) (Q.drop k))/\Below w.heap.size w wr) (λ_ _ _ _ i _=>n-(intOf i).toNat)
 case atStart=>exact⟨0,Nat.zero_le _,Nat.zero_le _,rfl,rfl,Below.refl _ _⟩
 case round =>
  obtain⟨k,Mt,hkm,rfl,hc,dX⟩:=hrel;obtain⟨wo,rfl⟩:∃wo:World,wo=wr:=⟨_,rfl⟩
  by_cases h1:k<n
  ·have AK:k<P.length:=by rw [<-HN.o];exact h1
   obtain⟨a,rfl,a1,a2,a3,a4⟩:=(HP.o.keep dX) k P[k] (List.getElem?_eq_getElem AK);by_cases h2:k<m
   ·have Ec:k<Q.length:=by rw [<-HM.o];exact h2
    obtain⟨b,rfl,b1,b2,b3,b4⟩:=(HQ.o.keep dX) k Q[k] (List.getElem?_eq_getElem Ec);have HA:=O (hc.o.trans (dl AK Ec));have g:∀(o:Obj) (x:Addr) (v:Value),wo.cell? x=some v->(wo.alloc o).cell? x=some v:=λo x v h=>zb ((Below.refl _ _).alloc (Nat.le_refl _) o) h;replace b1:=λo=>g o _ _ b1;replace b2:=λo=>g o _ _ b2;replace b3:=λo=>g o _ _ b3;replace b4:=λo=>g o _ _ b4;clear hc g;go_wp2_with fail;refine(t6 P[k] Q[k] _).mono ?_;rintro e w1 ⟨rfl,hb1⟩;have IE:=O ((dX.alloc (by have:=dX.size;omega) _).alloc (by have:=dX.size;simp;omega) _ |>.trans (hb1.mono (by have:=dX.size;simp;omega)));clear hb1 b1 b2 b3 b4 a1 a2 a3 a4;by_cases h0:gW P[k] Q[k]=0
    ·have HC:=O (HA.o.trans (by rw [h0];rfl:_=zx (P.drop (k+1)) (Q.drop (k+1))));rw [h0];clear h0 HA;go_wp2;go_roundw
     case rel=>exact⟨k+1,by omega,by omega,by go_num,HC,IE.o⟩
     case measure=>simp [intOf];omega
    ·have HC:=O (HA.o.trans (zG h0 _));have h0':(gW P[k] Q[k]==0)=false:=beq_eq_false_iff_ne.2 h0;clear HA;go_wp2;go_ret;exact⟨br HC.o.symm,IE.o⟩
   ·have HA:=O (hc.o.trans (lA AK (by rw [<-HM.o];omega)));clear hc;go_wp2;go_ret;exact⟨br HA.o.symm,dX.alloc (by have:=dX.size;omega) _⟩
  ·obtain rfl:k=n:=by omega
   by_cases h2:k<m
   ·have HA:=O (hc.o.trans (lx (by rw [<-HN.o];omega) (by rw [<-HM.o];exact h2)));clear hc;go_wp2;go_ret;exact⟨br HA.o.symm,dX⟩
   ·have HA:=O (hc.o.trans (cP (by rw [<-HN.o];omega) (by rw [<-HM.o];omega)));clear hc;go_wp2;go_ret;exact⟨br HA.o.symm,dX⟩
theorem Ay(A B:Option Addr)(n m c d:Nat)(P Q:List Nd)(w:World)(hn:n=P.length)(hm:m=Q.length)(uJ:n<=maxLen)(wM:m<=maxLen)(hP:jk w A P)(hQ:jk w B Q):
 Calls Tryz.prog 113 #[.slice A n c,.slice B m d] w λe w'=>e = .returned (.int .i64 (zx P Q))/\Below w.heap.size w w':=by
 have H:=lK A B n m c d P Q w hn hm uJ wM hP hQ;clear hn hm hP hQ;go_enter Tryz.func113,Tryz.ntmps113;go_wp2_with fail;refine H.mono ?_;rintro e w1 ⟨rfl,hb1⟩;go_wp2;go_ret;exact⟨rfl,hb1⟩
theorem fY(n:Int)(w:World)(h0:0<=n)(h1:n<=255):Calls Tryz.prog 70 #[.int .u8 n] w λe w'=>e = .returned (.bool (ka n))/\w=w':=by
 go_enter Tryz.func70,Tryz.ntmps70;go_wp2
 all_goals (go_ret;exact⟨zC (by unfold ka;rw [Bool.eq_iff_iff];simp;omega),rfl⟩)
theorem uV(n:Int)(w:World)(h0:0<=n)(h1:n<=255):Calls Tryz.prog 71 #[.int .u8 n] w λe w'=>e = .returned (.bool (tN n))/\w=w':=by
 go_enter Tryz.func71,Tryz.ntmps71;go_wp2
 all_goals (go_ret;exact⟨zC (by unfold tN;rw [Bool.eq_iff_iff];simp;omega),rfl⟩)
theorem gv(s:ByteArray)(w:World):∃(c:Nat) (w1:World),(convert 9 141 (.string s)).run Tryz.prog w = .ok (.slice (some ⟨w.heap.size,0,none⟩) s.size c) w1/\Below w.heap.size w w1/\
 ∀(k:Nat) (h:k<s.size),w1.cell? ⟨w.heap.size,k,none⟩=some (.int .u8 (s[k].toNat:Int)):=by
 have h:=run_bytes_of_string (P:=Tryz.prog) w 9 141 5 s Tryz.underlying9 Tryz.underlying141 Tryz.underlying5;refine⟨_,_,h,((Below.refl _ _).drew).alloc (by simp) _,λk hk=>?_⟩;have e:w.heap.size=w.drew.heap.size:=rfl;rw [e,World.cell?_alloc_mark,bytesRow_at s _ k hk];rfl
theorem lL(s:ByteArray)(w:World)(h:60<s.size)(hs:s.size<=maxLen):Calls Tryz.prog 108 #[.string s] w λe w'=>e = .returned (zM (zA s))/\Below w.heap.size w w':=by
 have H:=O (show zA s=4 by unfold zA;rw [if_pos h]);unfold maxLen at hs;go_enter Tryz.func108,Tryz.ntmps108;go_wp2;go_ret;exact⟨by rw [H.o];rfl,Below.refl _ _⟩
theorem ky(s:ByteArray)(w:World)(hs:s.size<=60):Calls Tryz.prog 108 #[.string s] w λe w'=>e = .returned (zM (zA s))/\Below w.heap.size w w':=by
 have H:=O (show zA s=if s.data.toList.all fi then 0 else 1 by unfold zA;rw [if_neg (by omega)]);obtain⟨c,w1,hrun,hb,hcell⟩:=gv s w;have HC:=O hcell;clear hcell;go_enter Tryz.func108,Tryz.ntmps108;go_wp2;clear hrun;go_loop [2,4,12] (λr _ i=>∃k:Nat,k<=s.size/\i = .int .i64 k/\r = .nilIface/\Hid ((s.data.toList.take k).all fi=true)) (λ_ _ i=>s.size-(intOf i).toNat)
 case atStart=>exact⟨0,Nat.zero_le _,rfl,rfl,by simp [Hid]⟩
 case round =>
  obtain⟨k,hk,rfl,rfl,hall⟩:=hrel;by_cases hlt:k<s.size
  ·have hc:=HC.o k hlt;by_cases hp:32<=(s[k].toNat:Int)/\(s[k].toNat:Int)<=126
   ·have H2:=O (show(s.data.toList.take (k+1)).all fi=true by
     rw [tu s fi hlt,hall.o,Bool.true_and];unfold fi Bq;simp;omega)
    obtain⟨eH,l4⟩:=hp;go_wp2;go_round
    case rel=>exact⟨k+1,by omega,by go_num,rfl,H2⟩
    case measure=>simp [intOf];omega
   ·have H2:=O (show s.data.toList.all fi=false from tM hlt (by unfold fi Bq;rw [Bool.eq_false_iff];simp;omega));by_cases hq:(s[k].toNat:Int)<32
    ·clear hp;go_wp2;go_ret;exact⟨by rw [H.o,H2.o];rfl,hb⟩
    ·have GU:126<(s[k].toNat:Int):=by omega
     clear hp;go_wp2;go_ret;exact⟨by rw [H.o,H2.o];rfl,hb⟩
  ·have H2:=O (show s.data.toList.all fi=true from(xi (k:=k) (by omega)).symm.trans hall.o);clear hall;go_wp2;go_ret;exact⟨by rw [H.o,H2.o];rfl,hb⟩
theorem cE(s:ByteArray)(w:World)(hs:s.size<=maxLen):Calls Tryz.prog 108 #[.string s] w λe w'=>e = .returned (zM (zA s))/\Below w.heap.size w w':=by
 by_cases h:60<s.size
 ·exact lL s w h hs
 ·exact ky s w (by omega)
theorem kV(s:ByteArray)(w:World)(h:s.size=0):Calls Tryz.prog 42 #[.string s] w λe w'=>e = .returned (zM (zk s))/\Below w.heap.size w w':=by
 have H:=O (show zk s=1 by unfold zk;rw [ru h];rfl);have h1:s=⟨#[]⟩:=j4 (List.eq_nil_of_length_eq_zero (by rw [Array.length_toList];exact h));clear h;subst h1;go_enter Tryz.func42,Tryz.ntmps42;go_wp2;go_ret;exact⟨by rw [H.o];rfl,Below.refl _ _⟩
theorem bY{s:ByteArray}(h:0<s.size):s.toList = []↔False:=by
 rw [ByteArray.toList_eq];constructor
 ·intro h';have:s.data.toList.length=0:=by rw [h'];rfl
  rw [Array.length_toList] at this;exact absurd (show s.size=0 from this) (by omega)
 ·exact False.elim
theorem kL(s:ByteArray)(w:World)(h:0<s.size)(hl:ka (s[0].toNat:Int)=false):Calls Tryz.prog 42 #[.string s] w λe w'=>e = .returned (zM (zk s))/\Below w.heap.size w w':=by
 have H:=O (show zk s=1 by unfold zk;rw [rM h hl];rfl);have he:s.toList.isEmpty=false:=by rw [List.isEmpty_eq_false_iff];exact λq=>(bY h).1 q
 have he2:¬s.toList = []:=λq=>(bY h).1 q;have C1:=O (λw=>fY (s[0].toNat:Int) w (by omega) (by have:=s[0].toNat_lt;omega));rw [hl] at C1;clear hl;go_enter Tryz.func42,Tryz.ntmps42;go_wp2_with (go_at_call 70;refine(C1.o _).mono ?_;rintro e w' ⟨rfl,rfl⟩);go_ret;exact⟨by rw [H.o];rfl,Below.refl _ _⟩
theorem lT(s:ByteArray)(w:World)(h:0<s.size)(hs:s.size<=maxLen)(hl:ka (s[0].toNat:Int)=true):Calls Tryz.prog 42 #[.string s] w λe w'=>e = .returned (zM (zk s))/\Below w.heap.size w w':=by
 have H:=O (show zk s=if s.data.toList.all ej then(if 20<s.size then 4 else 0) else 1 by unfold zk;rw [wz h hl]);have he:s.toList.isEmpty=false:=by rw [List.isEmpty_eq_false_iff];exact λq=>(bY h).1 q
 have he2:¬s.toList = []:=λq=>(bY h).1 q;have C1:=O (λw=>fY (s[0].toNat:Int) w (by omega) (by have:=s[0].toNat_lt;omega));rw [hl] at C1;clear hl;unfold maxLen at hs;obtain⟨c,w1,hrun,hb,hcell⟩:=gv s w;have HC:=O hcell;clear hcell;go_enter Tryz.func42,Tryz.ntmps42;go_wp2_with (go_at_call 70;refine(C1.o _).mono ?_;rintro e w' ⟨rfl,rfl⟩);clear hrun C1;go_loop [2,4,17] (λr _ i=>∃k:Nat,k<=s.size/\i = .int .i64 k/\r = .nilIface/\Hid ((s.data.toList.take k).all ej=true)) (λ_ _ i=>s.size-(intOf i).toNat)
 case atStart=>exact⟨0,Nat.zero_le _,rfl,rfl,by simp [Hid]⟩
 case round =>
  obtain⟨k,hk,rfl,rfl,hall⟩:=hrel;by_cases hlt:k<s.size
  ·have hc:=HC.o k hlt;have C1:=O (λw=>fY (s[k].toNat:Int) w (by omega) (by have:=s[k].toNat_lt;omega));have C2:=O (λw=>uV (s[k].toNat:Int) w (by omega) (by have:=s[k].toNat_lt;omega));have hst:ej s[k]=(ka (s[k].toNat:Int)|| tN (s[k].toNat:Int)):=rfl;have G1:=O (λq:ej s[k]=true=>(show(s.data.toList.take (k+1)).all ej=true by rw [tu s ej hlt,hall.o,Bool.true_and,q]));have G2:=O (λq:ej s[k]=false=>(tM hlt q:s.data.toList.all ej=false));rw [hst] at G1 G2;clear hst hall;rcases hx:ka (s[k].toNat:Int) with _|_ <;> rcases hy:tN (s[k].toNat:Int) with _|_ <;> rw [hx] at C1 G1 G2 <;> rw [hy] at C2 G1 G2 <;> clear hx hy
   all_goals go_wp2_with (first|(go_at_call 70;refine(C1.o _).mono ?_;rintro e w' ⟨rfl,rfl⟩)|(go_at_call 71;refine(C2.o _).mono ?_;rintro e w' ⟨rfl,rfl⟩))
   ·go_ret;exact⟨by rw [H.o,G2.o rfl];rfl,hb⟩
   all_goals
    go_round
    case rel=>exact⟨k+1,by omega,by go_num,rfl,G1.o rfl⟩
    case measure=>simp [intOf];omega
  ·have H2:=O (show s.data.toList.all ej=true from(xi (k:=k) (by omega)).symm.trans hall.o);clear hall;by_cases I2:20<s.size
   ·have H3:=O (show zk s=4 by rw [H.o,H2.o,if_pos rfl,if_pos I2]);clear H H2;go_wp2;go_ret;exact⟨by rw [H3.o];rfl,hb⟩
   ·have H3:=O (show zk s=0 by rw [H.o,H2.o,if_pos rfl,if_neg I2]);clear H H2;go_wp2;go_ret;exact⟨by rw [H3.o];rfl,hb⟩
theorem aj(s:ByteArray)(w:World)(hs:s.size<=maxLen):Calls Tryz.prog 42 #[.string s] w λe w'=>e = .returned (zM (zk s))/\Below w.heap.size w w':=by
 by_cases h:s.size=0
 ·exact kV s w h
 ·rcases hl:ka ((s[0]'(by omega)).toNat:Int) with _|_
  ·exact kL s w (by omega) hl
  ·exact lT s w (by omega) hs hl
theorem ji(s:ByteArray):s=⟨#[]⟩\/(s.toList.isEmpty=false/\(¬s.toList = [])/\noB s=false):=by
 by_cases h:0<s.size
 ·exact .inr ⟨by rw [List.isEmpty_eq_false_iff];exact λq=>(bY h).1 q,λq=>(bY h).1 q,by unfold noB;rw [decide_eq_false_iff_not];omega⟩
 ·exact .inl (j4 (List.eq_nil_of_length_eq_zero (by rw [Array.length_toList];exact(by omega:s.size=0))))
theorem bp:noB ⟨#[]⟩=true:=rfl
theorem jj{w w1:World}{o:Obj}(h:Below (w.alloc o).heap.size (w.alloc o) w1):Below w.heap.size w w1:=(za w o).trans (h.mono (by simp))
theorem sA(n:Int)(s t:ByteArray)(w:World):
 Calls Tryz.prog 112 #[.agg #[.int .i64 1,.int .i64 n,.string s,.string t]] w λe w'=>e = .returned (.bool ((decide (n=0)|| decide (n=1))&& noB s && noB t))/\Below w.heap.size w w':=by
 by_cases h0:n=0
 ·subst h0;rcases ji s with rfl|⟨s1,s2,s3⟩<;> rcases ji t with rfl|⟨t1,t2,t3⟩
  all_goals
   go_enter Tryz.func112,Tryz.ntmps112;go_wp2;go_ret;exact⟨zC (by simp [*,bp]),za _ _⟩
 ·by_cases h1:n=1
  ·subst h1;clear h0;rcases ji s with rfl|⟨s1,s2,s3⟩<;> rcases ji t with rfl|⟨t1,t2,t3⟩
   all_goals
    go_enter Tryz.func112,Tryz.ntmps112;go_wp2;go_ret;exact⟨zC (by simp [*,bp]),za _ _⟩
  ·have e0:(n==0)=false:=beq_eq_false_iff_ne.2 h0;have e1:(n==1)=false:=beq_eq_false_iff_ne.2 h1;go_enter Tryz.func112,Tryz.ntmps112;go_wp2;go_ret;exact⟨zC (by simp [h0,h1]),za _ _⟩
theorem wH(n:Int)(s t:ByteArray)(w:World):
 Calls Tryz.prog 112 #[.agg #[.int .i64 2,.int .i64 n,.string s,.string t]] w λe w'=>e = .returned (.bool (noB s && noB t))/\Below w.heap.size w w':=by
 rcases ji s with rfl|⟨s1,s2,s3⟩<;> rcases ji t with rfl|⟨t1,t2,t3⟩
 all_goals
  go_enter Tryz.func112,Tryz.ntmps112;go_wp2;go_ret;exact⟨zC (by simp [*,bp]),za _ _⟩
theorem mW{w w1:World}{o:Obj}(hb:Below (w.alloc o).heap.size (w.alloc o) w1)(k:Nat)(v:Value)(h:(w.alloc o).cell? ⟨w.heap.size,k,none⟩=some v):w1.cell? ⟨w.heap.size,k,none⟩=some v :=
 (hb.cell (by simp)).trans h
theorem uu(n:Int)(s t:ByteArray)(w:World)(hs:s.size<=maxLen):
 Calls Tryz.prog 112 #[.agg #[.int .i64 3,.int .i64 n,.string s,.string t]] w λe w'=>e = .returned (.bool (decide (n=0)&& noB t && decide (zA s=0)))/\Below w.heap.size w w':=by
 have P:=O (λw=>cE s w hs);by_cases h0:n=0
 ·subst h0;rcases ji t with rfl|⟨t1,t2,t3⟩
  ·by_cases h1:zA s=0
   ·rw [h1,zf] at P;go_enter Tryz.func112,Tryz.ntmps112;go_wp2_with fail;refine(P.o _).mono ?_;rintro e w1 ⟨rfl,hb⟩;go_wp2;go_ret;exact⟨zC (by simp [h1,bp]),jj hb⟩
   ·rw [zl h1] at P;go_enter Tryz.func112,Tryz.ntmps112;go_wp2_with fail;refine(P.o _).mono ?_;rintro e w1 ⟨rfl,hb⟩;go_wp2;go_ret;exact⟨zC (by simp [h1]),jj hb⟩
  ·go_enter Tryz.func112,Tryz.ntmps112;go_wp2;go_ret;exact⟨zC (by simp [t3]),za _ _⟩
 ·have e0:(n==0)=false:=beq_eq_false_iff_ne.2 h0;go_enter Tryz.func112,Tryz.ntmps112;go_wp2;go_ret;exact⟨zC (by simp [h0]),za _ _⟩
theorem rL(n:Int)(s t:ByteArray)(w:World)(hs:s.size<=maxLen):
 Calls Tryz.prog 112 #[.agg #[.int .i64 7,.int .i64 n,.string s,.string t]] w λe w'=>e = .returned (.bool (decide (n=0)&& noB t && decide (zk s=0)))/\Below w.heap.size w w':=by
 have P:=O (λw=>aj s w hs);by_cases h0:n=0
 ·subst h0;rcases ji t with rfl|⟨t1,t2,t3⟩
  ·by_cases h1:zk s=0
   ·rw [h1,zf] at P;go_enter Tryz.func112,Tryz.ntmps112;go_wp2_with fail;refine(P.o _).mono ?_;rintro e w1 ⟨rfl,hb⟩;go_wp2;go_ret;exact⟨zC (by simp [h1,bp]),jj hb⟩
   ·rw [zl h1] at P;go_enter Tryz.func112,Tryz.ntmps112;go_wp2_with fail;refine(P.o _).mono ?_;rintro e w1 ⟨rfl,hb⟩;go_wp2;go_ret;exact⟨zC (by simp [h1]),jj hb⟩
  ·go_enter Tryz.func112,Tryz.ntmps112;go_wp2;go_ret;exact⟨zC (by simp [t3]),za _ _⟩
 ·have e0:(n==0)=false:=beq_eq_false_iff_ne.2 h0;go_enter Tryz.func112,Tryz.ntmps112;go_wp2;go_ret;exact⟨zC (by simp [h0]),za _ _⟩
theorem vn(n:Int)(s t:ByteArray)(w:World)(hs:s.size<=maxLen)(ht:t.size<=maxLen):
 Calls Tryz.prog 112 #[.agg #[.int .i64 4,.int .i64 n,.string s,.string t]] w λe w'=>e = .returned (.bool (decide (n=0)&& decide (zk s=0)&& decide (zA t=0)))/\Below w.heap.size w w':=by
 have P:=O (λw=>aj s w hs);have T:=O (λw=>cE t w ht);by_cases h0:n=0
 ·subst h0;by_cases h1:zk s=0
  ·rw [h1,zf] at P;by_cases h2:zA t=0
   ·rw [h2,zf] at T;go_enter Tryz.func112,Tryz.ntmps112;go_wp2_with fail;refine(P.o _).mono ?_;rintro e w1 ⟨rfl,hb⟩;have c3:=mW hb 3 (.string t) (by simp);have HB:=O (jj hb);clear hb;go_wp2_with fail;refine(T.o _).mono ?_;rintro e w2 ⟨rfl,hb2⟩;go_wp2;go_ret;exact⟨zC (by simp [h1,h2]),HB.o.trans (hb2.mono HB.o.size)⟩
   ·rw [zl h2] at T;go_enter Tryz.func112,Tryz.ntmps112;go_wp2_with fail;refine(P.o _).mono ?_;rintro e w1 ⟨rfl,hb⟩;have c3:=mW hb 3 (.string t) (by simp);have HB:=O (jj hb);clear hb;go_wp2_with fail;refine(T.o _).mono ?_;rintro e w2 ⟨rfl,hb2⟩;go_wp2;go_ret;exact⟨zC (by simp [h1,h2]),HB.o.trans (hb2.mono HB.o.size)⟩
  ·rw [zl h1] at P;go_enter Tryz.func112,Tryz.ntmps112;go_wp2_with fail;refine(P.o _).mono ?_;rintro e w1 ⟨rfl,hb⟩;go_wp2;go_ret;exact⟨zC (by simp [h1]),jj hb⟩
 ·have e0:(n==0)=false:=beq_eq_false_iff_ne.2 h0;go_enter Tryz.func112,Tryz.ntmps112;go_wp2;go_ret;exact⟨zC (by simp [h0]),za _ _⟩
theorem tW(o n:Int)(s t:ByteArray)(w:World)(ho:o=5\/o=6):
 Calls Tryz.prog 112 #[.agg #[.int .i64 o,.int .i64 n,.string s,.string t]] w λe w'=>e = .returned (.bool (decide (0<=n)&& noB s && noB t))/\Below w.heap.size w w':=by
 by_cases h0:0<=n
 ·rcases ho with rfl|rfl <;> rcases ji s with rfl|⟨s1,s2,s3⟩<;> rcases ji t with rfl|⟨t1,t2,t3⟩
  all_goals
   go_enter Tryz.func112,Tryz.ntmps112;go_wp2;go_ret;exact⟨zC (by simp [*,bp]),za _ _⟩
 ·rcases ho with rfl|rfl
  all_goals
   go_enter Tryz.func112,Tryz.ntmps112;go_wp2;go_ret;exact⟨zC (by rw [decide_eq_false (by omega)];rfl),za _ _⟩
theorem rh(o n:Int)(s t:ByteArray)(w:World)(h1:(o==1)=false)(h2:(o==2)=false)(h3:(o==3)=false)(h4:(o==4)=false)(h5:(o==5)=false)(h6:(o==6)=false)(h7:(o==7)=false):
 Calls Tryz.prog 112 #[.agg #[.int .i64 o,.int .i64 n,.string s,.string t]] w λe w'=>e = .returned (.bool false)/\Below w.heap.size w w':=by
 go_enter Tryz.func112,Tryz.ntmps112;go_wp2;go_ret;exact⟨rfl,za _ _⟩
theorem cJ(x:Nd)(w:World)(hs:x.s.size<=maxLen)(ht:x.t.size<=maxLen):
 Calls Tryz.prog 112 #[ndV x] w λe w'=>e = .returned (.bool (zD x))/\Below w.heap.size w w':=by
 obtain⟨o,n,s,t⟩:=x;unfold ndV zD;simp only at hs ht ⊢;by_cases h1:o=1
 ·subst h1;rw [if_pos rfl];exact sA n s t w
 rw [if_neg h1];by_cases h2:o=2
 ·subst h2;rw [if_pos rfl];exact wH n s t w
 rw [if_neg h2];by_cases h3:o=3
 ·subst h3;rw [if_pos rfl];exact uu n s t w hs
 rw [if_neg h3];by_cases h4:o=4
 ·subst h4;rw [if_pos rfl];exact vn n s t w hs ht
 rw [if_neg h4];by_cases h5:o=5\/o=6
 ·rw [if_pos h5];exact tW o n s t w h5
 rw [if_neg h5];by_cases h7:o=7
 ·subst h7;rw [if_pos rfl];exact rL n s t w hs
 rw [if_neg h7];exact rh o n s t w (beq_eq_false_iff_ne.2 h1) (beq_eq_false_iff_ne.2 h2) (beq_eq_false_iff_ne.2 h3) (beq_eq_false_iff_ne.2 h4) (beq_eq_false_iff_ne.2 λq=>h5 (.inl q)) (beq_eq_false_iff_ne.2 λq=>h5 (.inr q)) (beq_eq_false_iff_ne.2 h7)
end Go.Proofs.YthidiimbeaabhaaGreatDoor
namespace Go.Proofs.YthidiimbeaabhaaGreatDoor
open Go.RowKit Go.Wk Go.Sort
theorem add_add(a:Addr)(x y:Nat):(a.add x).add y=a.add (x+y):=by
 unfold Addr.add;by_cases hx:x=0 <;> by_cases hy:y=0 <;> simp [hx,hy,Nat.add_assoc]
theorem cD(a:Addr)(x:Nat):(a.add x).block=a.block:=by unfold Addr.add;split <;> rfl
theorem cC(w:World)(r:Option Nat):w.grownBy w r:=⟨rfl,rfl,rfl,Nat.le_refl _,λ_ _ _=>rfl⟩
theorem zh{a b c:World}{r:Option Nat}(h:a.grownBy b r)(k:b.grownBy c r):a.grownBy c r :=
 ⟨k.os.trans h.os,k.tape.trans h.tape,k.output.trans h.output,Nat.le_trans h.size k.size,λi hi hn=>(k.block i (Nat.lt_of_lt_of_le hi h.size) hn).trans (h.block i hi hn)⟩
theorem jk.but{w w':World}{A:Option Addr}{P:List Nd}{R:Nat}(h:jk w A P)(hg:w.grownBy w' (some R))(hR:∀a,A=some a->a.block≠R):jk w' A P:=by
 intro k x hx;obtain⟨a,h1,h2,h3,h4,h5⟩:=h k x hx;have hn:some a.block≠some R:=λe=>hR a h1 (by injection e);have hb:=cD a (k*4);exact⟨a,h1,hg.cell h2 (by rw [hb];exact hn),hg.cell h3 (by rw [hb];exact hn),hg.cell h4 (by rw [hb];exact hn),hg.cell h5 (by rw [hb];exact hn)⟩
theorem jk.seg{w:World}{a:Addr}{P:List Nd}(h:jk w (some a) P)(i j:Nat):jk w (some (a.add (i*4))) (seg P i j):=by
 intro k x hx;have Mq:P[i+k]?=some x:=by
  unfold Wk.seg at hx;rw [List.getElem?_take] at hx;split at hx
  ·rw [List.getElem?_drop] at hx;exact hx
  ·cases hx
 obtain⟨b,h1,h2,h3,h4,h5⟩:=h (i+k) x Mq;injection h1 with h1;subst h1;have e:(a.add (i*4)).add (k*4)=a.add ((i+k)*4):=by rw [add_add,Nat.add_mul]
 exact⟨_,rfl,by rw [e];exact h2,by rw [e];exact h3,by rw [e];exact h4,by rw [e];exact h5⟩
structure fC(x:Nd):Prop where
 s:x.s.size<=maxLen
 t:x.t.size<=maxLen
 lo : -9223372036854775808<=x.n
 hi:x.n<=9223372036854775807
def jZ(P:List Nd):Prop:=∀x∈P,fC x
theorem jZ.at{P:List Nd}(h:jZ P){k:Nat}(hk:k<P.length):fC P[k]:=h _ (List.getElem_mem hk)
structure bZ(w:World)(R:Nat)(v:Value)(p:Nat):Prop where
 c0:w.cell? ⟨R,0,none⟩=some v
 c1:w.cell? ⟨R,1,none⟩=some (.int .i64 p)
 f1:w.frozen? ⟨R,1,none⟩=false
theorem bZ.keep{w w':World}{R p:Nat}{v:Value}(h:bZ w R v p)(hb:Below w.heap.size w w'):bZ w' R v p :=
 ⟨zb hb h.c0,zb hb h.c1,(hb.frozen (p:=⟨R,1,none⟩) (block_lt_of_cell h.c1)).trans h.f1⟩
theorem bZ.lt{w:World}{R p:Nat}{v:Value}(h:bZ w R v p):R<w.heap.size:=block_lt_of_cell h.c0
theorem bZ.put{w:World}{R p:Nat}{v:Value}(h:bZ w R v p)(q:Nat):bZ (w.setCell ⟨R,1,none⟩ (.int .i64 q)) R v q:=by
 refine⟨?_,?_,?_⟩
 ·exact(World.cell?_setCell_other _ _ _ _ (by simp)).trans h.c0
 ·exact World.cell?_setCell_same _ _ _ h.c1
 ·rw [World.frozen?_setCell];exact h.f1
abbrev Ie:List PanicEntry := [{ v := .iface 149 (.agg #[]),recovered:=false }]
def dq(R:Nat)(A:Option Addr)(n c p:Nat)(w:World):Option Nat->Ending->World->Prop
 | some e,x,w'=>x = .returned (.slice (A.map λa=>a.add (p*4)) (e-p) (c-p))/\bZ w' R (.slice A n c) e/\w.grownBy w' (some R)
 | none,x,w'=>x = .panicked Ie/\w.grownBy w' (some R)
theorem AX(A:Option Addr)(n c p R:Nat)(w:World)(hr:bZ w R (.slice A n c) p)(hp:n<=p):
 Calls Tryz.prog 80 #[.pointer (some ⟨R,0,none⟩)] w (dq R A n c p w none):=by
 obtain⟨c0,c1,f1⟩:=hr;go_enter Tryz.func80,Tryz.ntmps80;go_wp2_with fail;exact⟨rfl,rfl,cC _ _⟩
theorem DT(a:Addr)(P:List Nd)(n c p R:Nat)(w:World)(hr:bZ w R (.slice (some a) n c) p)(hn:n=P.length)(hp:p<n)(hP:jk w (some a) P)(hO:jZ P)(hs:zD (P[p]'(by omega))=false):
 Calls Tryz.prog 80 #[.pointer (some ⟨R,0,none⟩)] w (dq R (some a) n c p w none):=by
 obtain⟨c0,c1,f1⟩:=hr;have fj:p<P.length:=by omega
 obtain⟨b,hb0,q1,q2,q3,q4⟩:=hP p P[p] (List.getElem?_eq_getElem fj);injection hb0 with hb0;subst hb0;have S:=O (λw=>cJ P[p] w (hO.at fj).s (hO.at fj).t);rw [hs] at S;unfold ndV at S;generalize P[p]=x at *;clear hO hP hn;go_enter Tryz.func80,Tryz.ntmps80;go_wp2_with fail;refine(S.o _).mono ?_;rintro e w1 ⟨rfl,hb⟩;go_wp2_with fail;exact⟨rfl,rfl,zj hb _⟩
theorem bZ.drewN{w:World}{R p:Nat}{v:Value}(h:bZ w R v p)(k:Nat):bZ (w.drewN k) R v p:=⟨h.c0,h.c1,h.f1⟩
theorem dL{w w1:World}{r:Option Nat}(h:w.grownBy w1 r)(k:Nat):w.grownBy (w1.drewN k) r:=⟨h.os,h.tape,h.output,h.size,h.block⟩
theorem tQ{w w1:World}{r:Option Nat}(h:w.grownBy w1 r)(o:Obj):w.grownBy (w1.alloc o) r:=zh h (zj ((Below.refl _ _).alloc (Nat.le_refl _) o) _)
theorem mg{w w1:World}{A:Option Addr}{R n c p:Nat}(hr:bZ w R (.slice A n c) p)(hb:Below w.heap.size w w1)(o:Obj):
 bZ ((w1.setCell ⟨R,1,none⟩ (.int .i64 ((p:Int)+1))).alloc o) R (.slice A n c) (p+1)/\w.grownBy ((w1.setCell ⟨R,1,none⟩ (.int .i64 ((p:Int)+1))).alloc o) (some R):=by
 have h1:=((hr.keep hb).put (p+1)).keep ((Below.refl _ _).alloc (Nat.le_refl _) o);exact⟨h1,tQ (zh (zj hb _) (zu _ ⟨R,1,none⟩ _)) o⟩
theorem xM(a:Addr)(P:List Nd)(n c p R:Nat)(w:World)(hr:bZ w R (.slice (some a) n c) p)(hn:n=P.length)(hc:n<=c)(hm:n<=maxLen)(hp:p<n)(hP:jk w (some a) P)(hO:jZ P)(hs:zD (P[p]'(by omega))=true)
 (h5:((P[p]'(by omega)).op==5)=false) (h6:((P[p]'(by omega)).op==6)=false) (h7:((P[p]'(by omega)).op==7)=false):
 Calls Tryz.prog 80 #[.pointer (some ⟨R,0,none⟩)] w (dq R (some a) n c p w (some (p+1))):=by
 unfold maxLen at hm;have HR:=O hr;have HS:=O (λw1 (hb:Below w.heap.size w w1) o=>mg hr hb o);obtain⟨c0,c1,f1⟩:=hr;have fj:p<P.length:=by omega
 obtain⟨b,hb0,q1,q2,q3,q4⟩:=hP p P[p] (List.getElem?_eq_getElem fj);injection hb0 with hb0;subst hb0;have S:=O (λw=>cJ P[p] w (hO.at fj).s (hO.at fj).t);rw [hs] at S;unfold ndV at S;generalize P[p]=x at *;clear hO hP hn;go_enter Tryz.func80,Tryz.ntmps80;go_wp2_with fail;refine(S.o _).mono ?_;rintro e w1 ⟨rfl,hb⟩;replace c0:=zb hb c0;replace c1:=zb hb c1;replace q1:=zb hb q1;replace q2:=zb hb q2;replace q3:=zb hb q3;replace q4:=zb hb q4;have f1':=(hb.frozen (p:=⟨R,1,none⟩) HR.o.lt).trans f1;clear f1;have hR:=Nat.lt_of_lt_of_le HR.o.lt hb.size;have HB:=O hb;clear hb;go_wp2_with fail;go_quiet (fail);go_wp2_with fail;go_ret;obtain⟨s1,s2⟩:=HS.o _ HB.o (.cells #[.int .i64 x.op,.int .i64 x.n,.string x.s,.string x.t] 47);exact⟨by rw [show p+1-p=1 by omega];rfl,s1.drewN _,dL s2 _⟩
def Ct(P:List Nd)(A:Option Addr)(n c R:Nat)(m:Nat):Prop :=
 ∀(q:Nat) (w:World),bZ w R (.slice A n c) q->jk w A P->n-q<m->Calls Tryz.prog 80 #[.pointer (some ⟨R,0,none⟩)] w (dq R A n c q w (zm P m q))
def Cg(a:Addr)(c q:Nat):Option Nat->Value
 | none => .slice none 0 0
 | some l => .slice (some (a.add (l*4))) (q-l) (c-l)
theorem qn{v:List Nd}{f:Nat->Option Nat}{N k:Nat}{last:Option Nat}{q:Nat}(hk:k<N)(h:f q=none):zR v f (N-k) last q=none:=by
 obtain⟨j,hj⟩:∃j,N-k=j+1:=⟨N-k-1,by omega⟩
 rw [hj];simp only [zR,h]
theorem qw{v:List Nd}{f:Nat->Option Nat}{N k:Nat}{last:Option Nat}{q e:Nat}(hk:k<N)(h:f q=some e)(hr:lH v last q e=false):zR v f (N-k) last q=none:=by
 obtain⟨j,hj⟩:∃j,N-k=j+1:=⟨N-k-1,by omega⟩
 rw [hj];simp only [zR,h,hr,Bool.false_eq_true,if_false]
theorem kr{v:List Nd}{f:Nat->Option Nat}{N k:Nat}{last:Option Nat}{q e:Nat}(hk:k<N)(h:f q=some e)(hr:lH v last q e=true):zR v f (N-k) last q=zR v f (N-(k+1)) (some q) e:=by
 obtain⟨j,hj⟩:∃j,N-k=j+1:=⟨N-k-1,by omega⟩
 rw [hj,show N-(k+1)=j by omega];simp only [zR,h,hr,if_true]
theorem Cd(a:Addr)(P:List Nd)(n c p R m:Nat)(w:World)(hr:bZ w R (.slice (some a) n c) p)(hn:n=P.length)(hc:n<=c)(hm:n<=maxLen)(hp:p<n)(hP:jk w (some a) P)(hO:jZ P)(hs:zD (P[p]'(by omega))=true)
 (h5:(P[p]'(by omega)).op=5) (hR:a.block≠R) (ih:Ct P (some a) n c R m) (Lg:n-p<m+1):
 Calls Tryz.prog 80 #[.pointer (some ⟨R,0,none⟩)] w (dq R (some a) n c p w (zR P (zm P m) (P[p]'(by omega)).n.toNat none (p+1))):=by
 have HM:=O hm;unfold maxLen at hm;have HR:=O hr;have HS:=O (λw1 (hb:Below w.heap.size w w1) o=>mg hr hb o);have HP:=O hP;have HN:=O hn;have IH:=O ih;obtain⟨c0,c1,f1⟩:=hr;have fj:p<P.length:=by omega
 obtain⟨b,hb0,q1,q2,q3,q4⟩:=hP p P[p] (List.getElem?_eq_getElem fj);injection hb0 with hb0;subst hb0;have S:=O (λw=>cJ P[p] w (hO.at fj).s (hO.at fj).t);rw [hs] at S;unfold ndV at S;obtain⟨-,-,uN,LG⟩:=hO.at fj;rw [h5] at q1 S;generalize P[p]=x at *;have hx0:0<=x.n:=by
  unfold zD at hs;rw [h5] at hs;simp at hs;exact hs.1.1
 clear hP hn h5 hs uN ih;have JW:decide (n<=p)=false:=decide_eq_false (by omega);go_enter Tryz.func80,Tryz.ntmps80;go_wp2_with fail;refine(S.o _).mono ?_;rintro e w1 ⟨rfl,hb⟩;replace c0:=zb hb c0;replace c1:=zb hb c1;replace q1:=zb hb q1;replace q2:=zb hb q2;replace q3:=zb hb q3;replace q4:=zb hb q4;have f1':=(hb.frozen (p:=⟨R,1,none⟩) HR.o.lt).trans f1;clear f1;have pw:=Nat.lt_of_lt_of_le HR.o.lt hb.size;have HB:=O hb;clear hb;go_wp2_with fail;obtain⟨s1,s2⟩:=HS.o _ HB.o (.cells #[.int .i64 5,.int .i64 x.n,.string x.s,.string x.t] 47);have S1:=O s1;have S2:=O s2;clear s1 s2 c0 c1 f1' q1 q2 q3 q4 pw S HS HR;go_loopw [5,6,7,53] (λlast _ _ i wr=>∃(k q:Nat) (lo:Option Nat),i = .int .i64 k/\(k:Int)<=x.n/\last=Cg a c q lo/\Hid (lo=none↔k=0)/\Hid (∀l,lo=some l->l<q)/\q<=n/\p<q/\
  Hid (zR P (zm P m) x.n.toNat none (p+1)=zR P (zm P m) (x.n.toNat-k) lo q)/\Hid (bZ wr R (.slice (some a) n c) q)/\Hid (w.grownBy wr (some R))) (λ_ _ _ i _=>(x.n-intOf i).toNat)
 case atStart=>exact⟨0,p+1,none,rfl,hx0,rfl,⟨λ_=>rfl,λ_=>rfl⟩,(by intro l hl;cases hl),by omega,by omega,rfl,S1.o,S2.o⟩
 case round =>
  obtain⟨k,q,lo,rfl,hk,rfl,uN,La,hq,hpq,hE,oe,hgr⟩:=hrel;by_cases hlt:(k:Int)<x.n
  ·have N:=O (HP.o.but hgr.o (λa' e=>by cases e;exact hR));have C:=O (IH.o q wr oe.o N.o (by omega));rcases hf:zm P m q with _|e
   ·have HF:=O (hE.o.trans (qn (by omega) hf));rw [hf] at C;clear hf hE;go_wp2_with fail;refine C.o.mono ?_;rintro e w2 jS;obtain⟨rfl,g2⟩:=jS;go_wp2_with fail;rw [HF.o];exact⟨rfl,rfl,zh hgr.o g2⟩
   ·have HF:=O hf;have JR:=jH _ _ _ hf;rw [<-HN.o] at JR;rw [hf] at C;clear hf;by_cases hk0:k=0
    ·have hlo0:=uN.o.2 hk0;subst hlo0;have hz:decide (0<k)=false:=decide_eq_false (by omega);have HG:=O (hE.o.trans (kr (by omega) HF.o rfl));clear hE uN La hk0;unfold Cg;go_wp2_with fail;refine C.o.mono ?_;rintro e' w2 jS;obtain⟨rfl,r2,g2⟩:=jS;have R2:=O r2;have G2:=O g2;clear r2 g2;go_wp2_with fail;go_roundw
     case rel=>exact⟨k+1,e,some q,by go_num,by omega,rfl,⟨(by intro h;cases h),(by intro h;omega)⟩,(by intro l hl;cases hl;exact JR.1),by omega,by omega,HG.o,R2.o,zh hgr.o G2.o⟩
     case measure=>simp [intOf];omega
    ·have GF:decide (0<k)=true:=decide_eq_true (by omega);obtain⟨l,rfl⟩:∃l,lo=some l:=Option.ne_none_iff_exists'.1 (λh=>hk0 (uN.o.1 h));have hlq':=La.o l rfl;clear uN La hk0;have V:=O (λw2 (g2:wr.grownBy w2 (some R))=>Ay (some (a.add (l*4))) (some (a.add (q*4))) (q-l) (e-q) (c-l) (c-q) (seg P l q) (seg P q e) w2 (jv (by rw [<-HN.o];omega)).symm (jv (by rw [<-HN.o];omega)).symm (Nat.le_trans (by omega) HM.o) (Nat.le_trans (by omega) HM.o)
      ((N.o.but g2 (λa' e=>by cases e;exact hR)).seg l q) ((N.o.but g2 (λa' e=>by cases e;exact hR)).seg q e))
     unfold Cg;by_cases hcmp:zx (seg P l q) (seg P q e)<0
     ·have HG:=O (hE.o.trans (kr (by omega) HF.o (decide_eq_true hcmp)));clear hE;go_wp2_with fail;refine C.o.mono ?_;rintro e' w2 jS;obtain⟨rfl,r2,g2⟩:=jS;have R2:=O r2;have G2:=O g2;clear r2 g2;go_wp2_with fail;refine(V.o _ G2.o).mono ?_;rintro e' w3 ⟨rfl,hb3⟩;have R3:=O (R2.o.keep hb3);have G3:=O (zh G2.o (zj hb3 _));clear hb3;go_wp2_with fail;go_roundw
      case rel=>exact⟨k+1,e,some q,by go_num,by omega,rfl,⟨(by intro h;cases h),(by intro h;omega)⟩,(by intro l hl;cases hl;exact JR.1),by omega,by omega,HG.o,R3.o,zh hgr.o G3.o⟩
      case measure=>simp [intOf];omega
     ·have HG:=O (hE.o.trans (qw (by omega) HF.o (decide_eq_false hcmp)));clear hE;go_wp2_with fail;refine C.o.mono ?_;rintro e' w2 jS;obtain⟨rfl,r2,g2⟩:=jS;have G2:=O g2;clear r2 g2;go_wp2_with fail;refine(V.o _ G2.o).mono ?_;rintro e' w3 ⟨rfl,hb3⟩;go_wp2_with fail;rw [HG.o];exact⟨rfl,rfl,zh hgr.o (zh G2.o (zj hb3 _))⟩
  ·have HG:=O (hE.o.trans (by rw [show x.n.toNat-k=0 by omega];rfl:_=some q));obtain⟨d0,d1,d2⟩:=oe.o;have RD:=O oe.o;clear hE uN La oe;go_wp2_with fail;go_quiet (fail);go_wp2_with fail;go_ret;rw [HG.o];exact⟨rfl,RD.o.drewN _,dL hgr.o _⟩
end Go.Proofs.YthidiimbeaabhaaGreatDoor
namespace Go.Wk
theorem Bo(a b:List UInt8):Op.bytesLess a b=decide (Lib.compareBytes a b<0):=by
 induction a generalizing b with
 | nil=>cases b <;> simp [Op.bytesLess,Lib.compareBytes]
 | cons x a ih =>
  cases b with
  | nil=>simp [Op.bytesLess,Lib.compareBytes]
  | cons y b =>
   simp only [Op.bytesLess,Lib.compareBytes,ih]
   by_cases h1:x<y
   ·simp [h1]
   ·by_cases h2:y<x
    ·have:(x==y)=false:=by
      rw [beq_eq_false_iff_ne];intro e;subst e;exact h1 h2
     simp [h1,h2,this]
    ·have:x=y:=by
      have a1:¬x.toNat<y.toNat:=h1;have a2:¬y.toNat<x.toNat:=h2;exact UInt8.toNat_inj.1 (by omega)
     subst this;simp [h1]
theorem sn(a b:ByteArray):(ai b a<0/\Op.bytesLess a.toList b.toList=false/\(a.toList==b.toList)=false)\/(¬ai b a<0/\Op.bytesLess a.toList b.toList=true)\/(¬ai b a<0/\Op.bytesLess a.toList b.toList=false/\(a.toList==b.toList)=true):=by
 rw [Bo];have e:Lib.compareBytes a.toList b.toList=ai a b:=by unfold ai;rw [ByteArray.toList_eq,ByteArray.toList_eq]
 rw [e];have h1:=jB.anti a b;have h2:=jB.zero a b;by_cases h:ai a b<0
 ·exact .inr (.inl ⟨by omega,by simpa using h⟩)
 ·by_cases h0:ai a b=0
  ·exact .inr (.inr ⟨by omega,by simpa using h,by rw [h2.1 h0];simp⟩)
  ·refine .inl ⟨by omega,by simpa using h,?_⟩;rw [beq_eq_false_iff_ne];intro q;rw [ByteArray.toList_eq,ByteArray.toList_eq] at q;exact h0 (h2.2 (j4 q))
theorem dF{v:List Nd}{f:Nat->Option Nat}{N k:Nat}{last:ByteArray}{q:Nat}(hk:k<N)(h:jT v last q=none):zS v f (N-k) last q=none:=by
 obtain⟨j,hj⟩:∃j,N-k=j+1:=⟨N-k-1,by omega⟩
 rw [hj];simp only [zS,h]
theorem rD{v:List Nd}{f:Nat->Option Nat}{N k:Nat}{last s:ByteArray}{q:Nat}(hk:k<N)(h:jT v last q=some s)(hf:f (q+1)=none):zS v f (N-k) last q=none:=by
 obtain⟨j,hj⟩:∃j,N-k=j+1:=⟨N-k-1,by omega⟩
 rw [hj];simp only [zS,h,hf]
theorem rO{v:List Nd}{f:Nat->Option Nat}{N k:Nat}{last s:ByteArray}{q e:Nat}(hk:k<N)(h:jT v last q=some s)(hf:f (q+1)=some e):zS v f (N-k) last q=zS v f (N-(k+1)) s e:=by
 obtain⟨j,hj⟩:∃j,N-k=j+1:=⟨N-k-1,by omega⟩
 rw [hj,show N-(k+1)=j by omega];simp only [zS,h,hf]
theorem lC{v:List Nd}{last:ByteArray}{p:Nat}(h:v.length<=p):jT v last p=none:=by
 unfold jT;rw [List.getElem?_eq_none h]
theorem ng{v:List Nd}{last:ByteArray}{p:Nat}(h:p<v.length)(hq:(decide (v[p].op=7)&& zD v[p] && decide (ai last v[p].s<0))=false):jT v last p=none:=by
 unfold jT;rw [List.getElem?_eq_getElem h];simp only [hq,Bool.false_eq_true,if_false]
theorem tR{v:List Nd}{last:ByteArray}{p:Nat}(h:p<v.length)(hq:(decide (v[p].op=7)&& zD v[p] && decide (ai last v[p].s<0))=true):jT v last p=some v[p].s:=by
 unfold jT;rw [List.getElem?_eq_getElem h];simp only [hq,if_true]
end Go.Wk
namespace Go.Proofs.YthidiimbeaabhaaGreatDoor
open Go.RowKit Go.Wk Go.Sort
theorem Da(a:Addr)(P:List Nd)(n c p R m:Nat)(w:World)(hr:bZ w R (.slice (some a) n c) p)(hn:n=P.length)(hc:n<=c)(hm:n<=maxLen)(hp:p<n)(hP:jk w (some a) P)(hO:jZ P)(hs:zD (P[p]'(by omega))=true)
 (h5:(P[p]'(by omega)).op=6) (hR:a.block≠R) (ih:Ct P (some a) n c R m) (Lg:n-p<m+1):
 Calls Tryz.prog 80 #[.pointer (some ⟨R,0,none⟩)] w (dq R (some a) n c p w (zS P (zm P m) (P[p]'(by omega)).n.toNat .empty (p+1))):=by
 unfold maxLen at hm;have HR:=O hr;have HS:=O (λw1 (hb:Below w.heap.size w w1) o=>mg hr hb o);have HP:=O hP;have HN:=O hn;have HO:=O hO;have IH:=O ih;obtain⟨c0,c1,f1⟩:=hr;have fj:p<P.length:=by omega
 obtain⟨b,hb0,q1,q2,q3,q4⟩:=hP p P[p] (List.getElem?_eq_getElem fj);injection hb0 with hb0;subst hb0;have S:=O (λw=>cJ P[p] w (hO.at fj).s (hO.at fj).t);rw [hs] at S;unfold ndV at S;obtain⟨-,-,uN,LG⟩:=hO.at fj;rw [h5] at q1 S;generalize P[p]=x at *;have hx0:0<=x.n:=by
  unfold zD at hs;rw [h5] at hs;simp at hs;exact hs.1.1
 clear hP hn h5 hs uN ih hO;have JW:decide (n<=p)=false:=decide_eq_false (by omega);go_enter Tryz.func80,Tryz.ntmps80;go_wp2_with fail;refine(S.o _).mono ?_;rintro e w1 ⟨rfl,hb⟩;replace c0:=zb hb c0;replace c1:=zb hb c1;replace q1:=zb hb q1;replace q2:=zb hb q2;replace q3:=zb hb q3;replace q4:=zb hb q4;have f1':=(hb.frozen (p:=⟨R,1,none⟩) HR.o.lt).trans f1;clear f1;have pw:=Nat.lt_of_lt_of_le HR.o.lt hb.size;have HB:=O hb;clear hb;go_wp2_with fail;obtain⟨s1,s2⟩:=HS.o _ HB.o (.cells #[.int .i64 6,.int .i64 x.n,.string x.s,.string x.t] 47);have S1:=O s1;have S2:=O s2;clear s1 s2 c0 c1 f1' q1 q2 q3 q4 pw S HS HR;go_loopw [8,74] (λlast i wr=>∃(k q:Nat) (ls:ByteArray),i = .int .i64 k/\(k:Int)<=x.n/\last = .string ls/\q<=n/\p<q/\
  Hid (zS P (zm P m) x.n.toNat .empty (p+1)=zS P (zm P m) (x.n.toNat-k) ls q)/\Hid (bZ wr R (.slice (some a) n c) q)/\Hid (w.grownBy wr (some R))) (λ_ i _=>(x.n-intOf i).toNat)
 case atStart=>exact⟨0,p+1,.empty,rfl,hx0,rfl,by omega,by omega,rfl,S1.o,S2.o⟩
 case round =>
  obtain⟨k,q,ls,rfl,hk,rfl,hq,hpq,hE,oe,hgr⟩:=hrel;by_cases hlt:(k:Int)<x.n
  ·have N:=O (HP.o.but hgr.o (λa' e=>by cases e;exact hR));have kc0:=cell_regrown oe.o.c0;have kc1:=cell_regrown oe.o.c1;by_cases Ll:q<n
   ·have hq':q<P.length:=by rw [<-HN.o];exact Ll
    obtain⟨b,hb0,q1,q2,q3,q4⟩:=N.o q P[q] (List.getElem?_eq_getElem hq');injection hb0 with hb0;subst hb0;have hnq:decide (n<=q)=false:=decide_eq_false (by omega);by_cases h7:P[q].op=7
    ·rw [h7] at q1;have hy:=HO.o.at hq';have S0:Hid (∀w,Calls Tryz.prog 112 #[.agg #[.int .i64 7,.int .i64 P[q].n,.string P[q].s,.string P[q].t]] w λe w'=>e = .returned (.bool (zD P[q]))/\Below w.heap.size w w'):=
      O (λw=>by have:=cJ P[q] w hy.s hy.t;unfold ndV at this;rw [h7] at this;exact this)
     have HY:=O (show∀b,(decide (P[q].op=7)&& zD P[q] && decide (ai ls P[q].s<0))=b->(b=true->jT P ls q=some P[q].s)/\(b=false->jT P ls q=none) from
      λb hb=>⟨λe=>tR hq' (hb.trans e),λe=>ng hq' (hb.trans e)⟩)
     rw [h7] at HY;generalize P[q]=y at *;clear h7 hy;have kq1:=cell_regrown q1;have kq2:=cell_regrown q2;have kq3:=cell_regrown q3;have kq4:=cell_regrown q4;by_cases hsy:zD y=true
     ·rw [hsy] at S0 HY;clear hsy;rcases sn y.s ls with ⟨l0,l1,l2⟩|hl
      ·have HF:=O ((HY.o true (by simp [l0])).1 rfl);have cS:∀d os,Calls Tryz.prog 112 #[.agg #[.int .i64 7,.int .i64 y.n,.string y.s,.string y.t]] (grow (redrawn wr d) os) λe w''=>e = .returned (.bool true)/\∃p:Regrown,w''=grow (redrawn wr p.d) p.os:=λd os=>Calls.regrown_of (S0.o _);clear l0 HY S0;have Q1:=O q1;have Q2:=O q2;have Q3:=O q3;have Q4:=O q4;clear q1 q2 q3 q4;go_wp2_with fail;refine wp_region_quiet_below (by kernel_rfl) (by kernel_rfl) ?_
       repeat (first|go_big_quiet_step (exact cS _ _)|quiet_step (exact cS _ _))
       refine wpQuiet_nil ?_;intro w2 hw';have b2:Below wr.heap.size wr w2:=by obtain⟨⟨d,os⟩,rfl⟩:=hw';exact below_regrown _ _ _
       clear hw' kq1 kq2 kq3 kq4 kc0 kc1 cS;have rd2:=oe.o.keep b2;have q3:=zb b2 Q3.o;have nd2:=N.o.keep b2;have RS:=O (λk=>(rd2.put (q+1)).drewN k);have gs:wr.grownBy (w2.setCell ⟨R,1,none⟩ (.int .i64 (q+1:Nat))) (some R):=zh (zj b2 _) (zu _ ⟨R,1,none⟩ _);have GS:=O (λk=>dL gs k);have NS:=O (λk=>N.o.but (GS.o k) (λa' e=>by cases e;exact hR));have hl2:=rd2.lt;obtain⟨d0,d1,d2⟩:=rd2;have C:=O (λk=>IH.o (q+1) _ (RS.o k) (NS.o k) (by omega));clear b2 nd2 gs Q1 Q2 Q3 Q4 l1 l2 N oe NS;rcases hf:zm P m (q+1) with _|e
       ·have HG:=O (hE.o.trans (rD (by omega) HF.o hf));rw [hf] at C;clear hE HF hf;go_wp2_with fail;go_quiet (fail);go_wp2_with fail;refine(C.o _).mono ?_;rintro e w3 jS;obtain⟨rfl,g3⟩:=jS;go_wp2_with fail;rw [HG.o];exact⟨rfl,rfl,zh hgr.o (zh (GS.o _) g3)⟩
       ·have HG:=O (hE.o.trans (rO (by omega) HF.o hf));have JR:=jH _ _ _ hf;rw [<-HN.o] at JR;rw [hf] at C;clear hE HF hf;go_wp2_with fail;go_quiet (fail);go_wp2_with fail;refine(C.o _).mono ?_;rintro e' w3 jS;obtain⟨rfl,r3,g3⟩:=jS;have R3:=O r3;have G3:=O (zh hgr.o (zh (GS.o _) g3));clear r3 g3;go_wp2_with fail;go_roundw
        case rel=>exact⟨k+1,e,_,by go_num,by omega,rfl,by omega,by omega,HG.o,R3.o,G3.o⟩
        case measure=>simp [intOf];omega
      ·have HF:=O ((HY.o false (by rcases hl with ⟨l0,_⟩|⟨l0,_⟩<;> simp [l0])).2 rfl);have HG:=O (hE.o.trans (dF (by omega) HF.o));have cS:∀d os,Calls Tryz.prog 112 #[.agg #[.int .i64 7,.int .i64 y.n,.string y.s,.string y.t]] (grow (redrawn wr d) os) λe w''=>e = .returned (.bool true)/\∃p:Regrown,w''=grow (redrawn wr p.d) p.os:=λd os=>Calls.regrown_of (S0.o _);clear hE HY S0;rcases hl with ⟨-,l1⟩|⟨-,l1,l2⟩
       all_goals
        go_wp2_with fail;refine wp_region_quiet_below (by kernel_rfl) (by kernel_rfl) ?_
        repeat (first|go_big_quiet_step (exact cS _ _)|quiet_step (exact cS _ _))
        refine wpQuiet_nil ?_;intro w2 hw';have B2:=O (show Below wr.heap.size wr w2 by obtain⟨⟨d,os⟩,rfl⟩:=hw';exact below_regrown _ _ _);clear hw';go_wp2_with fail;rw [HG.o];exact⟨rfl,rfl,zh hgr.o (zj B2.o _)⟩
     ·rw [Bool.not_eq_true] at hsy;rw [hsy] at S0 HY;clear hsy;have HF:=O ((HY.o false (by simp)).2 rfl);have HG:=O (hE.o.trans (dF (by omega) HF.o));have cS:∀d os,Calls Tryz.prog 112 #[.agg #[.int .i64 7,.int .i64 y.n,.string y.s,.string y.t]] (grow (redrawn wr d) os) λe w''=>e = .returned (.bool false)/\∃p:Regrown,w''=grow (redrawn wr p.d) p.os:=λd os=>Calls.regrown_of (S0.o _);clear hE HY S0;go_wp2_with fail;refine wp_region_quiet_below (by kernel_rfl) (by kernel_rfl) ?_
      repeat (first|go_big_quiet_step (exact cS _ _)|quiet_step (exact cS _ _))
      refine wpQuiet_nil ?_;intro w2 hw';have B2:=O (show Below wr.heap.size wr w2 by obtain⟨⟨d,os⟩,rfl⟩:=hw';exact below_regrown _ _ _);clear hw';go_wp2_with fail;rw [HG.o];exact⟨rfl,rfl,zh hgr.o (zj B2.o _)⟩
    ·have hs7:(P[q].op != 7)=true:=by rw [bne_iff_ne];exact h7
     have HG:=O (hE.o.trans (dF (by omega) (ng hq' (by simp [h7]))));clear hE h7;have kq1:=cell_regrown q1;go_wp2_with fail;refine wp_region_quiet_below (by kernel_rfl) (by kernel_rfl) ?_
     repeat (first|go_big_quiet_step (fail)|quiet_step (fail))
     refine wpQuiet_nil ?_;intro w2 hw';have B2:=O (show Below wr.heap.size wr w2 by obtain⟨⟨d,os⟩,rfl⟩:=hw';exact below_regrown _ _ _);clear hw';go_wp2_with fail;rw [HG.o];exact⟨rfl,rfl,zh hgr.o (zj B2.o _)⟩
   ·have hnq:decide (n<=q)=true:=decide_eq_true (by omega);have HG:=O (hE.o.trans (dF (by omega) (lC (by rw [<-HN.o];omega))));clear hE;go_wp2_with fail;refine wp_region_quiet_below (by kernel_rfl) (by kernel_rfl) ?_
    repeat (first|go_big_quiet_step (fail)|quiet_step (fail))
    refine wpQuiet_nil ?_;intro w2 hw';have B2:=O (show Below wr.heap.size wr w2 by obtain⟨⟨d,os⟩,rfl⟩:=hw';exact below_regrown _ _ _);clear hw';go_wp2_with fail;rw [HG.o];exact⟨rfl,rfl,zh hgr.o (zj B2.o _)⟩
  ·have HG:=O (hE.o.trans (by rw [show x.n.toNat-k=0 by omega];rfl:_=some q));obtain⟨d0,d1,d2⟩:=oe.o;have RD:=O oe.o;clear hE oe;go_wp2_with fail;go_quiet (fail);go_wp2_with fail;go_ret;rw [HG.o];exact⟨rfl,RD.o.drewN _,dL hgr.o _⟩
end Go.Proofs.YthidiimbeaabhaaGreatDoor
