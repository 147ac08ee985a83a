/-
  The order of nodes: val.compare, slices.CompareFunc, val.order. The contracts of the checks of names and texts, of the program and of the reference. ..
-/
import Derived.Test.YtjcdeikbghjpkaaGreatDoorQ1
import Derived.Test.YtjcdeikbghjpkaaGreatDoorQ15
set_option maxRecDepth 100000
set_option maxHeartbeats 4000000
namespace Go.Proofs.YtjcdeikbghjpkaaGreatDoor
open Go.RowKit Go.Wk
def ndV(x:Nd):Value := .agg #[.int .i64 x.op,.int .i64 x.n,.string x.s,.string x.t]
def jM(w:World)(A:Option Addr)(P:List Nd):Prop :=
 ∀(k:Nat) (x:Nd),P[k]?=some x→∃a,A=some a∧w.cell? (a.add (k*4))=some (.int .i64 x.op)∧
  w.cell? ⟨(a.add (k*4)).block,(a.add (k*4)).off+1,none⟩=some (.int .i64 x.n)∧
  w.cell? ⟨(a.add (k*4)).block,(a.add (k*4)).off+2,none⟩=some (.string x.s)∧
  w.cell? ⟨(a.add (k*4)).block,(a.add (k*4)).off+3,none⟩=some (.string x.t)
theorem jM.keep{w w':World}{A:Option Addr}{P:List Nd}(h:jM w A P)(hb:Below w.heap.size w w'):jM w' A P :=
 fun k x hx=>let ⟨a,h1,h2,h3,h4,h5⟩:=h k x hx;⟨a,h1,zb hb h2,zb hb h3,zb hb h4,zb hb h5⟩
theorem cmp_Compare_int(x y:Int)(w:World):Calls Tryz.prog 168 #[.int .i64 x,.int .i64 y] w fun e w'=>e = .returned (.int .i64 (zbE x y))∧w'=w :=
 (Tryz.cmp_Compare_int x y w).mono fun _ _ h=>h
theorem zrT(x y z u:Int)(ad:Addr)(w:World)(h0:w.cell? ad=some (.int .i64 x))(h1:w.cell? ⟨ad.block,ad.off+1,none⟩=some (.int .i64 y))
 (h2:w.cell? ⟨ad.block,ad.off+2,none⟩=some (.int .i64 z)) (h3:w.cell? ⟨ad.block,ad.off+3,none⟩=some (.int .i64 u)):
 Calls Tryz.prog 167 #[.slice (some ad) 4 4] w fun e w'=>e = .returned (.int .i64 (or4 x y z u))∧w=w':=by
 go_enter Tryz.func167,Tryz.ntmps167;go_wp2;go_loop [5,8] (fun s i=>∃k:Nat,k≤4∧i = .int .i64 k∧(1≤k→x=0)∧(2≤k→y=0)∧(3≤k→z=0)∧(4≤k→u=0)) (fun _ i=>4-(intOf i).toNat)
 case atStart=>exact⟨0,by omega,rfl,by omega,by omega,by omega,by omega⟩
 case round =>
  obtain⟨k,hk,rfl,hx,hy,hz,hu⟩:=hrel;have hk3:k=0∨k=1∨k=2∨k=3∨k=4:=by omega
  rcases hk3 with rfl|rfl|rfl|rfl|rfl
  ·clear hx hy hz hu;by_cases hx0:x=0
   ·subst hx0;go_wp2;go_round
    case rel=>exact⟨1,by omega,by go_num,by simp,by omega,by omega,by omega⟩
    case measure=>simp [intOf]
   ·go_wp2;go_ret;exact⟨jI (by simp [or4,or2,hx0]),rfl⟩
  ·have hx0:=hx (by omega);clear hx hy hz hu;subst hx0;by_cases hy0:y=0
   ·subst hy0;go_wp2;go_round
    case rel=>exact⟨2,by omega,by go_num,by simp,by simp,by omega,by omega⟩
    case measure=>simp [intOf]
   ·go_wp2;go_ret;exact⟨jI (by simp [or4,or2,hy0]),rfl⟩
  ·have hx0:=hx (by omega);have hy0:=hy (by omega);clear hx hy hz hu;subst hx0 hy0;by_cases hz0:z=0
   ·subst hz0;go_wp2;go_round
    case rel=>exact⟨3,by omega,by go_num,by simp,by simp,by simp,by omega⟩
    case measure=>simp [intOf]
   ·go_wp2;go_ret;exact⟨jI (by simp [or4,or2,hz0]),rfl⟩
  ·have hx0:=hx (by omega);have hy0:=hy (by omega);have hz0:=hz (by omega);clear hx hy hz hu;subst hx0 hy0 hz0;by_cases hu0:u=0
   ·subst hu0;go_wp2;go_round
    case rel=>exact⟨4,by omega,by go_num,by simp,by simp,by simp,by simp⟩
    case measure=>simp [intOf]
   ·go_wp2;go_ret;exact⟨jI (by simp [or4,or2]),rfl⟩
  ·have hx0:=hx (by omega);have hy0:=hy (by omega);have hz0:=hz (by omega);have hu0:=hu (by omega);clear hx hy hz hu;subst hx0 hy0 hz0 hu0;go_wp2;go_ret;exact⟨jI (by simp [or4,or2]),rfl⟩
theorem zmz(x y:Nd)(w:World):
 Calls Tryz.prog 145 #[ndV x,ndV y] w fun e w'=>e = .returned (.int .i64 (zg6 x y))∧Below w.heap.size w w':=by
 unfold ndV;go_enter Tryz.func145,Tryz.ntmps145;go_wp2;refine znF 20 (by kernel_rfl) (by kernel_rfl) ?_;simp only [List.take_succ_cons,List.take_zero,List.drop_succ_cons,List.drop_zero]
 iterate 4 still_step
 still_call (cmp_Compare_int _ _ _)
 iterate 4 still_step
 still_call (cmp_Compare_int _ _ _)
 iterate 4 still_step
 still_call (strings_Compare _ _ _)
 iterate 4 still_step
 still_call (strings_Compare _ _ _);refine wpStill_nil ?_;go_wp2_with (go_at_call 167;refine(zrT (zbE x.op y.op) (zbE x.n y.n) (zO x.s y.s) (zO x.t y.t) _ _ (by go_simp) (by go_simp) (by go_simp) (by go_simp)).mono ?_;rintro e w' ⟨rfl,rfl⟩);go_ret;exact⟨rfl,((((Below.refl _ _).alloc (Nat.le_refl _) _).alloc (by simp) _).alloc (by simp;omega) _).drew⟩
theorem zdo{P Q:List Nd}{k:Nat}(h1:k<P.length)(h2:k<Q.length):zW (P.drop k) (Q.drop k)=or2 (zg6 P[k] Q[k]) (zW (P.drop (k+1)) (Q.drop (k+1))):=by
 rw [List.drop_eq_getElem_cons h1,List.drop_eq_getElem_cons h2];rfl
theorem zg3{P Q:List Nd}{k:Nat}(h1:P.length≤k)(h2:k<Q.length):zW (P.drop k) (Q.drop k)= -1:=by
 rw [List.drop_of_length_le h1,List.drop_eq_getElem_cons h2];rfl
theorem zg4{P Q:List Nd}{k:Nat}(h1:k<P.length)(h2:Q.length≤k):zW (P.drop k) (Q.drop k)=1:=by
 rw [List.drop_of_length_le h2,List.drop_eq_getElem_cons h1];rfl
theorem zc0{P Q:List Nd}{k:Nat}(h1:P.length≤k)(h2:Q.length≤k):zW (P.drop k) (Q.drop k)=0:=by
 rw [List.drop_of_length_le h1,List.drop_of_length_le h2];rfl
theorem zhl(A B:Option Addr)(n m c d:Nat)(P Q:List Nd)(w:World)(hn:n=P.length)(hm:m=Q.length)(hln:n≤maxLen)(_hlm:m≤maxLen)(hP:jM w A P)(hQ:jM w B Q):
 Calls Tryz.prog 144 #[.slice A n c,.slice B m d,.func (.func 145) #[] #[]] w fun e w'=>e = .returned (.int .i64 (zW P Q))∧Below w.heap.size w w':=by
 unfold maxLen at hln _hlm;have HP:=hi9 hP;have HQ:=hi9 hQ;have HN:=hi9 hn;have HM:=hi9 hm;clear hP hQ hn hm;go_enter Tryz.func144,Tryz.ntmps144;go_wp2;go_loopw [7,8,9,10,13] (fun _ _ _ _ i wr=>∃k:Nat,k≤n∧k≤m∧i = .int .i64 k∧Hid (zW P Q=zW (P.drop k) (Q.drop k))∧Below w.heap.size w wr) (fun _ _ _ _ i _=>n-(intOf i).toNat)
 case atStart=>exact⟨0,Nat.zero_le _,Nat.zero_le _,rfl,rfl,Below.refl _ _⟩
 case round =>
  obtain⟨k,hkn,hkm,rfl,hc,hbel⟩:=hrel;obtain⟨wo,rfl⟩:∃wo:World,wo=wr:=⟨_,rfl⟩
  by_cases h1:k<n
  ·have h1':k<P.length:=by rw [←HN.out];exact h1
   obtain⟨a,rfl,a1,a2,a3,a4⟩:=(HP.out.keep hbel) k P[k] (List.getElem?_eq_getElem h1');by_cases h2:k<m
   ·have h2':k<Q.length:=by rw [←HM.out];exact h2
    obtain⟨b,rfl,b1,b2,b3,b4⟩:=(HQ.out.keep hbel) k Q[k] (List.getElem?_eq_getElem h2');have HA:=hi9 (hc.out.trans (zdo h1' h2'));have g:∀(o:Obj) (x:Addr) (v:Value),wo.cell? x=some v→(wo.alloc o).cell? x=some v:=fun o x v h=>zb ((Below.refl _ _).alloc (Nat.le_refl _) o) h;replace b1:=fun o=>g o _ _ b1;replace b2:=fun o=>g o _ _ b2;replace b3:=fun o=>g o _ _ b3;replace b4:=fun o=>g o _ _ b4;clear hc g;go_wp2_with fail;refine(zmz P[k] Q[k] _).mono ?_;rintro e w1 ⟨rfl,hb1⟩;have hbw:=hi9 ((hbel.alloc (by have:=hbel.size;omega) _).alloc (by have:=hbel.size;simp;omega) _ |>.trans (hb1.mono (by have:=hbel.size;simp;omega)));clear hb1 b1 b2 b3 b4 a1 a2 a3 a4;by_cases h0:zg6 P[k] Q[k]=0
    ·have HC:=hi9 (HA.out.trans (by rw [h0];rfl:_=zW (P.drop (k+1)) (Q.drop (k+1))));rw [h0];clear h0 HA;go_wp2;go_roundw
     case rel=>exact⟨k+1,by omega,by omega,by go_num,HC,hbw.out⟩
     case measure=>simp [intOf];omega
    ·have HC:=hi9 (HA.out.trans (zB h0 _));have h0':(zg6 P[k] Q[k]==0)=false:=beq_eq_false_iff_ne.2 h0;clear HA;go_wp2;go_ret;exact⟨jI HC.out.symm,hbw.out⟩
   ·have HA:=hi9 (hc.out.trans (zg4 h1' (by rw [←HM.out];omega)));clear hc;go_wp2;go_ret;exact⟨jI HA.out.symm,hbel.alloc (by have:=hbel.size;omega) _⟩
  ·obtain rfl:k=n:=by omega
   by_cases h2:k<m
   ·have HA:=hi9 (hc.out.trans (zg3 (by rw [←HN.out];omega) (by rw [←HM.out];exact h2)));clear hc;go_wp2;go_ret;exact⟨jI HA.out.symm,hbel⟩
   ·have HA:=hi9 (hc.out.trans (zc0 (by rw [←HN.out];omega) (by rw [←HM.out];omega)));clear hc;go_wp2;go_ret;exact⟨jI HA.out.symm,hbel⟩
theorem zoV(A B:Option Addr)(n m c d:Nat)(P Q:List Nd)(w:World)(hn:n=P.length)(hm:m=Q.length)(hln:n≤maxLen)(hlm:m≤maxLen)(hP:jM w A P)(hQ:jM w B Q):
 Calls Tryz.prog 132 #[.slice A n c,.slice B m d] w fun e w'=>e = .returned (.int .i64 (zW P Q))∧Below w.heap.size w w':=by
 have H:=zhl A B n m c d P Q w hn hm hln hlm hP hQ;clear hn hm hP hQ;go_enter Tryz.func132,Tryz.ntmps132;go_wp2_with fail;refine H.mono ?_;rintro e w1 ⟨rfl,hb1⟩;go_wp2;go_ret;exact⟨rfl,hb1⟩
theorem zea(n:Int)(w:World)(h0:0≤n)(h1:n≤255):Calls Tryz.prog 69 #[.int .u8 n] w fun e w'=>e = .returned (.bool (zcb n))∧w=w':=by
 go_enter Tryz.func69,Tryz.ntmps69;go_wp2
 all_goals (go_ret;exact⟨zi (by unfold zcb;rw [Bool.eq_iff_iff];simp;omega),rfl⟩)
theorem zm9(n:Int)(w:World)(h0:0≤n)(h1:n≤255):Calls Tryz.prog 70 #[.int .u8 n] w fun e w'=>e = .returned (.bool (zfJ n))∧w=w':=by
 go_enter Tryz.func70,Tryz.ntmps70;go_wp2
 all_goals (go_ret;exact⟨zi (by unfold zfJ;rw [Bool.eq_iff_iff];simp;omega),rfl⟩)
theorem zeF(s:ByteArray)(w:World):∃(c:Nat) (w1:World),(convert 9 117 (.string s)).run Tryz.prog w = .ok (.slice (some ⟨w.heap.size,0,none⟩) s.size c) w1∧Below w.heap.size w w1∧
 ∀(k:Nat) (h:k<s.size),w1.cell? ⟨w.heap.size,k,none⟩=some (.int .u8 (s[k].toNat:Int)):=by
 have h:=run_bytes_of_string (P:=Tryz.prog) w 9 117 5 s Tryz.underlying9 Tryz.underlying117 Tryz.underlying5;refine⟨_,_,h,((Below.refl _ _).drew).alloc (by simp) _,fun k hk=>?_⟩;have e:w.heap.size=w.drew.heap.size:=rfl;rw [e,World.cell?_alloc_mark,bytesRow_at s _ k hk];rfl
theorem zhd(s:ByteArray)(w:World)(h:60<s.size)(hs:s.size≤maxLen):Calls Tryz.prog 72 #[.string s] w fun e w'=>e = .returned (zao (zk s))∧Below w.heap.size w w':=by
 have H:=hi9 (show zk s=4 by unfold zk;rw [if_pos h]);unfold maxLen at hs;go_enter Tryz.func72,Tryz.ntmps72;go_wp2;go_ret;exact⟨by rw [H.out];rfl,Below.refl _ _⟩
theorem zgp(s:ByteArray)(w:World)(hs:s.size≤60):Calls Tryz.prog 72 #[.string s] w fun e w'=>e = .returned (zao (zk s))∧Below w.heap.size w w':=by
 have H:=hi9 (show zk s=if s.data.toList.all zaR then 0 else 1 by unfold zk;rw [if_neg (by omega)]);obtain⟨c,w1,hrun,hb,hcell⟩:=zeF s w;have HC:=hi9 hcell;clear hcell;go_enter Tryz.func72,Tryz.ntmps72;go_wp2;clear hrun;go_loop [2,4,12] (fun r _ i=>∃k:Nat,k≤s.size∧i = .int .i64 k∧r = .nilIface∧Hid ((s.data.toList.take k).all zaR=true)) (fun _ _ i=>s.size-(intOf i).toNat)
 case atStart=>exact⟨0,Nat.zero_le _,rfl,rfl,by simp [Hid]⟩
 case round =>
  obtain⟨k,hk,rfl,rfl,hall⟩:=hrel;by_cases hlt:k<s.size
  ·have hc:=HC.out k hlt;by_cases hp:32≤(s[k].toNat:Int)∧(s[k].toNat:Int)≤126
   ·have H2:=hi9 (show(s.data.toList.take (k+1)).all zaR=true by
     rw [zhN s zaR hlt,hall.out,Bool.true_and];unfold zaR zmm;simp;omega)
    obtain⟨hp1,hp2⟩:=hp
    go_wp2
    go_round
    case rel=>exact⟨k+1,by omega,by go_num,rfl,H2⟩
    case measure=>simp [intOf];omega
   ·have H2:=hi9 (show s.data.toList.all zaR=false from zfS hlt (by unfold zaR zmm;rw [Bool.eq_false_iff];simp;omega));by_cases hq:(s[k].toNat:Int)<32
    ·clear hp;go_wp2;go_ret;exact⟨by rw [H.out,H2.out];rfl,hb⟩
    ·have hq2:126<(s[k].toNat:Int):=by omega
     clear hp;go_wp2;go_ret;exact⟨by rw [H.out,H2.out];rfl,hb⟩
  ·have H2:=hi9 (show s.data.toList.all zaR=true from(zkT (k:=k) (by omega)).symm.trans hall.out);clear hall;go_wp2;go_ret;exact⟨by rw [H.out,H2.out];rfl,hb⟩
theorem zdE(s:ByteArray)(w:World)(hs:s.size≤maxLen):Calls Tryz.prog 72 #[.string s] w fun e w'=>e = .returned (zao (zk s))∧Below w.heap.size w w':=by
 by_cases h:60<s.size
 ·exact zhd s w h hs
 ·exact zgp s w (by omega)
theorem zgx(s:ByteArray)(w:World)(h:s.size=0):Calls Tryz.prog 36 #[.string s] w fun e w'=>e = .returned (zao (zd s))∧Below w.heap.size w w':=by
 have H:=hi9 (show zd s=1 by unfold zd;rw [zfC h];rfl);have h1:s=⟨#[]⟩:=zaD (List.eq_nil_of_length_eq_zero (by rw [Array.length_toList];exact h));clear h;subst h1;go_enter Tryz.func36,Tryz.ntmps36;go_wp2;go_ret;exact⟨by rw [H.out];rfl,Below.refl _ _⟩
theorem zbs{s:ByteArray}(h:0<s.size):s.toList = []↔False:=by
 rw [ByteArray.toList_eq];constructor
 ·intro h';have:s.data.toList.length=0:=by rw [h'];rfl
  rw [Array.length_toList] at this;exact absurd (show s.size=0 from this) (by omega)
 ·exact False.elim
theorem zgC(s:ByteArray)(w:World)(h:0<s.size)(hl:zcb (s[0].toNat:Int)=false):Calls Tryz.prog 36 #[.string s] w fun e w'=>e = .returned (zao (zd s))∧Below w.heap.size w w':=by
 have H:=hi9 (show zd s=1 by unfold zd;rw [zdK h hl];rfl);have he:s.toList.isEmpty=false:=by rw [List.isEmpty_eq_false_iff];exact fun q=>(zbs h).1 q
 have he2:¬s.toList = []:=fun q=>(zbs h).1 q;have C1:=hi9 (fun w=>zea (s[0].toNat:Int) w (by omega) (by have:=s[0].toNat_lt;omega));rw [hl] at C1;clear hl;go_enter Tryz.func36,Tryz.ntmps36;go_wp2_with (go_at_call 69;refine(C1.out _).mono ?_;rintro e w' ⟨rfl,rfl⟩);go_ret;exact⟨by rw [H.out];rfl,Below.refl _ _⟩
theorem zhf(s:ByteArray)(w:World)(h:0<s.size)(hs:s.size≤maxLen)(hl:zcb (s[0].toNat:Int)=true):Calls Tryz.prog 36 #[.string s] w fun e w'=>e = .returned (zao (zd s))∧Below w.heap.size w w':=by
 have H:=hi9 (show zd s=if s.data.toList.all zbO then(if 20<s.size then 4 else 0) else 1 by unfold zd;rw [zhW h hl]);have he:s.toList.isEmpty=false:=by rw [List.isEmpty_eq_false_iff];exact fun q=>(zbs h).1 q
 have he2:¬s.toList = []:=fun q=>(zbs h).1 q;have C1:=hi9 (fun w=>zea (s[0].toNat:Int) w (by omega) (by have:=s[0].toNat_lt;omega));rw [hl] at C1;clear hl;unfold maxLen at hs;obtain⟨c,w1,hrun,hb,hcell⟩:=zeF s w;have HC:=hi9 hcell;clear hcell;go_enter Tryz.func36,Tryz.ntmps36;go_wp2_with (go_at_call 69;refine(C1.out _).mono ?_;rintro e w' ⟨rfl,rfl⟩);clear hrun C1;go_loop [2,4,17] (fun r _ i=>∃k:Nat,k≤s.size∧i = .int .i64 k∧r = .nilIface∧Hid ((s.data.toList.take k).all zbO=true)) (fun _ _ i=>s.size-(intOf i).toNat)
 case atStart=>exact⟨0,Nat.zero_le _,rfl,rfl,by simp [Hid]⟩
 case round =>
  obtain⟨k,hk,rfl,rfl,hall⟩:=hrel;by_cases hlt:k<s.size
  ·have hc:=HC.out k hlt;have C1:=hi9 (fun w=>zea (s[k].toNat:Int) w (by omega) (by have:=s[k].toNat_lt;omega));have C2:=hi9 (fun w=>zm9 (s[k].toNat:Int) w (by omega) (by have:=s[k].toNat_lt;omega));have hst:zbO s[k]=(zcb (s[k].toNat:Int)|| zfJ (s[k].toNat:Int)):=rfl;have G1:=hi9 (fun q:zbO s[k]=true=>(show(s.data.toList.take (k+1)).all zbO=true by rw [zhN s zbO hlt,hall.out,Bool.true_and,q]));have G2:=hi9 (fun q:zbO s[k]=false=>(zfS hlt q:s.data.toList.all zbO=false));rw [hst] at G1 G2;clear hst hall;rcases hx:zcb (s[k].toNat:Int) with _|_ <;> rcases hy:zfJ (s[k].toNat:Int) with _|_ <;> rw [hx] at C1 G1 G2 <;> rw [hy] at C2 G1 G2 <;> clear hx hy
   all_goals go_wp2_with (first|(go_at_call 69;refine(C1.out _).mono ?_;rintro e w' ⟨rfl,rfl⟩)|(go_at_call 70;refine(C2.out _).mono ?_;rintro e w' ⟨rfl,rfl⟩))
   ·go_ret;exact⟨by rw [H.out,G2.out rfl];rfl,hb⟩
   all_goals
    go_round
    case rel=>exact⟨k+1,by omega,by go_num,rfl,G1.out rfl⟩
    case measure=>simp [intOf];omega
  ·have H2:=hi9 (show s.data.toList.all zbO=true from(zkT (k:=k) (by omega)).symm.trans hall.out);clear hall;by_cases h20:20<s.size
   ·have H3:=hi9 (show zd s=4 by rw [H.out,H2.out,if_pos rfl,if_pos h20]);clear H H2;go_wp2;go_ret;exact⟨by rw [H3.out];rfl,hb⟩
   ·have H3:=hi9 (show zd s=0 by rw [H.out,H2.out,if_pos rfl,if_neg h20]);clear H H2;go_wp2;go_ret;exact⟨by rw [H3.out];rfl,hb⟩
theorem zaB(s:ByteArray)(w:World)(hs:s.size≤maxLen):Calls Tryz.prog 36 #[.string s] w fun e w'=>e = .returned (zao (zd s))∧Below w.heap.size w w':=by
 by_cases h:s.size=0
 ·exact zgx s w h
 ·rcases hl:zcb ((s[0]'(by omega)).toNat:Int) with _|_
  ·exact zgC s w (by omega) hl
  ·exact zhf s w (by omega) hs hl
theorem zn(s:ByteArray):s=⟨#[]⟩∨(s.toList.isEmpty=false∧(¬s.toList = [])∧noB s=false):=by
 by_cases h:0<s.size
 ·exact .inr ⟨by rw [List.isEmpty_eq_false_iff];exact fun q=>(zbs h).1 q,fun q=>(zbs h).1 q,by unfold noB;rw [decide_eq_false_iff_not];omega⟩
 ·exact .inl (zaD (List.eq_nil_of_length_eq_zero (by rw [Array.length_toList];exact(by omega:s.size=0))))
theorem jw:noB ⟨#[]⟩=true:=rfl
theorem zr{w w1:World}{o:Obj}(h:Below (w.alloc o).heap.size (w.alloc o) w1):Below w.heap.size w w1:=(za w o).trans (h.mono (by simp))
theorem zlI(n:Int)(s t:ByteArray)(w:World):
 Calls Tryz.prog 131 #[.agg #[.int .i64 1,.int .i64 n,.string s,.string t]] w fun e w'=>e = .returned (.bool ((decide (n=0)|| decide (n=1))&& noB s && noB t))∧Below w.heap.size w w':=by
 by_cases h0:n=0
 ·subst h0;rcases zn s with rfl|⟨s1,s2,s3⟩<;> rcases zn t with rfl|⟨t1,t2,t3⟩
  all_goals
   go_enter Tryz.func131,Tryz.ntmps131;go_wp2;go_ret;exact⟨zi (by simp [*,jw]),za _ _⟩
 ·by_cases h1:n=1
  ·subst h1;clear h0;rcases zn s with rfl|⟨s1,s2,s3⟩<;> rcases zn t with rfl|⟨t1,t2,t3⟩
   all_goals
    go_enter Tryz.func131,Tryz.ntmps131;go_wp2;go_ret;exact⟨zi (by simp [*,jw]),za _ _⟩
  ·have e0:(n==0)=false:=beq_eq_false_iff_ne.2 h0;have e1:(n==1)=false:=beq_eq_false_iff_ne.2 h1;go_enter Tryz.func131,Tryz.ntmps131;go_wp2;go_ret;exact⟨zi (by simp [h0,h1]),za _ _⟩
theorem zm4(n:Int)(s t:ByteArray)(w:World):
 Calls Tryz.prog 131 #[.agg #[.int .i64 2,.int .i64 n,.string s,.string t]] w fun e w'=>e = .returned (.bool (noB s && noB t))∧Below w.heap.size w w':=by
 rcases zn s with rfl|⟨s1,s2,s3⟩<;> rcases zn t with rfl|⟨t1,t2,t3⟩
 all_goals
  go_enter Tryz.func131,Tryz.ntmps131;go_wp2;go_ret;exact⟨zi (by simp [*,jw]),za _ _⟩
theorem zhX{w w1:World}{o:Obj}(hb:Below (w.alloc o).heap.size (w.alloc o) w1)(k:Nat)(v:Value)(h:(w.alloc o).cell? ⟨w.heap.size,k,none⟩=some v):w1.cell? ⟨w.heap.size,k,none⟩=some v :=
 (hb.cell (by simp)).trans h
theorem zmi(n:Int)(s t:ByteArray)(w:World)(hs:s.size≤maxLen):
 Calls Tryz.prog 131 #[.agg #[.int .i64 3,.int .i64 n,.string s,.string t]] w fun e w'=>e = .returned (.bool (decide (n=0)&& noB t && decide (zk s=0)))∧Below w.heap.size w w':=by
 have P:=hi9 (fun w=>zdE s w hs);by_cases h0:n=0
 ·subst h0;rcases zn t with rfl|⟨t1,t2,t3⟩
  ·by_cases h1:zk s=0
   ·rw [h1,zM] at P;go_enter Tryz.func131,Tryz.ntmps131;go_wp2_with fail;refine(P.out _).mono ?_;rintro e w1 ⟨rfl,hb⟩;go_wp2;go_ret;exact⟨zi (by simp [h1,jw]),zr hb⟩
   ·rw [jc h1] at P;go_enter Tryz.func131,Tryz.ntmps131;go_wp2_with fail;refine(P.out _).mono ?_;rintro e w1 ⟨rfl,hb⟩;go_wp2;go_ret;exact⟨zi (by simp [h1]),zr hb⟩
  ·go_enter Tryz.func131,Tryz.ntmps131;go_wp2;go_ret;exact⟨zi (by simp [t3]),za _ _⟩
 ·have e0:(n==0)=false:=beq_eq_false_iff_ne.2 h0;go_enter Tryz.func131,Tryz.ntmps131;go_wp2;go_ret;exact⟨zi (by simp [h0]),za _ _⟩
theorem zkM(n:Int)(s t:ByteArray)(w:World)(hs:s.size≤maxLen):
 Calls Tryz.prog 131 #[.agg #[.int .i64 7,.int .i64 n,.string s,.string t]] w fun e w'=>e = .returned (.bool (decide (n=0)&& noB t && decide (zd s=0)))∧Below w.heap.size w w':=by
 have P:=hi9 (fun w=>zaB s w hs);by_cases h0:n=0
 ·subst h0;rcases zn t with rfl|⟨t1,t2,t3⟩
  ·by_cases h1:zd s=0
   ·rw [h1,zM] at P;go_enter Tryz.func131,Tryz.ntmps131;go_wp2_with fail;refine(P.out _).mono ?_;rintro e w1 ⟨rfl,hb⟩;go_wp2;go_ret;exact⟨zi (by simp [h1,jw]),zr hb⟩
   ·rw [jc h1] at P;go_enter Tryz.func131,Tryz.ntmps131;go_wp2_with fail;refine(P.out _).mono ?_;rintro e w1 ⟨rfl,hb⟩;go_wp2;go_ret;exact⟨zi (by simp [h1]),zr hb⟩
  ·go_enter Tryz.func131,Tryz.ntmps131;go_wp2;go_ret;exact⟨zi (by simp [t3]),za _ _⟩
 ·have e0:(n==0)=false:=beq_eq_false_iff_ne.2 h0;go_enter Tryz.func131,Tryz.ntmps131;go_wp2;go_ret;exact⟨zi (by simp [h0]),za _ _⟩
theorem znp(n:Int)(s t:ByteArray)(w:World)(hs:s.size≤maxLen)(ht:t.size≤maxLen):
 Calls Tryz.prog 131 #[.agg #[.int .i64 4,.int .i64 n,.string s,.string t]] w fun e w'=>e = .returned (.bool (decide (n=0)&& decide (zd s=0)&& decide (zk t=0)))∧Below w.heap.size w w':=by
 have P:=hi9 (fun w=>zaB s w hs);have T:=hi9 (fun w=>zdE t w ht);by_cases h0:n=0
 ·subst h0;by_cases h1:zd s=0
  ·rw [h1,zM] at P;by_cases h2:zk t=0
   ·rw [h2,zM] at T;go_enter Tryz.func131,Tryz.ntmps131;go_wp2_with fail;refine(P.out _).mono ?_;rintro e w1 ⟨rfl,hb⟩;have c3:=zhX hb 3 (.string t) (by simp);have HB:=hi9 (zr hb);clear hb;go_wp2_with fail;refine(T.out _).mono ?_;rintro e w2 ⟨rfl,hb2⟩;go_wp2;go_ret;exact⟨zi (by simp [h1,h2]),HB.out.trans (hb2.mono HB.out.size)⟩
   ·rw [jc h2] at T;go_enter Tryz.func131,Tryz.ntmps131;go_wp2_with fail;refine(P.out _).mono ?_;rintro e w1 ⟨rfl,hb⟩;have c3:=zhX hb 3 (.string t) (by simp);have HB:=hi9 (zr hb);clear hb;go_wp2_with fail;refine(T.out _).mono ?_;rintro e w2 ⟨rfl,hb2⟩;go_wp2;go_ret;exact⟨zi (by simp [h1,h2]),HB.out.trans (hb2.mono HB.out.size)⟩
  ·rw [jc h1] at P;go_enter Tryz.func131,Tryz.ntmps131;go_wp2_with fail;refine(P.out _).mono ?_;rintro e w1 ⟨rfl,hb⟩;go_wp2;go_ret;exact⟨zi (by simp [h1]),zr hb⟩
 ·have e0:(n==0)=false:=beq_eq_false_iff_ne.2 h0;go_enter Tryz.func131,Tryz.ntmps131;go_wp2;go_ret;exact⟨zi (by simp [h0]),za _ _⟩
theorem zmg(o n:Int)(s t:ByteArray)(w:World)(ho:o=5∨o=6):
 Calls Tryz.prog 131 #[.agg #[.int .i64 o,.int .i64 n,.string s,.string t]] w fun e w'=>e = .returned (.bool (decide (0≤n)&& noB s && noB t))∧Below w.heap.size w w':=by
 by_cases h0:0≤n
 ·rcases ho with rfl|rfl <;> rcases zn s with rfl|⟨s1,s2,s3⟩<;> rcases zn t with rfl|⟨t1,t2,t3⟩
  all_goals
   go_enter Tryz.func131,Tryz.ntmps131;go_wp2;go_ret;exact⟨zi (by simp [*,jw]),za _ _⟩
 ·rcases ho with rfl|rfl
  all_goals
   go_enter Tryz.func131,Tryz.ntmps131;go_wp2;go_ret;exact⟨zi (by rw [decide_eq_false (by omega)];rfl),za _ _⟩
theorem zkK(o n:Int)(s t:ByteArray)(w:World)(h1:(o==1)=false)(h2:(o==2)=false)(h3:(o==3)=false)(h4:(o==4)=false)(h5:(o==5)=false)(h6:(o==6)=false)(h7:(o==7)=false):
 Calls Tryz.prog 131 #[.agg #[.int .i64 o,.int .i64 n,.string s,.string t]] w fun e w'=>e = .returned (.bool false)∧Below w.heap.size w w':=by
 go_enter Tryz.func131,Tryz.ntmps131;go_wp2;go_ret;exact⟨rfl,za _ _⟩
theorem zbQ(x:Nd)(w:World)(hs:x.s.size≤maxLen)(ht:x.t.size≤maxLen):
 Calls Tryz.prog 131 #[ndV x] w fun e w'=>e = .returned (.bool (ja x))∧Below w.heap.size w w':=by
 obtain⟨o,n,s,t⟩:=x;unfold ndV ja;simp only at hs ht ⊢;by_cases h1:o=1
 ·subst h1;rw [if_pos rfl];exact zlI n s t w
 rw [if_neg h1];by_cases h2:o=2
 ·subst h2;rw [if_pos rfl];exact zm4 n s t w
 rw [if_neg h2];by_cases h3:o=3
 ·subst h3;rw [if_pos rfl];exact zmi n s t w hs
 rw [if_neg h3];by_cases h4:o=4
 ·subst h4;rw [if_pos rfl];exact znp n s t w hs ht
 rw [if_neg h4];by_cases h5:o=5∨o=6
 ·rw [if_pos h5];exact zmg o n s t w h5
 rw [if_neg h5];by_cases h7:o=7
 ·subst h7;rw [if_pos rfl];exact zkM n s t w hs
 rw [if_neg h7];exact zkK o n s t w (beq_eq_false_iff_ne.2 h1) (beq_eq_false_iff_ne.2 h2) (beq_eq_false_iff_ne.2 h3) (beq_eq_false_iff_ne.2 h4) (beq_eq_false_iff_ne.2 fun q=>h5 (.inl q)) (beq_eq_false_iff_ne.2 fun q=>h5 (.inr q)) (beq_eq_false_iff_ne.2 h7)
end Go.Proofs.YtjcdeikbghjpkaaGreatDoor
namespace Go.Proofs.YtjcdeikbghjpkaaGreatDoor
open Go.RowKit Go.Wk Go.Sort
theorem add_add(a:Addr)(x y:Nat):(a.add x).add y=a.add (x+y):=by
 unfold Addr.add;by_cases hx:x=0 <;> by_cases hy:y=0 <;> simp [hx,hy,Nat.add_assoc]
theorem jx(a:Addr)(x:Nat):(a.add x).block=a.block:=by unfold Addr.add;split <;> rfl
theorem zfk(w:World)(r:Option Nat):w.grownBy w r:=⟨rfl,rfl,rfl,Nat.le_refl _,fun _ _ _=>rfl⟩
theorem zf{a b c:World}{r:Option Nat}(h:a.grownBy b r)(k:b.grownBy c r):a.grownBy c r :=
 ⟨k.os.trans h.os,k.tape.trans h.tape,k.output.trans h.output,Nat.le_trans h.size k.size,fun i hi hn=>(k.block i (Nat.lt_of_lt_of_le hi h.size) hn).trans (h.block i hi hn)⟩
theorem jM.but{w w':World}{A:Option Addr}{P:List Nd}{R:Nat}(h:jM w A P)(hg:w.grownBy w' (some R))(hR:∀a,A=some a→a.block≠R):jM w' A P:=by
 intro k x hx;obtain⟨a,h1,h2,h3,h4,h5⟩:=h k x hx;have hn:some a.block≠some R:=fun e=>hR a h1 (by injection e);have hb:=jx a (k*4);exact⟨a,h1,hg.cell h2 (by rw [hb];exact hn),hg.cell h3 (by rw [hb];exact hn),hg.cell h4 (by rw [hb];exact hn),hg.cell h5 (by rw [hb];exact hn)⟩
theorem jM.seg{w:World}{a:Addr}{P:List Nd}(h:jM w (some a) P)(i j:Nat):jM w (some (a.add (i*4))) (seg P i j):=by
 intro k x hx;have hx':P[i+k]?=some x:=by
  unfold Wk.seg at hx;rw [List.getElem?_take] at hx;split at hx
  ·rw [List.getElem?_drop] at hx;exact hx
  ·cases hx
 obtain⟨b,h1,h2,h3,h4,h5⟩:=h (i+k) x hx';injection h1 with h1;subst h1;have e:(a.add (i*4)).add (k*4)=a.add ((i+k)*4):=by rw [add_add,Nat.add_mul]
 exact⟨_,rfl,by rw [e];exact h2,by rw [e];exact h3,by rw [e];exact h4,by rw [e];exact h5⟩
structure zcP(x:Nd):Prop where
 s:x.s.size≤maxLen
 t:x.t.size≤maxLen
 lo : -9223372036854775808≤x.n
 hi:x.n≤9223372036854775807
def zaj(P:List Nd):Prop:=∀x∈P,zcP x
theorem zaj.at{P:List Nd}(h:zaj P){k:Nat}(hk:k<P.length):zcP P[k]:=h _ (List.getElem_mem hk)
structure zb0(w:World)(R:Nat)(v:Value)(p:Nat):Prop where
 c0:w.cell? ⟨R,0,none⟩=some v
 c1:w.cell? ⟨R,1,none⟩=some (.int .i64 p)
 f1:w.frozen? ⟨R,1,none⟩=false
theorem zb0.keep{w w':World}{R p:Nat}{v:Value}(h:zb0 w R v p)(hb:Below w.heap.size w w'):zb0 w' R v p :=
 ⟨zb hb h.c0,zb hb h.c1,(hb.frozen (p:=⟨R,1,none⟩) (block_lt_of_cell h.c1)).trans h.f1⟩
theorem zb0.lt{w:World}{R p:Nat}{v:Value}(h:zb0 w R v p):R<w.heap.size:=block_lt_of_cell h.c0
theorem zb0.put{w:World}{R p:Nat}{v:Value}(h:zb0 w R v p)(q:Nat):zb0 (w.setCell ⟨R,1,none⟩ (.int .i64 q)) R v q:=by
 refine⟨?_,?_,?_⟩
 ·exact(World.cell?_setCell_other _ _ _ _ (by simp)).trans h.c0
 ·exact World.cell?_setCell_same _ _ _ h.c1
 ·rw [World.frozen?_setCell];exact h.f1
abbrev zsy:List PanicEntry := [{ v := .iface 200 (.agg #[]),recovered:=false }]
def zco(R:Nat)(A:Option Addr)(n c p:Nat)(w:World):Option Nat→Ending→World→Prop
 | some e,x,w'=>x = .returned (.slice (A.map fun a=>a.add (p*4)) (e-p) (c-p))∧zb0 w' R (.slice A n c) e∧w.grownBy w' (some R)
 | none,x,w'=>x = .panicked zsy∧w.grownBy w' (some R)
theorem zre(A:Option Addr)(n c p R:Nat)(w:World)(hr:zb0 w R (.slice A n c) p)(hp:n≤p):
 Calls Tryz.prog 116 #[.pointer (some ⟨R,0,none⟩)] w (zco R A n c p w none):=by
 obtain⟨c0,c1,f1⟩:=hr;go_enter Tryz.func116,Tryz.ntmps116;go_wp2_with fail;exact⟨rfl,rfl,zfk _ _⟩
theorem zpY(a:Addr)(P:List Nd)(n c p R:Nat)(w:World)(hr:zb0 w R (.slice (some a) n c) p)(hn:n=P.length)(hp:p<n)(hP:jM w (some a) P)(hO:zaj P)(hs:ja (P[p]'(by omega))=false):
 Calls Tryz.prog 116 #[.pointer (some ⟨R,0,none⟩)] w (zco R (some a) n c p w none):=by
 obtain⟨c0,c1,f1⟩:=hr;have hp':p<P.length:=by omega
 obtain⟨b,hb0,q1,q2,q3,q4⟩:=hP p P[p] (List.getElem?_eq_getElem hp');injection hb0 with hb0;subst hb0;have S:=hi9 (fun w=>zbQ P[p] w (hO.at hp').s (hO.at hp').t);rw [hs] at S;unfold ndV at S;generalize P[p]=x at *;clear hO hP hn;go_enter Tryz.func116,Tryz.ntmps116;go_wp2_with fail;refine(S.out _).mono ?_;rintro e w1 ⟨rfl,hb⟩;go_wp2_with fail;exact⟨rfl,rfl,zc hb _⟩
theorem zb0.drewN{w:World}{R p:Nat}{v:Value}(h:zb0 w R v p)(k:Nat):zb0 (w.drewN k) R v p:=⟨h.c0,h.c1,h.f1⟩
theorem zcU{w w1:World}{r:Option Nat}(h:w.grownBy w1 r)(k:Nat):w.grownBy (w1.drewN k) r:=⟨h.os,h.tape,h.output,h.size,h.block⟩
theorem zd8{w w1:World}{r:Option Nat}(h:w.grownBy w1 r)(o:Obj):w.grownBy (w1.alloc o) r:=zf h (zc ((Below.refl _ _).alloc (Nat.le_refl _) o) _)
theorem zhs{w w1:World}{A:Option Addr}{R n c p:Nat}(hr:zb0 w R (.slice A n c) p)(hb:Below w.heap.size w w1)(o:Obj):
 zb0 ((w1.setCell ⟨R,1,none⟩ (.int .i64 ((p:Int)+1))).alloc o) R (.slice A n c) (p+1)∧w.grownBy ((w1.setCell ⟨R,1,none⟩ (.int .i64 ((p:Int)+1))).alloc o) (some R):=by
 have h1:=((hr.keep hb).put (p+1)).keep ((Below.refl _ _).alloc (Nat.le_refl _) o);exact⟨h1,zd8 (zf (zc hb _) (zg _ ⟨R,1,none⟩ _)) o⟩
theorem zoF(a:Addr)(P:List Nd)(n c p R:Nat)(w:World)(hr:zb0 w R (.slice (some a) n c) p)(hn:n=P.length)(hc:n≤c)(hm:n≤maxLen)(hp:p<n)(hP:jM w (some a) P)(hO:zaj P)(hs:ja (P[p]'(by omega))=true)
 (h5:((P[p]'(by omega)).op==5)=false) (h6:((P[p]'(by omega)).op==6)=false) (h7:((P[p]'(by omega)).op==7)=false):
 Calls Tryz.prog 116 #[.pointer (some ⟨R,0,none⟩)] w (zco R (some a) n c p w (some (p+1))):=by
 unfold maxLen at hm;have HR:=hi9 hr;have HS:=hi9 (fun w1 (hb:Below w.heap.size w w1) o=>zhs hr hb o);obtain⟨c0,c1,f1⟩:=hr;have hp':p<P.length:=by omega
 obtain⟨b,hb0,q1,q2,q3,q4⟩:=hP p P[p] (List.getElem?_eq_getElem hp');injection hb0 with hb0;subst hb0;have S:=hi9 (fun w=>zbQ P[p] w (hO.at hp').s (hO.at hp').t);rw [hs] at S;unfold ndV at S;generalize P[p]=x at *;clear hO hP hn;go_enter Tryz.func116,Tryz.ntmps116;go_wp2_with fail;refine(S.out _).mono ?_;rintro e w1 ⟨rfl,hb⟩;replace c0:=zb hb c0;replace c1:=zb hb c1;replace q1:=zb hb q1;replace q2:=zb hb q2;replace q3:=zb hb q3;replace q4:=zb hb q4;have f1':=(hb.frozen (p:=⟨R,1,none⟩) HR.out.lt).trans f1;clear f1;have hR:=Nat.lt_of_lt_of_le HR.out.lt hb.size;have HB:=hi9 hb;clear hb;go_wp2_with fail;go_quiet (fail);go_wp2_with fail;go_ret;obtain⟨s1,s2⟩:=HS.out _ HB.out (.cells #[.int .i64 x.op,.int .i64 x.n,.string x.s,.string x.t] 41);exact⟨by rw [show p+1-p=1 by omega];rfl,s1.drewN _,zcU s2 _⟩
def zpK(P:List Nd)(A:Option Addr)(n c R:Nat)(m:Nat):Prop :=
 ∀(q:Nat) (w:World),zb0 w R (.slice A n c) q→jM w A P→n-q<m→Calls Tryz.prog 116 #[.pointer (some ⟨R,0,none⟩)] w (zco R A n c q w (ju P m q))
def zqe(a:Addr)(c q:Nat):Option Nat→Value
 | none => .slice none 0 0
 | some l => .slice (some (a.add (l*4))) (q-l) (c-l)
theorem zkO{v:List Nd}{f:Nat→Option Nat}{N k:Nat}{last:Option Nat}{q:Nat}(hk:k<N)(h:f q=none):zaq v f (N-k) last q=none:=by
 obtain⟨j,hj⟩:∃j,N-k=j+1:=⟨N-k-1,by omega⟩
 rw [hj];simp only [zaq,h]
theorem zky{v:List Nd}{f:Nat→Option Nat}{N k:Nat}{last:Option Nat}{q e:Nat}(hk:k<N)(h:f q=some e)(hr:zqs v last q e=false):zaq v f (N-k) last q=none:=by
 obtain⟨j,hj⟩:∃j,N-k=j+1:=⟨N-k-1,by omega⟩
 rw [hj];simp only [zaq,h,hr,Bool.false_eq_true,if_false]
theorem zf1{v:List Nd}{f:Nat→Option Nat}{N k:Nat}{last:Option Nat}{q e:Nat}(hk:k<N)(h:f q=some e)(hr:zqs v last q e=true):zaq v f (N-k) last q=zaq v f (N-(k+1)) (some q) e:=by
 obtain⟨j,hj⟩:∃j,N-k=j+1:=⟨N-k-1,by omega⟩
 rw [hj,show N-(k+1)=j by omega];simp only [zaq,h,hr,if_true]
theorem zpW(a:Addr)(P:List Nd)(n c p R m:Nat)(w:World)(hr:zb0 w R (.slice (some a) n c) p)(hn:n=P.length)(hc:n≤c)(hm:n≤maxLen)(hp:p<n)(hP:jM w (some a) P)(hO:zaj P)(hs:ja (P[p]'(by omega))=true)
 (h5:(P[p]'(by omega)).op=5) (hR:a.block≠R) (ih:zpK P (some a) n c R m) (hfu:n-p<m+1):
 Calls Tryz.prog 116 #[.pointer (some ⟨R,0,none⟩)] w (zco R (some a) n c p w (zaq P (ju P m) (P[p]'(by omega)).n.toNat none (p+1))):=by
 have HM:=hi9 hm;unfold maxLen at hm;have HR:=hi9 hr;have HS:=hi9 (fun w1 (hb:Below w.heap.size w w1) o=>zhs hr hb o);have HP:=hi9 hP;have HN:=hi9 hn;have IH:=hi9 ih;obtain⟨c0,c1,f1⟩:=hr;have hp':p<P.length:=by omega
 obtain⟨b,hb0,q1,q2,q3,q4⟩:=hP p P[p] (List.getElem?_eq_getElem hp');injection hb0 with hb0;subst hb0;have S:=hi9 (fun w=>zbQ P[p] w (hO.at hp').s (hO.at hp').t);rw [hs] at S;unfold ndV at S;obtain⟨-,-,hlo,hhi⟩:=hO.at hp';rw [h5] at q1 S;generalize P[p]=x at *;have hx0:0≤x.n:=by
  unfold ja at hs;rw [h5] at hs;simp at hs;exact hs.1.1
 clear hP hn h5 hs hlo ih;have hnp:decide (n≤p)=false:=decide_eq_false (by omega);go_enter Tryz.func116,Tryz.ntmps116;go_wp2_with fail;refine(S.out _).mono ?_;rintro e w1 ⟨rfl,hb⟩;replace c0:=zb hb c0;replace c1:=zb hb c1;replace q1:=zb hb q1;replace q2:=zb hb q2;replace q3:=zb hb q3;replace q4:=zb hb q4;have f1':=(hb.frozen (p:=⟨R,1,none⟩) HR.out.lt).trans f1;clear f1;have hRl:=Nat.lt_of_lt_of_le HR.out.lt hb.size;have HB:=hi9 hb;clear hb;go_wp2_with fail;obtain⟨s1,s2⟩:=HS.out _ HB.out (.cells #[.int .i64 5,.int .i64 x.n,.string x.s,.string x.t] 41);have S1:=hi9 s1;have S2:=hi9 s2;clear s1 s2 c0 c1 f1' q1 q2 q3 q4 hRl S HS HR;go_loopw [5,6,7,53] (fun last _ _ i wr=>∃(k q:Nat) (lo:Option Nat),i = .int .i64 k∧(k:Int)≤x.n∧last=zqe a c q lo∧Hid (lo=none↔k=0)∧Hid (∀l,lo=some l→l<q)∧q≤n∧p<q∧
  Hid (zaq P (ju P m) x.n.toNat none (p+1)=zaq P (ju P m) (x.n.toNat-k) lo q)∧Hid (zb0 wr R (.slice (some a) n c) q)∧Hid (w.grownBy wr (some R))) (fun _ _ _ i _=>(x.n-intOf i).toNat)
 case atStart=>exact⟨0,p+1,none,rfl,hx0,rfl,⟨fun _=>rfl,fun _=>rfl⟩,(by intro l hl;cases hl),by omega,by omega,rfl,S1.out,S2.out⟩
 case round =>
  obtain⟨k,q,lo,rfl,hk,rfl,hlo,hlq,hq,hpq,hE,hrd,hgr⟩:=hrel;by_cases hlt:(k:Int)<x.n
  ·have N:=hi9 (HP.out.but hgr.out (fun a' e=>by cases e;exact hR));have C:=hi9 (IH.out q wr hrd.out N.out (by omega));rcases hf:ju P m q with _|e
   ·have HF:=hi9 (hE.out.trans (zkO (by omega) hf));rw [hf] at C;clear hf hE;go_wp2_with fail;refine C.out.mono ?_;rintro e w2 hpost;obtain⟨rfl,g2⟩:=hpost;go_wp2_with fail;rw [HF.out];exact⟨rfl,rfl,zf hgr.out g2⟩
   ·have HF:=hi9 hf;have hpe:=zfh _ _ _ hf;rw [←HN.out] at hpe;rw [hf] at C;clear hf;by_cases hk0:k=0
    ·have hlo0:=hlo.out.2 hk0;subst hlo0;have hz:decide (0<k)=false:=decide_eq_false (by omega);have HG:=hi9 (hE.out.trans (zf1 (by omega) HF.out rfl));clear hE hlo hlq hk0;unfold zqe;go_wp2_with fail;refine C.out.mono ?_;rintro e' w2 hpost;obtain⟨rfl,r2,g2⟩:=hpost;have R2:=hi9 r2;have G2:=hi9 g2;clear r2 g2;go_wp2_with fail;go_roundw
     case rel=>exact⟨k+1,e,some q,by go_num,by omega,rfl,⟨(by intro h;cases h),(by intro h;omega)⟩,(by intro l hl;cases hl;exact hpe.1),by omega,by omega,HG.out,R2.out,zf hgr.out G2.out⟩
     case measure=>simp [intOf];omega
    ·have hk1:decide (0<k)=true:=decide_eq_true (by omega);obtain⟨l,rfl⟩:∃l,lo=some l:=Option.ne_none_iff_exists'.1 (fun h=>hk0 (hlo.out.1 h));have hlq':=hlq.out l rfl;clear hlo hlq hk0;have V:=hi9 (fun w2 (g2:wr.grownBy w2 (some R))=>zoV (some (a.add (l*4))) (some (a.add (q*4))) (q-l) (e-q) (c-l) (c-q) (seg P l q) (seg P q e) w2 (ze1 (by rw [←HN.out];omega)).symm (ze1 (by rw [←HN.out];omega)).symm (Nat.le_trans (by omega) HM.out) (Nat.le_trans (by omega) HM.out)
      ((N.out.but g2 (fun a' e=>by cases e;exact hR)).seg l q) ((N.out.but g2 (fun a' e=>by cases e;exact hR)).seg q e))
     unfold zqe;by_cases hcmp:zW (seg P l q) (seg P q e)<0
     ·have HG:=hi9 (hE.out.trans (zf1 (by omega) HF.out (decide_eq_true hcmp)));clear hE;go_wp2_with fail;refine C.out.mono ?_;rintro e' w2 hpost;obtain⟨rfl,r2,g2⟩:=hpost;have R2:=hi9 r2;have G2:=hi9 g2;clear r2 g2;go_wp2_with fail;refine(V.out _ G2.out).mono ?_;rintro e' w3 ⟨rfl,hb3⟩;have R3:=hi9 (R2.out.keep hb3);have G3:=hi9 (zf G2.out (zc hb3 _));clear hb3;go_wp2_with fail;go_roundw
      case rel=>exact⟨k+1,e,some q,by go_num,by omega,rfl,⟨(by intro h;cases h),(by intro h;omega)⟩,(by intro l hl;cases hl;exact hpe.1),by omega,by omega,HG.out,R3.out,zf hgr.out G3.out⟩
      case measure=>simp [intOf];omega
     ·have HG:=hi9 (hE.out.trans (zky (by omega) HF.out (decide_eq_false hcmp)));clear hE;go_wp2_with fail;refine C.out.mono ?_;rintro e' w2 hpost;obtain⟨rfl,r2,g2⟩:=hpost;have G2:=hi9 g2;clear r2 g2;go_wp2_with fail;refine(V.out _ G2.out).mono ?_;rintro e' w3 ⟨rfl,hb3⟩;go_wp2_with fail;rw [HG.out];exact⟨rfl,rfl,zf hgr.out (zf G2.out (zc hb3 _))⟩
  ·have HG:=hi9 (hE.out.trans (by rw [show x.n.toNat-k=0 by omega];rfl:_=some q));obtain⟨d0,d1,d2⟩:=hrd.out;have RD:=hi9 hrd.out;clear hE hlo hlq hrd;go_wp2_with fail;go_quiet (fail);go_wp2_with fail;go_ret;rw [HG.out];exact⟨rfl,RD.out.drewN _,zcU hgr.out _⟩
end Go.Proofs.YtjcdeikbghjpkaaGreatDoor
