/-
  tree.variable, tree.shaped; the reference's Fields: may a node of an expression ..
-/
import Derived.Test.YthidiimbeaabhaaGreatDoorQ22
set_option maxRecDepth 100000
set_option maxHeartbeats 8000000
namespace Go.Proofs.YthidiimbeaabhaaGreatDoor
open Go.RowKit Go.Wk Go.Sort
theorem pY{s:ByteArray}(h:0<s.size):s.data.toList.head?=some s[0]:=by
 have h':0<s.data.toList.length:=by rw [Array.length_toList];exact h
 rw [List.head?_eq_getElem?,List.getElem?_eq_getElem h'];rfl
theorem Gi{s:ByteArray}(h:0<s.size)(hq:(s[0].toNat:Int)=63):dM s=decide (zk (s.extract 1 s.size)=0):=by
 unfold dM;rw [pY h,if_pos];have:s[0].toNat=63:=by omega
 exact congrArg some (UInt8.toNat_inj.1 this)
theorem Gb{s:ByteArray}(h:0<s.size)(hq:¬(s[0].toNat:Int)=63):dM s=(decide (zk s=0)&& !ja s):=by
 unfold dM;rw [pY h,if_neg];intro e;injection e with e;exact hq (by rw [e];rfl)
theorem Gm:dM ⟨#[]⟩=false:=by decide
theorem Dt(s:ByteArray):(s.extract 1 s.size).size<=s.size:=by simp
theorem ET{s:ByteArray}(h:0<s.size):s.toList.isEmpty=false/\¬s.toList = []:=⟨by rw [List.isEmpty_eq_false_iff];exact λq=>(bY h).1 q,λq=>(bY h).1 q⟩
theorem bU{w:World}{b k:Nat}{arr:Array Value}{t:TypeId}{fz:Nat × Nat}{u:Value}(h:w.heap[b]?=some (.cells arr t fz))(hu:arr[k]?=some u):w.cell? ⟨b,k,none⟩=some u:=by
 simp [World.cell?,h,hu]
structure Vnx(w:World)(b:Nat)(x:Nd):Prop where
 c0:w.cell? ⟨b,0,none⟩=some (.int .i64 x.op)
 c1:w.cell? ⟨b,1,none⟩=some (.int .i64 x.n)
 c2:w.cell? ⟨b,2,none⟩=some (.string x.s)
 c3:w.cell? ⟨b,3,none⟩=some (.string x.t)
theorem Vnx.keep{w w':World}{b:Nat}{x:Nd}(h:Vnx w b x)(hb:Below w.heap.size w w'):Vnx w' b x:=⟨zb hb h.c0,zb hb h.c1,zb hb h.c2,zb hb h.c3⟩
theorem xC(w:World)(x:Nd)(t:TypeId):Vnx (w.alloc (.cells #[.int .i64 x.op,.int .i64 x.n,.string x.s,.string x.t] t)) w.heap.size x :=
 ⟨bU (heap_alloc_new w _) rfl,bU (heap_alloc_new w _) rfl,bU (heap_alloc_new w _) rfl,bU (heap_alloc_new w _) rfl⟩
theorem pe(s:ByteArray)(w:World)(hs:s.size<=maxLen):Calls Tryz.prog 114 #[.string s] w λe w'=>e = .returned (.bool (dM s))/\Below w.heap.size w w':=by
 have PR:=O (λw=>oU s w);have PN:=O (λw=>aj s w hs);have PS:=O (λw=>aj (s.extract 1 s.size) w (Nat.le_trans (Dt s) hs));unfold maxLen at hs;by_cases h:0<s.size
 ·obtain⟨he,he2⟩:=ET h;by_cases hq:(s[0].toNat:Int)=63
  ·have HV:=O (Gi h hq);have f1:((s[0].toNat:Int)==63)=true:=beq_iff_eq.2 hq;clear hq;by_cases h1:zk (s.extract 1 s.size)=0
   ·have HR:=O (show dM s=true by rw [HV.o,h1];rfl);rw [h1,zf] at PS;clear h1;go_enter Tryz.func114,Tryz.ntmps114;go_wp2_with fail;refine(PS.o _).mono ?_;rintro e w1 ⟨rfl,hb⟩;go_wp2_with fail;go_ret;exact⟨by rw [HR.o];rfl,hb⟩
   ·have HR:=O (show dM s=false by rw [HV.o,decide_eq_false h1]);rw [zl h1] at PS;clear HV h1;generalize zk (s.extract 1 s.size)=f at *;go_enter Tryz.func114,Tryz.ntmps114;go_wp2_with fail;refine(PS.o _).mono ?_;rintro e w1 ⟨rfl,hb⟩;go_wp2_with fail;go_ret;exact⟨by rw [HR.o];rfl,hb⟩
  ·have HV:=O (Gb h hq);have f1:((s[0].toNat:Int)==63)=false:=beq_eq_false_iff_ne.2 hq;clear hq;by_cases h1:zk s=0
   ·have HR:=O (show dM s = !ja s by rw [HV.o,h1];rfl);rw [h1,zf] at PN;clear h1;generalize ja s=r at *;go_enter Tryz.func114,Tryz.ntmps114;go_wp2_with fail;refine(PN.o _).mono ?_;rintro e w1 ⟨rfl,hb⟩;go_wp2_with fail;refine(PR.o _).mono ?_;rintro e w2 ⟨rfl,rfl⟩;go_wp2_with fail;go_ret;exact⟨by rw [HR.o];rfl,hb⟩
   ·have HR:=O (show dM s=false by rw [HV.o,decide_eq_false h1];rfl);rw [zl h1] at PN;clear HV h1;generalize zk s=f at *;go_enter Tryz.func114,Tryz.ntmps114;go_wp2_with fail;refine(PN.o _).mono ?_;rintro e w1 ⟨rfl,hb⟩;go_wp2_with fail;go_ret;exact⟨by rw [HR.o];rfl,hb⟩
 ·have e:s=⟨#[]⟩:=j4 (List.eq_nil_of_length_eq_zero (by rw [Array.length_toList];show s.size=0;omega));subst e;have HR:=O Gm;rw [show zk ⟨#[]⟩=1 by decide,zl (by decide)] at PN;clear h;go_enter Tryz.func114,Tryz.ntmps114;go_wp2_with fail;refine(PN.o _).mono ?_;rintro e w1 ⟨rfl,hb⟩;go_wp2_with fail;go_ret;exact⟨by rw [HR.o];rfl,hb⟩
theorem dS(w:World)(x:Nd)(hx:fC x):Ns (w.alloc (.cells #[.int .i64 x.op,.int .i64 x.n,.string x.s,.string x.t] 47)) (some ⟨w.heap.size,0,none⟩) 1 1 [x] :=
 ⟨rfl,Nat.le_refl _,by unfold maxLen;omega,xg w [x] _,λy hy=>by
  simp only [List.mem_cons,List.not_mem_nil,or_false] at hy;subst hy;exact hx⟩
theorem tt(x:Nd)(h:1<=x.op/\x.op<=4):zc [x]=if zD x=true then 0 else 1:=by
 unfold zc;rw [if_neg (by simp)];simp only [List.length_singleton];by_cases hs:zD x=true
 ·rw [if_pos hs,if_pos];have h5:x.op≠5:=by omega
  have h6:x.op≠6:=by omega
  have h7:x.op≠7:=by omega
  simp [zm,hs,h5,h6,h7]
 ·rw [if_neg hs,if_neg];simp [zm,hs]
theorem sR(o n:Int)(s t:ByteArray)(w:World)(ho:o=1\/o=2\/o=3\/o=4)(hx:fC ⟨o,n,s,t⟩):
 Calls Tryz.prog 81 #[.agg #[.int .i64 o,.int .i64 n,.string s,.string t]] w λe w'=>e = .returned (.bool (zD ⟨o,n,s,t⟩))/\Below w.heap.size w w':=by
 have b0:=za w (.cells #[.int .i64 o,.int .i64 n,.string s,.string t] 47);have N1:=dS (w.alloc (.cells #[.int .i64 o,.int .i64 n,.string s,.string t] 47)) ⟨o,n,s,t⟩ hx;have B1:=O (b0.trans ((za (w.alloc (.cells #[.int .i64 o,.int .i64 n,.string s,.string t] 47)) (.cells #[.int .i64 o,.int .i64 n,.string s,.string t] 47)).mono b0.size));have hz:(w.alloc (.cells #[.int .i64 o,.int .i64 n,.string s,.string t] 47)).heap.size=w.heap.size+1:=by simp
 rw [hz] at N1;have C:=O (zI N1);rw [tt ⟨o,n,s,t⟩ (by dsimp only;omega)] at C;dsimp only at C;clear b0 N1 hz hx;generalize zD ⟨o,n,s,t⟩=r at *;cases r
 ·rw [if_neg (by decide),zl (by decide)] at C;rcases ho with rfl|rfl|rfl|rfl
  all_goals
   go_enter Tryz.func81,Tryz.ntmps81;go_wp2_with fail;refine C.o.mono ?_;rintro e w1 ⟨rfl,b1⟩;have B2:=O (B1.o.trans (b1.mono B1.o.size));clear b1 C;go_wp2_with fail;go_ret;exact⟨rfl,B2.o⟩
 ·rw [if_pos rfl,zf] at C;rcases ho with rfl|rfl|rfl|rfl
  all_goals
   go_enter Tryz.func81,Tryz.ntmps81;go_wp2_with fail;refine C.o.mono ?_;rintro e w1 ⟨rfl,b1⟩;have B2:=O (B1.o.trans (b1.mono B1.o.size));clear b1 C;go_wp2_with fail;go_ret;exact⟨rfl,B2.o⟩
theorem qD(o n:Int)(s t:ByteArray)(ho:o=5\/o=6)(w:World):
 Calls Tryz.prog 81 #[.agg #[.int .i64 o,.int .i64 n,.string s,.string t]] w λe w'=>e = .returned (.bool (decide (0<=n)&& noB s && noB t))/\Below w.heap.size w w':=by
 by_cases h0:0<=n
 ·rcases ho with rfl|rfl <;> rcases ji s with rfl|⟨s1,s2,s3⟩<;> rcases ji t with rfl|⟨t1,t2,t3⟩
  all_goals
   go_enter Tryz.func81,Tryz.ntmps81;go_wp2;go_ret;exact⟨zC (by simp [*,bp]),za _ _⟩
 ·rcases ho with rfl|rfl <;> rcases ji s with rfl|⟨s1,s2,s3⟩<;> rcases ji t with rfl|⟨t1,t2,t3⟩
  all_goals
   go_enter Tryz.func81,Tryz.ntmps81;go_wp2;go_ret;exact⟨zC (by first|rfl|(rw [decide_eq_false (show¬0<=n by omega)];rfl)),za _ _⟩
theorem gY(o n:Int)(s t:ByteArray)(w:World)(ho:o=7\/o=21\/o=22\/o=24)(hs:s.size<=maxLen):
 Calls Tryz.prog 81 #[.agg #[.int .i64 o,.int .i64 n,.string s,.string t]] w λe w'=>e = .returned (.bool (decide (n=0)&& noB t && decide (zk s=0)))/\Below w.heap.size w w':=by
 have P:=O (λw=>aj s w hs);by_cases h0:n=0
 ·subst h0;rcases ji t with rfl|⟨t1,t2,t3⟩
  ·by_cases h1:zk s=0
   ·have HR:=O (show(decide ((0:Int)=0)&& noB ⟨#[]⟩&& decide (zk s=0))=true by rw [h1];rfl);rw [h1,zf] at P;clear h1;rcases ho with rfl|rfl|rfl|rfl
    all_goals
     go_enter Tryz.func81,Tryz.ntmps81;go_wp2_with fail;refine(P.o _).mono ?_;rintro e w1 ⟨rfl,hb⟩;go_wp2_with fail;go_ret;exact⟨by rw [HR.o];rfl,jj hb⟩
   ·have HR:=O (show(decide ((0:Int)=0)&& noB ⟨#[]⟩&& decide (zk s=0))=false by rw [decide_eq_false h1];rfl);rw [zl h1] at P;clear h1;generalize zk s=f at *;rcases ho with rfl|rfl|rfl|rfl
    all_goals
     go_enter Tryz.func81,Tryz.ntmps81;go_wp2_with fail;refine(P.o _).mono ?_;rintro e w1 ⟨rfl,hb⟩;go_wp2_with fail;go_ret;exact⟨by rw [HR.o];rfl,jj hb⟩
  ·rcases ho with rfl|rfl|rfl|rfl
   all_goals
    go_enter Tryz.func81,Tryz.ntmps81;go_wp2_with fail;go_ret;exact⟨zC (by simp [t3]),za _ _⟩
 ·have e0:(n != 0)=true:=by rw [bne_iff_ne];exact h0
  have e1:(n==0)=false:=beq_eq_false_iff_ne.2 h0;rcases ji t with rfl|⟨t1,t2,t3⟩<;> rcases ho with rfl|rfl|rfl|rfl
  all_goals
   go_enter Tryz.func81,Tryz.ntmps81;go_wp2_with fail;go_ret;exact⟨zC (by simp [h0]),za _ _⟩
theorem qC(o n:Int)(s t:ByteArray)(w:World)(ho:o=23)(hs:s.size<=maxLen):
 Calls Tryz.prog 81 #[.agg #[.int .i64 o,.int .i64 n,.string s,.string t]] w λe w'=>e = .returned (.bool (decide (n=0)&& noB t && decide (zA s=0)))/\Below w.heap.size w w':=by
 have P:=O (λw=>cE s w hs);by_cases h0:n=0
 ·subst h0;rcases ji t with rfl|⟨t1,t2,t3⟩
  ·by_cases h1:zA s=0
   ·have HR:=O (show(decide ((0:Int)=0)&& noB ⟨#[]⟩&& decide (zA s=0))=true by rw [h1];rfl);rw [h1,zf] at P;clear h1;rcases ho with rfl
    all_goals
     go_enter Tryz.func81,Tryz.ntmps81;go_wp2_with fail;refine(P.o _).mono ?_;rintro e w1 ⟨rfl,hb⟩;go_wp2_with fail;go_ret;exact⟨by rw [HR.o];rfl,jj hb⟩
   ·have HR:=O (show(decide ((0:Int)=0)&& noB ⟨#[]⟩&& decide (zA s=0))=false by rw [decide_eq_false h1];rfl);rw [zl h1] at P;clear h1;generalize zA s=f at *;rcases ho with rfl
    all_goals
     go_enter Tryz.func81,Tryz.ntmps81;go_wp2_with fail;refine(P.o _).mono ?_;rintro e w1 ⟨rfl,hb⟩;go_wp2_with fail;go_ret;exact⟨by rw [HR.o];rfl,jj hb⟩
  ·rcases ho with rfl
   all_goals
    go_enter Tryz.func81,Tryz.ntmps81;go_wp2_with fail;go_ret;exact⟨zC (by simp [t3]),za _ _⟩
 ·have e0:(n != 0)=true:=by rw [bne_iff_ne];exact h0
  have e1:(n==0)=false:=beq_eq_false_iff_ne.2 h0;rcases ji t with rfl|⟨t1,t2,t3⟩<;> rcases ho with rfl
  all_goals
   go_enter Tryz.func81,Tryz.ntmps81;go_wp2_with fail;go_ret;exact⟨zC (by simp [h0]),za _ _⟩
theorem tK(n:Int)(s t:ByteArray)(w:World)(hs:s.size<=maxLen):
 Calls Tryz.prog 81 #[.agg #[.int .i64 8,.int .i64 n,.string s,.string t]] w λe w'=>e = .returned (.bool (decide (n=0)&& noB t && dM s))/\Below w.heap.size w w':=by
 have P:=O (λw=>pe s w hs);by_cases h0:n=0
 ·subst h0;rcases ji t with rfl|⟨t1,t2,t3⟩
  ·go_enter Tryz.func81,Tryz.ntmps81;go_wp2_with fail;refine(P.o _).mono ?_;rintro e w1 ⟨rfl,hb⟩;go_wp2_with fail;go_ret;exact⟨zC (by simp [bp]),jj hb⟩
  ·go_enter Tryz.func81,Tryz.ntmps81;go_wp2_with fail;go_ret;exact⟨zC (by simp [t3]),za _ _⟩
 ·have e0:(n != 0)=true:=by rw [bne_iff_ne];exact h0
  have e1:(n==0)=false:=beq_eq_false_iff_ne.2 h0;rcases ji t with rfl|⟨t1,t2,t3⟩
  all_goals
   go_enter Tryz.func81,Tryz.ntmps81;go_wp2_with fail;go_ret;exact⟨zC (by simp [h0]),za _ _⟩
theorem vo{o:Int}(ho:o=9\/o=10\/o=11\/o=12\/o=13\/o=14\/o=15\/o=16\/o=17\/o=18\/o=19\/o=20\/o=25\/o=26\/o=27)(n:Int)(s t:ByteArray):0<zJ ⟨o,n,s,t⟩:=by
 rcases ho with rfl|rfl|rfl|rfl|rfl|rfl|rfl|rfl|rfl|rfl|rfl|rfl|rfl|rfl|rfl <;> first|exact(show(0:Int)<1 by decide)|exact(show(0:Int)<2 by decide)|exact(show(0:Int)<3 by decide)
theorem Cz{o:Int}(ho:o=9\/o=10\/o=11\/o=12\/o=13\/o=14\/o=15\/o=16\/o=17\/o=18\/o=19\/o=20\/o=25\/o=26\/o=27):(o==1)=false/\(o==2)=false/\(o==3)=false/\(o==4)=false/\(o==5)=false/\(o==6)=false/\(o==7)=false/\(o==8)=false/\(o==21)=false/\(o==22)=false/\(o==23)=false/\(o==24)=false:=by
 refine⟨?_,?_,?_,?_,?_,?_,?_,?_,?_,?_,?_,?_⟩<;>(rw [beq_eq_false_iff_ne];omega)
theorem qG(o n:Int)(s t:ByteArray)(w:World)(ho:o=9\/o=10\/o=11\/o=12\/o=13\/o=14\/o=15\/o=16\/o=17\/o=18\/o=19\/o=20\/o=25\/o=26\/o=27):
 Calls Tryz.prog 81 #[.agg #[.int .i64 o,.int .i64 n,.string s,.string t]] w λe w'=>e = .returned (.bool (decide (n=0)&& noB t && noB s))/\Below w.heap.size w w':=by
 have P:=O (λw=>eM ⟨o,n,s,t⟩ w);unfold ndV at P;dsimp only at P;have hp:=vo ho n s t;obtain⟨g1,g2,g3,g4,g5,g6,g7,g8,g21,g22,g23,g24⟩:=Cz ho;generalize zJ ⟨o,n,s,t⟩=m at *;have f1:decide (0<m)=true:=decide_eq_true hp;clear ho;by_cases h0:n=0
 ·subst h0;obtain⟨s',hs'⟩:∃s',s'=s:=⟨_,rfl⟩
  obtain⟨t',LN⟩:∃t',t'=t:=⟨_,rfl⟩
  have V0:=xC w ⟨o,0,s,t⟩ 47;dsimp only at V0;clear hs' LN s' t';rcases ji s with rfl|⟨s1,s2,s3⟩<;> rcases ji t with rfl|⟨t1,t2,t3⟩
  all_goals
   go_enter Tryz.func81,Tryz.ntmps81;go_wp2_with fail;refine(P.o _).mono ?_;rintro e w1 ⟨rfl,hb⟩;have B1:=O (jj hb);have hw:w.heap.size<w1.heap.size:=Nat.lt_of_lt_of_le (by simp) hb.size;obtain⟨c0,c1,c2,c3⟩:=V0.keep hb;dsimp only at c0 c1 c2 c3;clear hb;go_wp2_with fail;go_ret;exact⟨zC (by simp [*,bp]),B1.o⟩
 ·have e0:(n != 0)=true:=by rw [bne_iff_ne];exact h0
  have e1:(n==0)=false:=beq_eq_false_iff_ne.2 h0;go_enter Tryz.func81,Tryz.ntmps81;go_wp2_with fail;refine(P.o _).mono ?_;rintro e w1 ⟨rfl,hb⟩;have B1:=O (jj hb);have hw:w.heap.size<w1.heap.size:=Nat.lt_of_lt_of_le (by simp) hb.size;obtain⟨c0,c1,c2,c3⟩:=(xC w ⟨o,n,s,t⟩ 47).keep hb;dsimp only at c0 c1 c2 c3;clear hb;go_wp2_with fail;go_ret;exact⟨zC (by simp [h0]),B1.o⟩
theorem tL(o n:Int)(s t:ByteArray)(w:World)(ho:o<=0\/28<=o):
 Calls Tryz.prog 81 #[.agg #[.int .i64 o,.int .i64 n,.string s,.string t]] w λe w'=>e = .returned (.bool false)/\Below w.heap.size w w':=by
 have P:=O (λw=>eM ⟨o,n,s,t⟩ w);unfold ndV at P;dsimp only at P;rw [il ho n s t] at P;obtain⟨g1,g2,g3,g4,g5,g6,g7,g8,g9,g10,g11,g12,g13,g14,g15,g16,g17,g18,g19,g20,g21,g22,g23,g24,g25,g26,g27⟩:=DL ho;clear ho;go_enter Tryz.func81,Tryz.ntmps81;go_wp2_with fail;refine(P.o _).mono ?_;rintro e w1 ⟨rfl,hb⟩;go_wp2_with fail;go_ret;exact⟨rfl,jj hb⟩
theorem wX(s:ByteArray):noB s=decide (s=emp):=by
 rcases h:noB s with _|_
 ·symm;rw [decide_eq_false_iff_not];rintro rfl;cases h
 ·symm;rw [decide_eq_true_iff];exact dV h
theorem fh{x:Nd}(h:1<=x.op/\x.op<=7):jE x=zD x:=by unfold jE;rw [if_pos h]
theorem tp{x:Nd}(h:8<=x.op/\x.op<=27):jE x=(decide (x.n=0)&& noB x.t &&(if x.op=8 then dM x.s else if x.op=21\/x.op=22\/x.op=24 then decide (zk x.s=0) else if x.op=23 then decide (zA x.s=0) else noB x.s)):=by
 have hp:¬zJ x<0:=by
  unfold zJ;rw [if_neg (by omega)];split
  ·omega
  ·split
   ·omega
   ·split
    ·omega
    ·rw [if_pos (by omega)];omega
 unfold jE;rw [if_neg (by omega),wX,wX];by_cases h0:x.n=0
 ·by_cases ht:x.t=emp
  ·rw [if_neg (by intro q;rcases q with q|q|q <;> contradiction),decide_eq_true h0,decide_eq_true ht];rfl
  ·rw [if_pos (.inr (.inr ht)),decide_eq_false ht,Bool.and_false,Bool.false_and]
 ·rw [if_pos (.inr (.inl h0)),decide_eq_false h0,Bool.false_and,Bool.false_and]
theorem vP{x:Nd}(h:x.op<=0\/28<=x.op):jE x=false:=by
 unfold jE;rw [if_neg (by omega),if_pos];left;obtain⟨o,n,s,t⟩:=x;rw [il h];decide
theorem tw(x:Nd)(w:World)(hx:fC x):
 Calls Tryz.prog 81 #[ndV x] w λe w'=>e = .returned (.bool (jE x))/\Below w.heap.size w w':=by
 obtain⟨o,n,s,t⟩:=x;have hs:s.size<=maxLen:=hx.s;unfold ndV;dsimp only;by_cases h1:1<=o/\o<=4
 ·rw [fh (by dsimp only;omega)];exact sR o n s t w (by omega) hx
 by_cases h5:o=5\/o=6
 ·rw [fh (by dsimp only;omega)];have:=qD o n s t h5 w;unfold zD;dsimp only;rwa [if_neg (by omega),if_neg (by omega),if_neg (by omega),if_neg (by omega),if_pos h5]
 by_cases h7:o=7
 ·rw [fh (by dsimp only;omega)];have:=gY o n s t w (by omega) hs;unfold zD;dsimp only;rwa [if_neg (by omega),if_neg (by omega),if_neg (by omega),if_neg (by omega),if_neg (by omega),if_pos h7]
 by_cases h8:8<=o/\o<=27
 ·rw [tp h8];dsimp only;by_cases h8':o=8
  ·subst h8';rw [if_pos rfl];exact tK n s t w hs
  rw [if_neg h8'];by_cases h21:o=21\/o=22\/o=24
  ·rw [if_pos h21];exact gY o n s t w (by omega) hs
  rw [if_neg h21];by_cases h23:o=23
  ·rw [if_pos h23];exact qC o n s t w h23 hs
  rw [if_neg h23];exact qG o n s t w (by omega)
 ·rw [vP (by dsimp only;omega)];exact tL o n s t w (by omega)
end Go.Proofs.YthidiimbeaabhaaGreatDoor
namespace Go.Proofs.YthidiimbeaabhaaGreatDoor
open Go.RowKit Go.Wk
structure ee(σ:Env):Prop where
 e:zQ σ.E=0
 who:zq σ.who=0
 act:zq σ.act=0
 what:zq σ.what=0
 ctx:zc σ.ctx=0/\zg σ.ctx=6
theorem l'{n:Nd}(h1:1<=n.op/\n.op<=4)(h:zD n=true):zc [n]=0:=by rw [tt n h1,if_pos h]
theorem pQ(b:Bool):zc (zw b)=0:=l' (show(1:Int)<=1/\(1:Int)<=4 by decide) (by cases b <;> decide)
theorem xA(k:Int):zc (lQ k)=0:=l' (show(1:Int)<=2/\(2:Int)<=4 by decide) (by unfold zD;simp [noB,emp];rfl)
theorem qA{u:Ud}(h:zq u=0):zc (aY u)=0:=by
 refine l' (show(1:Int)<=4/\(4:Int)<=4 by decide) ?_;unfold zq at h;have h1:zk u.1=0:=by
  by_cases q:zk u.1=0
  ·exact q
  ·rw [if_neg q] at h;exact h
 rw [if_pos h1] at h;unfold zD;simp [h1,h]
theorem EU{r:List Nd}{s:ByteArray}(hr:zc r=0)(h:fD r s=0):zc (kz r s)=0:=by
 unfold kz;rw [if_pos h];unfold fD at h;rw [if_pos hr] at h;by_cases h6:zg r=6
 ·rw [if_pos h6] at h;rcases hg:qF r s with _|V
  ·rw [hg] at h;cases h
  ·obtain⟨hl,hv⟩:=zL.1 hr;obtain⟨e,-,h3,-⟩:=xr hv h6;unfold qF at hg;rw [Option.map_eq_some_iff] at hg;obtain⟨x,hx,rfl⟩:=hg;have hm:=List.mem_of_find?_eq_some hx;refine zL.2 ⟨?_,(h3 x hm).1⟩;have:x.2.length<=(zY (zX r)).length:=by
    generalize zX r=L at hm
    induction L with
    | nil=>cases hm
    | cons y L ih =>
     simp only [zY,List.length_cons,List.length_append]
     rcases List.mem_cons.1 hm with rfl|hm
     ·omega
     ·have:=ih hm;omega
   rw [e] at hl;simp only [List.length_cons] at hl;simp only [Option.getD_some];omega
 ·rw [if_neg h6] at h;cases h
theorem gu{e:Int}{b:Bool}{V:List Nd}(h:ao e b = .ok V):zc V=0:=by
 unfold ao at h;split at h
 ·injection h with h;subst h;exact pQ b
 ·cases h
theorem eu{e:Int}{W V:List Nd}(h:jo e W = .ok V)(hw:e=0->zc W=0):zc V=0:=by
 unfold jo at h;split at h
 ·rename_i h0;injection h with h;subst h;exact hw h0
 ·cases h
theorem cQ{b:Bool}{V:List Nd}(h:(Except.ok (zw b):Res)= .ok V):zc V=0:=by
 injection h with h;subst h;exact pQ b
theorem Aa{σ:Env}(hσ:ee σ){s:ByteArray}{V:List Nd}(h:aJ σ s = .ok V):zc V=0:=by
 unfold aJ at h;split at h
 ·injection h with h;subst h;exact qA hσ.who
 ·split at h
  ·injection h with h;subst h;exact qA hσ.act
  ·split at h
   ·injection h with h;subst h;exact qA hσ.what
   ·split at h
    ·injection h with h;subst h;exact hσ.ctx.1
    ·cases h
theorem Fc{E:List En}(hE:zQ E=0){V r:List Nd}(hV:zc V=0)(h:dy E V = .ok (some r)):zc r=0/\zg r=6:=by
 unfold dy at h;split at h
 ·rename_i h6;injection h with h;injection h with h;subst h;exact⟨hV,h6⟩
 ·split at h
  ·injection h with h;rw [Option.map_eq_some_iff] at h;obtain⟨x,hx,rfl⟩:=h;exact xf (gi.1 hE).2.1 (List.mem_of_find?_eq_some hx)
  ·cases h
theorem Iw{E:List En}(hE:zQ E=0){n:Nd}{V W:List Nd}(hV:zc V=0)(h:bK E n V = .ok W):zc W=0:=by
 unfold bK at h;split at h
 ·split at h
  ·exact cQ h
  ·cases h
 ·split at h
  ·split at h
   ·exact eu h λ_=>xA _
   ·cases h
  ·split at h
   ·split at h
    ·exact gu h
    ·cases h
   ·split at h
    ·split at h
     ·exact cQ h
     ·cases h
    ·rcases hr:dy E V with e|(_|r)
     ·rw [hr] at h;cases h
     ·rw [hr] at h;simp only at h;split at h
      ·exact cQ h
      ·cases h
     ·rw [hr] at h;simp only at h;split at h
      ·exact cQ h
      ·exact eu h λh0=>EU (Fc hE hV hr).1 h0
theorem Io{E:List En}{op:Int}{A B W:List Nd}(h:aT E op A B = .ok W):zc W=0:=by
 unfold aT at h;split at h
 ·exact cQ h
 ·split at h
  ·unfold inX at h;split at h
   ·exact cQ h
   ·cases h
  ·split at h
   ·exact gu h
   ·split at h
    ·exact gu h
    ·split at h
     ·exact gu h
     ·split at h
      ·split at h
       ·exact cQ h
       ·split at h
        ·exact cQ h
        ·exact eu h λ_=>xA _
      ·cases h
theorem BH{E:List En}(hE:zQ E=0){n:Nd}{L:List (List Nd)}{W:List Nd}(hL:∀V∈L,zc V=0)(h:qJ E n L = .ok W):zc W=0:=by
 match L,hL,h with
 | [V],hL,h=>exact Iw hE (hL V (by simp)) h
 | [A,B],_,h=>exact Io h
 | [],_,h=>cases h
 | _ :: _ :: _ :: _,_,h=>cases h
mutual
theorem ir{σ:Env}(hσ:ee σ):∀(x:Ex) (f:Bool),x.valid f->∀V,evX σ x = .ok V->zc V=0
 | .node n ps,f,hv,V,h=>by
  obtain⟨h1,-,h3⟩:=hv;have hs:jE n=true:=by unfold cL at h1;rw [Bool.and_eq_true] at h1;exact h1.1
  unfold evX at h;split at h
  ·rename_i Ep;injection h with h;subst h;exact l' Ep (by rw [<-fh (by omega)];exact hs)
  ·split at h
   ·exact Aa hσ h
   ·split at h
    ·exact tC hσ ps _ _ h3 _ V h
    ·split at h
     ·exact E' hσ ps _ _ h3 V h
     ·split at h
      ·rcases hF:evF σ ps with e|L
       ·rw [hF] at h;cases h
       ·rw [hF] at h;exact eu h λh0=>(Ba h0).1
      ·rcases hS:evS σ ps with e|L
       ·rw [hS] at h;cases h
       ·rw [hS] at h;simp only at h;split at h
        ·exact eu h λh0=>(DJ h0).1
        ·exact BH hσ.e (Ck hσ ps _ _ h3 L hS) h
theorem tC{σ:Env}(hσ:ee σ):∀(ps:Exs) (c:Bool) (s:ByteArray),ps.valid c s->∀(o:Bool) (V:List Nd),zW σ o ps = .ok V->zc V=0
 | .nil,_,_,_,_,_,h=>by cases h
 | .cons a r,c,s,hv,o,V,h=>by
  unfold zW at h;rcases ha:evX σ a with e|W
  ·rw [ha] at h;cases h
  ·rw [ha] at h;simp only at h;split at h
   ·split at h
    ·injection h with h;subst h;exact ir hσ a _ hv.2.1 _ ha
    ·exact yV hσ r _ _ hv.2.2 V h
   ·cases h
theorem yV{σ:Env}(hσ:ee σ):∀(ps:Exs) (c:Bool) (s:ByteArray),ps.valid c s->∀V,aA σ ps = .ok V->zc V=0
 | .nil,_,_,_,_,h=>by cases h
 | .cons b _,c,s,hv,V,h=>by
  unfold aA at h;rcases hb:evX σ b with e|W
  ·rw [hb] at h;cases h
  ·rw [hb] at h;simp only at h;split at h
   ·injection h with h;subst h;exact ir hσ b _ hv.2.1 _ hb
   ·cases h
theorem E'{σ:Env}(hσ:ee σ):∀(ps:Exs) (c:Bool) (s:ByteArray),ps.valid c s->∀V,gI σ ps = .ok V->zc V=0
 | .nil,_,_,_,_,h=>by cases h
 | .cons b r,c,s,hv,V,h=>by
  unfold gI at h;rcases hb:evX σ b with e|W
  ·rw [hb] at h;cases h
  ·rw [hb] at h;simp only at h;split at h
   ·split at h
    ·exact ug hσ r _ _ hv.2.2 V h
    ·exact C5 hσ r _ _ hv.2.2 V h
   ·cases h
theorem ug{σ:Env}(hσ:ee σ):∀(ps:Exs) (c:Bool) (s:ByteArray),ps.valid c s->∀V,iQ σ ps = .ok V->zc V=0
 | .nil,_,_,_,_,h=>by cases h
 | .cons a _,c,s,hv,V,h=>by
  unfold iQ at h;exact ir hσ a _ hv.2.1 V h
theorem C5{σ:Env}(hσ:ee σ):∀(ps:Exs) (c:Bool) (s:ByteArray),ps.valid c s->∀V,tP σ ps = .ok V->zc V=0
 | .nil,_,_,_,_,h=>by cases h
 | .cons _ r,c,s,hv,V,h=>by
  unfold tP at h;exact ug hσ r _ _ hv.2.2 V h
theorem Ck{σ:Env}(hσ:ee σ):∀(ps:Exs) (c:Bool) (s:ByteArray),ps.valid c s->∀L,evS σ ps = .ok L->∀V∈L,zc V=0
 | .nil,_,_,_,L,h=>by
  unfold evS at h;injection h with h;subst h;intro V hV;cases hV
 | .cons x r,c,s,hv,L,h=>by
  unfold evS at h;rcases hx:evX σ x with e|W
  ·rw [hx] at h;cases h
  ·rw [hx] at h;simp only at h;rcases hr:evS σ r with e|M
   ·rw [hr] at h;cases h
   ·rw [hr] at h;simp only at h;injection h with h;subst h;intro V hV;rcases List.mem_cons.1 hV with rfl|hV
    ·exact ir hσ x _ hv.2.1 _ hx
    ·exact Ck hσ r _ _ hv.2.2 M hr V hV
end
theorem i5{e:Int}{b:Bool}:ao e b≠ .error 0:=λh=>by
 unfold ao at h;split at h
 ·cases h
 ·rename_i hn;injection h with h;exact hn h
theorem fW{e:Int}{V:List Nd}:jo e V≠ .error 0:=λh=>by
 unfold jo at h;split at h
 ·cases h
 ·rename_i hn;injection h with h;exact hn h
theorem yF{σ:Env}{s:ByteArray}:aJ σ s≠ .error 0:=λh=>by
 unfold aJ at h
 repeat (split at h;· cases h)
 injection h with h;cases h
theorem dU{k:Int}(hk:k≠0):(Except.error k:Res)≠ .error 0:=λh=>by injection h with h;exact hk h
theorem Gr{E:List En}{V:List Nd}:dy E V≠ .error 0:=λh=>by
 unfold dy at h;split at h
 ·cases h
 ·split at h
  ·cases h
  ·injection h with h;cases h
theorem E9{E:List En}{n:Nd}{V:List Nd}:bK E n V≠ .error 0:=λh=>by
 unfold bK at h;split at h
 ·split at h
  ·cases h
  ·exact dU (by decide) h
 ·split at h
  ·split at h
   ·exact fW h
   ·exact dU (by decide) h
  ·split at h
   ·split at h
    ·exact i5 h
    ·exact dU (by decide) h
   ·split at h
    ·split at h
     ·cases h
     ·exact dU (by decide) h
    ·rcases hr:dy E V with e|(_|r)
     ·rw [hr] at h;simp only at h;injection h with h;subst h;exact Gr hr
     ·rw [hr] at h;simp only at h;split at h
      ·cases h
      ·exact dU (by decide) h
     ·rw [hr] at h;simp only at h;split at h
      ·cases h
      ·exact fW h
theorem EK{E:List En}{op:Int}{A B:List Nd}:aT E op A B≠ .error 0:=λh=>by
 unfold aT at h;split at h
 ·cases h
 ·split at h
  ·unfold inX at h;split at h
   ·cases h
   ·exact dU (by decide) h
  ·split at h
   ·exact i5 h
   ·split at h
    ·exact i5 h
    ·split at h
     ·exact i5 h
     ·split at h
      ·split at h
       ·cases h
       ·split at h
        ·cases h
        ·exact fW h
      ·exact dU (by decide) h
theorem xE{σ:Env}:∀(ps:Exs) (L:List (List Nd)),evS σ ps = .ok L->L.length=ps.len
 | .nil,L,h=>by
  unfold evS at h;injection h with h;subst h;rfl
 | .cons x r,L,h=>by
  unfold evS at h;rcases hx:evX σ x with e|W
  ·rw [hx] at h;cases h
  ·rw [hx] at h;simp only at h;rcases hr:evS σ r with e|M
   ·rw [hr] at h;cases h
   ·rw [hr] at h;simp only at h;injection h with h;subst h;simp only [List.length_cons,Exs.len,xE r M hr]
mutual
theorem iC{σ:Env}:∀(x:Ex),x.valid false->evX σ x≠ .error 0
 | .node n ps,hv=>λh=>by
  obtain⟨h1,h2,h3⟩:=hv;unfold cL at h1;rw [Bool.and_eq_true] at h1;obtain⟨hf,h7⟩:=h1;have h7':n.op≠7:=by simpa using h7
  unfold evX at h;split at h
  ·cases h
  ·rename_i g14;split at h
   ·exact yF h
   ·rename_i g8;split at h
    ·rename_i g;have hr:ae n=false:=decide_eq_false (by omega);have hl:(ps.len:Int)=2:=by
      rw [h2];unfold zJ;rw [if_neg (by omega),if_neg (by omega),if_neg (by omega),if_neg (by omega),if_pos (by omega)]
     rw [hr] at h3;exact sU ps _ h3 (by omega) _ h
    ·rename_i g11;split at h
     ·rename_i g;have hr:ae n=false:=decide_eq_false (by omega);have hl:(ps.len:Int)=3:=by
       rw [h2];unfold zJ;rw [if_neg (by omega),if_neg (by omega),if_neg (by omega),if_pos (by omega)]
      rw [hr] at h3;exact Fy ps _ h3 (by omega) h
     ·rename_i g13;split at h
      ·rename_i g6;have hr:ae n=true:=decide_eq_true g6;rw [hr] at h3;rcases hF:evF σ ps with e|L
       ·rw [hF] at h;simp only at h;injection h with h;subst h;exact CJ ps _ h3 hF
       ·rw [hF] at h;exact fW h
      ·rename_i g6;have hr:ae n=false:=decide_eq_false g6;rw [hr] at h3;rcases hS:evS σ ps with e|L
       ·rw [hS] at h;simp only at h;injection h with h;subst h;exact CQ ps _ h3 hS
       ·rw [hS] at h;simp only at h;split at h
        ·exact fW h
        ·rename_i g5;have hL:=xE ps L hS;have hlen:ps.len=1\/ps.len=2:=by
          unfold zJ at h2;rw [if_neg (by omega),if_neg (by omega)] at h2;split at h2
          ·omega
          ·split at h2
           ·omega
           ·omega
         match L,hL with
         | [],hL=>simp only [List.length_nil] at hL;omega
         | [V],_=>exact E9 h
         | [A,B],_=>exact EK h
         | _ :: _ :: _ :: _,hL=>simp only [List.length_cons] at hL;omega
theorem sU{σ:Env}:∀(ps:Exs) (s:ByteArray),ps.valid false s->2<=ps.len->∀(o:Bool),zW σ o ps≠ .error 0
 | .nil,_,_,hl,_=>λ_=>by simp only [Exs.len] at hl;omega
 | .cons a r,s,hv,hl,o=>λh=>by
  simp only [Exs.len] at hl;unfold zW at h;rcases ha:evX σ a with e|W
  ·rw [ha] at h;simp only at h;injection h with h;subst h;exact iC a hv.2.1 ha
  ·rw [ha] at h;simp only at h;split at h
   ·split at h
    ·cases h
    ·exact yh r _ hv.2.2 (by omega) h
   ·exact dU (by decide) h
theorem yh{σ:Env}:∀(ps:Exs) (s:ByteArray),ps.valid false s->1<=ps.len->aA σ ps≠ .error 0
 | .nil,_,_,hl=>λ_=>by simp only [Exs.len] at hl;omega
 | .cons b r,s,hv,hl=>λh=>by
  unfold aA at h;rcases hb:evX σ b with e|W
  ·rw [hb] at h;simp only at h;injection h with h;subst h;exact iC b hv.2.1 hb
  ·rw [hb] at h;simp only at h;split at h
   ·cases h
   ·exact dU (by decide) h
theorem Fy{σ:Env}:∀(ps:Exs) (s:ByteArray),ps.valid false s->3<=ps.len->gI σ ps≠ .error 0
 | .nil,_,_,hl=>λ_=>by simp only [Exs.len] at hl;omega
 | .cons b r,s,hv,hl=>λh=>by
  simp only [Exs.len] at hl;unfold gI at h;rcases hb:evX σ b with e|W
  ·rw [hb] at h;simp only at h;injection h with h;subst h;exact iC b hv.2.1 hb
  ·rw [hb] at h;simp only at h;split at h
   ·split at h
    ·exact ni r _ hv.2.2 (by omega) h
    ·exact C0 r _ hv.2.2 (by omega) h
   ·exact dU (by decide) h
theorem ni{σ:Env}:∀(ps:Exs) (s:ByteArray),ps.valid false s->1<=ps.len->iQ σ ps≠ .error 0
 | .nil,_,_,hl=>λ_=>by simp only [Exs.len] at hl;omega
 | .cons a r,s,hv,hl=>λh=>by
  unfold iQ at h;exact iC a hv.2.1 h
theorem C0{σ:Env}:∀(ps:Exs) (s:ByteArray),ps.valid false s->2<=ps.len->tP σ ps≠ .error 0
 | .nil,_,_,hl=>λ_=>by simp only [Exs.len] at hl;omega
 | .cons a r,s,hv,hl=>λh=>by
  simp only [Exs.len] at hl;unfold tP at h;exact ni r _ hv.2.2 (by omega) h
theorem CQ{σ:Env}:∀(ps:Exs) (s:ByteArray),ps.valid false s->evS σ ps≠ .error 0
 | .nil,_,_=>λh=>by unfold evS at h;cases h
 | .cons x r,s,hv=>λh=>by
  unfold evS at h;rcases hx:evX σ x with e|W
  ·rw [hx] at h;simp only at h;injection h with h;subst h;exact iC x hv.2.1 hx
  ·rw [hx] at h;simp only at h;rcases hr:evS σ r with e|M
   ·rw [hr] at h;simp only at h;injection h with h;subst h;exact CQ r _ hv.2.2 hr
   ·rw [hr] at h;cases h
theorem CJ{σ:Env}:∀(ps:Exs) (s:ByteArray),ps.valid true s->evF σ ps≠ .error 0
 | .nil,_,_=>λh=>by unfold evF at h;cases h
 | .cons x r,s,hv=>λh=>by
  unfold evF at h;rcases hx:ln σ x with e|W
  ·rw [hx] at h;simp only at h;injection h with h;subst h;exact DK x hv.2.1 hx
  ·rw [hx] at h;simp only at h;rcases hr:evF σ r with e|M
   ·rw [hr] at h;simp only at h;injection h with h;subst h;exact CJ r _ hv.2.2 hr
   ·rw [hr] at h;cases h
theorem DK{σ:Env}:∀(x:Ex),x.valid true->ln σ x≠ .error 0
 | .node n ps,hv=>λh=>by
  obtain⟨h1,h2,h3⟩:=hv;unfold cL at h1;rw [Bool.and_eq_true] at h1;have h7:n.op=7:=by simpa using h1.2
  have hr:ae n=false:=decide_eq_false (by omega);have hl:(ps.len:Int)=1:=by
   rw [h2];unfold zJ;rw [if_neg (by omega),if_neg (by omega),if_pos (by omega)]
  rw [hr] at h3;unfold ln at h;exact ni ps _ h3 (by omega) h
end
noncomputable def upF(σ:Env)(P:List Nd):Int:=or2 (zQ σ.E) (or2 (cz σ.who σ.act σ.what σ.ctx) (jg P))
noncomputable def ju(σ:Env)(P:List Nd):Res:=if upF σ P=0 then(match lB P with|some x=>evX σ x|none => .error 1) else .error (upF σ P)
def lW:Res->Int
 | .ok _=>0
 | .error e=>e
def kS:Res->List Nd
 | .ok V=>V
 | .error _ => []
theorem Hu{σ:Env}(h1:zQ σ.E=0)(h2:cz σ.who σ.act σ.what σ.ctx=0):ee σ:=by
 unfold cz at h2;obtain⟨a1,h2⟩:=zt.1 h2;obtain⟨a2,h2⟩:=zt.1 h2;obtain⟨a3,h2⟩:=zt.1 h2;obtain⟨a4,a5⟩:=zt.1 h2;refine⟨h1,a1,a2,a3,a4,?_⟩;by_cases g:zg σ.ctx=6
 ·exact g
 ·rw [if_neg g] at a5;cases a5
theorem nh{σ:Env}{P:List Nd}(h:upF σ P=0):ee σ/\P.length<=200/\∃x:Ex,x.valid false/\P=x.flat:=by
 unfold upF at h;obtain⟨h1,h⟩:=zt.1 h;obtain⟨h2,h3⟩:=zt.1 h;exact⟨Hu h1 h2,jq.1 h3⟩
theorem gm{σ:Env}{P:List Nd}{x:Ex}(h:upF σ P=0)(hx:x.valid false)(e:P=x.flat):ju σ P=evX σ x:=by
 unfold ju;rw [if_pos h,kG.2 ⟨hx,e⟩]
theorem kR{σ:Env}{P:List Nd}:ju σ P≠ .error 0:=λh=>by
 by_cases g:upF σ P=0
 ·obtain⟨-,-,x,hx,e⟩:=nh g;rw [gm g hx e] at h;exact iC x hx h
 ·unfold ju at h;rw [if_neg g] at h;injection h with h;exact g h
def bg(o:Int):Nd:=⟨o,0,emp,emp⟩
def ex2(o:Int)(a b:Ex):Ex := .node (bg o) (.cons a (.cons b .nil))
def xm(o:Bool)(x y:Res):Res:=match x with
 | .error e => .error e
 | .ok V=>if zg V=1 then(if decide ((hdN V).n=1)=o then .ok V else match y with
  | .error e => .error e
  | .ok W=>if zg W=1 then .ok W else .error 2) else .error 2
theorem pI(σ:Env)(o:Bool)(a b:Ex):evX σ (ex2 (if o then 12 else 11) a b)=xm o (evX σ a) (evX σ b):=by
 unfold ex2;rw [evX];have e9:(bg (if o then 12 else 11)).op=if o then 12 else 11:=rfl
 rw [e9,if_neg (by cases o <;> decide),if_neg (by cases o <;> decide),if_pos (by cases o <;> decide)];rw [show decide ((if o=true then(12:Int) else 11)=12)=o by cases o <;> rfl];simp only [zW,aA,xm];rcases evX σ a with e|V
 ·rfl
 ·simp only;rcases evX σ b with e|W <;> rfl
theorem gC{V:List Nd}(h:zc V=0)(h1:zg V=1):V=zw true\/V=zw false:=by
 obtain⟨hl,hv⟩:=zL.1 h;have cd:=hv.pos
 match V,cd with
 | x :: r,_ =>
  have hx:x.op=1:=h1
  unfold IsV at hv
  simp only [zm,List.getElem?_cons_zero] at hv
  by_cases hs:zD x=true
  ·rw [if_pos hs,if_neg (by omega),if_neg (by omega),if_neg (by omega)] at hv
   have hr:r = []:=by simpa using hv
   subst hr;unfold zD at hs;rw [if_pos hx] at hs;simp only [Bool.and_eq_true,Bool.or_eq_true,decide_eq_true_eq] at hs;obtain⟨⟨hn,h2⟩,h3⟩:=hs;rcases hn with hn|hn
   ·right;rw [show x=⟨1,0,emp,emp⟩ from Nd.ext4 hx hn (dV h2) (dV h3)];rfl
   ·left;rw [show x=⟨1,1,emp,emp⟩ from Nd.ext4 hx hn (dV h2) (dV h3)];rfl
  ·rw [if_neg hs] at hv;cases hv
end Go.Proofs.YthidiimbeaabhaaGreatDoor
namespace Go.Wk
section
variable {P Q:List Nd} (h:jQ P Q=0)
include h
end
end Go.Wk
namespace Go.Proofs.YthidiimbeaabhaaGreatDoor
open Go.RowKit Go.Wk
def setX(L:List Ex):Ex := .node ⟨5,L.length,emp,emp⟩ (match L with
 | [a,b] => .cons a (.cons b .nil)
 | [a,b,c] => .cons a (.cons b (.cons c .nil))
 | _ => .nil)
end Go.Proofs.YthidiimbeaabhaaGreatDoor
