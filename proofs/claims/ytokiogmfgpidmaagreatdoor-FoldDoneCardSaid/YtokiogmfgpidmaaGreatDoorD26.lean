/-
  tree.variable, tree.shaped; the reference's Fields: may a node of an expression ..
-/
import Derived.Test.YtokiogmfgpidmaaGreatDoorD25
set_option maxRecDepth 100000
set_option maxHeartbeats 8000000
namespace Go.Proofs.YtokiogmfgpidmaaGreatDoor
open Go.RowKit Go.Wk Go.Sort
theorem W5{s:ByteArray}(h:0<s.size):s.data.toList.head?=some s[0]:=by
 have h':0<s.data.toList.length:=by rw [Array.length_toList];exact h
 rw [List.head?_eq_getElem?,List.getElem?_eq_getElem h'];rfl
theorem zex{s:ByteArray}(h:0<s.size)(hq:(s[0].toNat:Int)=63):Kz s=decide (zh (s.extract 1 s.size)=0):=by
 unfold Kz;rw [W5 h,if_pos];have:s[0].toNat=63:=by omega
 exact congrArg some (UInt8.toNat_inj.1 this)
theorem zer{s:ByteArray}(h:0<s.size)(hq:¬(s[0].toNat:Int)=63):Kz s=(decide (zh s=0)&& !zN s):=by
 unfold Kz;rw [W5 h,if_neg];intro e;injection e with e;exact hq (by rw [e];rfl)
theorem zez:Kz ⟨#[]⟩=false:=by decide
theorem zax(s:ByteArray):(s.extract 1 s.size).size<=s.size:=by simp
theorem ze8{s:ByteArray}(h:0<s.size):s.toList.isEmpty=false/\¬s.toList = []:=⟨by rw [List.isEmpty_eq_false_iff];exact λq=>(Gu h).1 q,λq=>(Gu h).1 q⟩
theorem Gn{w:World}{b k:Nat}{arr:Array Value}{t:TypeId}{fz:Nat × Nat}{u:Value}(h:w.heap[b]?=some (.cells arr t fz))(hu:arr[k]?=some u):w.cell? ⟨b,k,none⟩=some u:=by
 simp [World.cell?,h,hu]
structure Vnx(w:World)(b:Nat)(x:Nd):Prop where
 c0:w.cell? ⟨b,0,none⟩=some (.int .i64 x.op)
 c1:w.cell? ⟨b,1,none⟩=some (.int .i64 x.n)
 c2:w.cell? ⟨b,2,none⟩=some (.string x.s)
 c3:w.cell? ⟨b,3,none⟩=some (.string x.t)
theorem Vnx.keep{w w':World}{b:Nat}{x:Nd}(h:Vnx w b x)(hb:Below w.heap.size w w'):Vnx w' b x:=⟨za hb h.c0,za hb h.c1,za hb h.c2,za hb h.c3⟩
theorem yl(w:World)(x:Nd)(t:TypeId):Vnx (w.alloc (.cells #[.int .i64 x.op,.int .i64 x.n,.string x.s,.string x.t] t)) w.heap.size x :=
 ⟨Gn (heap_alloc_new w _) rfl,Gn (heap_alloc_new w _) rfl,Gn (heap_alloc_new w _) rfl,Gn (heap_alloc_new w _) rfl⟩
theorem VS(s:ByteArray)(w:World)(hs:s.size<=maxLen):Calls Tryz.prog 113 #[.string s] w λe w'=>e = .returned (.bool (Kz s))/\Below w.heap.size w w':=by
 have PR:=O (λw=>Wb s w);have PN:=O (λw=>Gj s w hs);have PS:=O (λw=>Gj (s.extract 1 s.size) w (Nat.le_trans (zax s) hs));unfold maxLen at hs;by_cases h:0<s.size
 ·obtain⟨he,he2⟩:=ze8 h;by_cases hq:(s[0].toNat:Int)=63
  ·have HV:=O (zex h hq);have f1:((s[0].toNat:Int)==63)=true:=beq_iff_eq.2 hq;clear hq;by_cases h1:zh (s.extract 1 s.size)=0
   ·have HR:=O (show Kz s=true by rw [HV.o,h1];rfl);rw [h1,zm] at PS;clear h1;go_enter Tryz.func113,Tryz.ntmps113;go_wp2_with fail;refine(PS.o _).mono ?_;rintro e w1 ⟨rfl,hb⟩;go_wp2_with fail;go_ret;exact⟨by rw [HR.o];rfl,hb⟩
   ·have HR:=O (show Kz s=false by rw [HV.o,decide_eq_false h1]);rw [zy h1] at PS;clear HV h1;generalize zh (s.extract 1 s.size)=f at *;go_enter Tryz.func113,Tryz.ntmps113;go_wp2_with fail;refine(PS.o _).mono ?_;rintro e w1 ⟨rfl,hb⟩;go_wp2_with fail;go_ret;exact⟨by rw [HR.o];rfl,hb⟩
  ·have HV:=O (zer h hq);have f1:((s[0].toNat:Int)==63)=false:=beq_eq_false_iff_ne.2 hq;clear hq;by_cases h1:zh s=0
   ·have HR:=O (show Kz s = !zN s by rw [HV.o,h1];rfl);rw [h1,zm] at PN;clear h1;generalize zN s=r at *;go_enter Tryz.func113,Tryz.ntmps113;go_wp2_with fail;refine(PN.o _).mono ?_;rintro e w1 ⟨rfl,hb⟩;go_wp2_with fail;refine(PR.o _).mono ?_;rintro e w2 ⟨rfl,rfl⟩;go_wp2_with fail;go_ret;exact⟨by rw [HR.o];rfl,hb⟩
   ·have HR:=O (show Kz s=false by rw [HV.o,decide_eq_false h1];rfl);rw [zy h1] at PN;clear HV h1;generalize zh s=f at *;go_enter Tryz.func113,Tryz.ntmps113;go_wp2_with fail;refine(PN.o _).mono ?_;rintro e w1 ⟨rfl,hb⟩;go_wp2_with fail;go_ret;exact⟨by rw [HR.o];rfl,hb⟩
 ·have e:s=⟨#[]⟩:=ql (List.eq_nil_of_length_eq_zero (by rw [Array.length_toList];show s.size=0;omega));subst e;have HR:=O zez;rw [show zh ⟨#[]⟩=1 by decide,zy (by decide)] at PN;clear h;go_enter Tryz.func113,Tryz.ntmps113;go_wp2_with fail;refine(PN.o _).mono ?_;rintro e w1 ⟨rfl,hb⟩;go_wp2_with fail;go_ret;exact⟨by rw [HR.o];rfl,hb⟩
theorem MF(w:World)(x:Nd)(hx:Kb x):Ns (w.alloc (.cells #[.int .i64 x.op,.int .i64 x.n,.string x.s,.string x.t] 28)) (some ⟨w.heap.size,0,none⟩) 1 1 [x] :=
 ⟨rfl,Nat.le_refl _,by unfold maxLen;omega,zeT w [x] _,λy hy=>by
  simp only [List.mem_cons,List.not_mem_nil,or_false] at hy;subst hy;exact hx⟩
theorem zah(x:Nd)(h:1<=x.op/\x.op<=4):zc [x]=if zq x=true then 0 else 1:=by
 unfold zc;rw [if_neg (by simp)];simp only [List.length_singleton];by_cases hs:zq x=true
 ·rw [if_pos hs,if_pos];have h5:x.op≠5:=by omega
  have h6:x.op≠6:=by omega
  have h7:x.op≠7:=by omega
  simp [zl,hs,h5,h6,h7]
 ·rw [if_neg hs,if_neg];simp [zl,hs]
theorem zat(o n:Int)(s t:ByteArray)(w:World)(ho:o=1\/o=2\/o=3\/o=4)(hx:Kb ⟨o,n,s,t⟩):
 Calls Tryz.prog 62 #[.agg #[.int .i64 o,.int .i64 n,.string s,.string t]] w λe w'=>e = .returned (.bool (zq ⟨o,n,s,t⟩))/\Below w.heap.size w w':=by
 have b0:=zb w (.cells #[.int .i64 o,.int .i64 n,.string s,.string t] 28);have N1:=MF (w.alloc (.cells #[.int .i64 o,.int .i64 n,.string s,.string t] 28)) ⟨o,n,s,t⟩ hx;have B1:=O (b0.trans ((zb (w.alloc (.cells #[.int .i64 o,.int .i64 n,.string s,.string t] 28)) (.cells #[.int .i64 o,.int .i64 n,.string s,.string t] 28)).mono b0.size));have hz:(w.alloc (.cells #[.int .i64 o,.int .i64 n,.string s,.string t] 28)).heap.size=w.heap.size+1:=by simp
 rw [hz] at N1;have C:=O (zT N1);rw [zah ⟨o,n,s,t⟩ (by dsimp only;omega)] at C;dsimp only at C;clear b0 N1 hz hx;generalize zq ⟨o,n,s,t⟩=r at *;cases r
 ·rw [if_neg (by decide),zy (by decide)] at C;rcases ho with rfl|rfl|rfl|rfl
  all_goals
   go_enter Tryz.func62,Tryz.ntmps62;go_wp2_with fail;refine C.o.mono ?_;rintro e w1 ⟨rfl,b1⟩;have B2:=O (B1.o.trans (b1.mono B1.o.size));clear b1 C;go_wp2_with fail;go_ret;exact⟨rfl,B2.o⟩
 ·rw [if_pos rfl,zm] at C;rcases ho with rfl|rfl|rfl|rfl
  all_goals
   go_enter Tryz.func62,Tryz.ntmps62;go_wp2_with fail;refine C.o.mono ?_;rintro e w1 ⟨rfl,b1⟩;have B2:=O (B1.o.trans (b1.mono B1.o.size));clear b1 C;go_wp2_with fail;go_ret;exact⟨rfl,B2.o⟩
theorem Yh(o n:Int)(s t:ByteArray)(ho:o=5\/o=6)(w:World):
 Calls Tryz.prog 62 #[.agg #[.int .i64 o,.int .i64 n,.string s,.string t]] w λe w'=>e = .returned (.bool (decide (0<=n)&& noB s && noB t))/\Below w.heap.size w w':=by
 by_cases h0:0<=n
 ·rcases ho with rfl|rfl <;> rcases zJ s with rfl|⟨s1,s2,s3⟩<;> rcases zJ t with rfl|⟨t1,t2,t3⟩
  all_goals
   go_enter Tryz.func62,Tryz.ntmps62;go_wp2;go_ret;exact⟨zn (by simp [*,jH]),zb _ _⟩
 ·rcases ho with rfl|rfl <;> rcases zJ s with rfl|⟨s1,s2,s3⟩<;> rcases zJ t with rfl|⟨t1,t2,t3⟩
  all_goals
   go_enter Tryz.func62,Tryz.ntmps62;go_wp2;go_ret;exact⟨zn (by first|rfl|(rw [decide_eq_false (show¬0<=n by omega)];rfl)),zb _ _⟩
theorem OS(o n:Int)(s t:ByteArray)(w:World)(ho:o=7\/o=21\/o=22\/o=24)(hs:s.size<=maxLen):
 Calls Tryz.prog 62 #[.agg #[.int .i64 o,.int .i64 n,.string s,.string t]] w λe w'=>e = .returned (.bool (decide (n=0)&& noB t && decide (zh s=0)))/\Below w.heap.size w w':=by
 have P:=O (λw=>Gj s w hs);by_cases h0:n=0
 ·subst h0;rcases zJ t with rfl|⟨t1,t2,t3⟩
  ·by_cases h1:zh s=0
   ·have HR:=O (show(decide ((0:Int)=0)&& noB ⟨#[]⟩&& decide (zh s=0))=true by rw [h1];rfl);rw [h1,zm] at P;clear h1;rcases ho with rfl|rfl|rfl|rfl
    all_goals
     go_enter Tryz.func62,Tryz.ntmps62;go_wp2_with fail;refine(P.o _).mono ?_;rintro e w1 ⟨rfl,hb⟩;go_wp2_with fail;go_ret;exact⟨by rw [HR.o];rfl,zx hb⟩
   ·have HR:=O (show(decide ((0:Int)=0)&& noB ⟨#[]⟩&& decide (zh s=0))=false by rw [decide_eq_false h1];rfl);rw [zy h1] at P;clear h1;generalize zh s=f at *;rcases ho with rfl|rfl|rfl|rfl
    all_goals
     go_enter Tryz.func62,Tryz.ntmps62;go_wp2_with fail;refine(P.o _).mono ?_;rintro e w1 ⟨rfl,hb⟩;go_wp2_with fail;go_ret;exact⟨by rw [HR.o];rfl,zx hb⟩
  ·rcases ho with rfl|rfl|rfl|rfl
   all_goals
    go_enter Tryz.func62,Tryz.ntmps62;go_wp2_with fail;go_ret;exact⟨zn (by simp [t3]),zb _ _⟩
 ·have e0:(n != 0)=true:=by rw [bne_iff_ne];exact h0
  have e1:(n==0)=false:=beq_eq_false_iff_ne.2 h0;rcases zJ t with rfl|⟨t1,t2,t3⟩<;> rcases ho with rfl|rfl|rfl|rfl
  all_goals
   go_enter Tryz.func62,Tryz.ntmps62;go_wp2_with fail;go_ret;exact⟨zn (by simp [h0]),zb _ _⟩
theorem Zs(o n:Int)(s t:ByteArray)(w:World)(ho:o=23)(hs:s.size<=maxLen):
 Calls Tryz.prog 62 #[.agg #[.int .i64 o,.int .i64 n,.string s,.string t]] w λe w'=>e = .returned (.bool (decide (n=0)&& noB t && decide (zt s=0)))/\Below w.heap.size w w':=by
 have P:=O (λw=>IL s w hs);by_cases h0:n=0
 ·subst h0;rcases zJ t with rfl|⟨t1,t2,t3⟩
  ·by_cases h1:zt s=0
   ·have HR:=O (show(decide ((0:Int)=0)&& noB ⟨#[]⟩&& decide (zt s=0))=true by rw [h1];rfl);rw [h1,zm] at P;clear h1;rcases ho with rfl
    all_goals
     go_enter Tryz.func62,Tryz.ntmps62;go_wp2_with fail;refine(P.o _).mono ?_;rintro e w1 ⟨rfl,hb⟩;go_wp2_with fail;go_ret;exact⟨by rw [HR.o];rfl,zx hb⟩
   ·have HR:=O (show(decide ((0:Int)=0)&& noB ⟨#[]⟩&& decide (zt s=0))=false by rw [decide_eq_false h1];rfl);rw [zy h1] at P;clear h1;generalize zt s=f at *;rcases ho with rfl
    all_goals
     go_enter Tryz.func62,Tryz.ntmps62;go_wp2_with fail;refine(P.o _).mono ?_;rintro e w1 ⟨rfl,hb⟩;go_wp2_with fail;go_ret;exact⟨by rw [HR.o];rfl,zx hb⟩
  ·rcases ho with rfl
   all_goals
    go_enter Tryz.func62,Tryz.ntmps62;go_wp2_with fail;go_ret;exact⟨zn (by simp [t3]),zb _ _⟩
 ·have e0:(n != 0)=true:=by rw [bne_iff_ne];exact h0
  have e1:(n==0)=false:=beq_eq_false_iff_ne.2 h0;rcases zJ t with rfl|⟨t1,t2,t3⟩<;> rcases ho with rfl
  all_goals
   go_enter Tryz.func62,Tryz.ntmps62;go_wp2_with fail;go_ret;exact⟨zn (by simp [h0]),zb _ _⟩
theorem zbF(n:Int)(s t:ByteArray)(w:World)(hs:s.size<=maxLen):
 Calls Tryz.prog 62 #[.agg #[.int .i64 8,.int .i64 n,.string s,.string t]] w λe w'=>e = .returned (.bool (decide (n=0)&& noB t && Kz s))/\Below w.heap.size w w':=by
 have P:=O (λw=>VS s w hs);by_cases h0:n=0
 ·subst h0;rcases zJ t with rfl|⟨t1,t2,t3⟩
  ·go_enter Tryz.func62,Tryz.ntmps62;go_wp2_with fail;refine(P.o _).mono ?_;rintro e w1 ⟨rfl,hb⟩;go_wp2_with fail;go_ret;exact⟨zn (by simp [jH]),zx hb⟩
  ·go_enter Tryz.func62,Tryz.ntmps62;go_wp2_with fail;go_ret;exact⟨zn (by simp [t3]),zb _ _⟩
 ·have e0:(n != 0)=true:=by rw [bne_iff_ne];exact h0
  have e1:(n==0)=false:=beq_eq_false_iff_ne.2 h0;rcases zJ t with rfl|⟨t1,t2,t3⟩
  all_goals
   go_enter Tryz.func62,Tryz.ntmps62;go_wp2_with fail;go_ret;exact⟨zn (by simp [h0]),zb _ _⟩
theorem zdJ{o:Int}(ho:o=9\/o=10\/o=11\/o=12\/o=13\/o=14\/o=15\/o=16\/o=17\/o=18\/o=19\/o=20\/o=25\/o=26\/o=27)(n:Int)(s t:ByteArray):0<zC ⟨o,n,s,t⟩:=by
 rcases ho with rfl|rfl|rfl|rfl|rfl|rfl|rfl|rfl|rfl|rfl|rfl|rfl|rfl|rfl|rfl <;> first|exact(show(0:Int)<1 by decide)|exact(show(0:Int)<2 by decide)|exact(show(0:Int)<3 by decide)
theorem zjh{o:Int}(ho:o=9\/o=10\/o=11\/o=12\/o=13\/o=14\/o=15\/o=16\/o=17\/o=18\/o=19\/o=20\/o=25\/o=26\/o=27):(o==1)=false/\(o==2)=false/\(o==3)=false/\(o==4)=false/\(o==5)=false/\(o==6)=false/\(o==7)=false/\(o==8)=false/\(o==21)=false/\(o==22)=false/\(o==23)=false/\(o==24)=false:=by
 refine⟨?_,?_,?_,?_,?_,?_,?_,?_,?_,?_,?_,?_⟩<;>(rw [beq_eq_false_iff_ne];omega)
theorem XW(o n:Int)(s t:ByteArray)(w:World)(ho:o=9\/o=10\/o=11\/o=12\/o=13\/o=14\/o=15\/o=16\/o=17\/o=18\/o=19\/o=20\/o=25\/o=26\/o=27):
 Calls Tryz.prog 62 #[.agg #[.int .i64 o,.int .i64 n,.string s,.string t]] w λe w'=>e = .returned (.bool (decide (n=0)&& noB t && noB s))/\Below w.heap.size w w':=by
 have P:=O (λw=>MU ⟨o,n,s,t⟩ w);unfold ndV at P;dsimp only at P;have hp:=zdJ ho n s t;obtain⟨g1,g2,g3,g4,g5,g6,g7,g8,g21,g22,g23,g24⟩:=zjh ho;generalize zC ⟨o,n,s,t⟩=m at *;have f1:decide (0<m)=true:=decide_eq_true hp;clear ho;by_cases h0:n=0
 ·subst h0;obtain⟨s',hs'⟩:∃s',s'=s:=⟨_,rfl⟩
  obtain⟨t',ht'⟩:∃t',t'=t:=⟨_,rfl⟩
  have V0:=yl w ⟨o,0,s,t⟩ 28;dsimp only at V0;clear hs' ht' s' t';rcases zJ s with rfl|⟨s1,s2,s3⟩<;> rcases zJ t with rfl|⟨t1,t2,t3⟩
  all_goals
   go_enter Tryz.func62,Tryz.ntmps62;go_wp2_with fail;refine(P.o _).mono ?_;rintro e w1 ⟨rfl,hb⟩;have B1:=O (zx hb);have hw:w.heap.size<w1.heap.size:=Nat.lt_of_lt_of_le (by simp) hb.size;obtain⟨c0,c1,c2,c3⟩:=V0.keep hb;dsimp only at c0 c1 c2 c3;clear hb;go_wp2_with fail;go_ret;exact⟨zn (by simp [*,jH]),B1.o⟩
 ·have e0:(n != 0)=true:=by rw [bne_iff_ne];exact h0
  have e1:(n==0)=false:=beq_eq_false_iff_ne.2 h0;go_enter Tryz.func62,Tryz.ntmps62;go_wp2_with fail;refine(P.o _).mono ?_;rintro e w1 ⟨rfl,hb⟩;have B1:=O (zx hb);have hw:w.heap.size<w1.heap.size:=Nat.lt_of_lt_of_le (by simp) hb.size;obtain⟨c0,c1,c2,c3⟩:=(yl w ⟨o,n,s,t⟩ 28).keep hb;dsimp only at c0 c1 c2 c3;clear hb;go_wp2_with fail;go_ret;exact⟨zn (by simp [h0]),B1.o⟩
theorem zbq(o n:Int)(s t:ByteArray)(w:World)(ho:o<=0\/28<=o):
 Calls Tryz.prog 62 #[.agg #[.int .i64 o,.int .i64 n,.string s,.string t]] w λe w'=>e = .returned (.bool false)/\Below w.heap.size w w':=by
 have P:=O (λw=>MU ⟨o,n,s,t⟩ w);unfold ndV at P;dsimp only at P;rw [KJ ho n s t] at P;obtain⟨g1,g2,g3,g4,g5,g6,g7,g8,g9,g10,g11,g12,g13,g14,g15,g16,g17,g18,g19,g20,g21,g22,g23,g24,g25,g26,g27⟩:=zcX ho;clear ho;go_enter Tryz.func62,Tryz.ntmps62;go_wp2_with fail;refine(P.o _).mono ?_;rintro e w1 ⟨rfl,hb⟩;go_wp2_with fail;go_ret;exact⟨rfl,zx hb⟩
theorem zeM(s:ByteArray):noB s=decide (s=emp):=by
 rcases h:noB s with _|_
 ·symm;rw [decide_eq_false_iff_not];rintro rfl;cases h
 ·symm;rw [decide_eq_true_iff];exact Ga h
theorem I0{x:Nd}(h:1<=x.op/\x.op<=7):je x=zq x:=by unfold je;rw [if_pos h]
theorem RL{x:Nd}(h:8<=x.op/\x.op<=27):je x=(decide (x.n=0)&& noB x.t &&(if x.op=8 then Kz x.s else if x.op=21\/x.op=22\/x.op=24 then decide (zh x.s=0) else if x.op=23 then decide (zt x.s=0) else noB x.s)):=by
 have hp:¬zC x<0:=by
  unfold zC;rw [if_neg (by omega)];split
  ·omega
  ·split
   ·omega
   ·split
    ·omega
    ·rw [if_pos (by omega)];omega
 unfold je;rw [if_neg (by omega),zeM,zeM];by_cases h0:x.n=0
 ·by_cases ht:x.t=emp
  ·rw [if_neg (by intro q;rcases q with q|q|q <;> contradiction),decide_eq_true h0,decide_eq_true ht];rfl
  ·rw [if_pos (.inr (.inr ht)),decide_eq_false ht,Bool.and_false,Bool.false_and]
 ·rw [if_pos (.inr (.inl h0)),decide_eq_false h0,Bool.false_and,Bool.false_and]
theorem TJ{x:Nd}(h:x.op<=0\/28<=x.op):je x=false:=by
 unfold je;rw [if_neg (by omega),if_pos];left;obtain⟨o,n,s,t⟩:=x;rw [KJ h];decide
theorem zaW(x:Nd)(w:World)(hx:Kb x):
 Calls Tryz.prog 62 #[ndV x] w λe w'=>e = .returned (.bool (je x))/\Below w.heap.size w w':=by
 obtain⟨o,n,s,t⟩:=x;have hs:s.size<=maxLen:=hx.s;unfold ndV;dsimp only;by_cases h1:1<=o/\o<=4
 ·rw [I0 (by dsimp only;omega)];exact zat o n s t w (by omega) hx
 by_cases h5:o=5\/o=6
 ·rw [I0 (by dsimp only;omega)];have:=Yh o n s t h5 w;unfold zq;dsimp only;rwa [if_neg (by omega),if_neg (by omega),if_neg (by omega),if_neg (by omega),if_pos h5]
 by_cases h7:o=7
 ·rw [I0 (by dsimp only;omega)];have:=OS o n s t w (by omega) hs;unfold zq;dsimp only;rwa [if_neg (by omega),if_neg (by omega),if_neg (by omega),if_neg (by omega),if_neg (by omega),if_pos h7]
 by_cases h8:8<=o/\o<=27
 ·rw [RL h8];dsimp only;by_cases h8':o=8
  ·subst h8';rw [if_pos rfl];exact zbF n s t w hs
  rw [if_neg h8'];by_cases h21:o=21\/o=22\/o=24
  ·rw [if_pos h21];exact OS o n s t w (by omega) hs
  rw [if_neg h21];by_cases h23:o=23
  ·rw [if_pos h23];exact Zs o n s t w h23 hs
  rw [if_neg h23];exact XW o n s t w (by omega)
 ·rw [TJ (by dsimp only;omega)];exact zbq o n s t w (by omega)
theorem Na{o:Int}(n:Int)(s t:ByteArray)(h:8<=o/\o<=27):¬zC ⟨o,n,s,t⟩<0:=by
 unfold zC;dsimp only;rw [if_neg (by omega)];split
 ·omega
 ·split
  ·omega
  ·split
   ·omega
   ·rw [if_pos (by omega)];omega
theorem zaP(o n:Int)(s t:ByteArray)(w:World)(ho:1<=o/\o<=7)(hx:Kb ⟨o,n,s,t⟩):
 Calls Tryz.prog 38 #[.agg #[.int .i64 o,.int .i64 n,.string s,.string t]] w λe w'=>e = .returned (.bool (zq ⟨o,n,s,t⟩))/\Below w.heap.size w w':=by
 have P:=O (λw=>CJ ⟨o,n,s,t⟩ w hx.s hx.t);unfold ndV at P;dsimp only at P;have k1:decide (o<=7)=true:=decide_eq_true (by omega);have k2:decide (1<=o)=true:=decide_eq_true (by omega);generalize zq ⟨o,n,s,t⟩=r at *;clear ho hx;go_enter Tryz.func38,Tryz.ntmps38;go_wp2_with fail;refine(P.o _).mono ?_;rintro e w1 ⟨rfl,hb⟩;go_wp2_with fail;go_ret;exact⟨rfl,zx hb⟩
theorem zbj(o n:Int)(s t:ByteArray)(w:World)(ho:o<=0\/28<=o):
 Calls Tryz.prog 38 #[.agg #[.int .i64 o,.int .i64 n,.string s,.string t]] w λe w'=>e = .returned (.bool false)/\Below w.heap.size w w':=by
 have P:=O (λw=>Gm ⟨o,n,s,t⟩ w);unfold ndV at P;dsimp only at P;rw [KJ ho n s t] at P;rcases ho with ho|ho
 ·have k2:decide (1<=o)=false:=decide_eq_false (by omega);go_enter Tryz.func38,Tryz.ntmps38;go_wp2_with fail;refine(P.o _).mono ?_;rintro e w1 ⟨rfl,hb⟩;go_wp2_with fail;go_ret;exact⟨rfl,zx hb⟩
 ·have k2:decide (1<=o)=true:=decide_eq_true (by omega);have k1:decide (o<=7)=false:=decide_eq_false (by omega);go_enter Tryz.func38,Tryz.ntmps38;go_wp2_with fail;refine(P.o _).mono ?_;rintro e w1 ⟨rfl,hb⟩;go_wp2_with fail;go_ret;exact⟨rfl,zx hb⟩
theorem Wg(o n:Int)(s t:ByteArray)(w:World)(ho:o=21\/o=22\/o=24)(hs:s.size<=maxLen):
 Calls Tryz.prog 38 #[.agg #[.int .i64 o,.int .i64 n,.string s,.string t]] w λe w'=>e = .returned (.bool (decide (n=0)&& noB t && decide (zh s=0)))/\Below w.heap.size w w':=by
 have P:=O (λw=>Gm ⟨o,n,s,t⟩ w);unfold ndV at P;dsimp only at P;have hp:¬zC ⟨o,n,s,t⟩<0:=Na n s t (by omega);have k1:decide (o<=7)=false:=decide_eq_false (by omega);have k2:decide (1<=o)=true:=decide_eq_true (by omega);generalize zC ⟨o,n,s,t⟩=m at *;have f1:decide (m<0)=false:=decide_eq_false hp;have C:=O (λw=>CM s w hs);have g8:(o==8)=false:=by rw [beq_eq_false_iff_ne];omega
 have hor:((o==21)=true)\/((o==21)=false/\(o==22)=true)\/((o==21)=false/\(o==22)=false/\(o==24)=true):=by simp only [beq_iff_eq,beq_eq_false_iff_ne];omega
 clear ho;by_cases h0:n=0
 ·subst h0;rcases zJ t with rfl|⟨t1,t2,t3⟩
  ·rcases hor with q1|⟨q1,q2⟩|⟨q1,q2,q3⟩
   all_goals
    go_enter Tryz.func38,Tryz.ntmps38;go_wp2_with fail;refine(P.o _).mono ?_;rintro e w1 ⟨rfl,hb⟩;have B1:=O (zx hb);have hw:w.heap.size<w1.heap.size:=Nat.lt_of_lt_of_le (by simp) hb.size;have V1:=(yl w ⟨o,0,s,⟨#[]⟩⟩ 28).keep hb;obtain⟨c0,c1,c2,c3⟩:=V1;dsimp only at c0 c1 c2 c3;clear hb;go_wp2_with fail;refine(C.o _).mono ?_;rintro e w2 ⟨rfl,rfl⟩;have B2:=B1;go_wp2_with fail;go_ret;exact⟨zn (by simp [jH];rfl),B2.o⟩
  ·have V0:=yl w ⟨o,0,s,t⟩ 28;dsimp only at V0;go_enter Tryz.func38,Tryz.ntmps38;go_wp2_with fail;refine(P.o _).mono ?_;rintro e w1 ⟨rfl,hb⟩;have B1:=O (zx hb);have hw:w.heap.size<w1.heap.size:=Nat.lt_of_lt_of_le (by simp) hb.size;obtain⟨c0,c1,c2,c3⟩:=V0.keep hb;dsimp only at c0 c1 c2 c3;clear hb;go_wp2_with fail;go_ret;exact⟨zn (by simp [t3]),B1.o⟩
 ·have e0:(n != 0)=true:=by rw [bne_iff_ne];exact h0
  have e1:(n==0)=false:=beq_eq_false_iff_ne.2 h0;have V0:=yl w ⟨o,n,s,t⟩ 28;dsimp only at V0;go_enter Tryz.func38,Tryz.ntmps38;go_wp2_with fail;refine(P.o _).mono ?_;rintro e w1 ⟨rfl,hb⟩;have B1:=O (zx hb);have hw:w.heap.size<w1.heap.size:=Nat.lt_of_lt_of_le (by simp) hb.size;obtain⟨c0,c1,c2,c3⟩:=V0.keep hb;dsimp only at c0 c1 c2 c3;clear hb;go_wp2_with fail;go_ret;exact⟨zn (by simp [h0]),B1.o⟩
theorem XE(o n:Int)(s t:ByteArray)(w:World)(ho:o=23)(hs:s.size<=maxLen):
 Calls Tryz.prog 38 #[.agg #[.int .i64 o,.int .i64 n,.string s,.string t]] w λe w'=>e = .returned (.bool (decide (n=0)&& noB t && decide (zt s=0)))/\Below w.heap.size w w':=by
 have P:=O (λw=>Gm ⟨o,n,s,t⟩ w);unfold ndV at P;dsimp only at P;have hp:¬zC ⟨o,n,s,t⟩<0:=Na n s t (by omega);have k1:decide (o<=7)=false:=decide_eq_false (by omega);have k2:decide (1<=o)=true:=decide_eq_true (by omega);generalize zC ⟨o,n,s,t⟩=m at *;have f1:decide (m<0)=false:=decide_eq_false hp;have C:=O (λw=>LX s w hs);have g8:(o==8)=false:=by rw [beq_eq_false_iff_ne];omega
 have g21:(o==21)=false:=by rw [beq_eq_false_iff_ne];omega
 have g22:(o==22)=false:=by rw [beq_eq_false_iff_ne];omega
 have g24:(o==24)=false:=by rw [beq_eq_false_iff_ne];omega
 have g23:(o==23)=true:=by rw [beq_iff_eq];omega
 clear ho;by_cases h0:n=0
 ·subst h0;rcases zJ t with rfl|⟨t1,t2,t3⟩
  ·go_enter Tryz.func38,Tryz.ntmps38;go_wp2_with fail;refine(P.o _).mono ?_;rintro e w1 ⟨rfl,hb⟩;have B1:=O (zx hb);have hw:w.heap.size<w1.heap.size:=Nat.lt_of_lt_of_le (by simp) hb.size;have V1:=(yl w ⟨o,0,s,⟨#[]⟩⟩ 28).keep hb;obtain⟨c0,c1,c2,c3⟩:=V1;dsimp only at c0 c1 c2 c3;clear hb;go_wp2_with fail;refine(C.o _).mono ?_;rintro e w2 ⟨rfl,b2⟩;have B2:=O (B1.o.trans (b2.mono B1.o.size));go_wp2_with fail;go_ret;exact⟨zn (by simp [jH];rfl),B2.o⟩
  ·have V0:=yl w ⟨o,0,s,t⟩ 28;dsimp only at V0;go_enter Tryz.func38,Tryz.ntmps38;go_wp2_with fail;refine(P.o _).mono ?_;rintro e w1 ⟨rfl,hb⟩;have B1:=O (zx hb);have hw:w.heap.size<w1.heap.size:=Nat.lt_of_lt_of_le (by simp) hb.size;obtain⟨c0,c1,c2,c3⟩:=V0.keep hb;dsimp only at c0 c1 c2 c3;clear hb;go_wp2_with fail;go_ret;exact⟨zn (by simp [t3]),B1.o⟩
 ·have e0:(n != 0)=true:=by rw [bne_iff_ne];exact h0
  have e1:(n==0)=false:=beq_eq_false_iff_ne.2 h0;have V0:=yl w ⟨o,n,s,t⟩ 28;dsimp only at V0;go_enter Tryz.func38,Tryz.ntmps38;go_wp2_with fail;refine(P.o _).mono ?_;rintro e w1 ⟨rfl,hb⟩;have B1:=O (zx hb);have hw:w.heap.size<w1.heap.size:=Nat.lt_of_lt_of_le (by simp) hb.size;obtain⟨c0,c1,c2,c3⟩:=V0.keep hb;dsimp only at c0 c1 c2 c3;clear hb;go_wp2_with fail;go_ret;exact⟨zn (by simp [h0]),B1.o⟩
theorem XK(o n:Int)(s t:ByteArray)(w:World)(ho:9<=o/\o<=20\/25<=o/\o<=27):
 Calls Tryz.prog 38 #[.agg #[.int .i64 o,.int .i64 n,.string s,.string t]] w λe w'=>e = .returned (.bool (decide (n=0)&& noB t && noB s))/\Below w.heap.size w w':=by
 have P:=O (λw=>Gm ⟨o,n,s,t⟩ w);unfold ndV at P;dsimp only at P;have hp:¬zC ⟨o,n,s,t⟩<0:=Na n s t (by omega);have k1:decide (o<=7)=false:=decide_eq_false (by omega);have k2:decide (1<=o)=true:=decide_eq_true (by omega);generalize zC ⟨o,n,s,t⟩=m at *;have f1:decide (m<0)=false:=decide_eq_false hp;have g8:(o==8)=false:=by rw [beq_eq_false_iff_ne];omega
 have g21:(o==21)=false:=by rw [beq_eq_false_iff_ne];omega
 have g22:(o==22)=false:=by rw [beq_eq_false_iff_ne];omega
 have g24:(o==24)=false:=by rw [beq_eq_false_iff_ne];omega
 have g23:(o==23)=false:=by rw [beq_eq_false_iff_ne];omega
 clear ho;by_cases h0:n=0
 ·subst h0;rcases zJ t with rfl|⟨t1,t2,t3⟩
  ·have V0:=yl w ⟨o,0,s,⟨#[]⟩⟩ 28;dsimp only at V0;rcases zJ s with rfl|⟨s1,s2,s3⟩
   all_goals
    go_enter Tryz.func38,Tryz.ntmps38;go_wp2_with fail;refine(P.o _).mono ?_;rintro e w1 ⟨rfl,hb⟩;have hw:w.heap.size<w1.heap.size:=Nat.lt_of_lt_of_le (by simp) hb.size;have B1:=O (zx hb);obtain⟨c0,c1,c2,c3⟩:=V0.keep hb;dsimp only at c0 c1 c2 c3;clear hb;go_wp2_with fail;go_ret;exact⟨zn (by simp [*,jH]),B1.o⟩
  ·have V0:=yl w ⟨o,0,s,t⟩ 28;dsimp only at V0;go_enter Tryz.func38,Tryz.ntmps38;go_wp2_with fail;refine(P.o _).mono ?_;rintro e w1 ⟨rfl,hb⟩;have B1:=O (zx hb);have hw:w.heap.size<w1.heap.size:=Nat.lt_of_lt_of_le (by simp) hb.size;obtain⟨c0,c1,c2,c3⟩:=V0.keep hb;dsimp only at c0 c1 c2 c3;clear hb;go_wp2_with fail;go_ret;exact⟨zn (by simp [t3]),B1.o⟩
 ·have e0:(n != 0)=true:=by rw [bne_iff_ne];exact h0
  have e1:(n==0)=false:=beq_eq_false_iff_ne.2 h0;have V0:=yl w ⟨o,n,s,t⟩ 28;dsimp only at V0;go_enter Tryz.func38,Tryz.ntmps38;go_wp2_with fail;refine(P.o _).mono ?_;rintro e w1 ⟨rfl,hb⟩;have B1:=O (zx hb);have hw:w.heap.size<w1.heap.size:=Nat.lt_of_lt_of_le (by simp) hb.size;obtain⟨c0,c1,c2,c3⟩:=V0.keep hb;dsimp only at c0 c1 c2 c3;clear hb;go_wp2_with fail;go_ret;exact⟨zn (by simp [h0]),B1.o⟩
theorem zaR(o n:Int)(s t:ByteArray)(w:World)(ho:o=8)(hs:s.size<=maxLen):
 Calls Tryz.prog 38 #[.agg #[.int .i64 o,.int .i64 n,.string s,.string t]] w λe w'=>e = .returned (.bool (decide (n=0)&& noB t && Kz s))/\Below w.heap.size w w':=by
 have P:=O (λw=>Gm ⟨o,n,s,t⟩ w);unfold ndV at P;dsimp only at P;have hp:¬zC ⟨o,n,s,t⟩<0:=Na n s t (by omega);have k1:decide (o<=7)=false:=decide_eq_false (by omega);have k2:decide (1<=o)=true:=decide_eq_true (by omega);generalize zC ⟨o,n,s,t⟩=m at *;have f1:decide (m<0)=false:=decide_eq_false hp;have C:=O (λw=>CM s w hs);have C2:=O (λw=>CM (s.extract 1 s.size) w (Nat.le_trans (zax s) hs));have C3:=O (λw=>YK s w);unfold maxLen at hs;have g8:(o==8)=true:=by rw [beq_iff_eq];omega
 clear ho;by_cases h0:n=0
 ·subst h0;rcases zJ t with rfl|⟨t1,t2,t3⟩
  ·obtain hsz|hsz:=Nat.eq_zero_or_pos s.size
   ·have es:s=⟨#[]⟩:=ql (List.eq_nil_of_length_eq_zero (by rw [Array.length_toList];exact hsz));subst es;have HR:=O zez;rw [show zh ⟨#[]⟩=1 by decide] at C;clear hsz;have V0:=yl w ⟨o,0,⟨#[]⟩,⟨#[]⟩⟩ 28;dsimp only at V0;go_enter Tryz.func38,Tryz.ntmps38;go_wp2_with fail;refine(P.o _).mono ?_;rintro e w1 ⟨rfl,hb⟩;have B1:=O (zx hb);have hw:w.heap.size<w1.heap.size:=Nat.lt_of_lt_of_le (by simp) hb.size;obtain⟨c0,c1,c2,c3⟩:=V0.keep hb;dsimp only at c0 c1 c2 c3;clear hb;go_wp2_with fail;refine(C.o _).mono ?_;rintro e w2 ⟨rfl,rfl⟩;go_wp2_with fail;go_ret;exact⟨zn (by rw [HR.o];rfl),B1.o⟩
   ·obtain⟨he,he2⟩:=ze8 hsz;have V0:=yl w ⟨o,0,s,⟨#[]⟩⟩ 28;by_cases hq:(s[0].toNat:Int)=63
    ·have HV:=O (zex hsz hq);have f2:((s[0].toNat:Int)==63)=true:=beq_iff_eq.2 hq;clear hq;go_enter Tryz.func38,Tryz.ntmps38;go_wp2_with fail;refine(P.o _).mono ?_;rintro e w1 ⟨rfl,hb⟩;have B1:=O (zx hb);have hw:w.heap.size<w1.heap.size:=Nat.lt_of_lt_of_le (by simp) hb.size;obtain⟨c0,c1,c2,c3⟩:=V0.keep hb;dsimp only at c0 c1 c2 c3;clear hb V0;go_wp2_with fail;refine(C2.o _).mono ?_;rintro e w2 ⟨rfl,rfl⟩;go_wp2_with fail;go_ret;exact⟨zn (by rw [HV.o];simp [jH];rfl),B1.o⟩
    ·have HV:=O (zer hsz hq);have f2:((s[0].toNat:Int)==63)=false:=beq_eq_false_iff_ne.2 hq;clear hq;by_cases h1:zh s=0
     ·rw [h1] at C HV;clear h1;go_enter Tryz.func38,Tryz.ntmps38;go_wp2_with fail;refine(P.o _).mono ?_;rintro e w1 ⟨rfl,hb⟩;have B1:=O (zx hb);have hw:w.heap.size<w1.heap.size:=Nat.lt_of_lt_of_le (by simp) hb.size;obtain⟨c0,c1,c2,c3⟩:=V0.keep hb;dsimp only at c0 c1 c2 c3;clear hb V0;go_wp2_with fail;refine(C.o _).mono ?_;rintro e w2 ⟨rfl,rfl⟩;go_wp2_with fail;refine(C3.o _).mono ?_;rintro e w2 ⟨rfl,rfl⟩;go_wp2_with fail;go_ret;exact⟨zn (by rw [HV.o];simp [jH]),B1.o⟩
     ·have f3:(zh s==0)=false:=beq_eq_false_iff_ne.2 h1;have HV2:=O (show Kz s=false by rw [HV.o,decide_eq_false h1];rfl);clear h1 HV;generalize zh s=nf at *;go_enter Tryz.func38,Tryz.ntmps38;go_wp2_with fail;refine(P.o _).mono ?_;rintro e w1 ⟨rfl,hb⟩;have B1:=O (zx hb);have hw:w.heap.size<w1.heap.size:=Nat.lt_of_lt_of_le (by simp) hb.size;obtain⟨c0,c1,c2,c3⟩:=V0.keep hb;dsimp only at c0 c1 c2 c3;clear hb V0;go_wp2_with fail;refine(C.o _).mono ?_;rintro e w2 ⟨rfl,rfl⟩;go_wp2_with fail;go_ret;exact⟨zn (by rw [HV2.o];simp),B1.o⟩
  ·have V0:=yl w ⟨o,0,s,t⟩ 28;dsimp only at V0;go_enter Tryz.func38,Tryz.ntmps38;go_wp2_with fail;refine(P.o _).mono ?_;rintro e w1 ⟨rfl,hb⟩;have B1:=O (zx hb);have hw:w.heap.size<w1.heap.size:=Nat.lt_of_lt_of_le (by simp) hb.size;obtain⟨c0,c1,c2,c3⟩:=V0.keep hb;dsimp only at c0 c1 c2 c3;clear hb;go_wp2_with fail;go_ret;exact⟨zn (by simp [t3]),B1.o⟩
 ·have e0:(n != 0)=true:=by rw [bne_iff_ne];exact h0
  have e1:(n==0)=false:=beq_eq_false_iff_ne.2 h0;have V0:=yl w ⟨o,n,s,t⟩ 28;dsimp only at V0;go_enter Tryz.func38,Tryz.ntmps38;go_wp2_with fail;refine(P.o _).mono ?_;rintro e w1 ⟨rfl,hb⟩;have B1:=O (zx hb);have hw:w.heap.size<w1.heap.size:=Nat.lt_of_lt_of_le (by simp) hb.size;obtain⟨c0,c1,c2,c3⟩:=V0.keep hb;dsimp only at c0 c1 c2 c3;clear hb;go_wp2_with fail;go_ret;exact⟨zn (by simp [h0]),B1.o⟩
theorem UY(x:Nd)(w:World)(hx:Kb x):
 Calls Tryz.prog 38 #[ndV x] w λe w'=>e = .returned (.bool (je x))/\Below w.heap.size w w':=by
 obtain⟨o,n,s,t⟩:=x;have hs:s.size<=maxLen:=hx.s;unfold ndV;dsimp only;by_cases h1:1<=o/\o<=7
 ·rw [I0 h1];exact zaP o n s t w h1 hx
 by_cases h8:8<=o/\o<=27
 ·rw [RL h8];dsimp only;by_cases h8':o=8
  ·rw [if_pos h8'];exact zaR o n s t w h8' hs
  rw [if_neg h8'];by_cases h21:o=21\/o=22\/o=24
  ·rw [if_pos h21];exact Wg o n s t w h21 hs
  rw [if_neg h21];by_cases h23:o=23
  ·rw [if_pos h23];exact XE o n s t w h23 hs
  rw [if_neg h23];exact XK o n s t w (by omega)
 ·rw [TJ (by dsimp only;omega)];exact zbj o n s t w (by omega)
end Go.Proofs.YtokiogmfgpidmaaGreatDoor
namespace Go.Proofs.YtokiogmfgpidmaaGreatDoor
open Go.RowKit Go.Wk
structure vq(σ:Env):Prop where
 e:jW σ.E=0
 who:jd σ.who=0
 act:jd σ.act=0
 what:jd σ.what=0
 ctx:zc σ.ctx=0/\zf σ.ctx=6
theorem Td{n:Nd}(h1:1<=n.op/\n.op<=4)(h:zq n=true):zc [n]=0:=by rw [zah n h1,if_pos h]
theorem Xo(b:Bool):zc (zI b)=0:=Td (show(1:Int)<=1/\(1:Int)<=4 by decide) (by cases b <;> decide)
theorem zeE(k:Int):zc (LU k)=0:=Td (show(1:Int)<=2/\(2:Int)<=4 by decide) (by unfold zq;simp [noB,emp];rfl)
theorem YT{u:Ud}(h:jd u=0):zc (TP u)=0:=by
 refine Td (show(1:Int)<=4/\(4:Int)<=4 by decide) ?_;unfold jd at h;have h1:zh u.1=0:=by
  by_cases q:zh u.1=0
  ·exact q
  ·rw [if_neg q] at h;exact h
 rw [if_pos h1] at h;unfold zq;simp [h1,h]
theorem zkW{r:List Nd}{s:ByteArray}(hr:zc r=0)(h:dK r s=0):zc (IG r s)=0:=by
 unfold IG;rw [if_pos h];unfold dK at h;rw [if_pos hr] at h;by_cases h6:zf r=6
 ·rw [if_pos h6] at h;rcases hg:Ug r s with _|V
  ·rw [hg] at h;cases h
  ·obtain⟨hl,hv⟩:=zH.1 hr;obtain⟨e,-,h3,-⟩:=Kh hv h6;unfold Ug at hg;rw [Option.map_eq_some_iff] at hg;obtain⟨x,hx,rfl⟩:=hg;have hm:=List.mem_of_find?_eq_some hx;refine zH.2 ⟨?_,(h3 x hm).1⟩;have:x.2.length<=(zw (zo r)).length:=by
    generalize zo r=L at hm
    induction L with
    | nil=>cases hm
    | cons y L ih =>
     simp only [zw,List.length_cons,List.length_append]
     rcases List.mem_cons.1 hm with rfl|hm
     ·omega
     ·have:=ih hm;omega
   rw [e] at hl;simp only [List.length_cons] at hl;simp only [Option.getD_some];omega
 ·rw [if_neg h6] at h;cases h
theorem OA{e:Int}{b:Bool}{V:List Nd}(h:jo e b = .ok V):zc V=0:=by
 unfold jo at h;split at h
 ·injection h with h;subst h;exact Xo b
 ·cases h
theorem Mq{e:Int}{W V:List Nd}(h:z6 e W = .ok V)(hw:e=0->zc W=0):zc V=0:=by
 unfold z6 at h;split at h
 ·rename_i h0;injection h with h;subst h;exact hw h0
 ·cases h
theorem Jh{b:Bool}{V:List Nd}(h:(Except.ok (zI b):Res)= .ok V):zc V=0:=by
 injection h with h;subst h;exact Xo b
theorem zgD{σ:Env}(hσ:vq σ){s:ByteArray}{V:List Nd}(h:ym σ s = .ok V):zc V=0:=by
 unfold ym at h;split at h
 ·injection h with h;subst h;exact YT hσ.who
 ·split at h
  ·injection h with h;subst h;exact YT hσ.act
  ·split at h
   ·injection h with h;subst h;exact YT hσ.what
   ·split at h
    ·injection h with h;subst h;exact hσ.ctx.1
    ·cases h
theorem zl4{E:List En}(hE:jW E=0){V r:List Nd}(hV:zc V=0)(h:vZ E V = .ok (some r)):zc r=0/\zf r=6:=by
 unfold vZ at h;split at h
 ·rename_i h6;injection h with h;injection h with h;subst h;exact⟨hV,h6⟩
 ·split at h
  ·injection h with h;rw [Option.map_eq_some_iff] at h;obtain⟨x,hx,rfl⟩:=h;exact Qn (sM.1 hE).2.1 (List.mem_of_find?_eq_some hx)
  ·cases h
theorem znp{E:List En}(hE:jW E=0){n:Nd}{V W:List Nd}(hV:zc V=0)(h:jv E n V = .ok W):zc W=0:=by
 unfold jv at h;split at h
 ·split at h
  ·exact Jh h
  ·cases h
 ·split at h
  ·split at h
   ·exact Mq h λ_=>zeE _
   ·cases h
  ·split at h
   ·split at h
    ·exact OA h
    ·cases h
   ·split at h
    ·split at h
     ·exact Jh h
     ·cases h
    ·rcases hr:vZ E V with e|(_|r)
     ·rw [hr] at h;cases h
     ·rw [hr] at h;simp only at h;split at h
      ·exact Jh h
      ·cases h
     ·rw [hr] at h;simp only at h;split at h
      ·exact Jh h
      ·exact Mq h λh0=>zkW (zl4 hE hV hr).1 h0
theorem znM{E:List En}{op:Int}{A B W:List Nd}(h:jO E op A B = .ok W):zc W=0:=by
 unfold jO at h;split at h
 ·exact Jh h
 ·split at h
  ·unfold inX at h;split at h
   ·exact Jh h
   ·cases h
  ·split at h
   ·exact OA h
   ·split at h
    ·exact OA h
    ·split at h
     ·exact OA h
     ·split at h
      ·split at h
       ·exact Jh h
       ·split at h
        ·exact Jh h
        ·exact Mq h λ_=>zeE _
      ·cases h
theorem zjD{E:List En}(hE:jW E=0){n:Nd}{L:List (List Nd)}{W:List Nd}(hL:∀V∈L,zc V=0)(h:NC E n L = .ok W):zc W=0:=by
 match L,hL,h with
 | [V],hL,h=>exact znp hE (hL V (by simp)) h
 | [A,B],_,h=>exact znM h
 | [],_,h=>cases h
 | _ :: _ :: _ :: _,_,h=>cases h
mutual
theorem Jm{σ:Env}(hσ:vq σ):∀(x:Ex) (f:Bool),x.valid f->∀V,evX σ x = .ok V->zc V=0
 | .node n ps,f,hv,V,h=>by
  obtain⟨h1,-,h3⟩:=hv;have hs:je n=true:=by unfold jC at h1;rw [Bool.and_eq_true] at h1;exact h1.1
  unfold evX at h;split at h
  ·rename_i h14;injection h with h;subst h;exact Td h14 (by rw [<-I0 (by omega)];exact hs)
  ·split at h
   ·exact zgD hσ h
   ·split at h
    ·exact zaF hσ ps _ _ h3 _ V h
    ·split at h
     ·exact zlC hσ ps _ _ h3 V h
     ·split at h
      ·rcases hF:evF σ ps with e|L
       ·rw [hF] at h;cases h
       ·rw [hF] at h;exact Mq h λh0=>(zia h0).1
      ·rcases hS:evS σ ps with e|L
       ·rw [hS] at h;cases h
       ·rw [hS] at h;simp only at h;split at h
        ·exact Mq h λh0=>(zjv h0).1
        ·exact zjD hσ.e (zje hσ ps _ _ h3 L hS) h
theorem zaF{σ:Env}(hσ:vq σ):∀(ps:Exs) (c:Bool) (s:ByteArray),ps.valid c s->∀(o:Bool) (V:List Nd),jK σ o ps = .ok V->zc V=0
 | .nil,_,_,_,_,_,h=>by cases h
 | .cons a r,c,s,hv,o,V,h=>by
  unfold jK at h;rcases ha:evX σ a with e|W
  ·rw [ha] at h;cases h
  ·rw [ha] at h;simp only at h;split at h
   ·split at h
    ·injection h with h;subst h;exact Jm hσ a _ hv.2.1 _ ha
    ·exact zfG hσ r _ _ hv.2.2 V h
   ·cases h
theorem zfG{σ:Env}(hσ:vq σ):∀(ps:Exs) (c:Bool) (s:ByteArray),ps.valid c s->∀V,CW σ ps = .ok V->zc V=0
 | .nil,_,_,_,_,h=>by cases h
 | .cons b _,c,s,hv,V,h=>by
  unfold CW at h;rcases hb:evX σ b with e|W
  ·rw [hb] at h;cases h
  ·rw [hb] at h;simp only at h;split at h
   ·injection h with h;subst h;exact Jm hσ b _ hv.2.1 _ hb
   ·cases h
theorem zlC{σ:Env}(hσ:vq σ):∀(ps:Exs) (c:Bool) (s:ByteArray),ps.valid c s->∀V,MZ σ ps = .ok V->zc V=0
 | .nil,_,_,_,_,h=>by cases h
 | .cons b r,c,s,hv,V,h=>by
  unfold MZ at h;rcases hb:evX σ b with e|W
  ·rw [hb] at h;cases h
  ·rw [hb] at h;simp only at h;split at h
   ·split at h
    ·exact ZR hσ r _ _ hv.2.2 V h
    ·exact ziK hσ r _ _ hv.2.2 V h
   ·cases h
theorem ZR{σ:Env}(hσ:vq σ):∀(ps:Exs) (c:Bool) (s:ByteArray),ps.valid c s->∀V,Jd σ ps = .ok V->zc V=0
 | .nil,_,_,_,_,h=>by cases h
 | .cons a _,c,s,hv,V,h=>by
  unfold Jd at h;exact Jm hσ a _ hv.2.1 V h
theorem ziK{σ:Env}(hσ:vq σ):∀(ps:Exs) (c:Bool) (s:ByteArray),ps.valid c s->∀V,NB σ ps = .ok V->zc V=0
 | .nil,_,_,_,_,h=>by cases h
 | .cons _ r,c,s,hv,V,h=>by
  unfold NB at h;exact ZR hσ r _ _ hv.2.2 V h
theorem zje{σ:Env}(hσ:vq σ):∀(ps:Exs) (c:Bool) (s:ByteArray),ps.valid c s->∀L,evS σ ps = .ok L->∀V∈L,zc V=0
 | .nil,_,_,_,L,h=>by
  unfold evS at h;injection h with h;subst h;intro V hV;cases hV
 | .cons x r,c,s,hv,L,h=>by
  unfold evS at h;rcases hx:evX σ x with e|W
  ·rw [hx] at h;cases h
  ·rw [hx] at h;simp only at h;rcases hr:evS σ r with e|M
   ·rw [hr] at h;cases h
   ·rw [hr] at h;simp only at h;injection h with h;subst h;intro V hV;rcases List.mem_cons.1 hV with rfl|hV
    ·exact Jm hσ x _ hv.2.1 _ hx
    ·exact zje hσ r _ _ hv.2.2 M hr V hV
end
theorem MH{e:Int}{b:Bool}{W:List Nd}(h:jo e b = .ok W):zf W=1:=by
 unfold jo at h;split at h
 ·injection h with h;subst h;rfl
 ·cases h
theorem Jj{b:Bool}{W:List Nd}(h:(.ok (zI b):Res)= .ok W):zf W=1:=by
 injection h with h;subst h;rfl
theorem zdC{E:List En}{n:Nd}{V W:List Nd}(ho:n.op=9\/n.op=21\/n.op=23\/n.op=24)(h:jv E n V = .ok W):zf W=1:=by
 unfold jv at h;rcases ho with e|e|e|e
 ·rw [if_pos e] at h;split at h
  ·exact Jj h
  ·cases h
 ·rw [if_neg (by omega),if_neg (by omega),if_neg (by omega),if_neg (by omega)] at h;rcases hr:vZ E V with u|(_|r)
  ·rw [hr] at h;cases h
  ·rw [hr] at h;simp only at h;rw [if_pos e] at h;exact Jj h
  ·rw [hr] at h;simp only at h;rw [if_pos e] at h;exact Jj h
 ·rw [if_neg (by omega),if_neg (by omega),if_pos e] at h;split at h
  ·exact MH h
  ·cases h
 ·rw [if_neg (by omega),if_neg (by omega),if_neg (by omega),if_pos e] at h;split at h
  ·exact Jj h
  ·cases h
theorem zcV{E:List En}{op:Int}{A B W:List Nd}(ho:op=14\/op=15\/op=16\/op=20\/25<=op/\op<=27)(h:jO E op A B = .ok W):zf W=1:=by
 unfold jO at h;split at h
 ·exact Jj h
 ·split at h
  ·unfold inX at h;split at h
   ·exact Jj h
   ·cases h
  ·split at h
   ·exact MH h
   ·split at h
    ·exact MH h
    ·split at h
     ·exact MH h
     ·split at h
      ·split at h
       ·exact Jj h
       ·split at h
        ·exact Jj h
        ·exfalso;omega
      ·cases h
theorem XR{σ:Env}{ps:Exs}{W:List Nd}(h:CW σ ps = .ok W):zf W=1:=by
 cases ps with
 | nil=>cases h
 | cons b r =>
  rw [CW] at h
  rcases hr:evX σ b with u|V
  ·rw [hr] at h;cases h
  ·rw [hr] at h
   simp only at h;split at h
   ·rename_i h1;injection h with h;subst h;exact h1
   ·cases h
theorem Ua{σ:Env}{o:Bool}{ps:Exs}{W:List Nd}(h:jK σ o ps = .ok W):zf W=1:=by
 cases ps with
 | nil=>cases h
 | cons b r =>
  rw [jK] at h
  rcases hr:evX σ b with u|V
  ·rw [hr] at h;cases h
  ·rw [hr] at h
   simp only at h;split at h
   ·rename_i h1;split at h
    ·injection h with h;subst h;exact h1
    ·exact XR h
   ·cases h
theorem zal{σ:Env}:∀ {ps:Exs} {L:List (List Nd)},evS σ ps = .ok L->L.length=ps.len
 | .nil,L,h=>by
  rw [evS] at h;injection h with h;subst h;rfl
 | .cons a r,L,h=>by
  rw [evS] at h;rcases ha:evX σ a with u|V
  ·rw [ha] at h;cases h
  ·rw [ha] at h;simp only at h;rcases hr:evS σ r with u|L'
   ·rw [hr] at h;cases h
   ·rw [hr] at h;simp only at h;injection h with h;subst h;rw [List.length_cons,zal hr];rfl
theorem Qi{σ:Env}:∀ {x:Ex} {V:List Nd},x.valid false->ofT x.head.op=true->evX σ x = .ok V->zf V=1
 | .node n ps,V,hv,ho,h=>by
  have ho':=of_decide_eq_true ho;simp only [Ex.head] at ho';obtain⟨h1,hl,-⟩:=hv;rw [evX] at h;by_cases e1:1<=n.op/\n.op<=4
  ·rw [if_pos e1] at h;injection h with h;subst h;show n.op=1;omega
  rw [if_neg e1,if_neg (by omega)] at h;by_cases e2:n.op=11\/n.op=12
  ·rw [if_pos e2] at h;exact Ua h
  rw [if_neg e2,if_neg (by omega),if_neg (by omega)] at h;rcases hq:evS σ ps with u|L
  ·rw [hq] at h;cases h
  rw [hq] at h;simp only at h;rw [if_neg (by omega)] at h;have hlen:=zal hq;by_cases e3:n.op=9\/n.op=21\/n.op=23\/n.op=24
  ·have h2:ps.len=1:=by
    unfold zC at hl
    repeat' split at hl
    all_goals omega
   rw [h2] at hlen
   match L,hlen,h with
   | [A],_,h=>exact zdC e3 h
  ·have h2:ps.len=2:=by
    unfold zC at hl
    repeat' split at hl
    all_goals omega
   rw [h2] at hlen
   match L,hlen,h with
   | [A,B],_,h=>exact zcV (by omega) h
theorem Xp{x:Ex}(hv:x.valid false)(h:x.head.op=1):x = .node ⟨1,x.head.n,emp,emp⟩ .nil/\(x.head.n=0\/x.head.n=1):=by
 obtain⟨n,ps⟩:=x;simp only [Ex.head] at h ⊢;obtain⟨h1,hl,-⟩:=hv;have h2:ps.len=0:=by
  unfold zC at hl
  repeat' split at hl
  all_goals omega
 have hp:ps = .nil:=by
  cases ps with
  | nil=>rfl
  | cons a r=>simp [Exs.len] at h2
 have hs:je n=true:=by unfold jC at h1;rw [Bool.and_eq_true] at h1;exact h1.1
 unfold je at hs;rw [if_pos (by omega)] at hs;obtain⟨o,k,s,t⟩:=n;simp only at h;subst h;subst hp;unfold zq at hs;rw [if_pos rfl,Bool.and_eq_true,Bool.and_eq_true,Bool.or_eq_true] at hs;obtain⟨⟨hk,hs1⟩,ht1⟩:=hs;have es:s=⟨#[]⟩:=Ga hs1;have et:t=⟨#[]⟩:=Ga ht1;subst es;subst et;exact⟨rfl,by simpa using hk⟩
theorem S9{σ:Env}{x:Ex}(hv:x.valid false)(h:x.head.op=1):evX σ x = .ok [x.head]:=by
 obtain⟨e,-⟩:=Xp hv h;obtain⟨n,ps⟩:=x;rw [evX,if_pos (by simp only [Ex.head] at h;omega)];rfl
theorem ziF{V:List Nd}(h:zc V=0)(h1:zf V=1):V=zI true\/V=zI false:=by
 obtain⟨hl,hv⟩:=zH.1 h;have hpos:=hv.pos
 match V,hpos with
 | x :: r,_ =>
  have hx:x.op=1:=h1
  unfold IsV at hv
  simp only [zl,List.getElem?_cons_zero] at hv
  by_cases hs:zq x=true
  ·rw [if_pos hs,if_neg (by omega),if_neg (by omega),if_neg (by omega)] at hv
   have hr:r = []:=by simpa using hv
   subst hr;unfold zq at hs;rw [if_pos hx] at hs;simp only [Bool.and_eq_true,Bool.or_eq_true,decide_eq_true_eq] at hs;obtain⟨⟨hn,h2⟩,h3⟩:=hs;rcases hn with hn|hn
   ·right;rw [show x=⟨1,0,emp,emp⟩ from Nd.ext4 hx hn (Ga h2) (Ga h3)];rfl
   ·left;rw [show x=⟨1,1,emp,emp⟩ from Nd.ext4 hx hn (Ga h2) (Ga h3)];rfl
  ·rw [if_neg hs] at hv;cases hv
theorem zgB{σ:Env}{b:Ex}{r:Exs}(hv:b.valid false)(ho:ofT b.head.op=true):CW σ (.cons b r)=evX σ b:=by
 rw [CW];rcases hq:evX σ b with u|V
 ·rfl
 ·simp only;rw [if_pos (Qi hv ho hq)]
theorem zdt{σ:Env}(hσ:vq σ){x y:Ex}(hv:x.valid false)(h:ju x=some y):evX σ y=evX σ x/\y.valid false/\y.flat.length<x.flat.length:=by
 unfold ju at h;split at h
 ·rename_i n a;split at h
  ·rename_i m b;split at h
   ·rename_i hc;obtain⟨h9,m9,hb⟩:=hc;injection h with h;subst h;have h3:=hv.2.2;rw [show zB n=false by unfold zB;exact decide_eq_false (by omega)] at h3;have ha:=h3.2.1;have h4:=ha.2.2;rw [show zB m=false by unfold zB;exact decide_eq_false (by omega)] at h4;have hvb:=h4.2.1;refine⟨?_,hvb,by simp [Ex.flat,Exs.flat];omega⟩;have hbm:evX σ (.node m (.cons b .nil))=(match evX σ b with | .error e => .error e | .ok V => .ok (zI (decide ((hdN V).n=0)))):=by
     rw [evX,if_neg (by omega),if_neg (by omega),if_neg (by omega),if_neg (by omega),if_neg (by omega),evS,evS];rcases hq:evX σ b with u|V
     ·rfl
     ·simp only;rw [if_neg (by omega)];show jv σ.E m V=_;unfold jv;rw [if_pos m9,if_pos (Qi hvb hb hq)]
    rw [evX,if_neg (by omega),if_neg (by omega),if_neg (by omega),if_neg (by omega),if_neg (by omega),evS,evS,hbm];rcases hq:evX σ b with u|V
    ·rfl
    ·simp only;rw [if_neg (by omega)];have h1:=Qi hvb hb hq;have hV:=Jm hσ b false hvb V hq;show Except.ok V=jv σ.E n _;unfold jv;rw [if_pos h9];rcases ziF hV h1 with rfl|rfl <;> rfl
   ·cases h
  ·cases h
 ·rename_i n a b;split at h
  ·rename_i h12;have h3:=hv.2.2;rw [show zB n=false by unfold zB;exact decide_eq_false (by omega)] at h3;have ha:=h3.2.1;have hb:=h3.2.2.2.1;have hx:evX σ (.node n (.cons a (.cons b .nil)))=jK σ (decide (n.op=12)) (.cons a (.cons b .nil)):=by
    rw [evX,if_neg (by omega),if_neg (by omega),if_pos h12]
   rw [hx,jK];have Nn:=jp a;have QM:=jp b;split at h
   ·rename_i a1;rw [S9 ha a1];simp only;rw [if_pos (show zf [a.head]=1 from a1)];split at h
    ·rename_i he;injection h with h;subst h;rw [if_pos (show decide ((hdN [a.head]).n=1)=decide (n.op=12) from he),S9 ha a1];exact⟨rfl,ha,by simp [Ex.flat,Exs.flat];omega⟩
    ·rename_i he;rw [if_neg (show¬decide ((hdN [a.head]).n=1)=decide (n.op=12) from he)];split at h
     ·rename_i hob;injection h with h;subst h;rw [zgB hb hob];exact⟨rfl,hb,by simp [Ex.flat,Exs.flat];omega⟩
     ·cases h
   ·split at h
    ·rename_i hc;obtain⟨b1,hbn,hoa⟩:=hc;injection h with h;subst h;refine⟨?_,ha,by simp [Ex.flat,Exs.flat];omega⟩;rcases hq:evX σ a with u|V
     ·rfl
     ·have h1:=Qi ha hoa hq;have hV:=Jm hσ a false ha V hq;simp only;rw [if_pos h1];split
      ·rfl
      ·rename_i hn;obtain⟨e,hb01⟩:=Xp hb b1;rw [CW,S9 hb b1];simp only;rw [if_pos (show zf [b.head]=1 from b1)];have hbh:b.head=⟨1,b.head.n,emp,emp⟩:=congrArg Ex.head e;rcases ziF hV h1 with rfl|rfl
       ·have hn':¬decide ((1:Int)=1)=decide (n.op=12):=hn;rcases hb01 with e0|e0
        ·exfalso;rw [e0] at hbn;by_cases q:n.op=12 <;> simp [q] at hbn hn'
        ·rw [hbh,e0];rfl
       ·have hn':¬decide ((0:Int)=1)=decide (n.op=12):=hn;rcases hb01 with e0|e0
        ·rw [hbh,e0];rfl
        ·exfalso;rw [e0] at hbn;by_cases q:n.op=12 <;> simp [q] at hbn hn'
    ·cases h
  ·cases h
 ·rename_i n c a b;split at h
  ·rename_i hc;obtain⟨h13,c1⟩:=hc;have h3:=hv.2.2;rw [show zB n=false by unfold zB;exact decide_eq_false (by omega)] at h3;have hcv:=h3.2.1;have ha:=h3.2.2.2.1;have hb:=h3.2.2.2.2.2.1;have Nn:=jp a;have QM:=jp b;rw [evX,if_neg (by omega),if_neg (by omega),if_neg (by omega),if_pos h13,MZ,S9 hcv c1];simp only;rw [if_pos (show zf [c.head]=1 from c1)];split at h
   ·rename_i hn;injection h with h;subst h;rw [if_pos (show(hdN [c.head]).n=1 from hn),Jd];exact⟨rfl,ha,by simp [Ex.flat,Exs.flat];omega⟩
   ·rename_i hn;injection h with h;subst h;rw [if_neg (show¬(hdN [c.head]).n=1 from hn),NB,Jd];exact⟨rfl,hb,by simp [Ex.flat,Exs.flat];omega⟩
  ·cases h
 ·cases h
end Go.Proofs.YtokiogmfgpidmaaGreatDoor
