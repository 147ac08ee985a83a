/-
  tree.variable, tree.shaped; the reference's Fields: may a node of an expression ..
-/
import Derived.Test.YtokiogmfgpidmaaGreatDoorQ24
set_option maxRecDepth 100000
set_option maxHeartbeats 8000000
namespace Go.Proofs.YtokiogmfgpidmaaGreatDoor
open Go.RowKit Go.Wk Go.Sort
theorem qk{s:ByteArray}(h:0<s.size):s.data.toList.head?=some s[0]:=by
 have h':0<s.data.toList.length:=by rw [Array.length_toList];exact h
 rw [List.head?_eq_getElem?,List.getElem?_eq_getElem h'];rfl
theorem yB{s:ByteArray}(h:0<s.size)(hq:(s[0].toNat:Int)=63):da s=decide (zh (s.extract 1 s.size)=0):=by
 unfold da;rw [qk h,if_pos];have:s[0].toNat=63:=by omega
 exact congrArg some (UInt8.toNat_inj.1 this)
theorem yI{s:ByteArray}(h:0<s.size)(hq:¬(s[0].toNat:Int)=63):da s=(decide (zh s=0)&& !zD s):=by
 unfold da;rw [qk h,if_neg];intro e;injection e with e;exact hq (by rw [e];rfl)
theorem yE:da ⟨#[]⟩=false:=by decide
theorem te(s:ByteArray):(s.extract 1 s.size).size<=s.size:=by simp
theorem yT{s:ByteArray}(h:0<s.size):s.toList.isEmpty=false/\¬s.toList = []:=⟨by rw [List.isEmpty_eq_false_iff];exact λq=>(bD h).1 q,λq=>(bD h).1 q⟩
theorem bE{w:World}{b k:Nat}{arr:Array Value}{t:TypeId}{fz:Nat × Nat}{u:Value}(h:w.heap[b]?=some (.cells arr t fz))(hu:arr[k]?=some u):w.cell? ⟨b,k,none⟩=some u:=by
 simp [World.cell?,h,hu]
structure Vnx(w:World)(b:Nat)(x:Nd):Prop where
 c0:w.cell? ⟨b,0,none⟩=some (.int .i64 x.op)
 c1:w.cell? ⟨b,1,none⟩=some (.int .i64 x.n)
 c2:w.cell? ⟨b,2,none⟩=some (.string x.s)
 c3:w.cell? ⟨b,3,none⟩=some (.string x.t)
theorem Vnx.keep{w w':World}{b:Nat}{x:Nd}(h:Vnx w b x)(hb:Below w.heap.size w w'):Vnx w' b x:=⟨za hb h.c0,za hb h.c1,za hb h.c2,za hb h.c3⟩
theorem aI(w:World)(x:Nd)(t:TypeId):Vnx (w.alloc (.cells #[.int .i64 x.op,.int .i64 x.n,.string x.s,.string x.t] t)) w.heap.size x :=
 ⟨bE (heap_alloc_new w _) rfl,bE (heap_alloc_new w _) rfl,bE (heap_alloc_new w _) rfl,bE (heap_alloc_new w _) rfl⟩
theorem oJ(s:ByteArray)(w:World)(hs:s.size<=maxLen):Calls Tryz.prog 113 #[.string s] w λe w'=>e = .returned (.bool (da s))/\Below w.heap.size w w':=by
 have PR:=O (λw=>o7 s w);have PN:=O (λw=>bz s w hs);have PS:=O (λw=>bz (s.extract 1 s.size) w (Nat.le_trans (te s) hs));unfold maxLen at hs;by_cases h:0<s.size
 ·obtain⟨he,he2⟩:=yT h;by_cases hq:(s[0].toNat:Int)=63
  ·have HV:=O (yB h hq);have f1:((s[0].toNat:Int)==63)=true:=beq_iff_eq.2 hq;clear hq;by_cases h1:zh (s.extract 1 s.size)=0
   ·have HR:=O (show da s=true by rw [HV.o,h1];rfl);rw [h1,zk] at PS;clear h1;go_enter Tryz.func113,Tryz.ntmps113;go_wp2_with fail;refine(PS.o _).mono ?_;rintro e w1 ⟨rfl,hb⟩;go_wp2_with fail;go_ret;exact⟨by rw [HR.o];rfl,hb⟩
   ·have HR:=O (show da s=false by rw [HV.o,decide_eq_false h1]);rw [zn h1] at PS;clear HV h1;generalize zh (s.extract 1 s.size)=f at *;go_enter Tryz.func113,Tryz.ntmps113;go_wp2_with fail;refine(PS.o _).mono ?_;rintro e w1 ⟨rfl,hb⟩;go_wp2_with fail;go_ret;exact⟨by rw [HR.o];rfl,hb⟩
  ·have HV:=O (yI h hq);have f1:((s[0].toNat:Int)==63)=false:=beq_eq_false_iff_ne.2 hq;clear hq;by_cases h1:zh s=0
   ·have HR:=O (show da s = !zD s by rw [HV.o,h1];rfl);rw [h1,zk] at PN;clear h1;generalize zD s=r at *;go_enter Tryz.func113,Tryz.ntmps113;go_wp2_with fail;refine(PN.o _).mono ?_;rintro e w1 ⟨rfl,hb⟩;go_wp2_with fail;refine(PR.o _).mono ?_;rintro e w2 ⟨rfl,rfl⟩;go_wp2_with fail;go_ret;exact⟨by rw [HR.o];rfl,hb⟩
   ·have HR:=O (show da s=false by rw [HV.o,decide_eq_false h1];rfl);rw [zn h1] at PN;clear HV h1;generalize zh s=f at *;go_enter Tryz.func113,Tryz.ntmps113;go_wp2_with fail;refine(PN.o _).mono ?_;rintro e w1 ⟨rfl,hb⟩;go_wp2_with fail;go_ret;exact⟨by rw [HR.o];rfl,hb⟩
 ·have e:s=⟨#[]⟩:=ag (List.eq_nil_of_length_eq_zero (by rw [Array.length_toList];show s.size=0;omega));subst e;have HR:=O yE;rw [show zh ⟨#[]⟩=1 by decide,zn (by decide)] at PN;clear h;go_enter Tryz.func113,Tryz.ntmps113;go_wp2_with fail;refine(PN.o _).mono ?_;rintro e w1 ⟨rfl,hb⟩;go_wp2_with fail;go_ret;exact⟨by rw [HR.o];rfl,hb⟩
theorem ru(w:World)(x:Nd)(hx:er x):Ns (w.alloc (.cells #[.int .i64 x.op,.int .i64 x.n,.string x.s,.string x.t] 28)) (some ⟨w.heap.size,0,none⟩) 1 1 [x] :=
 ⟨rfl,Nat.le_refl _,by unfold maxLen;omega,yY w [x] _,λy hy=>by
  simp only [List.mem_cons,List.not_mem_nil,or_false] at hy;subst hy;exact hx⟩
theorem tw(x:Nd)(h:1<=x.op/\x.op<=4):zc [x]=if zu x=true then 0 else 1:=by
 unfold zc;rw [if_neg (by simp)];simp only [List.length_singleton];by_cases hs:zu x=true
 ·rw [if_pos hs,if_pos];have h5:x.op≠5:=by omega
  have h6:x.op≠6:=by omega
  have h7:x.op≠7:=by omega
  simp [zm,hs,h5,h6,h7]
 ·rw [if_neg hs,if_neg];simp [zm,hs]
theorem vC(o n:Int)(s t:ByteArray)(w:World)(ho:o=1\/o=2\/o=3\/o=4)(hx:er ⟨o,n,s,t⟩):
 Calls Tryz.prog 62 #[.agg #[.int .i64 o,.int .i64 n,.string s,.string t]] w λe w'=>e = .returned (.bool (zu ⟨o,n,s,t⟩))/\Below w.heap.size w w':=by
 have b0:=zb w (.cells #[.int .i64 o,.int .i64 n,.string s,.string t] 28);have N1:=ru (w.alloc (.cells #[.int .i64 o,.int .i64 n,.string s,.string t] 28)) ⟨o,n,s,t⟩ hx;have B1:=O (b0.trans ((zb (w.alloc (.cells #[.int .i64 o,.int .i64 n,.string s,.string t] 28)) (.cells #[.int .i64 o,.int .i64 n,.string s,.string t] 28)).mono b0.size));have hz:(w.alloc (.cells #[.int .i64 o,.int .i64 n,.string s,.string t] 28)).heap.size=w.heap.size+1:=by simp
 rw [hz] at N1;have C:=O (zJ N1);rw [tw ⟨o,n,s,t⟩ (by dsimp only;omega)] at C;dsimp only at C;clear b0 N1 hz hx;generalize zu ⟨o,n,s,t⟩=r at *;cases r
 ·rw [if_neg (by decide),zn (by decide)] at C;rcases ho with rfl|rfl|rfl|rfl
  all_goals
   go_enter Tryz.func62,Tryz.ntmps62;go_wp2_with fail;refine C.o.mono ?_;rintro e w1 ⟨rfl,b1⟩;have B2:=O (B1.o.trans (b1.mono B1.o.size));clear b1 C;go_wp2_with fail;go_ret;exact⟨rfl,B2.o⟩
 ·rw [if_pos rfl,zk] at C;rcases ho with rfl|rfl|rfl|rfl
  all_goals
   go_enter Tryz.func62,Tryz.ntmps62;go_wp2_with fail;refine C.o.mono ?_;rintro e w1 ⟨rfl,b1⟩;have B2:=O (B1.o.trans (b1.mono B1.o.size));clear b1 C;go_wp2_with fail;go_ret;exact⟨rfl,B2.o⟩
theorem so(o n:Int)(s t:ByteArray)(ho:o=5\/o=6)(w:World):
 Calls Tryz.prog 62 #[.agg #[.int .i64 o,.int .i64 n,.string s,.string t]] w λe w'=>e = .returned (.bool (decide (0<=n)&& noB s && noB t))/\Below w.heap.size w w':=by
 by_cases h0:0<=n
 ·rcases ho with rfl|rfl <;> rcases zy s with rfl|⟨s1,s2,s3⟩<;> rcases zy t with rfl|⟨t1,t2,t3⟩
  all_goals
   go_enter Tryz.func62,Tryz.ntmps62;go_wp2;go_ret;exact⟨zl (by simp [*,jk]),zb _ _⟩
 ·rcases ho with rfl|rfl <;> rcases zy s with rfl|⟨s1,s2,s3⟩<;> rcases zy t with rfl|⟨t1,t2,t3⟩
  all_goals
   go_enter Tryz.func62,Tryz.ntmps62;go_wp2;go_ret;exact⟨zl (by first|rfl|(rw [decide_eq_false (show¬0<=n by omega)];rfl)),zb _ _⟩
theorem gp(o n:Int)(s t:ByteArray)(w:World)(ho:o=7\/o=21\/o=22\/o=24)(hs:s.size<=maxLen):
 Calls Tryz.prog 62 #[.agg #[.int .i64 o,.int .i64 n,.string s,.string t]] w λe w'=>e = .returned (.bool (decide (n=0)&& noB t && decide (zh s=0)))/\Below w.heap.size w w':=by
 have P:=O (λw=>bz s w hs);by_cases h0:n=0
 ·subst h0;rcases zy t with rfl|⟨t1,t2,t3⟩
  ·by_cases h1:zh s=0
   ·have HR:=O (show(decide ((0:Int)=0)&& noB ⟨#[]⟩&& decide (zh s=0))=true by rw [h1];rfl);rw [h1,zk] at P;clear h1;rcases ho with rfl|rfl|rfl|rfl
    all_goals
     go_enter Tryz.func62,Tryz.ntmps62;go_wp2_with fail;refine(P.o _).mono ?_;rintro e w1 ⟨rfl,hb⟩;go_wp2_with fail;go_ret;exact⟨by rw [HR.o];rfl,zx hb⟩
   ·have HR:=O (show(decide ((0:Int)=0)&& noB ⟨#[]⟩&& decide (zh s=0))=false by rw [decide_eq_false h1];rfl);rw [zn h1] at P;clear h1;generalize zh s=f at *;rcases ho with rfl|rfl|rfl|rfl
    all_goals
     go_enter Tryz.func62,Tryz.ntmps62;go_wp2_with fail;refine(P.o _).mono ?_;rintro e w1 ⟨rfl,hb⟩;go_wp2_with fail;go_ret;exact⟨by rw [HR.o];rfl,zx hb⟩
  ·rcases ho with rfl|rfl|rfl|rfl
   all_goals
    go_enter Tryz.func62,Tryz.ntmps62;go_wp2_with fail;go_ret;exact⟨zl (by simp [t3]),zb _ _⟩
 ·have e0:(n != 0)=true:=by rw [bne_iff_ne];exact h0
  have e1:(n==0)=false:=beq_eq_false_iff_ne.2 h0;rcases zy t with rfl|⟨t1,t2,t3⟩<;> rcases ho with rfl|rfl|rfl|rfl
  all_goals
   go_enter Tryz.func62,Tryz.ntmps62;go_wp2_with fail;go_ret;exact⟨zl (by simp [h0]),zb _ _⟩
theorem rH(o n:Int)(s t:ByteArray)(w:World)(ho:o=23)(hs:s.size<=maxLen):
 Calls Tryz.prog 62 #[.agg #[.int .i64 o,.int .i64 n,.string s,.string t]] w λe w'=>e = .returned (.bool (decide (n=0)&& noB t && decide (zo s=0)))/\Below w.heap.size w w':=by
 have P:=O (λw=>cm s w hs);by_cases h0:n=0
 ·subst h0;rcases zy t with rfl|⟨t1,t2,t3⟩
  ·by_cases h1:zo s=0
   ·have HR:=O (show(decide ((0:Int)=0)&& noB ⟨#[]⟩&& decide (zo s=0))=true by rw [h1];rfl);rw [h1,zk] at P;clear h1;rcases ho with rfl
    all_goals
     go_enter Tryz.func62,Tryz.ntmps62;go_wp2_with fail;refine(P.o _).mono ?_;rintro e w1 ⟨rfl,hb⟩;go_wp2_with fail;go_ret;exact⟨by rw [HR.o];rfl,zx hb⟩
   ·have HR:=O (show(decide ((0:Int)=0)&& noB ⟨#[]⟩&& decide (zo s=0))=false by rw [decide_eq_false h1];rfl);rw [zn h1] at P;clear h1;generalize zo s=f at *;rcases ho with rfl
    all_goals
     go_enter Tryz.func62,Tryz.ntmps62;go_wp2_with fail;refine(P.o _).mono ?_;rintro e w1 ⟨rfl,hb⟩;go_wp2_with fail;go_ret;exact⟨by rw [HR.o];rfl,zx hb⟩
  ·rcases ho with rfl
   all_goals
    go_enter Tryz.func62,Tryz.ntmps62;go_wp2_with fail;go_ret;exact⟨zl (by simp [t3]),zb _ _⟩
 ·have e0:(n != 0)=true:=by rw [bne_iff_ne];exact h0
  have e1:(n==0)=false:=beq_eq_false_iff_ne.2 h0;rcases zy t with rfl|⟨t1,t2,t3⟩<;> rcases ho with rfl
  all_goals
   go_enter Tryz.func62,Tryz.ntmps62;go_wp2_with fail;go_ret;exact⟨zl (by simp [h0]),zb _ _⟩
theorem vy(n:Int)(s t:ByteArray)(w:World)(hs:s.size<=maxLen):
 Calls Tryz.prog 62 #[.agg #[.int .i64 8,.int .i64 n,.string s,.string t]] w λe w'=>e = .returned (.bool (decide (n=0)&& noB t && da s))/\Below w.heap.size w w':=by
 have P:=O (λw=>oJ s w hs);by_cases h0:n=0
 ·subst h0;rcases zy t with rfl|⟨t1,t2,t3⟩
  ·go_enter Tryz.func62,Tryz.ntmps62;go_wp2_with fail;refine(P.o _).mono ?_;rintro e w1 ⟨rfl,hb⟩;go_wp2_with fail;go_ret;exact⟨zl (by simp [jk]),zx hb⟩
  ·go_enter Tryz.func62,Tryz.ntmps62;go_wp2_with fail;go_ret;exact⟨zl (by simp [t3]),zb _ _⟩
 ·have e0:(n != 0)=true:=by rw [bne_iff_ne];exact h0
  have e1:(n==0)=false:=beq_eq_false_iff_ne.2 h0;rcases zy t with rfl|⟨t1,t2,t3⟩
  all_goals
   go_enter Tryz.func62,Tryz.ntmps62;go_wp2_with fail;go_ret;exact⟨zl (by simp [h0]),zb _ _⟩
theorem x7{o:Int}(ho:o=9\/o=10\/o=11\/o=12\/o=13\/o=14\/o=15\/o=16\/o=17\/o=18\/o=19\/o=20\/o=25\/o=26\/o=27)(n:Int)(s t:ByteArray):0<zt ⟨o,n,s,t⟩:=by
 rcases ho with rfl|rfl|rfl|rfl|rfl|rfl|rfl|rfl|rfl|rfl|rfl|rfl|rfl|rfl|rfl <;> first|exact(show(0:Int)<1 by decide)|exact(show(0:Int)<2 by decide)|exact(show(0:Int)<3 by decide)
theorem Dg{o:Int}(ho:o=9\/o=10\/o=11\/o=12\/o=13\/o=14\/o=15\/o=16\/o=17\/o=18\/o=19\/o=20\/o=25\/o=26\/o=27):(o==1)=false/\(o==2)=false/\(o==3)=false/\(o==4)=false/\(o==5)=false/\(o==6)=false/\(o==7)=false/\(o==8)=false/\(o==21)=false/\(o==22)=false/\(o==23)=false/\(o==24)=false:=by
 refine⟨?_,?_,?_,?_,?_,?_,?_,?_,?_,?_,?_,?_⟩<;>(rw [beq_eq_false_iff_ne];omega)
theorem qN(o n:Int)(s t:ByteArray)(w:World)(ho:o=9\/o=10\/o=11\/o=12\/o=13\/o=14\/o=15\/o=16\/o=17\/o=18\/o=19\/o=20\/o=25\/o=26\/o=27):
 Calls Tryz.prog 62 #[.agg #[.int .i64 o,.int .i64 n,.string s,.string t]] w λe w'=>e = .returned (.bool (decide (n=0)&& noB t && noB s))/\Below w.heap.size w w':=by
 have P:=O (λw=>eD ⟨o,n,s,t⟩ w);unfold ndV at P;dsimp only at P;have hp:=x7 ho n s t;obtain⟨g1,g2,g3,g4,g5,g6,g7,g8,g21,g22,g23,g24⟩:=Dg ho;generalize zt ⟨o,n,s,t⟩=m at *;have f1:decide (0<m)=true:=decide_eq_true hp;clear ho;by_cases h0:n=0
 ·subst h0;obtain⟨s',hs'⟩:∃s',s'=s:=⟨_,rfl⟩
  obtain⟨t',OK⟩:∃t',t'=t:=⟨_,rfl⟩
  have V0:=aI w ⟨o,0,s,t⟩ 28;dsimp only at V0;clear hs' OK s' t';rcases zy s with rfl|⟨s1,s2,s3⟩<;> rcases zy t with rfl|⟨t1,t2,t3⟩
  all_goals
   go_enter Tryz.func62,Tryz.ntmps62;go_wp2_with fail;refine(P.o _).mono ?_;rintro e w1 ⟨rfl,hb⟩;have B1:=O (zx hb);have hw:w.heap.size<w1.heap.size:=Nat.lt_of_lt_of_le (by simp) hb.size;obtain⟨c0,c1,c2,c3⟩:=V0.keep hb;dsimp only at c0 c1 c2 c3;clear hb;go_wp2_with fail;go_ret;exact⟨zl (by simp [*,jk]),B1.o⟩
 ·have e0:(n != 0)=true:=by rw [bne_iff_ne];exact h0
  have e1:(n==0)=false:=beq_eq_false_iff_ne.2 h0;go_enter Tryz.func62,Tryz.ntmps62;go_wp2_with fail;refine(P.o _).mono ?_;rintro e w1 ⟨rfl,hb⟩;have B1:=O (zx hb);have hw:w.heap.size<w1.heap.size:=Nat.lt_of_lt_of_le (by simp) hb.size;obtain⟨c0,c1,c2,c3⟩:=(aI w ⟨o,n,s,t⟩ 28).keep hb;dsimp only at c0 c1 c2 c3;clear hb;go_wp2_with fail;go_ret;exact⟨zl (by simp [h0]),B1.o⟩
theorem vF(o n:Int)(s t:ByteArray)(w:World)(ho:o<=0\/28<=o):
 Calls Tryz.prog 62 #[.agg #[.int .i64 o,.int .i64 n,.string s,.string t]] w λe w'=>e = .returned (.bool false)/\Below w.heap.size w w':=by
 have P:=O (λw=>eD ⟨o,n,s,t⟩ w);unfold ndV at P;dsimp only at P;rw [dd ho n s t] at P;obtain⟨g1,g2,g3,g4,g5,g6,g7,g8,g9,g10,g11,g12,g13,g14,g15,g16,g17,g18,g19,g20,g21,g22,g23,g24,g25,g26,g27⟩:=wF ho;clear ho;go_enter Tryz.func62,Tryz.ntmps62;go_wp2_with fail;refine(P.o _).mono ?_;rintro e w1 ⟨rfl,hb⟩;go_wp2_with fail;go_ret;exact⟨rfl,zx hb⟩
theorem Ab(s:ByteArray):noB s=decide (s=emp):=by
 rcases h:noB s with _|_
 ·symm;rw [decide_eq_false_iff_not];rintro rfl;cases h
 ·symm;rw [decide_eq_true_iff];exact bk h
theorem cg{x:Nd}(h:1<=x.op/\x.op<=7):jd x=zu x:=by unfold jd;rw [if_pos h]
theorem li{x:Nd}(h:8<=x.op/\x.op<=27):jd x=(decide (x.n=0)&& noB x.t &&(if x.op=8 then da x.s else if x.op=21\/x.op=22\/x.op=24 then decide (zh x.s=0) else if x.op=23 then decide (zo x.s=0) else noB x.s)):=by
 have hp:¬zt x<0:=by
  unfold zt;rw [if_neg (by omega)];split
  ·omega
  ·split
   ·omega
   ·split
    ·omega
    ·rw [if_pos (by omega)];omega
 unfold jd;rw [if_neg (by omega),Ab,Ab];by_cases h0:x.n=0
 ·by_cases ht:x.t=emp
  ·rw [if_neg (by intro q;rcases q with q|q|q <;> contradiction),decide_eq_true h0,decide_eq_true ht];rfl
  ·rw [if_pos (.inr (.inr ht)),decide_eq_false ht,Bool.and_false,Bool.false_and]
 ·rw [if_pos (.inr (.inl h0)),decide_eq_false h0,Bool.false_and,Bool.false_and]
theorem mZ{x:Nd}(h:x.op<=0\/28<=x.op):jd x=false:=by
 unfold jd;rw [if_neg (by omega),if_pos];left;obtain⟨o,n,s,t⟩:=x;rw [dd h];decide
theorem uO(x:Nd)(w:World)(hx:er x):
 Calls Tryz.prog 62 #[ndV x] w λe w'=>e = .returned (.bool (jd x))/\Below w.heap.size w w':=by
 obtain⟨o,n,s,t⟩:=x;have hs:s.size<=maxLen:=hx.s;unfold ndV;dsimp only;by_cases h1:1<=o/\o<=4
 ·rw [cg (by dsimp only;omega)];exact vC o n s t w (by omega) hx
 by_cases h5:o=5\/o=6
 ·rw [cg (by dsimp only;omega)];have:=so o n s t h5 w;unfold zu;dsimp only;rwa [if_neg (by omega),if_neg (by omega),if_neg (by omega),if_neg (by omega),if_pos h5]
 by_cases h7:o=7
 ·rw [cg (by dsimp only;omega)];have:=gp o n s t w (by omega) hs;unfold zu;dsimp only;rwa [if_neg (by omega),if_neg (by omega),if_neg (by omega),if_neg (by omega),if_neg (by omega),if_pos h7]
 by_cases h8:8<=o/\o<=27
 ·rw [li h8];dsimp only;by_cases h8':o=8
  ·subst h8';rw [if_pos rfl];exact vy n s t w hs
  rw [if_neg h8'];by_cases h21:o=21\/o=22\/o=24
  ·rw [if_pos h21];exact gp o n s t w (by omega) hs
  rw [if_neg h21];by_cases h23:o=23
  ·rw [if_pos h23];exact rH o n s t w h23 hs
  rw [if_neg h23];exact qN o n s t w (by omega)
 ·rw [mZ (by dsimp only;omega)];exact vF o n s t w (by omega)
theorem ei{o:Int}(n:Int)(s t:ByteArray)(h:8<=o/\o<=27):¬zt ⟨o,n,s,t⟩<0:=by
 unfold zt;dsimp only;rw [if_neg (by omega)];split
 ·omega
 ·split
  ·omega
  ·split
   ·omega
   ·rw [if_pos (by omega)];omega
theorem tQ(o n:Int)(s t:ByteArray)(w:World)(ho:1<=o/\o<=7)(hx:er ⟨o,n,s,t⟩):
 Calls Tryz.prog 38 #[.agg #[.int .i64 o,.int .i64 n,.string s,.string t]] w λe w'=>e = .returned (.bool (zu ⟨o,n,s,t⟩))/\Below w.heap.size w w':=by
 have P:=O (λw=>pf ⟨o,n,s,t⟩ w hx.s hx.t);unfold ndV at P;dsimp only at P;have k1:decide (o<=7)=true:=decide_eq_true (by omega);have k2:decide (1<=o)=true:=decide_eq_true (by omega);generalize zu ⟨o,n,s,t⟩=r at *;clear ho hx;go_enter Tryz.func38,Tryz.ntmps38;go_wp2_with fail;refine(P.o _).mono ?_;rintro e w1 ⟨rfl,hb⟩;go_wp2_with fail;go_ret;exact⟨rfl,zx hb⟩
theorem uj(o n:Int)(s t:ByteArray)(w:World)(ho:o<=0\/28<=o):
 Calls Tryz.prog 38 #[.agg #[.int .i64 o,.int .i64 n,.string s,.string t]] w λe w'=>e = .returned (.bool false)/\Below w.heap.size w w':=by
 have P:=O (λw=>ck ⟨o,n,s,t⟩ w);unfold ndV at P;dsimp only at P;rw [dd ho n s t] at P;rcases ho with ho|ho
 ·have k2:decide (1<=o)=false:=decide_eq_false (by omega);go_enter Tryz.func38,Tryz.ntmps38;go_wp2_with fail;refine(P.o _).mono ?_;rintro e w1 ⟨rfl,hb⟩;go_wp2_with fail;go_ret;exact⟨rfl,zx hb⟩
 ·have k2:decide (1<=o)=true:=decide_eq_true (by omega);have k1:decide (o<=7)=false:=decide_eq_false (by omega);go_enter Tryz.func38,Tryz.ntmps38;go_wp2_with fail;refine(P.o _).mono ?_;rintro e w1 ⟨rfl,hb⟩;go_wp2_with fail;go_ret;exact⟨rfl,zx hb⟩
theorem oU(o n:Int)(s t:ByteArray)(w:World)(ho:o=21\/o=22\/o=24)(hs:s.size<=maxLen):
 Calls Tryz.prog 38 #[.agg #[.int .i64 o,.int .i64 n,.string s,.string t]] w λe w'=>e = .returned (.bool (decide (n=0)&& noB t && decide (zh s=0)))/\Below w.heap.size w w':=by
 have P:=O (λw=>ck ⟨o,n,s,t⟩ w);unfold ndV at P;dsimp only at P;have hp:¬zt ⟨o,n,s,t⟩<0:=ei n s t (by omega);have k1:decide (o<=7)=false:=decide_eq_false (by omega);have k2:decide (1<=o)=true:=decide_eq_true (by omega);generalize zt ⟨o,n,s,t⟩=m at *;have f1:decide (m<0)=false:=decide_eq_false hp;have C:=O (λw=>bv s w hs);have g8:(o==8)=false:=by rw [beq_eq_false_iff_ne];omega
 have hor:((o==21)=true)\/((o==21)=false/\(o==22)=true)\/((o==21)=false/\(o==22)=false/\(o==24)=true):=by simp only [beq_iff_eq,beq_eq_false_iff_ne];omega
 clear ho;by_cases h0:n=0
 ·subst h0;rcases zy t with rfl|⟨t1,t2,t3⟩
  ·rcases hor with q1|⟨q1,q2⟩|⟨q1,q2,q3⟩
   all_goals
    go_enter Tryz.func38,Tryz.ntmps38;go_wp2_with fail;refine(P.o _).mono ?_;rintro e w1 ⟨rfl,hb⟩;have B1:=O (zx hb);have hw:w.heap.size<w1.heap.size:=Nat.lt_of_lt_of_le (by simp) hb.size;have V1:=(aI w ⟨o,0,s,⟨#[]⟩⟩ 28).keep hb;obtain⟨c0,c1,c2,c3⟩:=V1;dsimp only at c0 c1 c2 c3;clear hb;go_wp2_with fail;refine(C.o _).mono ?_;rintro e w2 ⟨rfl,rfl⟩;have B2:=B1;go_wp2_with fail;go_ret;exact⟨zl (by simp [jk];rfl),B2.o⟩
  ·have V0:=aI w ⟨o,0,s,t⟩ 28;dsimp only at V0;go_enter Tryz.func38,Tryz.ntmps38;go_wp2_with fail;refine(P.o _).mono ?_;rintro e w1 ⟨rfl,hb⟩;have B1:=O (zx hb);have hw:w.heap.size<w1.heap.size:=Nat.lt_of_lt_of_le (by simp) hb.size;obtain⟨c0,c1,c2,c3⟩:=V0.keep hb;dsimp only at c0 c1 c2 c3;clear hb;go_wp2_with fail;go_ret;exact⟨zl (by simp [t3]),B1.o⟩
 ·have e0:(n != 0)=true:=by rw [bne_iff_ne];exact h0
  have e1:(n==0)=false:=beq_eq_false_iff_ne.2 h0;have V0:=aI w ⟨o,n,s,t⟩ 28;dsimp only at V0;go_enter Tryz.func38,Tryz.ntmps38;go_wp2_with fail;refine(P.o _).mono ?_;rintro e w1 ⟨rfl,hb⟩;have B1:=O (zx hb);have hw:w.heap.size<w1.heap.size:=Nat.lt_of_lt_of_le (by simp) hb.size;obtain⟨c0,c1,c2,c3⟩:=V0.keep hb;dsimp only at c0 c1 c2 c3;clear hb;go_wp2_with fail;go_ret;exact⟨zl (by simp [h0]),B1.o⟩
theorem qD(o n:Int)(s t:ByteArray)(w:World)(ho:o=23)(hs:s.size<=maxLen):
 Calls Tryz.prog 38 #[.agg #[.int .i64 o,.int .i64 n,.string s,.string t]] w λe w'=>e = .returned (.bool (decide (n=0)&& noB t && decide (zo s=0)))/\Below w.heap.size w w':=by
 have P:=O (λw=>ck ⟨o,n,s,t⟩ w);unfold ndV at P;dsimp only at P;have hp:¬zt ⟨o,n,s,t⟩<0:=ei n s t (by omega);have k1:decide (o<=7)=false:=decide_eq_false (by omega);have k2:decide (1<=o)=true:=decide_eq_true (by omega);generalize zt ⟨o,n,s,t⟩=m at *;have f1:decide (m<0)=false:=decide_eq_false hp;have C:=O (λw=>dG s w hs);have g8:(o==8)=false:=by rw [beq_eq_false_iff_ne];omega
 have g21:(o==21)=false:=by rw [beq_eq_false_iff_ne];omega
 have g22:(o==22)=false:=by rw [beq_eq_false_iff_ne];omega
 have g24:(o==24)=false:=by rw [beq_eq_false_iff_ne];omega
 have g23:(o==23)=true:=by rw [beq_iff_eq];omega
 clear ho;by_cases h0:n=0
 ·subst h0;rcases zy t with rfl|⟨t1,t2,t3⟩
  ·go_enter Tryz.func38,Tryz.ntmps38;go_wp2_with fail;refine(P.o _).mono ?_;rintro e w1 ⟨rfl,hb⟩;have B1:=O (zx hb);have hw:w.heap.size<w1.heap.size:=Nat.lt_of_lt_of_le (by simp) hb.size;have V1:=(aI w ⟨o,0,s,⟨#[]⟩⟩ 28).keep hb;obtain⟨c0,c1,c2,c3⟩:=V1;dsimp only at c0 c1 c2 c3;clear hb;go_wp2_with fail;refine(C.o _).mono ?_;rintro e w2 ⟨rfl,b2⟩;have B2:=O (B1.o.trans (b2.mono B1.o.size));go_wp2_with fail;go_ret;exact⟨zl (by simp [jk];rfl),B2.o⟩
  ·have V0:=aI w ⟨o,0,s,t⟩ 28;dsimp only at V0;go_enter Tryz.func38,Tryz.ntmps38;go_wp2_with fail;refine(P.o _).mono ?_;rintro e w1 ⟨rfl,hb⟩;have B1:=O (zx hb);have hw:w.heap.size<w1.heap.size:=Nat.lt_of_lt_of_le (by simp) hb.size;obtain⟨c0,c1,c2,c3⟩:=V0.keep hb;dsimp only at c0 c1 c2 c3;clear hb;go_wp2_with fail;go_ret;exact⟨zl (by simp [t3]),B1.o⟩
 ·have e0:(n != 0)=true:=by rw [bne_iff_ne];exact h0
  have e1:(n==0)=false:=beq_eq_false_iff_ne.2 h0;have V0:=aI w ⟨o,n,s,t⟩ 28;dsimp only at V0;go_enter Tryz.func38,Tryz.ntmps38;go_wp2_with fail;refine(P.o _).mono ?_;rintro e w1 ⟨rfl,hb⟩;have B1:=O (zx hb);have hw:w.heap.size<w1.heap.size:=Nat.lt_of_lt_of_le (by simp) hb.size;obtain⟨c0,c1,c2,c3⟩:=V0.keep hb;dsimp only at c0 c1 c2 c3;clear hb;go_wp2_with fail;go_ret;exact⟨zl (by simp [h0]),B1.o⟩
theorem rf(o n:Int)(s t:ByteArray)(w:World)(ho:9<=o/\o<=20\/25<=o/\o<=27):
 Calls Tryz.prog 38 #[.agg #[.int .i64 o,.int .i64 n,.string s,.string t]] w λe w'=>e = .returned (.bool (decide (n=0)&& noB t && noB s))/\Below w.heap.size w w':=by
 have P:=O (λw=>ck ⟨o,n,s,t⟩ w);unfold ndV at P;dsimp only at P;have hp:¬zt ⟨o,n,s,t⟩<0:=ei n s t (by omega);have k1:decide (o<=7)=false:=decide_eq_false (by omega);have k2:decide (1<=o)=true:=decide_eq_true (by omega);generalize zt ⟨o,n,s,t⟩=m at *;have f1:decide (m<0)=false:=decide_eq_false hp;have g8:(o==8)=false:=by rw [beq_eq_false_iff_ne];omega
 have g21:(o==21)=false:=by rw [beq_eq_false_iff_ne];omega
 have g22:(o==22)=false:=by rw [beq_eq_false_iff_ne];omega
 have g24:(o==24)=false:=by rw [beq_eq_false_iff_ne];omega
 have g23:(o==23)=false:=by rw [beq_eq_false_iff_ne];omega
 clear ho;by_cases h0:n=0
 ·subst h0;rcases zy t with rfl|⟨t1,t2,t3⟩
  ·have V0:=aI w ⟨o,0,s,⟨#[]⟩⟩ 28;dsimp only at V0;rcases zy s with rfl|⟨s1,s2,s3⟩
   all_goals
    go_enter Tryz.func38,Tryz.ntmps38;go_wp2_with fail;refine(P.o _).mono ?_;rintro e w1 ⟨rfl,hb⟩;have hw:w.heap.size<w1.heap.size:=Nat.lt_of_lt_of_le (by simp) hb.size;have B1:=O (zx hb);obtain⟨c0,c1,c2,c3⟩:=V0.keep hb;dsimp only at c0 c1 c2 c3;clear hb;go_wp2_with fail;go_ret;exact⟨zl (by simp [*,jk]),B1.o⟩
  ·have V0:=aI w ⟨o,0,s,t⟩ 28;dsimp only at V0;go_enter Tryz.func38,Tryz.ntmps38;go_wp2_with fail;refine(P.o _).mono ?_;rintro e w1 ⟨rfl,hb⟩;have B1:=O (zx hb);have hw:w.heap.size<w1.heap.size:=Nat.lt_of_lt_of_le (by simp) hb.size;obtain⟨c0,c1,c2,c3⟩:=V0.keep hb;dsimp only at c0 c1 c2 c3;clear hb;go_wp2_with fail;go_ret;exact⟨zl (by simp [t3]),B1.o⟩
 ·have e0:(n != 0)=true:=by rw [bne_iff_ne];exact h0
  have e1:(n==0)=false:=beq_eq_false_iff_ne.2 h0;have V0:=aI w ⟨o,n,s,t⟩ 28;dsimp only at V0;go_enter Tryz.func38,Tryz.ntmps38;go_wp2_with fail;refine(P.o _).mono ?_;rintro e w1 ⟨rfl,hb⟩;have B1:=O (zx hb);have hw:w.heap.size<w1.heap.size:=Nat.lt_of_lt_of_le (by simp) hb.size;obtain⟨c0,c1,c2,c3⟩:=V0.keep hb;dsimp only at c0 c1 c2 c3;clear hb;go_wp2_with fail;go_ret;exact⟨zl (by simp [h0]),B1.o⟩
theorem vc(o n:Int)(s t:ByteArray)(w:World)(ho:o=8)(hs:s.size<=maxLen):
 Calls Tryz.prog 38 #[.agg #[.int .i64 o,.int .i64 n,.string s,.string t]] w λe w'=>e = .returned (.bool (decide (n=0)&& noB t && da s))/\Below w.heap.size w w':=by
 have P:=O (λw=>ck ⟨o,n,s,t⟩ w);unfold ndV at P;dsimp only at P;have hp:¬zt ⟨o,n,s,t⟩<0:=ei n s t (by omega);have k1:decide (o<=7)=false:=decide_eq_false (by omega);have k2:decide (1<=o)=true:=decide_eq_true (by omega);generalize zt ⟨o,n,s,t⟩=m at *;have f1:decide (m<0)=false:=decide_eq_false hp;have C:=O (λw=>bv s w hs);have C2:=O (λw=>bv (s.extract 1 s.size) w (Nat.le_trans (te s) hs));have C3:=O (λw=>qV s w);unfold maxLen at hs;have g8:(o==8)=true:=by rw [beq_iff_eq];omega
 clear ho;by_cases h0:n=0
 ·subst h0;rcases zy t with rfl|⟨t1,t2,t3⟩
  ·obtain hsz|hsz:=Nat.eq_zero_or_pos s.size
   ·have es:s=⟨#[]⟩:=ag (List.eq_nil_of_length_eq_zero (by rw [Array.length_toList];exact hsz));subst es;have HR:=O yE;rw [show zh ⟨#[]⟩=1 by decide] at C;clear hsz;have V0:=aI w ⟨o,0,⟨#[]⟩,⟨#[]⟩⟩ 28;dsimp only at V0;go_enter Tryz.func38,Tryz.ntmps38;go_wp2_with fail;refine(P.o _).mono ?_;rintro e w1 ⟨rfl,hb⟩;have B1:=O (zx hb);have hw:w.heap.size<w1.heap.size:=Nat.lt_of_lt_of_le (by simp) hb.size;obtain⟨c0,c1,c2,c3⟩:=V0.keep hb;dsimp only at c0 c1 c2 c3;clear hb;go_wp2_with fail;refine(C.o _).mono ?_;rintro e w2 ⟨rfl,rfl⟩;go_wp2_with fail;go_ret;exact⟨zl (by rw [HR.o];rfl),B1.o⟩
   ·obtain⟨he,he2⟩:=yT hsz;have V0:=aI w ⟨o,0,s,⟨#[]⟩⟩ 28;by_cases hq:(s[0].toNat:Int)=63
    ·have HV:=O (yB hsz hq);have f2:((s[0].toNat:Int)==63)=true:=beq_iff_eq.2 hq;clear hq;go_enter Tryz.func38,Tryz.ntmps38;go_wp2_with fail;refine(P.o _).mono ?_;rintro e w1 ⟨rfl,hb⟩;have B1:=O (zx hb);have hw:w.heap.size<w1.heap.size:=Nat.lt_of_lt_of_le (by simp) hb.size;obtain⟨c0,c1,c2,c3⟩:=V0.keep hb;dsimp only at c0 c1 c2 c3;clear hb V0;go_wp2_with fail;refine(C2.o _).mono ?_;rintro e w2 ⟨rfl,rfl⟩;go_wp2_with fail;go_ret;exact⟨zl (by rw [HV.o];simp [jk];rfl),B1.o⟩
    ·have HV:=O (yI hsz hq);have f2:((s[0].toNat:Int)==63)=false:=beq_eq_false_iff_ne.2 hq;clear hq;by_cases h1:zh s=0
     ·rw [h1] at C HV;clear h1;go_enter Tryz.func38,Tryz.ntmps38;go_wp2_with fail;refine(P.o _).mono ?_;rintro e w1 ⟨rfl,hb⟩;have B1:=O (zx hb);have hw:w.heap.size<w1.heap.size:=Nat.lt_of_lt_of_le (by simp) hb.size;obtain⟨c0,c1,c2,c3⟩:=V0.keep hb;dsimp only at c0 c1 c2 c3;clear hb V0;go_wp2_with fail;refine(C.o _).mono ?_;rintro e w2 ⟨rfl,rfl⟩;go_wp2_with fail;refine(C3.o _).mono ?_;rintro e w2 ⟨rfl,rfl⟩;go_wp2_with fail;go_ret;exact⟨zl (by rw [HV.o];simp [jk]),B1.o⟩
     ·have f3:(zh s==0)=false:=beq_eq_false_iff_ne.2 h1;have IG:=O (show da s=false by rw [HV.o,decide_eq_false h1];rfl);clear h1 HV;generalize zh s=nf at *;go_enter Tryz.func38,Tryz.ntmps38;go_wp2_with fail;refine(P.o _).mono ?_;rintro e w1 ⟨rfl,hb⟩;have B1:=O (zx hb);have hw:w.heap.size<w1.heap.size:=Nat.lt_of_lt_of_le (by simp) hb.size;obtain⟨c0,c1,c2,c3⟩:=V0.keep hb;dsimp only at c0 c1 c2 c3;clear hb V0;go_wp2_with fail;refine(C.o _).mono ?_;rintro e w2 ⟨rfl,rfl⟩;go_wp2_with fail;go_ret;exact⟨zl (by rw [IG.o];simp),B1.o⟩
  ·have V0:=aI w ⟨o,0,s,t⟩ 28;dsimp only at V0;go_enter Tryz.func38,Tryz.ntmps38;go_wp2_with fail;refine(P.o _).mono ?_;rintro e w1 ⟨rfl,hb⟩;have B1:=O (zx hb);have hw:w.heap.size<w1.heap.size:=Nat.lt_of_lt_of_le (by simp) hb.size;obtain⟨c0,c1,c2,c3⟩:=V0.keep hb;dsimp only at c0 c1 c2 c3;clear hb;go_wp2_with fail;go_ret;exact⟨zl (by simp [t3]),B1.o⟩
 ·have e0:(n != 0)=true:=by rw [bne_iff_ne];exact h0
  have e1:(n==0)=false:=beq_eq_false_iff_ne.2 h0;have V0:=aI w ⟨o,n,s,t⟩ 28;dsimp only at V0;go_enter Tryz.func38,Tryz.ntmps38;go_wp2_with fail;refine(P.o _).mono ?_;rintro e w1 ⟨rfl,hb⟩;have B1:=O (zx hb);have hw:w.heap.size<w1.heap.size:=Nat.lt_of_lt_of_le (by simp) hb.size;obtain⟨c0,c1,c2,c3⟩:=V0.keep hb;dsimp only at c0 c1 c2 c3;clear hb;go_wp2_with fail;go_ret;exact⟨zl (by simp [h0]),B1.o⟩
theorem nM(x:Nd)(w:World)(hx:er x):
 Calls Tryz.prog 38 #[ndV x] w λe w'=>e = .returned (.bool (jd x))/\Below w.heap.size w w':=by
 obtain⟨o,n,s,t⟩:=x;have hs:s.size<=maxLen:=hx.s;unfold ndV;dsimp only;by_cases h1:1<=o/\o<=7
 ·rw [cg h1];exact tQ o n s t w h1 hx
 by_cases h8:8<=o/\o<=27
 ·rw [li h8];dsimp only;by_cases h8':o=8
  ·rw [if_pos h8'];exact vc o n s t w h8' hs
  rw [if_neg h8'];by_cases h21:o=21\/o=22\/o=24
  ·rw [if_pos h21];exact oU o n s t w h21 hs
  rw [if_neg h21];by_cases h23:o=23
  ·rw [if_pos h23];exact qD o n s t w h23 hs
  rw [if_neg h23];exact rf o n s t w (by omega)
 ·rw [mZ (by dsimp only;omega)];exact uj o n s t w (by omega)
end Go.Proofs.YtokiogmfgpidmaaGreatDoor
namespace Go.Proofs.YtokiogmfgpidmaaGreatDoor
open Go.RowKit Go.Wk
structure aO(σ:Env):Prop where
 e:jw σ.E=0
 who:zI σ.who=0
 act:zI σ.act=0
 what:zI σ.what=0
 ctx:zc σ.ctx=0/\zf σ.ctx=6
theorem l'{n:Nd}(h1:1<=n.op/\n.op<=4)(h:zu n=true):zc [n]=0:=by rw [tw n h1,if_pos h]
theorem pG(b:Bool):zc (zK b)=0:=l' (show(1:Int)<=1/\(1:Int)<=4 by decide) (by cases b <;> decide)
theorem yZ(k:Int):zc (fc k)=0:=l' (show(1:Int)<=2/\(2:Int)<=4 by decide) (by unfold zu;simp [noB,emp];rfl)
theorem rL{u:Ud}(h:zI u=0):zc (vK u)=0:=by
 refine l' (show(1:Int)<=4/\(4:Int)<=4 by decide) ?_;unfold zI at h;have h1:zh u.1=0:=by
  by_cases q:zh u.1=0
  ·exact q
  ·rw [if_neg q] at h;exact h
 rw [if_pos h1] at h;unfold zu;simp [h1,h]
theorem Iv{r:List Nd}{s:ByteArray}(hr:zc r=0)(h:cq r s=0):zc (ga r s)=0:=by
 unfold ga;rw [if_pos h];unfold cq at h;rw [if_pos hr] at h;by_cases h6:zf r=6
 ·rw [if_pos h6] at h;rcases hg:oR r s with _|V
  ·rw [hg] at h;cases h
  ·obtain⟨hl,hv⟩:=zH.1 hr;obtain⟨e,-,h3,-⟩:=eF hv h6;unfold oR at hg;rw [Option.map_eq_some_iff] at hg;obtain⟨x,hx,rfl⟩:=hg;have hm:=List.mem_of_find?_eq_some hx;refine zH.2 ⟨?_,(h3 x hm).1⟩;have:x.2.length<=(zL (zr r)).length:=by
    generalize zr r=L at hm
    induction L with
    | nil=>cases hm
    | cons y L ih =>
     simp only [zL,List.length_cons,List.length_append]
     rcases List.mem_cons.1 hm with rfl|hm
     ·omega
     ·have:=ih hm;omega
   rw [e] at hl;simp only [List.length_cons] at hl;simp only [Option.getD_some];omega
 ·rw [if_neg h6] at h;cases h
theorem fR{e:Int}{b:Bool}{V:List Nd}(h:jP e b = .ok V):zc V=0:=by
 unfold jP at h;split at h
 ·injection h with h;subst h;exact pG b
 ·cases h
theorem dP{e:Int}{W V:List Nd}(h:je e W = .ok V)(hw:e=0->zc W=0):zc V=0:=by
 unfold je at h;split at h
 ·rename_i h0;injection h with h;subst h;exact hw h0
 ·cases h
theorem cD{b:Bool}{V:List Nd}(h:(Except.ok (zK b):Res)= .ok V):zc V=0:=by
 injection h with h;subst h;exact pG b
theorem Cy{σ:Env}(hσ:aO σ){s:ByteArray}{V:List Nd}(h:aK σ s = .ok V):zc V=0:=by
 unfold aK at h;split at h
 ·injection h with h;subst h;exact rL hσ.who
 ·split at h
  ·injection h with h;subst h;exact rL hσ.act
  ·split at h
   ·injection h with h;subst h;exact rL hσ.what
   ·split at h
    ·injection h with h;subst h;exact hσ.ctx.1
    ·cases h
theorem GM{E:List En}(hE:jw E=0){V r:List Nd}(hV:zc V=0)(h:bS E V = .ok (some r)):zc r=0/\zf r=6:=by
 unfold bS at h;split at h
 ·rename_i h6;injection h with h;injection h with h;subst h;exact⟨hV,h6⟩
 ·split at h
  ·injection h with h;rw [Option.map_eq_some_iff] at h;obtain⟨x,hx,rfl⟩:=h;exact y9 (lk.1 hE).2.1 (List.mem_of_find?_eq_some hx)
  ·cases h
theorem Jo{E:List En}(hE:jw E=0){n:Nd}{V W:List Nd}(hV:zc V=0)(h:ar E n V = .ok W):zc W=0:=by
 unfold ar at h;split at h
 ·split at h
  ·exact cD h
  ·cases h
 ·split at h
  ·split at h
   ·exact dP h λ_=>yZ _
   ·cases h
  ·split at h
   ·split at h
    ·exact fR h
    ·cases h
   ·split at h
    ·split at h
     ·exact cD h
     ·cases h
    ·rcases hr:bS E V with e|(_|r)
     ·rw [hr] at h;cases h
     ·rw [hr] at h;simp only at h;split at h
      ·exact cD h
      ·cases h
     ·rw [hr] at h;simp only at h;split at h
      ·exact cD h
      ·exact dP h λh0=>Iv (GM hE hV hr).1 h0
theorem Jr{E:List En}{op:Int}{A B W:List Nd}(h:j7 E op A B = .ok W):zc W=0:=by
 unfold j7 at h;split at h
 ·exact cD h
 ·split at h
  ·unfold inX at h;split at h
   ·exact cD h
   ·cases h
  ·split at h
   ·exact fR h
   ·split at h
    ·exact fR h
    ·split at h
     ·exact fR h
     ·split at h
      ·split at h
       ·exact cD h
       ·split at h
        ·exact cD h
        ·exact dP h λ_=>yZ _
      ·cases h
theorem Eb{E:List En}(hE:jw E=0){n:Nd}{L:List (List Nd)}{W:List Nd}(hL:∀V∈L,zc V=0)(h:fh E n L = .ok W):zc W=0:=by
 match L,hL,h with
 | [V],hL,h=>exact Jo hE (hL V (by simp)) h
 | [A,B],_,h=>exact Jr h
 | [],_,h=>cases h
 | _ :: _ :: _ :: _,_,h=>cases h
mutual
theorem dD{σ:Env}(hσ:aO σ):∀(x:Ex) (f:Bool),x.valid f->∀V,evX σ x = .ok V->zc V=0
 | .node n ps,f,hv,V,h=>by
  obtain⟨h1,-,h3⟩:=hv;have hs:jd n=true:=by unfold jA at h1;rw [Bool.and_eq_true] at h1;exact h1.1
  unfold evX at h;split at h
  ·rename_i h14;injection h with h;subst h;exact l' h14 (by rw [<-cg (by omega)];exact hs)
  ·split at h
   ·exact Cy hσ h
   ·split at h
    ·exact uC hσ ps _ _ h3 _ V h
    ·split at h
     ·exact Iu hσ ps _ _ h3 V h
     ·split at h
      ·rcases hF:evF σ ps with e|L
       ·rw [hF] at h;cases h
       ·rw [hF] at h;exact dP h λh0=>(E6 h0).1
      ·rcases hS:evS σ ps with e|L
       ·rw [hS] at h;cases h
       ·rw [hS] at h;simp only at h;split at h
        ·exact dP h λh0=>(Dq h0).1
        ·exact Eb hσ.e (EX hσ ps _ _ h3 L hS) h
theorem uC{σ:Env}(hσ:aO σ):∀(ps:Exs) (c:Bool) (s:ByteArray),ps.valid c s->∀(o:Bool) (V:List Nd),zQ σ o ps = .ok V->zc V=0
 | .nil,_,_,_,_,_,h=>by cases h
 | .cons a r,c,s,hv,o,V,h=>by
  unfold zQ at h;rcases ha:evX σ a with e|W
  ·rw [ha] at h;cases h
  ·rw [ha] at h;simp only at h;split at h
   ·split at h
    ·injection h with h;subst h;exact dD hσ a _ hv.2.1 _ ha
    ·exact Cz hσ r _ _ hv.2.2 V h
   ·cases h
theorem Cz{σ:Env}(hσ:aO σ):∀(ps:Exs) (c:Bool) (s:ByteArray),ps.valid c s->∀V,jD σ ps = .ok V->zc V=0
 | .nil,_,_,_,_,h=>by cases h
 | .cons b _,c,s,hv,V,h=>by
  unfold jD at h;rcases hb:evX σ b with e|W
  ·rw [hb] at h;cases h
  ·rw [hb] at h;simp only at h;split at h
   ·injection h with h;subst h;exact dD hσ b _ hv.2.1 _ hb
   ·cases h
theorem Iu{σ:Env}(hσ:aO σ):∀(ps:Exs) (c:Bool) (s:ByteArray),ps.valid c s->∀V,dE σ ps = .ok V->zc V=0
 | .nil,_,_,_,_,h=>by cases h
 | .cons b r,c,s,hv,V,h=>by
  unfold dE at h;rcases hb:evX σ b with e|W
  ·rw [hb] at h;cases h
  ·rw [hb] at h;simp only at h;split at h
   ·split at h
    ·exact vu hσ r _ _ hv.2.2 V h
    ·exact De hσ r _ _ hv.2.2 V h
   ·cases h
theorem vu{σ:Env}(hσ:aO σ):∀(ps:Exs) (c:Bool) (s:ByteArray),ps.valid c s->∀V,cC σ ps = .ok V->zc V=0
 | .nil,_,_,_,_,h=>by cases h
 | .cons a _,c,s,hv,V,h=>by
  unfold cC at h;exact dD hσ a _ hv.2.1 V h
theorem De{σ:Env}(hσ:aO σ):∀(ps:Exs) (c:Bool) (s:ByteArray),ps.valid c s->∀V,gm σ ps = .ok V->zc V=0
 | .nil,_,_,_,_,h=>by cases h
 | .cons _ r,c,s,hv,V,h=>by
  unfold gm at h;exact vu hσ r _ _ hv.2.2 V h
theorem EX{σ:Env}(hσ:aO σ):∀(ps:Exs) (c:Bool) (s:ByteArray),ps.valid c s->∀L,evS σ ps = .ok L->∀V∈L,zc V=0
 | .nil,_,_,_,L,h=>by
  unfold evS at h;injection h with h;subst h;intro V hV;cases hV
 | .cons x r,c,s,hv,L,h=>by
  unfold evS at h;rcases hx:evX σ x with e|W
  ·rw [hx] at h;cases h
  ·rw [hx] at h;simp only at h;rcases hr:evS σ r with e|M
   ·rw [hr] at h;cases h
   ·rw [hr] at h;simp only at h;injection h with h;subst h;intro V hV;rcases List.mem_cons.1 hV with rfl|hV
    ·exact dD hσ x _ hv.2.1 _ hx
    ·exact EX hσ r _ _ hv.2.2 M hr V hV
end
theorem eu{e:Int}{b:Bool}{W:List Nd}(h:jP e b = .ok W):zf W=1:=by
 unfold jP at h;split at h
 ·injection h with h;subst h;rfl
 ·cases h
theorem cw{b:Bool}{W:List Nd}(h:(.ok (zK b):Res)= .ok W):zf W=1:=by
 injection h with h;subst h;rfl
theorem wm{E:List En}{n:Nd}{V W:List Nd}(ho:n.op=9\/n.op=21\/n.op=23\/n.op=24)(h:ar E n V = .ok W):zf W=1:=by
 unfold ar at h;rcases ho with e|e|e|e
 ·rw [if_pos e] at h;split at h
  ·exact cw h
  ·cases h
 ·rw [if_neg (by omega),if_neg (by omega),if_neg (by omega),if_neg (by omega)] at h;rcases hr:bS E V with u|(_|r)
  ·rw [hr] at h;cases h
  ·rw [hr] at h;simp only at h;rw [if_pos e] at h;exact cw h
  ·rw [hr] at h;simp only at h;rw [if_pos e] at h;exact cw h
 ·rw [if_neg (by omega),if_neg (by omega),if_pos e] at h;split at h
  ·exact eu h
  ·cases h
 ·rw [if_neg (by omega),if_neg (by omega),if_neg (by omega),if_pos e] at h;split at h
  ·exact cw h
  ·cases h
theorem yb{E:List En}{op:Int}{A B W:List Nd}(ho:op=14\/op=15\/op=16\/op=20\/25<=op/\op<=27)(h:j7 E op A B = .ok W):zf W=1:=by
 unfold j7 at h;split at h
 ·exact cw h
 ·split at h
  ·unfold inX at h;split at h
   ·exact cw h
   ·cases h
  ·split at h
   ·exact eu h
   ·split at h
    ·exact eu h
    ·split at h
     ·exact eu h
     ·split at h
      ·split at h
       ·exact cw h
       ·split at h
        ·exact cw h
        ·exfalso;omega
      ·cases h
theorem qP{σ:Env}{ps:Exs}{W:List Nd}(h:jD σ ps = .ok W):zf W=1:=by
 cases ps with
 | nil=>cases h
 | cons b r =>
  rw [jD] at h
  rcases hr:evX σ b with u|V
  ·rw [hr] at h;cases h
  ·rw [hr] at h
   simp only at h;split at h
   ·rename_i h1;injection h with h;subst h;exact h1
   ·cases h
theorem nQ{σ:Env}{o:Bool}{ps:Exs}{W:List Nd}(h:zQ σ o ps = .ok W):zf W=1:=by
 cases ps with
 | nil=>cases h
 | cons b r =>
  rw [zQ] at h
  rcases hr:evX σ b with u|V
  ·rw [hr] at h;cases h
  ·rw [hr] at h
   simp only at h;split at h
   ·rename_i h1;split at h
    ·injection h with h;subst h;exact h1
    ·exact qP h
   ·cases h
theorem tq{σ:Env}:∀ {ps:Exs} {L:List (List Nd)},evS σ ps = .ok L->L.length=ps.len
 | .nil,L,h=>by
  rw [evS] at h;injection h with h;subst h;rfl
 | .cons a r,L,h=>by
  rw [evS] at h;rcases ha:evX σ a with u|V
  ·rw [ha] at h;cases h
  ·rw [ha] at h;simp only at h;rcases hr:evS σ r with u|L'
   ·rw [hr] at h;cases h
   ·rw [hr] at h;simp only at h;injection h with h;subst h;rw [List.length_cons,tq hr];rfl
theorem iJ{σ:Env}:∀ {x:Ex} {V:List Nd},x.valid false->ofT x.head.op=true->evX σ x = .ok V->zf V=1
 | .node n ps,V,hv,ho,h=>by
  have ho':=of_decide_eq_true ho;simp only [Ex.head] at ho';obtain⟨h1,hl,-⟩:=hv;rw [evX] at h;by_cases e1:1<=n.op/\n.op<=4
  ·rw [if_pos e1] at h;injection h with h;subst h;show n.op=1;omega
  rw [if_neg e1,if_neg (by omega)] at h;by_cases e2:n.op=11\/n.op=12
  ·rw [if_pos e2] at h;exact nQ h
  rw [if_neg e2,if_neg (by omega),if_neg (by omega)] at h;rcases hq:evS σ ps with u|L
  ·rw [hq] at h;cases h
  rw [hq] at h;simp only at h;rw [if_neg (by omega)] at h;have hlen:=tq hq;by_cases e3:n.op=9\/n.op=21\/n.op=23\/n.op=24
  ·have h2:ps.len=1:=by
    unfold zt at hl
    repeat' split at hl
    all_goals omega
   rw [h2] at hlen
   match L,hlen,h with
   | [A],_,h=>exact wm e3 h
  ·have h2:ps.len=2:=by
    unfold zt at hl
    repeat' split at hl
    all_goals omega
   rw [h2] at hlen
   match L,hlen,h with
   | [A,B],_,h=>exact yb (by omega) h
theorem pJ{x:Ex}(hv:x.valid false)(h:x.head.op=1):x = .node ⟨1,x.head.n,emp,emp⟩ .nil/\(x.head.n=0\/x.head.n=1):=by
 obtain⟨n,ps⟩:=x;simp only [Ex.head] at h ⊢;obtain⟨h1,hl,-⟩:=hv;have h2:ps.len=0:=by
  unfold zt at hl
  repeat' split at hl
  all_goals omega
 have hp:ps = .nil:=by
  cases ps with
  | nil=>rfl
  | cons a r=>simp [Exs.len] at h2
 have hs:jd n=true:=by unfold jA at h1;rw [Bool.and_eq_true] at h1;exact h1.1
 unfold jd at hs;rw [if_pos (by omega)] at hs;obtain⟨o,k,s,t⟩:=n;simp only at h;subst h;subst hp;unfold zu at hs;rw [if_pos rfl,Bool.and_eq_true,Bool.and_eq_true,Bool.or_eq_true] at hs;obtain⟨⟨hk,hs1⟩,ht1⟩:=hs;have es:s=⟨#[]⟩:=bk hs1;have et:t=⟨#[]⟩:=bk ht1;subst es;subst et;exact⟨rfl,by simpa using hk⟩
theorem l4{σ:Env}{x:Ex}(hv:x.valid false)(h:x.head.op=1):evX σ x = .ok [x.head]:=by
 obtain⟨e,-⟩:=pJ hv h;obtain⟨n,ps⟩:=x;rw [evX,if_pos (by simp only [Ex.head] at h;omega)];rfl
theorem EP{V:List Nd}(h:zc V=0)(h1:zf V=1):V=zK true\/V=zK false:=by
 obtain⟨hl,hv⟩:=zH.1 h;have hpos:=hv.pos
 match V,hpos with
 | x :: r,_ =>
  have hx:x.op=1:=h1
  unfold IsV at hv
  simp only [zm,List.getElem?_cons_zero] at hv
  by_cases hs:zu x=true
  ·rw [if_pos hs,if_neg (by omega),if_neg (by omega),if_neg (by omega)] at hv
   have hr:r = []:=by simpa using hv
   subst hr;unfold zu at hs;rw [if_pos hx] at hs;simp only [Bool.and_eq_true,Bool.or_eq_true,decide_eq_true_eq] at hs;obtain⟨⟨hn,h2⟩,h3⟩:=hs;rcases hn with hn|hn
   ·right;rw [show x=⟨1,0,emp,emp⟩ from Nd.ext4 hx hn (bk h2) (bk h3)];rfl
   ·left;rw [show x=⟨1,1,emp,emp⟩ from Nd.ext4 hx hn (bk h2) (bk h3)];rfl
  ·rw [if_neg hs] at hv;cases hv
theorem AC{σ:Env}{b:Ex}{r:Exs}(hv:b.valid false)(ho:ofT b.head.op=true):jD σ (.cons b r)=evX σ b:=by
 rw [jD];rcases hq:evX σ b with u|V
 ·rfl
 ·simp only;rw [if_pos (iJ hv ho hq)]
theorem wT{σ:Env}(hσ:aO σ){x y:Ex}(hv:x.valid false)(h:jW x=some y):evX σ y=evX σ x/\y.valid false/\y.flat.length<x.flat.length:=by
 unfold jW at h;split at h
 ·rename_i n a;split at h
  ·rename_i m b;split at h
   ·rename_i hc;obtain⟨h9,m9,hb⟩:=hc;injection h with h;subst h;have h3:=hv.2.2;rw [show zP n=false by unfold zP;exact decide_eq_false (by omega)] at h3;have ha:=h3.2.1;have h4:=ha.2.2;rw [show zP m=false by unfold zP;exact decide_eq_false (by omega)] at h4;have Nm:=h4.2.1;refine⟨?_,Nm,by simp [Ex.flat,Exs.flat];omega⟩;have hbm:evX σ (.node m (.cons b .nil))=(match evX σ b with | .error e => .error e | .ok V => .ok (zK (decide ((hdN V).n=0)))):=by
     rw [evX,if_neg (by omega),if_neg (by omega),if_neg (by omega),if_neg (by omega),if_neg (by omega),evS,evS];rcases hq:evX σ b with u|V
     ·rfl
     ·simp only;rw [if_neg (by omega)];show ar σ.E m V=_;unfold ar;rw [if_pos m9,if_pos (iJ Nm hb hq)]
    rw [evX,if_neg (by omega),if_neg (by omega),if_neg (by omega),if_neg (by omega),if_neg (by omega),evS,evS,hbm];rcases hq:evX σ b with u|V
    ·rfl
    ·simp only;rw [if_neg (by omega)];have h1:=iJ Nm hb hq;have hV:=dD hσ b false Nm V hq;show Except.ok V=ar σ.E n _;unfold ar;rw [if_pos h9];rcases EP hV h1 with rfl|rfl <;> rfl
   ·cases h
  ·cases h
 ·rename_i n a b;split at h
  ·rename_i h12;have h3:=hv.2.2;rw [show zP n=false by unfold zP;exact decide_eq_false (by omega)] at h3;have ha:=h3.2.1;have hb:=h3.2.2.2.1;have hx:evX σ (.node n (.cons a (.cons b .nil)))=zQ σ (decide (n.op=12)) (.cons a (.cons b .nil)):=by
    rw [evX,if_neg (by omega),if_neg (by omega),if_pos h12]
   rw [hx,zQ];have dK:=jh a;have i8:=jh b;split at h
   ·rename_i a1;rw [l4 ha a1];simp only;rw [if_pos (show zf [a.head]=1 from a1)];split at h
    ·rename_i he;injection h with h;subst h;rw [if_pos (show decide ((hdN [a.head]).n=1)=decide (n.op=12) from he),l4 ha a1];exact⟨rfl,ha,by simp [Ex.flat,Exs.flat];omega⟩
    ·rename_i he;rw [if_neg (show¬decide ((hdN [a.head]).n=1)=decide (n.op=12) from he)];split at h
     ·rename_i Kt;injection h with h;subst h;rw [AC hb Kt];exact⟨rfl,hb,by simp [Ex.flat,Exs.flat];omega⟩
     ·cases h
   ·split at h
    ·rename_i hc;obtain⟨b1,M8,MQ⟩:=hc;injection h with h;subst h;refine⟨?_,ha,by simp [Ex.flat,Exs.flat];omega⟩;rcases hq:evX σ a with u|V
     ·rfl
     ·have h1:=iJ ha MQ hq;have hV:=dD hσ a false ha V hq;simp only;rw [if_pos h1];split
      ·rfl
      ·rename_i hn;obtain⟨e,hb01⟩:=pJ hb b1;rw [jD,l4 hb b1];simp only;rw [if_pos (show zf [b.head]=1 from b1)];have hbh:b.head=⟨1,b.head.n,emp,emp⟩:=congrArg Ex.head e;rcases EP hV h1 with rfl|rfl
       ·have Nz:¬decide ((1:Int)=1)=decide (n.op=12):=hn;rcases hb01 with e0|e0
        ·exfalso;rw [e0] at M8;by_cases q:n.op=12 <;> simp [q] at M8 Nz
        ·rw [hbh,e0];rfl
       ·have Nz:¬decide ((0:Int)=1)=decide (n.op=12):=hn;rcases hb01 with e0|e0
        ·rw [hbh,e0];rfl
        ·exfalso;rw [e0] at M8;by_cases q:n.op=12 <;> simp [q] at M8 Nz
    ·cases h
  ·cases h
 ·rename_i n c a b;split at h
  ·rename_i hc;obtain⟨h13,c1⟩:=hc;have h3:=hv.2.2;rw [show zP n=false by unfold zP;exact decide_eq_false (by omega)] at h3;have hcv:=h3.2.1;have ha:=h3.2.2.2.1;have hb:=h3.2.2.2.2.2.1;have dK:=jh a;have i8:=jh b;rw [evX,if_neg (by omega),if_neg (by omega),if_neg (by omega),if_pos h13,dE,l4 hcv c1];simp only;rw [if_pos (show zf [c.head]=1 from c1)];split at h
   ·rename_i hn;injection h with h;subst h;rw [if_pos (show(hdN [c.head]).n=1 from hn),cC];exact⟨rfl,ha,by simp [Ex.flat,Exs.flat];omega⟩
   ·rename_i hn;injection h with h;subst h;rw [if_neg (show¬(hdN [c.head]).n=1 from hn),gm,cC];exact⟨rfl,hb,by simp [Ex.flat,Exs.flat];omega⟩
  ·cases h
 ·cases h
end Go.Proofs.YtokiogmfgpidmaaGreatDoor
