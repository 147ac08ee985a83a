/-
  tree.variable, tree.shaped; the reference's Fields: may a node of an expression ..
-/
import Derived.Test.YthifljpkgfpkiaaGreatDoorQ32
set_option maxRecDepth 100000
set_option maxHeartbeats 8000000
namespace Go.Proofs.YthifljpkgfpkiaaGreatDoor
open Go.RowKit Go.Wk Go.Sort
theorem xT{s:ByteArray}(h:0<s.size):s.data.toList.head?=some s[0]:=by
 have h':0<s.data.toList.length:=by rw [Array.length_toList];exact h
 rw [List.head?_eq_getElem?,List.getElem?_eq_getElem h'];rfl
theorem R'{s:ByteArray}(h:0<s.size)(hq:(s[0].toNat:Int)=63):iG s=decide (zk (s.extract 1 s.size)=0):=by
 unfold iG;rw [xT h,if_pos];have:s[0].toNat=63:=by omega
 exact congrArg some (UInt8.toNat_inj.1 this)
theorem S9{s:ByteArray}(h:0<s.size)(hq:¬(s[0].toNat:Int)=63):iG s=(decide (zk s=0)&& !jv s):=by
 unfold iG;rw [xT h,if_neg];intro e;injection e with e;exact hq (by rw [e];rfl)
theorem TP:iG ⟨#[]⟩=false:=by decide
theorem PZ(s:ByteArray):(s.extract 1 s.size).size<=s.size:=by simp
theorem Tm{s:ByteArray}(h:0<s.size):s.toList.isEmpty=false/\¬s.toList = []:=⟨by rw [List.isEmpty_eq_false_iff];exact λq=>(dz h).1 q,λq=>(dz h).1 q⟩
theorem dw{w:World}{b k:Nat}{arr:Array Value}{t:TypeId}{fz:Nat × Nat}{u:Value}(h:w.heap[b]?=some (.cells arr t fz))(hu:arr[k]?=some u):w.cell? ⟨b,k,none⟩=some u:=by
 simp [World.cell?,h,hu]
structure Vnx(w:World)(b:Nat)(x:Nd):Prop where
 c0:w.cell? ⟨b,0,none⟩=some (.int .i64 x.op)
 c1:w.cell? ⟨b,1,none⟩=some (.int .i64 x.n)
 c2:w.cell? ⟨b,2,none⟩=some (.string x.s)
 c3:w.cell? ⟨b,3,none⟩=some (.string x.t)
theorem Vnx.keep{w w':World}{b:Nat}{x:Nd}(h:Vnx w b x)(hb:Below w.heap.size w w'):Vnx w' b x:=⟨zb hb h.c0,zb hb h.c1,zb hb h.c2,zb hb h.c3⟩
theorem I3(w:World)(x:Nd)(t:TypeId):Vnx (w.alloc (.cells #[.int .i64 x.op,.int .i64 x.n,.string x.s,.string x.t] t)) w.heap.size x :=
 ⟨dw (heap_alloc_new w _) rfl,dw (heap_alloc_new w _) rfl,dw (heap_alloc_new w _) rfl,dw (heap_alloc_new w _) rfl⟩
theorem wz(s:ByteArray)(w:World)(hs:s.size<=maxLen):Calls Tryz.prog 123 #[.string s] w λe w'=>e = .returned (.bool (iG s))/\Below w.heap.size w w':=by
 have PR:=O (λw=>wy s w);have PN:=O (λw=>aL s w hs);have PS:=O (λw=>aL (s.extract 1 s.size) w (Nat.le_trans (PZ s) hs));unfold maxLen at hs;by_cases h:0<s.size
 ·obtain⟨he,he2⟩:=Tm h;by_cases hq:(s[0].toNat:Int)=63
  ·have HV:=O (R' h hq);have f1:((s[0].toNat:Int)==63)=true:=beq_iff_eq.2 hq;clear hq;by_cases h1:zk (s.extract 1 s.size)=0
   ·have HR:=O (show iG s=true by rw [HV.o,h1];rfl);rw [h1,zj] at PS;clear h1;go_enter Tryz.func123,Tryz.ntmps123;go_wp2_with fail;refine(PS.o _).mono ?_;rintro e w1 ⟨rfl,hb⟩;go_wp2_with fail;go_ret;exact⟨by rw [HR.o];rfl,hb⟩
   ·have HR:=O (show iG s=false by rw [HV.o,decide_eq_false h1]);rw [zm h1] at PS;clear HV h1;generalize zk (s.extract 1 s.size)=f at *;go_enter Tryz.func123,Tryz.ntmps123;go_wp2_with fail;refine(PS.o _).mono ?_;rintro e w1 ⟨rfl,hb⟩;go_wp2_with fail;go_ret;exact⟨by rw [HR.o];rfl,hb⟩
  ·have HV:=O (S9 h hq);have f1:((s[0].toNat:Int)==63)=false:=beq_eq_false_iff_ne.2 hq;clear hq;by_cases h1:zk s=0
   ·have HR:=O (show iG s = !jv s by rw [HV.o,h1];rfl);rw [h1,zj] at PN;clear h1;generalize jv s=r at *;go_enter Tryz.func123,Tryz.ntmps123;go_wp2_with fail;refine(PN.o _).mono ?_;rintro e w1 ⟨rfl,hb⟩;go_wp2_with fail;refine(PR.o _).mono ?_;rintro e w2 ⟨rfl,rfl⟩;go_wp2_with fail;go_ret;exact⟨by rw [HR.o];rfl,hb⟩
   ·have HR:=O (show iG s=false by rw [HV.o,decide_eq_false h1];rfl);rw [zm h1] at PN;clear HV h1;generalize zk s=f at *;go_enter Tryz.func123,Tryz.ntmps123;go_wp2_with fail;refine(PN.o _).mono ?_;rintro e w1 ⟨rfl,hb⟩;go_wp2_with fail;go_ret;exact⟨by rw [HR.o];rfl,hb⟩
 ·have e:s=⟨#[]⟩:=bB (List.eq_nil_of_length_eq_zero (by rw [Array.length_toList];show s.size=0;omega));subst e;have HR:=O TP;rw [show zk ⟨#[]⟩=1 by decide,zm (by decide)] at PN;clear h;go_enter Tryz.func123,Tryz.ntmps123;go_wp2_with fail;refine(PN.o _).mono ?_;rintro e w1 ⟨rfl,hb⟩;go_wp2_with fail;go_ret;exact⟨by rw [HR.o];rfl,hb⟩
theorem nT(w:World)(x:Nd)(hx:lk x):Ns (w.alloc (.cells #[.int .i64 x.op,.int .i64 x.n,.string x.s,.string x.t] 47)) (some ⟨w.heap.size,0,none⟩) 1 1 [x] :=
 ⟨rfl,Nat.le_refl _,by unfold maxLen;omega,Jm w [x] _,λy hy=>by
  simp only [List.mem_cons,List.not_mem_nil,or_false] at hy;subst hy;exact hx⟩
theorem D1(x:Nd)(h:1<=x.op/\x.op<=4):zh [x]=if zC x=true then 0 else 1:=by
 unfold zh;rw [if_neg (by simp)];simp only [List.length_singleton];by_cases hs:zC x=true
 ·rw [if_pos hs,if_pos];have h5:x.op≠5:=by omega
  have h6:x.op≠6:=by omega
  have h7:x.op≠7:=by omega
  simp [zq,hs,h5,h6,h7]
 ·rw [if_neg hs,if_neg];simp [zq,hs]
theorem Fj(o n:Int)(s t:ByteArray)(w:World)(ho:o=1\/o=2\/o=3\/o=4)(hx:lk ⟨o,n,s,t⟩):
 Calls Tryz.prog 81 #[.agg #[.int .i64 o,.int .i64 n,.string s,.string t]] w λe w'=>e = .returned (.bool (zC ⟨o,n,s,t⟩))/\Below w.heap.size w w':=by
 have b0:=za w (.cells #[.int .i64 o,.int .i64 n,.string s,.string t] 47);have N1:=nT (w.alloc (.cells #[.int .i64 o,.int .i64 n,.string s,.string t] 47)) ⟨o,n,s,t⟩ hx;have B1:=O (b0.trans ((za (w.alloc (.cells #[.int .i64 o,.int .i64 n,.string s,.string t] 47)) (.cells #[.int .i64 o,.int .i64 n,.string s,.string t] 47)).mono b0.size));have hz:(w.alloc (.cells #[.int .i64 o,.int .i64 n,.string s,.string t] 47)).heap.size=w.heap.size+1:=by simp
 rw [hz] at N1;have C:=O (zP N1);rw [D1 ⟨o,n,s,t⟩ (by dsimp only;omega)] at C;dsimp only at C;clear b0 N1 hz hx;generalize zC ⟨o,n,s,t⟩=r at *;cases r
 ·rw [if_neg (by decide),zm (by decide)] at C;rcases ho with rfl|rfl|rfl|rfl
  all_goals
   go_enter Tryz.func81,Tryz.ntmps81;go_wp2_with fail;refine C.o.mono ?_;rintro e w1 ⟨rfl,b1⟩;have B2:=O (B1.o.trans (b1.mono B1.o.size));clear b1 C;go_wp2_with fail;go_ret;exact⟨rfl,B2.o⟩
 ·rw [if_pos rfl,zj] at C;rcases ho with rfl|rfl|rfl|rfl
  all_goals
   go_enter Tryz.func81,Tryz.ntmps81;go_wp2_with fail;refine C.o.mono ?_;rintro e w1 ⟨rfl,b1⟩;have B2:=O (B1.o.trans (b1.mono B1.o.size));clear b1 C;go_wp2_with fail;go_ret;exact⟨rfl,B2.o⟩
theorem Bn(o n:Int)(s t:ByteArray)(ho:o=5\/o=6)(w:World):
 Calls Tryz.prog 81 #[.agg #[.int .i64 o,.int .i64 n,.string s,.string t]] w λe w'=>e = .returned (.bool (decide (0<=n)&& noB s && noB t))/\Below w.heap.size w w':=by
 by_cases h0:0<=n
 ·rcases ho with rfl|rfl <;> rcases ju s with rfl|⟨s1,s2,s3⟩<;> rcases ju t with rfl|⟨t1,t2,t3⟩
  all_goals
   go_enter Tryz.func81,Tryz.ntmps81;go_wp2;go_ret;exact⟨zM (by simp [*,cJ]),za _ _⟩
 ·rcases ho with rfl|rfl <;> rcases ju s with rfl|⟨s1,s2,s3⟩<;> rcases ju t with rfl|⟨t1,t2,t3⟩
  all_goals
   go_enter Tryz.func81,Tryz.ntmps81;go_wp2;go_ret;exact⟨zM (by first|rfl|(rw [decide_eq_false (show¬0<=n by omega)];rfl)),za _ _⟩
theorem m9(o n:Int)(s t:ByteArray)(w:World)(ho:o=7\/o=21\/o=22\/o=24)(hs:s.size<=maxLen):
 Calls Tryz.prog 81 #[.agg #[.int .i64 o,.int .i64 n,.string s,.string t]] w λe w'=>e = .returned (.bool (decide (n=0)&& noB t && decide (zk s=0)))/\Below w.heap.size w w':=by
 have P:=O (λw=>aL s w hs);by_cases h0:n=0
 ·subst h0;rcases ju t with rfl|⟨t1,t2,t3⟩
  ·by_cases h1:zk s=0
   ·have HR:=O (show(decide ((0:Int)=0)&& noB ⟨#[]⟩&& decide (zk s=0))=true by rw [h1];rfl);rw [h1,zj] at P;clear h1;rcases ho with rfl|rfl|rfl|rfl
    all_goals
     go_enter Tryz.func81,Tryz.ntmps81;go_wp2_with fail;refine(P.o _).mono ?_;rintro e w1 ⟨rfl,hb⟩;go_wp2_with fail;go_ret;exact⟨by rw [HR.o];rfl,jK hb⟩
   ·have HR:=O (show(decide ((0:Int)=0)&& noB ⟨#[]⟩&& decide (zk s=0))=false by rw [decide_eq_false h1];rfl);rw [zm h1] at P;clear h1;generalize zk s=f at *;rcases ho with rfl|rfl|rfl|rfl
    all_goals
     go_enter Tryz.func81,Tryz.ntmps81;go_wp2_with fail;refine(P.o _).mono ?_;rintro e w1 ⟨rfl,hb⟩;go_wp2_with fail;go_ret;exact⟨by rw [HR.o];rfl,jK hb⟩
  ·rcases ho with rfl|rfl|rfl|rfl
   all_goals
    go_enter Tryz.func81,Tryz.ntmps81;go_wp2_with fail;go_ret;exact⟨zM (by simp [t3]),za _ _⟩
 ·have e0:(n != 0)=true:=by rw [bne_iff_ne];exact h0
  have e1:(n==0)=false:=beq_eq_false_iff_ne.2 h0;rcases ju t with rfl|⟨t1,t2,t3⟩<;> rcases ho with rfl|rfl|rfl|rfl
  all_goals
   go_enter Tryz.func81,Tryz.ntmps81;go_wp2_with fail;go_ret;exact⟨zM (by simp [h0]),za _ _⟩
theorem yF(o n:Int)(s t:ByteArray)(w:World)(ho:o=23)(hs:s.size<=maxLen):
 Calls Tryz.prog 81 #[.agg #[.int .i64 o,.int .i64 n,.string s,.string t]] w λe w'=>e = .returned (.bool (decide (n=0)&& noB t && decide (zx s=0)))/\Below w.heap.size w w':=by
 have P:=O (λw=>dZ s w hs);by_cases h0:n=0
 ·subst h0;rcases ju t with rfl|⟨t1,t2,t3⟩
  ·by_cases h1:zx s=0
   ·have HR:=O (show(decide ((0:Int)=0)&& noB ⟨#[]⟩&& decide (zx s=0))=true by rw [h1];rfl);rw [h1,zj] at P;clear h1;rcases ho with rfl
    all_goals
     go_enter Tryz.func81,Tryz.ntmps81;go_wp2_with fail;refine(P.o _).mono ?_;rintro e w1 ⟨rfl,hb⟩;go_wp2_with fail;go_ret;exact⟨by rw [HR.o];rfl,jK hb⟩
   ·have HR:=O (show(decide ((0:Int)=0)&& noB ⟨#[]⟩&& decide (zx s=0))=false by rw [decide_eq_false h1];rfl);rw [zm h1] at P;clear h1;generalize zx s=f at *;rcases ho with rfl
    all_goals
     go_enter Tryz.func81,Tryz.ntmps81;go_wp2_with fail;refine(P.o _).mono ?_;rintro e w1 ⟨rfl,hb⟩;go_wp2_with fail;go_ret;exact⟨by rw [HR.o];rfl,jK hb⟩
  ·rcases ho with rfl
   all_goals
    go_enter Tryz.func81,Tryz.ntmps81;go_wp2_with fail;go_ret;exact⟨zM (by simp [t3]),za _ _⟩
 ·have e0:(n != 0)=true:=by rw [bne_iff_ne];exact h0
  have e1:(n==0)=false:=beq_eq_false_iff_ne.2 h0;rcases ju t with rfl|⟨t1,t2,t3⟩<;> rcases ho with rfl
  all_goals
   go_enter Tryz.func81,Tryz.ntmps81;go_wp2_with fail;go_ret;exact⟨zM (by simp [h0]),za _ _⟩
theorem EZ(n:Int)(s t:ByteArray)(w:World)(hs:s.size<=maxLen):
 Calls Tryz.prog 81 #[.agg #[.int .i64 8,.int .i64 n,.string s,.string t]] w λe w'=>e = .returned (.bool (decide (n=0)&& noB t && iG s))/\Below w.heap.size w w':=by
 have P:=O (λw=>wz s w hs);by_cases h0:n=0
 ·subst h0;rcases ju t with rfl|⟨t1,t2,t3⟩
  ·go_enter Tryz.func81,Tryz.ntmps81;go_wp2_with fail;refine(P.o _).mono ?_;rintro e w1 ⟨rfl,hb⟩;go_wp2_with fail;go_ret;exact⟨zM (by simp [cJ]),jK hb⟩
  ·go_enter Tryz.func81,Tryz.ntmps81;go_wp2_with fail;go_ret;exact⟨zM (by simp [t3]),za _ _⟩
 ·have e0:(n != 0)=true:=by rw [bne_iff_ne];exact h0
  have e1:(n==0)=false:=beq_eq_false_iff_ne.2 h0;rcases ju t with rfl|⟨t1,t2,t3⟩
  all_goals
   go_enter Tryz.func81,Tryz.ntmps81;go_wp2_with fail;go_ret;exact⟨zM (by simp [h0]),za _ _⟩
theorem Ho{o:Int}(ho:o=9\/o=10\/o=11\/o=12\/o=13\/o=14\/o=15\/o=16\/o=17\/o=18\/o=19\/o=20\/o=25\/o=26\/o=27)(n:Int)(s t:ByteArray):0<zG ⟨o,n,s,t⟩:=by
 rcases ho with rfl|rfl|rfl|rfl|rfl|rfl|rfl|rfl|rfl|rfl|rfl|rfl|rfl|rfl|rfl <;> first|exact(show(0:Int)<1 by decide)|exact(show(0:Int)<2 by decide)|exact(show(0:Int)<3 by decide)
theorem Qh{o:Int}(ho:o=9\/o=10\/o=11\/o=12\/o=13\/o=14\/o=15\/o=16\/o=17\/o=18\/o=19\/o=20\/o=25\/o=26\/o=27):(o==1)=false/\(o==2)=false/\(o==3)=false/\(o==4)=false/\(o==5)=false/\(o==6)=false/\(o==7)=false/\(o==8)=false/\(o==21)=false/\(o==22)=false/\(o==23)=false/\(o==24)=false:=by
 refine⟨?_,?_,?_,?_,?_,?_,?_,?_,?_,?_,?_,?_⟩<;>(rw [beq_eq_false_iff_ne];omega)
theorem Ab(o n:Int)(s t:ByteArray)(w:World)(ho:o=9\/o=10\/o=11\/o=12\/o=13\/o=14\/o=15\/o=16\/o=17\/o=18\/o=19\/o=20\/o=25\/o=26\/o=27):
 Calls Tryz.prog 81 #[.agg #[.int .i64 o,.int .i64 n,.string s,.string t]] w λe w'=>e = .returned (.bool (decide (n=0)&& noB t && noB s))/\Below w.heap.size w w':=by
 have P:=O (λw=>kO ⟨o,n,s,t⟩ w);unfold ndV at P;dsimp only at P;have hp:=Ho ho n s t;obtain⟨g1,g2,g3,g4,g5,g6,g7,g8,g21,g22,g23,g24⟩:=Qh ho;generalize zG ⟨o,n,s,t⟩=m at *;have f1:decide (0<m)=true:=decide_eq_true hp;clear ho;by_cases h0:n=0
 ·subst h0;obtain⟨s',hs'⟩:∃s',s'=s:=⟨_,rfl⟩
  obtain⟨t',Yu⟩:∃t',t'=t:=⟨_,rfl⟩
  have V0:=I3 w ⟨o,0,s,t⟩ 47;dsimp only at V0;clear hs' Yu s' t';rcases ju s with rfl|⟨s1,s2,s3⟩<;> rcases ju t with rfl|⟨t1,t2,t3⟩
  all_goals
   go_enter Tryz.func81,Tryz.ntmps81;go_wp2_with fail;refine(P.o _).mono ?_;rintro e w1 ⟨rfl,hb⟩;have B1:=O (jK hb);have hw:w.heap.size<w1.heap.size:=Nat.lt_of_lt_of_le (by simp) hb.size;obtain⟨c0,c1,c2,c3⟩:=V0.keep hb;dsimp only at c0 c1 c2 c3;clear hb;go_wp2_with fail;go_ret;exact⟨zM (by simp [*,cJ]),B1.o⟩
 ·have e0:(n != 0)=true:=by rw [bne_iff_ne];exact h0
  have e1:(n==0)=false:=beq_eq_false_iff_ne.2 h0;go_enter Tryz.func81,Tryz.ntmps81;go_wp2_with fail;refine(P.o _).mono ?_;rintro e w1 ⟨rfl,hb⟩;have B1:=O (jK hb);have hw:w.heap.size<w1.heap.size:=Nat.lt_of_lt_of_le (by simp) hb.size;obtain⟨c0,c1,c2,c3⟩:=(I3 w ⟨o,n,s,t⟩ 47).keep hb;dsimp only at c0 c1 c2 c3;clear hb;go_wp2_with fail;go_ret;exact⟨zM (by simp [h0]),B1.o⟩
theorem Ew(o n:Int)(s t:ByteArray)(w:World)(ho:o<=0\/28<=o):
 Calls Tryz.prog 81 #[.agg #[.int .i64 o,.int .i64 n,.string s,.string t]] w λe w'=>e = .returned (.bool false)/\Below w.heap.size w w':=by
 have P:=O (λw=>kO ⟨o,n,s,t⟩ w);unfold ndV at P;dsimp only at P;rw [om ho n s t] at P;obtain⟨g1,g2,g3,g4,g5,g6,g7,g8,g9,g10,g11,g12,g13,g14,g15,g16,g17,g18,g19,g20,g21,g22,g23,g24,g25,g26,g27⟩:=NY ho;clear ho;go_enter Tryz.func81,Tryz.ntmps81;go_wp2_with fail;refine(P.o _).mono ?_;rintro e w1 ⟨rfl,hb⟩;go_wp2_with fail;go_ret;exact⟨rfl,jK hb⟩
theorem Jp(s:ByteArray):noB s=decide (s=emp):=by
 rcases h:noB s with _|_
 ·symm;rw [decide_eq_false_iff_not];rintro rfl;cases h
 ·symm;rw [decide_eq_true_iff];exact ia h
theorem kQ{x:Nd}(h:1<=x.op/\x.op<=7):aA x=zC x:=by unfold aA;rw [if_pos h]
theorem Do{x:Nd}(h:8<=x.op/\x.op<=27):aA x=(decide (x.n=0)&& noB x.t &&(if x.op=8 then iG x.s else if x.op=21\/x.op=22\/x.op=24 then decide (zk x.s=0) else if x.op=23 then decide (zx x.s=0) else noB x.s)):=by
 have hp:¬zG x<0:=by
  unfold zG;rw [if_neg (by omega)];split
  ·omega
  ·split
   ·omega
   ·split
    ·omega
    ·rw [if_pos (by omega)];omega
 unfold aA;rw [if_neg (by omega),Jp,Jp];by_cases h0:x.n=0
 ·by_cases ht:x.t=emp
  ·rw [if_neg (by intro q;rcases q with q|q|q <;> contradiction),decide_eq_true h0,decide_eq_true ht];rfl
  ·rw [if_pos (.inr (.inr ht)),decide_eq_false ht,Bool.and_false,Bool.false_and]
 ·rw [if_pos (.inr (.inl h0)),decide_eq_false h0,Bool.false_and,Bool.false_and]
theorem GY{x:Nd}(h:x.op<=0\/28<=x.op):aA x=false:=by
 unfold aA;rw [if_neg (by omega),if_pos];left;obtain⟨o,n,s,t⟩:=x;rw [om h];decide
theorem Fu(x:Nd)(w:World)(hx:lk x):
 Calls Tryz.prog 81 #[ndV x] w λe w'=>e = .returned (.bool (aA x))/\Below w.heap.size w w':=by
 obtain⟨o,n,s,t⟩:=x;have hs:s.size<=maxLen:=hx.s;unfold ndV;dsimp only;by_cases h1:1<=o/\o<=4
 ·rw [kQ (by dsimp only;omega)];exact Fj o n s t w (by omega) hx
 by_cases h5:o=5\/o=6
 ·rw [kQ (by dsimp only;omega)];have:=Bn o n s t h5 w;unfold zC;dsimp only;rwa [if_neg (by omega),if_neg (by omega),if_neg (by omega),if_neg (by omega),if_pos h5]
 by_cases h7:o=7
 ·rw [kQ (by dsimp only;omega)];have:=m9 o n s t w (by omega) hs;unfold zC;dsimp only;rwa [if_neg (by omega),if_neg (by omega),if_neg (by omega),if_neg (by omega),if_neg (by omega),if_pos h7]
 by_cases h8:8<=o/\o<=27
 ·rw [Do h8];dsimp only;by_cases h8':o=8
  ·subst h8';rw [if_pos rfl];exact EZ n s t w hs
  rw [if_neg h8'];by_cases Cb:o=21\/o=22\/o=24
  ·rw [if_pos Cb];exact m9 o n s t w (by omega) hs
  rw [if_neg Cb];by_cases h23:o=23
  ·rw [if_pos h23];exact yF o n s t w h23 hs
  rw [if_neg h23];exact Ab o n s t w (by omega)
 ·rw [GY (by dsimp only;omega)];exact Ew o n s t w (by omega)
structure Xs where
 s:Sc
 who:ByteArray
 what:ByteArray
 a:An
 D:Nat
def Xs.v(x:Xs):Value := .agg #[.slice x.s.KA x.s.kn x.s.kc,.slice x.s.AA x.s.an x.s.ac,.string x.who,.string x.what,.string x.a.d.id,.slice x.a.WA x.a.wn x.a.wc,.slice x.a.TA x.a.tn x.a.tc,.slice x.a.NA x.a.nn x.a.nc]
def Xs.o(x:Xs):Obj := .cells #[.slice x.s.KA x.s.kn x.s.kc,.slice x.s.AA x.s.an x.s.ac,.string x.who,.string x.what,.string x.a.d.id,.slice x.a.WA x.a.wn x.a.wc,.slice x.a.TA x.a.tn x.a.tc,.slice x.a.NA x.a.nn x.a.nc] 67
def Xs.t(x:Xs):Stg:=⟨x.s.k,x.a.d,x.who,x.what⟩
structure oY(w:World)(x:Xs):Prop where
 s:lK w x.s
 a:BC w x.a
 who:x.who.size<=maxLen
 what:x.what.size<=maxLen
 ok:gW x.t
 d:x.D<=w.heap.size
 ctx:∀a,x.a.NA=some a->a.block<x.D
 kds:∀y∈x.s.K,∀a,y.NA=some a->a.block<x.D
theorem oY.keep{w w':World}{x:Xs}(h:oY w x)(hb:Below w.heap.size w w'):oY w' x:=⟨h.s.keep hb,h.a.keep hb,h.who,h.what,h.ok,Nat.le_trans h.d hb.size,h.ctx,h.kds⟩
structure Vst(w:World)(b:Nat)(x:Xs):Prop where
 c0:w.cell? ⟨b,0,none⟩=some (.slice x.s.KA x.s.kn x.s.kc)
 c1:w.cell? ⟨b,1,none⟩=some (.slice x.s.AA x.s.an x.s.ac)
 c2:w.cell? ⟨b,2,none⟩=some (.string x.who)
 c3:w.cell? ⟨b,3,none⟩=some (.string x.what)
 c4:w.cell? ⟨b,4,none⟩=some (.string x.a.d.id)
 c5:w.cell? ⟨b,5,none⟩=some (.slice x.a.WA x.a.wn x.a.wc)
 c6:w.cell? ⟨b,6,none⟩=some (.slice x.a.TA x.a.tn x.a.tc)
 c7:w.cell? ⟨b,7,none⟩=some (.slice x.a.NA x.a.nn x.a.nc)
theorem Vst.keep{w w':World}{b:Nat}{x:Xs}(h:Vst w b x)(hb:Below w.heap.size w w'):Vst w' b x :=
 ⟨zb hb h.c0,zb hb h.c1,zb hb h.c2,zb hb h.c3,zb hb h.c4,zb hb h.c5,zb hb h.c6,zb hb h.c7⟩
theorem eH(w:World)(x:Xs):Vst (w.alloc x.o) w.heap.size x :=
 ⟨zt (heap_alloc_last w _) rfl,zt (heap_alloc_last w _) rfl,zt (heap_alloc_last w _) rfl,zt (heap_alloc_last w _) rfl,zt (heap_alloc_last w _) rfl,zt (heap_alloc_last w _) rfl,zt (heap_alloc_last w _) rfl,zt (heap_alloc_last w _) rfl⟩
def jT(S:Nat->Prop)(w:World)(r:eR)(e:Ending)(w':World):Prop :=
 Below w.heap.size w w'/\match r with
  | .ok k=>∃A n c,e = .returned (.slice A n c)/\Ns w' A n c k.flat/\∀a,A=some a->S a.block\/w.heap.size<=a.block
  | .error u=>e = .panicked (kY u)
theorem jt{S:Nat->Prop}{w w':World}{u:Int}(hb:Below w.heap.size w w'):jT S w (.error u) (.panicked (kY u)) w':=⟨hb,rfl⟩
theorem jj{S:Nat->Prop}{w w':World}{k:Kd}{A:Option Addr}{n c:Nat}(hb:Below w.heap.size w w')(h:Ns w' A n c k.flat)(hl:∀a,A=some a->S a.block\/w.heap.size<=a.block):jT S w (.ok k) (.returned (.slice A n c)) w':=⟨hb,A,n,c,rfl,h,hl⟩
theorem aH{S:Nat->Prop}{w w1:World}{A:Option Addr}(hb:Below w.heap.size w w1)(h:∀a,A=some a->S a.block\/w1.heap.size<=a.block):∀a,A=some a->S a.block\/w.heap.size<=a.block:=λa e=>(h a e).imp id (λq=>Nat.le_trans hb.size q)
theorem dI{S:Nat->Prop}{w w':World}{u:Int}{e:Ending}(h:jT S w (.error u) e w'):e = .panicked (kY u)/\Below w.heap.size w w':=⟨h.2,h.1⟩
theorem bM{S:Nat->Prop}{w w':World}{k:Kd}{e:Ending}(h:jT S w (.ok k) e w'):∃A n c,e = .returned (.slice A n c)/\Ns w' A n c k.flat/\Below w.heap.size w w'/\∀a,A=some a->S a.block\/w.heap.size<=a.block:=let ⟨A,n,c,h1,h2,h3⟩:=h.2;⟨A,n,c,h1,h2,h.1,h3⟩
theorem qC(o:Int)(s:ByteArray)(w:World)(hs:s.size<=maxLen):
 Calls Tryz.prog 51 #[.int .i64 o,.string s] w λe w'=>e = .returned (.slice (some ⟨w.heap.size,0,none⟩) 1 1)/\(nZ w' w.heap.size (.slice (some ⟨w.heap.size,0,none⟩) 1 1) [⟨o,0,s,emp⟩]/\Ns w' (some ⟨w.heap.size,0,none⟩) 1 1 [⟨o,0,s,emp⟩])/\Below w.heap.size w w':=by
 have N1:=O (nZ.one w ⟨o,0,s,emp⟩);have N2:=O (nT w ⟨o,0,s,emp⟩ ⟨hs,Nat.zero_le _,by show _<=(0:Int);decide,by show(0:Int)<=_;decide⟩);clear hs;go_enter Tryz.func51,Tryz.ntmps51;go_wp2_with fail;go_ret;exact⟨rfl,⟨N1.o,N2.o⟩,za w _⟩
theorem dQ{S:Nat->Prop}{o:Int}{s:ByteArray}{k:Kd}{w:World}(hk:k.flat = [⟨o,0,s,emp⟩])(hs:s.size<=maxLen):
 Calls Tryz.prog 51 #[.int .i64 o,.string s] w (jT S w (.ok k)):=
 (qC o s w hs).mono λe w' ⟨h1,h2,h3⟩=>⟨h3,_,_,_,h1,by rw [hk];exact h2.2,λa e => .inr (by injection e with e;subst e;exact Nat.le_refl _)⟩
theorem iu(A:Option Addr)(n c:Nat)(P:List Nd)(p:Nat)(k:Kd)(w:World)(h:Ns w A n c P)(hn:n<=4000)(hO:lO P p [.ty k]):
 Calls Tryz.prog 86 #[.slice A n c,.int .i64 p] w λe w'=>e = .returned (.int .i64 ((p+k.flat.length:Nat):Int))/\Below w.heap.size w w':=by
 have Ua:=O h;have fm:=O h.len;have hle:=hO.le (by simp);have HT:=O (show p+(cw [Pc.ty k]).length=p+k.flat.length by simp [cw,Pc.flat]);rw [HT.o] at hle;have hple:p+k.flat.length<=n:=by rw [fm.o];exact hle
 have HO:=O hO;generalize p+k.flat.length=T at *;clear h hO hle;go_enter Tryz.func86,Tryz.ntmps86;go_wp2_with fail;go_loopw [1,5] (λu l wr=>∃(q m:Nat) (L:List Pc),u = .int .i64 q/\l = .int .i64 m/\Hid (m=L.length)/\Hid (lO P q L)/\Hid (q+(cw L).length=T)/\wr=w) (λu _ _=>n+1-(intOf u).toNat)
 case atStart=>exact⟨p,1,[.ty k],rfl,rfl,O rfl,HO,HT,rfl⟩
 case round =>
  obtain⟨q,m,L,rfl,rfl,hM,hO,hT,rfl⟩:=hrel;by_cases hl:0<m
  ·obtain⟨x,r,rfl⟩:∃x r,L=x :: r:=by
    cases L with
    | nil=>have:=hM.o;simp at this;omega
    | cons x r=>exact⟨x,r,rfl⟩
   obtain⟨y,L2,hy,FR,hlen,Q8⟩:=hO.o.step;have RF:q<P.length:=(List.getElem?_eq_some_iff.1 hy).1;have XT:q<n:=by rw [fm.o];exact RF
   obtain⟨a,rfl,d0,d1,d2,d3⟩:=Ua.o.at_ q y hy;have T9:=O FR;have v7:=O (Q8.trans hT.o);have hbl:=mo L2;have hmr:m=r.length+1:=by have:=hM.o;simpa using this
   have Fw:(m:Int)+nh y=(L2.length:Int)+1:=by omega
   have oI:L2.length+1<=n:=by have:=v7.o;omega
   have hrl:r.length<=4000:=by have h1:=hT.o;have h2:=mo (x :: r);simp only [List.length_cons] at h2;omega
   have IM:m<=4001:=by omega
   obtain⟨m2,sN⟩:∃m2,m2=L2.length:=⟨_,rfl⟩
   have M7:=O sN;rw [<-sN] at Fw oI;clear hO hT hy FR Q8 hlen hbl hmr sN d2 d3 hrl hM;unfold nh at Fw;have hqi:(q:Int)<(n:Int):=by omega
   have f0:decide (0<m)=true:=decide_eq_true hl;by_cases g1:y.op=45\/y.op=47
   ·rw [if_pos g1] at Fw;rcases g1 with g1|g1
    all_goals
     rw [g1] at d0;clear g1;go_wp2_with fail;go_roundw
     case rel=>exact⟨q+1,m2,L2,by go_num,by go_num,M7,T9,v7,trivial⟩
     case measure=>simp [intOf];omega
   ·rw [if_neg g1] at Fw;have f1:(y.op==45)=false:=beq_eq_false_iff_ne.2 (by omega);have f2:(y.op==47)=false:=beq_eq_false_iff_ne.2 (by omega);by_cases g2:y.op=46
    ·rw [if_pos g2] at Fw;rw [g2] at d0;generalize y.n=yn at *;have hyn:yn=(m2:Int)+1-m:=by omega
     clear g1 g2 f1 f2;go_wp2_with fail;go_roundw
     case rel=>exact⟨q+1,m2,L2,by go_num,by go_num,M7,T9,v7,trivial⟩
     case measure=>simp [intOf];omega
    ·rw [if_neg g2] at Fw;have f3:(y.op==46)=false:=beq_eq_false_iff_ne.2 g2;generalize y.op=yo at *;clear g1 g2;go_wp2_with fail;go_roundw
     case rel=>exact⟨q+1,m2,L2,by go_num,by go_num,M7,T9,v7,trivial⟩
     case measure=>simp [intOf];omega
  ·have hL:L = .nil:=by
    have:=hM.o
    cases L with
    | nil=>rfl
    | cons x r=>simp only [List.length_cons] at this;omega
   have HR:=O (show q=T by have:=hT.o;rw [hL] at this;simpa [cw] using this);have Wn:m=0:=by omega
   subst Wn;clear hL hl;go_wp2_with fail;go_ret;exact⟨by rw [<-HR.o];rfl,Below.refl _ _⟩
end Go.Proofs.YthifljpkgfpkiaaGreatDoor
