/-
  tree.variable, tree.shaped; the reference's Fields: may a node of an expression be so? ent.Check's function, slices.IndexFunc and slices.ContainsFunc with it: ..
-/
import Derived.Test.YtkfgabdnppmglaaGreatDoorQ26
set_option maxRecDepth 100000
set_option maxHeartbeats 8000000
namespace Go.Proofs.YtkfgabdnppmglaaGreatDoor
open Go.RowKit Go.Wk Go.Sort
theorem zj3{s:ByteArray}(h:0<s.size):s.data.toList.head?=some s[0]:=by
 have h':0<s.data.toList.length:=by rw [Array.length_toList];exact h
 rw [List.head?_eq_getElem?,List.getElem?_eq_getElem h'];rfl
theorem zpd{s:ByteArray}(h:0<s.size)(hq:(s[0].toNat:Int)=63):zck s=decide (zg (s.extract 1 s.size)=0):=by
 unfold zck;rw [zj3 h,if_pos];have:s[0].toNat=63:=by omega
 exact congrArg some (UInt8.toNat_inj.1 this)
theorem zpc{s:ByteArray}(h:0<s.size)(hq:¬(s[0].toNat:Int)=63):zck s=(decide (zg s=0)&& !zL s):=by
 unfold zck;rw [zj3 h,if_neg];intro e;injection e with e;exact hq (by rw [e];rfl)
theorem zoT:zck ⟨#[]⟩=false:=by decide
theorem zm9(s:ByteArray):(s.extract 1 s.size).size≤s.size:=by simp
theorem zoQ{s:ByteArray}(h:0<s.size):s.toList.isEmpty=false∧¬s.toList = []:=⟨by rw [List.isEmpty_eq_false_iff];exact fun q=>(zbq h).1 q,fun q=>(zbq h).1 q⟩
theorem zbx{w:World}{b k:Nat}{arr:Array Value}{t:TypeId}{fz:Nat × Nat}{u:Value}(h:w.heap[b]?=some (.cells arr t fz))(hu:arr[k]?=some u):w.cell? ⟨b,k,none⟩=some u:=by
 simp [World.cell?,h,hu]
structure Vnx(w:World)(b:Nat)(x:Nd):Prop where
 c0:w.cell? ⟨b,0,none⟩=some (.int .i64 x.op)
 c1:w.cell? ⟨b,1,none⟩=some (.int .i64 x.n)
 c2:w.cell? ⟨b,2,none⟩=some (.string x.s)
 c3:w.cell? ⟨b,3,none⟩=some (.string x.t)
theorem Vnx.keep{w w':World}{b:Nat}{x:Nd}(h:Vnx w b x)(hb:Below w.heap.size w w'):Vnx w' b x:=⟨za hb h.c0,za hb h.c1,za hb h.c2,za hb h.c3⟩
theorem zaQ(w:World)(x:Nd)(t:TypeId):Vnx (w.alloc (.cells #[.int .i64 x.op,.int .i64 x.n,.string x.s,.string x.t] t)) w.heap.size x :=
 ⟨zbx (heap_alloc_new w _) rfl,zbx (heap_alloc_new w _) rfl,zbx (heap_alloc_new w _) rfl,zbx (heap_alloc_new w _) rfl⟩
theorem zi4(s:ByteArray)(w:World)(hs:s.size≤maxLen):Calls Tryz.prog 117 #[.string s] w fun e w'=>e = .returned (.bool (zck s))∧Below w.heap.size w w':=by
 have PR:=hi9 (fun w=>zi7 s w);have PN:=hi9 (fun w=>zbl s w hs);have PS:=hi9 (fun w=>zbl (s.extract 1 s.size) w (Nat.le_trans (zm9 s) hs));unfold maxLen at hs;by_cases h:0<s.size
 ·obtain⟨he,he2⟩:=zoQ h;by_cases hq:(s[0].toNat:Int)=63
  ·have HV:=hi9 (zpd h hq);have f1:((s[0].toNat:Int)==63)=true:=beq_iff_eq.2 hq;clear hq;by_cases h1:zg (s.extract 1 s.size)=0
   ·have HR:=hi9 (show zck s=true by rw [HV.out,h1];rfl);rw [h1,zo] at PS;clear h1;go_enter Tryz.func117,Tryz.ntmps117;go_wp2_with fail;refine(PS.out _).mono ?_;rintro e w1 ⟨rfl,hb⟩;go_wp2_with fail;go_ret;exact⟨by rw [HR.out];rfl,hb⟩
   ·have HR:=hi9 (show zck s=false by rw [HV.out,decide_eq_false h1]);rw [zC h1] at PS;clear HV h1;generalize zg (s.extract 1 s.size)=f at *;go_enter Tryz.func117,Tryz.ntmps117;go_wp2_with fail;refine(PS.out _).mono ?_;rintro e w1 ⟨rfl,hb⟩;go_wp2_with fail;go_ret;exact⟨by rw [HR.out];rfl,hb⟩
  ·have HV:=hi9 (zpc h hq);have f1:((s[0].toNat:Int)==63)=false:=beq_eq_false_iff_ne.2 hq;clear hq;by_cases h1:zg s=0
   ·have HR:=hi9 (show zck s = !zL s by rw [HV.out,h1];rfl);rw [h1,zo] at PN;clear h1;generalize zL s=r at *;go_enter Tryz.func117,Tryz.ntmps117;go_wp2_with fail;refine(PN.out _).mono ?_;rintro e w1 ⟨rfl,hb⟩;go_wp2_with fail;refine(PR.out _).mono ?_;rintro e w2 ⟨rfl,rfl⟩;go_wp2_with fail;go_ret;exact⟨by rw [HR.out];rfl,hb⟩
   ·have HR:=hi9 (show zck s=false by rw [HV.out,decide_eq_false h1];rfl);rw [zC h1] at PN;clear HV h1;generalize zg s=f at *;go_enter Tryz.func117,Tryz.ntmps117;go_wp2_with fail;refine(PN.out _).mono ?_;rintro e w1 ⟨rfl,hb⟩;go_wp2_with fail;go_ret;exact⟨by rw [HR.out];rfl,hb⟩
 ·have e:s=⟨#[]⟩:=zaq (List.eq_nil_of_length_eq_zero (by rw [Array.length_toList];show s.size=0;omega));subst e;have HR:=hi9 zoT;rw [show zg ⟨#[]⟩=1 by decide,zC (by decide)] at PN;clear h;go_enter Tryz.func117,Tryz.ntmps117;go_wp2_with fail;refine(PN.out _).mono ?_;rintro e w1 ⟨rfl,hb⟩;go_wp2_with fail;go_ret;exact⟨by rw [HR.out];rfl,hb⟩
theorem zdB(w:World)(x:Nd)(hx:zcw x):Ns (w.alloc (.cells #[.int .i64 x.op,.int .i64 x.n,.string x.s,.string x.t] 53)) (some ⟨w.heap.size,0,none⟩) 1 1 [x] :=
 ⟨rfl,Nat.le_refl _,by unfold maxLen;omega,ztL w [x] _,fun y hy=>by
  simp only [List.mem_cons,List.not_mem_nil,or_false] at hy;subst hy;exact hx⟩
theorem zm4(x:Nd)(h:1≤x.op∧x.op≤4):zc [x]=if zB x=true then 0 else 1:=by
 unfold zc;rw [if_neg (by simp)];simp only [List.length_singleton];by_cases hs:zB x=true
 ·rw [if_pos hs,if_pos];have h5:x.op≠5:=by omega
  have h6:x.op≠6:=by omega
  have h7:x.op≠7:=by omega
  simp [zn,hs,h5,h6,h7]
 ·rw [if_neg hs,if_neg];simp [zn,hs]
theorem zmH(o n:Int)(s t:ByteArray)(w:World)(ho:o=1∨o=2∨o=3∨o=4)(hx:zcw ⟨o,n,s,t⟩):
 Calls Tryz.prog 73 #[.agg #[.int .i64 o,.int .i64 n,.string s,.string t]] w fun e w'=>e = .returned (.bool (zB ⟨o,n,s,t⟩))∧Below w.heap.size w w':=by
 have b0:=zb w (.cells #[.int .i64 o,.int .i64 n,.string s,.string t] 53);have N1:=zdB (w.alloc (.cells #[.int .i64 o,.int .i64 n,.string s,.string t] 53)) ⟨o,n,s,t⟩ hx;have B1:=hi9 (b0.trans ((zb (w.alloc (.cells #[.int .i64 o,.int .i64 n,.string s,.string t] 53)) (.cells #[.int .i64 o,.int .i64 n,.string s,.string t] 53)).mono b0.size));have hz:(w.alloc (.cells #[.int .i64 o,.int .i64 n,.string s,.string t] 53)).heap.size=w.heap.size+1:=by simp
 rw [hz] at N1;have C:=hi9 (zU N1);rw [zm4 ⟨o,n,s,t⟩ (by dsimp only;omega)] at C;dsimp only at C;clear b0 N1 hz hx;generalize zB ⟨o,n,s,t⟩=r at *;cases r
 ·rw [if_neg (by decide),zC (by decide)] at C;rcases ho with rfl|rfl|rfl|rfl
  all_goals
   go_enter Tryz.func73,Tryz.ntmps73;go_wp2_with fail;refine C.out.mono ?_;rintro e w1 ⟨rfl,b1⟩;have B2:=hi9 (B1.out.trans (b1.mono B1.out.size));clear b1 C;go_wp2_with fail;go_ret;exact⟨rfl,B2.out⟩
 ·rw [if_pos rfl,zo] at C;rcases ho with rfl|rfl|rfl|rfl
  all_goals
   go_enter Tryz.func73,Tryz.ntmps73;go_wp2_with fail;refine C.out.mono ?_;rintro e w1 ⟨rfl,b1⟩;have B2:=hi9 (B1.out.trans (b1.mono B1.out.size));clear b1 C;go_wp2_with fail;go_ret;exact⟨rfl,B2.out⟩
theorem zk1(o n:Int)(s t:ByteArray)(ho:o=5∨o=6)(w:World):
 Calls Tryz.prog 73 #[.agg #[.int .i64 o,.int .i64 n,.string s,.string t]] w fun e w'=>e = .returned (.bool (decide (0≤n)&& noB s && noB t))∧Below w.heap.size w w':=by
 by_cases h0:0≤n
 ·rcases ho with rfl|rfl <;> rcases zI s with rfl|⟨s1,s2,s3⟩<;> rcases zI t with rfl|⟨t1,t2,t3⟩
  all_goals
   go_enter Tryz.func73,Tryz.ntmps73;go_wp2;go_ret;exact⟨zq (by simp [*,jD]),zb _ _⟩
 ·rcases ho with rfl|rfl <;> rcases zI s with rfl|⟨s1,s2,s3⟩<;> rcases zI t with rfl|⟨t1,t2,t3⟩
  all_goals
   go_enter Tryz.func73,Tryz.ntmps73;go_wp2;go_ret;exact⟨zq (by first|rfl|(rw [decide_eq_false (show¬0≤n by omega)];rfl)),zb _ _⟩
theorem zew(o n:Int)(s t:ByteArray)(w:World)(ho:o=7∨o=21∨o=22∨o=24)(hs:s.size≤maxLen):
 Calls Tryz.prog 73 #[.agg #[.int .i64 o,.int .i64 n,.string s,.string t]] w fun e w'=>e = .returned (.bool (decide (n=0)&& noB t && decide (zg s=0)))∧Below w.heap.size w w':=by
 have P:=hi9 (fun w=>zbl s w hs);by_cases h0:n=0
 ·subst h0;rcases zI t with rfl|⟨t1,t2,t3⟩
  ·by_cases h1:zg s=0
   ·have HR:=hi9 (show(decide ((0:Int)=0)&& noB ⟨#[]⟩&& decide (zg s=0))=true by rw [h1];rfl);rw [h1,zo] at P;clear h1;rcases ho with rfl|rfl|rfl|rfl
    all_goals
     go_enter Tryz.func73,Tryz.ntmps73;go_wp2_with fail;refine(P.out _).mono ?_;rintro e w1 ⟨rfl,hb⟩;go_wp2_with fail;go_ret;exact⟨by rw [HR.out];rfl,zy hb⟩
   ·have HR:=hi9 (show(decide ((0:Int)=0)&& noB ⟨#[]⟩&& decide (zg s=0))=false by rw [decide_eq_false h1];rfl);rw [zC h1] at P;clear h1;generalize zg s=f at *;rcases ho with rfl|rfl|rfl|rfl
    all_goals
     go_enter Tryz.func73,Tryz.ntmps73;go_wp2_with fail;refine(P.out _).mono ?_;rintro e w1 ⟨rfl,hb⟩;go_wp2_with fail;go_ret;exact⟨by rw [HR.out];rfl,zy hb⟩
  ·rcases ho with rfl|rfl|rfl|rfl
   all_goals
    go_enter Tryz.func73,Tryz.ntmps73;go_wp2_with fail;go_ret;exact⟨zq (by simp [t3]),zb _ _⟩
 ·have e0:(n != 0)=true:=by rw [bne_iff_ne];exact h0
  have e1:(n==0)=false:=beq_eq_false_iff_ne.2 h0;rcases zI t with rfl|⟨t1,t2,t3⟩<;> rcases ho with rfl|rfl|rfl|rfl
  all_goals
   go_enter Tryz.func73,Tryz.ntmps73;go_wp2_with fail;go_ret;exact⟨zq (by simp [h0]),zb _ _⟩
theorem zky(o n:Int)(s t:ByteArray)(w:World)(ho:o=23)(hs:s.size≤maxLen):
 Calls Tryz.prog 73 #[.agg #[.int .i64 o,.int .i64 n,.string s,.string t]] w fun e w'=>e = .returned (.bool (decide (n=0)&& noB t && decide (zr s=0)))∧Below w.heap.size w w':=by
 have P:=hi9 (fun w=>zbS s w hs);by_cases h0:n=0
 ·subst h0;rcases zI t with rfl|⟨t1,t2,t3⟩
  ·by_cases h1:zr s=0
   ·have HR:=hi9 (show(decide ((0:Int)=0)&& noB ⟨#[]⟩&& decide (zr s=0))=true by rw [h1];rfl);rw [h1,zo] at P;clear h1;rcases ho with rfl
    all_goals
     go_enter Tryz.func73,Tryz.ntmps73;go_wp2_with fail;refine(P.out _).mono ?_;rintro e w1 ⟨rfl,hb⟩;go_wp2_with fail;go_ret;exact⟨by rw [HR.out];rfl,zy hb⟩
   ·have HR:=hi9 (show(decide ((0:Int)=0)&& noB ⟨#[]⟩&& decide (zr s=0))=false by rw [decide_eq_false h1];rfl);rw [zC h1] at P;clear h1;generalize zr s=f at *;rcases ho with rfl
    all_goals
     go_enter Tryz.func73,Tryz.ntmps73;go_wp2_with fail;refine(P.out _).mono ?_;rintro e w1 ⟨rfl,hb⟩;go_wp2_with fail;go_ret;exact⟨by rw [HR.out];rfl,zy hb⟩
  ·rcases ho with rfl
   all_goals
    go_enter Tryz.func73,Tryz.ntmps73;go_wp2_with fail;go_ret;exact⟨zq (by simp [t3]),zb _ _⟩
 ·have e0:(n != 0)=true:=by rw [bne_iff_ne];exact h0
  have e1:(n==0)=false:=beq_eq_false_iff_ne.2 h0;rcases zI t with rfl|⟨t1,t2,t3⟩<;> rcases ho with rfl
  all_goals
   go_enter Tryz.func73,Tryz.ntmps73;go_wp2_with fail;go_ret;exact⟨zq (by simp [h0]),zb _ _⟩
theorem zl0(n:Int)(s t:ByteArray)(w:World)(hs:s.size≤maxLen):
 Calls Tryz.prog 73 #[.agg #[.int .i64 8,.int .i64 n,.string s,.string t]] w fun e w'=>e = .returned (.bool (decide (n=0)&& noB t && zck s))∧Below w.heap.size w w':=by
 have P:=hi9 (fun w=>zi4 s w hs);by_cases h0:n=0
 ·subst h0;rcases zI t with rfl|⟨t1,t2,t3⟩
  ·go_enter Tryz.func73,Tryz.ntmps73;go_wp2_with fail;refine(P.out _).mono ?_;rintro e w1 ⟨rfl,hb⟩;go_wp2_with fail;go_ret;exact⟨zq (by simp [jD]),zy hb⟩
  ·go_enter Tryz.func73,Tryz.ntmps73;go_wp2_with fail;go_ret;exact⟨zq (by simp [t3]),zb _ _⟩
 ·have e0:(n != 0)=true:=by rw [bne_iff_ne];exact h0
  have e1:(n==0)=false:=beq_eq_false_iff_ne.2 h0;rcases zI t with rfl|⟨t1,t2,t3⟩
  all_goals
   go_enter Tryz.func73,Tryz.ntmps73;go_wp2_with fail;go_ret;exact⟨zq (by simp [h0]),zb _ _⟩
theorem znP{o:Int}(ho:o=9∨o=10∨o=11∨o=12∨o=13∨o=14∨o=15∨o=16∨o=17∨o=18∨o=19∨o=20∨o=25∨o=26∨o=27)(n:Int)(s t:ByteArray):0<zH ⟨o,n,s,t⟩:=by
 rcases ho with rfl|rfl|rfl|rfl|rfl|rfl|rfl|rfl|rfl|rfl|rfl|rfl|rfl|rfl|rfl <;> first|exact(show(0:Int)<1 by decide)|exact(show(0:Int)<2 by decide)|exact(show(0:Int)<3 by decide)
theorem zri{o:Int}(ho:o=9∨o=10∨o=11∨o=12∨o=13∨o=14∨o=15∨o=16∨o=17∨o=18∨o=19∨o=20∨o=25∨o=26∨o=27):(o==1)=false∧(o==2)=false∧(o==3)=false∧(o==4)=false∧(o==5)=false∧(o==6)=false∧(o==7)=false∧(o==8)=false∧(o==21)=false∧(o==22)=false∧(o==23)=false∧(o==24)=false:=by
 refine⟨?_,?_,?_,?_,?_,?_,?_,?_,?_,?_,?_,?_⟩<;>(rw [beq_eq_false_iff_ne];omega)
theorem zku(o n:Int)(s t:ByteArray)(w:World)(ho:o=9∨o=10∨o=11∨o=12∨o=13∨o=14∨o=15∨o=16∨o=17∨o=18∨o=19∨o=20∨o=25∨o=26∨o=27):
 Calls Tryz.prog 73 #[.agg #[.int .i64 o,.int .i64 n,.string s,.string t]] w fun e w'=>e = .returned (.bool (decide (n=0)&& noB t && noB s))∧Below w.heap.size w w':=by
 have P:=hi9 (fun w=>zda ⟨o,n,s,t⟩ w);unfold ndV at P;dsimp only at P;have hp:=znP ho n s t;obtain⟨g1,g2,g3,g4,g5,g6,g7,g8,g21,g22,g23,g24⟩:=zri ho;generalize zH ⟨o,n,s,t⟩=m at *;have f1:decide (0<m)=true:=decide_eq_true hp;clear ho;by_cases h0:n=0
 ·subst h0;obtain⟨s',hs'⟩:∃s',s'=s:=⟨_,rfl⟩
  obtain⟨t',ht'⟩:∃t',t'=t:=⟨_,rfl⟩
  have V0:=zaQ w ⟨o,0,s,t⟩ 53;dsimp only at V0;clear hs' ht' s' t';rcases zI s with rfl|⟨s1,s2,s3⟩<;> rcases zI t with rfl|⟨t1,t2,t3⟩
  all_goals
   go_enter Tryz.func73,Tryz.ntmps73;go_wp2_with fail;refine(P.out _).mono ?_;rintro e w1 ⟨rfl,hb⟩;have B1:=hi9 (zy hb);have hw:w.heap.size<w1.heap.size:=Nat.lt_of_lt_of_le (by simp) hb.size;obtain⟨c0,c1,c2,c3⟩:=V0.keep hb;dsimp only at c0 c1 c2 c3;clear hb;go_wp2_with fail;go_ret;exact⟨zq (by simp [*,jD]),B1.out⟩
 ·have e0:(n != 0)=true:=by rw [bne_iff_ne];exact h0
  have e1:(n==0)=false:=beq_eq_false_iff_ne.2 h0;go_enter Tryz.func73,Tryz.ntmps73;go_wp2_with fail;refine(P.out _).mono ?_;rintro e w1 ⟨rfl,hb⟩;have B1:=hi9 (zy hb);have hw:w.heap.size<w1.heap.size:=Nat.lt_of_lt_of_le (by simp) hb.size;obtain⟨c0,c1,c2,c3⟩:=(zaQ w ⟨o,n,s,t⟩ 53).keep hb;dsimp only at c0 c1 c2 c3;clear hb;go_wp2_with fail;go_ret;exact⟨zq (by simp [h0]),B1.out⟩
theorem zmi(o n:Int)(s t:ByteArray)(w:World)(ho:o≤0∨28≤o):
 Calls Tryz.prog 73 #[.agg #[.int .i64 o,.int .i64 n,.string s,.string t]] w fun e w'=>e = .returned (.bool false)∧Below w.heap.size w w':=by
 have P:=hi9 (fun w=>zda ⟨o,n,s,t⟩ w);unfold ndV at P;dsimp only at P;rw [zcv ho n s t] at P;obtain⟨g1,g2,g3,g4,g5,g6,g7,g8,g9,g10,g11,g12,g13,g14,g15,g16,g17,g18,g19,g20,g21,g22,g23,g24,g25,g26,g27⟩:=zog ho;clear ho;go_enter Tryz.func73,Tryz.ntmps73;go_wp2_with fail;refine(P.out _).mono ?_;rintro e w1 ⟨rfl,hb⟩;go_wp2_with fail;go_ret;exact⟨rfl,zy hb⟩
theorem zoL(s:ByteArray):noB s=decide (s=emp):=by
 rcases h:noB s with _|_
 ·symm;rw [decide_eq_false_iff_not];rintro rfl;cases h
 ·symm;rw [decide_eq_true_iff];exact zcR h
theorem zcA{x:Nd}(h:1≤x.op∧x.op≤7):jz x=zB x:=by unfold jz;rw [if_pos h]
theorem zgL{x:Nd}(h:8≤x.op∧x.op≤27):jz x=(decide (x.n=0)&& noB x.t &&(if x.op=8 then zck x.s else if x.op=21∨x.op=22∨x.op=24 then decide (zg x.s=0) else if x.op=23 then decide (zr x.s=0) else noB x.s)):=by
 have hp:¬zH x<0:=by
  unfold zH;rw [if_neg (by omega)];split
  ·omega
  ·split
   ·omega
   ·split
    ·omega
    ·rw [if_pos (by omega)];omega
 unfold jz;rw [if_neg (by omega),zoL,zoL];by_cases h0:x.n=0
 ·by_cases ht:x.t=emp
  ·rw [if_neg (by intro q;rcases q with q|q|q <;> contradiction),decide_eq_true h0,decide_eq_true ht];rfl
  ·rw [if_pos (.inr (.inr ht)),decide_eq_false ht,Bool.and_false,Bool.false_and]
 ·rw [if_pos (.inr (.inl h0)),decide_eq_false h0,Bool.false_and,Bool.false_and]
theorem zhn{x:Nd}(h:x.op≤0∨28≤x.op):jz x=false:=by
 unfold jz;rw [if_neg (by omega),if_pos];left;obtain⟨o,n,s,t⟩:=x;rw [zcv h];decide
theorem zmy(x:Nd)(w:World)(hx:zcw x):
 Calls Tryz.prog 73 #[ndV x] w fun e w'=>e = .returned (.bool (jz x))∧Below w.heap.size w w':=by
 obtain⟨o,n,s,t⟩:=x;have hs:s.size≤maxLen:=hx.s;unfold ndV;dsimp only;by_cases h1:1≤o∧o≤4
 ·rw [zcA (by dsimp only;omega)];exact zmH o n s t w (by omega) hx
 by_cases h5:o=5∨o=6
 ·rw [zcA (by dsimp only;omega)];have:=zk1 o n s t h5 w;unfold zB;dsimp only;rwa [if_neg (by omega),if_neg (by omega),if_neg (by omega),if_neg (by omega),if_pos h5]
 by_cases h7:o=7
 ·rw [zcA (by dsimp only;omega)];have:=zew o n s t w (by omega) hs;unfold zB;dsimp only;rwa [if_neg (by omega),if_neg (by omega),if_neg (by omega),if_neg (by omega),if_neg (by omega),if_pos h7]
 by_cases h8:8≤o∧o≤27
 ·rw [zgL h8];dsimp only;by_cases h8':o=8
  ·subst h8';rw [if_pos rfl];exact zl0 n s t w hs
  rw [if_neg h8'];by_cases h21:o=21∨o=22∨o=24
  ·rw [if_pos h21];exact zew o n s t w (by omega) hs
  rw [if_neg h21];by_cases h23:o=23
  ·rw [if_pos h23];exact zky o n s t w h23 hs
  rw [if_neg h23];exact zku o n s t w (by omega)
 ·rw [zhn (by dsimp only;omega)];exact zmi o n s t w (by omega)
theorem zdu{o:Int}(n:Int)(s t:ByteArray)(h:8≤o∧o≤27):¬zH ⟨o,n,s,t⟩<0:=by
 unfold zH;dsimp only;rw [if_neg (by omega)];split
 ·omega
 ·split
  ·omega
  ·split
   ·omega
   ·rw [if_pos (by omega)];omega
theorem zlJ(o n:Int)(s t:ByteArray)(w:World)(ho:1≤o∧o≤7)(hx:zcw ⟨o,n,s,t⟩):
 Calls Tryz.prog 53 #[.agg #[.int .i64 o,.int .i64 n,.string s,.string t]] w fun e w'=>e = .returned (.bool (zB ⟨o,n,s,t⟩))∧Below w.heap.size w w':=by
 have P:=hi9 (fun w=>zaZ ⟨o,n,s,t⟩ w hx.s hx.t);unfold ndV at P;dsimp only at P;have k1:decide (o≤7)=true:=decide_eq_true (by omega);have k2:decide (1≤o)=true:=decide_eq_true (by omega);generalize zB ⟨o,n,s,t⟩=r at *;clear ho hx;go_enter Tryz.func53,Tryz.ntmps53;go_wp2_with fail;refine(P.out _).mono ?_;rintro e w1 ⟨rfl,hb⟩;go_wp2_with fail;go_ret;exact⟨rfl,zy hb⟩
theorem zlB(o n:Int)(s t:ByteArray)(w:World)(ho:o≤0∨28≤o):
 Calls Tryz.prog 53 #[.agg #[.int .i64 o,.int .i64 n,.string s,.string t]] w fun e w'=>e = .returned (.bool false)∧Below w.heap.size w w':=by
 have P:=hi9 (fun w=>zbm ⟨o,n,s,t⟩ w);unfold ndV at P;dsimp only at P;rw [zcv ho n s t] at P;rcases ho with ho|ho
 ·have k2:decide (1≤o)=false:=decide_eq_false (by omega);go_enter Tryz.func53,Tryz.ntmps53;go_wp2_with fail;refine(P.out _).mono ?_;rintro e w1 ⟨rfl,hb⟩;go_wp2_with fail;go_ret;exact⟨rfl,zy hb⟩
 ·have k2:decide (1≤o)=true:=decide_eq_true (by omega);have k1:decide (o≤7)=false:=decide_eq_false (by omega);go_enter Tryz.func53,Tryz.ntmps53;go_wp2_with fail;refine(P.out _).mono ?_;rintro e w1 ⟨rfl,hb⟩;go_wp2_with fail;go_ret;exact⟨rfl,zy hb⟩
theorem zjg(o n:Int)(s t:ByteArray)(w:World)(ho:o=21∨o=22∨o=24)(hs:s.size≤maxLen):
 Calls Tryz.prog 53 #[.agg #[.int .i64 o,.int .i64 n,.string s,.string t]] w fun e w'=>e = .returned (.bool (decide (n=0)&& noB t && decide (zg s=0)))∧Below w.heap.size w w':=by
 have P:=hi9 (fun w=>zbm ⟨o,n,s,t⟩ w);unfold ndV at P;dsimp only at P;have hp:¬zH ⟨o,n,s,t⟩<0:=zdu n s t (by omega);have k1:decide (o≤7)=false:=decide_eq_false (by omega);have k2:decide (1≤o)=true:=decide_eq_true (by omega);generalize zH ⟨o,n,s,t⟩=m at *;have f1:decide (m<0)=false:=decide_eq_false hp;have C:=hi9 (fun w=>zaX s w hs);have g8:(o==8)=false:=by rw [beq_eq_false_iff_ne];omega
 have hor:((o==21)=true)∨((o==21)=false∧(o==22)=true)∨((o==21)=false∧(o==22)=false∧(o==24)=true):=by simp only [beq_iff_eq,beq_eq_false_iff_ne];omega
 clear ho;by_cases h0:n=0
 ·subst h0;rcases zI t with rfl|⟨t1,t2,t3⟩
  ·rcases hor with q1|⟨q1,q2⟩|⟨q1,q2,q3⟩
   all_goals
    go_enter Tryz.func53,Tryz.ntmps53;go_wp2_with fail;refine(P.out _).mono ?_;rintro e w1 ⟨rfl,hb⟩;have B1:=hi9 (zy hb);have hw:w.heap.size<w1.heap.size:=Nat.lt_of_lt_of_le (by simp) hb.size;have V1:=(zaQ w ⟨o,0,s,⟨#[]⟩⟩ 53).keep hb;obtain⟨c0,c1,c2,c3⟩:=V1;dsimp only at c0 c1 c2 c3;clear hb;go_wp2_with fail;refine(C.out _).mono ?_;rintro e w2 ⟨rfl,rfl⟩;have B2:=B1;go_wp2_with fail;go_ret;exact⟨zq (by simp [jD];rfl),B2.out⟩
  ·have V0:=zaQ w ⟨o,0,s,t⟩ 53;dsimp only at V0;go_enter Tryz.func53,Tryz.ntmps53;go_wp2_with fail;refine(P.out _).mono ?_;rintro e w1 ⟨rfl,hb⟩;have B1:=hi9 (zy hb);have hw:w.heap.size<w1.heap.size:=Nat.lt_of_lt_of_le (by simp) hb.size;obtain⟨c0,c1,c2,c3⟩:=V0.keep hb;dsimp only at c0 c1 c2 c3;clear hb;go_wp2_with fail;go_ret;exact⟨zq (by simp [t3]),B1.out⟩
 ·have e0:(n != 0)=true:=by rw [bne_iff_ne];exact h0
  have e1:(n==0)=false:=beq_eq_false_iff_ne.2 h0;have V0:=zaQ w ⟨o,n,s,t⟩ 53;dsimp only at V0;go_enter Tryz.func53,Tryz.ntmps53;go_wp2_with fail;refine(P.out _).mono ?_;rintro e w1 ⟨rfl,hb⟩;have B1:=hi9 (zy hb);have hw:w.heap.size<w1.heap.size:=Nat.lt_of_lt_of_le (by simp) hb.size;obtain⟨c0,c1,c2,c3⟩:=V0.keep hb;dsimp only at c0 c1 c2 c3;clear hb;go_wp2_with fail;go_ret;exact⟨zq (by simp [h0]),B1.out⟩
theorem zkK(o n:Int)(s t:ByteArray)(w:World)(ho:o=23)(hs:s.size≤maxLen):
 Calls Tryz.prog 53 #[.agg #[.int .i64 o,.int .i64 n,.string s,.string t]] w fun e w'=>e = .returned (.bool (decide (n=0)&& noB t && decide (zr s=0)))∧Below w.heap.size w w':=by
 have P:=hi9 (fun w=>zbm ⟨o,n,s,t⟩ w);unfold ndV at P;dsimp only at P;have hp:¬zH ⟨o,n,s,t⟩<0:=zdu n s t (by omega);have k1:decide (o≤7)=false:=decide_eq_false (by omega);have k2:decide (1≤o)=true:=decide_eq_true (by omega);generalize zH ⟨o,n,s,t⟩=m at *;have f1:decide (m<0)=false:=decide_eq_false hp;have C:=hi9 (fun w=>zcO s w hs);have g8:(o==8)=false:=by rw [beq_eq_false_iff_ne];omega
 have g21:(o==21)=false:=by rw [beq_eq_false_iff_ne];omega
 have g22:(o==22)=false:=by rw [beq_eq_false_iff_ne];omega
 have g24:(o==24)=false:=by rw [beq_eq_false_iff_ne];omega
 have g23:(o==23)=true:=by rw [beq_iff_eq];omega
 clear ho;by_cases h0:n=0
 ·subst h0;rcases zI t with rfl|⟨t1,t2,t3⟩
  ·go_enter Tryz.func53,Tryz.ntmps53;go_wp2_with fail;refine(P.out _).mono ?_;rintro e w1 ⟨rfl,hb⟩;have B1:=hi9 (zy hb);have hw:w.heap.size<w1.heap.size:=Nat.lt_of_lt_of_le (by simp) hb.size;have V1:=(zaQ w ⟨o,0,s,⟨#[]⟩⟩ 53).keep hb;obtain⟨c0,c1,c2,c3⟩:=V1;dsimp only at c0 c1 c2 c3;clear hb;go_wp2_with fail;refine(C.out _).mono ?_;rintro e w2 ⟨rfl,b2⟩;have B2:=hi9 (B1.out.trans (b2.mono B1.out.size));go_wp2_with fail;go_ret;exact⟨zq (by simp [jD];rfl),B2.out⟩
  ·have V0:=zaQ w ⟨o,0,s,t⟩ 53;dsimp only at V0;go_enter Tryz.func53,Tryz.ntmps53;go_wp2_with fail;refine(P.out _).mono ?_;rintro e w1 ⟨rfl,hb⟩;have B1:=hi9 (zy hb);have hw:w.heap.size<w1.heap.size:=Nat.lt_of_lt_of_le (by simp) hb.size;obtain⟨c0,c1,c2,c3⟩:=V0.keep hb;dsimp only at c0 c1 c2 c3;clear hb;go_wp2_with fail;go_ret;exact⟨zq (by simp [t3]),B1.out⟩
 ·have e0:(n != 0)=true:=by rw [bne_iff_ne];exact h0
  have e1:(n==0)=false:=beq_eq_false_iff_ne.2 h0;have V0:=zaQ w ⟨o,n,s,t⟩ 53;dsimp only at V0;go_enter Tryz.func53,Tryz.ntmps53;go_wp2_with fail;refine(P.out _).mono ?_;rintro e w1 ⟨rfl,hb⟩;have B1:=hi9 (zy hb);have hw:w.heap.size<w1.heap.size:=Nat.lt_of_lt_of_le (by simp) hb.size;obtain⟨c0,c1,c2,c3⟩:=V0.keep hb;dsimp only at c0 c1 c2 c3;clear hb;go_wp2_with fail;go_ret;exact⟨zq (by simp [h0]),B1.out⟩
theorem zk0(o n:Int)(s t:ByteArray)(w:World)(ho:9≤o∧o≤20∨25≤o∧o≤27):
 Calls Tryz.prog 53 #[.agg #[.int .i64 o,.int .i64 n,.string s,.string t]] w fun e w'=>e = .returned (.bool (decide (n=0)&& noB t && noB s))∧Below w.heap.size w w':=by
 have P:=hi9 (fun w=>zbm ⟨o,n,s,t⟩ w);unfold ndV at P;dsimp only at P;have hp:¬zH ⟨o,n,s,t⟩<0:=zdu n s t (by omega);have k1:decide (o≤7)=false:=decide_eq_false (by omega);have k2:decide (1≤o)=true:=decide_eq_true (by omega);generalize zH ⟨o,n,s,t⟩=m at *;have f1:decide (m<0)=false:=decide_eq_false hp;have g8:(o==8)=false:=by rw [beq_eq_false_iff_ne];omega
 have g21:(o==21)=false:=by rw [beq_eq_false_iff_ne];omega
 have g22:(o==22)=false:=by rw [beq_eq_false_iff_ne];omega
 have g24:(o==24)=false:=by rw [beq_eq_false_iff_ne];omega
 have g23:(o==23)=false:=by rw [beq_eq_false_iff_ne];omega
 clear ho;by_cases h0:n=0
 ·subst h0;rcases zI t with rfl|⟨t1,t2,t3⟩
  ·have V0:=zaQ w ⟨o,0,s,⟨#[]⟩⟩ 53;dsimp only at V0;rcases zI s with rfl|⟨s1,s2,s3⟩
   all_goals
    go_enter Tryz.func53,Tryz.ntmps53;go_wp2_with fail;refine(P.out _).mono ?_;rintro e w1 ⟨rfl,hb⟩;have hw:w.heap.size<w1.heap.size:=Nat.lt_of_lt_of_le (by simp) hb.size;have B1:=hi9 (zy hb);obtain⟨c0,c1,c2,c3⟩:=V0.keep hb;dsimp only at c0 c1 c2 c3;clear hb;go_wp2_with fail;go_ret;exact⟨zq (by simp [*,jD]),B1.out⟩
  ·have V0:=zaQ w ⟨o,0,s,t⟩ 53;dsimp only at V0;go_enter Tryz.func53,Tryz.ntmps53;go_wp2_with fail;refine(P.out _).mono ?_;rintro e w1 ⟨rfl,hb⟩;have B1:=hi9 (zy hb);have hw:w.heap.size<w1.heap.size:=Nat.lt_of_lt_of_le (by simp) hb.size;obtain⟨c0,c1,c2,c3⟩:=V0.keep hb;dsimp only at c0 c1 c2 c3;clear hb;go_wp2_with fail;go_ret;exact⟨zq (by simp [t3]),B1.out⟩
 ·have e0:(n != 0)=true:=by rw [bne_iff_ne];exact h0
  have e1:(n==0)=false:=beq_eq_false_iff_ne.2 h0;have V0:=zaQ w ⟨o,n,s,t⟩ 53;dsimp only at V0;go_enter Tryz.func53,Tryz.ntmps53;go_wp2_with fail;refine(P.out _).mono ?_;rintro e w1 ⟨rfl,hb⟩;have B1:=hi9 (zy hb);have hw:w.heap.size<w1.heap.size:=Nat.lt_of_lt_of_le (by simp) hb.size;obtain⟨c0,c1,c2,c3⟩:=V0.keep hb;dsimp only at c0 c1 c2 c3;clear hb;go_wp2_with fail;go_ret;exact⟨zq (by simp [h0]),B1.out⟩
theorem zmR(o n:Int)(s t:ByteArray)(w:World)(ho:o=8)(hs:s.size≤maxLen):
 Calls Tryz.prog 53 #[.agg #[.int .i64 o,.int .i64 n,.string s,.string t]] w fun e w'=>e = .returned (.bool (decide (n=0)&& noB t && zck s))∧Below w.heap.size w w':=by
 have P:=hi9 (fun w=>zbm ⟨o,n,s,t⟩ w);unfold ndV at P;dsimp only at P;have hp:¬zH ⟨o,n,s,t⟩<0:=zdu n s t (by omega);have k1:decide (o≤7)=false:=decide_eq_false (by omega);have k2:decide (1≤o)=true:=decide_eq_true (by omega);generalize zH ⟨o,n,s,t⟩=m at *;have f1:decide (m<0)=false:=decide_eq_false hp;have C:=hi9 (fun w=>zaX s w hs);have C2:=hi9 (fun w=>zaX (s.extract 1 s.size) w (Nat.le_trans (zm9 s) hs));have C3:=hi9 (fun w=>zkJ s w);unfold maxLen at hs;have g8:(o==8)=true:=by rw [beq_iff_eq];omega
 clear ho;by_cases h0:n=0
 ·subst h0;rcases zI t with rfl|⟨t1,t2,t3⟩
  ·obtain hsz|hsz:=Nat.eq_zero_or_pos s.size
   ·have es:s=⟨#[]⟩:=zaq (List.eq_nil_of_length_eq_zero (by rw [Array.length_toList];exact hsz));subst es;have HR:=hi9 zoT;rw [show zg ⟨#[]⟩=1 by decide] at C;clear hsz;have V0:=zaQ w ⟨o,0,⟨#[]⟩,⟨#[]⟩⟩ 53;dsimp only at V0;go_enter Tryz.func53,Tryz.ntmps53;go_wp2_with fail;refine(P.out _).mono ?_;rintro e w1 ⟨rfl,hb⟩;have B1:=hi9 (zy hb);have hw:w.heap.size<w1.heap.size:=Nat.lt_of_lt_of_le (by simp) hb.size;obtain⟨c0,c1,c2,c3⟩:=V0.keep hb;dsimp only at c0 c1 c2 c3;clear hb;go_wp2_with fail;refine(C.out _).mono ?_;rintro e w2 ⟨rfl,rfl⟩;go_wp2_with fail;go_ret;exact⟨zq (by rw [HR.out];rfl),B1.out⟩
   ·obtain⟨he,he2⟩:=zoQ hsz;have V0:=zaQ w ⟨o,0,s,⟨#[]⟩⟩ 53;by_cases hq:(s[0].toNat:Int)=63
    ·have HV:=hi9 (zpd hsz hq);have f2:((s[0].toNat:Int)==63)=true:=beq_iff_eq.2 hq;clear hq;go_enter Tryz.func53,Tryz.ntmps53;go_wp2_with fail;refine(P.out _).mono ?_;rintro e w1 ⟨rfl,hb⟩;have B1:=hi9 (zy hb);have hw:w.heap.size<w1.heap.size:=Nat.lt_of_lt_of_le (by simp) hb.size;obtain⟨c0,c1,c2,c3⟩:=V0.keep hb;dsimp only at c0 c1 c2 c3;clear hb V0;go_wp2_with fail;refine(C2.out _).mono ?_;rintro e w2 ⟨rfl,rfl⟩;go_wp2_with fail;go_ret;exact⟨zq (by rw [HV.out];simp [jD];rfl),B1.out⟩
    ·have HV:=hi9 (zpc hsz hq);have f2:((s[0].toNat:Int)==63)=false:=beq_eq_false_iff_ne.2 hq;clear hq;by_cases h1:zg s=0
     ·rw [h1] at C HV;clear h1;go_enter Tryz.func53,Tryz.ntmps53;go_wp2_with fail;refine(P.out _).mono ?_;rintro e w1 ⟨rfl,hb⟩;have B1:=hi9 (zy hb);have hw:w.heap.size<w1.heap.size:=Nat.lt_of_lt_of_le (by simp) hb.size;obtain⟨c0,c1,c2,c3⟩:=V0.keep hb;dsimp only at c0 c1 c2 c3;clear hb V0;go_wp2_with fail;refine(C.out _).mono ?_;rintro e w2 ⟨rfl,rfl⟩;go_wp2_with fail;refine(C3.out _).mono ?_;rintro e w2 ⟨rfl,rfl⟩;go_wp2_with fail;go_ret;exact⟨zq (by rw [HV.out];simp [jD]),B1.out⟩
     ·have f3:(zg s==0)=false:=beq_eq_false_iff_ne.2 h1;have HV2:=hi9 (show zck s=false by rw [HV.out,decide_eq_false h1];rfl);clear h1 HV;generalize zg s=nf at *;go_enter Tryz.func53,Tryz.ntmps53;go_wp2_with fail;refine(P.out _).mono ?_;rintro e w1 ⟨rfl,hb⟩;have B1:=hi9 (zy hb);have hw:w.heap.size<w1.heap.size:=Nat.lt_of_lt_of_le (by simp) hb.size;obtain⟨c0,c1,c2,c3⟩:=V0.keep hb;dsimp only at c0 c1 c2 c3;clear hb V0;go_wp2_with fail;refine(C.out _).mono ?_;rintro e w2 ⟨rfl,rfl⟩;go_wp2_with fail;go_ret;exact⟨zq (by rw [HV2.out];simp),B1.out⟩
  ·have V0:=zaQ w ⟨o,0,s,t⟩ 53;dsimp only at V0;go_enter Tryz.func53,Tryz.ntmps53;go_wp2_with fail;refine(P.out _).mono ?_;rintro e w1 ⟨rfl,hb⟩;have B1:=hi9 (zy hb);have hw:w.heap.size<w1.heap.size:=Nat.lt_of_lt_of_le (by simp) hb.size;obtain⟨c0,c1,c2,c3⟩:=V0.keep hb;dsimp only at c0 c1 c2 c3;clear hb;go_wp2_with fail;go_ret;exact⟨zq (by simp [t3]),B1.out⟩
 ·have e0:(n != 0)=true:=by rw [bne_iff_ne];exact h0
  have e1:(n==0)=false:=beq_eq_false_iff_ne.2 h0;have V0:=zaQ w ⟨o,n,s,t⟩ 53;dsimp only at V0;go_enter Tryz.func53,Tryz.ntmps53;go_wp2_with fail;refine(P.out _).mono ?_;rintro e w1 ⟨rfl,hb⟩;have B1:=hi9 (zy hb);have hw:w.heap.size<w1.heap.size:=Nat.lt_of_lt_of_le (by simp) hb.size;obtain⟨c0,c1,c2,c3⟩:=V0.keep hb;dsimp only at c0 c1 c2 c3;clear hb;go_wp2_with fail;go_ret;exact⟨zq (by simp [h0]),B1.out⟩
theorem zhQ(x:Nd)(w:World)(hx:zcw x):
 Calls Tryz.prog 53 #[ndV x] w fun e w'=>e = .returned (.bool (jz x))∧Below w.heap.size w w':=by
 obtain⟨o,n,s,t⟩:=x;have hs:s.size≤maxLen:=hx.s;unfold ndV;dsimp only;by_cases h1:1≤o∧o≤7
 ·rw [zcA h1];exact zlJ o n s t w h1 hx
 by_cases h8:8≤o∧o≤27
 ·rw [zgL h8];dsimp only;by_cases h8':o=8
  ·rw [if_pos h8'];exact zmR o n s t w h8' hs
  rw [if_neg h8'];by_cases h21:o=21∨o=22∨o=24
  ·rw [if_pos h21];exact zjg o n s t w h21 hs
  rw [if_neg h21];by_cases h23:o=23
  ·rw [if_pos h23];exact zkK o n s t w h23 hs
  rw [if_neg h23];exact zk0 o n s t w (by omega)
 ·rw [zhn (by dsimp only;omega)];exact zlB o n s t w (by omega)
end Go.Proofs.YtkfgabdnppmglaaGreatDoor
namespace Go.Proofs.YtkfgabdnppmglaaGreatDoor
open Go.RowKit Go.Wk
theorem znR(x e:En)(b:Nat)(w:World)(hv:Vr4 w b e):
 Calls Tryz.prog 36 #[x.v,.pointer (some ⟨b,0,none⟩)] w fun r w'=>r = .returned (.bool (decide (x.u=e.u)))∧Below w.heap.size w w':=by
 have B0:=hi9 (zb w (.cells #[.string x.u.1,.string x.u.2,.slice x.UA x.un x.uc,.slice x.NA x.nn x.nc] 59));obtain⟨e0,e1,-,-⟩:=hv.keep B0.out;clear hv;have HD:=hi9 (show decide (x.u=e.u)=(x.u.1.toList==e.u.1.toList && x.u.2.toList==e.u.2.toList) by
  by_cases he:x.u=e.u
  ·rw [he];simp
  ·rcases zcq he with h1|⟨h1,h2⟩
   ·rw [decide_eq_false he,h1];rfl
   ·rw [decide_eq_false he,h1,h2];rfl)
 obtain⟨d,hd⟩:∃d,d=decide (x.u=e.u):=⟨_,rfl⟩
 rw [←hd] at HD ⊢;clear hd;unfold En.v;obtain⟨⟨p1,p2⟩,UA,un,uc,ups,NA,nn,nc,P⟩:=x;generalize e.u=q at *;dsimp only at *;rcases h1:(p1.toList==q.1.toList) with _|_
 ·rw [h1] at HD;go_enter Tryz.func36,Tryz.ntmps36;go_wp2_with fail;go_ret;exact⟨by rw [HD.out];rfl,B0.out⟩
 ·rcases h2:(p2.toList==q.2.toList) with _|_
  ·rw [h1,h2] at HD;go_enter Tryz.func36,Tryz.ntmps36;go_wp2_with fail;go_ret;exact⟨by rw [HD.out];rfl,B0.out⟩
  ·rw [h1,h2] at HD;go_enter Tryz.func36,Tryz.ntmps36;go_wp2_with fail;go_ret;exact⟨by rw [HD.out];rfl,B0.out⟩
def zdh(E:List En)(u:Ud):Bool:=E.any fun x=>decide (x.u=u)
theorem zhD{E:List En}{u:Ud}:zdh E u=true↔∃x∈E,x.u=u:=by simp [zdh]
theorem zjO{E:List En}{k:Nat}(h:k<E.length)(u:Ud):zdh (E.take (k+1)) u=(zdh (E.take k) u || decide (E[k].u=u)):=by
 unfold zdh;rw [List.take_succ_eq_append_getElem h,List.any_append];simp
theorem Es.take{w:World}{A:Option Addr}{n c k:Nat}{E:List En}(h:Es w A n c E)(hk:k≤n):Es w A k c (E.take k):=
 ⟨by rw [List.length_take,←h.len];omega,Nat.le_trans hk h.cap,Nat.le_trans hk h.max,fun j x hx=>by
  rw [List.getElem?_take] at hx
  split at hx
  ·exact h.at_ j x hx
  ·cases hx⟩
theorem zhR(A:Option Addr)(n c:Nat)(E:List En)(e:En)(b:Nat)(w:World)(h:Es w A n c E)(hv:Vr4 w b e):
 Calls Tryz.prog 69 #[.slice A n c,.func (.func 36) #[] #[.pointer (some ⟨b,0,none⟩)]] w
  fun r w'=>(∃k:Int,r = .returned (.int .i64 k)∧(0≤k↔zdh E e.u=true))∧Below w.heap.size w w':=by
 have eg:∀args w,(callFunc 36 args).run Tryz.prog w = .ok (.enter 36 args) w:=enters_of Tryz.func36 (by kernel_rfl) rfl;have K:=hi9 (fun x w' hb=>znR x e b w' (hv.keep (w':=w') hb));have HL:=hi9 h.len;have HM:=h.max;unfold maxLen at HM;have HA:=hi9 (h.at_);clear h hv;generalize e.u=u at *;go_enter Tryz.func69,Tryz.ntmps69;go_wp2_with fail;go_loopw [5,8] (fun _ i wr=>∃k:Nat,k≤n∧i = .int .i64 k∧Hid (zdh (E.take k) u=false)∧Hid (Below w.heap.size w wr)) (fun _ i _=>n-(intOf i).toNat)
 case atStart=>exact⟨0,Nat.zero_le _,rfl,rfl,hi9 (Below.refl _ _)⟩
 case round =>
  obtain⟨k,hk,rfl,hN,hB⟩:=hrel;by_cases hlt:k<n
  ·have hlt':k<E.length:=by rw [←HL.out];exact hlt
   have HT:=hi9 (zjO hlt' u);obtain⟨a,rfl,q0,q1,q2,q3,-⟩:=(HA.out.keep hB.out) k _ (List.getElem?_eq_getElem hlt');have KX:=hi9 (K.out E[k] wr hB.out);have HY:=hi9 (show decide (E[k].u=u)=true→zdh E u=true from fun he=>zhD.2 ⟨_,List.getElem_mem hlt',of_decide_eq_true he⟩);generalize E[k]=x at *;unfold En.v at KX;rcases hd:decide (x.u=u) with _|_
   ·rw [hd,Bool.or_false,hN.out] at HT;rw [hd] at KX;clear hd;go_wp2_with (go_at_fn 36;refine KX.out.mono ?_;rintro e w1 ⟨rfl,b1⟩);have B1:=bh hB b1;clear q0 q1 q2 q3 hB b1 KX;go_wp2_with fail;go_roundw
    case rel=>exact⟨k+1,by omega,by go_num,HT,B1⟩
    case measure=>simp [intOf];omega
   ·rw [hd] at KX;have HZ:=hi9 (HY.out hd);clear hd HT;go_wp2_with (go_at_fn 36;refine KX.out.mono ?_;rintro e w1 ⟨rfl,b1⟩);have B1:=bh hB b1;clear q0 q1 q2 q3 hB b1 KX;go_wp2_with fail;go_ret;exact⟨⟨k,rfl,by rw [HZ.out];simp⟩,B1.out⟩
  ·have HN:=hi9 (show zdh E u=false by rw [←hN.out,List.take_of_length_le (by rw [←HL.out];omega)]);go_wp2_with fail;go_ret;exact⟨⟨-1,rfl,by rw [HN.out];simp⟩,hB.out⟩
theorem zfJ(A:Option Addr)(n c:Nat)(E:List En)(e:En)(b:Nat)(w:World)(h:Es w A n c E)(hv:Vr4 w b e):
 Calls Tryz.prog 35 #[.slice A n c,.func (.func 36) #[] #[.pointer (some ⟨b,0,none⟩)]] w
  fun r w'=>r = .returned (.bool (zdh E e.u))∧Below w.heap.size w w':=by
 have K:=hi9 (zhR A n c E e b w h hv);clear h hv;go_enter Tryz.func35,Tryz.ntmps35;go_wp2_with fail;refine K.out.mono ?_;rintro r w1 ⟨⟨k,rfl,hk⟩,b1⟩;have B1:=hi9 b1;have HK:=hi9 (show decide (0≤k)=zdh E e.u by
  rcases hu:zdh E e.u with _|_
  ·exact decide_eq_false (fun h=>by have:=hk.1 h;rw [hu] at this;cases this)
  ·exact decide_eq_true (hk.2 hu))
 clear hk b1;go_wp2_with fail;go_ret;exact⟨by rw [←HK.out];rfl,B1.out⟩
end Go.Proofs.YtkfgabdnppmglaaGreatDoor
