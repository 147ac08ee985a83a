/-
  kinds.join: the least above two types: all but records. kinds.join: of records. kinds.join: the least above two types. kinds' flat: a type as nodes. kinds: ..
-/
import Derived.Deep.RegionHeld3
import Derived.Deep.AppendLies
import Derived.Deep.RegionLaw
import Derived.Deep.RegionWith
import Derived.Test.YtjcdeikbghjpkaaGreatDoorQ3
import Derived.Test.YtjcdeikbghjpkaaGreatDoorQ4
import Derived.Test.YtjcdeikbghjpkaaGreatDoorQ11
import Derived.Test.YtjcdeikbghjpkaaGreatDoorQ27
import Derived.Test.YtjcdeikbghjpkaaGreatDoorQ30
import Derived.Test.YtjcdeikbghjpkaaGreatDoorQ31
import Derived.Test.YtjcdeikbghjpkaaGreatDoorQ33
set_option maxRecDepth 100000
set_option maxHeartbeats 8000000
namespace Go.Proofs.YtjcdeikbghjpkaaGreatDoor
open Go.RowKit Go.Wk Go.Sort
def zh1(w:World)(B:Nat→Prop)(k:Kd)(e:Ending)(w':World):Prop :=
 ∃u,e = .returned (.agg u.toArray)∧KAt w' (fun b=>B b∨w.heap.size≤b) k u∧Below w.heap.size w w'
def zqV(N:Nat):Prop:=∀(a b:Kd) (va vb:List Value) (w:World) (B:Nat→Prop),a.sz≤N→a.sz≤90000→b.sz≤90000→KAt w B a va→KAt w B b vb→a.valid→b.valid→(∀b,B b→b<w.heap.size)→
 Calls Tryz.prog 102 #[.agg va.toArray,.agg vb.toArray] w (zh1 w B (zm a b))
theorem Bx6.row{w:World}{b:Nat}{x0 x1 x2 x3 x4 x5:Value}(h:Bx6 w b x0 x1 x2 x3 x4 x5):ziS w ⟨b,0,none⟩ [x0,x1,x2,x3,x4,x5]:=by
 have ad:∀(j:Nat),(⟨b,0,none⟩:Addr).add j=⟨b,j,none⟩:=fun j=>by
  unfold Addr.add;split
  ·rename_i h0;subst h0;rfl
  ·simp
 intro j x hx;rw [ad]
 match j,hx with
 | 0,hx=>injection hx with hx;subst hx;exact h.c0
 | 1,hx=>injection hx with hx;subst hx;exact h.c1
 | 2,hx=>injection hx with hx;subst hx;exact h.c2
 | 3,hx=>injection hx with hx;subst hx;exact h.c3
 | 4,hx=>injection hx with hx;subst hx;exact h.c4
 | 5,hx=>injection hx with hx;subst hx;exact h.c5
 | j+6,hx=>simp at hx
theorem zgK{w W:World}{B D:Nat→Prop}{kk:Kd}{n1:Int}{pb rb:Nat}{u:List Value}(hBW:Below w.heap.size w W)(hpb:w.heap.size≤pb)(hne:pb≠rb)(hrb:w.heap.size≤rb)(hrow:ziS W ⟨pb,0,none⟩ u)(hk:KAt W D kk u)
 (hD:∀b,D b→(B b∨w.heap.size≤b)∧b≠rb) (y0 y1 y2 y3 y4 y5:Value):
 zh1 w B (.set kk) (.returned (.agg #[.int .i64 45,.int .i64 n1,.string ⟨#[]⟩,.string ⟨#[]⟩,.pointer (some ⟨pb,0,none⟩),.slice none 0 0])) ((((((W.setCell ⟨rb,0,none⟩ y0).setCell ⟨rb,1,none⟩ y1).setCell ⟨rb,2,none⟩ y2).setCell ⟨rb,3,none⟩ y3).setCell ⟨rb,4,none⟩ y4).setCell ⟨rb,5,none⟩ y5):=
 ⟨[.int .i64 45,.int .i64 n1,.string ⟨#[]⟩,.string ⟨#[]⟩,.pointer (some ⟨pb,0,none⟩),.slice none 0 0],rfl,
  ⟨n1,pb,u,rfl,.inr hpb,hrow.cong (zag W rb y0 y1 y2 y3 y4 y5 hne),(hk.cong fun b hb=>zag W rb y0 y1 y2 y3 y4 y5 (hD b hb).2).mono fun b hb _=>(hD b hb).1⟩,zac hBW hrb y0 y1 y2 y3 y4 y5⟩
section
variable (o1 o2 n1 n2:Int) (s1 s2 t1 t2:ByteArray) (p1 p2 A1 A2:Option Addr) (m1 c1 m2 c2:Nat) (w:World)
theorem znc(h:o1=49∨o2=48):
 Calls Tryz.prog 102 #[.agg #[.int .i64 o1,.int .i64 n1,.string s1,.string t1,.pointer p1,.slice A1 m1 c1],.agg #[.int .i64 o2,.int .i64 n2,.string s2,.string t2,.pointer p2,.slice A2 m2 c2]] w fun e w'=>e = .returned (.agg #[.int .i64 o2,.int .i64 n2,.string s2,.string t2,.pointer p2,.slice A2 m2 c2])∧Below w.heap.size w w':=by
 have HB:=hi9 (fun o=>(za w (.cells #[.int .i64 o1,.int .i64 n1,.string s1,.string t1,.pointer p1,.slice A1 m1 c1] 149)).trans (((za _ (.cells #[.int .i64 o2,.int .i64 n2,.string s2,.string t2,.pointer p2,.slice A2 m2 c2] 149)).trans ((za _ o).mono (by simp))).mono (by simp)));by_cases h1:o1=49
 ·subst h1;clear h;go_enter Tryz.func102,Tryz.ntmps102;go_wp2_with fail;refine bodyPost_ret (v := .agg #[.int .i64 o2,.int .i64 n2,.string s2,.string t2,.pointer p2,.slice A2 m2 c2]) (by simp [results,Tryz.results102,go_sem]) rfl ?_;exact⟨rfl,HB.out _⟩
 ·have h2:=h.resolve_left h1;have h3:(o1==49)=false:=beq_eq_false_iff_ne.2 h1;subst h2;clear h h1;go_enter Tryz.func102,Tryz.ntmps102;go_wp2_with fail;refine bodyPost_ret (v := .agg #[.int .i64 48,.int .i64 n2,.string s2,.string t2,.pointer p2,.slice A2 m2 c2]) (by simp [results,Tryz.results102,go_sem]) rfl ?_;exact⟨rfl,HB.out _⟩
theorem zpe(e1:o1≠49)(e2:o2≠48)(h:o2=49∨o1=48):
 Calls Tryz.prog 102 #[.agg #[.int .i64 o1,.int .i64 n1,.string s1,.string t1,.pointer p1,.slice A1 m1 c1],.agg #[.int .i64 o2,.int .i64 n2,.string s2,.string t2,.pointer p2,.slice A2 m2 c2]] w fun e w'=>e = .returned (.agg #[.int .i64 o1,.int .i64 n1,.string s1,.string t1,.pointer p1,.slice A1 m1 c1])∧Below w.heap.size w w':=by
 have HB:=hi9 (fun o=>(za w (.cells #[.int .i64 o1,.int .i64 n1,.string s1,.string t1,.pointer p1,.slice A1 m1 c1] 149)).trans (((za _ (.cells #[.int .i64 o2,.int .i64 n2,.string s2,.string t2,.pointer p2,.slice A2 m2 c2] 149)).trans ((za _ o).mono (by simp))).mono (by simp)));have f1:(o1==49)=false:=beq_eq_false_iff_ne.2 e1;have f2:(o2==48)=false:=beq_eq_false_iff_ne.2 e2;by_cases h1:o2=49
 ·subst h1;clear h;go_enter Tryz.func102,Tryz.ntmps102;go_wp2_with fail;refine bodyPost_ret (v := .agg #[.int .i64 o1,.int .i64 n1,.string s1,.string t1,.pointer p1,.slice A1 m1 c1]) (by simp [results,Tryz.results102,go_sem]) rfl ?_;exact⟨rfl,HB.out _⟩
 ·have h2:=h.resolve_left h1;have h3:(o2==49)=false:=beq_eq_false_iff_ne.2 h1;subst h2;clear h h1;go_enter Tryz.func102,Tryz.ntmps102;go_wp2_with fail;refine bodyPost_ret (v := .agg #[.int .i64 48,.int .i64 n1,.string s1,.string t1,.pointer p1,.slice A1 m1 c1]) (by simp [results,Tryz.results102,go_sem]) rfl ?_;exact⟨rfl,HB.out _⟩
theorem zlv(e1:o1≠49)(e2:o2≠48)(e3:o1≠48)(e4:o2≠49)(h:o1≠o2∨s1≠s2):
 Calls Tryz.prog 102 #[.agg #[.int .i64 o1,.int .i64 n1,.string s1,.string t1,.pointer p1,.slice A1 m1 c1],.agg #[.int .i64 o2,.int .i64 n2,.string s2,.string t2,.pointer p2,.slice A2 m2 c2]] w fun e w'=>e = .returned (.agg #[.int .i64 48,.int .i64 0,.string ⟨#[]⟩,.string ⟨#[]⟩,.pointer none,.slice none 0 0])∧Below w.heap.size w w':=by
 have HB:=hi9 (fun o=>(za w (.cells #[.int .i64 o1,.int .i64 n1,.string s1,.string t1,.pointer p1,.slice A1 m1 c1] 149)).trans (((za _ (.cells #[.int .i64 o2,.int .i64 n2,.string s2,.string t2,.pointer p2,.slice A2 m2 c2] 149)).trans ((za _ o).mono (by simp))).mono (by simp)));have f1:(o1==49)=false:=beq_eq_false_iff_ne.2 e1;have f2:(o2==48)=false:=beq_eq_false_iff_ne.2 e2;have f3:(o1==48)=false:=beq_eq_false_iff_ne.2 e3;have f4:(o2==49)=false:=beq_eq_false_iff_ne.2 e4;by_cases ho:o1=o2
 ·have hs:=h.resolve_left (fun q=>q ho);have e5:(s1.toList==s2.toList)=false:=beq_eq_false_iff_ne.2 (fun q=>hs (toList_inj q));subst ho;clear h hs e1 e2 e3 e4;go_enter Tryz.func102,Tryz.ntmps102;go_wp2_with fail;refine bodyPost_ret (v := .agg #[.int .i64 48,.int .i64 0,.string ⟨#[]⟩,.string ⟨#[]⟩,.pointer none,.slice none 0 0]) (by simp [results,Tryz.results102,go_sem]) rfl ?_;exact⟨rfl,HB.out _⟩
 ·have e3:(o1==o2)=false:=beq_eq_false_iff_ne.2 ho;have e4:(o1 != o2)=true:=by rw [bne_iff_ne];exact ho
  clear h e1 e2 ho;go_enter Tryz.func102,Tryz.ntmps102;go_wp2_with fail;refine bodyPost_ret (v := .agg #[.int .i64 48,.int .i64 0,.string ⟨#[]⟩,.string ⟨#[]⟩,.pointer none,.slice none 0 0]) (by simp [results,Tryz.results102,go_sem]) rfl ?_;exact⟨rfl,HB.out _⟩
theorem zjN(e1:o1≠49)(e2:o1≠48)(e3:o1≠45)(e4:o1≠46):
 Calls Tryz.prog 102 #[.agg #[.int .i64 o1,.int .i64 n1,.string s1,.string t1,.pointer p1,.slice A1 m1 c1],.agg #[.int .i64 o1,.int .i64 n2,.string s1,.string t2,.pointer p2,.slice A2 m2 c2]] w fun e w'=>e = .returned (.agg #[.int .i64 o1,.int .i64 n1,.string s1,.string t1,.pointer p1,.slice A1 m1 c1])∧Below w.heap.size w w':=by
 have HB:=hi9 (fun o=>(za w (.cells #[.int .i64 o1,.int .i64 n1,.string s1,.string t1,.pointer p1,.slice A1 m1 c1] 149)).trans (((za _ (.cells #[.int .i64 o1,.int .i64 n2,.string s1,.string t2,.pointer p2,.slice A2 m2 c2] 149)).trans ((za _ o).mono (by simp))).mono (by simp)));have f1:(o1==49)=false:=beq_eq_false_iff_ne.2 e1;have f2:(o1==48)=false:=beq_eq_false_iff_ne.2 e2;have f3:(o1==45)=false:=beq_eq_false_iff_ne.2 e3;have f4:(o1==46)=false:=beq_eq_false_iff_ne.2 e4;have f5:(o1 != 46)=true:=by rw [bne_iff_ne];exact e4
 clear e1 e2 e3 e4;go_enter Tryz.func102,Tryz.ntmps102;go_wp2_with fail;refine bodyPost_ret (v := .agg #[.int .i64 o1,.int .i64 n1,.string s1,.string t1,.pointer p1,.slice A1 m1 c1]) (by simp [results,Tryz.results102,go_sem]) rfl ?_;exact⟨rfl,HB.out _⟩
end
theorem zot(N:Nat)(ih:zqV N)(p q:Kd)(va vb:List Value)(w:World)(B:Nat→Prop)(h:p.sz≤N)(hp:p.sz≤90000)(hq:q.sz≤90000)(ha:KAt w B (.set p) va)(hb:KAt w B (.set q) vb)(op:p.valid)(oq:q.valid)(hB:∀b,B b→b<w.heap.size):
 Calls Tryz.prog 102 #[.agg va.toArray,.agg vb.toArray] w (zh1 w B (.set (zm p q))):=by
 obtain⟨n1,b1,u1,rfl,hb1,r1,k1⟩:=ha;obtain⟨n2,b2,u2,rfl,hb2,r2,k2⟩:=hb;have IH:=hi9 (fun w' (hw:Below w.heap.size w w')=>ih p q u1 u2 w' B h hp hq (k1.cong (fun b x=>hw.block b (hB b x))) (k2.cong (fun b x=>hw.block b (hB b x))) op oq (fun b x=>Nat.lt_of_lt_of_le (hB b x) hw.size));obtain⟨o3,n3,s3,t3,p3,A3,m3,c3,rfl⟩:=zbC k1;obtain⟨o4,n4,s4,t4,p4,A4,m4,c4,rfl⟩:=zbC k2;have L1:=hB b1 hb1;have L2:=hB b2 hb2;have R1:=hi9 (fun w' (hw:Below w.heap.size w w')=>r1.cong (w':=w') (hw.block b1 L1));have R2:=hi9 (fun w' (hw:Below w.heap.size w w')=>r2.cong (w':=w') (hw.block b2 L2));have HBD:=hi9 hB;clear k1 k2 r1 r2 ih hB hb1 hb2 L1 L2;have Ba:=za w (.cells #[.int .i64 45,.int .i64 n1,.string ⟨#[]⟩,.string ⟨#[]⟩,.pointer (some ⟨b1,0,none⟩),.slice none 0 0] 149);have Bb:=za (w.alloc (.cells #[.int .i64 45,.int .i64 n1,.string ⟨#[]⟩,.string ⟨#[]⟩,.pointer (some ⟨b1,0,none⟩),.slice none 0 0] 149)) (.cells #[.int .i64 45,.int .i64 n2,.string ⟨#[]⟩,.string ⟨#[]⟩,.pointer (some ⟨b2,0,none⟩),.slice none 0 0] 149);have Bc:=za ((w.alloc (.cells #[.int .i64 45,.int .i64 n1,.string ⟨#[]⟩,.string ⟨#[]⟩,.pointer (some ⟨b1,0,none⟩),.slice none 0 0] 149)).alloc (.cells #[.int .i64 45,.int .i64 n2,.string ⟨#[]⟩,.string ⟨#[]⟩,.pointer (some ⟨b2,0,none⟩),.slice none 0 0] 149)) (.cells #[.int .i64 0,.int .i64 0,.string ⟨#[]⟩,.string ⟨#[]⟩,.pointer none,.slice none 0 0] 149);have HB:=hi9 (Ba.trans ((Bb.trans (Bc.mono (by simp))).mono (by simp)));have hsz:(w.alloc (.cells #[.int .i64 45,.int .i64 n1,.string ⟨#[]⟩,.string ⟨#[]⟩,.pointer (some ⟨b1,0,none⟩),.slice none 0 0] 149)).heap.size=w.heap.size+1:=by simp
 have hsz2:((w.alloc (.cells #[.int .i64 45,.int .i64 n1,.string ⟨#[]⟩,.string ⟨#[]⟩,.pointer (some ⟨b1,0,none⟩),.slice none 0 0] 149)).alloc (.cells #[.int .i64 45,.int .i64 n2,.string ⟨#[]⟩,.string ⟨#[]⟩,.pointer (some ⟨b2,0,none⟩),.slice none 0 0] 149)).heap.size=w.heap.size+2:=by simp
 have hsz3:(((w.alloc (.cells #[.int .i64 45,.int .i64 n1,.string ⟨#[]⟩,.string ⟨#[]⟩,.pointer (some ⟨b1,0,none⟩),.slice none 0 0] 149)).alloc (.cells #[.int .i64 45,.int .i64 n2,.string ⟨#[]⟩,.string ⟨#[]⟩,.pointer (some ⟨b2,0,none⟩),.slice none 0 0] 149)).alloc (.cells #[.int .i64 0,.int .i64 0,.string ⟨#[]⟩,.string ⟨#[]⟩,.pointer none,.slice none 0 0] 149)).heap.size=w.heap.size+3:=by simp
 have X1:=((jE w (.int .i64 45) (.int .i64 n1) (.string ⟨#[]⟩) (.string ⟨#[]⟩) (.pointer (some ⟨b1,0,none⟩)) (.slice none 0 0) 149).keep Bb).keep Bc;have X2:=(jE (w.alloc (.cells #[.int .i64 45,.int .i64 n1,.string ⟨#[]⟩,.string ⟨#[]⟩,.pointer (some ⟨b1,0,none⟩),.slice none 0 0] 149)) (.int .i64 45) (.int .i64 n2) (.string ⟨#[]⟩) (.string ⟨#[]⟩) (.pointer (some ⟨b2,0,none⟩)) (.slice none 0 0) 149).keep Bc;have X3:=jE ((w.alloc (.cells #[.int .i64 45,.int .i64 n1,.string ⟨#[]⟩,.string ⟨#[]⟩,.pointer (some ⟨b1,0,none⟩),.slice none 0 0] 149)).alloc (.cells #[.int .i64 45,.int .i64 n2,.string ⟨#[]⟩,.string ⟨#[]⟩,.pointer (some ⟨b2,0,none⟩),.slice none 0 0] 149)) (.int .i64 0) (.int .i64 0) (.string ⟨#[]⟩) (.string ⟨#[]⟩) (.pointer none) (.slice none 0 0) 149;rw [hsz] at X2;rw [hsz2] at X3;clear Ba Bb Bc;generalize zm p q=kk at *;change Calls Tryz.prog 102 #[.agg #[.int .i64 45,.int .i64 n1,.string ⟨#[]⟩,.string ⟨#[]⟩,.pointer (some ⟨b1,0,none⟩),.slice none 0 0],.agg #[.int .i64 45,.int .i64 n2,.string ⟨#[]⟩,.string ⟨#[]⟩,.pointer (some ⟨b2,0,none⟩),.slice none 0 0]] w _;go_enter Tryz.func102,Tryz.ntmps102;go_wp2_with fail;obtain⟨w2,hw2⟩:∃w2,(((w.alloc (.cells #[.int .i64 45,.int .i64 n1,.string ⟨#[]⟩,.string ⟨#[]⟩,.pointer (some ⟨b1,0,none⟩),.slice none 0 0] 149)).alloc (.cells #[.int .i64 45,.int .i64 n2,.string ⟨#[]⟩,.string ⟨#[]⟩,.pointer (some ⟨b2,0,none⟩),.slice none 0 0] 149)).alloc (.cells #[.int .i64 0,.int .i64 0,.string ⟨#[]⟩,.string ⟨#[]⟩,.pointer none,.slice none 0 0] 149))=w2:=⟨_,rfl⟩
 rw [hw2] at X1 X2 X3 HB hsz3 ⊢;clear hw2 hsz hsz2;have HX1:=hi9 X1;have HX3:=hi9 X3;have HZ:=hi9 hsz3;have HA:=hi9 (fun(w':World) (hb:Below w2.heap.size w2 w')=>(show w'.cell? ⟨w.heap.size,4,none⟩=some (.pointer (some ⟨b1,0,none⟩))∧w'.cell? ⟨w.heap.size+1,4,none⟩=some (.pointer (some ⟨b2,0,none⟩))∧w'.cell? ⟨b1,0,none⟩=some (.int .i64 o3)∧w'.cell? ⟨b1,1,none⟩=some (.int .i64 n3)∧w'.cell? ⟨b1,2,none⟩=some (.string s3)∧w'.cell? ⟨b1,3,none⟩=some (.string t3)∧w'.cell? ⟨b1,4,none⟩=some (.pointer p3)∧w'.cell? ⟨b1,5,none⟩=some (.slice A3 m3 c3)∧w'.cell? ⟨b2,0,none⟩=some (.int .i64 o4)∧w'.cell? ⟨b2,1,none⟩=some (.int .i64 n4)∧w'.cell? ⟨b2,2,none⟩=some (.string s4)∧w'.cell? ⟨b2,3,none⟩=some (.string t4)∧w'.cell? ⟨b2,4,none⟩=some (.pointer p4)∧w'.cell? ⟨b2,5,none⟩=some (.slice A4 m4 c4) from by
  have Q1:=R1.out w' (HB.out.trans (hb.mono HB.out.size))
  have Q2:=R2.out w' (HB.out.trans (hb.mono HB.out.size))
  have ad:∀(b j:Nat),(⟨b,0,none⟩:Addr).add j=⟨b,j,none⟩:=fun b j=>by
   unfold Addr.add
   split
   ·rename_i h0;subst h0;rfl
   ·simp
  have d0:=Q1 0 _ rfl
  have d1:=Q1 1 _ rfl
  have d2:=Q1 2 _ rfl
  have d3:=Q1 3 _ rfl
  have d4:=Q1 4 _ rfl
  have d5:=Q1 5 _ rfl
  have g0:=Q2 0 _ rfl
  have g1:=Q2 1 _ rfl
  have g2:=Q2 2 _ rfl
  have g3:=Q2 3 _ rfl
  have g4:=Q2 4 _ rfl
  have g5:=Q2 5 _ rfl
  rw [ad] at d0 d1 d2 d3 d4 d5 g0 g1 g2 g3 g4 g5
  exact⟨(X1.keep hb).c4,(X2.keep hb).c4,d0,d1,d2,d3,d4,d5,g0,g1,g2,g3,g4,g5⟩))
 have bd:Below w2.heap.size w2 w2.drew:=⟨rfl,rfl,rfl,Nat.le_refl _,fun _ _=>rfl⟩
 have bz:=bd.trans ((za w2.drew (.cells #[.int .i64 0,.int .i64 0,.string ⟨#[]⟩,.string ⟨#[]⟩,.pointer none,.slice none 0 0] 149)).mono (show w2.heap.size≤w2.drew.heap.size from Nat.le_refl _));have XP:=hi9 (show Bx6 (w2.drew.alloc (.cells #[.int .i64 0,.int .i64 0,.string ⟨#[]⟩,.string ⟨#[]⟩,.pointer none,.slice none 0 0] 149)) w2.heap.size (.int .i64 0) (.int .i64 0) (.string ⟨#[]⟩) (.string ⟨#[]⟩) (.pointer none) (.slice none 0 0) from jE w2.drew _ _ _ _ _ _ _);have BD:=hi9 bd;have BZ:=hi9 bz;have KA:=hi9 (IH.out w2.drew (HB.out.trans (bd.mono HB.out.size)));have KB:=hi9 (IH.out _ (HB.out.trans (bz.mono HB.out.size)));obtain⟨z1,z2,d0,d1,d2,d3,d4,d5,g0,g1,g2,g3,g4,g5⟩:=HA.out w2 (Below.refl _ _);clear R1 R2 IH X1 X2 X3 bd bz hsz3;go_region_held3 (fun(w':World)=>w'.cell? ⟨w.heap.size,4,none⟩=some (.pointer (some ⟨b1,0,none⟩))∧w'.cell? ⟨w.heap.size+1,4,none⟩=some (.pointer (some ⟨b2,0,none⟩))∧w'.cell? ⟨b1,0,none⟩=some (.int .i64 o3)∧w'.cell? ⟨b1,1,none⟩=some (.int .i64 n3)∧w'.cell? ⟨b1,2,none⟩=some (.string s3)∧w'.cell? ⟨b1,3,none⟩=some (.string t3)∧w'.cell? ⟨b1,4,none⟩=some (.pointer p3)∧w'.cell? ⟨b1,5,none⟩=some (.slice A3 m3 c3)∧w'.cell? ⟨b2,0,none⟩=some (.int .i64 o4)∧w'.cell? ⟨b2,1,none⟩=some (.int .i64 n4)∧w'.cell? ⟨b2,2,none⟩=some (.string s4)∧w'.cell? ⟨b2,3,none⟩=some (.string t4)∧w'.cell? ⟨b2,4,none⟩=some (.pointer p4)∧w'.cell? ⟨b2,5,none⟩=some (.slice A4 m4 c4)) (first|go_keep|exact HA.out _ (zac B4.out (Nat.le_refl _) _ _ _ _ _ _))
  (first
   |(go_at_call 102;(refine KA.out.mono ?_);rintro e w4 ⟨u,rfl,ku,b4⟩;(obtain⟨o5,n5,s5,t5,p5,A5,m5,c5,rfl⟩:=zbC ku);(have KU:=hi9 ku);(have B4:=hi9 (BD.out.trans (b4.mono BD.out.size)));clear z1 z2 d0 d1 d2 d3 d4 d5 g0 g1 g2 g3 g4 g5;(obtain⟨z1,z2,d0,d1,d2,d3,d4,d5,g0,g1,g2,g3,g4,g5⟩:=HA.out w4 B4.out);clear ku b4)
   |(go_at_call 102;(refine KB.out.mono ?_);rintro e w4 ⟨u,rfl,ku,b4⟩;(obtain⟨o5,n5,s5,t5,p5,A5,m5,c5,rfl⟩:=zbC ku);(have KU:=hi9 ku);(have B4:=hi9 (BZ.out.trans (b4.mono BZ.out.size)));clear z1 z2 d0 d1 d2 d3 d4 d5 g0 g1 g2 g3 g4 g5;(obtain⟨z1,z2,d0,d1,d2,d3,d4,d5,g0,g1,g2,g3,g4,g5⟩:=HA.out w4 B4.out);(have XP4:=hi9 (XP.out.keep b4));(have HS4:=hi9 (show w2.heap.size+1≤w4.heap.size by have:=b4.size;simpa using this));(obtain⟨k0,k1,k2,k3,k4,k5,y0,y1,y2,y3,y4,y5⟩:=XP.out.keep b4);clear ku b4))
 ·have b5:=za w4 (.cells #[.int .i64 o5,.int .i64 n5,.string s5,.string t5,.pointer p5,.slice A5 m5 c5] 149);have RW:=hi9 (zcC w4 [.int .i64 o5,.int .i64 n5,.string s5,.string t5,.pointer p5,.slice A5 m5 c5] 149);have KW:=hi9 ((KU.out.mono (B':=fun b=>(B b∨w2.heap.size≤b)∧b<w4.heap.size) fun b h1 h2=>⟨h1,h2⟩).cong (w':=w4.alloc (.cells #[.int .i64 o5,.int .i64 n5,.string s5,.string t5,.pointer p5,.slice A5 m5 c5] 149)) fun b hb=>b5.block b hb.2);have BW:=hi9 (HB.out.trans ((B4.out.trans (b5.mono B4.out.size)).mono HB.out.size));have XA:=(HX1.out.keep B4.out).keep b5;have XR:=hi9 ((HX3.out.keep B4.out).keep b5);have HS:=hi9 B4.out.size;obtain⟨W,hW⟩:∃W,w4.alloc (.cells #[.int .i64 o5,.int .i64 n5,.string s5,.string t5,.pointer p5,.slice A5 m5 c5] 149)=W:=⟨_,rfl⟩
  have HZ4:=hi9 (show w4.heap.size<W.heap.size by rw [←hW];simp);rw [hW] at KW BW XA XR ⊢;have RW2:=hi9 (show ziS W ⟨w4.heap.size,0,none⟩ [.int .i64 o5,.int .i64 n5,.string s5,.string t5,.pointer p5,.slice A5 m5 c5] by rw [←hW];exact RW.out);clear hW b5 KU RW z1 z2 d0 d1 d2 d3 d4 d5 g0 g1 g2 g3 g4 g5;obtain⟨x0,x1,x2,x3,x4,x5,-,-,-,-,-,-⟩:=XA;obtain⟨r0,r1,r2,r3,r4,r5,y0,y1,y2,y3,y4,y5⟩:=XR.out;go_wp2_with fail;obtain⟨j0,j1,j2,j3,j4,j5,-,-,-,-,-,-⟩:=XR.out.set (.int .i64 45) (.int .i64 n1) (.string ⟨#[]⟩) (.string ⟨#[]⟩) (.pointer (some ⟨w4.heap.size,0,none⟩)) (.slice none 0 0);refine bodyPost_ret (v := .agg #[.int .i64 45,.int .i64 n1,.string ⟨#[]⟩,.string ⟨#[]⟩,.pointer (some ⟨w4.heap.size,0,none⟩),.slice none 0 0]) (by simp [results,Tryz.results102,go_sem,j0,j1,j2,j3,j4,j5]) rfl ?_;exact zgK BW.out (by have:=HS.out;have:=HZ.out;omega) (by have:=HS.out;have:=HZ.out;omega) (by omega) RW2.out KW.out (fun b hb=>⟨hb.1.imp_right fun h=>by have:=HZ.out;omega,by
   rcases hb.1 with h|h
   ·have:=HBD.out b h;omega
   ·have:=HZ.out;omega⟩) _ _ _ _ _ _
 ·have gs:=jG w4 w2.heap.size (.int .i64 o5) (.int .i64 n5) (.string s5) (.string t5) (.pointer p5) (.slice A5 m5 c5);have RW:=(XP4.out.set (.int .i64 o5) (.int .i64 n5) (.string s5) (.string t5) (.pointer p5) (.slice A5 m5 c5)).row;have KW:=(KU.out.mono (B':=fun b=>B b∨w2.heap.size+1≤b) fun b h1 h2=>h1.imp_right fun h=>by simpa using h).cong (w':=((((((w4.setCell ⟨w2.heap.size,0,none⟩ (.int .i64 o5)).setCell ⟨w2.heap.size,1,none⟩ (.int .i64 n5)).setCell ⟨w2.heap.size,2,none⟩ (.string s5)).setCell ⟨w2.heap.size,3,none⟩ (.string t5)).setCell ⟨w2.heap.size,4,none⟩ (.pointer p5)).setCell ⟨w2.heap.size,5,none⟩ (.slice A5 m5 c5))) fun b hb=>zag w4 w2.heap.size (.int .i64 o5) (.int .i64 n5) (.string s5) (.string t5) (.pointer p5) (.slice A5 m5 c5) (by
   rcases hb with h|h
   ·have:=HBD.out b h;have:=HZ.out;omega
   ·omega)
  have BW:=HB.out.trans ((zac B4.out (Nat.le_refl _) (.int .i64 o5) (.int .i64 n5) (.string s5) (.string t5) (.pointer p5) (.slice A5 m5 c5)).mono HB.out.size);have XA:=(HX1.out.keep B4.out).but gs (fun e=>by injection e with e;have:=HZ.out;omega);have XR:=(HX3.out.keep B4.out).but gs (fun e=>by injection e with e;have:=HZ.out;omega);obtain⟨W,hW⟩:∃W,((((((w4.setCell ⟨w2.heap.size,0,none⟩ (.int .i64 o5)).setCell ⟨w2.heap.size,1,none⟩ (.int .i64 n5)).setCell ⟨w2.heap.size,2,none⟩ (.string s5)).setCell ⟨w2.heap.size,3,none⟩ (.string t5)).setCell ⟨w2.heap.size,4,none⟩ (.pointer p5)).setCell ⟨w2.heap.size,5,none⟩ (.slice A5 m5 c5))=W:=⟨_,rfl⟩
  rw [hW] at RW KW BW XA XR ⊢;have XR:=hi9 XR;have RW:=hi9 RW;have KW:=hi9 KW;have BW:=hi9 BW;clear hW gs KU z1 z2 d0 d1 d2 d3 d4 d5 g0 g1 g2 g3 g4 g5 k0 k1 k2 k3 k4 k5 y0 y1 y2 y3 y4 y5 XP4;obtain⟨x0,x1,x2,x3,x4,x5,-,-,-,-,-,-⟩:=XA;obtain⟨r0,r1,r2,r3,r4,r5,y0,y1,y2,y3,y4,y5⟩:=XR.out;go_wp2_with fail;obtain⟨j0,j1,j2,j3,j4,j5,-,-,-,-,-,-⟩:=XR.out.set (.int .i64 45) (.int .i64 n1) (.string ⟨#[]⟩) (.string ⟨#[]⟩) (.pointer (some ⟨w2.heap.size,0,none⟩)) (.slice none 0 0);refine bodyPost_ret (v := .agg #[.int .i64 45,.int .i64 n1,.string ⟨#[]⟩,.string ⟨#[]⟩,.pointer (some ⟨w2.heap.size,0,none⟩),.slice none 0 0]) (by simp [results,Tryz.results102,go_sem,j0,j1,j2,j3,j4,j5]) rfl ?_;exact zgK BW.out (by have:=HZ.out;omega) (by have:=HZ.out;omega) (by omega) RW.out KW.out (fun b hb=>⟨hb.imp_right fun h=>by have:=HZ.out;omega,by
   rcases hb with h|h
   ·have:=HBD.out b h;omega
   ·have:=HZ.out;omega⟩) _ _ _ _ _ _
structure JLp(w wr:World)(D:Nat→Prop)(n1 n2:Int)(A1 A2:Option Addr)(m1 c1 m2 c2:Nat)(E:List Fe)(v:Value):Prop where
 X1:Bx6 wr w.heap.size (.int .i64 46) (.int .i64 n1) (.string ⟨#[]⟩) (.string ⟨#[]⟩) (.pointer none) (.slice A1 m1 c1)
 X2:Bx6 wr (w.heap.size+1) (.int .i64 46) (.int .i64 n2) (.string ⟨#[]⟩) (.string ⟨#[]⟩) (.pointer none) (.slice A2 m2 c2)
 R:Bx6 wr (w.heap.size+2) (.int .i64 0) (.int .i64 0) (.string ⟨#[]⟩) (.string ⟨#[]⟩) (.pointer none) (.slice none 0 0)
 K:Bx6 wr (w.heap.size+3) (.int .i64 46) (.int .i64 0) (.string ⟨#[]⟩) (.string ⟨#[]⟩) (.pointer none) v
 F:zdf wr (w.heap.size+4) D v E
 G:Below w.heap.size w wr
 z:w.heap.size+4≤wr.heap.size
theorem JLp.keep{w wr w':World}{D:Nat→Prop}{n1 n2:Int}{A1 A2:Option Addr}{m1 c1 m2 c2:Nat}{E:List Fe}{v:Value}(h:JLp w wr D n1 n2 A1 A2 m1 c1 m2 c2 E v)(hb:Below wr.heap.size wr w'):JLp w w' D n1 n2 A1 A2 m1 c1 m2 c2 E v :=
 ⟨h.X1.keep hb,h.X2.keep hb,h.R.keep hb,h.K.keep hb,h.F.keepN (zc hb none),h.G.trans (hb.mono h.G.size),Nat.le_trans h.z hb.size⟩
theorem JLp.next{w w6 w7:World}{D:Nat→Prop}{n1 n2:Int}{A1 A2:Option Addr}{m1 c1 m2 c2:Nat}{E:List Fe}{v v':Value}{z:Fe}(o:Obj)(h:JLp w w6 D n1 n2 A1 A2 m1 c1 m2 c2 E v)(hD:∀b,D b→b<w.heap.size∨w.heap.size+4≤b)
 (hrow:zdf w7 (w.heap.size+4) D v' (E ++ [z])) (hg:(w6.alloc o).grownBy w7 v.ownBlock):
 Bx6 w7 (w.heap.size+3) (.int .i64 46) (.int .i64 0) (.string ⟨#[]⟩) (.string ⟨#[]⟩) (.pointer none) v∧JLp w (w7.setCell ⟨w.heap.size+3,5,none⟩ v') D n1 n2 A1 A2 m1 c1 m2 c2 (E ++ [z]) v':=by
 have h5:=h.keep (za w6 o);have hv:∀k,v.ownBlock=some k→w.heap.size+4≤k:=fun k hk=>(h.F.own.lt k hk).1;have hn:∀b,b<w.heap.size+4→some b≠v.ownBlock:=fun b hb e=>by have:=hv b e.symm;omega
 have gs:w7.grownBy (w7.setCell ⟨w.heap.size+3,5,none⟩ v') (some (w.heap.size+3)):=zg w7 ⟨w.heap.size+3,5,none⟩ v';have K7:=h5.K.but hg (hn _ (by omega));have G7:Below w.heap.size w w7:=by
  refine h5.G.trans ?_;rcases hv2:v.ownBlock with _|k
  ·rw [hv2] at hg;exact⟨hg.os,hg.tape,hg.output,hg.size,fun i hi=>hg.block i (Nat.lt_of_lt_of_le hi h5.G.size) (fun e=>nomatch e)⟩
  ·rw [hv2] at hg;exact zaL hg (by have:=hv k hv2;omega) h5.G.size
 refine⟨K7,(h5.X1.but hg (hn _ (by omega))).but gs (fun e=>by injection e with e;omega),(h5.X2.but hg (hn _ (by omega))).but gs (fun e=>by injection e with e;omega),(h5.R.but hg (hn _ (by omega))).but gs (fun e=>by injection e with e;omega),K7.set5 v',?_,?_,?_⟩
 ·exact hrow.keep gs (by omega) (fun hd=>by rcases hD _ hd with h|h <;> omega)
 ·exact G7.trans (zaL gs (by omega) G7.size)
 ·have:=Nat.le_trans h5.z hg.size;simpa [World.setCell] using this
theorem zls{w6:World}{B:Nat→Prop}{k:Kd}{u:List Value}{fb lo:Nat}(hk:KAt w6 (fun b=>B b∨lo≤b) k u)(hfb:fb<lo)(hB:∀b,B b→b<fb)(y0 y1 y2 y3 y4 y5 y6 y7:Value)(o:Obj):
 KAt (((((((((w6.setCell ⟨fb,0,none⟩ y0).setCell ⟨fb,1,none⟩ y1).setCell ⟨fb,2,none⟩ y2).setCell ⟨fb,3,none⟩ y3).setCell ⟨fb,4,none⟩ y4).setCell ⟨fb,5,none⟩ y5).setCell ⟨fb,6,none⟩ y6).setCell ⟨fb,7,none⟩ y7).alloc o) (fun b=>B b∨lo≤b) k u:=by
 have h1:=hk.mono (B':=fun b=>(B b∨lo≤b)∧b<w6.heap.size) fun b h1 h2=>⟨h1,h2⟩
 refine(h1.cong (w':=((((((((w6.setCell ⟨fb,0,none⟩ y0).setCell ⟨fb,1,none⟩ y1).setCell ⟨fb,2,none⟩ y2).setCell ⟨fb,3,none⟩ y3).setCell ⟨fb,4,none⟩ y4).setCell ⟨fb,5,none⟩ y5).setCell ⟨fb,6,none⟩ y6).setCell ⟨fb,7,none⟩ y7).alloc o) fun b hb=>?_).mono fun b hb _=>hb.1;refine((za _ o).block b (by simpa [World.setCell] using hb.2)).trans (zgm w6 fb y0 y1 y2 y3 y4 y5 y6 y7 ?_);rcases hb.1 with h|h
 ·have:=hB b h;omega
 ·omega
theorem zpb(N:Nat)(ih:zqV N)(f g:Fl)(va vb:List Value)(w:World)(B:Nat→Prop)(h:f.sz≤N)(hp:f.sz≤90000)(hq:g.sz≤90000)(ha:KAt w B (.fs f) va)(hb:KAt w B (.fs g) vb)(vf:(Kd.fs f).valid)(vg:(Kd.fs g).valid)(hB:∀b,B b→b<w.heap.size):
 Calls Tryz.prog 102 #[.agg va.toArray,.agg vb.toArray] w (zh1 w B (.fs (jC f g (jK g f)))):=by
 have of:=zb5.1 vf;have og:=zb5.1 vg;clear vf vg;obtain⟨n1,A1,c1,rfl,hc1,hm1,k1⟩:=ha;obtain⟨n2,A2,c2,rfl,hc2,hm2,k2⟩:=hb;have L1:=zmI f;have L2:=zmI g;rw [zet] at hc1 hc2 L1 L2 ⊢;rw [zet];obtain⟨m1,hn1⟩:∃m1,m1=f.list.length:=⟨_,rfl⟩
 obtain⟨m2,hn2⟩:∃m2,m2=g.list.length:=⟨_,rfl⟩
 rw [←hn1] at hc1 L1 ⊢;rw [←hn2] at hc2 L2 ⊢;have KF:=hi9 k1;have KG:=hi9 k2;have HN1:=hi9 hn1;have HN2:=hi9 hn2;have HBD:=hi9 hB;have IH:=hi9 ih;have HSRT:=hi9 (fun L=>zmj (f:=f) (g:=g) (L:=L) of.1 og.1);generalize jC f g (jK g f)=res at *;clear k1 k2 hn1 hn2 hB ih;change Calls Tryz.prog 102 #[.agg #[.int .i64 46,.int .i64 n1,.string ⟨#[]⟩,.string ⟨#[]⟩,.pointer none,.slice A1 m1 c1],.agg #[.int .i64 46,.int .i64 n2,.string ⟨#[]⟩,.string ⟨#[]⟩,.pointer none,.slice A2 m2 c2]] w _;obtain⟨D,hD⟩:∃D:Nat→Prop,D=fun b=>B b∨w.heap.size+4≤b:=⟨_,rfl⟩
 have LP:JLp w ((((w.alloc (.cells #[.int .i64 46,.int .i64 n1,.string ⟨#[]⟩,.string ⟨#[]⟩,.pointer none,.slice A1 m1 c1] 149)).alloc (.cells #[.int .i64 46,.int .i64 n2,.string ⟨#[]⟩,.string ⟨#[]⟩,.pointer none,.slice A2 m2 c2] 149)).alloc (.cells #[.int .i64 0,.int .i64 0,.string ⟨#[]⟩,.string ⟨#[]⟩,.pointer none,.slice none 0 0] 149)).alloc (.cells #[.int .i64 46,.int .i64 0,.string ⟨#[]⟩,.string ⟨#[]⟩,.pointer none,.slice none 0 0] 149)) D n1 n2 A1 A2 m1 c1 m2 c2 [] (.slice none 0 0):=by
  have Ba:=za w (.cells #[.int .i64 46,.int .i64 n1,.string ⟨#[]⟩,.string ⟨#[]⟩,.pointer none,.slice A1 m1 c1] 149);have Bb:=za (w.alloc (.cells #[.int .i64 46,.int .i64 n1,.string ⟨#[]⟩,.string ⟨#[]⟩,.pointer none,.slice A1 m1 c1] 149)) (.cells #[.int .i64 46,.int .i64 n2,.string ⟨#[]⟩,.string ⟨#[]⟩,.pointer none,.slice A2 m2 c2] 149);have Bc:=za ((w.alloc (.cells #[.int .i64 46,.int .i64 n1,.string ⟨#[]⟩,.string ⟨#[]⟩,.pointer none,.slice A1 m1 c1] 149)).alloc (.cells #[.int .i64 46,.int .i64 n2,.string ⟨#[]⟩,.string ⟨#[]⟩,.pointer none,.slice A2 m2 c2] 149)) (.cells #[.int .i64 0,.int .i64 0,.string ⟨#[]⟩,.string ⟨#[]⟩,.pointer none,.slice none 0 0] 149);have Bd:=za (((w.alloc (.cells #[.int .i64 46,.int .i64 n1,.string ⟨#[]⟩,.string ⟨#[]⟩,.pointer none,.slice A1 m1 c1] 149)).alloc (.cells #[.int .i64 46,.int .i64 n2,.string ⟨#[]⟩,.string ⟨#[]⟩,.pointer none,.slice A2 m2 c2] 149)).alloc (.cells #[.int .i64 0,.int .i64 0,.string ⟨#[]⟩,.string ⟨#[]⟩,.pointer none,.slice none 0 0] 149)) (.cells #[.int .i64 46,.int .i64 0,.string ⟨#[]⟩,.string ⟨#[]⟩,.pointer none,.slice none 0 0] 149);have x1:=(((jE w (.int .i64 46) (.int .i64 n1) (.string ⟨#[]⟩) (.string ⟨#[]⟩) (.pointer none) (.slice A1 m1 c1) 149).keep Bb).keep Bc).keep Bd;have x2:=((jE (w.alloc (.cells #[.int .i64 46,.int .i64 n1,.string ⟨#[]⟩,.string ⟨#[]⟩,.pointer none,.slice A1 m1 c1] 149)) (.int .i64 46) (.int .i64 n2) (.string ⟨#[]⟩) (.string ⟨#[]⟩) (.pointer none) (.slice A2 m2 c2) 149).keep Bc).keep Bd;have x3:=(jE ((w.alloc (.cells #[.int .i64 46,.int .i64 n1,.string ⟨#[]⟩,.string ⟨#[]⟩,.pointer none,.slice A1 m1 c1] 149)).alloc (.cells #[.int .i64 46,.int .i64 n2,.string ⟨#[]⟩,.string ⟨#[]⟩,.pointer none,.slice A2 m2 c2] 149)) (.int .i64 0) (.int .i64 0) (.string ⟨#[]⟩) (.string ⟨#[]⟩) (.pointer none) (.slice none 0 0) 149).keep Bd;have x4:=jE (((w.alloc (.cells #[.int .i64 46,.int .i64 n1,.string ⟨#[]⟩,.string ⟨#[]⟩,.pointer none,.slice A1 m1 c1] 149)).alloc (.cells #[.int .i64 46,.int .i64 n2,.string ⟨#[]⟩,.string ⟨#[]⟩,.pointer none,.slice A2 m2 c2] 149)).alloc (.cells #[.int .i64 0,.int .i64 0,.string ⟨#[]⟩,.string ⟨#[]⟩,.pointer none,.slice none 0 0] 149)) (.int .i64 46) (.int .i64 0) (.string ⟨#[]⟩) (.string ⟨#[]⟩) (.pointer none) (.slice none 0 0) 149;have hza:(w.alloc (.cells #[.int .i64 46,.int .i64 n1,.string ⟨#[]⟩,.string ⟨#[]⟩,.pointer none,.slice A1 m1 c1] 149)).heap.size=w.heap.size+1:=by simp
  have hzb:((w.alloc (.cells #[.int .i64 46,.int .i64 n1,.string ⟨#[]⟩,.string ⟨#[]⟩,.pointer none,.slice A1 m1 c1] 149)).alloc (.cells #[.int .i64 46,.int .i64 n2,.string ⟨#[]⟩,.string ⟨#[]⟩,.pointer none,.slice A2 m2 c2] 149)).heap.size=w.heap.size+2:=by simp
  have hzc:(((w.alloc (.cells #[.int .i64 46,.int .i64 n1,.string ⟨#[]⟩,.string ⟨#[]⟩,.pointer none,.slice A1 m1 c1] 149)).alloc (.cells #[.int .i64 46,.int .i64 n2,.string ⟨#[]⟩,.string ⟨#[]⟩,.pointer none,.slice A2 m2 c2] 149)).alloc (.cells #[.int .i64 0,.int .i64 0,.string ⟨#[]⟩,.string ⟨#[]⟩,.pointer none,.slice none 0 0] 149)).heap.size=w.heap.size+3:=by simp
  rw [hza] at x2;rw [hzb] at x3;rw [hzc] at x4;exact⟨x1,x2,x3,x4,zdf.nil _ _ _,Ba.trans ((Bb.trans ((Bc.trans (Bd.mono (by simp))).mono (by simp))).mono (by simp)),by simp⟩
 have LP0:=hi9 LP;have HD:=hi9 hD;clear LP hD;go_enter Tryz.func102,Tryz.ntmps102;go_wp2_with fail;obtain⟨w2,hw2⟩:∃w2,((((w.alloc (.cells #[.int .i64 46,.int .i64 n1,.string ⟨#[]⟩,.string ⟨#[]⟩,.pointer none,.slice A1 m1 c1] 149)).alloc (.cells #[.int .i64 46,.int .i64 n2,.string ⟨#[]⟩,.string ⟨#[]⟩,.pointer none,.slice A2 m2 c2] 149)).alloc (.cells #[.int .i64 0,.int .i64 0,.string ⟨#[]⟩,.string ⟨#[]⟩,.pointer none,.slice none 0 0] 149)).alloc (.cells #[.int .i64 46,.int .i64 0,.string ⟨#[]⟩,.string ⟨#[]⟩,.pointer none,.slice none 0 0] 149))=w2:=⟨_,rfl⟩
 rw [hw2] at LP0 ⊢;clear hw2;have HSZ:=hi9 (show∀b,D b→b<w.heap.size∨w.heap.size+4≤b from fun b hb=>by
  rw [HD.out] at hb
  exact hb.imp (HBD.out b) id)
 have HDB:=hi9 (show∀b,B b∨w.heap.size+4≤b→D b from fun b hb=>by rw [HD.out];exact hb);have HDR:=hi9 (show∀b,D b→B b∨w.heap.size+4≤b from fun b hb=>by rw [HD.out] at hb;exact hb);clear HD;go_loopw [86] (fun i wr=>∃(k:Nat) (E:List Fe) (v:Value),i = .int .i64 k∧k≤m1∧Hid (E.map Fe.y=(f.list.take k).map (zer g))∧Hid (JLp w wr D n1 n2 A1 A2 m1 c1 m2 c2 E v)) (fun i _=>m1-(intOf i).toNat)
 case atStart=>exact⟨0,[],_,rfl,Nat.zero_le _,hi9 rfl,LP0⟩
 case round =>
  clear LP0;obtain⟨k,E,v,rfl,hk,hE,hL⟩:=hrel;by_cases hlt:k<m1
  ·have hkl:k<f.list.length:=by rw [←HN1.out];exact hlt
   obtain⟨a,rfl,hfd⟩:=((KF.out.cong (w':=wr) (fun b hb=>hL.out.G.block b (HBD.out b hb))).at) k _ (List.getElem?_eq_getElem hkl);rw [Nat.zero_add] at hfd;have HYO:=hi9 (show f.list[k].2.2.valid∧f.list[k].2.2.sz<f.sz from by
    have hfi:=(zaX of.1 (s:=f.list[k].1) (m:=f.list[k].2.1) (k:=f.list[k].2.2)).2 (List.getElem_mem hkl)
    exact⟨zdY of.2 hfi,zbG hfi⟩)
   have HEK:=hi9 (show∀z:Fe,z.y=zer g f.list[k]→(E ++ [z]).map Fe.y=(f.list.take (k+1)).map (zer g) from fun z hz=>by
    rw [List.take_succ_eq_append_getElem hkl,List.map_append,List.map_append,hE.out]
    simp [hz])
   have HEL:=hi9 (show E.length≤1000000 by
    have:=congrArg List.length hE.out
    simp at this
    omega)
   obtain⟨y,hy⟩:∃y,y=f.list[k]:=⟨_,rfl⟩
   rw [←hy] at hfd HYO HEK;clear hy;obtain⟨o,nn,s0,t0,p,A',m',c',hkat,q0,q1,q2,q3,q4,q5,q6,q7⟩:=hfd.cells;have HKY:=hi9 hkat;clear hfd hkat;have hm1w:m1≤100000:=by omega
   have hm2w:m2≤100000:=by omega
   obtain⟨x0,x1,x2,x3,x4,x5,-,-,-,-,-,-⟩:=hL.out.X2;have hl2:w.heap.size+1<wr.heap.size:=block_lt_of_cell x0;have Ba:=za wr (.cells #[.string y.1,.bool y.2.1,.int .i64 o,.int .i64 nn,.string s0,.string t0,.pointer p,.slice A' m' c'] 207);have Y4:=zdA wr (.string y.1) (.bool y.2.1) (.int .i64 o) (.int .i64 nn) (.string s0) (.string t0) (.pointer p) (.slice A' m' c') 207;go_wp2_with fail;have La:=hL.out.keep Ba;obtain⟨wa,hwa⟩:∃wa,wr.alloc (.cells #[.string y.1,.bool y.2.1,.int .i64 o,.int .i64 nn,.string s0,.string t0,.pointer p,.slice A' m' c'] 207)=wa:=⟨_,rfl⟩
   rw [hwa] at Ba Y4 La ⊢;clear hwa x0 x1 x2 x3 x4 x5 q0 q1 q2 q3 q4 q5 q6 q7;refine(zka A2 m2 c2 g B _ _ _ _ _ y.1 wa (KG.out.cong (fun b hb=>La.G.block b (HBD.out b hb))) HN2.out hm2w hc2 og.1 (fun b hb=>Nat.lt_of_lt_of_le (HBD.out b hb) La.G.size)).mono ?_;rintro e w4 ⟨b4,hpost⟩;have HB4:=hi9 (Ba.trans (b4.mono Ba.size));have Y5:=hi9 (Y4.keep b4);have L4:=hi9 (La.keep b4);have HKY4:=hi9 (HKY.out.cong (w':=w4) fun b hb=>(Ba.trans (b4.mono Ba.size)).block b (Nat.lt_of_lt_of_le (HBD.out b hb) (by have:=hL.out.G.size;omega)));have hl5:wr.heap.size<w4.heap.size:=block_lt_of_cell Y5.out.c0;clear b4 Ba Y4 La;obtain⟨y0,y1,y2,y3,y4,y5,y6,y7,j0,j1,j2,j3,j4,j5,j6,j7⟩:=Y5.out;rcases hfg:g.find y.1 with _|⟨mm,k'⟩
   ·rw [hfg] at hpost;have hpost:e = .returned (.tuple #[.agg #[.string ⟨#[]⟩,.bool false,.int .i64 0,.int .i64 0,.string ⟨#[]⟩,.string ⟨#[]⟩,.pointer none,.slice none 0 0],.bool false]):=hpost;subst hpost;have HMX:=hi9 (show zer g y=(y.1,false,y.2.2) by unfold zer;rw [hfg]);clear hfg;obtain⟨k0,k1,k2,k3,k4,k5,r0,r1,r2,r3,r4,r5⟩:=L4.out.K;have hlk:w.heap.size+3<w4.heap.size:=block_lt_of_cell k0;have B6:Below wr.heap.size wr ((w4.setCell ⟨wr.heap.size,1,none⟩ (.bool false)).alloc (.cells #[.string ⟨#[]⟩,.bool false,.int .i64 0,.int .i64 0,.string ⟨#[]⟩,.string ⟨#[]⟩,.pointer none,.slice none 0 0] 207)):=(HB4.out.setCell (p:=⟨wr.heap.size,1,none⟩) (Nat.le_refl _) (.bool false)).alloc (by simp [World.setCell];omega) _;have hz6:((w4.setCell ⟨wr.heap.size,1,none⟩ (.bool false)).alloc (.cells #[.string ⟨#[]⟩,.bool false,.int .i64 0,.int .i64 0,.string ⟨#[]⟩,.string ⟨#[]⟩,.pointer none,.slice none 0 0] 207)).heap.size=w4.heap.size+1:=by simp [World.setCell]
    have L6:=hi9 (hL.out.keep B6);have rn:=zcC ((w4.setCell ⟨wr.heap.size,1,none⟩ (.bool false)).alloc (.cells #[.string ⟨#[]⟩,.bool false,.int .i64 0,.int .i64 0,.string ⟨#[]⟩,.string ⟨#[]⟩,.pointer none,.slice none 0 0] 207)) [.string y.1,.bool false,.int .i64 o,.int .i64 nn,.string s0,.string t0,.pointer p,.slice A' m' c'] 207;rw [hz6] at rn;have RN:=hi9 rn;have F6:=hi9 (L6.out.F.keepN (zc (za ((w4.setCell ⟨wr.heap.size,1,none⟩ (.bool false)).alloc (.cells #[.string ⟨#[]⟩,.bool false,.int .i64 0,.int .i64 0,.string ⟨#[]⟩,.string ⟨#[]⟩,.pointer none,.slice none 0 0] 207)) (.cells #[.string y.1,.bool false,.int .i64 o,.int .i64 nn,.string s0,.string t0,.pointer p,.slice A' m' c'] 207)) none));have hz7:(((w4.setCell ⟨wr.heap.size,1,none⟩ (.bool false)).alloc (.cells #[.string ⟨#[]⟩,.bool false,.int .i64 0,.int .i64 0,.string ⟨#[]⟩,.string ⟨#[]⟩,.pointer none,.slice none 0 0] 207)).alloc (.cells #[.string y.1,.bool false,.int .i64 o,.int .i64 nn,.string s0,.string t0,.pointer p,.slice A' m' c'] 207)).heap.size=w4.heap.size+1+1:=by rw [←hz6];simp
    have HZ7:=hi9 hz7;have KK:=hi9 (show KAt (((w4.setCell ⟨wr.heap.size,1,none⟩ (.bool false)).alloc (.cells #[.string ⟨#[]⟩,.bool false,.int .i64 0,.int .i64 0,.string ⟨#[]⟩,.string ⟨#[]⟩,.pointer none,.slice none 0 0] 207)).alloc (.cells #[.string y.1,.bool false,.int .i64 o,.int .i64 nn,.string s0,.string t0,.pointer p,.slice A' m' c'] 207)) (fun b=>D b∧some b≠v.ownBlock) y.2.2 [.int .i64 o,.int .i64 nn,.string s0,.string t0,.pointer p,.slice A' m' c'] from(HKY.out.cong fun b hb=>(B6.trans ((za _ _).mono B6.size)).block b (Nat.lt_of_lt_of_le (HBD.out b hb) hL.out.G.size)).mono fun b hb _=>⟨HDB.out b (.inl hb),fun e=>by have:=HBD.out b hb;have:=(hL.out.F.own.lt b e.symm).1;omega⟩);clear rn hz6 hz7 B6;go_wp2_with (at_builtin;refine zaY rfl _ _ rfl (w.heap.size+4) D v E rfl F6.out ⟨(y.1,false,y.2.2),o,nn,s0,t0,p,A',m',c'⟩ ⟨w4.heap.size+1,0,none⟩ 1 1 rfl rfl RN.out KK.out HEL.out ?c1 ?_)
    case c1=>rw [HZ7.out];have:=hL.out.z;omega
    intro v' w7 hrow hg;obtain⟨K7,LN⟩:=L6.out.next _ HSZ.out hrow hg;have HLN:=hi9 LN;obtain⟨A7,cp7,hv',-,-,-⟩:=hrow.fat (fun b hb=>HDB.out b (.inr hb));obtain⟨nl,hnl⟩:∃nl,nl=(E ++ [(⟨(y.1,false,y.2.2),o,nn,s0,t0,p,A',m',c'⟩:Fe)]).length:=⟨_,rfl⟩
    rw [←hnl] at hv';subst hv';clear hnl hrow hg LN y0 y1 y2 y3 y4 y5 y6 y7 j0 j1 j2 j3 j4 j5 j6 j7 k0 k1 k2 k3 k4 k5 r0 r1 r2 r3 r4 r5;obtain⟨k0,k1,k2,k3,k4,k5,r0,r1,r2,r3,r4,r5⟩:=K7;go_wp2_with fail;go_roundw
    case rel=>exact⟨k+1,E ++ [⟨(y.1,false,y.2.2),o,nn,s0,t0,p,A',m',c'⟩],_,by go_num,hlt,hi9 (HEK.out _ HMX.out.symm),HLN⟩
    case measure=>simp [intOf];omega
   ·rw [hfg] at hpost;obtain⟨u,rfl,hk'⟩:=hpost;have HMX:=hi9 (show zer g y=(y.1,y.2.1 && mm,zm y.2.2 k') by unfold zer;rw [hfg]);have HKO:=hi9 (show k'.valid∧k'.sz<g.sz from⟨zdY og.2 hfg,zbG hfg⟩);obtain⟨o2,n2',s2,t2,p2,A2',m2',c2',rfl⟩:=zbC hk';have Bg:=za w4 (.cells #[.string y.1,.bool mm,.int .i64 o2,.int .i64 n2',.string s2,.string t2,.pointer p2,.slice A2' m2' c2'] 207);have G6:=hi9 (zdA w4 (.string y.1) (.bool mm) (.int .i64 o2) (.int .i64 n2') (.string s2) (.string t2) (.pointer p2) (.slice A2' m2' c2') 207);have Y6:=hi9 (Y5.out.keep Bg);have HZ5:=hi9 (show(w4.alloc (.cells #[.string y.1,.bool mm,.int .i64 o2,.int .i64 n2',.string s2,.string t2,.pointer p2,.slice A2' m2' c2'] 207)).heap.size=w4.heap.size+1 by simp);have HW5:=hi9 (HB4.out.trans (Bg.mono HB4.out.size));have bd5:Below (w4.alloc (.cells #[.string y.1,.bool mm,.int .i64 o2,.int .i64 n2',.string s2,.string t2,.pointer p2,.slice A2' m2' c2'] 207)).heap.size (w4.alloc (.cells #[.string y.1,.bool mm,.int .i64 o2,.int .i64 n2',.string s2,.string t2,.pointer p2,.slice A2' m2' c2'] 207)) (w4.alloc (.cells #[.string y.1,.bool mm,.int .i64 o2,.int .i64 n2',.string s2,.string t2,.pointer p2,.slice A2' m2' c2'] 207)).drew:=⟨rfl,rfl,rfl,Nat.le_refl _,fun _ _=>rfl⟩
    have hKb:∀b,B b→(w4.alloc (.cells #[.string y.1,.bool mm,.int .i64 o2,.int .i64 n2',.string s2,.string t2,.pointer p2,.slice A2' m2' c2'] 207)).drew.heap[b]?=w4.heap[b]?:=fun b hb=>(Bg.trans (bd5.mono Bg.size)).block b (Nat.lt_of_lt_of_le (HBD.out b hb) L4.out.G.size);have KJ:=hi9 (IH.out y.2.2 k' _ _ (w4.alloc (.cells #[.string y.1,.bool mm,.int .i64 o2,.int .i64 n2',.string s2,.string t2,.pointer p2,.slice A2' m2' c2'] 207)).drew B (by have:=HYO.out.2;omega) (by have:=HYO.out.2;omega) (by have:=HKO.out.2;omega) (HKY4.out.cong hKb) (hk'.cong hKb) HYO.out.1 HKO.out.1 (fun b hb=>Nat.lt_of_lt_of_le (HBD.out b hb) (Nat.le_trans L4.out.G.size (Nat.le_trans Bg.size bd5.size))));have BD5:=hi9 bd5;clear hk' hKb bd5 Bg hfg;go_wp2_with fail;obtain⟨w5,hw5⟩:∃w5,w4.alloc (.cells #[.string y.1,.bool mm,.int .i64 o2,.int .i64 n2',.string s2,.string t2,.pointer p2,.slice A2' m2' c2'] 207)=w5:=⟨_,rfl⟩
    rw [hw5] at G6 Y6 HZ5 HW5 KJ BD5 ⊢;clear hw5;obtain⟨ym,hym⟩:∃ym,ym=y.2.1:=⟨_,rfl⟩
    rw [←hym] at Y5 Y6 y1;have HYM:=hi9 hym;clear hym;cases ym
    ·have HSS:=hi9 (fun(w':World) (hb:Below w5.heap.size w5 w')=>(show w'.cell? ⟨wr.heap.size,0,none⟩=some (.string y.1)∧w'.cell? ⟨wr.heap.size,1,none⟩=some (.bool false)∧w'.cell? ⟨wr.heap.size,2,none⟩=some (.int .i64 o)∧w'.cell? ⟨wr.heap.size,3,none⟩=some (.int .i64 nn)∧w'.cell? ⟨wr.heap.size,4,none⟩=some (.string s0)∧w'.cell? ⟨wr.heap.size,5,none⟩=some (.string t0)∧w'.cell? ⟨wr.heap.size,6,none⟩=some (.pointer p)∧w'.cell? ⟨wr.heap.size,7,none⟩=some (Value.slice A' m' c')∧w'.cell? ⟨w4.heap.size,1,none⟩=some (.bool mm)∧w'.cell? ⟨w4.heap.size,2,none⟩=some (.int .i64 o2)∧w'.cell? ⟨w4.heap.size,3,none⟩=some (Value.int .i64 n2')∧w'.cell? ⟨w4.heap.size,4,none⟩=some (.string s2)∧w'.cell? ⟨w4.heap.size,5,none⟩=some (.string t2)∧w'.cell? ⟨w4.heap.size,6,none⟩=some (.pointer p2)∧w'.cell? ⟨w4.heap.size,7,none⟩=some (Value.slice A2' m2' c2') from by
      obtain⟨a0,a1,a2,a3,a4,a5,a6,a7,-,-,-,-,-,-,-,-⟩:=Y6.out.keep hb
      obtain⟨-,b1,b2,b3,b4,b5,b6,b7,-,-,-,-,-,-,-,-⟩:=G6.out.keep hb
      exact⟨a0,a1,a2,a3,a4,a5,a6,a7,b1,b2,b3,b4,b5,b6,b7⟩))
     go_wp2_with fail
     refine wp_region_noPanic ?_
     refine zbq (fun(w':World)=>w'.cell? ⟨wr.heap.size,0,none⟩=some (.string y.1)∧w'.cell? ⟨wr.heap.size,1,none⟩=some (.bool false)∧w'.cell? ⟨wr.heap.size,2,none⟩=some (.int .i64 o)∧w'.cell? ⟨wr.heap.size,3,none⟩=some (.int .i64 nn)∧w'.cell? ⟨wr.heap.size,4,none⟩=some (.string s0)∧w'.cell? ⟨wr.heap.size,5,none⟩=some (.string t0)∧w'.cell? ⟨wr.heap.size,6,none⟩=some (.pointer p)∧w'.cell? ⟨wr.heap.size,7,none⟩=some (Value.slice A' m' c')∧w'.cell? ⟨w4.heap.size,1,none⟩=some (.bool mm)∧w'.cell? ⟨w4.heap.size,2,none⟩=some (.int .i64 o2)∧w'.cell? ⟨w4.heap.size,3,none⟩=some (Value.int .i64 n2')∧w'.cell? ⟨w4.heap.size,4,none⟩=some (.string s2)∧w'.cell? ⟨w4.heap.size,5,none⟩=some (.string t2)∧w'.cell? ⟨w4.heap.size,6,none⟩=some (.pointer p2)∧w'.cell? ⟨w4.heap.size,7,none⟩=some (Value.slice A2' m2' c2')) 14 (by kernel_rfl) (HSS.out _ BD5.out) (fun hHeld=>?_)
     refine zl (i:=0) (oi:=⟨some 98,_,_,_,_,_⟩) (v := .pointer (some ⟨wr.heap.size,0,none⟩)) rfl (by kernel_rfl) (by kernel_rfl) (by kernel_rfl) (by kernel_rfl) (fun _ _ _ h=>h) (.inl ⟨by rfl,fun w' hSw=>?_⟩) hHeld ?_
     ·obtain⟨a0,a1,a2,a3,a4,a5,a6,a7,b1,b2,b3,b4,b5,b6,b7⟩:=hSw
      go_simp
     simp only [Act.put,List.setIfInBounds_toArray,List.set_cons_zero,List.set_cons_succ]
     refine zl (i:=1) (oi:=⟨some 99,_,_,_,_,_⟩) (v := .string y.1) rfl (by kernel_rfl) (by kernel_rfl) (by kernel_rfl) (by kernel_rfl) (fun _ _ _ h=>h) (.inl ⟨by rfl,fun w' hSw=>?_⟩) hHeld ?_
     ·obtain⟨a0,a1,a2,a3,a4,a5,a6,a7,b1,b2,b3,b4,b5,b6,b7⟩:=hSw
      go_simp
     simp only [Act.put,List.setIfInBounds_toArray,List.set_cons_zero,List.set_cons_succ]
     refine zl (i:=2) (oi:=⟨some 100,_,_,_,_,_⟩) (v := .pointer (some ⟨wr.heap.size,1,none⟩)) rfl (by kernel_rfl) (by kernel_rfl) (by kernel_rfl) (by kernel_rfl) (fun _ _ _ h=>h) (.inl ⟨by rfl,fun w' hSw=>?_⟩) hHeld ?_
     ·obtain⟨a0,a1,a2,a3,a4,a5,a6,a7,b1,b2,b3,b4,b5,b6,b7⟩:=hSw
      go_simp
     simp only [Act.put,List.setIfInBounds_toArray,List.set_cons_zero,List.set_cons_succ]
     refine zl (i:=3) (oi:=⟨some 101,_,_,_,_,_⟩) (v := .bool false) rfl (by kernel_rfl) (by kernel_rfl) (by kernel_rfl) (by kernel_rfl) (fun _ _ _ h=>h) (.inl ⟨by rfl,fun w' hSw=>?_⟩) hHeld ?_
     ·obtain⟨a0,a1,a2,a3,a4,a5,a6,a7,b1,b2,b3,b4,b5,b6,b7⟩:=hSw
      go_simp
     simp only [Act.put,List.setIfInBounds_toArray,List.set_cons_zero,List.set_cons_succ]
     refine zl (i:=4) (oi:=⟨some 102,_,_,_,_,_⟩) (v := .bool false) rfl (by kernel_rfl) (by kernel_rfl) (by kernel_rfl) (by kernel_rfl) (fun _ _ _ h=>h) (.inl ⟨by rfl,fun w' hSw=>?_⟩) hHeld ?_
     ·obtain⟨a0,a1,a2,a3,a4,a5,a6,a7,b1,b2,b3,b4,b5,b6,b7⟩:=hSw
      go_simp
     simp only [Act.put,List.setIfInBounds_toArray,List.set_cons_zero,List.set_cons_succ]
     refine zl (i:=5) (oi:=⟨some 103,_,_,_,_,_⟩) (v:=undef) rfl (by kernel_rfl) (by kernel_rfl) (by kernel_rfl) (by kernel_rfl) (fun _ _ _ h=>h) (.inr ⟨by rfl,rfl⟩) hHeld ?_
     simp only [Act.put,List.setIfInBounds_toArray,List.set_cons_zero,List.set_cons_succ]
     refine zl (i:=6) (oi:=⟨some 104,_,_,_,_,_⟩) (v:=undef) rfl (by kernel_rfl) (by kernel_rfl) (by kernel_rfl) (by kernel_rfl) (fun _ _ _ h=>h) (.inr ⟨by rfl,rfl⟩) hHeld ?_
     simp only [Act.put,List.setIfInBounds_toArray,List.set_cons_zero,List.set_cons_succ]
     refine zl (i:=7) (oi:=⟨some 105,_,_,_,_,_⟩) (v := .bool false) rfl (by kernel_rfl) (by kernel_rfl) (by kernel_rfl) (by kernel_rfl) (fun _ _ _ h=>h) (.inl ⟨by rfl,fun w' hSw=>?_⟩) hHeld ?_
     ·obtain⟨a0,a1,a2,a3,a4,a5,a6,a7,b1,b2,b3,b4,b5,b6,b7⟩:=hSw
      go_simp
     simp only [Act.put,List.setIfInBounds_toArray,List.set_cons_zero,List.set_cons_succ]
     refine zl (i:=8) (oi:=⟨some 106,_,_,_,_,_⟩) (v := .pointer (some ⟨wr.heap.size,2,none⟩)) rfl (by kernel_rfl) (by kernel_rfl) (by kernel_rfl) (by kernel_rfl) (fun _ _ _ h=>h) (.inl ⟨by rfl,fun w' hSw=>?_⟩) hHeld ?_
     ·obtain⟨a0,a1,a2,a3,a4,a5,a6,a7,b1,b2,b3,b4,b5,b6,b7⟩:=hSw
      go_simp
     simp only [Act.put,List.setIfInBounds_toArray,List.set_cons_zero,List.set_cons_succ]
     refine zl (i:=9) (oi:=⟨some 107,_,_,_,_,_⟩) (v := .agg #[.int .i64 o,.int .i64 nn,.string s0,.string t0,.pointer p,.slice A' m' c']) rfl (by kernel_rfl) (by kernel_rfl) (by kernel_rfl) (by kernel_rfl) (fun _ _ _ h=>h) (.inl ⟨by rfl,fun w' hSw=>?_⟩) hHeld ?_
     ·obtain⟨a0,a1,a2,a3,a4,a5,a6,a7,b1,b2,b3,b4,b5,b6,b7⟩:=hSw
      go_simp
     simp only [Act.put,List.setIfInBounds_toArray,List.set_cons_zero,List.set_cons_succ]
     refine zl (i:=10) (oi:=⟨some 108,_,_,_,_,_⟩) (v := .pointer (some ⟨w4.heap.size,2,none⟩)) rfl (by kernel_rfl) (by kernel_rfl) (by kernel_rfl) (by kernel_rfl) (fun _ _ _ h=>h) (.inl ⟨by rfl,fun w' hSw=>?_⟩) hHeld ?_
     ·obtain⟨a0,a1,a2,a3,a4,a5,a6,a7,b1,b2,b3,b4,b5,b6,b7⟩:=hSw
      go_simp
     simp only [Act.put,List.setIfInBounds_toArray,List.set_cons_zero,List.set_cons_succ]
     refine zl (i:=11) (oi:=⟨some 109,_,_,_,_,_⟩) (v := .agg #[.int .i64 o2,.int .i64 n2',.string s2,.string t2,.pointer p2,.slice A2' m2' c2']) rfl (by kernel_rfl) (by kernel_rfl) (by kernel_rfl) (by kernel_rfl) (fun _ _ _ h=>h) (.inl ⟨by rfl,fun w' hSw=>?_⟩) hHeld ?_
     ·obtain⟨a0,a1,a2,a3,a4,a5,a6,a7,b1,b2,b3,b4,b5,b6,b7⟩:=hSw
      go_simp
     simp only [Act.put,List.setIfInBounds_toArray,List.set_cons_zero,List.set_cons_succ]
     refine zN (i:=12) (o:=⟨some 110,_,_,_,_,_⟩) (by kernel_rfl) rfl (fun K' hK'=>?_)
     go_simp
     go_at_call 102
     refine KJ.out.mono ?_
     rintro e w6 ⟨u,rfl,ku,b6⟩
     obtain⟨o5,n5,s5,t5,p5,A5,m5,c5,rfl⟩:=zbC ku
     have KU:=hi9 ku
     have B56:=hi9 (BD5.out.trans (b6.mono BD5.out.size))
     clear ku b6
     go_wp2_with fail
     refine hK'.out _ _ (fun _=>HSS.out _ B56.out) ?_
     clear hK' K' hHeld
     try simp only [Act.put,List.setIfInBounds_toArray,List.set_cons_zero,List.set_cons_succ]
     refine zl (i:=13) (oi:=⟨some 111,_,_,_,_,_⟩) (v := .agg #[.string y.1,.bool false,.int .i64 o5,.int .i64 n5,.string s5,.string t5,.pointer p5,.slice A5 m5 c5]) rfl (by kernel_rfl) (by kernel_rfl) (by kernel_rfl) (by kernel_rfl) (fun _ _ _ h=>h) (.inl ⟨by rfl,fun w' hSw=>?_⟩) (HSS.out _ B56.out) ?_
     ·clear hSw
      go_simp
     simp only [Act.put,List.setIfInBounds_toArray,List.set_cons_zero,List.set_cons_succ]
     obtain⟨a0,a1,a2,a3,a4,a5,a6,a7,j0,j1,j2,j3,j4,j5,j6,j7⟩:=Y6.out.keep B56.out
     refine zN (i:=14) (o:=⟨none,_,_,_,_,_⟩) (by kernel_rfl) rfl (fun K' hK'=>?_)
     go_simp
     refine hK'.out _ _ (fun h=>absurd rfl h) ?_
     refine j8 (by kernel_rfl) ?_
     refine NoPanic.normal ?_
     have HB6:=hi9 (HW5.out.trans (B56.out.mono HW5.out.size))
     clear hK' K'
     obtain⟨k0,k1,k2,k3,k4,k5,r0,r1,r2,r3,r4,r5⟩:=(hL.out.keep HB6.out).K
     have hlk:w.heap.size+3<wr.heap.size:=by have:=hL.out.z;omega
     have hlk6:w.heap.size+3<w6.heap.size:=by have:=HB6.out.size;omega
     have B6:Below wr.heap.size wr ((((((((w6.setCell ⟨wr.heap.size,0,none⟩ (.string y.1)).setCell ⟨wr.heap.size,1,none⟩ (.bool false)).setCell ⟨wr.heap.size,2,none⟩ (.int .i64 o5)).setCell ⟨wr.heap.size,3,none⟩ (.int .i64 n5)).setCell ⟨wr.heap.size,4,none⟩ (.string s5)).setCell ⟨wr.heap.size,5,none⟩ (.string t5)).setCell ⟨wr.heap.size,6,none⟩ (.pointer p5)).setCell ⟨wr.heap.size,7,none⟩ (.slice A5 m5 c5)):=zdR HB6.out (Nat.le_refl _) _ _ _ _ _ _ _ _
     have hz6:((((((((w6.setCell ⟨wr.heap.size,0,none⟩ (.string y.1)).setCell ⟨wr.heap.size,1,none⟩ (.bool false)).setCell ⟨wr.heap.size,2,none⟩ (.int .i64 o5)).setCell ⟨wr.heap.size,3,none⟩ (.int .i64 n5)).setCell ⟨wr.heap.size,4,none⟩ (.string s5)).setCell ⟨wr.heap.size,5,none⟩ (.string t5)).setCell ⟨wr.heap.size,6,none⟩ (.pointer p5)).setCell ⟨wr.heap.size,7,none⟩ (.slice A5 m5 c5)).heap.size=w6.heap.size:=by simp [World.setCell]
     have L6:=hi9 (hL.out.keep B6)
     have rn:=zcC ((((((((w6.setCell ⟨wr.heap.size,0,none⟩ (.string y.1)).setCell ⟨wr.heap.size,1,none⟩ (.bool false)).setCell ⟨wr.heap.size,2,none⟩ (.int .i64 o5)).setCell ⟨wr.heap.size,3,none⟩ (.int .i64 n5)).setCell ⟨wr.heap.size,4,none⟩ (.string s5)).setCell ⟨wr.heap.size,5,none⟩ (.string t5)).setCell ⟨wr.heap.size,6,none⟩ (.pointer p5)).setCell ⟨wr.heap.size,7,none⟩ (.slice A5 m5 c5)) [.string y.1,.bool false,.int .i64 o5,.int .i64 n5,.string s5,.string t5,.pointer p5,.slice A5 m5 c5] 207
     rw [hz6] at rn
     have RN:=hi9 rn
     have F6:=hi9 (L6.out.F.keepN (zc (za ((((((((w6.setCell ⟨wr.heap.size,0,none⟩ (.string y.1)).setCell ⟨wr.heap.size,1,none⟩ (.bool false)).setCell ⟨wr.heap.size,2,none⟩ (.int .i64 o5)).setCell ⟨wr.heap.size,3,none⟩ (.int .i64 n5)).setCell ⟨wr.heap.size,4,none⟩ (.string s5)).setCell ⟨wr.heap.size,5,none⟩ (.string t5)).setCell ⟨wr.heap.size,6,none⟩ (.pointer p5)).setCell ⟨wr.heap.size,7,none⟩ (.slice A5 m5 c5)) (.cells #[.string y.1,.bool false,.int .i64 o5,.int .i64 n5,.string s5,.string t5,.pointer p5,.slice A5 m5 c5] 207)) none))
     have hz7:(((((((((w6.setCell ⟨wr.heap.size,0,none⟩ (.string y.1)).setCell ⟨wr.heap.size,1,none⟩ (.bool false)).setCell ⟨wr.heap.size,2,none⟩ (.int .i64 o5)).setCell ⟨wr.heap.size,3,none⟩ (.int .i64 n5)).setCell ⟨wr.heap.size,4,none⟩ (.string s5)).setCell ⟨wr.heap.size,5,none⟩ (.string t5)).setCell ⟨wr.heap.size,6,none⟩ (.pointer p5)).setCell ⟨wr.heap.size,7,none⟩ (.slice A5 m5 c5)).alloc (.cells #[.string y.1,.bool false,.int .i64 o5,.int .i64 n5,.string s5,.string t5,.pointer p5,.slice A5 m5 c5] 207)).heap.size=w6.heap.size+1:=by rw [←hz6];simp
     have HZ7:=hi9 hz7
     have KK:=hi9 (show KAt (((((((((w6.setCell ⟨wr.heap.size,0,none⟩ (.string y.1)).setCell ⟨wr.heap.size,1,none⟩ (.bool false)).setCell ⟨wr.heap.size,2,none⟩ (.int .i64 o5)).setCell ⟨wr.heap.size,3,none⟩ (.int .i64 n5)).setCell ⟨wr.heap.size,4,none⟩ (.string s5)).setCell ⟨wr.heap.size,5,none⟩ (.string t5)).setCell ⟨wr.heap.size,6,none⟩ (.pointer p5)).setCell ⟨wr.heap.size,7,none⟩ (.slice A5 m5 c5)).alloc (.cells #[.string y.1,.bool false,.int .i64 o5,.int .i64 n5,.string s5,.string t5,.pointer p5,.slice A5 m5 c5] 207)) (fun b=>D b∧some b≠v.ownBlock) (zm y.2.2 k') [.int .i64 o5,.int .i64 n5,.string s5,.string t5,.pointer p5,.slice A5 m5 c5] from(zls (fb:=wr.heap.size) (KU.out.mono (B':=fun b=>B b∨w4.heap.size+1≤b) fun b h _=>h.imp_right fun h=>by have:=HZ5.out;have h':w5.heap.size≤b:=h;omega) (by omega) (fun b hb=>by have:=HBD.out b hb;omega) _ _ _ _ _ _ _ _ _).mono fun b hb _=>⟨HDB.out b (hb.imp_right fun h=>by omega),fun e=>by have:=hL.out.F.own.lt b e.symm;rcases hb with h|h;(have:=HBD.out b h;omega);omega⟩)
     clear rn hz6 hz7 B6
     go_wp2_with (at_builtin;refine zaY rfl _ _ rfl (w.heap.size+4) D v E rfl F6.out ⟨(y.1,false,zm y.2.2 k'),o5,n5,s5,t5,p5,A5,m5,c5⟩ ⟨w6.heap.size,0,none⟩ 1 1 rfl rfl RN.out KK.out HEL.out ?c1 ?_)
     case c1=>rw [HZ7.out];have:=hL.out.z;have:=HB6.out.size;omega
     intro v' w7 hrow hg
     obtain⟨K7,LN⟩:=L6.out.next _ HSZ.out hrow hg
     have HLN:=hi9 LN
     obtain⟨A7,cp7,hv',-,-,-⟩:=hrow.fat (fun b hb=>HDB.out b (.inr hb))
     obtain⟨nl,hnl⟩:∃nl,nl=(E ++ [(⟨(y.1,false,zm y.2.2 k'),o5,n5,s5,t5,p5,A5,m5,c5⟩:Fe)]).length:=⟨_,rfl⟩
     rw [←hnl] at hv'
     subst hv'
     clear hnl hrow hg LN a0 a1 a2 a3 a4 a5 a6 a7 j0 j1 j2 j3 j4 j5 j6 j7 k0 k1 k2 k3 k4 k5 r0 r1 r2 r3 r4 r5
     obtain⟨k0,k1,k2,k3,k4,k5,r0,r1,r2,r3,r4,r5⟩:=K7
     go_wp2_with fail
     go_roundw
     case rel=>exact⟨k+1,E ++ [⟨(y.1,false,zm y.2.2 k'),o5,n5,s5,t5,p5,A5,m5,c5⟩],_,by go_num,hlt,hi9 (HEK.out _ (HMX.out.trans (by rw [←HYM.out];rfl)).symm),HLN⟩
     case measure=>simp [intOf];omega
    ·have HSS:=hi9 (fun(w':World) (hb:Below w5.heap.size w5 w')=>(show w'.cell? ⟨wr.heap.size,0,none⟩=some (.string y.1)∧w'.cell? ⟨wr.heap.size,1,none⟩=some (.bool true)∧w'.cell? ⟨wr.heap.size,2,none⟩=some (.int .i64 o)∧w'.cell? ⟨wr.heap.size,3,none⟩=some (.int .i64 nn)∧w'.cell? ⟨wr.heap.size,4,none⟩=some (.string s0)∧w'.cell? ⟨wr.heap.size,5,none⟩=some (.string t0)∧w'.cell? ⟨wr.heap.size,6,none⟩=some (.pointer p)∧w'.cell? ⟨wr.heap.size,7,none⟩=some (Value.slice A' m' c')∧w'.cell? ⟨w4.heap.size,1,none⟩=some (.bool mm)∧w'.cell? ⟨w4.heap.size,2,none⟩=some (.int .i64 o2)∧w'.cell? ⟨w4.heap.size,3,none⟩=some (Value.int .i64 n2')∧w'.cell? ⟨w4.heap.size,4,none⟩=some (.string s2)∧w'.cell? ⟨w4.heap.size,5,none⟩=some (.string t2)∧w'.cell? ⟨w4.heap.size,6,none⟩=some (.pointer p2)∧w'.cell? ⟨w4.heap.size,7,none⟩=some (Value.slice A2' m2' c2') from by
      obtain⟨a0,a1,a2,a3,a4,a5,a6,a7,-,-,-,-,-,-,-,-⟩:=Y6.out.keep hb
      obtain⟨-,b1,b2,b3,b4,b5,b6,b7,-,-,-,-,-,-,-,-⟩:=G6.out.keep hb
      exact⟨a0,a1,a2,a3,a4,a5,a6,a7,b1,b2,b3,b4,b5,b6,b7⟩))
     go_wp2_with fail
     refine wp_region_noPanic ?_
     refine zbq (fun(w':World)=>w'.cell? ⟨wr.heap.size,0,none⟩=some (.string y.1)∧w'.cell? ⟨wr.heap.size,1,none⟩=some (.bool true)∧w'.cell? ⟨wr.heap.size,2,none⟩=some (.int .i64 o)∧w'.cell? ⟨wr.heap.size,3,none⟩=some (.int .i64 nn)∧w'.cell? ⟨wr.heap.size,4,none⟩=some (.string s0)∧w'.cell? ⟨wr.heap.size,5,none⟩=some (.string t0)∧w'.cell? ⟨wr.heap.size,6,none⟩=some (.pointer p)∧w'.cell? ⟨wr.heap.size,7,none⟩=some (Value.slice A' m' c')∧w'.cell? ⟨w4.heap.size,1,none⟩=some (.bool mm)∧w'.cell? ⟨w4.heap.size,2,none⟩=some (.int .i64 o2)∧w'.cell? ⟨w4.heap.size,3,none⟩=some (Value.int .i64 n2')∧w'.cell? ⟨w4.heap.size,4,none⟩=some (.string s2)∧w'.cell? ⟨w4.heap.size,5,none⟩=some (.string t2)∧w'.cell? ⟨w4.heap.size,6,none⟩=some (.pointer p2)∧w'.cell? ⟨w4.heap.size,7,none⟩=some (Value.slice A2' m2' c2')) 14 (by kernel_rfl) (HSS.out _ BD5.out) (fun hHeld=>?_)
     refine zl (i:=0) (oi:=⟨some 98,_,_,_,_,_⟩) (v := .pointer (some ⟨wr.heap.size,0,none⟩)) rfl (by kernel_rfl) (by kernel_rfl) (by kernel_rfl) (by kernel_rfl) (fun _ _ _ h=>h) (.inl ⟨by rfl,fun w' hSw=>?_⟩) hHeld ?_
     ·obtain⟨a0,a1,a2,a3,a4,a5,a6,a7,b1,b2,b3,b4,b5,b6,b7⟩:=hSw
      go_simp
     simp only [Act.put,List.setIfInBounds_toArray,List.set_cons_zero,List.set_cons_succ]
     refine zl (i:=1) (oi:=⟨some 99,_,_,_,_,_⟩) (v := .string y.1) rfl (by kernel_rfl) (by kernel_rfl) (by kernel_rfl) (by kernel_rfl) (fun _ _ _ h=>h) (.inl ⟨by rfl,fun w' hSw=>?_⟩) hHeld ?_
     ·obtain⟨a0,a1,a2,a3,a4,a5,a6,a7,b1,b2,b3,b4,b5,b6,b7⟩:=hSw
      go_simp
     simp only [Act.put,List.setIfInBounds_toArray,List.set_cons_zero,List.set_cons_succ]
     refine zl (i:=2) (oi:=⟨some 100,_,_,_,_,_⟩) (v := .pointer (some ⟨wr.heap.size,1,none⟩)) rfl (by kernel_rfl) (by kernel_rfl) (by kernel_rfl) (by kernel_rfl) (fun _ _ _ h=>h) (.inl ⟨by rfl,fun w' hSw=>?_⟩) hHeld ?_
     ·obtain⟨a0,a1,a2,a3,a4,a5,a6,a7,b1,b2,b3,b4,b5,b6,b7⟩:=hSw
      go_simp
     simp only [Act.put,List.setIfInBounds_toArray,List.set_cons_zero,List.set_cons_succ]
     refine zl (i:=3) (oi:=⟨some 101,_,_,_,_,_⟩) (v := .bool true) rfl (by kernel_rfl) (by kernel_rfl) (by kernel_rfl) (by kernel_rfl) (fun _ _ _ h=>h) (.inl ⟨by rfl,fun w' hSw=>?_⟩) hHeld ?_
     ·obtain⟨a0,a1,a2,a3,a4,a5,a6,a7,b1,b2,b3,b4,b5,b6,b7⟩:=hSw
      go_simp
     simp only [Act.put,List.setIfInBounds_toArray,List.set_cons_zero,List.set_cons_succ]
     refine zl (i:=4) (oi:=⟨some 102,_,_,_,_,_⟩) (v := .bool true) rfl (by kernel_rfl) (by kernel_rfl) (by kernel_rfl) (by kernel_rfl) (fun _ _ _ h=>h) (.inl ⟨by rfl,fun w' hSw=>?_⟩) hHeld ?_
     ·obtain⟨a0,a1,a2,a3,a4,a5,a6,a7,b1,b2,b3,b4,b5,b6,b7⟩:=hSw
      go_simp
     simp only [Act.put,List.setIfInBounds_toArray,List.set_cons_zero,List.set_cons_succ]
     refine zl (i:=5) (oi:=⟨some 103,_,_,_,_,_⟩) (v := .pointer (some ⟨w4.heap.size,1,none⟩)) rfl (by kernel_rfl) (by kernel_rfl) (by kernel_rfl) (by kernel_rfl) (fun _ _ _ h=>h) (.inl ⟨by rfl,fun w' hSw=>?_⟩) hHeld ?_
     ·obtain⟨a0,a1,a2,a3,a4,a5,a6,a7,b1,b2,b3,b4,b5,b6,b7⟩:=hSw
      go_simp
     simp only [Act.put,List.setIfInBounds_toArray,List.set_cons_zero,List.set_cons_succ]
     refine zl (i:=6) (oi:=⟨some 104,_,_,_,_,_⟩) (v := .bool mm) rfl (by kernel_rfl) (by kernel_rfl) (by kernel_rfl) (by kernel_rfl) (fun _ _ _ h=>h) (.inl ⟨by rfl,fun w' hSw=>?_⟩) hHeld ?_
     ·obtain⟨a0,a1,a2,a3,a4,a5,a6,a7,b1,b2,b3,b4,b5,b6,b7⟩:=hSw
      go_simp
     simp only [Act.put,List.setIfInBounds_toArray,List.set_cons_zero,List.set_cons_succ]
     refine zl (i:=7) (oi:=⟨some 105,_,_,_,_,_⟩) (v := .bool mm) rfl (by kernel_rfl) (by kernel_rfl) (by kernel_rfl) (by kernel_rfl) (fun _ _ _ h=>h) (.inl ⟨by rfl,fun w' hSw=>?_⟩) hHeld ?_
     ·obtain⟨a0,a1,a2,a3,a4,a5,a6,a7,b1,b2,b3,b4,b5,b6,b7⟩:=hSw
      go_simp
     simp only [Act.put,List.setIfInBounds_toArray,List.set_cons_zero,List.set_cons_succ]
     refine zl (i:=8) (oi:=⟨some 106,_,_,_,_,_⟩) (v := .pointer (some ⟨wr.heap.size,2,none⟩)) rfl (by kernel_rfl) (by kernel_rfl) (by kernel_rfl) (by kernel_rfl) (fun _ _ _ h=>h) (.inl ⟨by rfl,fun w' hSw=>?_⟩) hHeld ?_
     ·obtain⟨a0,a1,a2,a3,a4,a5,a6,a7,b1,b2,b3,b4,b5,b6,b7⟩:=hSw
      go_simp
     simp only [Act.put,List.setIfInBounds_toArray,List.set_cons_zero,List.set_cons_succ]
     refine zl (i:=9) (oi:=⟨some 107,_,_,_,_,_⟩) (v := .agg #[.int .i64 o,.int .i64 nn,.string s0,.string t0,.pointer p,.slice A' m' c']) rfl (by kernel_rfl) (by kernel_rfl) (by kernel_rfl) (by kernel_rfl) (fun _ _ _ h=>h) (.inl ⟨by rfl,fun w' hSw=>?_⟩) hHeld ?_
     ·obtain⟨a0,a1,a2,a3,a4,a5,a6,a7,b1,b2,b3,b4,b5,b6,b7⟩:=hSw
      go_simp
     simp only [Act.put,List.setIfInBounds_toArray,List.set_cons_zero,List.set_cons_succ]
     refine zl (i:=10) (oi:=⟨some 108,_,_,_,_,_⟩) (v := .pointer (some ⟨w4.heap.size,2,none⟩)) rfl (by kernel_rfl) (by kernel_rfl) (by kernel_rfl) (by kernel_rfl) (fun _ _ _ h=>h) (.inl ⟨by rfl,fun w' hSw=>?_⟩) hHeld ?_
     ·obtain⟨a0,a1,a2,a3,a4,a5,a6,a7,b1,b2,b3,b4,b5,b6,b7⟩:=hSw
      go_simp
     simp only [Act.put,List.setIfInBounds_toArray,List.set_cons_zero,List.set_cons_succ]
     refine zl (i:=11) (oi:=⟨some 109,_,_,_,_,_⟩) (v := .agg #[.int .i64 o2,.int .i64 n2',.string s2,.string t2,.pointer p2,.slice A2' m2' c2']) rfl (by kernel_rfl) (by kernel_rfl) (by kernel_rfl) (by kernel_rfl) (fun _ _ _ h=>h) (.inl ⟨by rfl,fun w' hSw=>?_⟩) hHeld ?_
     ·obtain⟨a0,a1,a2,a3,a4,a5,a6,a7,b1,b2,b3,b4,b5,b6,b7⟩:=hSw
      go_simp
     simp only [Act.put,List.setIfInBounds_toArray,List.set_cons_zero,List.set_cons_succ]
     refine zN (i:=12) (o:=⟨some 110,_,_,_,_,_⟩) (by kernel_rfl) rfl (fun K' hK'=>?_)
     go_simp
     go_at_call 102
     refine KJ.out.mono ?_
     rintro e w6 ⟨u,rfl,ku,b6⟩
     obtain⟨o5,n5,s5,t5,p5,A5,m5,c5,rfl⟩:=zbC ku
     have KU:=hi9 ku
     have B56:=hi9 (BD5.out.trans (b6.mono BD5.out.size))
     clear ku b6
     go_wp2_with fail
     refine hK'.out _ _ (fun _=>HSS.out _ B56.out) ?_
     clear hK' K' hHeld
     try simp only [Act.put,List.setIfInBounds_toArray,List.set_cons_zero,List.set_cons_succ]
     refine zl (i:=13) (oi:=⟨some 111,_,_,_,_,_⟩) (v := .agg #[.string y.1,.bool mm,.int .i64 o5,.int .i64 n5,.string s5,.string t5,.pointer p5,.slice A5 m5 c5]) rfl (by kernel_rfl) (by kernel_rfl) (by kernel_rfl) (by kernel_rfl) (fun _ _ _ h=>h) (.inl ⟨by rfl,fun w' hSw=>?_⟩) (HSS.out _ B56.out) ?_
     ·clear hSw
      go_simp
     simp only [Act.put,List.setIfInBounds_toArray,List.set_cons_zero,List.set_cons_succ]
     obtain⟨a0,a1,a2,a3,a4,a5,a6,a7,j0,j1,j2,j3,j4,j5,j6,j7⟩:=Y6.out.keep B56.out
     refine zN (i:=14) (o:=⟨none,_,_,_,_,_⟩) (by kernel_rfl) rfl (fun K' hK'=>?_)
     go_simp
     refine hK'.out _ _ (fun h=>absurd rfl h) ?_
     refine j8 (by kernel_rfl) ?_
     refine NoPanic.normal ?_
     have HB6:=hi9 (HW5.out.trans (B56.out.mono HW5.out.size))
     clear hK' K'
     obtain⟨k0,k1,k2,k3,k4,k5,r0,r1,r2,r3,r4,r5⟩:=(hL.out.keep HB6.out).K
     have hlk:w.heap.size+3<wr.heap.size:=by have:=hL.out.z;omega
     have hlk6:w.heap.size+3<w6.heap.size:=by have:=HB6.out.size;omega
     have B6:Below wr.heap.size wr ((((((((w6.setCell ⟨wr.heap.size,0,none⟩ (.string y.1)).setCell ⟨wr.heap.size,1,none⟩ (.bool mm)).setCell ⟨wr.heap.size,2,none⟩ (.int .i64 o5)).setCell ⟨wr.heap.size,3,none⟩ (.int .i64 n5)).setCell ⟨wr.heap.size,4,none⟩ (.string s5)).setCell ⟨wr.heap.size,5,none⟩ (.string t5)).setCell ⟨wr.heap.size,6,none⟩ (.pointer p5)).setCell ⟨wr.heap.size,7,none⟩ (.slice A5 m5 c5)):=zdR HB6.out (Nat.le_refl _) _ _ _ _ _ _ _ _
     have hz6:((((((((w6.setCell ⟨wr.heap.size,0,none⟩ (.string y.1)).setCell ⟨wr.heap.size,1,none⟩ (.bool mm)).setCell ⟨wr.heap.size,2,none⟩ (.int .i64 o5)).setCell ⟨wr.heap.size,3,none⟩ (.int .i64 n5)).setCell ⟨wr.heap.size,4,none⟩ (.string s5)).setCell ⟨wr.heap.size,5,none⟩ (.string t5)).setCell ⟨wr.heap.size,6,none⟩ (.pointer p5)).setCell ⟨wr.heap.size,7,none⟩ (.slice A5 m5 c5)).heap.size=w6.heap.size:=by simp [World.setCell]
     have L6:=hi9 (hL.out.keep B6)
     have rn:=zcC ((((((((w6.setCell ⟨wr.heap.size,0,none⟩ (.string y.1)).setCell ⟨wr.heap.size,1,none⟩ (.bool mm)).setCell ⟨wr.heap.size,2,none⟩ (.int .i64 o5)).setCell ⟨wr.heap.size,3,none⟩ (.int .i64 n5)).setCell ⟨wr.heap.size,4,none⟩ (.string s5)).setCell ⟨wr.heap.size,5,none⟩ (.string t5)).setCell ⟨wr.heap.size,6,none⟩ (.pointer p5)).setCell ⟨wr.heap.size,7,none⟩ (.slice A5 m5 c5)) [.string y.1,.bool mm,.int .i64 o5,.int .i64 n5,.string s5,.string t5,.pointer p5,.slice A5 m5 c5] 207
     rw [hz6] at rn
     have RN:=hi9 rn
     have F6:=hi9 (L6.out.F.keepN (zc (za ((((((((w6.setCell ⟨wr.heap.size,0,none⟩ (.string y.1)).setCell ⟨wr.heap.size,1,none⟩ (.bool mm)).setCell ⟨wr.heap.size,2,none⟩ (.int .i64 o5)).setCell ⟨wr.heap.size,3,none⟩ (.int .i64 n5)).setCell ⟨wr.heap.size,4,none⟩ (.string s5)).setCell ⟨wr.heap.size,5,none⟩ (.string t5)).setCell ⟨wr.heap.size,6,none⟩ (.pointer p5)).setCell ⟨wr.heap.size,7,none⟩ (.slice A5 m5 c5)) (.cells #[.string y.1,.bool mm,.int .i64 o5,.int .i64 n5,.string s5,.string t5,.pointer p5,.slice A5 m5 c5] 207)) none))
     have hz7:(((((((((w6.setCell ⟨wr.heap.size,0,none⟩ (.string y.1)).setCell ⟨wr.heap.size,1,none⟩ (.bool mm)).setCell ⟨wr.heap.size,2,none⟩ (.int .i64 o5)).setCell ⟨wr.heap.size,3,none⟩ (.int .i64 n5)).setCell ⟨wr.heap.size,4,none⟩ (.string s5)).setCell ⟨wr.heap.size,5,none⟩ (.string t5)).setCell ⟨wr.heap.size,6,none⟩ (.pointer p5)).setCell ⟨wr.heap.size,7,none⟩ (.slice A5 m5 c5)).alloc (.cells #[.string y.1,.bool mm,.int .i64 o5,.int .i64 n5,.string s5,.string t5,.pointer p5,.slice A5 m5 c5] 207)).heap.size=w6.heap.size+1:=by rw [←hz6];simp
     have HZ7:=hi9 hz7
     have KK:=hi9 (show KAt (((((((((w6.setCell ⟨wr.heap.size,0,none⟩ (.string y.1)).setCell ⟨wr.heap.size,1,none⟩ (.bool mm)).setCell ⟨wr.heap.size,2,none⟩ (.int .i64 o5)).setCell ⟨wr.heap.size,3,none⟩ (.int .i64 n5)).setCell ⟨wr.heap.size,4,none⟩ (.string s5)).setCell ⟨wr.heap.size,5,none⟩ (.string t5)).setCell ⟨wr.heap.size,6,none⟩ (.pointer p5)).setCell ⟨wr.heap.size,7,none⟩ (.slice A5 m5 c5)).alloc (.cells #[.string y.1,.bool mm,.int .i64 o5,.int .i64 n5,.string s5,.string t5,.pointer p5,.slice A5 m5 c5] 207)) (fun b=>D b∧some b≠v.ownBlock) (zm y.2.2 k') [.int .i64 o5,.int .i64 n5,.string s5,.string t5,.pointer p5,.slice A5 m5 c5] from(zls (fb:=wr.heap.size) (KU.out.mono (B':=fun b=>B b∨w4.heap.size+1≤b) fun b h _=>h.imp_right fun h=>by have:=HZ5.out;have h':w5.heap.size≤b:=h;omega) (by omega) (fun b hb=>by have:=HBD.out b hb;omega) _ _ _ _ _ _ _ _ _).mono fun b hb _=>⟨HDB.out b (hb.imp_right fun h=>by omega),fun e=>by have:=hL.out.F.own.lt b e.symm;rcases hb with h|h;(have:=HBD.out b h;omega);omega⟩)
     clear rn hz6 hz7 B6
     go_wp2_with (at_builtin;refine zaY rfl _ _ rfl (w.heap.size+4) D v E rfl F6.out ⟨(y.1,mm,zm y.2.2 k'),o5,n5,s5,t5,p5,A5,m5,c5⟩ ⟨w6.heap.size,0,none⟩ 1 1 rfl rfl RN.out KK.out HEL.out ?c1 ?_)
     case c1=>rw [HZ7.out];have:=hL.out.z;have:=HB6.out.size;omega
     intro v' w7 hrow hg
     obtain⟨K7,LN⟩:=L6.out.next _ HSZ.out hrow hg
     have HLN:=hi9 LN
     obtain⟨A7,cp7,hv',-,-,-⟩:=hrow.fat (fun b hb=>HDB.out b (.inr hb))
     obtain⟨nl,hnl⟩:∃nl,nl=(E ++ [(⟨(y.1,mm,zm y.2.2 k'),o5,n5,s5,t5,p5,A5,m5,c5⟩:Fe)]).length:=⟨_,rfl⟩
     rw [←hnl] at hv'
     subst hv'
     clear hnl hrow hg LN a0 a1 a2 a3 a4 a5 a6 a7 j0 j1 j2 j3 j4 j5 j6 j7 k0 k1 k2 k3 k4 k5 r0 r1 r2 r3 r4 r5
     obtain⟨k0,k1,k2,k3,k4,k5,r0,r1,r2,r3,r4,r5⟩:=K7
     go_wp2_with fail
     go_roundw
     case rel=>exact⟨k+1,E ++ [⟨(y.1,mm,zm y.2.2 k'),o5,n5,s5,t5,p5,A5,m5,c5⟩],_,by go_num,hlt,hi9 (HEK.out _ (HMX.out.trans (by rw [←HYM.out];rfl)).symm),HLN⟩
     case measure=>simp [intOf];omega
  ·have hk1:k=m1:=by omega
   have HE1:=hi9 (show E.map Fe.y=f.list.map (zer g) by
    have:=hE.out
    rwa [hk1,HN1.out,List.take_length] at this)
   clear hE hk1;obtain⟨x0,x1,x2,x3,x4,x5,-,-,-,-,-,-⟩:=hL.out.X2;have hl1:w.heap.size+1<wr.heap.size:=block_lt_of_cell x0;have hm2w:m2≤100000:=by omega
   go_wp2_with fail;have HE0:=hi9 (show E.map Fe.y=f.list.map (zer g)++((g.list.take 0).filter fun y=>(f.find y.1).isNone).map fun y=>(y.1,false,y.2.2) by rw [HE1.out];simp);clear HE1;go_loopw [123] (fun i wr=>∃(k:Nat) (E:List Fe) (v:Value),i = .int .i64 k∧k≤m2∧Hid (E.map Fe.y=f.list.map (zer g)++((g.list.take k).filter fun y=>(f.find y.1).isNone).map fun y=>(y.1,false,y.2.2))∧Hid (JLp w wr D n1 n2 A1 A2 m1 c1 m2 c2 E v)) (fun i _=>m2-(intOf i).toNat)
   case atStart=>exact⟨0,E,v,rfl,Nat.zero_le _,HE0,hL⟩
   case round =>
    clear HE0 hL x0 x1 x2 x3 x4 x5 hl1;obtain⟨k2,E,v,rfl,hk2,hE,hL⟩:=hrel;by_cases hlt2:k2<m2
    ·have hkl:k2<g.list.length:=by rw [←HN2.out];exact hlt2
     obtain⟨a,rfl,hfd⟩:=((KG.out.cong (w':=wr) (fun b hb=>hL.out.G.block b (HBD.out b hb))).at) k2 _ (List.getElem?_eq_getElem hkl);rw [Nat.zero_add] at hfd;have HEL:=hi9 (show E.length≤1000000 by
      have h1:=congrArg List.length hE.out
      have h2:=List.length_filter_le (fun y:Kfd=>(f.find y.1).isNone) (g.list.take k2)
      rw [List.length_map,List.length_append,List.length_map,List.length_map,←HN1.out] at h1
      rw [List.length_take] at h2
      omega)
     have HEK:=hi9 (show f.find (g.list[k2]).1=none→∀z:Fe,z.y=(g.list[k2].1,false,g.list[k2].2.2)→(E ++ [z]).map Fe.y=f.list.map (zer g)++((g.list.take (k2+1)).filter fun y=>(f.find y.1).isNone).map fun y=>(y.1,false,y.2.2) from fun hn z hz=>by
      rw [List.take_succ_eq_append_getElem hkl,List.filter_append,List.map_append,List.map_append,hE.out]
      simp [hz,hn])
     have HES:=hi9 (show(f.find (g.list[k2]).1).isSome=true→E.map Fe.y=f.list.map (zer g)++((g.list.take (k2+1)).filter fun y=>(f.find y.1).isNone).map fun y=>(y.1,false,y.2.2) from fun hn=>by
      obtain⟨q,hq⟩:=Option.isSome_iff_exists.1 hn
      rw [List.take_succ_eq_append_getElem hkl,List.filter_append,List.map_append,hE.out]
      simp [hq])
     obtain⟨y,hy⟩:∃y,y=g.list[k2]:=⟨_,rfl⟩
     rw [←hy] at hfd HEK HES;clear hy;obtain⟨o,nn,s0,t0,p,A',m',c',hkat,q0,q1,q2,q3,q4,q5,q6,q7⟩:=hfd.cells;have HKY:=hi9 hkat;clear hfd hkat;have hm1w:m1≤100000:=by omega
     obtain⟨x0,x1,x2,x3,x4,x5,-,-,-,-,-,-⟩:=hL.out.X1;have hl2:w.heap.size<wr.heap.size:=block_lt_of_cell x0;have Ba:=za wr (.cells #[.string y.1,.bool y.2.1,.int .i64 o,.int .i64 nn,.string s0,.string t0,.pointer p,.slice A' m' c'] 207);have Y4:=zdA wr (.string y.1) (.bool y.2.1) (.int .i64 o) (.int .i64 nn) (.string s0) (.string t0) (.pointer p) (.slice A' m' c') 207;go_wp2_with fail;have La:=hL.out.keep Ba;obtain⟨wa,hwa⟩:∃wa,wr.alloc (.cells #[.string y.1,.bool y.2.1,.int .i64 o,.int .i64 nn,.string s0,.string t0,.pointer p,.slice A' m' c'] 207)=wa:=⟨_,rfl⟩
     rw [hwa] at Ba Y4 La ⊢;clear hwa x0 x1 x2 x3 x4 x5 q0 q1 q2 q3 q4 q5 q6 q7;refine(zka A1 m1 c1 f B _ _ _ _ _ y.1 wa (KF.out.cong (fun b hb=>La.G.block b (HBD.out b hb))) HN1.out hm1w hc1 of.1 (fun b hb=>Nat.lt_of_lt_of_le (HBD.out b hb) La.G.size)).mono ?_;rintro e w4 ⟨b4,hpost⟩;have HB4:=hi9 (Ba.trans (b4.mono Ba.size));have Y5:=hi9 (Y4.keep b4);have hl5:wr.heap.size<w4.heap.size:=block_lt_of_cell Y5.out.c0;have L4:=hi9 (La.keep b4);clear b4 Ba Y4 La;obtain⟨y0,y1,y2,y3,y4,y5,y6,y7,j0,j1,j2,j3,j4,j5,j6,j7⟩:=Y5.out;rcases hfg:f.find y.1 with _|⟨mm,k'⟩
     ·rw [hfg] at hpost;have hpost:e = .returned (.tuple #[.agg #[.string ⟨#[]⟩,.bool false,.int .i64 0,.int .i64 0,.string ⟨#[]⟩,.string ⟨#[]⟩,.pointer none,.slice none 0 0],.bool false]):=hpost;subst hpost;replace HEK:=hi9 (HEK.out hfg);clear hfg HES;obtain⟨k0,k1,k2',k3,k4,k5,r0,r1,r2,r3,r4,r5⟩:=L4.out.K;have hlk:w.heap.size+3<w4.heap.size:=block_lt_of_cell k0;have B6:Below wr.heap.size wr ((w4.setCell ⟨wr.heap.size,1,none⟩ (.bool false)).alloc (.cells #[.string ⟨#[]⟩,.bool false,.int .i64 0,.int .i64 0,.string ⟨#[]⟩,.string ⟨#[]⟩,.pointer none,.slice none 0 0] 207)):=(HB4.out.setCell (p:=⟨wr.heap.size,1,none⟩) (Nat.le_refl _) (.bool false)).alloc (by simp [World.setCell];omega) _;have hz6:((w4.setCell ⟨wr.heap.size,1,none⟩ (.bool false)).alloc (.cells #[.string ⟨#[]⟩,.bool false,.int .i64 0,.int .i64 0,.string ⟨#[]⟩,.string ⟨#[]⟩,.pointer none,.slice none 0 0] 207)).heap.size=w4.heap.size+1:=by simp [World.setCell]
      have L6:=hi9 (hL.out.keep B6);have rn:=zcC ((w4.setCell ⟨wr.heap.size,1,none⟩ (.bool false)).alloc (.cells #[.string ⟨#[]⟩,.bool false,.int .i64 0,.int .i64 0,.string ⟨#[]⟩,.string ⟨#[]⟩,.pointer none,.slice none 0 0] 207)) [.string y.1,.bool false,.int .i64 o,.int .i64 nn,.string s0,.string t0,.pointer p,.slice A' m' c'] 207;rw [hz6] at rn;have RN:=hi9 rn;have F6:=hi9 (L6.out.F.keepN (zc (za ((w4.setCell ⟨wr.heap.size,1,none⟩ (.bool false)).alloc (.cells #[.string ⟨#[]⟩,.bool false,.int .i64 0,.int .i64 0,.string ⟨#[]⟩,.string ⟨#[]⟩,.pointer none,.slice none 0 0] 207)) (.cells #[.string y.1,.bool false,.int .i64 o,.int .i64 nn,.string s0,.string t0,.pointer p,.slice A' m' c'] 207)) none));have hz7:(((w4.setCell ⟨wr.heap.size,1,none⟩ (.bool false)).alloc (.cells #[.string ⟨#[]⟩,.bool false,.int .i64 0,.int .i64 0,.string ⟨#[]⟩,.string ⟨#[]⟩,.pointer none,.slice none 0 0] 207)).alloc (.cells #[.string y.1,.bool false,.int .i64 o,.int .i64 nn,.string s0,.string t0,.pointer p,.slice A' m' c'] 207)).heap.size=w4.heap.size+1+1:=by rw [←hz6];simp
      have HZ7:=hi9 hz7;have KK:=hi9 (show KAt (((w4.setCell ⟨wr.heap.size,1,none⟩ (.bool false)).alloc (.cells #[.string ⟨#[]⟩,.bool false,.int .i64 0,.int .i64 0,.string ⟨#[]⟩,.string ⟨#[]⟩,.pointer none,.slice none 0 0] 207)).alloc (.cells #[.string y.1,.bool false,.int .i64 o,.int .i64 nn,.string s0,.string t0,.pointer p,.slice A' m' c'] 207)) (fun b=>D b∧some b≠v.ownBlock) y.2.2 [.int .i64 o,.int .i64 nn,.string s0,.string t0,.pointer p,.slice A' m' c'] from(HKY.out.cong fun b hb=>(B6.trans ((za _ _).mono B6.size)).block b (Nat.lt_of_lt_of_le (HBD.out b hb) hL.out.G.size)).mono fun b hb _=>⟨HDB.out b (.inl hb),fun e=>by have:=HBD.out b hb;have:=(hL.out.F.own.lt b e.symm).1;omega⟩);clear rn hz6 hz7 B6;go_wp2_with (at_builtin;refine zaY rfl _ _ rfl (w.heap.size+4) D v E rfl F6.out ⟨(y.1,false,y.2.2),o,nn,s0,t0,p,A',m',c'⟩ ⟨w4.heap.size+1,0,none⟩ 1 1 rfl rfl RN.out KK.out HEL.out ?c1 ?_)
      case c1=>rw [HZ7.out];have:=hL.out.z;omega
      intro v' w7 hrow hg;obtain⟨K7,LN⟩:=L6.out.next _ HSZ.out hrow hg;have HLN:=hi9 LN;obtain⟨A7,cp7,hv',-,-,-⟩:=hrow.fat (fun b hb=>HDB.out b (.inr hb));obtain⟨nl,hnl⟩:∃nl,nl=(E ++ [(⟨(y.1,false,y.2.2),o,nn,s0,t0,p,A',m',c'⟩:Fe)]).length:=⟨_,rfl⟩
      rw [←hnl] at hv';subst hv';clear hnl hrow hg LN y0 y1 y2 y3 y4 y5 y6 y7 j0 j1 j2 j3 j4 j5 j6 j7 k0 k1 k2' k3 k4 k5 r0 r1 r2 r3 r4 r5;obtain⟨k0,k1,k2',k3,k4,k5,r0,r1,r2,r3,r4,r5⟩:=K7;go_wp2_with fail;go_roundw
      case rel=>exact⟨k2+1,E ++ [⟨(y.1,false,y.2.2),o,nn,s0,t0,p,A',m',c'⟩],_,by go_num,hlt2,hi9 (HEK.out _ rfl),HLN⟩
      case measure=>simp [intOf];omega
     ·rw [hfg] at hpost;obtain⟨u,rfl,hk'⟩:=hpost;obtain⟨o2,n2',s2,t2,p2,A2',m2',c2',rfl⟩:=zbC hk';have HE2:=hi9 (HES.out (by rw [hfg];rfl));have HLN:=hi9 (hL.out.keep (HB4.out.trans ((za w4 (.cells #[.string y.1,.bool mm,.int .i64 o2,.int .i64 n2',.string s2,.string t2,.pointer p2,.slice A2' m2' c2'] 207)).mono HB4.out.size)));clear hk' hfg HEK HES;go_wp2_with fail;go_roundw
      case rel=>exact⟨k2+1,E,v,by go_num,hlt2,HE2,HLN⟩
      case measure=>simp [intOf];omega
    ·have hk2e:k2=m2:=by omega
     have HEM:=hi9 (show E.map Fe.y=zlE f g by
      have:=hE.out
      rwa [hk2e,HN2.out,List.take_length] at this)
     have HEL:=hi9 (show E.length≤1000000 by
      have h1:=congrArg List.length HEM.out
      have h2:=zrQ (f:=f) (g:=g)
      rw [List.length_map] at h1
      have h3:=zet f
      have h4:=zet g
      have h5:=HN1.out
      have h6:=HN2.out
      omega)
     clear hE hk2e;have hmf:∀(fn:Fn) (first cap:Array Value) (w:World),(Instr.makeFunc fn first cap).run Tryz.prog w = .ok (.func fn first cap) w:=fun _ _ _ _=>rfl;obtain⟨k0,k1,k2',k3,k4,k5,r0,r1,r2,r3,r4,r5⟩:=hL.out.K;have HS:=hi9 (zqR wr (w.heap.size+4) D v E hL.out.F HEL.out);go_wp2_with fail;refine HS.out.mono ?_;rintro e w7 ⟨rfl,E',hperm,hsort,hrow,hg⟩;have hn:∀b,b<w.heap.size+4→some b≠v.ownBlock:=fun b hb e=>by have:=(hL.out.F.own.lt b e.symm).1;omega
     have K7:=hi9 (hL.out.K.but hg (hn _ (by omega)));have R7:=hi9 (hL.out.R.but hg (hn _ (by omega)));have B7:=hi9 (show Below w.heap.size w w7 from by
      refine hL.out.G.trans ?_
      rcases hv2:v.ownBlock with _|q
      ·rw [hv2] at hg
       exact⟨hg.os,hg.tape,hg.output,hg.size,fun i hi=>hg.block i (Nat.lt_of_lt_of_le hi hL.out.G.size) (fun e=>nomatch e)⟩
      ·rw [hv2] at hg
       exact zaL hg (by have:=(hL.out.F.own.lt q hv2).1;omega) hL.out.G.size)
     have HRES:=hi9 (HSRT.out (E'.map Fe.y) (by rw [←HEM.out];exact hperm.map _) (List.pairwise_map.2 hsort));obtain⟨A7,cp7,hv',hfat,hle,hcm⟩:=hrow.fat (fun b hb=>HDB.out b (.inr hb));rw [HRES.out] at hfat;have hlen:res.len=E'.length:=by rw [←HRES.out,zkU,List.length_map]
     rw [←hlen] at hv' hle;subst hv';have HFA:=hi9 hfat;have HLE:=hi9 hle;have HCM:=hi9 hcm;clear hperm hsort hrow hg hn hlen hfat hle hcm k0 k1 k2' k3 k4 k5 r0 r1 r2 r3 r4 r5 hmf;obtain⟨k0,k1,k2',k3,k4,k5,-,-,-,-,-,-⟩:=K7.out;obtain⟨z0,z1,z2,z3,z4,z5,r0,r1,r2,r3,r4,r5⟩:=R7.out;go_wp2_with fail;obtain⟨j0,j1,j2,j3,j4,j5,-,-,-,-,-,-⟩:=R7.out.set (.int .i64 46) (.int .i64 0) (.string ⟨#[]⟩) (.string ⟨#[]⟩) (.pointer none) (.slice A7 res.len cp7);refine bodyPost_ret (v := .agg #[.int .i64 46,.int .i64 0,.string ⟨#[]⟩,.string ⟨#[]⟩,.pointer none,.slice A7 res.len cp7]) (by simp [results,Tryz.results102,go_sem,j0,j1,j2,j3,j4,j5]) rfl ?_;refine⟨[.int .i64 46,.int .i64 0,.string ⟨#[]⟩,.string ⟨#[]⟩,.pointer none,.slice A7 res.len cp7],rfl,⟨0,A7,cp7,rfl,HLE.out,HCM.out,?_⟩,zac B7.out (by omega) _ _ _ _ _ _⟩;exact(HFA.out.cong fun b hb=>zag w7 (w.heap.size+2) _ _ _ _ _ _ (by rcases HSZ.out b hb with h|h <;> omega)).mono fun b hb _=>(HDR.out b hb).imp_right fun h=>by omega
theorem znY{a b:Kd}(va:a.valid)(vb:b.valid)(h1:opN a≠49)(h2:opN b≠48)(h3:opN a≠48)(h4:opN b≠49)(h:opN a≠opN b∨nmN a≠nmN b):zm a b = .base 48:=by
 have n1:b≠ .base 48:=fun q=>h2 (by rw [q];rfl);have n2:b≠ .base 49:=fun q=>h4 (by rw [q];rfl)
 cases a with
 | base x =>
  rw [zci n1 n2,if_neg (show¬x=49 from h1)]
  split
  ·rename_i e;subst e;simp at h
  ·rfl
 | ent s =>
  rw [zdw n1 n2]
  split
  ·rename_i e;subst e;simp at h
  ·rfl
 | set p =>
  rcases zcE (p:=p) n1 n2 with ⟨q,rfl,-⟩|⟨-,e⟩
  ·simp [opN,nmN] at h
  ·exact e
 | fs f =>
  rcases zdJ (f:=f) n1 n2 with ⟨q,rfl,-⟩|⟨-,e⟩
  ·simp [opN,nmN] at h
  ·exact e
theorem znK{w w':World}{B:Nat→Prop}{k:Kd}{u:List Value}{e:Ending}(hk:KAt w B k u)(hB:∀b,B b→b<w.heap.size)(he:e = .returned (.agg u.toArray))(hb:Below w.heap.size w w'):zh1 w B k e w' :=
 ⟨u,he,(hk.cong fun b hx=>hb.block b (hB b hx)).mono fun _ hx _ => .inl hx,hb⟩
theorem zgh:∀N:Nat,zqV N
 | 0=>fun a _ _ _ _ _ h=>by cases a <;> simp [Kd.sz] at h
 | N+1=>by
  intro a b va vb w B h h1 h2 ha hb va' vb' hB;obtain⟨n1,p1,A1,m1,c1,e1⟩:=zlP ha;obtain⟨n2,p2,A2,m2,c2,e2⟩:=zlP hb;by_cases hn:opN a=49∨opN b=48
  ·have hr:zm a b=b:=by
    rcases hn with hn|hn
    ·rw [zht va' hn,zeD (by trivial) vb'.ok,za1 rfl]
    ·rw [zk0 vb' hn];exact zby rfl
   rw [hr]
   refine Calls.mono (R:=fun e w'=>e = .returned (.agg vb.toArray)∧Below w.heap.size w w') ?_ fun e w' hh=>znK hb hB hh.1 hh.2
   rw [e1,e2]
   exact znc _ _ _ _ _ _ _ _ _ _ _ _ _ _ _ _ w hn
  ·have h49:opN a≠49:=fun e=>hn (.inl e);have h48:opN b≠48:=fun e=>hn (.inr e);by_cases hm:opN b=49∨opN a=48
   ·have hr:zm a b=a:=by
     rcases hm with hm|hm
     ·rw [zht vb' hm];exact za1 rfl
     ·rw [zk0 va' hm,zeD (by trivial) vb'.ok,zby rfl]
    rw [hr]
    refine Calls.mono (R:=fun e w'=>e = .returned (.agg va.toArray)∧Below w.heap.size w w') ?_ fun e w' hh=>znK ha hB hh.1 hh.2
    rw [e1,e2]
    exact zpe _ _ _ _ _ _ _ _ _ _ _ _ _ _ _ _ w h49 h48 hm
   ·have g49:opN b≠49:=fun e=>hm (.inl e);have g48:opN a≠48:=fun e=>hm (.inr e);by_cases hd:opN a≠opN b∨nmN a≠nmN b
    ·rw [znY va' vb' h49 h48 g48 g49 hd];rw [e1,e2];exact(zlv _ _ _ _ _ _ _ _ _ _ _ _ _ _ _ _ w h49 h48 g48 g49 hd).mono fun e w' hh=>⟨[.int .i64 48,.int .i64 0,.string ⟨#[]⟩,.string ⟨#[]⟩,.pointer none,.slice none 0 0],hh.1,⟨0,rfl⟩,hh.2⟩
    ·have ho:opN a=opN b:=Decidable.byContradiction fun e=>hd (.inl e);have hs:nmN a=nmN b:=Decidable.byContradiction fun e=>hd (.inr e);have q1:b≠ .base 48:=fun q=>h48 (by rw [q];rfl);have q2:b≠ .base 49:=fun q=>g49 (by rw [q];rfl);rcases zjD va' vb' ho hs with ⟨x,rfl,rfl⟩|⟨s,rfl,rfl⟩|⟨p,q,rfl,rfl⟩|⟨f,g,rfl,rfl⟩
     ·rw [zeE va'.ok];refine Calls.mono (R:=fun e w'=>e = .returned (.agg va.toArray)∧Below w.heap.size w w') ?_ fun e w' hh=>znK ha hB hh.1 hh.2;have hx:=zds va';rw [e1,e2];exact zjN x n1 n2 _ _ _ _ _ _ _ _ _ _ _ w h49 g48 (fun e=>by omega) (fun e=>by omega)
     ·rw [zeE va'.ok];refine Calls.mono (R:=fun e w'=>e = .returned (.agg va.toArray)∧Below w.heap.size w w') ?_ fun e w' hh=>znK ha hB hh.1 hh.2;rw [e1,e2];exact zjN 44 n1 n2 _ _ _ _ _ _ _ _ _ _ _ w h49 g48 (by decide) (by decide)
     ·rcases zcE (p:=p) q1 q2 with ⟨q',e,hr⟩|⟨hno,-⟩
      ·injection e with e;subst e;simp only [Kd.sz] at h h1 h2;rw [hr];exact zot N (zgh N) p q va vb w B (by omega) (by omega) (by omega) ha hb va' vb' hB
      ·exact absurd rfl (hno q)
     ·rcases zdJ (f:=f) q1 q2 with ⟨q',e,hr⟩|⟨hno,-⟩
      ·injection e with e;subst e;simp only [Kd.sz] at h h1 h2;rw [hr];exact zpb N (zgh N) f g va vb w B (by omega) (by omega) (by omega) ha hb va' vb' hB
      ·exact absurd rfl (hno g)
structure zdB(w:World)(base:Nat)(v:Value)(P:List Nd):Prop where
 own:w.ownsRow base 41 4 v P.length (zh P)
theorem zdB.alloc{w:World}{base:Nat}{v:Value}{P:List Nd}(h:zdB w base v P)(o:Obj):zdB (w.alloc o) base v P:=⟨h.own.alloc o⟩
theorem zdB.keepN{w w':World}{base:Nat}{v:Value}{P:List Nd}(h:zdB w base v P)(hb:Below w.heap.size w w'):zdB w' base v P:=⟨h.own.kept (zc hb none) (by cases hv:v.ownBlock <;> simp)⟩
def zfw(w:World)(base:Nat)(v:Value)(P:List Nd)(e:Ending)(w':World):Prop :=
 ∃v',e = .returned v'∧zdB w' base v' P∧w.grownBy w' v.ownBlock∧(v'.ownBlock=v.ownBlock∨∃g,v'.ownBlock=some g∧w.heap.size≤g)
theorem zda{w w1 w2:World}{r r1:Option Nat}(h:w.grownBy w1 r)(k:w1.grownBy w2 r1)(hr:r1=r∨∃g,r1=some g∧w.heap.size≤g):w.grownBy w2 r :=
 ⟨k.os.trans h.os,k.tape.trans h.tape,k.output.trans h.output,Nat.le_trans h.size k.size,fun i hi hn=>(k.block i (Nat.lt_of_lt_of_le hi h.size) (fun e=>by
  rcases hr with rfl|⟨g,rfl,hg⟩
  ·exact hn e
  ·injection e with e;omega)).trans (h.block i hi hn)⟩
def zq7(N:Nat):Prop:=∀(k:Kd) (u:List Value) (w:World) (B:Nat→Prop) (base:Nat) (v:Value) (P:List Nd),k.sz≤N→P.length+k.flat.length≤100000→KAt w B k u→zdB w base v P→base≤w.heap.size→(∀b,B b→b<base)→
 Calls Tryz.prog 103 #[.agg u.toArray,v] w (zfw w base v (P ++ k.flat))
theorem zbS{ops:Array Oper}{rest:List Oper}{o:Oper}{a:Act}{w:World}{Q:Exit→Act→World→Prop}(hgd:o.guard=none)(s x:Operand)
 (ho:o.op = .call { callee := .builtin .append,args:=#[s,x],argTypes:=#[26,26] })
 (base:Nat) (v:Value) (P:List Nd) (hs:a.eval s=v) (hrow:zdB w base v P) (z:Nd) (ad:Addr) (m c:Nat) (hx:a.eval x = .slice (some ad) m c) (hm:m=1)
 (hnews:∀j u,(zh [z])[j]?=some u→w.cell? (ad.add j)=some u) (hl:P.length≤1000000) (hbase:base≤w.heap.size)
 (h:∀v' w',zdB w' base v' (P ++ [z])→w.grownBy w' v.ownBlock→(v'.ownBlock=v.ownBlock∨∃g,v'.ownBlock=some g∧w.heap.size≤g)→wpList Tryz.prog ops Q rest (a.put o.dst v') w'):wpList Tryz.prog ops Q (o :: rest) a w:=by
 subst hm;have hi:=zc5
 cases hq:Tryz.prog.info? 41 with
 | none=>rw [hq] at hi;cases hi
 | some i0 =>
  rw [hq] at hi
  simp only [Option.map_some,Option.some.injEq,Prod.mk.injEq] at hi
  refine wpList_append_own_at w hgd s x _ ho base _ i0 _ 4 48 Tryz.underlying26 hq hi.1 hi.2.1 hi.2.2 (by decide) (by decide) v P.length (zh P) hs hrow.own ad 1 c (zh [z]) hx rfl hnews ?_ (by unfold maxLen;omega) (by omega) hbase ?_
  ·intro u hu
   simp [zh] at hu;rcases hu with rfl|rfl|rfl|rfl <;> rfl
  ·intro v' w' h1 h2 _ h4
   refine h v' w' ⟨by rw [zK,List.length_append];exact h1⟩ h2 ?_;rcases h4 with h4|h4
   ·exact .inl h4
   ·exact .inr ⟨_,h4,Nat.le_refl _⟩
theorem zee{ops:Array Oper}{o:Oper}{a:Act}{w:World}{K:Act→World→Prop}{Q:Exit→Act→World→Prop}{E:Prop}(hgd:o.guard=none)(s x:Operand)
 (ho:o.op = .call { callee := .builtin .append,args:=#[s,x],argTypes:=#[26,26] })
 (base:Nat) (v:Value) (P:List Nd) (hs:a.eval s=v) (hrow:zdB w base v P) (z:Nd) (ad:Addr) (c:Nat) (hx:a.eval x = .slice (some ad) 1 c)
 (hnews:∀j u,(zh [z])[j]?=some u→w.cell? (ad.add j)=some u) (hl:P.length≤1000000) (hbase:base≤w.heap.size)
 (h:∀v' w',zdB w' base v' (P ++ [z])→w.grownBy w' v.ownBlock→(v'.ownBlock=v.ownBlock∨∃g,v'.ownBlock=some g∧w.heap.size≤g)→K (a.put o.dst v') w'):
 if Region.wanted o (yielded ops a.tmps)=true then Oper.wp Tryz.prog o a w K Q else E:=by
 have hi:=zc5
 cases hq:Tryz.prog.info? 41 with
 | none=>rw [hq] at hi;cases hi
 | some i0 =>
  rw [hq] at hi
  simp only [Option.map_some,Option.some.injEq,Prod.mk.injEq] at hi
  refine step_append_lies w hgd s x _ ho base _ i0 _ 4 48 Tryz.underlying26 hq hi.1 hi.2.1 hi.2.2 (by decide) (by decide) v P.length (zh P) hs hrow.own ad 1 c (zh [z]) hx rfl hnews ?_ (by decide) (by unfold maxLen;omega) (by omega) hbase _ rfl ?_
  ·intro u hu
   simp [zh] at hu;rcases hu with rfl|rfl|rfl|rfl <;> rfl
  ·intro g cap w' h1 h2 h3 h4
   refine h _ w' ⟨by rw [zK,List.length_append];exact h1⟩ h2 ?_;rcases h3 with h3|h3
   ·exact .inl h3.symm
   ·exact .inr ⟨g,rfl,Nat.le_of_eq h3.symm⟩
theorem zj7(o n:Int)(s t:ByteArray)(w:World)(base:Nat)(v:Value)(P:List Nd)(hP:P.length≤100000)(hown:zdB w base v P)(hbase:base≤w.heap.size):
 Calls Tryz.prog 103 #[.agg #[.int .i64 o,.int .i64 n,.string s,.string t,.pointer none,.slice none 0 0],v] w (zfw w base v (P ++ [⟨o,0,s,t⟩])):=by
 have Ba:=za w (.cells #[.int .i64 o,.int .i64 n,.string s,.string t,.pointer none,.slice none 0 0] 149);have Bb:=za (w.alloc (.cells #[.int .i64 o,.int .i64 n,.string s,.string t,.pointer none,.slice none 0 0] 149)) (.cells #[.int .i64 o,.int .i64 0,.string s,.string t] 41);have Bc:=za ((w.alloc (.cells #[.int .i64 o,.int .i64 n,.string s,.string t,.pointer none,.slice none 0 0] 149)).alloc (.cells #[.int .i64 o,.int .i64 0,.string s,.string t] 41)) (.cells #[.int .i64 o,.int .i64 0,.string s,.string t] 41);have hza:(w.alloc (.cells #[.int .i64 o,.int .i64 n,.string s,.string t,.pointer none,.slice none 0 0] 149)).heap.size=w.heap.size+1:=by simp
 have hzb:((w.alloc (.cells #[.int .i64 o,.int .i64 n,.string s,.string t,.pointer none,.slice none 0 0] 149)).alloc (.cells #[.int .i64 o,.int .i64 0,.string s,.string t] 41)).heap.size=w.heap.size+2:=by simp
 have hzc:(((w.alloc (.cells #[.int .i64 o,.int .i64 n,.string s,.string t,.pointer none,.slice none 0 0] 149)).alloc (.cells #[.int .i64 o,.int .i64 0,.string s,.string t] 41)).alloc (.cells #[.int .i64 o,.int .i64 0,.string s,.string t] 41)).heap.size=w.heap.size+3:=by simp
 have B3:=hi9 (Ba.trans ((Bb.trans (Bc.mono (by simp))).mono (by simp)));have X3:=hi9 (((jE w (.int .i64 o) (.int .i64 n) (.string s) (.string t) (.pointer none) (.slice none 0 0) 149).keep Bb).keep Bc);have HO:=hi9 (((hown.alloc (.cells #[.int .i64 o,.int .i64 n,.string s,.string t,.pointer none,.slice none 0 0] 149)).alloc (.cells #[.int .i64 o,.int .i64 0,.string s,.string t] 41)).alloc (.cells #[.int .i64 o,.int .i64 0,.string s,.string t] 41));have rn:=zV ((w.alloc (.cells #[.int .i64 o,.int .i64 n,.string s,.string t,.pointer none,.slice none 0 0] 149)).alloc (.cells #[.int .i64 o,.int .i64 0,.string s,.string t] 41)) (zh [⟨o,0,s,t⟩]) 41;rw [hzb] at rn;have RN:=hi9 rn;have HZ:=hi9 hzc;have HOL:=hi9 (fun g hg=>hown.own.lt g hg);clear rn hza hzb hzc Ba Bb Bc hown;go_enter Tryz.func103,Tryz.ntmps103;go_wp2_with (at_builtin;refine zbS rfl _ _ rfl base v P rfl HO.out ⟨o,0,s,t⟩ ⟨w.heap.size+2,0,none⟩ 1 1 rfl rfl RN.out ?c1 ?c2 ?_)
 case c1=>omega
 case c2=>rw [HZ.out];omega
 intro v' w4 hrow hg hb;have X4:=hi9 (X3.out.but hg (fun e=>by have:=(HOL.out _ e.symm).2;omega));have HG:=hi9 (zf (zc B3.out v.ownBlock) hg);have HR:=hi9 hrow;have HB:=hi9 (show v'.ownBlock=v.ownBlock∨∃g,v'.ownBlock=some g∧w.heap.size≤g by
  rcases hb with hb|⟨g,hb,h2⟩
  ·exact .inl hb
  ·exact .inr ⟨g,hb,by omega⟩)
 obtain⟨x0,x1,x2,x3,x4,x5,-,-,-,-,-,-⟩:=X4.out;clear hrow hg hb;go_wp2_with fail;go_loopw [1,31] (fun u i wr=>u=v'∧i = .int .i64 0∧wr=w4) (fun _ _ _=>0)
 case atStart=>exact⟨rfl,rfl,rfl⟩
 case round =>
  obtain⟨rfl,rfl,rfl⟩:=hrel;go_wp2_with fail;go_ret;exact⟨_,rfl,HR.out,HG.out,HB.out⟩
theorem zqm(N:Nat)(ih:zq7 N)(q:Kd)(n:Int)(b:Nat)(u:List Value)(w:World)(B:Nat→Prop)(base:Nat)(v:Value)(P:List Nd)(hN:q.sz≤N)(hP:P.length+q.flat.length+1≤100000)(hb0:B b)(hr0:ziS w ⟨b,0,none⟩ u)(hk:KAt w B q u)(hown:zdB w base v P)(hbase:base≤w.heap.size)(hB:∀b,B b→b<base):
 Calls Tryz.prog 103 #[.agg #[.int .i64 45,.int .i64 n,.string ⟨#[]⟩,.string ⟨#[]⟩,.pointer (some ⟨b,0,none⟩),.slice none 0 0],v] w (zfw w base v (P ++⟨45,0,⟨#[]⟩,⟨#[]⟩⟩:: q.flat)):=by
 have HR0:=hi9 hr0;have HK:=hi9 hk;have HB0:=hi9 (hB b hb0);have HBB:=hi9 hB;obtain⟨o2,n2,s2,t2,p2,A2,m2,c2,rfl⟩:=zbC hk;clear hr0 hk hb0 hB;have Ba:=za w (.cells #[.int .i64 45,.int .i64 n,.string ⟨#[]⟩,.string ⟨#[]⟩,.pointer (some ⟨b,0,none⟩),.slice none 0 0] 149);have Bb:=za (w.alloc (.cells #[.int .i64 45,.int .i64 n,.string ⟨#[]⟩,.string ⟨#[]⟩,.pointer (some ⟨b,0,none⟩),.slice none 0 0] 149)) (.cells #[.int .i64 45,.int .i64 0,.string ⟨#[]⟩,.string ⟨#[]⟩] 41);have Bc:=za ((w.alloc (.cells #[.int .i64 45,.int .i64 n,.string ⟨#[]⟩,.string ⟨#[]⟩,.pointer (some ⟨b,0,none⟩),.slice none 0 0] 149)).alloc (.cells #[.int .i64 45,.int .i64 0,.string ⟨#[]⟩,.string ⟨#[]⟩] 41)) (.cells #[.int .i64 45,.int .i64 0,.string ⟨#[]⟩,.string ⟨#[]⟩] 41);have hza:(w.alloc (.cells #[.int .i64 45,.int .i64 n,.string ⟨#[]⟩,.string ⟨#[]⟩,.pointer (some ⟨b,0,none⟩),.slice none 0 0] 149)).heap.size=w.heap.size+1:=by simp
 have hzb:((w.alloc (.cells #[.int .i64 45,.int .i64 n,.string ⟨#[]⟩,.string ⟨#[]⟩,.pointer (some ⟨b,0,none⟩),.slice none 0 0] 149)).alloc (.cells #[.int .i64 45,.int .i64 0,.string ⟨#[]⟩,.string ⟨#[]⟩] 41)).heap.size=w.heap.size+2:=by simp
 have hzc:(((w.alloc (.cells #[.int .i64 45,.int .i64 n,.string ⟨#[]⟩,.string ⟨#[]⟩,.pointer (some ⟨b,0,none⟩),.slice none 0 0] 149)).alloc (.cells #[.int .i64 45,.int .i64 0,.string ⟨#[]⟩,.string ⟨#[]⟩] 41)).alloc (.cells #[.int .i64 45,.int .i64 0,.string ⟨#[]⟩,.string ⟨#[]⟩] 41)).heap.size=w.heap.size+3:=by simp
 have B3:=hi9 (Ba.trans ((Bb.trans (Bc.mono (by simp))).mono (by simp)));have X3:=hi9 (((jE w (.int .i64 45) (.int .i64 n) (.string ⟨#[]⟩) (.string ⟨#[]⟩) (.pointer (some ⟨b,0,none⟩)) (.slice none 0 0) 149).keep Bb).keep Bc);have HO:=hi9 (((hown.alloc (.cells #[.int .i64 45,.int .i64 n,.string ⟨#[]⟩,.string ⟨#[]⟩,.pointer (some ⟨b,0,none⟩),.slice none 0 0] 149)).alloc (.cells #[.int .i64 45,.int .i64 0,.string ⟨#[]⟩,.string ⟨#[]⟩] 41)).alloc (.cells #[.int .i64 45,.int .i64 0,.string ⟨#[]⟩,.string ⟨#[]⟩] 41));have rn:=zV ((w.alloc (.cells #[.int .i64 45,.int .i64 n,.string ⟨#[]⟩,.string ⟨#[]⟩,.pointer (some ⟨b,0,none⟩),.slice none 0 0] 149)).alloc (.cells #[.int .i64 45,.int .i64 0,.string ⟨#[]⟩,.string ⟨#[]⟩] 41)) (zh [⟨45,0,⟨#[]⟩,⟨#[]⟩⟩]) 41;rw [hzb] at rn;have RN:=hi9 rn;have HZ:=hi9 hzc;have HOL:=hi9 (fun g hg=>hown.own.lt g hg);clear rn hza hzb hzc Ba Bb Bc hown;go_enter Tryz.func103,Tryz.ntmps103;go_wp2_with (at_builtin;refine zbS rfl _ _ rfl base v P rfl HO.out ⟨45,0,⟨#[]⟩,⟨#[]⟩⟩ ⟨w.heap.size+2,0,none⟩ 1 1 rfl rfl RN.out ?c1 ?c2 ?_)
 case c1=>omega
 case c2=>rw [HZ.out];omega
 intro v' w4 hrow hg hb;have X4:=hi9 (X3.out.but hg (fun e=>by have:=(HOL.out _ e.symm).2;omega));have HG:=hi9 (zf (zc B3.out v.ownBlock) hg);have HR:=hi9 hrow;have HB:=hi9 (show v'.ownBlock=v.ownBlock∨∃g,v'.ownBlock=some g∧w.heap.size≤g by
  rcases hb with hb|⟨g,hb,h2⟩
  ·exact .inl hb
  ·exact .inr ⟨g,hb,by omega⟩)
 have HO4:=hi9 (fun g (hg:v.ownBlock=some g)=>HOL.out g hg);have HNE:=hi9 (show∀g,v'.ownBlock=some g→g≠w.heap.size from fun g hg e=>by
  rcases hb with h|⟨g2,h,h2⟩
  ·rw [h] at hg;have:=(HOL.out _ hg).2;omega
  ·rw [h] at hg;injection hg with hg;omega)
 have hbl:base≤w4.heap.size:=Nat.le_trans hbase (Nat.le_trans B3.out.size hg.size);have hold:∀g,g<base→w4.heap[g]?=w.heap[g]?:=fun g hg4=>HG.out.block g (by omega) (fun e=>by have:=(HO4.out _ e.symm).1;omega);have Q1:=HR0.out.cong (w':=w4) (hold b HB0.out);have IH:=hi9 (ih q _ w4 B base v' (P ++ [⟨45,0,⟨#[]⟩,⟨#[]⟩⟩]) hN (by simp;omega) (HK.out.cong fun g hg=>hold g (HBB.out g hg)) hrow hbl HBB.out);have d0:=Q1 0 _ rfl;have d1:=Q1 1 _ rfl;have d2:=Q1 2 _ rfl;have d3:=Q1 3 _ rfl;have d4:=Q1 4 _ rfl;have d5:=Q1 5 _ rfl;have ad:∀(b j:Nat),(⟨b,0,none⟩:Addr).add j=⟨b,j,none⟩:=fun b j=>by
  unfold Addr.add;split
  ·rename_i h0;subst h0;rfl
  ·simp
 rw [ad] at d0 d1 d2 d3 d4 d5;obtain⟨x0,x1,x2,x3,x4,x5,-,-,-,-,-,-⟩:=X4.out;clear ad Q1 hold hrow hg hb;go_wp2_with fail;refine IH.out.mono ?_;rintro e w5 ⟨v5,rfl,r5,g5,h5⟩;have X5:=hi9 (X4.out.but g5 (fun e=>HNE.out _ e.symm rfl));have HG5:=hi9 (zda HG.out g5 HB.out);have HR5:=hi9 r5;have HB5:=hi9 (show v5.ownBlock=v.ownBlock∨∃g,v5.ownBlock=some g∧w.heap.size≤g by
  rcases h5 with h5|⟨g,h5,h2⟩
  ·rw [h5];exact HB.out
  ·exact .inr ⟨g,h5,Nat.le_trans HG.out.size h2⟩)
 clear x0 x1 x2 x3 x4 x5 d0 d1 d2 d3 d4 d5 r5 g5 h5 IH;obtain⟨x0,x1,x2,x3,x4,x5,-,-,-,-,-,-⟩:=X5.out;go_wp2_with fail;go_loopw [1,31] (fun u i wr=>u=v5∧i = .int .i64 0∧wr=w5) (fun _ _ _=>0)
 case atStart=>exact⟨rfl,rfl,rfl⟩
 case round =>
  obtain⟨rfl,rfl,rfl⟩:=hrel;go_wp2_with fail;go_ret;exact⟨_,rfl,by simpa using HR5.out,HG5.out,HB5.out⟩
structure FLp(w wr:World)(base:Nat)(v u:Value)(P:List Nd):Prop where
 F:zdB wr base u P
 G:w.grownBy wr v.ownBlock
 H:u.ownBlock=v.ownBlock∨∃g,u.ownBlock=some g∧w.heap.size≤g
theorem zkc(f:Fl)(k:Nat)(h:k<f.list.length):(ofL (f.list.drop k)).flat=⟨47,if f.list[k].2.1=true then 1 else 0,f.list[k].1,⟨#[]⟩⟩::(f.list[k].2.2.flat ++(ofL (f.list.drop (k+1))).flat):=by
 rw [List.drop_eq_getElem_cons h];rfl
theorem zn6:∀f:Fl,∀y∈f.list,y.2.2.sz≤f.sz
 | .nil,y,h=>nomatch h
 | .cons s m k r,y,h=>by
  rcases List.mem_cons.1 (show y∈(s,m,k):: r.list from h) with rfl|h
  ·simp only [Fl.sz];omega
  ·have:=zn6 r y h;simp only [Fl.sz];omega
theorem zl0:∀f:Fl,f.len≤f.flat.length
 | .nil=>Nat.le_refl _
 | .cons s m k r=>by have:=zl0 r;simp only [Fl.len,Fl.flat,List.length_cons,List.length_append];omega
theorem zsd(N:Nat)(ih:zq7 N)(f:Fl)(n:Int)(A:Option Addr)(c:Nat)(w:World)(B:Nat→Prop)(base:Nat)(v:Value)(P:List Nd)(hN:f.sz≤N)(hP:P.length+f.flat.length+1≤100000)(_hfc:f.len≤c)(_hcm:c≤maxLen)(hk:FAt w B A 0 f)(hown:zdB w base v P)(hbase:base≤w.heap.size)(hB:∀b,B b→b<base):
 Calls Tryz.prog 103 #[.agg #[.int .i64 46,.int .i64 n,.string ⟨#[]⟩,.string ⟨#[]⟩,.pointer none,.slice A f.len c],v] w (zfw w base v (P ++⟨46,f.len,⟨#[]⟩,⟨#[]⟩⟩:: f.flat)):=by
 have HK:=hi9 hk;have HBB:=hi9 hB;have HLF:=hi9 (zl0 f);have hml:f.len≤100000:=by have:=HLF.out;omega
 obtain⟨m,hm⟩:∃m,m=f.len:=⟨_,rfl⟩
 have HM:=hi9 (hm.trans (zet f));rw [←hm] at hml ⊢;obtain⟨PP,hPP⟩:∃PP,PP=P ++(⟨46,(m:Int),⟨#[]⟩,⟨#[]⟩⟩:Nd):: f.flat:=⟨_,rfl⟩
 have HPL:=hi9 (show PP.length≤100000 by rw [hPP];simp;omega);have HPP:=hi9 hPP;rw [←hPP];clear hPP hk hB hm;have Ba:=za w (.cells #[.int .i64 46,.int .i64 n,.string ⟨#[]⟩,.string ⟨#[]⟩,.pointer none,.slice A m c] 149);have Bb:=za (w.alloc (.cells #[.int .i64 46,.int .i64 n,.string ⟨#[]⟩,.string ⟨#[]⟩,.pointer none,.slice A m c] 149)) (.cells #[.int .i64 46,.int .i64 m,.string ⟨#[]⟩,.string ⟨#[]⟩] 41);have Bc:=za ((w.alloc (.cells #[.int .i64 46,.int .i64 n,.string ⟨#[]⟩,.string ⟨#[]⟩,.pointer none,.slice A m c] 149)).alloc (.cells #[.int .i64 46,.int .i64 m,.string ⟨#[]⟩,.string ⟨#[]⟩] 41)) (.cells #[.int .i64 46,.int .i64 m,.string ⟨#[]⟩,.string ⟨#[]⟩] 41);have hza:(w.alloc (.cells #[.int .i64 46,.int .i64 n,.string ⟨#[]⟩,.string ⟨#[]⟩,.pointer none,.slice A m c] 149)).heap.size=w.heap.size+1:=by simp
 have hzb:((w.alloc (.cells #[.int .i64 46,.int .i64 n,.string ⟨#[]⟩,.string ⟨#[]⟩,.pointer none,.slice A m c] 149)).alloc (.cells #[.int .i64 46,.int .i64 m,.string ⟨#[]⟩,.string ⟨#[]⟩] 41)).heap.size=w.heap.size+2:=by simp
 have hzc:(((w.alloc (.cells #[.int .i64 46,.int .i64 n,.string ⟨#[]⟩,.string ⟨#[]⟩,.pointer none,.slice A m c] 149)).alloc (.cells #[.int .i64 46,.int .i64 m,.string ⟨#[]⟩,.string ⟨#[]⟩] 41)).alloc (.cells #[.int .i64 46,.int .i64 m,.string ⟨#[]⟩,.string ⟨#[]⟩] 41)).heap.size=w.heap.size+3:=by simp
 have B3:=hi9 (Ba.trans ((Bb.trans (Bc.mono (by simp))).mono (by simp)));have X3:=hi9 (((jE w (.int .i64 46) (.int .i64 n) (.string ⟨#[]⟩) (.string ⟨#[]⟩) (.pointer none) (.slice A m c) 149).keep Bb).keep Bc);have HO:=hi9 (((hown.alloc (.cells #[.int .i64 46,.int .i64 n,.string ⟨#[]⟩,.string ⟨#[]⟩,.pointer none,.slice A m c] 149)).alloc (.cells #[.int .i64 46,.int .i64 m,.string ⟨#[]⟩,.string ⟨#[]⟩] 41)).alloc (.cells #[.int .i64 46,.int .i64 m,.string ⟨#[]⟩,.string ⟨#[]⟩] 41));have rn:=zV ((w.alloc (.cells #[.int .i64 46,.int .i64 n,.string ⟨#[]⟩,.string ⟨#[]⟩,.pointer none,.slice A m c] 149)).alloc (.cells #[.int .i64 46,.int .i64 m,.string ⟨#[]⟩,.string ⟨#[]⟩] 41)) (zh [⟨46,m,⟨#[]⟩,⟨#[]⟩⟩]) 41;rw [hzb] at rn;have RN:=hi9 rn;have HZ:=hi9 hzc;have HOL:=hi9 (fun g hg=>hown.own.lt g hg);clear rn hza hzb hzc Ba Bb Bc hown;go_enter Tryz.func103,Tryz.ntmps103;go_wp2_with (at_builtin;refine zbS rfl _ _ rfl base v P rfl HO.out ⟨46,m,⟨#[]⟩,⟨#[]⟩⟩ ⟨w.heap.size+2,0,none⟩ 1 1 rfl rfl RN.out ?c1 ?c2 ?_)
 case c1=>omega
 case c2=>rw [HZ.out];omega
 intro v' w4 hrow hg hb;have X4:=hi9 (X3.out.but hg (fun e=>by have:=(HOL.out _ e.symm).2;omega));have LP:=hi9 (show FLp w w4 base v v' (P ++ [⟨46,m,⟨#[]⟩,⟨#[]⟩⟩]) from⟨hrow,zf (zc B3.out v.ownBlock) hg,by
  rcases hb with hb|⟨g,hb,h2⟩
  ·exact .inl hb
  ·exact .inr ⟨g,hb,by have:=HZ.out;omega⟩⟩)
 obtain⟨x0,x1,x2,x3,x4,x5,-,-,-,-,-,-⟩:=X4.out;clear hrow hg hb B3 X3 HO RN X4;go_wp2_with fail;go_loopw [1,31] (fun u i wr=>∃(k:Nat) (Q:List Nd),i = .int .i64 k∧k≤m∧Hid (Q ++(ofL (f.list.drop k)).flat=PP)∧Hid (FLp w wr base v u Q)) (fun _ i _=>m-(intOf i).toNat)
 case atStart=>exact⟨0,_,rfl,Nat.zero_le _,hi9 (by rw [HPP.out,List.drop_zero,zef];simp),LP⟩
 case round =>
  clear x0 x1 x2 x3 x4 x5 LP;obtain⟨k,Q,rfl,hkm,hQ,hL⟩:=hrel;by_cases hlt:k<m
  ·have hkl:k<f.list.length:=by rw [←HM.out];exact hlt
   have HOLD:=hi9 (show∀b,B b→wr.heap[b]?=w.heap[b]? from fun b hb=>hL.out.G.block b (by have:=HBB.out b hb;omega) (fun e=>by have:=(HOL.out _ e.symm).1;have:=HBB.out b hb;omega));obtain⟨a,rfl,hfd⟩:=((HK.out.cong HOLD.out).at) k _ (List.getElem?_eq_getElem hkl);rw [Nat.zero_add] at hfd;have HFD:=hi9 (zkc f k hkl);have HYS:=hi9 (Nat.le_trans (zn6 f _ (List.getElem_mem hkl)) hN);obtain⟨y,hy⟩:∃y,y=f.list[k]:=⟨_,rfl⟩
   rw [←hy] at hfd HFD HYS;clear hy;obtain⟨o,nn,s0,t0,p,A',m',c',hkat,q0,q1,q2,q3,q4,q5,q6,q7⟩:=hfd.cells;have HKY:=hi9 hkat;have HLE:=hi9 (show Q.length+(y.2.2.flat.length+1)≤100000 by
    have h1:=congrArg List.length hQ.out
    have h2:=HPL.out
    rw [HFD.out] at h1
    simp only [List.length_append,List.length_cons] at h1
    omega)
   obtain⟨ym,hym⟩:∃ym,ym=y.2.1:=⟨_,rfl⟩
   have HQ2:=hi9 (show((Q ++ [⟨47,if ym=true then 1 else 0,y.1,⟨#[]⟩⟩])++ y.2.2.flat)++(ofL (f.list.drop (k+1))).flat=PP by
    rw [←hQ.out,HFD.out,hym];simp)
   rw [←hym] at q1;clear hfd hkat hym;have HS:=hi9 hL.out.G.size;have hbr:base≤wr.heap.size:=Nat.le_trans hbase HS.out;have HOLr:=hi9 (fun g hg=>hL.out.F.own.lt g hg);cases ym
   ·have Ba:=za wr (.cells #[.string y.1,.bool false,.int .i64 o,.int .i64 nn,.string s0,.string t0,.pointer p,.slice A' m' c'] 207);have Bb:=za (wr.alloc (.cells #[.string y.1,.bool false,.int .i64 o,.int .i64 nn,.string s0,.string t0,.pointer p,.slice A' m' c'] 207)) (.cells #[.int .i64 47,.int .i64 0,.string y.1,.string ⟨#[]⟩] 41);have Bc:=za ((wr.alloc (.cells #[.string y.1,.bool false,.int .i64 o,.int .i64 nn,.string s0,.string t0,.pointer p,.slice A' m' c'] 207)).alloc (.cells #[.int .i64 47,.int .i64 0,.string y.1,.string ⟨#[]⟩] 41)) (.cells #[.int .i64 47,.int .i64 0,.string y.1,.string ⟨#[]⟩] 41);have Bd:Below (((wr.alloc (.cells #[.string y.1,.bool false,.int .i64 o,.int .i64 nn,.string s0,.string t0,.pointer p,.slice A' m' c'] 207)).alloc (.cells #[.int .i64 47,.int .i64 0,.string y.1,.string ⟨#[]⟩] 41)).alloc (.cells #[.int .i64 47,.int .i64 0,.string y.1,.string ⟨#[]⟩] 41)).heap.size (((wr.alloc (.cells #[.string y.1,.bool false,.int .i64 o,.int .i64 nn,.string s0,.string t0,.pointer p,.slice A' m' c'] 207)).alloc (.cells #[.int .i64 47,.int .i64 0,.string y.1,.string ⟨#[]⟩] 41)).alloc (.cells #[.int .i64 47,.int .i64 0,.string y.1,.string ⟨#[]⟩] 41)) (((wr.alloc (.cells #[.string y.1,.bool false,.int .i64 o,.int .i64 nn,.string s0,.string t0,.pointer p,.slice A' m' c'] 207)).alloc (.cells #[.int .i64 47,.int .i64 0,.string y.1,.string ⟨#[]⟩] 41)).alloc (.cells #[.int .i64 47,.int .i64 0,.string y.1,.string ⟨#[]⟩] 41)).drew:=⟨rfl,rfl,rfl,Nat.le_refl _,fun _ _=>rfl⟩
    have hza:(wr.alloc (.cells #[.string y.1,.bool false,.int .i64 o,.int .i64 nn,.string s0,.string t0,.pointer p,.slice A' m' c'] 207)).heap.size=wr.heap.size+1:=by simp
    have hzb:((wr.alloc (.cells #[.string y.1,.bool false,.int .i64 o,.int .i64 nn,.string s0,.string t0,.pointer p,.slice A' m' c'] 207)).alloc (.cells #[.int .i64 47,.int .i64 0,.string y.1,.string ⟨#[]⟩] 41)).heap.size=wr.heap.size+2:=by simp
    have hzc:(((wr.alloc (.cells #[.string y.1,.bool false,.int .i64 o,.int .i64 nn,.string s0,.string t0,.pointer p,.slice A' m' c'] 207)).alloc (.cells #[.int .i64 47,.int .i64 0,.string y.1,.string ⟨#[]⟩] 41)).alloc (.cells #[.int .i64 47,.int .i64 0,.string y.1,.string ⟨#[]⟩] 41)).drew.heap.size=wr.heap.size+3:=by simp
    have B3:=hi9 (Ba.trans ((Bb.trans ((Bc.trans (Bd.mono (by simp))).mono (by simp))).mono (by simp)));have Y3:=hi9 ((((zdA wr (.string y.1) (.bool false) (.int .i64 o) (.int .i64 nn) (.string s0) (.string t0) (.pointer p) (.slice A' m' c') 207).keep Bb).keep Bc).keep Bd);have HO:=hi9 ((((hL.out.F.alloc (.cells #[.string y.1,.bool false,.int .i64 o,.int .i64 nn,.string s0,.string t0,.pointer p,.slice A' m' c'] 207)).alloc (.cells #[.int .i64 47,.int .i64 0,.string y.1,.string ⟨#[]⟩] 41)).alloc (.cells #[.int .i64 47,.int .i64 0,.string y.1,.string ⟨#[]⟩] 41)).keepN Bd);have rn:=zV ((wr.alloc (.cells #[.string y.1,.bool false,.int .i64 o,.int .i64 nn,.string s0,.string t0,.pointer p,.slice A' m' c'] 207)).alloc (.cells #[.int .i64 47,.int .i64 0,.string y.1,.string ⟨#[]⟩] 41)) (zh [⟨47,0,y.1,⟨#[]⟩⟩]) 41;rw [hzb] at rn;have RN:=hi9 rn;have HZ2:=hi9 hzc;clear rn hza hzb hzc Ba Bb Bc Bd;have hQl:Q.length≤1000000:=by have:=HLE.out;omega
    have HQl:=hi9 hQl;have HBW:=hi9 (show base≤wr.heap.size+3 by omega);have HYB:=hi9 (show∀g,B g→some g≠u1.ownBlock from fun g hg4 hn=>absurd (HOLr.out _ hn.symm).1 (Nat.not_le_of_lt (HBB.out g hg4)));have HWB:=hi9 (fun(g:Nat) (hg4:B g)=>show g<wr.heap.size from Nat.lt_of_lt_of_le (HBB.out g hg4) hbr);have HLQ:=hi9 (show(Q ++ [(⟨47,0,y.1,⟨#[]⟩⟩:Nd)]).length+y.2.2.flat.length≤100000 by have:=HLE.out;simp;omega);have HBR:=hi9 hbr;have HNF:=hi9 (show some wr.heap.size≠u1.ownBlock from fun e=>by have:=(HOLr.out _ e.symm).2;omega);clear hQl;go_wp2_with fail;clear q0 q1 q2 q3 q4 q5 q6 q7;obtain⟨y0,y1,y2,y3,y4,y5,y6,y7,-,-,-,-,-,-,-,-⟩:=Y3.out;go_region_law (first
     |(refine zee rfl (.tmp 43) (.tmp 45) rfl base u1 Q rfl HO.out ⟨47,0,y.1,⟨#[]⟩⟩ ⟨wr.heap.size+2,0,none⟩ 1 rfl RN.out HQl.out (by rw [HZ2.out];exact HBW.out) ?_;intro v5 w5 hrow hg hb;(have HG5:=hi9 (zf (zc B3.out u1.ownBlock) hg));(have HB5:=hi9 (show v5.ownBlock=u1.ownBlock∨∃g,v5.ownBlock=some g∧wr.heap.size≤g from hb.imp_right fun⟨g,hb,h2⟩=>⟨g,hb,Nat.le_trans B3.out.size h2⟩));(have IH:=hi9 (ih y.2.2 _ w5 B base v5 (Q ++ [⟨47,0,y.1,⟨#[]⟩⟩]) HYS.out HLQ.out (HKY.out.cong fun g hg4=>HG5.out.block g (HWB.out g hg4) (HYB.out g hg4)) hrow (Nat.le_trans HBR.out HG5.out.size) HBB.out));clear y0 y1 y2 y3 y4 y5 y6 y7;(obtain⟨y0,y1,y2,y3,y4,y5,y6,y7,-,-,-,-,-,-,-,-⟩:=Y3.out.but hg HNF.out);clear hrow hg hb)
     |(go_simp;go_at_call 103;(refine IH.out.mono ?_);rintro e w6 ⟨v6,rfl,r6,g6,h6⟩))
    all_goals
     have L6:=hi9 (show FLp w w6 base v v6 _ from⟨r6,zda (zda hL.out.G HG5.out hL.out.H) g6 (by
      rcases HB5.out with h|⟨g,h,h2⟩
      ·rw [h];exact hL.out.H
      ·exact .inr ⟨g,h,Nat.le_trans HS.out h2⟩),by
      rcases h6 with h|⟨g,h,h2⟩
      ·rw [h]
       rcases HB5.out with h|⟨g,h,h2⟩
       ·rw [h];exact hL.out.H
       ·exact .inr ⟨g,h,Nat.le_trans HS.out h2⟩
      ·exact .inr ⟨g,h,Nat.le_trans HS.out (Nat.le_trans HG5.out.size h2)⟩⟩)
     clear y0 y1 y2 y3 y4 y5 y6 y7 r6 g6 h6 IH;go_wp2_with fail;go_roundw
     case rel=>exact⟨k+1,_,by go_num,hlt,HQ2,L6⟩
     case measure=>simp [intOf];omega
   ·have Ba:=za wr (.cells #[.string y.1,.bool true,.int .i64 o,.int .i64 nn,.string s0,.string t0,.pointer p,.slice A' m' c'] 207);have Bb:=za (wr.alloc (.cells #[.string y.1,.bool true,.int .i64 o,.int .i64 nn,.string s0,.string t0,.pointer p,.slice A' m' c'] 207)) (.cells #[.int .i64 47,.int .i64 1,.string y.1,.string ⟨#[]⟩] 41);have Bc:=za ((wr.alloc (.cells #[.string y.1,.bool true,.int .i64 o,.int .i64 nn,.string s0,.string t0,.pointer p,.slice A' m' c'] 207)).alloc (.cells #[.int .i64 47,.int .i64 1,.string y.1,.string ⟨#[]⟩] 41)) (.cells #[.int .i64 47,.int .i64 1,.string y.1,.string ⟨#[]⟩] 41);have Bd:Below (((wr.alloc (.cells #[.string y.1,.bool true,.int .i64 o,.int .i64 nn,.string s0,.string t0,.pointer p,.slice A' m' c'] 207)).alloc (.cells #[.int .i64 47,.int .i64 1,.string y.1,.string ⟨#[]⟩] 41)).alloc (.cells #[.int .i64 47,.int .i64 1,.string y.1,.string ⟨#[]⟩] 41)).heap.size (((wr.alloc (.cells #[.string y.1,.bool true,.int .i64 o,.int .i64 nn,.string s0,.string t0,.pointer p,.slice A' m' c'] 207)).alloc (.cells #[.int .i64 47,.int .i64 1,.string y.1,.string ⟨#[]⟩] 41)).alloc (.cells #[.int .i64 47,.int .i64 1,.string y.1,.string ⟨#[]⟩] 41)) (((wr.alloc (.cells #[.string y.1,.bool true,.int .i64 o,.int .i64 nn,.string s0,.string t0,.pointer p,.slice A' m' c'] 207)).alloc (.cells #[.int .i64 47,.int .i64 1,.string y.1,.string ⟨#[]⟩] 41)).alloc (.cells #[.int .i64 47,.int .i64 1,.string y.1,.string ⟨#[]⟩] 41)).drew:=⟨rfl,rfl,rfl,Nat.le_refl _,fun _ _=>rfl⟩
    have hza:(wr.alloc (.cells #[.string y.1,.bool true,.int .i64 o,.int .i64 nn,.string s0,.string t0,.pointer p,.slice A' m' c'] 207)).heap.size=wr.heap.size+1:=by simp
    have hzb:((wr.alloc (.cells #[.string y.1,.bool true,.int .i64 o,.int .i64 nn,.string s0,.string t0,.pointer p,.slice A' m' c'] 207)).alloc (.cells #[.int .i64 47,.int .i64 1,.string y.1,.string ⟨#[]⟩] 41)).heap.size=wr.heap.size+2:=by simp
    have hzc:(((wr.alloc (.cells #[.string y.1,.bool true,.int .i64 o,.int .i64 nn,.string s0,.string t0,.pointer p,.slice A' m' c'] 207)).alloc (.cells #[.int .i64 47,.int .i64 1,.string y.1,.string ⟨#[]⟩] 41)).alloc (.cells #[.int .i64 47,.int .i64 1,.string y.1,.string ⟨#[]⟩] 41)).drew.heap.size=wr.heap.size+3:=by simp
    have B3:=hi9 (Ba.trans ((Bb.trans ((Bc.trans (Bd.mono (by simp))).mono (by simp))).mono (by simp)));have Y3:=hi9 ((((zdA wr (.string y.1) (.bool true) (.int .i64 o) (.int .i64 nn) (.string s0) (.string t0) (.pointer p) (.slice A' m' c') 207).keep Bb).keep Bc).keep Bd);have HO:=hi9 ((((hL.out.F.alloc (.cells #[.string y.1,.bool true,.int .i64 o,.int .i64 nn,.string s0,.string t0,.pointer p,.slice A' m' c'] 207)).alloc (.cells #[.int .i64 47,.int .i64 1,.string y.1,.string ⟨#[]⟩] 41)).alloc (.cells #[.int .i64 47,.int .i64 1,.string y.1,.string ⟨#[]⟩] 41)).keepN Bd);have rn:=zV ((wr.alloc (.cells #[.string y.1,.bool true,.int .i64 o,.int .i64 nn,.string s0,.string t0,.pointer p,.slice A' m' c'] 207)).alloc (.cells #[.int .i64 47,.int .i64 1,.string y.1,.string ⟨#[]⟩] 41)) (zh [⟨47,1,y.1,⟨#[]⟩⟩]) 41;rw [hzb] at rn;have RN:=hi9 rn;have HZ2:=hi9 hzc;clear rn hza hzb hzc Ba Bb Bc Bd;have hQl:Q.length≤1000000:=by have:=HLE.out;omega
    have HQl:=hi9 hQl;have HBW:=hi9 (show base≤wr.heap.size+3 by omega);have HYB:=hi9 (show∀g,B g→some g≠u1.ownBlock from fun g hg4 hn=>absurd (HOLr.out _ hn.symm).1 (Nat.not_le_of_lt (HBB.out g hg4)));have HWB:=hi9 (fun(g:Nat) (hg4:B g)=>show g<wr.heap.size from Nat.lt_of_lt_of_le (HBB.out g hg4) hbr);have HLQ:=hi9 (show(Q ++ [(⟨47,1,y.1,⟨#[]⟩⟩:Nd)]).length+y.2.2.flat.length≤100000 by have:=HLE.out;simp;omega);have HBR:=hi9 hbr;have HNF:=hi9 (show some wr.heap.size≠u1.ownBlock from fun e=>by have:=(HOLr.out _ e.symm).2;omega);clear hQl;go_wp2_with fail;clear q0 q1 q2 q3 q4 q5 q6 q7;obtain⟨y0,y1,y2,y3,y4,y5,y6,y7,-,-,-,-,-,-,-,-⟩:=Y3.out;go_region_law (first
     |(refine zee rfl (.tmp 43) (.tmp 45) rfl base u1 Q rfl HO.out ⟨47,1,y.1,⟨#[]⟩⟩ ⟨wr.heap.size+2,0,none⟩ 1 rfl RN.out HQl.out (by rw [HZ2.out];exact HBW.out) ?_;intro v5 w5 hrow hg hb;(have HG5:=hi9 (zf (zc B3.out u1.ownBlock) hg));(have HB5:=hi9 (show v5.ownBlock=u1.ownBlock∨∃g,v5.ownBlock=some g∧wr.heap.size≤g from hb.imp_right fun⟨g,hb,h2⟩=>⟨g,hb,Nat.le_trans B3.out.size h2⟩));(have IH:=hi9 (ih y.2.2 _ w5 B base v5 (Q ++ [⟨47,1,y.1,⟨#[]⟩⟩]) HYS.out HLQ.out (HKY.out.cong fun g hg4=>HG5.out.block g (HWB.out g hg4) (HYB.out g hg4)) hrow (Nat.le_trans HBR.out HG5.out.size) HBB.out));clear y0 y1 y2 y3 y4 y5 y6 y7;(obtain⟨y0,y1,y2,y3,y4,y5,y6,y7,-,-,-,-,-,-,-,-⟩:=Y3.out.but hg HNF.out);clear hrow hg hb)
     |(go_simp;go_at_call 103;(refine IH.out.mono ?_);rintro e w6 ⟨v6,rfl,r6,g6,h6⟩))
    all_goals
     have L6:=hi9 (show FLp w w6 base v v6 _ from⟨r6,zda (zda hL.out.G HG5.out hL.out.H) g6 (by
      rcases HB5.out with h|⟨g,h,h2⟩
      ·rw [h];exact hL.out.H
      ·exact .inr ⟨g,h,Nat.le_trans HS.out h2⟩),by
      rcases h6 with h|⟨g,h,h2⟩
      ·rw [h]
       rcases HB5.out with h|⟨g,h,h2⟩
       ·rw [h];exact hL.out.H
       ·exact .inr ⟨g,h,Nat.le_trans HS.out h2⟩
      ·exact .inr ⟨g,h,Nat.le_trans HS.out (Nat.le_trans HG5.out.size h2)⟩⟩)
     clear y0 y1 y2 y3 y4 y5 y6 y7 r6 g6 h6 IH;go_wp2_with fail;go_roundw
     case rel=>exact⟨k+1,_,by go_num,hlt,HQ2,L6⟩
     case measure=>simp [intOf];omega
  ·have hke:k=m:=by omega
   have HF:=hi9 (show Q=PP by
    have:=hQ.out
    rw [hke,HM.out,List.drop_length] at this
    simpa [ofL,Fl.flat] using this)
   go_wp2_with fail;go_ret;exact⟨_,rfl,by rw [←HF.out];exact hL.out.F,hL.out.G,hL.out.H⟩
theorem zjB:∀N,zq7 N
 | 0=>fun k u w B base v P h=>by cases k <;> simp [Kd.sz] at h
 | N+1=>fun k u w B base v P hN hP hk hown hbase hB=>by
  have ih:=zjB N
  cases k with
  | base x =>
   obtain⟨n,rfl⟩:=hk
   exact zj7 x n ⟨#[]⟩ ⟨#[]⟩ w base v P (by omega) hown hbase
  | ent s =>
   obtain⟨n,rfl⟩:=hk
   exact zj7 44 n s ⟨#[]⟩ w base v P (by omega) hown hbase
  | set q =>
   obtain⟨n,b,u,rfl,h1,h2,h3⟩:=hk
   simp only [Kd.sz] at hN
   simp only [Kd.flat,List.length_cons] at hP
   exact zqm N ih q n b u w B base v P (by omega) (by omega) h1 h2 h3 hown hbase hB
  | fs f =>
   obtain⟨n,A,c,rfl,h1,h2,h3⟩:=hk
   simp only [Kd.sz] at hN
   simp only [Kd.flat,List.length_cons] at hP
   exact zsd N ih f n A c w B base v P (by omega) (by omega) h1 h2 h3 hown hbase hB
theorem Ns.kinds_Check{A:Option Addr}{n c:Nat}{P:List Nd}{w:World}(h:Ns w A n c P):
 Calls Tryz.prog 71 #[.slice A n c] w fun e w'=>e = .returned (zao (zo P))∧Below w.heap.size w w':=by
 have C:=hi9 (ze8 A n c P w h);go_enter Tryz.func71,Tryz.ntmps71;go_wp2_with fail;refine C.out.mono ?_;rintro e w1 ⟨b1,o,n,s,t,p,A,m,c,rfl,-⟩;have B1:=hi9 b1;go_wp2_with fail;go_ret;exact⟨rfl,B1.out.trans ((za w1 _).mono B1.out.size)⟩
def zof(w:World)(P Q:List Nd)(e:Ending)(w':World):Prop :=
 Below w.heap.size w w'∧∃(o n:Int) (s t:ByteArray) (p A:Option Addr) (m c:Nat) (o2 n2:Int) (s2 t2:ByteArray) (p2 A2:Option Addr) (m2 c2:Nat),
  e = .returned (.tuple #[.agg #[.int .i64 o,.int .i64 n,.string s,.string t,.pointer p,.slice A m c],.agg #[.int .i64 o2,.int .i64 n2,.string s2,.string t2,.pointer p2,.slice A2 m2 c2],zao (zeQ P Q)])∧
  (zeQ P Q=0→∃a b,Kin P a∧Kin Q b∧KAt w' (fun g=>w.heap.size≤g) a [.int .i64 o,.int .i64 n,.string s,.string t,.pointer p,.slice A m c]∧KAt w' (fun g=>w.heap.size≤g) b [.int .i64 o2,.int .i64 n2,.string s2,.string t2,.pointer p2,.slice A2 m2 c2])
theorem znd{A1 A2:Option Addr}{n1 c1 n2 c2:Nat}{P Q:List Nd}{w:World}(h:Ns w A1 n1 c1 P)(k:Ns w A2 n2 c2 Q):
 Calls Tryz.prog 101 #[.slice A1 n1 c1,.slice A2 n2 c2] w (zof w P Q):=by
 have b0:=(za w (.cells #[.int .i64 0,.int .i64 0,.string ⟨#[]⟩,.string ⟨#[]⟩,.pointer none,.slice none 0 0] 149)).trans ((za (w.alloc (.cells #[.int .i64 0,.int .i64 0,.string ⟨#[]⟩,.string ⟨#[]⟩,.pointer none,.slice none 0 0] 149)) (.cells #[.int .i64 0,.int .i64 0,.string ⟨#[]⟩,.string ⟨#[]⟩,.pointer none,.slice none 0 0] 149)).mono (by simp));have X1:=(jE w (.int .i64 0) (.int .i64 0) (.string ⟨#[]⟩) (.string ⟨#[]⟩) (.pointer none) (.slice none 0 0) 149).keep (za (w.alloc (.cells #[.int .i64 0,.int .i64 0,.string ⟨#[]⟩,.string ⟨#[]⟩,.pointer none,.slice none 0 0] 149)) (.cells #[.int .i64 0,.int .i64 0,.string ⟨#[]⟩,.string ⟨#[]⟩,.pointer none,.slice none 0 0] 149));have X2:=jE (w.alloc (.cells #[.int .i64 0,.int .i64 0,.string ⟨#[]⟩,.string ⟨#[]⟩,.pointer none,.slice none 0 0] 149)) (.int .i64 0) (.int .i64 0) (.string ⟨#[]⟩) (.string ⟨#[]⟩) (.pointer none) (.slice none 0 0) 149;have hz:(w.alloc (.cells #[.int .i64 0,.int .i64 0,.string ⟨#[]⟩,.string ⟨#[]⟩,.pointer none,.slice none 0 0] 149)).heap.size=w.heap.size+1:=by simp
 have hz2:((w.alloc (.cells #[.int .i64 0,.int .i64 0,.string ⟨#[]⟩,.string ⟨#[]⟩,.pointer none,.slice none 0 0] 149)).alloc (.cells #[.int .i64 0,.int .i64 0,.string ⟨#[]⟩,.string ⟨#[]⟩,.pointer none,.slice none 0 0] 149)).heap.size=w.heap.size+2:=by simp
 rw [hz] at X2;have C1:=hi9 (ze8 A1 n1 c1 P _ (h.keep b0));have C2:=hi9 (fun w' hb=>ze8 A2 n2 c2 Q w' (k.keep (w':=w') hb));have B0:=hi9 b0;have HX1:=hi9 X1;have HX2:=hi9 X2;have HZ0:=hi9 hz2;have HF:=hi9 (show zeQ P Q=if zo P=0 then zo Q else zo P from rfl);have HL1:=hi9 (fun(hh:zo P=0)=>(zbB.1 hh).1);have HL2:=hi9 (fun(hh:zo Q=0)=>(zbB.1 hh).1);obtain⟨f,hf⟩:∃f,f=zeQ P Q:=⟨_,rfl⟩
 rw [←hf] at HF;have HFF:=hi9 hf;clear hf h k b0 X1 X2 hz hz2;go_enter Tryz.func101,Tryz.ntmps101;go_wp2_with fail;obtain⟨w0,hw0⟩:∃w0,(w.alloc (.cells #[.int .i64 0,.int .i64 0,.string ⟨#[]⟩,.string ⟨#[]⟩,.pointer none,.slice none 0 0] 149)).alloc (.cells #[.int .i64 0,.int .i64 0,.string ⟨#[]⟩,.string ⟨#[]⟩,.pointer none,.slice none 0 0] 149)=w0:=⟨_,rfl⟩
 rw [hw0] at C1 B0 HX1 HX2 HZ0 ⊢;clear hw0;refine C1.out.mono ?_;rintro e w1 ⟨b1,o,n,s,t,p,A,m,c,rfl,k1⟩;have Bx:=za w1 (.cells #[.int .i64 o,.int .i64 n,.string s,.string t,.pointer p,.slice A m c] 149);have XX:=hi9 (jE w1 (.int .i64 o) (.int .i64 n) (.string s) (.string t) (.pointer p) (.slice A m c) 149);have B1:=hi9 b1;have K1:=hi9 k1;have BX:=hi9 (B0.out.trans ((b1.trans (Bx.mono b1.size)).mono B0.out.size));clear b1 k1 C1 Bx;go_wp2_with fail;refine(C2.out _ BX.out).mono ?_;rintro e w2 ⟨b2,o',n',s',t',p',A',m',c',rfl,k2⟩;have B2:=hi9 b2;have K2:=hi9 k2;have XX2:=hi9 (XX.out.keep b2);have HSX:=hi9 (show w1.heap.size<w2.heap.size by have:=b2.size;simp at this;omega);have HS1:=hi9 (show w.heap.size+2≤w1.heap.size by have:=B1.out.size;have:=HZ0.out;omega);clear b2 k2 C2 XX;generalize zo P=f1 at *;generalize zo Q=f2 at *;have By:=za w2 (.cells #[.int .i64 o',.int .i64 n',.string s',.string t',.pointer p',Value.slice A' m' c'] 149);have XX3:=hi9 (XX2.out.keep By);have YY3:=hi9 (jE w2 (.int .i64 o') (.int .i64 n') (.string s') (.string t') (.pointer p') (Value.slice A' m' c') 149);have hz3:(w2.alloc (.cells #[.int .i64 o',.int .i64 n',.string s',.string t',.pointer p',Value.slice A' m' c'] 149)).heap.size=w2.heap.size+1:=by simp
 have B0Y:=hi9 (BX.out.trans ((B2.out.trans (By.mono B2.out.size)).mono BX.out.size));have B12:=hi9 (show Below w1.heap.size w1 (w2.alloc (.cells #[.int .i64 o',.int .i64 n',.string s',.string t',.pointer p',Value.slice A' m' c'] 149)) from((za w1 _).trans (B2.out.mono (by simp))).trans (By.mono (by have:=HSX.out;omega)));have BY:=hi9 By;clear By BX XX2;go_wp2_with fail;obtain⟨w3,hw3⟩:∃w3,w2.alloc (.cells #[.int .i64 o',.int .i64 n',.string s',.string t',.pointer p',Value.slice A' m' c'] 149)=w3:=⟨_,rfl⟩
 rw [hw3] at XX3 YY3 hz3 B0Y B12 BY ⊢;clear hw3;have HZ3:=hi9 hz3;clear hz3;have HSB:=hi9 (fun(w':World) (hb:Below w3.heap.size w3 w')=>(show w'.cell? ⟨w1.heap.size,0,none⟩=some (.int .i64 o)∧w'.cell? ⟨w1.heap.size,1,none⟩=some (.int .i64 n)∧w'.cell? ⟨w1.heap.size,2,none⟩=some (.string s)∧w'.cell? ⟨w1.heap.size,3,none⟩=some (.string t)∧w'.cell? ⟨w1.heap.size,4,none⟩=some (.pointer p)∧w'.cell? ⟨w1.heap.size,5,none⟩=some (Value.slice A m c)∧w'.cell? ⟨w2.heap.size,0,none⟩=some (.int .i64 o')∧w'.cell? ⟨w2.heap.size,1,none⟩=some (.int .i64 n')∧w'.cell? ⟨w2.heap.size,2,none⟩=some (.string s')∧w'.cell? ⟨w2.heap.size,3,none⟩=some (.string t')∧w'.cell? ⟨w2.heap.size,4,none⟩=some (.pointer p')∧w'.cell? ⟨w2.heap.size,5,none⟩=some (Value.slice A' m' c') from by
  obtain⟨a0,a1,a2,a3,a4,a5,-,-,-,-,-,-⟩:=XX3.out.keep hb
  obtain⟨b0,b1,b2,b3,b4,b5,-,-,-,-,-,-⟩:=YY3.out.keep hb
  exact⟨a0,a1,a2,a3,a4,a5,b0,b1,b2,b3,b4,b5⟩))
 have hne1:w.heap.size≠w1.heap.size:=by have:=HS1.out;omega
 have hne2:w.heap.size≠w2.heap.size:=by have:=HS1.out;have:=HSX.out;omega
 have hne3:w.heap.size+1≠w1.heap.size:=by have:=HS1.out;omega
 have hne4:w.heap.size+1≠w2.heap.size:=by have:=HS1.out;have:=HSX.out;omega
 have bd:Below w3.heap.size w3 w3.drew:=⟨rfl,rfl,rfl,Nat.le_refl _,fun _ _=>rfl⟩
 have be:=bd.trans ((za w3.drew (.cells #[zao f1,zao f2] 33)).mono (show w3.heap.size≤w3.drew.heap.size from Nat.le_refl _));have rn:=zV w3.drew [zao f1,zao f2] 33;have R0:=hi9 (rn 0 _ rfl);have R1:=hi9 (rn 1 _ rfl);have BD:=hi9 bd;have BE:=hi9 be;have X13:=hi9 ((HX1.out.keep B1.out).keep B12.out);have X23:=hi9 ((HX2.out.keep B1.out).keep B12.out);clear bd be rn HX1 HX2;obtain⟨a0,a1,a2,a3,a4,a5,b0,b1,b2,b3,b4,b5⟩:=HSB.out w3 (Below.refl _ _);have KF:=hi9 (show∀(ad:Addr) (w':World),w'.cell? ad=some (zao f1)→w'.cell? ⟨ad.block,ad.off+1,none⟩=some (zao f2)→Calls Tryz.prog 118 #[.slice (some ad) 2 2] w' fun e w''=>e = .returned (zao f)∧Below w'.heap.size w' w'' from fun ad w' h0 h1=>by
  rw [HF.out];exact znm f1 f2 ad w' h0 h1)
 have W1:=(zj9 f1).imp And.right And.right;have W2:=(zj9 f2).imp And.right And.right;generalize zao f1=v1 at *;generalize zao f2=v2 at *;rcases W1 with rfl|rfl <;> rcases W2 with rfl|rfl
 all_goals go_region_held3 (fun(w':World)=>w'.cell? ⟨w1.heap.size,0,none⟩=some (.int .i64 o)∧w'.cell? ⟨w1.heap.size,1,none⟩=some (.int .i64 n)∧w'.cell? ⟨w1.heap.size,2,none⟩=some (.string s)∧w'.cell? ⟨w1.heap.size,3,none⟩=some (.string t)∧w'.cell? ⟨w1.heap.size,4,none⟩=some (.pointer p)∧w'.cell? ⟨w1.heap.size,5,none⟩=some (Value.slice A m c)∧w'.cell? ⟨w2.heap.size,0,none⟩=some (.int .i64 o')∧w'.cell? ⟨w2.heap.size,1,none⟩=some (.int .i64 n')∧w'.cell? ⟨w2.heap.size,2,none⟩=some (.string s')∧w'.cell? ⟨w2.heap.size,3,none⟩=some (.string t')∧w'.cell? ⟨w2.heap.size,4,none⟩=some (.pointer p')∧w'.cell? ⟨w2.heap.size,5,none⟩=some (Value.slice A' m' c')) (first|go_keep)
  (first
   |(go_at_call 118;(refine(KF.out _ _ R0.out R1.out).mono ?_);rintro e w5 ⟨rfl,b5'⟩;(have B5:=hi9 (BE.out.trans (b5'.mono BE.out.size)));clear a0 a1 a2 a3 a4 a5 b0 b1 b2 b3 b4 b5 b5';(obtain⟨a0,a1,a2,a3,a4,a5,b0,b1,b2,b3,b4,b5⟩:=HSB.out w5 B5.out);(obtain⟨i0,i1,i2,i3,i4,i5,y0,y1,y2,y3,y4,y5⟩:=X13.out.keep B5.out);(obtain⟨h0,h1,h2,h3,h4,h5,z0,z1,z2,z3,z4,z5⟩:=X23.out.keep B5.out)))
 all_goals
  clear a0 a1 a2 a3 a4 a5 b0 b1 b2 b3 b4 b5 hne1 hne2 hne3 hne4 i0 i1 i2 i3 i4 i5 y0 y1 y2 y3 y4 y5 h0 h1 h2 h3 h4 h5 z0 z1 z2 z3 z4 z5;have gs:=jG w5 w.heap.size (.int .i64 o) (.int .i64 n) (.string s) (.string t) (.pointer p) (.slice A m c);have gt:=jG ((((((w5.setCell ⟨w.heap.size,0,none⟩ (.int .i64 o)).setCell ⟨w.heap.size,1,none⟩ (.int .i64 n)).setCell ⟨w.heap.size,2,none⟩ (.string s)).setCell ⟨w.heap.size,3,none⟩ (.string t)).setCell ⟨w.heap.size,4,none⟩ (.pointer p)).setCell ⟨w.heap.size,5,none⟩ (.slice A m c)) (w.heap.size+1) (.int .i64 o') (.int .i64 n') (.string s') (.string t') (.pointer p') (.slice A' m' c');have J1:=hi9 (((X13.out.keep B5.out).set (.int .i64 o) (.int .i64 n) (.string s) (.string t) (.pointer p) (.slice A m c)).but gt (fun e=>by injection e with e;omega));have J2:=hi9 (((X23.out.keep B5.out).but gs (fun e=>by injection e with e;omega)).set (.int .i64 o') (.int .i64 n') (.string s') (.string t') (.pointer p') (.slice A' m' c'));have HBL:=hi9 (zac (zac (B0Y.out.trans (B5.out.mono B0Y.out.size)) (Nat.le_refl _) (.int .i64 o) (.int .i64 n) (.string s) (.string t) (.pointer p) (.slice A m c)) (Nat.le_succ _) (.int .i64 o') (.int .i64 n') (.string s') (.string t') (.pointer p') (.slice A' m' c'));have HWB:=hi9 (show∀q,w.heap.size+2≤q→q<w3.heap.size→((((((((((((w5.setCell ⟨w.heap.size,0,none⟩ (.int .i64 o)).setCell ⟨w.heap.size,1,none⟩ (.int .i64 n)).setCell ⟨w.heap.size,2,none⟩ (.string s)).setCell ⟨w.heap.size,3,none⟩ (.string t)).setCell ⟨w.heap.size,4,none⟩ (.pointer p)).setCell ⟨w.heap.size,5,none⟩ (.slice A m c)).setCell ⟨w.heap.size+1,0,none⟩ (.int .i64 o')).setCell ⟨w.heap.size+1,1,none⟩ (.int .i64 n')).setCell ⟨w.heap.size+1,2,none⟩ (.string s')).setCell ⟨w.heap.size+1,3,none⟩ (.string t')).setCell ⟨w.heap.size+1,4,none⟩ (.pointer p')).setCell ⟨w.heap.size+1,5,none⟩ (.slice A' m' c')).heap[q]?=w3.heap[q]? from fun q h1 h2 =>
   (zag ((((((w5.setCell ⟨w.heap.size,0,none⟩ (.int .i64 o)).setCell ⟨w.heap.size,1,none⟩ (.int .i64 n)).setCell ⟨w.heap.size,2,none⟩ (.string s)).setCell ⟨w.heap.size,3,none⟩ (.string t)).setCell ⟨w.heap.size,4,none⟩ (.pointer p)).setCell ⟨w.heap.size,5,none⟩ (.slice A m c)) (w.heap.size+1) (.int .i64 o') (.int .i64 n') (.string s') (.string t') (.pointer p') (.slice A' m' c') (by omega)).trans ((zag w5 w.heap.size (.int .i64 o) (.int .i64 n) (.string s) (.string t) (.pointer p) (.slice A m c) (by omega)).trans (B5.out.block q h2)))
  go_wp2_with fail;obtain⟨W,hW⟩:∃W,((((((((((((w5.setCell ⟨w.heap.size,0,none⟩ (.int .i64 o)).setCell ⟨w.heap.size,1,none⟩ (.int .i64 n)).setCell ⟨w.heap.size,2,none⟩ (.string s)).setCell ⟨w.heap.size,3,none⟩ (.string t)).setCell ⟨w.heap.size,4,none⟩ (.pointer p)).setCell ⟨w.heap.size,5,none⟩ (.slice A m c)).setCell ⟨w.heap.size+1,0,none⟩ (.int .i64 o')).setCell ⟨w.heap.size+1,1,none⟩ (.int .i64 n')).setCell ⟨w.heap.size+1,2,none⟩ (.string s')).setCell ⟨w.heap.size+1,3,none⟩ (.string t')).setCell ⟨w.heap.size+1,4,none⟩ (.pointer p')).setCell ⟨w.heap.size+1,5,none⟩ (.slice A' m' c'))=W:=⟨_,rfl⟩
  rw [hW] at J1 J2 HBL HWB ⊢;clear hW gs gt;obtain⟨j0,j1,j2,j3,j4,j5,-,-,-,-,-,-⟩:=J1.out;obtain⟨i0,i1,i2,i3,i4,i5,-,-,-,-,-,-⟩:=J2.out;refine bodyPost_ret (v := .tuple #[.agg #[.int .i64 o,.int .i64 n,.string s,.string t,.pointer p,.slice A m c],.agg #[.int .i64 o',.int .i64 n',.string s',.string t',.pointer p',.slice A' m' c'],zao f]) (by simp [results,Tryz.results101,go_sem,j0,j1,j2,j3,j4,j5,i0,i1,i2,i3,i4,i5]) rfl ?_;refine⟨HBL.out,o,n,s,t,p,A,m,c,o',n',s',t',p',A',m',c',by rw [←HFF.out],fun hz=>?_⟩;rw [←HFF.out,HF.out] at hz;have z1:f1=0:=by
   rcases Decidable.em (f1=0) with h|h
   ·exact h
   ·rw [if_neg h] at hz;exact hz
  rw [if_pos z1] at hz;obtain⟨a,va,ea,ka⟩:=K1.out z1;obtain⟨b,vb,eb,kb⟩:=K2.out hz;refine⟨a,b,⟨va,ea,HL1.out z1⟩,⟨vb,eb,HL2.out hz⟩,?_,?_⟩
  ·have h1:=ka.mono (B':=fun g=>w0.heap.size≤g∧g<w1.heap.size) fun g h1 h2=>⟨h1,h2⟩
   have h2:=(h1.cong (w':=w3) fun g hg=>B12.out.block g hg.2)
   exact(h2.cong (w':=W) fun g hg=>HWB.out g (by have:=hg.1;have:=HZ0.out;omega) (Nat.lt_of_lt_of_le hg.2 B12.out.size)).mono fun g hg _=>by have:=hg.1;have:=HZ0.out;omega
  ·have h1:=kb.mono (B':=fun g=>w1.heap.size≤g∧g<w2.heap.size) fun g h1 h2=>⟨by simp at h1;omega,h2⟩
   have h2:=(h1.cong (w':=w3) fun g hg=>BY.out.block g hg.2)
   exact(h2.cong (w':=W) fun g hg=>HWB.out g (by have:=hg.1;have:=HS1.out;omega) (Nat.lt_of_lt_of_le hg.2 BY.out.size)).mono fun g hg _=>by have:=hg.1;have:=HS1.out;omega
theorem zkC:∀n:Nat,(∀k:Kd,k.sz≤n→k.sz≤k.flat.length∧k.flat.length≤2*k.sz)∧(∀f:Fl,f.sz≤n→f.sz≤f.flat.length∧f.flat.length≤2*f.sz)
 | 0=>by
  refine⟨fun k h=>by cases k <;> simp [Kd.sz] at h,fun f h=>?_⟩
  cases f with
  | nil=>simp [Fl.sz,Fl.flat]
  | cons s m k r=>simp [Fl.sz] at h
 | n+1=>by
  obtain⟨i1,i2⟩:=zkC n;refine⟨fun k h=>?_,fun f h=>?_⟩
  ·cases k with
   | base x=>simp [Kd.sz,Kd.flat]
   | ent s=>simp [Kd.sz,Kd.flat]
   | set q =>
    simp only [Kd.sz] at h
    have:=i1 q (by omega)
    simp only [Kd.sz,Kd.flat,List.length_cons];omega
   | fs f =>
    simp only [Kd.sz] at h
    have:=i2 f (by omega)
    simp only [Kd.sz,Kd.flat,List.length_cons];omega
  ·cases f with
   | nil=>simp [Fl.sz,Fl.flat]
   | cons s m k r =>
    simp only [Fl.sz] at h
    have h1:=i1 k (by omega)
    have h2:=i2 r (by omega)
    simp only [Fl.sz,Fl.flat,List.length_cons,List.length_append];omega
theorem _root_.Go.Wk.Kin.sz{P:List Nd}{k:Kd}(h:Kin P k):k.sz≤200:=by
 have h1:=((zkC _).1 k (Nat.le_refl _)).1;have h2:=h.l;rw [h.e] at h2;omega
theorem zn1:∀n:Nat,(∀k:Kd,k.sz≤n→k.valid→k.sz≤1000000→zaj k.flat)∧(∀f:Fl,f.sz≤n→f.av→f.sz≤1000000→zaj f.flat)
 | 0=>by
  refine⟨fun k h=>by cases k <;> simp [Kd.sz] at h,fun f h _ _=>?_⟩
  cases f with
  | nil=>exact fun x hx=>nomatch hx
  | cons s m k r=>simp [Fl.sz] at h
 | n+1=>by
  obtain⟨i1,i2⟩:=zn1 n;have hname:∀s:ByteArray,zd s=0→s.size≤maxLen:=fun s h=>by
   unfold zd at h;split at h
   ·split at h
    ·cases h
    ·unfold maxLen;omega
   ·cases h
  refine⟨fun k h hv hs=>?_,fun f h hv hs=>?_⟩
  ·cases k with
   | base x =>
    intro y hy
    simp only [Kd.flat,List.mem_cons,List.not_mem_nil,or_false] at hy
    subst hy
    exact⟨Nat.zero_le _,Nat.zero_le _,show(-9223372036854775808:Int)≤0 by decide,show(0:Int)≤9223372036854775807 by decide⟩
   | ent s =>
    intro y hy
    simp only [Kd.flat,List.mem_cons,List.not_mem_nil,or_false] at hy
    subst hy
    exact⟨hname s hv,Nat.zero_le _,show(-9223372036854775808:Int)≤0 by decide,show(0:Int)≤9223372036854775807 by decide⟩
   | set q =>
    simp only [Kd.sz] at h hs
    intro y hy
    rcases List.mem_cons.1 (show y∈_ :: q.flat from hy) with rfl|hy
    ·exact⟨Nat.zero_le _,Nat.zero_le _,show(-9223372036854775808:Int)≤0 by decide,show(0:Int)≤9223372036854775807 by decide⟩
    ·exact i1 q (by omega) hv (by omega) y hy
   | fs f =>
    simp only [Kd.sz] at h hs
    have hl:f.len≤f.sz:=zmI f
    intro y hy
    rcases List.mem_cons.1 (show y∈_ :: f.flat from hy) with rfl|hy
    ·exact⟨Nat.zero_le _,Nat.zero_le _,show(-9223372036854775808:Int)≤(f.len:Int) by omega,show(f.len:Int)≤9223372036854775807 by omega⟩
    ·exact i2 f (by omega) (zb5.1 hv).2 (by omega) y hy
  ·cases f with
   | nil=>exact fun x hx=>nomatch hx
   | cons s m k r =>
    simp only [Fl.sz] at h hs
    obtain⟨v1,v2,v3⟩:=hv
    intro y hy
    rcases List.mem_cons.1 (show y∈_ ::(k.flat ++ r.flat) from hy) with rfl|hy
    ·refine⟨hname s v1,Nat.zero_le _,?_,?_⟩<;>(simp only;split <;> decide)
    ·rcases List.mem_append.1 hy with hy|hy
     ·exact i1 k (by omega) v2 (by omega) y hy
     ·exact i2 r (by omega) v3 (by omega) y hy
theorem _root_.Go.Wk.Kd.valid.nds{k:Kd}(h:k.valid)(hs:k.sz≤1000000):zaj k.flat:=(zn1 _).1 k (Nat.le_refl _) h hs
theorem zdB.ns{w:World}{base:Nat}{v:Value}{P:List Nd}(h:zdB w base v P)(hok:zaj P)(hl:P.length≤1000000):∃(A:Option Addr) (n c:Nat),v = .slice A n c∧n=P.length∧Ns w A n c P:=by
 obtain⟨A,c,rfl,h1,h2,-⟩:=ji h.own;exact⟨A,_,c,rfl,rfl,⟨rfl,h1,by unfold maxLen;omega,h2,hok⟩⟩
theorem zq9(w:World)(base:Nat):zdB w base (.slice none 0 0) []:=⟨World.ownsRow_nil _ _ _ _⟩
theorem znT(w:World):Ns w none 0 0 []:=⟨rfl,Nat.le_refl _,Nat.zero_le _,fun k x hx=>by simp at hx,fun x hx=>nomatch hx⟩
def zos(w:World)(P Q:List Nd)(e:Ending)(w':World):Prop :=
 ∃(A:Option Addr) (n c:Nat),e = .returned (.tuple #[.slice A n c,zao (joinE P Q)])∧Ns w' A n c (zeT P Q)∧Below w.heap.size w w'∧∀a,A=some a→w.heap.size≤a.block
theorem Ns.kinds_JoinN{A1 A2:Option Addr}{n1 c1 n2 c2:Nat}{P Q:List Nd}{w:World}(h:Ns w A1 n1 c1 P)(k:Ns w A2 n2 c2 Q):
 Calls Tryz.prog 79 #[.slice A1 n1 c1,.slice A2 n2 c2] w (zos w P Q):=by
 have C:=hi9 (znd h k);clear h k;by_cases h0:zeQ P Q=0
 ·go_enter Tryz.func79,Tryz.ntmps79;go_wp2_with fail;refine C.out.mono ?_;rintro e w1 ⟨b1,o,n,s,t,p,A,m,c,o',n',s',t',p',A',m',c',rfl,hk⟩;obtain⟨a,b,ha,hb,ka,kb⟩:=hk h0;have B1:=hi9 b1;have HJE:=hi9 (ha.joinE hb);have HJV:=hi9 (show zeT P Q=if joinE P Q=0 then(zm a b).flat else [] by unfold zeT;rw [ha.join hb]);have hjv:(zm a b).valid:=zay _ a b (Nat.le_refl _) ha.v hb.v;have hjs:(zm a b).sz≤400:=by have:=ziC ha.v.ok hb.v.ok;have:=ha.sz;have:=hb.sz;omega
  have HOK:=hi9 (hjv.nds (by omega));have HFL:=hi9 (((zkC _).1 (zm a b) (Nat.le_refl _)).2);have HJS:=hi9 hjs;have K:=hi9 (fun w' (hw:Below w1.heap.size w1 w')=>zgh _ a b _ _ w' (fun g=>w.heap.size≤g∧g<w1.heap.size) (Nat.le_refl _) (by have:=ha.sz;omega) (by have:=hb.sz;omega) ((ka.mono fun g h1 h2=>⟨h1,h2⟩).cong fun g hg=>hw.block g hg.2) ((kb.mono fun g h1 h2=>⟨h1,h2⟩).cong fun g hg=>hw.block g hg.2) ha.v hb.v (fun g hg=>Nat.lt_of_lt_of_le hg.2 hw.size));rw [h0,zM];clear b1 hk ha hb ka kb C h0 hjv hjs;have BXY:=hi9 ((za w1 (.cells #[.int .i64 o,.int .i64 n,.string s,.string t,.pointer p,.slice A m c] 149)).trans ((za (w1.alloc (.cells #[.int .i64 o,.int .i64 n,.string s,.string t,.pointer p,.slice A m c] 149)) (.cells #[.int .i64 o',.int .i64 n',.string s',.string t',.pointer p',.slice A' m' c'] 149)).mono (by simp)));go_wp2_with fail;refine(K.out _ BXY.out).mono ?_;rintro e w2 ⟨u,rfl,ku,b2⟩;have B2:=hi9 (B1.out.trans ((BXY.out.trans (b2.mono BXY.out.size)).mono B1.out.size));have KF:=hi9 (zjB _ (zm a b) u w2 (fun g=>g<w2.heap.size) w2.heap.size (.slice none 0 0) [] (Nat.le_refl _) (by have:=HFL.out;have:=HJS.out;simp;omega) (ku.mono fun g _ hg=>hg) (zq9 _ _) (Nat.le_refl _) (fun g hg=>hg));obtain⟨o3,n3,s3,t3,p3,A3,m3,c3,rfl⟩:=zbC ku;clear b2 K ku;go_wp2_with fail;refine KF.out.mono ?_;rintro e w3 ⟨v3,rfl,r3,g3,-⟩;rw [List.nil_append] at r3;have B3:=hi9 (show Below w.heap.size w w3 from B2.out.trans ((show Below w2.heap.size w2 w3 from⟨g3.os,g3.tape,g3.output,g3.size,fun k hk=>g3.block k hk (fun e=>nomatch (show some k=none from e))⟩).mono B2.out.size));obtain⟨A4,n4,c4,rfl,hn4,N4⟩:=r3.ns HOK.out (by have:=HFL.out;have:=HJS.out;omega);have HLC:=hi9 (show∀a,A4=some a→w.heap.size≤a.block from fun a e=>by subst e;exact Nat.le_trans B2.out.size (zD r3.own _ rfl));have NS:=hi9 N4;have HN4:=hi9 hn4;have hl4:n4≤800:=by have:=HFL.out;have:=HJS.out;omega
  clear r3 g3 N4 KF hn4;by_cases hb:200<n4
  ·have HE:=hi9 (show joinE P Q=4 by rw [HJE.out,if_pos (by rw [←HN4.out];exact hb)]);have HV:=hi9 (show zeT P Q = [] by rw [HJV.out,HE.out];rfl);go_wp2_with fail;go_ret2;exact⟨none,0,0,by rw [HE.out];rfl,by rw [HV.out];exact znT _,B3.out,fun a e=>nomatch e⟩
  ·have HE:=hi9 (show joinE P Q=0 by rw [HJE.out,if_neg (by rw [←HN4.out];exact hb)]);have HV:=hi9 (show zeT P Q=(zm a b).flat by rw [HJV.out,HE.out];rfl);go_wp2_with fail;go_ret2;exact⟨A4,n4,c4,by rw [HE.out];rfl,by rw [HV.out];exact NS.out,B3.out,HLC.out⟩
 ·have HE:=hi9 (show joinE P Q=zeQ P Q by unfold joinE;rw [if_neg h0]);have HV:=hi9 (show zeT P Q = [] by unfold zeT;rw [HE.out,if_neg h0]);go_enter Tryz.func79,Tryz.ntmps79;go_wp2_with fail;refine C.out.mono ?_;rintro e w1 ⟨b1,o,n,s,t,p,A,m,c,o',n',s',t',p',A',m',c',rfl,-⟩;rw [jc h0];have B1:=hi9 b1;clear b1 C;have BXY:=hi9 ((za w1 (.cells #[.int .i64 o,.int .i64 n,.string s,.string t,.pointer p,.slice A m c] 149)).trans ((za (w1.alloc (.cells #[.int .i64 o,.int .i64 n,.string s,.string t,.pointer p,.slice A m c] 149)) (.cells #[.int .i64 o',.int .i64 n',.string s',.string t',.pointer p',.slice A' m' c'] 149)).mono (by simp)));go_wp2_with fail;go_ret2;exact⟨none,0,0,by rw [HE.out,jc h0];rfl,by rw [HV.out];exact znT _,B1.out.trans (BXY.out.mono B1.out.size),fun a e=>nomatch e⟩
end Go.Proofs.YtjcdeikbghjpkaaGreatDoor
