/-
  kinds.join: the least above two types: all but records. kinds.join: of records. ..
-/
import Derived.Deep.AppendLies
import Derived.Test.YthifljpkgfpkiaaGreatDoorQ9
import Derived.Test.YthifljpkgfpkiaaGreatDoorQ27
set_option maxRecDepth 100000
set_option maxHeartbeats 8000000
namespace Go.Proofs.YthifljpkgfpkiaaGreatDoor
open Go.RowKit Go.Wk Go.Sort
def uO(w:World)(B:Nat->Prop)(k:Kd)(e:Ending)(w':World):Prop :=
 ∃u,e = .returned (.agg u.toArray)/\KAt w' (λb=>B b\/w.heap.size<=b) k u/\Below w.heap.size w w'
def OP(N:Nat):Prop:=∀(a b:Kd) (va vb:List Value) (w:World) (B:Nat->Prop),a.sz<=N->a.sz<=90000->b.sz<=90000->KAt w B a va->KAt w B b vb->a.valid->b.valid->(∀b,B b->b<w.heap.size)->
 Calls Tryz.prog 72 #[.agg va.toArray,.agg vb.toArray] w (uO w B (zI a b))
theorem Bx6.row{w:World}{b:Nat}{x0 x1 x2 x3 x4 x5:Value}(h:Bx6 w b x0 x1 x2 x3 x4 x5):uK w ⟨b,0,none⟩ [x0,x1,x2,x3,x4,x5]:=by
 have ad:∀(j:Nat),(⟨b,0,none⟩:Addr).add j=⟨b,j,none⟩:=λj=>by
  unfold Addr.add;split
  ·rename_i h0;subst h0;rfl
  ·simp
 intro j x hx;rw [ad]
 match j,hx with
 | 0,hx=>injection hx with hx;subst hx;exact h.c0
 | 1,hx=>injection hx with hx;subst hx;exact h.c1
 | 2,hx=>injection hx with hx;subst hx;exact h.c2
 | 3,hx=>injection hx with hx;subst hx;exact h.c3
 | 4,hx=>injection hx with hx;subst hx;exact h.c4
 | 5,hx=>injection hx with hx;subst hx;exact h.c5
 | j+6,hx=>simp at hx
theorem rp{w W:World}{B D:Nat->Prop}{kk:Kd}{n1:Int}{pb rb:Nat}{u:List Value}(hBW:Below w.heap.size w W)(Ys:w.heap.size<=pb)(hne:pb≠rb)(Yo:w.heap.size<=rb)(hrow:uK W ⟨pb,0,none⟩ u)(hk:KAt W D kk u)
 (hD:∀b,D b->(B b\/w.heap.size<=b)/\b≠rb) (y0 y1 y2 y3 y4 y5:Value):
 uO w B (.set kk) (.returned (.agg #[.int .i64 45,.int .i64 n1,.string ⟨#[]⟩,.string ⟨#[]⟩,.pointer (some ⟨pb,0,none⟩),.slice none 0 0])) ((((((W.setCell ⟨rb,0,none⟩ y0).setCell ⟨rb,1,none⟩ y1).setCell ⟨rb,2,none⟩ y2).setCell ⟨rb,3,none⟩ y3).setCell ⟨rb,4,none⟩ y4).setCell ⟨rb,5,none⟩ y5):=
 ⟨[.int .i64 45,.int .i64 n1,.string ⟨#[]⟩,.string ⟨#[]⟩,.pointer (some ⟨pb,0,none⟩),.slice none 0 0],rfl,
  ⟨n1,pb,u,rfl,.inr Ys,hrow.cong (ae W rb y0 y1 y2 y3 y4 y5 hne),(hk.cong λb hb=>ae W rb y0 y1 y2 y3 y4 y5 (hD b hb).2).mono λb hb _=>(hD b hb).1⟩,jY hBW Yo y0 y1 y2 y3 y4 y5⟩
section
variable (o1 o2 n1 n2:Int) (s1 s2 t1 t2:ByteArray) (p1 p2 A1 A2:Option Addr) (m1 c1 m2 c2:Nat) (w:World)
theorem Gm(h:o1=49\/o2=48):
 Calls Tryz.prog 72 #[.agg #[.int .i64 o1,.int .i64 n1,.string s1,.string t1,.pointer p1,.slice A1 m1 c1],.agg #[.int .i64 o2,.int .i64 n2,.string s2,.string t2,.pointer p2,.slice A2 m2 c2]] w λe w'=>e = .returned (.agg #[.int .i64 o2,.int .i64 n2,.string s2,.string t2,.pointer p2,.slice A2 m2 c2])/\Below w.heap.size w w':=by
 have HB:=O (λo=>(za w (.cells #[.int .i64 o1,.int .i64 n1,.string s1,.string t1,.pointer p1,.slice A1 m1 c1] 81)).trans (((za _ (.cells #[.int .i64 o2,.int .i64 n2,.string s2,.string t2,.pointer p2,.slice A2 m2 c2] 81)).trans ((za _ o).mono (by simp))).mono (by simp)));by_cases h1:o1=49
 ·subst h1;clear h;go_enter Tryz.func72,Tryz.ntmps72;go_wp2_with fail;refine bodyPost_ret (v := .agg #[.int .i64 o2,.int .i64 n2,.string s2,.string t2,.pointer p2,.slice A2 m2 c2]) (by simp [results,Tryz.results72,go_sem]) rfl ?_;exact⟨rfl,HB.o _⟩
 ·have h2:=h.resolve_left h1;have h3:(o1==49)=false:=beq_eq_false_iff_ne.2 h1;subst h2;clear h h1;go_enter Tryz.func72,Tryz.ntmps72;go_wp2_with fail;refine bodyPost_ret (v := .agg #[.int .i64 48,.int .i64 n2,.string s2,.string t2,.pointer p2,.slice A2 m2 c2]) (by simp [results,Tryz.results72,go_sem]) rfl ?_;exact⟨rfl,HB.o _⟩
theorem Ke(e1:o1≠49)(e2:o2≠48)(h:o2=49\/o1=48):
 Calls Tryz.prog 72 #[.agg #[.int .i64 o1,.int .i64 n1,.string s1,.string t1,.pointer p1,.slice A1 m1 c1],.agg #[.int .i64 o2,.int .i64 n2,.string s2,.string t2,.pointer p2,.slice A2 m2 c2]] w λe w'=>e = .returned (.agg #[.int .i64 o1,.int .i64 n1,.string s1,.string t1,.pointer p1,.slice A1 m1 c1])/\Below w.heap.size w w':=by
 have HB:=O (λo=>(za w (.cells #[.int .i64 o1,.int .i64 n1,.string s1,.string t1,.pointer p1,.slice A1 m1 c1] 81)).trans (((za _ (.cells #[.int .i64 o2,.int .i64 n2,.string s2,.string t2,.pointer p2,.slice A2 m2 c2] 81)).trans ((za _ o).mono (by simp))).mono (by simp)));have f1:(o1==49)=false:=beq_eq_false_iff_ne.2 e1;have f2:(o2==48)=false:=beq_eq_false_iff_ne.2 e2;by_cases h1:o2=49
 ·subst h1;clear h;go_enter Tryz.func72,Tryz.ntmps72;go_wp2_with fail;refine bodyPost_ret (v := .agg #[.int .i64 o1,.int .i64 n1,.string s1,.string t1,.pointer p1,.slice A1 m1 c1]) (by simp [results,Tryz.results72,go_sem]) rfl ?_;exact⟨rfl,HB.o _⟩
 ·have h2:=h.resolve_left h1;have h3:(o2==49)=false:=beq_eq_false_iff_ne.2 h1;subst h2;clear h h1;go_enter Tryz.func72,Tryz.ntmps72;go_wp2_with fail;refine bodyPost_ret (v := .agg #[.int .i64 48,.int .i64 n1,.string s1,.string t1,.pointer p1,.slice A1 m1 c1]) (by simp [results,Tryz.results72,go_sem]) rfl ?_;exact⟨rfl,HB.o _⟩
theorem Cz(e1:o1≠49)(e2:o2≠48)(e3:o1≠48)(e4:o2≠49)(h:o1≠o2\/s1≠s2):
 Calls Tryz.prog 72 #[.agg #[.int .i64 o1,.int .i64 n1,.string s1,.string t1,.pointer p1,.slice A1 m1 c1],.agg #[.int .i64 o2,.int .i64 n2,.string s2,.string t2,.pointer p2,.slice A2 m2 c2]] w λe w'=>e = .returned (.agg #[.int .i64 48,.int .i64 0,.string ⟨#[]⟩,.string ⟨#[]⟩,.pointer none,.slice none 0 0])/\Below w.heap.size w w':=by
 have HB:=O (λo=>(za w (.cells #[.int .i64 o1,.int .i64 n1,.string s1,.string t1,.pointer p1,.slice A1 m1 c1] 81)).trans (((za _ (.cells #[.int .i64 o2,.int .i64 n2,.string s2,.string t2,.pointer p2,.slice A2 m2 c2] 81)).trans ((za _ o).mono (by simp))).mono (by simp)));have f1:(o1==49)=false:=beq_eq_false_iff_ne.2 e1;have f2:(o2==48)=false:=beq_eq_false_iff_ne.2 e2;have f3:(o1==48)=false:=beq_eq_false_iff_ne.2 e3;have f4:(o2==49)=false:=beq_eq_false_iff_ne.2 e4;by_cases ho:o1=o2
 ·have hs:=h.resolve_left (λq=>q ho);have e5:(s1.toList==s2.toList)=false:=beq_eq_false_iff_ne.2 (λq=>hs (toList_inj q));subst ho;clear h hs e1 e2 e3 e4;go_enter Tryz.func72,Tryz.ntmps72;go_wp2_with fail;refine bodyPost_ret (v := .agg #[.int .i64 48,.int .i64 0,.string ⟨#[]⟩,.string ⟨#[]⟩,.pointer none,.slice none 0 0]) (by simp [results,Tryz.results72,go_sem]) rfl ?_;exact⟨rfl,HB.o _⟩
 ·have e3:(o1==o2)=false:=beq_eq_false_iff_ne.2 ho;have e4:(o1 != o2)=true:=by rw [bne_iff_ne];exact ho
  clear h e1 e2 ho;go_enter Tryz.func72,Tryz.ntmps72;go_wp2_with fail;refine bodyPost_ret (v := .agg #[.int .i64 48,.int .i64 0,.string ⟨#[]⟩,.string ⟨#[]⟩,.pointer none,.slice none 0 0]) (by simp [results,Tryz.results72,go_sem]) rfl ?_;exact⟨rfl,HB.o _⟩
theorem xX(e1:o1≠49)(e2:o1≠48)(e3:o1≠45)(e4:o1≠46):
 Calls Tryz.prog 72 #[.agg #[.int .i64 o1,.int .i64 n1,.string s1,.string t1,.pointer p1,.slice A1 m1 c1],.agg #[.int .i64 o1,.int .i64 n2,.string s1,.string t2,.pointer p2,.slice A2 m2 c2]] w λe w'=>e = .returned (.agg #[.int .i64 o1,.int .i64 n1,.string s1,.string t1,.pointer p1,.slice A1 m1 c1])/\Below w.heap.size w w':=by
 have HB:=O (λo=>(za w (.cells #[.int .i64 o1,.int .i64 n1,.string s1,.string t1,.pointer p1,.slice A1 m1 c1] 81)).trans (((za _ (.cells #[.int .i64 o1,.int .i64 n2,.string s1,.string t2,.pointer p2,.slice A2 m2 c2] 81)).trans ((za _ o).mono (by simp))).mono (by simp)));have f1:(o1==49)=false:=beq_eq_false_iff_ne.2 e1;have f2:(o1==48)=false:=beq_eq_false_iff_ne.2 e2;have f3:(o1==45)=false:=beq_eq_false_iff_ne.2 e3;have f4:(o1==46)=false:=beq_eq_false_iff_ne.2 e4;have f5:(o1 != 46)=true:=by rw [bne_iff_ne];exact e4
 clear e1 e2 e3 e4;go_enter Tryz.func72,Tryz.ntmps72;go_wp2_with fail;refine bodyPost_ret (v := .agg #[.int .i64 o1,.int .i64 n1,.string s1,.string t1,.pointer p1,.slice A1 m1 c1]) (by simp [results,Tryz.results72,go_sem]) rfl ?_;exact⟨rfl,HB.o _⟩
end
theorem Le(N:Nat)(ih:OP N)(p q:Kd)(va vb:List Value)(w:World)(B:Nat->Prop)(h:p.sz<=N)(hp:p.sz<=90000)(hq:q.sz<=90000)(ha:KAt w B (.set p) va)(hb:KAt w B (.set q) vb)(op:p.valid)(oq:q.valid)(hB:∀b,B b->b<w.heap.size):
 Calls Tryz.prog 72 #[.agg va.toArray,.agg vb.toArray] w (uO w B (.set (zI p q))):=by
 obtain⟨n1,b1,u1,rfl,hb1,r1,k1⟩:=ha;obtain⟨n2,b2,u2,rfl,hb2,r2,k2⟩:=hb;have IH:=O (λw' (hw:Below w.heap.size w w')=>ih p q u1 u2 w' B h hp hq (k1.cong (λb x=>hw.block b (hB b x))) (k2.cong (λb x=>hw.block b (hB b x))) op oq (λb x=>Nat.lt_of_lt_of_le (hB b x) hw.size));obtain⟨o3,n3,s3,t3,p3,A3,m3,c3,rfl⟩:=aG k1;obtain⟨o4,n4,s4,t4,p4,A4,m4,c4,rfl⟩:=aG k2;have L1:=hB b1 hb1;have L2:=hB b2 hb2;have R1:=O (λw' (hw:Below w.heap.size w w')=>r1.cong (w':=w') (hw.block b1 L1));have R2:=O (λw' (hw:Below w.heap.size w w')=>r2.cong (w':=w') (hw.block b2 L2));have mZ:=O hB;clear k1 k2 r1 r2 ih hB hb1 hb2 L1 L2;have Ba:=za w (.cells #[.int .i64 45,.int .i64 n1,.string ⟨#[]⟩,.string ⟨#[]⟩,.pointer (some ⟨b1,0,none⟩),.slice none 0 0] 81);have Bb:=za (w.alloc (.cells #[.int .i64 45,.int .i64 n1,.string ⟨#[]⟩,.string ⟨#[]⟩,.pointer (some ⟨b1,0,none⟩),.slice none 0 0] 81)) (.cells #[.int .i64 45,.int .i64 n2,.string ⟨#[]⟩,.string ⟨#[]⟩,.pointer (some ⟨b2,0,none⟩),.slice none 0 0] 81);have Bc:=za ((w.alloc (.cells #[.int .i64 45,.int .i64 n1,.string ⟨#[]⟩,.string ⟨#[]⟩,.pointer (some ⟨b1,0,none⟩),.slice none 0 0] 81)).alloc (.cells #[.int .i64 45,.int .i64 n2,.string ⟨#[]⟩,.string ⟨#[]⟩,.pointer (some ⟨b2,0,none⟩),.slice none 0 0] 81)) (.cells #[.int .i64 0,.int .i64 0,.string ⟨#[]⟩,.string ⟨#[]⟩,.pointer none,.slice none 0 0] 81);have HB:=O (Ba.trans ((Bb.trans (Bc.mono (by simp))).mono (by simp)));have hsz:(w.alloc (.cells #[.int .i64 45,.int .i64 n1,.string ⟨#[]⟩,.string ⟨#[]⟩,.pointer (some ⟨b1,0,none⟩),.slice none 0 0] 81)).heap.size=w.heap.size+1:=by simp
 have hsz2:((w.alloc (.cells #[.int .i64 45,.int .i64 n1,.string ⟨#[]⟩,.string ⟨#[]⟩,.pointer (some ⟨b1,0,none⟩),.slice none 0 0] 81)).alloc (.cells #[.int .i64 45,.int .i64 n2,.string ⟨#[]⟩,.string ⟨#[]⟩,.pointer (some ⟨b2,0,none⟩),.slice none 0 0] 81)).heap.size=w.heap.size+2:=by simp
 have hsz3:(((w.alloc (.cells #[.int .i64 45,.int .i64 n1,.string ⟨#[]⟩,.string ⟨#[]⟩,.pointer (some ⟨b1,0,none⟩),.slice none 0 0] 81)).alloc (.cells #[.int .i64 45,.int .i64 n2,.string ⟨#[]⟩,.string ⟨#[]⟩,.pointer (some ⟨b2,0,none⟩),.slice none 0 0] 81)).alloc (.cells #[.int .i64 0,.int .i64 0,.string ⟨#[]⟩,.string ⟨#[]⟩,.pointer none,.slice none 0 0] 81)).heap.size=w.heap.size+3:=by simp
 have X1:=((jf w (.int .i64 45) (.int .i64 n1) (.string ⟨#[]⟩) (.string ⟨#[]⟩) (.pointer (some ⟨b1,0,none⟩)) (.slice none 0 0) 81).keep Bb).keep Bc;have X2:=(jf (w.alloc (.cells #[.int .i64 45,.int .i64 n1,.string ⟨#[]⟩,.string ⟨#[]⟩,.pointer (some ⟨b1,0,none⟩),.slice none 0 0] 81)) (.int .i64 45) (.int .i64 n2) (.string ⟨#[]⟩) (.string ⟨#[]⟩) (.pointer (some ⟨b2,0,none⟩)) (.slice none 0 0) 81).keep Bc;have X3:=jf ((w.alloc (.cells #[.int .i64 45,.int .i64 n1,.string ⟨#[]⟩,.string ⟨#[]⟩,.pointer (some ⟨b1,0,none⟩),.slice none 0 0] 81)).alloc (.cells #[.int .i64 45,.int .i64 n2,.string ⟨#[]⟩,.string ⟨#[]⟩,.pointer (some ⟨b2,0,none⟩),.slice none 0 0] 81)) (.int .i64 0) (.int .i64 0) (.string ⟨#[]⟩) (.string ⟨#[]⟩) (.pointer none) (.slice none 0 0) 81;rw [hsz] at X2;rw [hsz2] at X3;clear Ba Bb Bc;generalize zI p q=kk at *;change Calls Tryz.prog 72 #[.agg #[.int .i64 45,.int .i64 n1,.string ⟨#[]⟩,.string ⟨#[]⟩,.pointer (some ⟨b1,0,none⟩),.slice none 0 0],.agg #[.int .i64 45,.int .i64 n2,.string ⟨#[]⟩,.string ⟨#[]⟩,.pointer (some ⟨b2,0,none⟩),.slice none 0 0]] w _;go_enter Tryz.func72,Tryz.ntmps72;go_wp2_with fail;obtain⟨w2,hw2⟩:∃w2,(((w.alloc (.cells #[.int .i64 45,.int .i64 n1,.string ⟨#[]⟩,.string ⟨#[]⟩,.pointer (some ⟨b1,0,none⟩),.slice none 0 0] 81)).alloc (.cells #[.int .i64 45,.int .i64 n2,.string ⟨#[]⟩,.string ⟨#[]⟩,.pointer (some ⟨b2,0,none⟩),.slice none 0 0] 81)).alloc (.cells #[.int .i64 0,.int .i64 0,.string ⟨#[]⟩,.string ⟨#[]⟩,.pointer none,.slice none 0 0] 81))=w2:=⟨_,rfl⟩
 rw [hw2] at X1 X2 X3 HB hsz3 ⊢;clear hw2 hsz hsz2;have wd:=O X1;have FQ:=O X3;have HZ:=O hsz3;have HA:=O (λ(w':World) (hb:Below w2.heap.size w2 w')=>(show w'.cell? ⟨w.heap.size,4,none⟩=some (.pointer (some ⟨b1,0,none⟩))/\w'.cell? ⟨w.heap.size+1,4,none⟩=some (.pointer (some ⟨b2,0,none⟩))/\w'.cell? ⟨b1,0,none⟩=some (.int .i64 o3)/\w'.cell? ⟨b1,1,none⟩=some (.int .i64 n3)/\w'.cell? ⟨b1,2,none⟩=some (.string s3)/\w'.cell? ⟨b1,3,none⟩=some (.string t3)/\w'.cell? ⟨b1,4,none⟩=some (.pointer p3)/\w'.cell? ⟨b1,5,none⟩=some (.slice A3 m3 c3)/\w'.cell? ⟨b2,0,none⟩=some (.int .i64 o4)/\w'.cell? ⟨b2,1,none⟩=some (.int .i64 n4)/\w'.cell? ⟨b2,2,none⟩=some (.string s4)/\w'.cell? ⟨b2,3,none⟩=some (.string t4)/\w'.cell? ⟨b2,4,none⟩=some (.pointer p4)/\w'.cell? ⟨b2,5,none⟩=some (.slice A4 m4 c4) from by
  have Q1:=R1.o w' (HB.o.trans (hb.mono HB.o.size))
  have Q2:=R2.o w' (HB.o.trans (hb.mono HB.o.size))
  have ad:∀(b j:Nat),(⟨b,0,none⟩:Addr).add j=⟨b,j,none⟩:=λb j=>by
   unfold Addr.add
   split
   ·rename_i h0;subst h0;rfl
   ·simp
  have d0:=Q1 0 _ rfl
  have d1:=Q1 1 _ rfl
  have d2:=Q1 2 _ rfl
  have d3:=Q1 3 _ rfl
  have d4:=Q1 4 _ rfl
  have d5:=Q1 5 _ rfl
  have g0:=Q2 0 _ rfl
  have g1:=Q2 1 _ rfl
  have g2:=Q2 2 _ rfl
  have g3:=Q2 3 _ rfl
  have g4:=Q2 4 _ rfl
  have g5:=Q2 5 _ rfl
  rw [ad] at d0 d1 d2 d3 d4 d5 g0 g1 g2 g3 g4 g5
  exact⟨(X1.keep hb).c4,(X2.keep hb).c4,d0,d1,d2,d3,d4,d5,g0,g1,g2,g3,g4,g5⟩))
 have bd:Below w2.heap.size w2 w2.drew:=⟨rfl,rfl,rfl,Nat.le_refl _,λ_ _=>rfl⟩
 have bz:=bd.trans ((za w2.drew (.cells #[.int .i64 0,.int .i64 0,.string ⟨#[]⟩,.string ⟨#[]⟩,.pointer none,.slice none 0 0] 81)).mono (show w2.heap.size<=w2.drew.heap.size from Nat.le_refl _));have XP:=O (show Bx6 (w2.drew.alloc (.cells #[.int .i64 0,.int .i64 0,.string ⟨#[]⟩,.string ⟨#[]⟩,.pointer none,.slice none 0 0] 81)) w2.heap.size (.int .i64 0) (.int .i64 0) (.string ⟨#[]⟩) (.string ⟨#[]⟩) (.pointer none) (.slice none 0 0) from jf w2.drew _ _ _ _ _ _ _);have BD:=O bd;have BZ:=O bz;have KA:=O (IH.o w2.drew (HB.o.trans (bd.mono HB.o.size)));have KB:=O (IH.o _ (HB.o.trans (bz.mono HB.o.size)));obtain⟨z1,z2,d0,d1,d2,d3,d4,d5,g0,g1,g2,g3,g4,g5⟩:=HA.o w2 (Below.refl _ _);clear R1 R2 IH X1 X2 X3 bd bz hsz3;go_region_held3 (λ(w':World)=>w'.cell? ⟨w.heap.size,4,none⟩=some (.pointer (some ⟨b1,0,none⟩))/\w'.cell? ⟨w.heap.size+1,4,none⟩=some (.pointer (some ⟨b2,0,none⟩))/\w'.cell? ⟨b1,0,none⟩=some (.int .i64 o3)/\w'.cell? ⟨b1,1,none⟩=some (.int .i64 n3)/\w'.cell? ⟨b1,2,none⟩=some (.string s3)/\w'.cell? ⟨b1,3,none⟩=some (.string t3)/\w'.cell? ⟨b1,4,none⟩=some (.pointer p3)/\w'.cell? ⟨b1,5,none⟩=some (.slice A3 m3 c3)/\w'.cell? ⟨b2,0,none⟩=some (.int .i64 o4)/\w'.cell? ⟨b2,1,none⟩=some (.int .i64 n4)/\w'.cell? ⟨b2,2,none⟩=some (.string s4)/\w'.cell? ⟨b2,3,none⟩=some (.string t4)/\w'.cell? ⟨b2,4,none⟩=some (.pointer p4)/\w'.cell? ⟨b2,5,none⟩=some (.slice A4 m4 c4)) (first|go_keep|exact HA.o _ (jY B4.o (Nat.le_refl _) _ _ _ _ _ _))
  (first
   |(go_at_call 72;(refine KA.o.mono ?_);rintro e w4 ⟨u,rfl,ku,b4⟩;(obtain⟨o5,n5,s5,t5,p5,A5,m5,c5,rfl⟩:=aG ku);(have KU:=O ku);(have B4:=O (BD.o.trans (b4.mono BD.o.size)));clear z1 z2 d0 d1 d2 d3 d4 d5 g0 g1 g2 g3 g4 g5;(obtain⟨z1,z2,d0,d1,d2,d3,d4,d5,g0,g1,g2,g3,g4,g5⟩:=HA.o w4 B4.o);clear ku b4)
   |(go_at_call 72;(refine KB.o.mono ?_);rintro e w4 ⟨u,rfl,ku,b4⟩;(obtain⟨o5,n5,s5,t5,p5,A5,m5,c5,rfl⟩:=aG ku);(have KU:=O ku);(have B4:=O (BZ.o.trans (b4.mono BZ.o.size)));clear z1 z2 d0 d1 d2 d3 d4 d5 g0 g1 g2 g3 g4 g5;(obtain⟨z1,z2,d0,d1,d2,d3,d4,d5,g0,g1,g2,g3,g4,g5⟩:=HA.o w4 B4.o);(have Zf:=O (XP.o.keep b4));(have IF:=O (show w2.heap.size+1<=w4.heap.size by have:=b4.size;simpa using this));(obtain⟨k0,k1,k2,k3,k4,k5,y0,y1,y2,y3,y4,y5⟩:=XP.o.keep b4);clear ku b4))
 ·have b5:=za w4 (.cells #[.int .i64 o5,.int .i64 n5,.string s5,.string t5,.pointer p5,.slice A5 m5 c5] 81);have RW:=O (eW w4 [.int .i64 o5,.int .i64 n5,.string s5,.string t5,.pointer p5,.slice A5 m5 c5] 81);have KW:=O ((KU.o.mono (B':=λb=>(B b\/w2.heap.size<=b)/\b<w4.heap.size) λb h1 h2=>⟨h1,h2⟩).cong (w':=w4.alloc (.cells #[.int .i64 o5,.int .i64 n5,.string s5,.string t5,.pointer p5,.slice A5 m5 c5] 81)) λb hb=>b5.block b hb.2);have BW:=O (HB.o.trans ((B4.o.trans (b5.mono B4.o.size)).mono HB.o.size));have XA:=(wd.o.keep B4.o).keep b5;have XR:=O ((FQ.o.keep B4.o).keep b5);have HS:=O B4.o.size;obtain⟨W,hW⟩:∃W,w4.alloc (.cells #[.int .i64 o5,.int .i64 n5,.string s5,.string t5,.pointer p5,.slice A5 m5 c5] 81)=W:=⟨_,rfl⟩
  have ZL:=O (show w4.heap.size<W.heap.size by rw [<-hW];simp);rw [hW] at KW BW XA XR ⊢;have RW2:=O (show uK W ⟨w4.heap.size,0,none⟩ [.int .i64 o5,.int .i64 n5,.string s5,.string t5,.pointer p5,.slice A5 m5 c5] by rw [<-hW];exact RW.o);clear hW b5 KU RW z1 z2 d0 d1 d2 d3 d4 d5 g0 g1 g2 g3 g4 g5;obtain⟨x0,x1,x2,x3,x4,x5,-,-,-,-,-,-⟩:=XA;obtain⟨r0,r1,r2,r3,r4,r5,y0,y1,y2,y3,y4,y5⟩:=XR.o;go_wp2_with fail;obtain⟨j0,j1,j2,j3,j4,j5,-,-,-,-,-,-⟩:=XR.o.set (.int .i64 45) (.int .i64 n1) (.string ⟨#[]⟩) (.string ⟨#[]⟩) (.pointer (some ⟨w4.heap.size,0,none⟩)) (.slice none 0 0);refine bodyPost_ret (v := .agg #[.int .i64 45,.int .i64 n1,.string ⟨#[]⟩,.string ⟨#[]⟩,.pointer (some ⟨w4.heap.size,0,none⟩),.slice none 0 0]) (by simp [results,Tryz.results72,go_sem,j0,j1,j2,j3,j4,j5]) rfl ?_;exact rp BW.o (by have:=HS.o;have:=HZ.o;omega) (by have:=HS.o;have:=HZ.o;omega) (by omega) RW2.o KW.o (λb hb=>⟨hb.1.imp_right λh=>by have:=HZ.o;omega,by
   rcases hb.1 with h|h
   ·have:=mZ.o b h;omega
   ·have:=HZ.o;omega⟩) _ _ _ _ _ _
 ·have gs:=jI w4 w2.heap.size (.int .i64 o5) (.int .i64 n5) (.string s5) (.string t5) (.pointer p5) (.slice A5 m5 c5);have RW:=(Zf.o.set (.int .i64 o5) (.int .i64 n5) (.string s5) (.string t5) (.pointer p5) (.slice A5 m5 c5)).row;have KW:=(KU.o.mono (B':=λb=>B b\/w2.heap.size+1<=b) λb h1 h2=>h1.imp_right λh=>by simpa using h).cong (w':=((((((w4.setCell ⟨w2.heap.size,0,none⟩ (.int .i64 o5)).setCell ⟨w2.heap.size,1,none⟩ (.int .i64 n5)).setCell ⟨w2.heap.size,2,none⟩ (.string s5)).setCell ⟨w2.heap.size,3,none⟩ (.string t5)).setCell ⟨w2.heap.size,4,none⟩ (.pointer p5)).setCell ⟨w2.heap.size,5,none⟩ (.slice A5 m5 c5))) λb hb=>ae w4 w2.heap.size (.int .i64 o5) (.int .i64 n5) (.string s5) (.string t5) (.pointer p5) (.slice A5 m5 c5) (by
   rcases hb with h|h
   ·have:=mZ.o b h;have:=HZ.o;omega
   ·omega)
  have BW:=HB.o.trans ((jY B4.o (Nat.le_refl _) (.int .i64 o5) (.int .i64 n5) (.string s5) (.string t5) (.pointer p5) (.slice A5 m5 c5)).mono HB.o.size);have XA:=(wd.o.keep B4.o).but gs (λe=>by injection e with e;have:=HZ.o;omega);have XR:=(FQ.o.keep B4.o).but gs (λe=>by injection e with e;have:=HZ.o;omega);obtain⟨W,hW⟩:∃W,((((((w4.setCell ⟨w2.heap.size,0,none⟩ (.int .i64 o5)).setCell ⟨w2.heap.size,1,none⟩ (.int .i64 n5)).setCell ⟨w2.heap.size,2,none⟩ (.string s5)).setCell ⟨w2.heap.size,3,none⟩ (.string t5)).setCell ⟨w2.heap.size,4,none⟩ (.pointer p5)).setCell ⟨w2.heap.size,5,none⟩ (.slice A5 m5 c5))=W:=⟨_,rfl⟩
  rw [hW] at RW KW BW XA XR ⊢;have XR:=O XR;have RW:=O RW;have KW:=O KW;have BW:=O BW;clear hW gs KU z1 z2 d0 d1 d2 d3 d4 d5 g0 g1 g2 g3 g4 g5 k0 k1 k2 k3 k4 k5 y0 y1 y2 y3 y4 y5 Zf;obtain⟨x0,x1,x2,x3,x4,x5,-,-,-,-,-,-⟩:=XA;obtain⟨r0,r1,r2,r3,r4,r5,y0,y1,y2,y3,y4,y5⟩:=XR.o;go_wp2_with fail;obtain⟨j0,j1,j2,j3,j4,j5,-,-,-,-,-,-⟩:=XR.o.set (.int .i64 45) (.int .i64 n1) (.string ⟨#[]⟩) (.string ⟨#[]⟩) (.pointer (some ⟨w2.heap.size,0,none⟩)) (.slice none 0 0);refine bodyPost_ret (v := .agg #[.int .i64 45,.int .i64 n1,.string ⟨#[]⟩,.string ⟨#[]⟩,.pointer (some ⟨w2.heap.size,0,none⟩),.slice none 0 0]) (by simp [results,Tryz.results72,go_sem,j0,j1,j2,j3,j4,j5]) rfl ?_;exact rp BW.o (by have:=HZ.o;omega) (by have:=HZ.o;omega) (by omega) RW.o KW.o (λb hb=>⟨hb.imp_right λh=>by have:=HZ.o;omega,by
   rcases hb with h|h
   ·have:=mZ.o b h;omega
   ·have:=HZ.o;omega⟩) _ _ _ _ _ _
structure JLp(w wr:World)(D:Nat->Prop)(n1 n2:Int)(A1 A2:Option Addr)(m1 c1 m2 c2:Nat)(E:List Fe)(v:Value):Prop where
 X1:Bx6 wr w.heap.size (.int .i64 46) (.int .i64 n1) (.string ⟨#[]⟩) (.string ⟨#[]⟩) (.pointer none) (.slice A1 m1 c1)
 X2:Bx6 wr (w.heap.size+1) (.int .i64 46) (.int .i64 n2) (.string ⟨#[]⟩) (.string ⟨#[]⟩) (.pointer none) (.slice A2 m2 c2)
 R:Bx6 wr (w.heap.size+2) (.int .i64 0) (.int .i64 0) (.string ⟨#[]⟩) (.string ⟨#[]⟩) (.pointer none) (.slice none 0 0)
 K:Bx6 wr (w.heap.size+3) (.int .i64 46) (.int .i64 0) (.string ⟨#[]⟩) (.string ⟨#[]⟩) (.pointer none) v
 F:iq wr (w.heap.size+4) D v E
 G:Below w.heap.size w wr
 z:w.heap.size+4<=wr.heap.size
theorem JLp.keep{w wr w':World}{D:Nat->Prop}{n1 n2:Int}{A1 A2:Option Addr}{m1 c1 m2 c2:Nat}{E:List Fe}{v:Value}(h:JLp w wr D n1 n2 A1 A2 m1 c1 m2 c2 E v)(hb:Below wr.heap.size wr w'):JLp w w' D n1 n2 A1 A2 m1 c1 m2 c2 E v :=
 ⟨h.X1.keep hb,h.X2.keep hb,h.R.keep hb,h.K.keep hb,h.F.keepN (zc hb none),h.G.trans (hb.mono h.G.size),Nat.le_trans h.z hb.size⟩
theorem JLp.next{w w6 w7:World}{D:Nat->Prop}{n1 n2:Int}{A1 A2:Option Addr}{m1 c1 m2 c2:Nat}{E:List Fe}{v v':Value}{z:Fe}(o:Obj)(h:JLp w w6 D n1 n2 A1 A2 m1 c1 m2 c2 E v)(hD:∀b,D b->b<w.heap.size\/w.heap.size+4<=b)
 (hrow:iq w7 (w.heap.size+4) D v' (E ++ [z])) (hg:(w6.alloc o).grownBy w7 v.ownBlock):
 Bx6 w7 (w.heap.size+3) (.int .i64 46) (.int .i64 0) (.string ⟨#[]⟩) (.string ⟨#[]⟩) (.pointer none) v/\JLp w (w7.setCell ⟨w.heap.size+3,5,none⟩ v') D n1 n2 A1 A2 m1 c1 m2 c2 (E ++ [z]) v':=by
 have h5:=h.keep (za w6 o);have hv:∀k,v.ownBlock=some k->w.heap.size+4<=k:=λk hk=>(h.F.own.lt k hk).1;have hn:∀b,b<w.heap.size+4->some b≠v.ownBlock:=λb hb e=>by have:=hv b e.symm;omega
 have gs:w7.grownBy (w7.setCell ⟨w.heap.size+3,5,none⟩ v') (some (w.heap.size+3)):=zl w7 ⟨w.heap.size+3,5,none⟩ v';have K7:=h5.K.but hg (hn _ (by omega));have G7:Below w.heap.size w w7:=by
  refine h5.G.trans ?_;rcases hv2:v.ownBlock with _|k
  ·rw [hv2] at hg;exact⟨hg.os,hg.tape,hg.output,hg.size,λi hi=>hg.block i (Nat.lt_of_lt_of_le hi h5.G.size) (λe=>nomatch e)⟩
  ·rw [hv2] at hg;exact jE hg (by have:=hv k hv2;omega) h5.G.size
 refine⟨K7,(h5.X1.but hg (hn _ (by omega))).but gs (λe=>by injection e with e;omega),(h5.X2.but hg (hn _ (by omega))).but gs (λe=>by injection e with e;omega),(h5.R.but hg (hn _ (by omega))).but gs (λe=>by injection e with e;omega),K7.set5 v',?_,?_,?_⟩
 ·exact hrow.keep gs (by omega) (λhd=>by rcases hD _ hd with h|h <;> omega)
 ·exact G7.trans (jE gs (by omega) G7.size)
 ·have:=Nat.le_trans h5.z hg.size;simpa [World.setCell] using this
theorem Fa{w6:World}{B:Nat->Prop}{k:Kd}{u:List Value}{fb lo:Nat}(hk:KAt w6 (λb=>B b\/lo<=b) k u)(hfb:fb<lo)(hB:∀b,B b->b<fb)(y0 y1 y2 y3 y4 y5 y6 y7:Value)(o:Obj):
 KAt (((((((((w6.setCell ⟨fb,0,none⟩ y0).setCell ⟨fb,1,none⟩ y1).setCell ⟨fb,2,none⟩ y2).setCell ⟨fb,3,none⟩ y3).setCell ⟨fb,4,none⟩ y4).setCell ⟨fb,5,none⟩ y5).setCell ⟨fb,6,none⟩ y6).setCell ⟨fb,7,none⟩ y7).alloc o) (λb=>B b\/lo<=b) k u:=by
 have h1:=hk.mono (B':=λb=>(B b\/lo<=b)/\b<w6.heap.size) λb h1 h2=>⟨h1,h2⟩
 refine(h1.cong (w':=((((((((w6.setCell ⟨fb,0,none⟩ y0).setCell ⟨fb,1,none⟩ y1).setCell ⟨fb,2,none⟩ y2).setCell ⟨fb,3,none⟩ y3).setCell ⟨fb,4,none⟩ y4).setCell ⟨fb,5,none⟩ y5).setCell ⟨fb,6,none⟩ y6).setCell ⟨fb,7,none⟩ y7).alloc o) λb hb=>?_).mono λb hb _=>hb.1;refine((za _ o).block b (by simpa [World.setCell] using hb.2)).trans (qP w6 fb y0 y1 y2 y3 y4 y5 y6 y7 ?_);rcases hb.1 with h|h
 ·have:=hB b h;omega
 ·omega
theorem Md(N:Nat)(ih:OP N)(f g:Fl)(va vb:List Value)(w:World)(B:Nat->Prop)(h:f.sz<=N)(hp:f.sz<=90000)(hq:g.sz<=90000)(ha:KAt w B (.fs f) va)(hb:KAt w B (.fs g) vb)(vf:(Kd.fs f).valid)(vg:(Kd.fs g).valid)(hB:∀b,B b->b<w.heap.size):
 Calls Tryz.prog 72 #[.agg va.toArray,.agg vb.toArray] w (uO w B (.fs (aQ f g (bC g f)))):=by
 have of:=bw.1 vf;have og:=bw.1 vg;clear vf vg;obtain⟨n1,A1,c1,rfl,hc1,UJ,k1⟩:=ha;obtain⟨n2,A2,c2,rfl,hc2,sN,k2⟩:=hb;have L1:=tm f;have L2:=tm g;rw [fV] at hc1 hc2 L1 L2 ⊢;rw [fV];obtain⟨m1,hn1⟩:∃m1,m1=f.list.length:=⟨_,rfl⟩
 obtain⟨m2,hn2⟩:∃m2,m2=g.list.length:=⟨_,rfl⟩
 rw [<-hn1] at hc1 L1 ⊢;rw [<-hn2] at hc2 L2 ⊢;have KF:=O k1;have KG:=O k2;have fi:=O hn1;have se:=O hn2;have mZ:=O hB;have IH:=O ih;have HSRT:=O (λL=>Cu (f:=f) (g:=g) (L:=L) of.1 og.1);generalize aQ f g (bC g f)=res at *;clear k1 k2 hn1 hn2 hB ih;change Calls Tryz.prog 72 #[.agg #[.int .i64 46,.int .i64 n1,.string ⟨#[]⟩,.string ⟨#[]⟩,.pointer none,.slice A1 m1 c1],.agg #[.int .i64 46,.int .i64 n2,.string ⟨#[]⟩,.string ⟨#[]⟩,.pointer none,.slice A2 m2 c2]] w _;obtain⟨D,hD⟩:∃D:Nat->Prop,D=λb=>B b\/w.heap.size+4<=b:=⟨_,rfl⟩
 have LP:JLp w ((((w.alloc (.cells #[.int .i64 46,.int .i64 n1,.string ⟨#[]⟩,.string ⟨#[]⟩,.pointer none,.slice A1 m1 c1] 81)).alloc (.cells #[.int .i64 46,.int .i64 n2,.string ⟨#[]⟩,.string ⟨#[]⟩,.pointer none,.slice A2 m2 c2] 81)).alloc (.cells #[.int .i64 0,.int .i64 0,.string ⟨#[]⟩,.string ⟨#[]⟩,.pointer none,.slice none 0 0] 81)).alloc (.cells #[.int .i64 46,.int .i64 0,.string ⟨#[]⟩,.string ⟨#[]⟩,.pointer none,.slice none 0 0] 81)) D n1 n2 A1 A2 m1 c1 m2 c2 [] (.slice none 0 0):=by
  have Ba:=za w (.cells #[.int .i64 46,.int .i64 n1,.string ⟨#[]⟩,.string ⟨#[]⟩,.pointer none,.slice A1 m1 c1] 81);have Bb:=za (w.alloc (.cells #[.int .i64 46,.int .i64 n1,.string ⟨#[]⟩,.string ⟨#[]⟩,.pointer none,.slice A1 m1 c1] 81)) (.cells #[.int .i64 46,.int .i64 n2,.string ⟨#[]⟩,.string ⟨#[]⟩,.pointer none,.slice A2 m2 c2] 81);have Bc:=za ((w.alloc (.cells #[.int .i64 46,.int .i64 n1,.string ⟨#[]⟩,.string ⟨#[]⟩,.pointer none,.slice A1 m1 c1] 81)).alloc (.cells #[.int .i64 46,.int .i64 n2,.string ⟨#[]⟩,.string ⟨#[]⟩,.pointer none,.slice A2 m2 c2] 81)) (.cells #[.int .i64 0,.int .i64 0,.string ⟨#[]⟩,.string ⟨#[]⟩,.pointer none,.slice none 0 0] 81);have Bd:=za (((w.alloc (.cells #[.int .i64 46,.int .i64 n1,.string ⟨#[]⟩,.string ⟨#[]⟩,.pointer none,.slice A1 m1 c1] 81)).alloc (.cells #[.int .i64 46,.int .i64 n2,.string ⟨#[]⟩,.string ⟨#[]⟩,.pointer none,.slice A2 m2 c2] 81)).alloc (.cells #[.int .i64 0,.int .i64 0,.string ⟨#[]⟩,.string ⟨#[]⟩,.pointer none,.slice none 0 0] 81)) (.cells #[.int .i64 46,.int .i64 0,.string ⟨#[]⟩,.string ⟨#[]⟩,.pointer none,.slice none 0 0] 81);have x1:=(((jf w (.int .i64 46) (.int .i64 n1) (.string ⟨#[]⟩) (.string ⟨#[]⟩) (.pointer none) (.slice A1 m1 c1) 81).keep Bb).keep Bc).keep Bd;have x2:=((jf (w.alloc (.cells #[.int .i64 46,.int .i64 n1,.string ⟨#[]⟩,.string ⟨#[]⟩,.pointer none,.slice A1 m1 c1] 81)) (.int .i64 46) (.int .i64 n2) (.string ⟨#[]⟩) (.string ⟨#[]⟩) (.pointer none) (.slice A2 m2 c2) 81).keep Bc).keep Bd;have x3:=(jf ((w.alloc (.cells #[.int .i64 46,.int .i64 n1,.string ⟨#[]⟩,.string ⟨#[]⟩,.pointer none,.slice A1 m1 c1] 81)).alloc (.cells #[.int .i64 46,.int .i64 n2,.string ⟨#[]⟩,.string ⟨#[]⟩,.pointer none,.slice A2 m2 c2] 81)) (.int .i64 0) (.int .i64 0) (.string ⟨#[]⟩) (.string ⟨#[]⟩) (.pointer none) (.slice none 0 0) 81).keep Bd;have x4:=jf (((w.alloc (.cells #[.int .i64 46,.int .i64 n1,.string ⟨#[]⟩,.string ⟨#[]⟩,.pointer none,.slice A1 m1 c1] 81)).alloc (.cells #[.int .i64 46,.int .i64 n2,.string ⟨#[]⟩,.string ⟨#[]⟩,.pointer none,.slice A2 m2 c2] 81)).alloc (.cells #[.int .i64 0,.int .i64 0,.string ⟨#[]⟩,.string ⟨#[]⟩,.pointer none,.slice none 0 0] 81)) (.int .i64 46) (.int .i64 0) (.string ⟨#[]⟩) (.string ⟨#[]⟩) (.pointer none) (.slice none 0 0) 81;have Q9:(w.alloc (.cells #[.int .i64 46,.int .i64 n1,.string ⟨#[]⟩,.string ⟨#[]⟩,.pointer none,.slice A1 m1 c1] 81)).heap.size=w.heap.size+1:=by simp
  have hzb:((w.alloc (.cells #[.int .i64 46,.int .i64 n1,.string ⟨#[]⟩,.string ⟨#[]⟩,.pointer none,.slice A1 m1 c1] 81)).alloc (.cells #[.int .i64 46,.int .i64 n2,.string ⟨#[]⟩,.string ⟨#[]⟩,.pointer none,.slice A2 m2 c2] 81)).heap.size=w.heap.size+2:=by simp
  have hzc:(((w.alloc (.cells #[.int .i64 46,.int .i64 n1,.string ⟨#[]⟩,.string ⟨#[]⟩,.pointer none,.slice A1 m1 c1] 81)).alloc (.cells #[.int .i64 46,.int .i64 n2,.string ⟨#[]⟩,.string ⟨#[]⟩,.pointer none,.slice A2 m2 c2] 81)).alloc (.cells #[.int .i64 0,.int .i64 0,.string ⟨#[]⟩,.string ⟨#[]⟩,.pointer none,.slice none 0 0] 81)).heap.size=w.heap.size+3:=by simp
  rw [Q9] at x2;rw [hzb] at x3;rw [hzc] at x4;exact⟨x1,x2,x3,x4,iq.nil _ _ _,Ba.trans ((Bb.trans ((Bc.trans (Bd.mono (by simp))).mono (by simp))).mono (by simp)),by simp⟩
 have LP0:=O LP;have HD:=O hD;clear LP hD;go_enter Tryz.func72,Tryz.ntmps72;go_wp2_with fail;obtain⟨w2,hw2⟩:∃w2,((((w.alloc (.cells #[.int .i64 46,.int .i64 n1,.string ⟨#[]⟩,.string ⟨#[]⟩,.pointer none,.slice A1 m1 c1] 81)).alloc (.cells #[.int .i64 46,.int .i64 n2,.string ⟨#[]⟩,.string ⟨#[]⟩,.pointer none,.slice A2 m2 c2] 81)).alloc (.cells #[.int .i64 0,.int .i64 0,.string ⟨#[]⟩,.string ⟨#[]⟩,.pointer none,.slice none 0 0] 81)).alloc (.cells #[.int .i64 46,.int .i64 0,.string ⟨#[]⟩,.string ⟨#[]⟩,.pointer none,.slice none 0 0] 81))=w2:=⟨_,rfl⟩
 rw [hw2] at LP0 ⊢;clear hw2;have Rn:=O (show∀b,D b->b<w.heap.size\/w.heap.size+4<=b from λb hb=>by
  rw [HD.o] at hb
  exact hb.imp (mZ.o b) id)
 have Uf:=O (show∀b,B b\/w.heap.size+4<=b->D b from λb hb=>by rw [HD.o];exact hb);have wl:=O (show∀b,D b->B b\/w.heap.size+4<=b from λb hb=>by rw [HD.o] at hb;exact hb);clear HD;go_loopw [86] (λi wr=>∃(k:Nat) (E:List Fe) (v:Value),i = .int .i64 k/\k<=m1/\Hid (E.map Fe.y=(f.list.take k).map (lJ g))/\Hid (JLp w wr D n1 n2 A1 A2 m1 c1 m2 c2 E v)) (λi _=>m1-(intOf i).toNat)
 case atStart=>exact⟨0,[],_,rfl,Nat.zero_le _,O rfl,LP0⟩
 case round =>
  clear LP0;obtain⟨k,E,v,rfl,hk,hE,hL⟩:=hrel;by_cases hlt:k<m1
  ·have eK:k<f.list.length:=by rw [<-fi.o];exact hlt
   obtain⟨a,rfl,li⟩:=((KF.o.cong (w':=wr) (λb hb=>hL.o.G.block b (mZ.o b hb))).at) k _ (List.getElem?_eq_getElem eK);rw [Nat.zero_add] at li;have IG:=O (show f.list[k].2.2.valid/\f.list[k].2.2.sz<f.sz from by
    have Yw:=(bY of.1 (s:=f.list[k].1) (m:=f.list[k].2.1) (k:=f.list[k].2.2)).2 (List.getElem_mem eK)
    exact⟨dX of.2 Yw,dM Yw⟩)
   have Rs:=O (show∀z:Fe,z.y=lJ g f.list[k]->(E ++ [z]).map Fe.y=(f.list.take (k+1)).map (lJ g) from λz hz=>by
    rw [List.take_succ_eq_append_getElem eK,List.map_append,List.map_append,hE.o]
    simp [hz])
   have Uo:=O (show E.length<=1000000 by
    have:=congrArg List.length hE.o
    simp at this
    omega)
   obtain⟨y,hy⟩:∃y,y=f.list[k]:=⟨_,rfl⟩
   rw [<-hy] at li IG Rs;clear hy;obtain⟨o,nn,s0,t0,p,A',m',c',mg,q0,q1,q2,q3,q4,q5,q6,q7⟩:=li.cells;have Um:=O mg;clear li mg;have Re:m1<=100000:=by omega
   have QW:m2<=100000:=by omega
   obtain⟨x0,x1,x2,x3,x4,x5,-,-,-,-,-,-⟩:=hL.o.X2;have hl2:w.heap.size+1<wr.heap.size:=block_lt_of_cell x0;have Ba:=za wr (.cells #[.string y.1,.bool y.2.1,.int .i64 o,.int .i64 nn,.string s0,.string t0,.pointer p,.slice A' m' c'] 143);have Y4:=ft wr (.string y.1) (.bool y.2.1) (.int .i64 o) (.int .i64 nn) (.string s0) (.string t0) (.pointer p) (.slice A' m' c') 143;go_wp2_with fail;have La:=hL.o.keep Ba;obtain⟨wa,Q7⟩:∃wa,wr.alloc (.cells #[.string y.1,.bool y.2.1,.int .i64 o,.int .i64 nn,.string s0,.string t0,.pointer p,.slice A' m' c'] 143)=wa:=⟨_,rfl⟩
   rw [Q7] at Ba Y4 La ⊢;clear Q7 x0 x1 x2 x3 x4 x5 q0 q1 q2 q3 q4 q5 q6 q7;refine(my A2 m2 c2 g B _ _ _ _ _ y.1 wa (KG.o.cong (λb hb=>La.G.block b (mZ.o b hb))) se.o QW hc2 og.1 (λb hb=>Nat.lt_of_lt_of_le (mZ.o b hb) La.G.size)).mono ?_;rintro e w4 ⟨b4,zX⟩;have MP:=O (Ba.trans (b4.mono Ba.size));have Y5:=O (Y4.keep b4);have L4:=O (La.keep b4);have VY:=O (Um.o.cong (w':=w4) λb hb=>(Ba.trans (b4.mono Ba.size)).block b (Nat.lt_of_lt_of_le (mZ.o b hb) (by have:=hL.o.G.size;omega)));have Rj:wr.heap.size<w4.heap.size:=block_lt_of_cell Y5.o.c0;clear b4 Ba Y4 La;obtain⟨y0,y1,y2,y3,y4,y5,y6,y7,j0,j1,j2,j3,j4,j5,j6,j7⟩:=Y5.o;rcases hfg:g.find y.1 with _|⟨mm,k'⟩
   ·rw [hfg] at zX;have zX:e = .returned (.tuple #[.agg #[.string ⟨#[]⟩,.bool false,.int .i64 0,.int .i64 0,.string ⟨#[]⟩,.string ⟨#[]⟩,.pointer none,.slice none 0 0],.bool false]):=zX;subst zX;have UQ:=O (show lJ g y=(y.1,false,y.2.2) by unfold lJ;rw [hfg]);clear hfg;obtain⟨k0,k1,k2,k3,k4,k5,r0,r1,r2,r3,r4,r5⟩:=L4.o.K;have hlk:w.heap.size+3<w4.heap.size:=block_lt_of_cell k0;have B6:Below wr.heap.size wr ((w4.setCell ⟨wr.heap.size,1,none⟩ (.bool false)).alloc (.cells #[.string ⟨#[]⟩,.bool false,.int .i64 0,.int .i64 0,.string ⟨#[]⟩,.string ⟨#[]⟩,.pointer none,.slice none 0 0] 143)):=(MP.o.setCell (p:=⟨wr.heap.size,1,none⟩) (Nat.le_refl _) (.bool false)).alloc (by simp [World.setCell];omega) _;have Iz:((w4.setCell ⟨wr.heap.size,1,none⟩ (.bool false)).alloc (.cells #[.string ⟨#[]⟩,.bool false,.int .i64 0,.int .i64 0,.string ⟨#[]⟩,.string ⟨#[]⟩,.pointer none,.slice none 0 0] 143)).heap.size=w4.heap.size+1:=by simp [World.setCell]
    have L6:=O (hL.o.keep B6);have rn:=eW ((w4.setCell ⟨wr.heap.size,1,none⟩ (.bool false)).alloc (.cells #[.string ⟨#[]⟩,.bool false,.int .i64 0,.int .i64 0,.string ⟨#[]⟩,.string ⟨#[]⟩,.pointer none,.slice none 0 0] 143)) [.string y.1,.bool false,.int .i64 o,.int .i64 nn,.string s0,.string t0,.pointer p,.slice A' m' c'] 143;rw [Iz] at rn;have RN:=O rn;have F6:=O (L6.o.F.keepN (zc (za ((w4.setCell ⟨wr.heap.size,1,none⟩ (.bool false)).alloc (.cells #[.string ⟨#[]⟩,.bool false,.int .i64 0,.int .i64 0,.string ⟨#[]⟩,.string ⟨#[]⟩,.pointer none,.slice none 0 0] 143)) (.cells #[.string y.1,.bool false,.int .i64 o,.int .i64 nn,.string s0,.string t0,.pointer p,.slice A' m' c'] 143)) none));have Ri:(((w4.setCell ⟨wr.heap.size,1,none⟩ (.bool false)).alloc (.cells #[.string ⟨#[]⟩,.bool false,.int .i64 0,.int .i64 0,.string ⟨#[]⟩,.string ⟨#[]⟩,.pointer none,.slice none 0 0] 143)).alloc (.cells #[.string y.1,.bool false,.int .i64 o,.int .i64 nn,.string s0,.string t0,.pointer p,.slice A' m' c'] 143)).heap.size=w4.heap.size+1+1:=by rw [<-Iz];simp
    have V9:=O Ri;have KK:=O (show KAt (((w4.setCell ⟨wr.heap.size,1,none⟩ (.bool false)).alloc (.cells #[.string ⟨#[]⟩,.bool false,.int .i64 0,.int .i64 0,.string ⟨#[]⟩,.string ⟨#[]⟩,.pointer none,.slice none 0 0] 143)).alloc (.cells #[.string y.1,.bool false,.int .i64 o,.int .i64 nn,.string s0,.string t0,.pointer p,.slice A' m' c'] 143)) (λb=>D b/\some b≠v.ownBlock) y.2.2 [.int .i64 o,.int .i64 nn,.string s0,.string t0,.pointer p,.slice A' m' c'] from(Um.o.cong λb hb=>(B6.trans ((za _ _).mono B6.size)).block b (Nat.lt_of_lt_of_le (mZ.o b hb) hL.o.G.size)).mono λb hb _=>⟨Uf.o b (.inl hb),λe=>by have:=mZ.o b hb;have:=(hL.o.F.own.lt b e.symm).1;omega⟩);clear rn Iz Ri B6;go_wp2_with (at_builtin;refine cE rfl _ _ rfl (w.heap.size+4) D v E rfl F6.o ⟨(y.1,false,y.2.2),o,nn,s0,t0,p,A',m',c'⟩ ⟨w4.heap.size+1,0,none⟩ 1 1 rfl rfl RN.o KK.o Uo.o ?c1 ?_)
    case c1=>rw [V9.o];have:=hL.o.z;omega
    intro v' w7 hrow hg;obtain⟨K7,LN⟩:=L6.o.next _ Rn.o hrow hg;have fm:=O LN;obtain⟨A7,cp7,hv',-,-,-⟩:=hrow.fat (λb hb=>Uf.o b (.inr hb));obtain⟨nl,qX⟩:∃nl,nl=(E ++ [(⟨(y.1,false,y.2.2),o,nn,s0,t0,p,A',m',c'⟩:Fe)]).length:=⟨_,rfl⟩
    rw [<-qX] at hv';subst hv';clear qX hrow hg LN y0 y1 y2 y3 y4 y5 y6 y7 j0 j1 j2 j3 j4 j5 j6 j7 k0 k1 k2 k3 k4 k5 r0 r1 r2 r3 r4 r5;obtain⟨k0,k1,k2,k3,k4,k5,r0,r1,r2,r3,r4,r5⟩:=K7;go_wp2_with fail;go_roundw
    case rel=>exact⟨k+1,E ++ [⟨(y.1,false,y.2.2),o,nn,s0,t0,p,A',m',c'⟩],_,by go_num,hlt,O (Rs.o _ UQ.o.symm),fm⟩
    case measure=>simp [intOf];omega
   ·rw [hfg] at zX;obtain⟨u,rfl,FA⟩:=zX;have UQ:=O (show lJ g y=(y.1,y.2.1 && mm,zI y.2.2 k') by unfold lJ;rw [hfg]);have XN:=O (show k'.valid/\k'.sz<g.sz from⟨dX og.2 hfg,dM hfg⟩);obtain⟨o2,n2',s2,t2,p2,BJ,m2',c2',rfl⟩:=aG FA;have Bg:=za w4 (.cells #[.string y.1,.bool mm,.int .i64 o2,.int .i64 n2',.string s2,.string t2,.pointer p2,.slice BJ m2' c2'] 143);have G6:=O (ft w4 (.string y.1) (.bool mm) (.int .i64 o2) (.int .i64 n2') (.string s2) (.string t2) (.pointer p2) (.slice BJ m2' c2') 143);have Y6:=O (Y5.o.keep Bg);have ZZ:=O (show(w4.alloc (.cells #[.string y.1,.bool mm,.int .i64 o2,.int .i64 n2',.string s2,.string t2,.pointer p2,.slice BJ m2' c2'] 143)).heap.size=w4.heap.size+1 by simp);have Yb:=O (MP.o.trans (Bg.mono MP.o.size));have bd5:Below (w4.alloc (.cells #[.string y.1,.bool mm,.int .i64 o2,.int .i64 n2',.string s2,.string t2,.pointer p2,.slice BJ m2' c2'] 143)).heap.size (w4.alloc (.cells #[.string y.1,.bool mm,.int .i64 o2,.int .i64 n2',.string s2,.string t2,.pointer p2,.slice BJ m2' c2'] 143)) (w4.alloc (.cells #[.string y.1,.bool mm,.int .i64 o2,.int .i64 n2',.string s2,.string t2,.pointer p2,.slice BJ m2' c2'] 143)).drew:=⟨rfl,rfl,rfl,Nat.le_refl _,λ_ _=>rfl⟩
    have ZY:∀b,B b->(w4.alloc (.cells #[.string y.1,.bool mm,.int .i64 o2,.int .i64 n2',.string s2,.string t2,.pointer p2,.slice BJ m2' c2'] 143)).drew.heap[b]?=w4.heap[b]?:=λb hb=>(Bg.trans (bd5.mono Bg.size)).block b (Nat.lt_of_lt_of_le (mZ.o b hb) L4.o.G.size);have KJ:=O (IH.o y.2.2 k' _ _ (w4.alloc (.cells #[.string y.1,.bool mm,.int .i64 o2,.int .i64 n2',.string s2,.string t2,.pointer p2,.slice BJ m2' c2'] 143)).drew B (by have:=IG.o.2;omega) (by have:=IG.o.2;omega) (by have:=XN.o.2;omega) (VY.o.cong ZY) (FA.cong ZY) IG.o.1 XN.o.1 (λb hb=>Nat.lt_of_lt_of_le (mZ.o b hb) (Nat.le_trans L4.o.G.size (Nat.le_trans Bg.size bd5.size))));have Wc:=O bd5;clear FA ZY bd5 Bg hfg;go_wp2_with fail;obtain⟨w5,XH⟩:∃w5,w4.alloc (.cells #[.string y.1,.bool mm,.int .i64 o2,.int .i64 n2',.string s2,.string t2,.pointer p2,.slice BJ m2' c2'] 143)=w5:=⟨_,rfl⟩
    rw [XH] at G6 Y6 ZZ Yb KJ Wc ⊢;clear XH;obtain⟨ym,yz⟩:∃ym,ym=y.2.1:=⟨_,rfl⟩
    rw [<-yz] at Y5 Y6 y1;have HYM:=O yz;clear yz;cases ym
    ·have Un:=O (λ(w':World) (hb:Below w5.heap.size w5 w')=>(show w'.cell? ⟨wr.heap.size,0,none⟩=some (.string y.1)/\w'.cell? ⟨wr.heap.size,1,none⟩=some (.bool false)/\w'.cell? ⟨wr.heap.size,2,none⟩=some (.int .i64 o)/\w'.cell? ⟨wr.heap.size,3,none⟩=some (.int .i64 nn)/\w'.cell? ⟨wr.heap.size,4,none⟩=some (.string s0)/\w'.cell? ⟨wr.heap.size,5,none⟩=some (.string t0)/\w'.cell? ⟨wr.heap.size,6,none⟩=some (.pointer p)/\w'.cell? ⟨wr.heap.size,7,none⟩=some (Value.slice A' m' c')/\w'.cell? ⟨w4.heap.size,1,none⟩=some (.bool mm)/\w'.cell? ⟨w4.heap.size,2,none⟩=some (.int .i64 o2)/\w'.cell? ⟨w4.heap.size,3,none⟩=some (Value.int .i64 n2')/\w'.cell? ⟨w4.heap.size,4,none⟩=some (.string s2)/\w'.cell? ⟨w4.heap.size,5,none⟩=some (.string t2)/\w'.cell? ⟨w4.heap.size,6,none⟩=some (.pointer p2)/\w'.cell? ⟨w4.heap.size,7,none⟩=some (Value.slice BJ m2' c2') from by
      obtain⟨a0,a1,a2,a3,a4,a5,a6,a7,-,-,-,-,-,-,-,-⟩:=Y6.o.keep hb
      obtain⟨-,b1,b2,b3,b4,b5,b6,b7,-,-,-,-,-,-,-,-⟩:=G6.o.keep hb
      exact⟨a0,a1,a2,a3,a4,a5,a6,a7,b1,b2,b3,b4,b5,b6,b7⟩))
     go_wp2_with fail;refine wp_region_noPanic ?_;refine a8 (λ(w':World)=>w'.cell? ⟨wr.heap.size,0,none⟩=some (.string y.1)/\w'.cell? ⟨wr.heap.size,1,none⟩=some (.bool false)/\w'.cell? ⟨wr.heap.size,2,none⟩=some (.int .i64 o)/\w'.cell? ⟨wr.heap.size,3,none⟩=some (.int .i64 nn)/\w'.cell? ⟨wr.heap.size,4,none⟩=some (.string s0)/\w'.cell? ⟨wr.heap.size,5,none⟩=some (.string t0)/\w'.cell? ⟨wr.heap.size,6,none⟩=some (.pointer p)/\w'.cell? ⟨wr.heap.size,7,none⟩=some (Value.slice A' m' c')/\w'.cell? ⟨w4.heap.size,1,none⟩=some (.bool mm)/\w'.cell? ⟨w4.heap.size,2,none⟩=some (.int .i64 o2)/\w'.cell? ⟨w4.heap.size,3,none⟩=some (Value.int .i64 n2')/\w'.cell? ⟨w4.heap.size,4,none⟩=some (.string s2)/\w'.cell? ⟨w4.heap.size,5,none⟩=some (.string t2)/\w'.cell? ⟨w4.heap.size,6,none⟩=some (.pointer p2)/\w'.cell? ⟨w4.heap.size,7,none⟩=some (Value.slice BJ m2' c2')) 14 (by kernel_rfl) (Un.o _ Wc.o) (λhHeld=>?_);refine zr 0 98 (.pointer (some ⟨wr.heap.size,0,none⟩)) rfl (λw' hSw=>?_) hHeld ?_
     ·obtain⟨a0,a1,a2,a3,a4,a5,a6,a7,b1,b2,b3,b4,b5,b6,b7⟩:=hSw;go_simp
     simp only [Act.put,zL];refine zr 1 99 (.string y.1) rfl (λw' hSw=>?_) hHeld ?_
     ·obtain⟨a0,a1,a2,a3,a4,a5,a6,a7,b1,b2,b3,b4,b5,b6,b7⟩:=hSw;go_simp
     simp only [Act.put,zL];refine zr 2 100 (.pointer (some ⟨wr.heap.size,1,none⟩)) rfl (λw' hSw=>?_) hHeld ?_
     ·obtain⟨a0,a1,a2,a3,a4,a5,a6,a7,b1,b2,b3,b4,b5,b6,b7⟩:=hSw;go_simp
     simp only [Act.put,zL];refine zr 3 101 (.bool false) rfl (λw' hSw=>?_) hHeld ?_
     ·obtain⟨a0,a1,a2,a3,a4,a5,a6,a7,b1,b2,b3,b4,b5,b6,b7⟩:=hSw;go_simp
     simp only [Act.put,zL];refine zr 4 102 (.bool false) rfl (λw' hSw=>?_) hHeld ?_
     ·obtain⟨a0,a1,a2,a3,a4,a5,a6,a7,b1,b2,b3,b4,b5,b6,b7⟩:=hSw;go_simp
     simp only [Act.put,zL];refine lX (i:=5) (oi:=⟨some 103,_,_,_,_,_⟩) (v:=undef) rfl (by kernel_rfl) (by kernel_rfl) (by kernel_rfl) (by kernel_rfl) (λ_ _ _ h=>h) (.inr ⟨by rfl,rfl⟩) hHeld ?_;simp only [Act.put,zL];refine lX (i:=6) (oi:=⟨some 104,_,_,_,_,_⟩) (v:=undef) rfl (by kernel_rfl) (by kernel_rfl) (by kernel_rfl) (by kernel_rfl) (λ_ _ _ h=>h) (.inr ⟨by rfl,rfl⟩) hHeld ?_;simp only [Act.put,zL];refine zr 7 105 (.bool false) rfl (λw' hSw=>?_) hHeld ?_
     ·obtain⟨a0,a1,a2,a3,a4,a5,a6,a7,b1,b2,b3,b4,b5,b6,b7⟩:=hSw;go_simp
     simp only [Act.put,zL];refine zr 8 106 (.pointer (some ⟨wr.heap.size,2,none⟩)) rfl (λw' hSw=>?_) hHeld ?_
     ·obtain⟨a0,a1,a2,a3,a4,a5,a6,a7,b1,b2,b3,b4,b5,b6,b7⟩:=hSw;go_simp
     simp only [Act.put,zL];refine zr 9 107 (.agg #[.int .i64 o,.int .i64 nn,.string s0,.string t0,.pointer p,.slice A' m' c']) rfl (λw' hSw=>?_) hHeld ?_
     ·obtain⟨a0,a1,a2,a3,a4,a5,a6,a7,b1,b2,b3,b4,b5,b6,b7⟩:=hSw;go_simp
     simp only [Act.put,zL];refine zr 10 108 (.pointer (some ⟨w4.heap.size,2,none⟩)) rfl (λw' hSw=>?_) hHeld ?_
     ·obtain⟨a0,a1,a2,a3,a4,a5,a6,a7,b1,b2,b3,b4,b5,b6,b7⟩:=hSw;go_simp
     simp only [Act.put,zL];refine zr 11 109 (.agg #[.int .i64 o2,.int .i64 n2',.string s2,.string t2,.pointer p2,.slice BJ m2' c2']) rfl (λw' hSw=>?_) hHeld ?_
     ·obtain⟨a0,a1,a2,a3,a4,a5,a6,a7,b1,b2,b3,b4,b5,b6,b7⟩:=hSw;go_simp
     simp only [Act.put,zL];refine zA (i:=12) (o:=⟨some 110,_,_,_,_,_⟩) (by kernel_rfl) rfl (λK' hK'=>?_);go_simp;go_at_call 72;refine KJ.o.mono ?_;rintro e w6 ⟨u,rfl,ku,b6⟩;obtain⟨o5,n5,s5,t5,p5,A5,m5,c5,rfl⟩:=aG ku;have KU:=O ku;have Uv:=O (Wc.o.trans (b6.mono Wc.o.size));clear ku b6;go_wp2_with fail;refine hK'.out _ _ (λ_=>Un.o _ Uv.o) ?_;clear hK' K' hHeld
     try simp only [Act.put,zL]
     refine zr 13 111 (.agg #[.string y.1,.bool false,.int .i64 o5,.int .i64 n5,.string s5,.string t5,.pointer p5,.slice A5 m5 c5]) rfl (λw' hSw=>?_) (Un.o _ Uv.o) ?_
     ·clear hSw;go_simp
     simp only [Act.put,zL];obtain⟨a0,a1,a2,a3,a4,a5,a6,a7,j0,j1,j2,j3,j4,j5,j6,j7⟩:=Y6.o.keep Uv.o;refine zA (i:=14) (o:=⟨none,_,_,_,_,_⟩) (by kernel_rfl) rfl (λK' hK'=>?_);go_simp;refine hK'.out _ _ (λh=>absurd rfl h) ?_;refine jR (by kernel_rfl) ?_;refine NoPanic.normal ?_;have Ut:=O (Yb.o.trans (Uv.o.mono Yb.o.size));clear hK' K';obtain⟨k0,k1,k2,k3,k4,k5,r0,r1,r2,r3,r4,r5⟩:=(hL.o.keep Ut.o).K;have hlk:w.heap.size+3<wr.heap.size:=by have:=hL.o.z;omega
     have hlk6:w.heap.size+3<w6.heap.size:=by have:=Ut.o.size;omega
     obtain⟨W,hW⟩:∃W,((((((((w6.setCell ⟨wr.heap.size,0,none⟩ (.string y.1)).setCell ⟨wr.heap.size,1,none⟩ (.bool false)).setCell ⟨wr.heap.size,2,none⟩ (.int .i64 o5)).setCell ⟨wr.heap.size,3,none⟩ (.int .i64 n5)).setCell ⟨wr.heap.size,4,none⟩ (.string s5)).setCell ⟨wr.heap.size,5,none⟩ (.string t5)).setCell ⟨wr.heap.size,6,none⟩ (.pointer p5)).setCell ⟨wr.heap.size,7,none⟩ (.slice A5 m5 c5))=W:=⟨_,rfl⟩
     have B6:Below wr.heap.size wr W:=by rw [<-hW];exact i7 Ut.o (Nat.le_refl _) _ _ _ _ _ _ _ _
     have Iz:W.heap.size=w6.heap.size:=by rw [<-hW];simp [World.setCell]
     have L6:=O (hL.o.keep B6);have rn:=eW W [.string y.1,.bool false,.int .i64 o5,.int .i64 n5,.string s5,.string t5,.pointer p5,.slice A5 m5 c5] 143;rw [Iz] at rn;have RN:=O rn;have F6:=O (L6.o.F.keepN (zc (za W (.cells #[.string y.1,.bool false,.int .i64 o5,.int .i64 n5,.string s5,.string t5,.pointer p5,.slice A5 m5 c5] 143)) none));have Ri:(W.alloc (.cells #[.string y.1,.bool false,.int .i64 o5,.int .i64 n5,.string s5,.string t5,.pointer p5,.slice A5 m5 c5] 143)).heap.size=w6.heap.size+1:=by rw [<-Iz];simp
     have V9:=O Ri;have KK:=O (show KAt (W.alloc (.cells #[.string y.1,.bool false,.int .i64 o5,.int .i64 n5,.string s5,.string t5,.pointer p5,.slice A5 m5 c5] 143)) (λb=>D b/\some b≠v.ownBlock) (zI y.2.2 k') [.int .i64 o5,.int .i64 n5,.string s5,.string t5,.pointer p5,.slice A5 m5 c5] from by rw [<-hW];exact(Fa (fb:=wr.heap.size) (KU.o.mono (B':=λb=>B b\/w4.heap.size+1<=b) λb h _=>h.imp_right λh=>by have:=ZZ.o;have h':w5.heap.size<=b:=h;omega) (by omega) (λb hb=>by have:=mZ.o b hb;omega) _ _ _ _ _ _ _ _ _).mono λb hb _=>⟨Uf.o b (hb.imp_right λh=>by omega),λe=>by have:=hL.o.F.own.lt b e.symm;rcases hb with h|h;(have:=mZ.o b h;omega);omega⟩);subst hW;clear rn Iz Ri B6;go_wp2_with (at_builtin;refine cE rfl _ _ rfl (w.heap.size+4) D v E rfl F6.o ⟨(y.1,false,zI y.2.2 k'),o5,n5,s5,t5,p5,A5,m5,c5⟩ ⟨w6.heap.size,0,none⟩ 1 1 rfl rfl RN.o KK.o Uo.o ?c1 ?_)
     case c1=>rw [V9.o];have:=hL.o.z;have:=Ut.o.size;omega
     intro v' w7 hrow hg;obtain⟨K7,LN⟩:=L6.o.next _ Rn.o hrow hg;have fm:=O LN;obtain⟨A7,cp7,hv',-,-,-⟩:=hrow.fat (λb hb=>Uf.o b (.inr hb));obtain⟨nl,qX⟩:∃nl,nl=(E ++ [(⟨(y.1,false,zI y.2.2 k'),o5,n5,s5,t5,p5,A5,m5,c5⟩:Fe)]).length:=⟨_,rfl⟩
     rw [<-qX] at hv';subst hv';clear qX hrow hg LN a0 a1 a2 a3 a4 a5 a6 a7 j0 j1 j2 j3 j4 j5 j6 j7 k0 k1 k2 k3 k4 k5 r0 r1 r2 r3 r4 r5;obtain⟨k0,k1,k2,k3,k4,k5,r0,r1,r2,r3,r4,r5⟩:=K7;go_wp2_with fail;go_roundw
     case rel=>exact⟨k+1,E ++ [⟨(y.1,false,zI y.2.2 k'),o5,n5,s5,t5,p5,A5,m5,c5⟩],_,by go_num,hlt,O (Rs.o _ (UQ.o.trans (by rw [<-HYM.o];rfl)).symm),fm⟩
     case measure=>simp [intOf];omega
    ·have Un:=O (λ(w':World) (hb:Below w5.heap.size w5 w')=>(show w'.cell? ⟨wr.heap.size,0,none⟩=some (.string y.1)/\w'.cell? ⟨wr.heap.size,1,none⟩=some (.bool true)/\w'.cell? ⟨wr.heap.size,2,none⟩=some (.int .i64 o)/\w'.cell? ⟨wr.heap.size,3,none⟩=some (.int .i64 nn)/\w'.cell? ⟨wr.heap.size,4,none⟩=some (.string s0)/\w'.cell? ⟨wr.heap.size,5,none⟩=some (.string t0)/\w'.cell? ⟨wr.heap.size,6,none⟩=some (.pointer p)/\w'.cell? ⟨wr.heap.size,7,none⟩=some (Value.slice A' m' c')/\w'.cell? ⟨w4.heap.size,1,none⟩=some (.bool mm)/\w'.cell? ⟨w4.heap.size,2,none⟩=some (.int .i64 o2)/\w'.cell? ⟨w4.heap.size,3,none⟩=some (Value.int .i64 n2')/\w'.cell? ⟨w4.heap.size,4,none⟩=some (.string s2)/\w'.cell? ⟨w4.heap.size,5,none⟩=some (.string t2)/\w'.cell? ⟨w4.heap.size,6,none⟩=some (.pointer p2)/\w'.cell? ⟨w4.heap.size,7,none⟩=some (Value.slice BJ m2' c2') from by
      obtain⟨a0,a1,a2,a3,a4,a5,a6,a7,-,-,-,-,-,-,-,-⟩:=Y6.o.keep hb
      obtain⟨-,b1,b2,b3,b4,b5,b6,b7,-,-,-,-,-,-,-,-⟩:=G6.o.keep hb
      exact⟨a0,a1,a2,a3,a4,a5,a6,a7,b1,b2,b3,b4,b5,b6,b7⟩))
     go_wp2_with fail;refine wp_region_noPanic ?_;refine a8 (λ(w':World)=>w'.cell? ⟨wr.heap.size,0,none⟩=some (.string y.1)/\w'.cell? ⟨wr.heap.size,1,none⟩=some (.bool true)/\w'.cell? ⟨wr.heap.size,2,none⟩=some (.int .i64 o)/\w'.cell? ⟨wr.heap.size,3,none⟩=some (.int .i64 nn)/\w'.cell? ⟨wr.heap.size,4,none⟩=some (.string s0)/\w'.cell? ⟨wr.heap.size,5,none⟩=some (.string t0)/\w'.cell? ⟨wr.heap.size,6,none⟩=some (.pointer p)/\w'.cell? ⟨wr.heap.size,7,none⟩=some (Value.slice A' m' c')/\w'.cell? ⟨w4.heap.size,1,none⟩=some (.bool mm)/\w'.cell? ⟨w4.heap.size,2,none⟩=some (.int .i64 o2)/\w'.cell? ⟨w4.heap.size,3,none⟩=some (Value.int .i64 n2')/\w'.cell? ⟨w4.heap.size,4,none⟩=some (.string s2)/\w'.cell? ⟨w4.heap.size,5,none⟩=some (.string t2)/\w'.cell? ⟨w4.heap.size,6,none⟩=some (.pointer p2)/\w'.cell? ⟨w4.heap.size,7,none⟩=some (Value.slice BJ m2' c2')) 14 (by kernel_rfl) (Un.o _ Wc.o) (λhHeld=>?_);refine zr 0 98 (.pointer (some ⟨wr.heap.size,0,none⟩)) rfl (λw' hSw=>?_) hHeld ?_
     ·obtain⟨a0,a1,a2,a3,a4,a5,a6,a7,b1,b2,b3,b4,b5,b6,b7⟩:=hSw;go_simp
     simp only [Act.put,zL];refine zr 1 99 (.string y.1) rfl (λw' hSw=>?_) hHeld ?_
     ·obtain⟨a0,a1,a2,a3,a4,a5,a6,a7,b1,b2,b3,b4,b5,b6,b7⟩:=hSw;go_simp
     simp only [Act.put,zL];refine zr 2 100 (.pointer (some ⟨wr.heap.size,1,none⟩)) rfl (λw' hSw=>?_) hHeld ?_
     ·obtain⟨a0,a1,a2,a3,a4,a5,a6,a7,b1,b2,b3,b4,b5,b6,b7⟩:=hSw;go_simp
     simp only [Act.put,zL];refine zr 3 101 (.bool true) rfl (λw' hSw=>?_) hHeld ?_
     ·obtain⟨a0,a1,a2,a3,a4,a5,a6,a7,b1,b2,b3,b4,b5,b6,b7⟩:=hSw;go_simp
     simp only [Act.put,zL];refine zr 4 102 (.bool true) rfl (λw' hSw=>?_) hHeld ?_
     ·obtain⟨a0,a1,a2,a3,a4,a5,a6,a7,b1,b2,b3,b4,b5,b6,b7⟩:=hSw;go_simp
     simp only [Act.put,zL];refine zr 5 103 (.pointer (some ⟨w4.heap.size,1,none⟩)) rfl (λw' hSw=>?_) hHeld ?_
     ·obtain⟨a0,a1,a2,a3,a4,a5,a6,a7,b1,b2,b3,b4,b5,b6,b7⟩:=hSw;go_simp
     simp only [Act.put,zL];refine zr 6 104 (.bool mm) rfl (λw' hSw=>?_) hHeld ?_
     ·obtain⟨a0,a1,a2,a3,a4,a5,a6,a7,b1,b2,b3,b4,b5,b6,b7⟩:=hSw;go_simp
     simp only [Act.put,zL];refine zr 7 105 (.bool mm) rfl (λw' hSw=>?_) hHeld ?_
     ·obtain⟨a0,a1,a2,a3,a4,a5,a6,a7,b1,b2,b3,b4,b5,b6,b7⟩:=hSw;go_simp
     simp only [Act.put,zL];refine zr 8 106 (.pointer (some ⟨wr.heap.size,2,none⟩)) rfl (λw' hSw=>?_) hHeld ?_
     ·obtain⟨a0,a1,a2,a3,a4,a5,a6,a7,b1,b2,b3,b4,b5,b6,b7⟩:=hSw;go_simp
     simp only [Act.put,zL];refine zr 9 107 (.agg #[.int .i64 o,.int .i64 nn,.string s0,.string t0,.pointer p,.slice A' m' c']) rfl (λw' hSw=>?_) hHeld ?_
     ·obtain⟨a0,a1,a2,a3,a4,a5,a6,a7,b1,b2,b3,b4,b5,b6,b7⟩:=hSw;go_simp
     simp only [Act.put,zL];refine zr 10 108 (.pointer (some ⟨w4.heap.size,2,none⟩)) rfl (λw' hSw=>?_) hHeld ?_
     ·obtain⟨a0,a1,a2,a3,a4,a5,a6,a7,b1,b2,b3,b4,b5,b6,b7⟩:=hSw;go_simp
     simp only [Act.put,zL];refine zr 11 109 (.agg #[.int .i64 o2,.int .i64 n2',.string s2,.string t2,.pointer p2,.slice BJ m2' c2']) rfl (λw' hSw=>?_) hHeld ?_
     ·obtain⟨a0,a1,a2,a3,a4,a5,a6,a7,b1,b2,b3,b4,b5,b6,b7⟩:=hSw;go_simp
     simp only [Act.put,zL];refine zA (i:=12) (o:=⟨some 110,_,_,_,_,_⟩) (by kernel_rfl) rfl (λK' hK'=>?_);go_simp;go_at_call 72;refine KJ.o.mono ?_;rintro e w6 ⟨u,rfl,ku,b6⟩;obtain⟨o5,n5,s5,t5,p5,A5,m5,c5,rfl⟩:=aG ku;have KU:=O ku;have Uv:=O (Wc.o.trans (b6.mono Wc.o.size));clear ku b6;go_wp2_with fail;refine hK'.out _ _ (λ_=>Un.o _ Uv.o) ?_;clear hK' K' hHeld
     try simp only [Act.put,zL]
     refine zr 13 111 (.agg #[.string y.1,.bool mm,.int .i64 o5,.int .i64 n5,.string s5,.string t5,.pointer p5,.slice A5 m5 c5]) rfl (λw' hSw=>?_) (Un.o _ Uv.o) ?_
     ·clear hSw;go_simp
     simp only [Act.put,zL];obtain⟨a0,a1,a2,a3,a4,a5,a6,a7,j0,j1,j2,j3,j4,j5,j6,j7⟩:=Y6.o.keep Uv.o;refine zA (i:=14) (o:=⟨none,_,_,_,_,_⟩) (by kernel_rfl) rfl (λK' hK'=>?_);go_simp;refine hK'.out _ _ (λh=>absurd rfl h) ?_;refine jR (by kernel_rfl) ?_;refine NoPanic.normal ?_;have Ut:=O (Yb.o.trans (Uv.o.mono Yb.o.size));clear hK' K';obtain⟨k0,k1,k2,k3,k4,k5,r0,r1,r2,r3,r4,r5⟩:=(hL.o.keep Ut.o).K;have hlk:w.heap.size+3<wr.heap.size:=by have:=hL.o.z;omega
     have hlk6:w.heap.size+3<w6.heap.size:=by have:=Ut.o.size;omega
     obtain⟨W,hW⟩:∃W,((((((((w6.setCell ⟨wr.heap.size,0,none⟩ (.string y.1)).setCell ⟨wr.heap.size,1,none⟩ (.bool mm)).setCell ⟨wr.heap.size,2,none⟩ (.int .i64 o5)).setCell ⟨wr.heap.size,3,none⟩ (.int .i64 n5)).setCell ⟨wr.heap.size,4,none⟩ (.string s5)).setCell ⟨wr.heap.size,5,none⟩ (.string t5)).setCell ⟨wr.heap.size,6,none⟩ (.pointer p5)).setCell ⟨wr.heap.size,7,none⟩ (.slice A5 m5 c5))=W:=⟨_,rfl⟩
     have B6:Below wr.heap.size wr W:=by rw [<-hW];exact i7 Ut.o (Nat.le_refl _) _ _ _ _ _ _ _ _
     have Iz:W.heap.size=w6.heap.size:=by rw [<-hW];simp [World.setCell]
     have L6:=O (hL.o.keep B6);have rn:=eW W [.string y.1,.bool mm,.int .i64 o5,.int .i64 n5,.string s5,.string t5,.pointer p5,.slice A5 m5 c5] 143;rw [Iz] at rn;have RN:=O rn;have F6:=O (L6.o.F.keepN (zc (za W (.cells #[.string y.1,.bool mm,.int .i64 o5,.int .i64 n5,.string s5,.string t5,.pointer p5,.slice A5 m5 c5] 143)) none));have Ri:(W.alloc (.cells #[.string y.1,.bool mm,.int .i64 o5,.int .i64 n5,.string s5,.string t5,.pointer p5,.slice A5 m5 c5] 143)).heap.size=w6.heap.size+1:=by rw [<-Iz];simp
     have V9:=O Ri;have KK:=O (show KAt (W.alloc (.cells #[.string y.1,.bool mm,.int .i64 o5,.int .i64 n5,.string s5,.string t5,.pointer p5,.slice A5 m5 c5] 143)) (λb=>D b/\some b≠v.ownBlock) (zI y.2.2 k') [.int .i64 o5,.int .i64 n5,.string s5,.string t5,.pointer p5,.slice A5 m5 c5] from by rw [<-hW];exact(Fa (fb:=wr.heap.size) (KU.o.mono (B':=λb=>B b\/w4.heap.size+1<=b) λb h _=>h.imp_right λh=>by have:=ZZ.o;have h':w5.heap.size<=b:=h;omega) (by omega) (λb hb=>by have:=mZ.o b hb;omega) _ _ _ _ _ _ _ _ _).mono λb hb _=>⟨Uf.o b (hb.imp_right λh=>by omega),λe=>by have:=hL.o.F.own.lt b e.symm;rcases hb with h|h;(have:=mZ.o b h;omega);omega⟩);subst hW;clear rn Iz Ri B6;go_wp2_with (at_builtin;refine cE rfl _ _ rfl (w.heap.size+4) D v E rfl F6.o ⟨(y.1,mm,zI y.2.2 k'),o5,n5,s5,t5,p5,A5,m5,c5⟩ ⟨w6.heap.size,0,none⟩ 1 1 rfl rfl RN.o KK.o Uo.o ?c1 ?_)
     case c1=>rw [V9.o];have:=hL.o.z;have:=Ut.o.size;omega
     intro v' w7 hrow hg;obtain⟨K7,LN⟩:=L6.o.next _ Rn.o hrow hg;have fm:=O LN;obtain⟨A7,cp7,hv',-,-,-⟩:=hrow.fat (λb hb=>Uf.o b (.inr hb));obtain⟨nl,qX⟩:∃nl,nl=(E ++ [(⟨(y.1,mm,zI y.2.2 k'),o5,n5,s5,t5,p5,A5,m5,c5⟩:Fe)]).length:=⟨_,rfl⟩
     rw [<-qX] at hv';subst hv';clear qX hrow hg LN a0 a1 a2 a3 a4 a5 a6 a7 j0 j1 j2 j3 j4 j5 j6 j7 k0 k1 k2 k3 k4 k5 r0 r1 r2 r3 r4 r5;obtain⟨k0,k1,k2,k3,k4,k5,r0,r1,r2,r3,r4,r5⟩:=K7;go_wp2_with fail;go_roundw
     case rel=>exact⟨k+1,E ++ [⟨(y.1,mm,zI y.2.2 k'),o5,n5,s5,t5,p5,A5,m5,c5⟩],_,by go_num,hlt,O (Rs.o _ (UQ.o.trans (by rw [<-HYM.o];rfl)).symm),fm⟩
     case measure=>simp [intOf];omega
  ·have IE:k=m1:=by omega
   have iW:=O (show E.map Fe.y=f.list.map (lJ g) by
    have:=hE.o
    rwa [IE,fi.o,List.take_length] at this)
   clear hE IE;obtain⟨x0,x1,x2,x3,x4,x5,-,-,-,-,-,-⟩:=hL.o.X2;have BP:w.heap.size+1<wr.heap.size:=block_lt_of_cell x0;have QW:m2<=100000:=by omega
   go_wp2_with fail;have Y9:=O (show E.map Fe.y=f.list.map (lJ g)++((g.list.take 0).filter λy=>(f.find y.1).isNone).map λy=>(y.1,false,y.2.2) by rw [iW.o];simp);clear iW;go_loopw [123] (λi wr=>∃(k:Nat) (E:List Fe) (v:Value),i = .int .i64 k/\k<=m2/\Hid (E.map Fe.y=f.list.map (lJ g)++((g.list.take k).filter λy=>(f.find y.1).isNone).map λy=>(y.1,false,y.2.2))/\Hid (JLp w wr D n1 n2 A1 A2 m1 c1 m2 c2 E v)) (λi _=>m2-(intOf i).toNat)
   case atStart=>exact⟨0,E,v,rfl,Nat.zero_le _,Y9,hL⟩
   case round =>
    clear Y9 hL x0 x1 x2 x3 x4 x5 BP;obtain⟨k2,E,v,rfl,hk2,hE,hL⟩:=hrel;by_cases ln:k2<m2
    ·have eK:k2<g.list.length:=by rw [<-se.o];exact ln
     obtain⟨a,rfl,li⟩:=((KG.o.cong (w':=wr) (λb hb=>hL.o.G.block b (mZ.o b hb))).at) k2 _ (List.getElem?_eq_getElem eK);rw [Nat.zero_add] at li;have Uo:=O (show E.length<=1000000 by
      have h1:=congrArg List.length hE.o
      have h2:=List.length_filter_le (λy:Kfd=>(f.find y.1).isNone) (g.list.take k2)
      rw [List.length_map,List.length_append,List.length_map,List.length_map,<-fi.o] at h1
      rw [List.length_take] at h2
      omega)
     have Rs:=O (show f.find (g.list[k2]).1=none->∀z:Fe,z.y=(g.list[k2].1,false,g.list[k2].2.2)->(E ++ [z]).map Fe.y=f.list.map (lJ g)++((g.list.take (k2+1)).filter λy=>(f.find y.1).isNone).map λy=>(y.1,false,y.2.2) from λhn z hz=>by
      rw [List.take_succ_eq_append_getElem eK,List.filter_append,List.map_append,List.map_append,hE.o]
      simp [hz,hn])
     have YX:=O (show(f.find (g.list[k2]).1).isSome=true->E.map Fe.y=f.list.map (lJ g)++((g.list.take (k2+1)).filter λy=>(f.find y.1).isNone).map λy=>(y.1,false,y.2.2) from λhn=>by
      obtain⟨q,hq⟩:=Option.isSome_iff_exists.1 hn
      rw [List.take_succ_eq_append_getElem eK,List.filter_append,List.map_append,hE.o]
      simp [hq])
     obtain⟨y,hy⟩:∃y,y=g.list[k2]:=⟨_,rfl⟩
     rw [<-hy] at li Rs YX;clear hy;obtain⟨o,nn,s0,t0,p,A',m',c',mg,q0,q1,q2,q3,q4,q5,q6,q7⟩:=li.cells;have Um:=O mg;clear li mg;have Re:m1<=100000:=by omega
     obtain⟨x0,x1,x2,x3,x4,x5,-,-,-,-,-,-⟩:=hL.o.X1;have hl2:w.heap.size<wr.heap.size:=block_lt_of_cell x0;have Ba:=za wr (.cells #[.string y.1,.bool y.2.1,.int .i64 o,.int .i64 nn,.string s0,.string t0,.pointer p,.slice A' m' c'] 143);have Y4:=ft wr (.string y.1) (.bool y.2.1) (.int .i64 o) (.int .i64 nn) (.string s0) (.string t0) (.pointer p) (.slice A' m' c') 143;go_wp2_with fail;have La:=hL.o.keep Ba;obtain⟨wa,Q7⟩:∃wa,wr.alloc (.cells #[.string y.1,.bool y.2.1,.int .i64 o,.int .i64 nn,.string s0,.string t0,.pointer p,.slice A' m' c'] 143)=wa:=⟨_,rfl⟩
     rw [Q7] at Ba Y4 La ⊢;clear Q7 x0 x1 x2 x3 x4 x5 q0 q1 q2 q3 q4 q5 q6 q7;refine(my A1 m1 c1 f B _ _ _ _ _ y.1 wa (KF.o.cong (λb hb=>La.G.block b (mZ.o b hb))) fi.o Re hc1 of.1 (λb hb=>Nat.lt_of_lt_of_le (mZ.o b hb) La.G.size)).mono ?_;rintro e w4 ⟨b4,zX⟩;have MP:=O (Ba.trans (b4.mono Ba.size));have Y5:=O (Y4.keep b4);have Rj:wr.heap.size<w4.heap.size:=block_lt_of_cell Y5.o.c0;have L4:=O (La.keep b4);clear b4 Ba Y4 La;obtain⟨y0,y1,y2,y3,y4,y5,y6,y7,j0,j1,j2,j3,j4,j5,j6,j7⟩:=Y5.o;rcases hfg:f.find y.1 with _|⟨mm,k'⟩
     ·rw [hfg] at zX;have zX:e = .returned (.tuple #[.agg #[.string ⟨#[]⟩,.bool false,.int .i64 0,.int .i64 0,.string ⟨#[]⟩,.string ⟨#[]⟩,.pointer none,.slice none 0 0],.bool false]):=zX;subst zX;replace Rs:=O (Rs.o hfg);clear hfg YX;obtain⟨k0,k1,k2',k3,k4,k5,r0,r1,r2,r3,r4,r5⟩:=L4.o.K;have hlk:w.heap.size+3<w4.heap.size:=block_lt_of_cell k0;have B6:Below wr.heap.size wr ((w4.setCell ⟨wr.heap.size,1,none⟩ (.bool false)).alloc (.cells #[.string ⟨#[]⟩,.bool false,.int .i64 0,.int .i64 0,.string ⟨#[]⟩,.string ⟨#[]⟩,.pointer none,.slice none 0 0] 143)):=(MP.o.setCell (p:=⟨wr.heap.size,1,none⟩) (Nat.le_refl _) (.bool false)).alloc (by simp [World.setCell];omega) _;have Iz:((w4.setCell ⟨wr.heap.size,1,none⟩ (.bool false)).alloc (.cells #[.string ⟨#[]⟩,.bool false,.int .i64 0,.int .i64 0,.string ⟨#[]⟩,.string ⟨#[]⟩,.pointer none,.slice none 0 0] 143)).heap.size=w4.heap.size+1:=by simp [World.setCell]
      have L6:=O (hL.o.keep B6);have rn:=eW ((w4.setCell ⟨wr.heap.size,1,none⟩ (.bool false)).alloc (.cells #[.string ⟨#[]⟩,.bool false,.int .i64 0,.int .i64 0,.string ⟨#[]⟩,.string ⟨#[]⟩,.pointer none,.slice none 0 0] 143)) [.string y.1,.bool false,.int .i64 o,.int .i64 nn,.string s0,.string t0,.pointer p,.slice A' m' c'] 143;rw [Iz] at rn;have RN:=O rn;have F6:=O (L6.o.F.keepN (zc (za ((w4.setCell ⟨wr.heap.size,1,none⟩ (.bool false)).alloc (.cells #[.string ⟨#[]⟩,.bool false,.int .i64 0,.int .i64 0,.string ⟨#[]⟩,.string ⟨#[]⟩,.pointer none,.slice none 0 0] 143)) (.cells #[.string y.1,.bool false,.int .i64 o,.int .i64 nn,.string s0,.string t0,.pointer p,.slice A' m' c'] 143)) none));have Ri:(((w4.setCell ⟨wr.heap.size,1,none⟩ (.bool false)).alloc (.cells #[.string ⟨#[]⟩,.bool false,.int .i64 0,.int .i64 0,.string ⟨#[]⟩,.string ⟨#[]⟩,.pointer none,.slice none 0 0] 143)).alloc (.cells #[.string y.1,.bool false,.int .i64 o,.int .i64 nn,.string s0,.string t0,.pointer p,.slice A' m' c'] 143)).heap.size=w4.heap.size+1+1:=by rw [<-Iz];simp
      have V9:=O Ri;have KK:=O (show KAt (((w4.setCell ⟨wr.heap.size,1,none⟩ (.bool false)).alloc (.cells #[.string ⟨#[]⟩,.bool false,.int .i64 0,.int .i64 0,.string ⟨#[]⟩,.string ⟨#[]⟩,.pointer none,.slice none 0 0] 143)).alloc (.cells #[.string y.1,.bool false,.int .i64 o,.int .i64 nn,.string s0,.string t0,.pointer p,.slice A' m' c'] 143)) (λb=>D b/\some b≠v.ownBlock) y.2.2 [.int .i64 o,.int .i64 nn,.string s0,.string t0,.pointer p,.slice A' m' c'] from(Um.o.cong λb hb=>(B6.trans ((za _ _).mono B6.size)).block b (Nat.lt_of_lt_of_le (mZ.o b hb) hL.o.G.size)).mono λb hb _=>⟨Uf.o b (.inl hb),λe=>by have:=mZ.o b hb;have:=(hL.o.F.own.lt b e.symm).1;omega⟩);clear rn Iz Ri B6;go_wp2_with (at_builtin;refine cE rfl _ _ rfl (w.heap.size+4) D v E rfl F6.o ⟨(y.1,false,y.2.2),o,nn,s0,t0,p,A',m',c'⟩ ⟨w4.heap.size+1,0,none⟩ 1 1 rfl rfl RN.o KK.o Uo.o ?c1 ?_)
      case c1=>rw [V9.o];have:=hL.o.z;omega
      intro v' w7 hrow hg;obtain⟨K7,LN⟩:=L6.o.next _ Rn.o hrow hg;have fm:=O LN;obtain⟨A7,cp7,hv',-,-,-⟩:=hrow.fat (λb hb=>Uf.o b (.inr hb));obtain⟨nl,qX⟩:∃nl,nl=(E ++ [(⟨(y.1,false,y.2.2),o,nn,s0,t0,p,A',m',c'⟩:Fe)]).length:=⟨_,rfl⟩
      rw [<-qX] at hv';subst hv';clear qX hrow hg LN y0 y1 y2 y3 y4 y5 y6 y7 j0 j1 j2 j3 j4 j5 j6 j7 k0 k1 k2' k3 k4 k5 r0 r1 r2 r3 r4 r5;obtain⟨k0,k1,k2',k3,k4,k5,r0,r1,r2,r3,r4,r5⟩:=K7;go_wp2_with fail;go_roundw
      case rel=>exact⟨k2+1,E ++ [⟨(y.1,false,y.2.2),o,nn,s0,t0,p,A',m',c'⟩],_,by go_num,ln,O (Rs.o _ rfl),fm⟩
      case measure=>simp [intOf];omega
     ·rw [hfg] at zX;obtain⟨u,rfl,FA⟩:=zX;obtain⟨o2,n2',s2,t2,p2,BJ,m2',c2',rfl⟩:=aG FA;have ay:=O (YX.o (by rw [hfg];rfl));have fm:=O (hL.o.keep (MP.o.trans ((za w4 (.cells #[.string y.1,.bool mm,.int .i64 o2,.int .i64 n2',.string s2,.string t2,.pointer p2,.slice BJ m2' c2'] 143)).mono MP.o.size)));clear FA hfg Rs YX;go_wp2_with fail;go_roundw
      case rel=>exact⟨k2+1,E,v,by go_num,ln,ay,fm⟩
      case measure=>simp [intOf];omega
    ·have Ul:k2=m2:=by omega
     have HEM:=O (show E.map Fe.y=Cg f g by
      have:=hE.o
      rwa [Ul,se.o,List.take_length] at this)
     have Uo:=O (show E.length<=1000000 by
      have h1:=congrArg List.length HEM.o
      have h2:=RZ (f:=f) (g:=g)
      rw [List.length_map] at h1
      have h3:=fV f
      have h4:=fV g
      have h5:=fi.o
      have h6:=se.o
      omega)
     clear hE Ul;have hmf:∀(fn:Fn) (first cap:Array Value) (w:World),(Instr.makeFunc fn first cap).run Tryz.prog w = .ok (.func fn first cap) w:=λ_ _ _ _=>rfl;obtain⟨k0,k1,k2',k3,k4,k5,r0,r1,r2,r3,r4,r5⟩:=hL.o.K;have HS:=O (PL wr (w.heap.size+4) D v E hL.o.F Uo.o);go_wp2_with fail;refine HS.o.mono ?_;rintro e w7 ⟨rfl,E',FH,hsort,hrow,hg⟩;have hn:∀b,b<w.heap.size+4->some b≠v.ownBlock:=λb hb e=>by have:=(hL.o.F.own.lt b e.symm).1;omega
     have K7:=O (hL.o.K.but hg (hn _ (by omega)));have R7:=O (hL.o.R.but hg (hn _ (by omega)));have B7:=O (show Below w.heap.size w w7 from by
      refine hL.o.G.trans ?_
      rcases hv2:v.ownBlock with _|q
      ·rw [hv2] at hg
       exact⟨hg.os,hg.tape,hg.output,hg.size,λi hi=>hg.block i (Nat.lt_of_lt_of_le hi hL.o.G.size) (λe=>nomatch e)⟩
      ·rw [hv2] at hg
       exact jE hg (by have:=(hL.o.F.own.lt q hv2).1;omega) hL.o.G.size)
     have BK:=O (HSRT.o (E'.map Fe.y) (by rw [<-HEM.o];exact FH.map _) (List.pairwise_map.2 hsort));obtain⟨A7,cp7,hv',BM,hle,hcm⟩:=hrow.fat (λb hb=>Uf.o b (.inr hb));rw [BK.o] at BM;have hlen:res.len=E'.length:=by rw [<-BK.o,so,List.length_map]
     rw [<-hlen] at hv' hle;subst hv';have WN:=O BM;have MV:=O hle;have Yd:=O hcm;clear FH hsort hrow hg hn hlen BM hle hcm k0 k1 k2' k3 k4 k5 r0 r1 r2 r3 r4 r5 hmf;obtain⟨k0,k1,k2',k3,k4,k5,-,-,-,-,-,-⟩:=K7.o;obtain⟨z0,z1,z2,z3,z4,z5,r0,r1,r2,r3,r4,r5⟩:=R7.o;go_wp2_with fail;obtain⟨j0,j1,j2,j3,j4,j5,-,-,-,-,-,-⟩:=R7.o.set (.int .i64 46) (.int .i64 0) (.string ⟨#[]⟩) (.string ⟨#[]⟩) (.pointer none) (.slice A7 res.len cp7);refine bodyPost_ret (v := .agg #[.int .i64 46,.int .i64 0,.string ⟨#[]⟩,.string ⟨#[]⟩,.pointer none,.slice A7 res.len cp7]) (by simp [results,Tryz.results72,go_sem,j0,j1,j2,j3,j4,j5]) rfl ?_;refine⟨[.int .i64 46,.int .i64 0,.string ⟨#[]⟩,.string ⟨#[]⟩,.pointer none,.slice A7 res.len cp7],rfl,⟨0,A7,cp7,rfl,MV.o,Yd.o,?_⟩,jY B7.o (by omega) _ _ _ _ _ _⟩;exact(WN.o.cong λb hb=>ae w7 (w.heap.size+2) _ _ _ _ _ _ (by rcases Rn.o b hb with h|h <;> omega)).mono λb hb _=>(wl.o b hb).imp_right λh=>by omega
theorem TQ{a b:Kd}(va:a.valid)(vb:b.valid)(h1:opN a≠49)(h2:opN b≠48)(h3:opN a≠48)(h4:opN b≠49)(h:opN a≠opN b\/nmN a≠nmN b):zI a b = .base 48:=by
 have n1:b≠ .base 48:=λq=>h2 (by rw [q];rfl);have n2:b≠ .base 49:=λq=>h4 (by rw [q];rfl)
 cases a with
 | base x =>
  rw [fE n1 n2,if_neg (show¬x=49 from h1)]
  split
  ·rename_i e;subst e;simp at h
  ·rfl
 | ent s =>
  rw [iD n1 n2]
  split
  ·rename_i e;subst e;simp at h
  ·rfl
 | set p =>
  rcases fK (p:=p) n1 n2 with ⟨q,rfl,-⟩|⟨-,e⟩
  ·simp [opN,nmN] at h
  ·exact e
 | fs f =>
  rcases kP (f:=f) n1 n2 with ⟨q,rfl,-⟩|⟨-,e⟩
  ·simp [opN,nmN] at h
  ·exact e
theorem Jr{w w':World}{B:Nat->Prop}{k:Kd}{u:List Value}{e:Ending}(hk:KAt w B k u)(hB:∀b,B b->b<w.heap.size)(he:e = .returned (.agg u.toArray))(hb:Below w.heap.size w w'):uO w B k e w' :=
 ⟨u,he,(hk.cong λb hx=>hb.block b (hB b hx)).mono λ_ hx _ => .inl hx,hb⟩
theorem mC:∀N:Nat,OP N
 | 0=>λa _ _ _ _ _ h=>by cases a <;> simp [Kd.sz] at h
 | N+1=>by
  intro a b va vb w B h h1 h2 ha hb va' vb' hB;obtain⟨n1,p1,A1,m1,c1,e1⟩:=po ha;obtain⟨n2,p2,A2,m2,c2,e2⟩:=po hb;by_cases hn:opN a=49\/opN b=48
  ·have hr:zI a b=b:=by
    rcases hn with hn|hn
    ·rw [yX va' hn,yh (by trivial) vb'.ok,ef rfl]
    ·rw [Ht vb' hn];exact fN rfl
   rw [hr];refine Calls.mono (R:=λe w'=>e = .returned (.agg vb.toArray)/\Below w.heap.size w w') ?_ λe w' hh=>Jr hb hB hh.1 hh.2;rw [e1,e2];exact Gm _ _ _ _ _ _ _ _ _ _ _ _ _ _ _ _ w hn
  ·have wi:opN a≠49:=λe=>hn (.inl e);have IJ:opN b≠48:=λe=>hn (.inr e);by_cases hm:opN b=49\/opN a=48
   ·have hr:zI a b=a:=by
     rcases hm with hm|hm
     ·rw [yX vb' hm];exact ef rfl
     ·rw [Ht va' hm,yh (by trivial) vb'.ok,fN rfl]
    rw [hr];refine Calls.mono (R:=λe w'=>e = .returned (.agg va.toArray)/\Below w.heap.size w w') ?_ λe w' hh=>Jr ha hB hh.1 hh.2;rw [e1,e2];exact Ke _ _ _ _ _ _ _ _ _ _ _ _ _ _ _ _ w wi IJ hm
   ·have g49:opN b≠49:=λe=>hm (.inl e);have g48:opN a≠48:=λe=>hm (.inr e);by_cases hd:opN a≠opN b\/nmN a≠nmN b
    ·rw [TQ va' vb' wi IJ g48 g49 hd];rw [e1,e2];exact(Cz _ _ _ _ _ _ _ _ _ _ _ _ _ _ _ _ w wi IJ g48 g49 hd).mono λe w' hh=>⟨[.int .i64 48,.int .i64 0,.string ⟨#[]⟩,.string ⟨#[]⟩,.pointer none,.slice none 0 0],hh.1,⟨0,rfl⟩,hh.2⟩
    ·have ho:opN a=opN b:=Decidable.byContradiction λe=>hd (.inl e);have hs:nmN a=nmN b:=Decidable.byContradiction λe=>hd (.inr e);have q1:b≠ .base 48:=λq=>IJ (by rw [q];rfl);have q2:b≠ .base 49:=λq=>g49 (by rw [q];rfl);rcases xY va' vb' ho hs with ⟨x,rfl,rfl⟩|⟨s,rfl,rfl⟩|⟨p,q,rfl,rfl⟩|⟨f,g,rfl,rfl⟩
     ·rw [xw va'.ok];refine Calls.mono (R:=λe w'=>e = .returned (.agg va.toArray)/\Below w.heap.size w w') ?_ λe w' hh=>Jr ha hB hh.1 hh.2;have hx:=iF va';rw [e1,e2];exact xX x n1 n2 _ _ _ _ _ _ _ _ _ _ _ w wi g48 (λe=>by omega) (λe=>by omega)
     ·rw [xw va'.ok];refine Calls.mono (R:=λe w'=>e = .returned (.agg va.toArray)/\Below w.heap.size w w') ?_ λe w' hh=>Jr ha hB hh.1 hh.2;rw [e1,e2];exact xX 44 n1 n2 _ _ _ _ _ _ _ _ _ _ _ w wi g48 (by decide) (by decide)
     ·rcases fK (p:=p) q1 q2 with ⟨q',e,hr⟩|⟨hno,-⟩
      ·injection e with e;subst e;simp only [Kd.sz] at h h1 h2;rw [hr];exact Le N (mC N) p q va vb w B (by omega) (by omega) (by omega) ha hb va' vb' hB
      ·exact absurd rfl (hno q)
     ·rcases kP (f:=f) q1 q2 with ⟨q',e,hr⟩|⟨hno,-⟩
      ·injection e with e;subst e;simp only [Kd.sz] at h h1 h2;rw [hr];exact Md N (mC N) f g va vb w B (by omega) (by omega) (by omega) ha hb va' vb' hB
      ·exact absurd rfl (hno g)
structure kq(w:World)(base:Nat)(v:Value)(P:List Nd):Prop where
 own:w.ownsRow base 47 4 v P.length (zD P)
theorem kq.alloc{w:World}{base:Nat}{v:Value}{P:List Nd}(h:kq w base v P)(o:Obj):kq (w.alloc o) base v P:=⟨h.own.alloc o⟩
theorem kq.keepN{w w':World}{base:Nat}{v:Value}{P:List Nd}(h:kq w base v P)(hb:Below w.heap.size w w'):kq w' base v P:=⟨h.own.kept (zc hb none) (by cases hv:v.ownBlock <;> simp)⟩
def oM(w:World)(base:Nat)(v:Value)(P:List Nd)(e:Ending)(w':World):Prop :=
 ∃v',e = .returned v'/\kq w' base v' P/\w.grownBy w' v.ownBlock/\(v'.ownBlock=v.ownBlock\/∃g,v'.ownBlock=some g/\w.heap.size<=g)
theorem iQ{w w1 w2:World}{r r1:Option Nat}(h:w.grownBy w1 r)(k:w1.grownBy w2 r1)(hr:r1=r\/∃g,r1=some g/\w.heap.size<=g):w.grownBy w2 r :=
 ⟨k.os.trans h.os,k.tape.trans h.tape,k.output.trans h.output,Nat.le_trans h.size k.size,λi hi hn=>(k.block i (Nat.lt_of_lt_of_le hi h.size) (λe=>by
  rcases hr with rfl|⟨g,rfl,hg⟩
  ·exact hn e
  ·injection e with e;omega)).trans (h.block i hi hn)⟩
def Qy(N:Nat):Prop:=∀(k:Kd) (u:List Value) (w:World) (B:Nat->Prop) (base:Nat) (v:Value) (P:List Nd),k.sz<=N->P.length+k.flat.length<=100000->KAt w B k u->kq w base v P->base<=w.heap.size->(∀b,B b->b<base)->
 Calls Tryz.prog 126 #[.agg u.toArray,v] w (oM w base v (P ++ k.flat))
theorem ei{ops:Array Oper}{rest:List Oper}{o:Oper}{a:Act}{w:World}{Q:Exit->Act->World->Prop}(hgd:o.guard=none)(s x:Operand)
 (ho:o.op = .call { callee := .builtin .append,args:=#[s,x],argTypes:=#[29,29] })
 (base:Nat) (v:Value) (P:List Nd) (hs:a.eval s=v) (hrow:kq w base v P) (z:Nd) (ad:Addr) (m c:Nat) (hx:a.eval x = .slice (some ad) m c) (hm:m=1)
 (hnews:∀j u,(zD [z])[j]?=some u->w.cell? (ad.add j)=some u) (hl:P.length<=1000000) (hbase:base<=w.heap.size)
 (h:∀v' w',kq w' base v' (P ++ [z])->w.grownBy w' v.ownBlock->(v'.ownBlock=v.ownBlock\/∃g,v'.ownBlock=some g/\w.heap.size<=g)->wpList Tryz.prog ops Q rest (a.put o.dst v') w'):wpList Tryz.prog ops Q (o :: rest) a w:=by
 subst hm;have hi:=kF
 cases hq:Tryz.prog.info? 47 with
 | none=>rw [hq] at hi;cases hi
 | some i0 =>
  rw [hq] at hi
  simp only [Option.map_some,Option.some.injEq,Prod.mk.injEq] at hi
  refine wpList_append_own_at w hgd s x _ ho base _ i0 _ 4 48 Tryz.underlying29 hq hi.1 hi.2.1 hi.2.2 (by decide) (by decide) v P.length (zD P) hs hrow.own ad 1 c (zD [z]) hx rfl hnews ?_ (by unfold maxLen;omega) (by omega) hbase ?_
  ·intro u hu
   simp [zD] at hu;rcases hu with rfl|rfl|rfl|rfl <;> rfl
  ·intro v' w' h1 h2 _ h4
   refine h v' w' ⟨by rw [aP,List.length_append];exact h1⟩ h2 ?_;rcases h4 with h4|h4
   ·exact .inl h4
   ·exact .inr ⟨_,h4,Nat.le_refl _⟩
theorem mc{ops:Array Oper}{o:Oper}{a:Act}{w:World}{K:Act->World->Prop}{Q:Exit->Act->World->Prop}{E:Prop}(hgd:o.guard=none)(s x:Operand)
 (ho:o.op = .call { callee := .builtin .append,args:=#[s,x],argTypes:=#[29,29] })
 (base:Nat) (v:Value) (P:List Nd) (hs:a.eval s=v) (hrow:kq w base v P) (z:Nd) (ad:Addr) (c:Nat) (hx:a.eval x = .slice (some ad) 1 c)
 (hnews:∀j u,(zD [z])[j]?=some u->w.cell? (ad.add j)=some u) (hl:P.length<=1000000) (hbase:base<=w.heap.size)
 (h:∀v' w',kq w' base v' (P ++ [z])->w.grownBy w' v.ownBlock->(v'.ownBlock=v.ownBlock\/∃g,v'.ownBlock=some g/\w.heap.size<=g)->K (a.put o.dst v') w'):
 if Region.wanted o (yielded ops a.tmps)=true then Oper.wp Tryz.prog o a w K Q else E:=by
 have hi:=kF
 cases hq:Tryz.prog.info? 47 with
 | none=>rw [hq] at hi;cases hi
 | some i0 =>
  rw [hq] at hi
  simp only [Option.map_some,Option.some.injEq,Prod.mk.injEq] at hi
  refine step_append_lies w hgd s x _ ho base _ i0 _ 4 48 Tryz.underlying29 hq hi.1 hi.2.1 hi.2.2 (by decide) (by decide) v P.length (zD P) hs hrow.own ad 1 c (zD [z]) hx rfl hnews ?_ (by decide) (by unfold maxLen;omega) (by omega) hbase _ rfl ?_
  ·intro u hu
   simp [zD] at hu;rcases hu with rfl|rfl|rfl|rfl <;> rfl
  ·intro g cap w' h1 h2 h3 h4
   refine h _ w' ⟨by rw [aP,List.length_append];exact h1⟩ h2 ?_;rcases h3 with h3|h3
   ·exact .inl h3.symm
   ·exact .inr ⟨g,rfl,Nat.le_of_eq h3.symm⟩
theorem xQ(o n:Int)(s t:ByteArray)(w:World)(base:Nat)(v:Value)(P:List Nd)(hP:P.length<=100000)(hown:kq w base v P)(hbase:base<=w.heap.size):
 Calls Tryz.prog 126 #[.agg #[.int .i64 o,.int .i64 n,.string s,.string t,.pointer none,.slice none 0 0],v] w (oM w base v (P ++ [⟨o,0,s,t⟩])):=by
 have Ba:=za w (.cells #[.int .i64 o,.int .i64 n,.string s,.string t,.pointer none,.slice none 0 0] 81);have Bb:=za (w.alloc (.cells #[.int .i64 o,.int .i64 n,.string s,.string t,.pointer none,.slice none 0 0] 81)) (.cells #[.int .i64 o,.int .i64 0,.string s,.string t] 47);have Bc:=za ((w.alloc (.cells #[.int .i64 o,.int .i64 n,.string s,.string t,.pointer none,.slice none 0 0] 81)).alloc (.cells #[.int .i64 o,.int .i64 0,.string s,.string t] 47)) (.cells #[.int .i64 o,.int .i64 0,.string s,.string t] 47);have Q9:(w.alloc (.cells #[.int .i64 o,.int .i64 n,.string s,.string t,.pointer none,.slice none 0 0] 81)).heap.size=w.heap.size+1:=by simp
 have hzb:((w.alloc (.cells #[.int .i64 o,.int .i64 n,.string s,.string t,.pointer none,.slice none 0 0] 81)).alloc (.cells #[.int .i64 o,.int .i64 0,.string s,.string t] 47)).heap.size=w.heap.size+2:=by simp
 have hzc:(((w.alloc (.cells #[.int .i64 o,.int .i64 n,.string s,.string t,.pointer none,.slice none 0 0] 81)).alloc (.cells #[.int .i64 o,.int .i64 0,.string s,.string t] 47)).alloc (.cells #[.int .i64 o,.int .i64 0,.string s,.string t] 47)).heap.size=w.heap.size+3:=by simp
 have B3:=O (Ba.trans ((Bb.trans (Bc.mono (by simp))).mono (by simp)));have X3:=O (((jf w (.int .i64 o) (.int .i64 n) (.string s) (.string t) (.pointer none) (.slice none 0 0) 81).keep Bb).keep Bc);have HO:=O (((hown.alloc (.cells #[.int .i64 o,.int .i64 n,.string s,.string t,.pointer none,.slice none 0 0] 81)).alloc (.cells #[.int .i64 o,.int .i64 0,.string s,.string t] 47)).alloc (.cells #[.int .i64 o,.int .i64 0,.string s,.string t] 47));have rn:=ag ((w.alloc (.cells #[.int .i64 o,.int .i64 n,.string s,.string t,.pointer none,.slice none 0 0] 81)).alloc (.cells #[.int .i64 o,.int .i64 0,.string s,.string t] 47)) (zD [⟨o,0,s,t⟩]) 47;rw [hzb] at rn;have RN:=O rn;have HZ:=O hzc;have MY:=O (λg hg=>hown.own.lt g hg);clear rn Q9 hzb hzc Ba Bb Bc hown;go_enter Tryz.func126,Tryz.ntmps126;go_wp2_with (at_builtin;refine ei rfl _ _ rfl base v P rfl HO.o ⟨o,0,s,t⟩ ⟨w.heap.size+2,0,none⟩ 1 1 rfl rfl RN.o ?c1 ?c2 ?_)
 case c1=>omega
 case c2=>rw [HZ.o];omega
 intro v' w4 hrow hg hb;have X4:=O (X3.o.but hg (λe=>by have:=(MY.o _ e.symm).2;omega));have HG:=O (zf (zc B3.o v.ownBlock) hg);have HR:=O hrow;have HB:=O (show v'.ownBlock=v.ownBlock\/∃g,v'.ownBlock=some g/\w.heap.size<=g by
  rcases hb with hb|⟨g,hb,h2⟩
  ·exact .inl hb
  ·exact .inr ⟨g,hb,by omega⟩)
 obtain⟨x0,x1,x2,x3,x4,x5,-,-,-,-,-,-⟩:=X4.o;clear hrow hg hb;go_wp2_with fail;go_loopw [1,31] (λu i wr=>u=v'/\i = .int .i64 0/\wr=w4) (λ_ _ _=>0)
 case atStart=>exact⟨rfl,rfl,rfl⟩
 case round =>
  obtain⟨rfl,rfl,rfl⟩:=hrel;go_wp2_with fail;go_ret;exact⟨_,rfl,HR.o,HG.o,HB.o⟩
theorem OD(N:Nat)(ih:Qy N)(q:Kd)(n:Int)(b:Nat)(u:List Value)(w:World)(B:Nat->Prop)(base:Nat)(v:Value)(P:List Nd)(hN:q.sz<=N)(hP:P.length+q.flat.length+1<=100000)(hb0:B b)(hr0:uK w ⟨b,0,none⟩ u)(hk:KAt w B q u)(hown:kq w base v P)(hbase:base<=w.heap.size)(hB:∀b,B b->b<base):
 Calls Tryz.prog 126 #[.agg #[.int .i64 45,.int .i64 n,.string ⟨#[]⟩,.string ⟨#[]⟩,.pointer (some ⟨b,0,none⟩),.slice none 0 0],v] w (oM w base v (P ++⟨45,0,⟨#[]⟩,⟨#[]⟩⟩:: q.flat)):=by
 have HR0:=O hr0;have HK:=O hk;have HB0:=O (hB b hb0);have FO:=O hB;obtain⟨o2,n2,s2,t2,p2,A2,m2,c2,rfl⟩:=aG hk;clear hr0 hk hb0 hB;have Ba:=za w (.cells #[.int .i64 45,.int .i64 n,.string ⟨#[]⟩,.string ⟨#[]⟩,.pointer (some ⟨b,0,none⟩),.slice none 0 0] 81);have Bb:=za (w.alloc (.cells #[.int .i64 45,.int .i64 n,.string ⟨#[]⟩,.string ⟨#[]⟩,.pointer (some ⟨b,0,none⟩),.slice none 0 0] 81)) (.cells #[.int .i64 45,.int .i64 0,.string ⟨#[]⟩,.string ⟨#[]⟩] 47);have Bc:=za ((w.alloc (.cells #[.int .i64 45,.int .i64 n,.string ⟨#[]⟩,.string ⟨#[]⟩,.pointer (some ⟨b,0,none⟩),.slice none 0 0] 81)).alloc (.cells #[.int .i64 45,.int .i64 0,.string ⟨#[]⟩,.string ⟨#[]⟩] 47)) (.cells #[.int .i64 45,.int .i64 0,.string ⟨#[]⟩,.string ⟨#[]⟩] 47);have Q9:(w.alloc (.cells #[.int .i64 45,.int .i64 n,.string ⟨#[]⟩,.string ⟨#[]⟩,.pointer (some ⟨b,0,none⟩),.slice none 0 0] 81)).heap.size=w.heap.size+1:=by simp
 have hzb:((w.alloc (.cells #[.int .i64 45,.int .i64 n,.string ⟨#[]⟩,.string ⟨#[]⟩,.pointer (some ⟨b,0,none⟩),.slice none 0 0] 81)).alloc (.cells #[.int .i64 45,.int .i64 0,.string ⟨#[]⟩,.string ⟨#[]⟩] 47)).heap.size=w.heap.size+2:=by simp
 have hzc:(((w.alloc (.cells #[.int .i64 45,.int .i64 n,.string ⟨#[]⟩,.string ⟨#[]⟩,.pointer (some ⟨b,0,none⟩),.slice none 0 0] 81)).alloc (.cells #[.int .i64 45,.int .i64 0,.string ⟨#[]⟩,.string ⟨#[]⟩] 47)).alloc (.cells #[.int .i64 45,.int .i64 0,.string ⟨#[]⟩,.string ⟨#[]⟩] 47)).heap.size=w.heap.size+3:=by simp
 have B3:=O (Ba.trans ((Bb.trans (Bc.mono (by simp))).mono (by simp)));have X3:=O (((jf w (.int .i64 45) (.int .i64 n) (.string ⟨#[]⟩) (.string ⟨#[]⟩) (.pointer (some ⟨b,0,none⟩)) (.slice none 0 0) 81).keep Bb).keep Bc);have HO:=O (((hown.alloc (.cells #[.int .i64 45,.int .i64 n,.string ⟨#[]⟩,.string ⟨#[]⟩,.pointer (some ⟨b,0,none⟩),.slice none 0 0] 81)).alloc (.cells #[.int .i64 45,.int .i64 0,.string ⟨#[]⟩,.string ⟨#[]⟩] 47)).alloc (.cells #[.int .i64 45,.int .i64 0,.string ⟨#[]⟩,.string ⟨#[]⟩] 47));have rn:=ag ((w.alloc (.cells #[.int .i64 45,.int .i64 n,.string ⟨#[]⟩,.string ⟨#[]⟩,.pointer (some ⟨b,0,none⟩),.slice none 0 0] 81)).alloc (.cells #[.int .i64 45,.int .i64 0,.string ⟨#[]⟩,.string ⟨#[]⟩] 47)) (zD [⟨45,0,⟨#[]⟩,⟨#[]⟩⟩]) 47;rw [hzb] at rn;have RN:=O rn;have HZ:=O hzc;have MY:=O (λg hg=>hown.own.lt g hg);clear rn Q9 hzb hzc Ba Bb Bc hown;go_enter Tryz.func126,Tryz.ntmps126;go_wp2_with (at_builtin;refine ei rfl _ _ rfl base v P rfl HO.o ⟨45,0,⟨#[]⟩,⟨#[]⟩⟩ ⟨w.heap.size+2,0,none⟩ 1 1 rfl rfl RN.o ?c1 ?c2 ?_)
 case c1=>omega
 case c2=>rw [HZ.o];omega
 intro v' w4 hrow hg hb;have X4:=O (X3.o.but hg (λe=>by have:=(MY.o _ e.symm).2;omega));have HG:=O (zf (zc B3.o v.ownBlock) hg);have HR:=O hrow;have HB:=O (show v'.ownBlock=v.ownBlock\/∃g,v'.ownBlock=some g/\w.heap.size<=g by
  rcases hb with hb|⟨g,hb,h2⟩
  ·exact .inl hb
  ·exact .inr ⟨g,hb,by omega⟩)
 have Y0:=O (λg (hg:v.ownBlock=some g)=>MY.o g hg);have BO:=O (show∀g,v'.ownBlock=some g->g≠w.heap.size from λg hg e=>by
  rcases hb with h|⟨g2,h,h2⟩
  ·rw [h] at hg;have:=(MY.o _ hg).2;omega
  ·rw [h] at hg;injection hg with hg;omega)
 have hbl:base<=w4.heap.size:=Nat.le_trans hbase (Nat.le_trans B3.o.size hg.size);have hold:∀g,g<base->w4.heap[g]?=w.heap[g]?:=λg hg4=>HG.o.block g (by omega) (λe=>by have:=(Y0.o _ e.symm).1;omega);have Q1:=HR0.o.cong (w':=w4) (hold b HB0.o);have IH:=O (ih q _ w4 B base v' (P ++ [⟨45,0,⟨#[]⟩,⟨#[]⟩⟩]) hN (by simp;omega) (HK.o.cong λg hg=>hold g (FO.o g hg)) hrow hbl FO.o);have d0:=Q1 0 _ rfl;have d1:=Q1 1 _ rfl;have d2:=Q1 2 _ rfl;have d3:=Q1 3 _ rfl;have d4:=Q1 4 _ rfl;have d5:=Q1 5 _ rfl;have ad:∀(b j:Nat),(⟨b,0,none⟩:Addr).add j=⟨b,j,none⟩:=λb j=>by
  unfold Addr.add;split
  ·rename_i h0;subst h0;rfl
  ·simp
 rw [ad] at d0 d1 d2 d3 d4 d5;obtain⟨x0,x1,x2,x3,x4,x5,-,-,-,-,-,-⟩:=X4.o;clear ad Q1 hold hrow hg hb;go_wp2_with fail;refine IH.o.mono ?_;rintro e w5 ⟨v5,rfl,r5,g5,h5⟩;have X5:=O (X4.o.but g5 (λe=>BO.o _ e.symm rfl));have Rh:=O (iQ HG.o g5 HB.o);have HR5:=O r5;have WE:=O (show v5.ownBlock=v.ownBlock\/∃g,v5.ownBlock=some g/\w.heap.size<=g by
  rcases h5 with h5|⟨g,h5,h2⟩
  ·rw [h5];exact HB.o
  ·exact .inr ⟨g,h5,Nat.le_trans HG.o.size h2⟩)
 clear x0 x1 x2 x3 x4 x5 d0 d1 d2 d3 d4 d5 r5 g5 h5 IH;obtain⟨x0,x1,x2,x3,x4,x5,-,-,-,-,-,-⟩:=X5.o;go_wp2_with fail;go_loopw [1,31] (λu i wr=>u=v5/\i = .int .i64 0/\wr=w5) (λ_ _ _=>0)
 case atStart=>exact⟨rfl,rfl,rfl⟩
 case round =>
  obtain⟨rfl,rfl,rfl⟩:=hrel;go_wp2_with fail;go_ret;exact⟨_,rfl,by simpa using HR5.o,Rh.o,WE.o⟩
structure FLp(w wr:World)(base:Nat)(v u:Value)(P:List Nd):Prop where
 F:kq wr base u P
 G:w.grownBy wr v.ownBlock
 H:u.ownBlock=v.ownBlock\/∃g,u.ownBlock=some g/\w.heap.size<=g
theorem Bq(f:Fl)(k:Nat)(h:k<f.list.length):(ofL (f.list.drop k)).flat=⟨47,if f.list[k].2.1=true then 1 else 0,f.list[k].1,⟨#[]⟩⟩::(f.list[k].2.2.flat ++(ofL (f.list.drop (k+1))).flat):=by
 rw [List.drop_eq_getElem_cons h];rfl
theorem Jj:∀f:Fl,∀y∈f.list,y.2.2.sz<=f.sz
 | .nil,y,h=>nomatch h
 | .cons s m k r,y,h=>by
  rcases List.mem_cons.1 (show y∈(s,m,k):: r.list from h) with rfl|h
  ·simp only [Fl.sz];omega
  ·have:=Jj r y h;simp only [Fl.sz];omega
theorem Dx:∀f:Fl,f.len<=f.flat.length
 | .nil=>Nat.le_refl _
 | .cons s m k r=>by have:=Dx r;simp only [Fl.len,Fl.flat,List.length_cons,List.length_append];omega
theorem Sb(N:Nat)(ih:Qy N)(f:Fl)(n:Int)(A:Option Addr)(c:Nat)(w:World)(B:Nat->Prop)(base:Nat)(v:Value)(P:List Nd)(hN:f.sz<=N)(hP:P.length+f.flat.length+1<=100000)(_hfc:f.len<=c)(_hcm:c<=maxLen)(hk:FAt w B A 0 f)(hown:kq w base v P)(hbase:base<=w.heap.size)(hB:∀b,B b->b<base):
 Calls Tryz.prog 126 #[.agg #[.int .i64 46,.int .i64 n,.string ⟨#[]⟩,.string ⟨#[]⟩,.pointer none,.slice A f.len c],v] w (oM w base v (P ++⟨46,f.len,⟨#[]⟩,⟨#[]⟩⟩:: f.flat)):=by
 have HK:=O hk;have FO:=O hB;have HLF:=O (Dx f);have IM:f.len<=100000:=by have:=HLF.o;omega
 obtain⟨m,hm⟩:∃m,m=f.len:=⟨_,rfl⟩
 have HM:=O (hm.trans (fV f));rw [<-hm] at IM ⊢;obtain⟨PP,WG⟩:∃PP,PP=P ++(⟨46,(m:Int),⟨#[]⟩,⟨#[]⟩⟩:Nd):: f.flat:=⟨_,rfl⟩
 have UV:=O (show PP.length<=100000 by rw [WG];simp;omega);have mX:=O WG;rw [<-WG];clear WG hk hB hm;have Ba:=za w (.cells #[.int .i64 46,.int .i64 n,.string ⟨#[]⟩,.string ⟨#[]⟩,.pointer none,.slice A m c] 81);have Bb:=za (w.alloc (.cells #[.int .i64 46,.int .i64 n,.string ⟨#[]⟩,.string ⟨#[]⟩,.pointer none,.slice A m c] 81)) (.cells #[.int .i64 46,.int .i64 m,.string ⟨#[]⟩,.string ⟨#[]⟩] 47);have Bc:=za ((w.alloc (.cells #[.int .i64 46,.int .i64 n,.string ⟨#[]⟩,.string ⟨#[]⟩,.pointer none,.slice A m c] 81)).alloc (.cells #[.int .i64 46,.int .i64 m,.string ⟨#[]⟩,.string ⟨#[]⟩] 47)) (.cells #[.int .i64 46,.int .i64 m,.string ⟨#[]⟩,.string ⟨#[]⟩] 47);have Q9:(w.alloc (.cells #[.int .i64 46,.int .i64 n,.string ⟨#[]⟩,.string ⟨#[]⟩,.pointer none,.slice A m c] 81)).heap.size=w.heap.size+1:=by simp
 have hzb:((w.alloc (.cells #[.int .i64 46,.int .i64 n,.string ⟨#[]⟩,.string ⟨#[]⟩,.pointer none,.slice A m c] 81)).alloc (.cells #[.int .i64 46,.int .i64 m,.string ⟨#[]⟩,.string ⟨#[]⟩] 47)).heap.size=w.heap.size+2:=by simp
 have hzc:(((w.alloc (.cells #[.int .i64 46,.int .i64 n,.string ⟨#[]⟩,.string ⟨#[]⟩,.pointer none,.slice A m c] 81)).alloc (.cells #[.int .i64 46,.int .i64 m,.string ⟨#[]⟩,.string ⟨#[]⟩] 47)).alloc (.cells #[.int .i64 46,.int .i64 m,.string ⟨#[]⟩,.string ⟨#[]⟩] 47)).heap.size=w.heap.size+3:=by simp
 have B3:=O (Ba.trans ((Bb.trans (Bc.mono (by simp))).mono (by simp)));have X3:=O (((jf w (.int .i64 46) (.int .i64 n) (.string ⟨#[]⟩) (.string ⟨#[]⟩) (.pointer none) (.slice A m c) 81).keep Bb).keep Bc);have HO:=O (((hown.alloc (.cells #[.int .i64 46,.int .i64 n,.string ⟨#[]⟩,.string ⟨#[]⟩,.pointer none,.slice A m c] 81)).alloc (.cells #[.int .i64 46,.int .i64 m,.string ⟨#[]⟩,.string ⟨#[]⟩] 47)).alloc (.cells #[.int .i64 46,.int .i64 m,.string ⟨#[]⟩,.string ⟨#[]⟩] 47));have rn:=ag ((w.alloc (.cells #[.int .i64 46,.int .i64 n,.string ⟨#[]⟩,.string ⟨#[]⟩,.pointer none,.slice A m c] 81)).alloc (.cells #[.int .i64 46,.int .i64 m,.string ⟨#[]⟩,.string ⟨#[]⟩] 47)) (zD [⟨46,m,⟨#[]⟩,⟨#[]⟩⟩]) 47;rw [hzb] at rn;have RN:=O rn;have HZ:=O hzc;have MY:=O (λg hg=>hown.own.lt g hg);clear rn Q9 hzb hzc Ba Bb Bc hown;go_enter Tryz.func126,Tryz.ntmps126;go_wp2_with (at_builtin;refine ei rfl _ _ rfl base v P rfl HO.o ⟨46,m,⟨#[]⟩,⟨#[]⟩⟩ ⟨w.heap.size+2,0,none⟩ 1 1 rfl rfl RN.o ?c1 ?c2 ?_)
 case c1=>omega
 case c2=>rw [HZ.o];omega
 intro v' w4 hrow hg hb;have X4:=O (X3.o.but hg (λe=>by have:=(MY.o _ e.symm).2;omega));have LP:=O (show FLp w w4 base v v' (P ++ [⟨46,m,⟨#[]⟩,⟨#[]⟩⟩]) from⟨hrow,zf (zc B3.o v.ownBlock) hg,by
  rcases hb with hb|⟨g,hb,h2⟩
  ·exact .inl hb
  ·exact .inr ⟨g,hb,by have:=HZ.o;omega⟩⟩)
 obtain⟨x0,x1,x2,x3,x4,x5,-,-,-,-,-,-⟩:=X4.o;clear hrow hg hb B3 X3 HO RN X4;go_wp2_with fail;go_loopw [1,31] (λu i wr=>∃(k:Nat) (Q:List Nd),i = .int .i64 k/\k<=m/\Hid (Q ++(ofL (f.list.drop k)).flat=PP)/\Hid (FLp w wr base v u Q)) (λ_ i _=>m-(intOf i).toNat)
 case atStart=>exact⟨0,_,rfl,Nat.zero_le _,O (by rw [mX.o,List.drop_zero,uM];simp),LP⟩
 case round =>
  clear x0 x1 x2 x3 x4 x5 LP;obtain⟨k,Q,rfl,hkm,hQ,hL⟩:=hrel;by_cases hlt:k<m
  ·have eK:k<f.list.length:=by rw [<-HM.o];exact hlt
   have HOLD:=O (show∀b,B b->wr.heap[b]?=w.heap[b]? from λb hb=>hL.o.G.block b (by have:=FO.o b hb;omega) (λe=>by have:=(MY.o _ e.symm).1;have:=FO.o b hb;omega));obtain⟨a,rfl,li⟩:=((HK.o.cong HOLD.o).at) k _ (List.getElem?_eq_getElem eK);rw [Nat.zero_add] at li;have oH:=O (Bq f k eK);have HYS:=O (Nat.le_trans (Jj f _ (List.getElem_mem eK)) hN);obtain⟨y,hy⟩:∃y,y=f.list[k]:=⟨_,rfl⟩
   rw [<-hy] at li oH HYS;clear hy;obtain⟨o,nn,s0,t0,p,A',m',c',mg,q0,q1,q2,q3,q4,q5,q6,q7⟩:=li.cells;have Um:=O mg;have MV:=O (show Q.length+(y.2.2.flat.length+1)<=100000 by
    have h1:=congrArg List.length hQ.o
    have h2:=UV.o
    rw [oH.o] at h1
    simp only [List.length_append,List.length_cons] at h1
    omega)
   obtain⟨ym,yz⟩:∃ym,ym=y.2.1:=⟨_,rfl⟩
   have HQ2:=O (show((Q ++ [⟨47,if ym=true then 1 else 0,y.1,⟨#[]⟩⟩])++ y.2.2.flat)++(ofL (f.list.drop (k+1))).flat=PP by
    rw [<-hQ.o,oH.o,yz];simp)
   rw [<-yz] at q1;clear li mg yz;have HS:=O hL.o.G.size;have hbr:base<=wr.heap.size:=Nat.le_trans hbase HS.o;have HOLr:=O (λg hg=>hL.o.F.own.lt g hg);cases ym
   ·have Ba:=za wr (.cells #[.string y.1,.bool false,.int .i64 o,.int .i64 nn,.string s0,.string t0,.pointer p,.slice A' m' c'] 143);have Bb:=za (wr.alloc (.cells #[.string y.1,.bool false,.int .i64 o,.int .i64 nn,.string s0,.string t0,.pointer p,.slice A' m' c'] 143)) (.cells #[.int .i64 47,.int .i64 0,.string y.1,.string ⟨#[]⟩] 47);have Bc:=za ((wr.alloc (.cells #[.string y.1,.bool false,.int .i64 o,.int .i64 nn,.string s0,.string t0,.pointer p,.slice A' m' c'] 143)).alloc (.cells #[.int .i64 47,.int .i64 0,.string y.1,.string ⟨#[]⟩] 47)) (.cells #[.int .i64 47,.int .i64 0,.string y.1,.string ⟨#[]⟩] 47);have Bd:Below (((wr.alloc (.cells #[.string y.1,.bool false,.int .i64 o,.int .i64 nn,.string s0,.string t0,.pointer p,.slice A' m' c'] 143)).alloc (.cells #[.int .i64 47,.int .i64 0,.string y.1,.string ⟨#[]⟩] 47)).alloc (.cells #[.int .i64 47,.int .i64 0,.string y.1,.string ⟨#[]⟩] 47)).heap.size (((wr.alloc (.cells #[.string y.1,.bool false,.int .i64 o,.int .i64 nn,.string s0,.string t0,.pointer p,.slice A' m' c'] 143)).alloc (.cells #[.int .i64 47,.int .i64 0,.string y.1,.string ⟨#[]⟩] 47)).alloc (.cells #[.int .i64 47,.int .i64 0,.string y.1,.string ⟨#[]⟩] 47)) (((wr.alloc (.cells #[.string y.1,.bool false,.int .i64 o,.int .i64 nn,.string s0,.string t0,.pointer p,.slice A' m' c'] 143)).alloc (.cells #[.int .i64 47,.int .i64 0,.string y.1,.string ⟨#[]⟩] 47)).alloc (.cells #[.int .i64 47,.int .i64 0,.string y.1,.string ⟨#[]⟩] 47)).drew:=⟨rfl,rfl,rfl,Nat.le_refl _,λ_ _=>rfl⟩
    have Q9:(wr.alloc (.cells #[.string y.1,.bool false,.int .i64 o,.int .i64 nn,.string s0,.string t0,.pointer p,.slice A' m' c'] 143)).heap.size=wr.heap.size+1:=by simp
    have hzb:((wr.alloc (.cells #[.string y.1,.bool false,.int .i64 o,.int .i64 nn,.string s0,.string t0,.pointer p,.slice A' m' c'] 143)).alloc (.cells #[.int .i64 47,.int .i64 0,.string y.1,.string ⟨#[]⟩] 47)).heap.size=wr.heap.size+2:=by simp
    have hzc:(((wr.alloc (.cells #[.string y.1,.bool false,.int .i64 o,.int .i64 nn,.string s0,.string t0,.pointer p,.slice A' m' c'] 143)).alloc (.cells #[.int .i64 47,.int .i64 0,.string y.1,.string ⟨#[]⟩] 47)).alloc (.cells #[.int .i64 47,.int .i64 0,.string y.1,.string ⟨#[]⟩] 47)).drew.heap.size=wr.heap.size+3:=by simp
    have B3:=O (Ba.trans ((Bb.trans ((Bc.trans (Bd.mono (by simp))).mono (by simp))).mono (by simp)));have Y3:=O ((((ft wr (.string y.1) (.bool false) (.int .i64 o) (.int .i64 nn) (.string s0) (.string t0) (.pointer p) (.slice A' m' c') 143).keep Bb).keep Bc).keep Bd);have HO:=O ((((hL.o.F.alloc (.cells #[.string y.1,.bool false,.int .i64 o,.int .i64 nn,.string s0,.string t0,.pointer p,.slice A' m' c'] 143)).alloc (.cells #[.int .i64 47,.int .i64 0,.string y.1,.string ⟨#[]⟩] 47)).alloc (.cells #[.int .i64 47,.int .i64 0,.string y.1,.string ⟨#[]⟩] 47)).keepN Bd);have rn:=ag ((wr.alloc (.cells #[.string y.1,.bool false,.int .i64 o,.int .i64 nn,.string s0,.string t0,.pointer p,.slice A' m' c'] 143)).alloc (.cells #[.int .i64 47,.int .i64 0,.string y.1,.string ⟨#[]⟩] 47)) (zD [⟨47,0,y.1,⟨#[]⟩⟩]) 47;rw [hzb] at rn;have RN:=O rn;have YL:=O hzc;clear rn Q9 hzb hzc Ba Bb Bc Bd;have YD:Q.length<=1000000:=by have:=MV.o;omega
    have HQl:=O YD;have XL:=O (show base<=wr.heap.size+3 by omega);have HYB:=O (show∀g,B g->some g≠u1.ownBlock from λg hg4 hn=>absurd (HOLr.o _ hn.symm).1 (Nat.not_le_of_lt (FO.o g hg4)));have Wu:=O (λ(g:Nat) (hg4:B g)=>show g<wr.heap.size from Nat.lt_of_lt_of_le (FO.o g hg4) hbr);have HLQ:=O (show(Q ++ [(⟨47,0,y.1,⟨#[]⟩⟩:Nd)]).length+y.2.2.flat.length<=100000 by have:=MV.o;simp;omega);have HBR:=O hbr;have Yz:=O (show some wr.heap.size≠u1.ownBlock from λe=>by have:=(HOLr.o _ e.symm).2;omega);clear YD;go_wp2_with fail;clear q0 q1 q2 q3 q4 q5 q6 q7;obtain⟨y0,y1,y2,y3,y4,y5,y6,y7,-,-,-,-,-,-,-,-⟩:=Y3.o;go_region_law (first
     |(refine mc rfl (.tmp 43) (.tmp 45) rfl base u1 Q rfl HO.o ⟨47,0,y.1,⟨#[]⟩⟩ ⟨wr.heap.size+2,0,none⟩ 1 rfl RN.o HQl.o (by rw [YL.o];exact XL.o) ?_;intro v5 w5 hrow hg hb;(have Rh:=O (zf (zc B3.o u1.ownBlock) hg));(have WE:=O (show v5.ownBlock=u1.ownBlock\/∃g,v5.ownBlock=some g/\wr.heap.size<=g from hb.imp_right λ⟨g,hb,h2⟩=>⟨g,hb,Nat.le_trans B3.o.size h2⟩));(have IH:=O (ih y.2.2 _ w5 B base v5 (Q ++ [⟨47,0,y.1,⟨#[]⟩⟩]) HYS.o HLQ.o (Um.o.cong λg hg4=>Rh.o.block g (Wu.o g hg4) (HYB.o g hg4)) hrow (Nat.le_trans HBR.o Rh.o.size) FO.o));clear y0 y1 y2 y3 y4 y5 y6 y7;(obtain⟨y0,y1,y2,y3,y4,y5,y6,y7,-,-,-,-,-,-,-,-⟩:=Y3.o.but hg Yz.o);clear hrow hg hb)
     |(go_simp;go_at_call 126;(refine IH.o.mono ?_);rintro e w6 ⟨v6,rfl,r6,g6,h6⟩))
    all_goals
     have L6:=O (show FLp w w6 base v v6 _ from⟨r6,iQ (iQ hL.o.G Rh.o hL.o.H) g6 (by
      rcases WE.o with h|⟨g,h,h2⟩
      ·rw [h];exact hL.o.H
      ·exact .inr ⟨g,h,Nat.le_trans HS.o h2⟩),by
      rcases h6 with h|⟨g,h,h2⟩
      ·rw [h]
       rcases WE.o with h|⟨g,h,h2⟩
       ·rw [h];exact hL.o.H
       ·exact .inr ⟨g,h,Nat.le_trans HS.o h2⟩
      ·exact .inr ⟨g,h,Nat.le_trans HS.o (Nat.le_trans Rh.o.size h2)⟩⟩)
     clear y0 y1 y2 y3 y4 y5 y6 y7 r6 g6 h6 IH;go_wp2_with fail;go_roundw
     case rel=>exact⟨k+1,_,by go_num,hlt,HQ2,L6⟩
     case measure=>simp [intOf];omega
   ·have Ba:=za wr (.cells #[.string y.1,.bool true,.int .i64 o,.int .i64 nn,.string s0,.string t0,.pointer p,.slice A' m' c'] 143);have Bb:=za (wr.alloc (.cells #[.string y.1,.bool true,.int .i64 o,.int .i64 nn,.string s0,.string t0,.pointer p,.slice A' m' c'] 143)) (.cells #[.int .i64 47,.int .i64 1,.string y.1,.string ⟨#[]⟩] 47);have Bc:=za ((wr.alloc (.cells #[.string y.1,.bool true,.int .i64 o,.int .i64 nn,.string s0,.string t0,.pointer p,.slice A' m' c'] 143)).alloc (.cells #[.int .i64 47,.int .i64 1,.string y.1,.string ⟨#[]⟩] 47)) (.cells #[.int .i64 47,.int .i64 1,.string y.1,.string ⟨#[]⟩] 47);have Bd:Below (((wr.alloc (.cells #[.string y.1,.bool true,.int .i64 o,.int .i64 nn,.string s0,.string t0,.pointer p,.slice A' m' c'] 143)).alloc (.cells #[.int .i64 47,.int .i64 1,.string y.1,.string ⟨#[]⟩] 47)).alloc (.cells #[.int .i64 47,.int .i64 1,.string y.1,.string ⟨#[]⟩] 47)).heap.size (((wr.alloc (.cells #[.string y.1,.bool true,.int .i64 o,.int .i64 nn,.string s0,.string t0,.pointer p,.slice A' m' c'] 143)).alloc (.cells #[.int .i64 47,.int .i64 1,.string y.1,.string ⟨#[]⟩] 47)).alloc (.cells #[.int .i64 47,.int .i64 1,.string y.1,.string ⟨#[]⟩] 47)) (((wr.alloc (.cells #[.string y.1,.bool true,.int .i64 o,.int .i64 nn,.string s0,.string t0,.pointer p,.slice A' m' c'] 143)).alloc (.cells #[.int .i64 47,.int .i64 1,.string y.1,.string ⟨#[]⟩] 47)).alloc (.cells #[.int .i64 47,.int .i64 1,.string y.1,.string ⟨#[]⟩] 47)).drew:=⟨rfl,rfl,rfl,Nat.le_refl _,λ_ _=>rfl⟩
    have Q9:(wr.alloc (.cells #[.string y.1,.bool true,.int .i64 o,.int .i64 nn,.string s0,.string t0,.pointer p,.slice A' m' c'] 143)).heap.size=wr.heap.size+1:=by simp
    have hzb:((wr.alloc (.cells #[.string y.1,.bool true,.int .i64 o,.int .i64 nn,.string s0,.string t0,.pointer p,.slice A' m' c'] 143)).alloc (.cells #[.int .i64 47,.int .i64 1,.string y.1,.string ⟨#[]⟩] 47)).heap.size=wr.heap.size+2:=by simp
    have hzc:(((wr.alloc (.cells #[.string y.1,.bool true,.int .i64 o,.int .i64 nn,.string s0,.string t0,.pointer p,.slice A' m' c'] 143)).alloc (.cells #[.int .i64 47,.int .i64 1,.string y.1,.string ⟨#[]⟩] 47)).alloc (.cells #[.int .i64 47,.int .i64 1,.string y.1,.string ⟨#[]⟩] 47)).drew.heap.size=wr.heap.size+3:=by simp
    have B3:=O (Ba.trans ((Bb.trans ((Bc.trans (Bd.mono (by simp))).mono (by simp))).mono (by simp)));have Y3:=O ((((ft wr (.string y.1) (.bool true) (.int .i64 o) (.int .i64 nn) (.string s0) (.string t0) (.pointer p) (.slice A' m' c') 143).keep Bb).keep Bc).keep Bd);have HO:=O ((((hL.o.F.alloc (.cells #[.string y.1,.bool true,.int .i64 o,.int .i64 nn,.string s0,.string t0,.pointer p,.slice A' m' c'] 143)).alloc (.cells #[.int .i64 47,.int .i64 1,.string y.1,.string ⟨#[]⟩] 47)).alloc (.cells #[.int .i64 47,.int .i64 1,.string y.1,.string ⟨#[]⟩] 47)).keepN Bd);have rn:=ag ((wr.alloc (.cells #[.string y.1,.bool true,.int .i64 o,.int .i64 nn,.string s0,.string t0,.pointer p,.slice A' m' c'] 143)).alloc (.cells #[.int .i64 47,.int .i64 1,.string y.1,.string ⟨#[]⟩] 47)) (zD [⟨47,1,y.1,⟨#[]⟩⟩]) 47;rw [hzb] at rn;have RN:=O rn;have YL:=O hzc;clear rn Q9 hzb hzc Ba Bb Bc Bd;have YD:Q.length<=1000000:=by have:=MV.o;omega
    have HQl:=O YD;have XL:=O (show base<=wr.heap.size+3 by omega);have HYB:=O (show∀g,B g->some g≠u1.ownBlock from λg hg4 hn=>absurd (HOLr.o _ hn.symm).1 (Nat.not_le_of_lt (FO.o g hg4)));have Wu:=O (λ(g:Nat) (hg4:B g)=>show g<wr.heap.size from Nat.lt_of_lt_of_le (FO.o g hg4) hbr);have HLQ:=O (show(Q ++ [(⟨47,1,y.1,⟨#[]⟩⟩:Nd)]).length+y.2.2.flat.length<=100000 by have:=MV.o;simp;omega);have HBR:=O hbr;have Yz:=O (show some wr.heap.size≠u1.ownBlock from λe=>by have:=(HOLr.o _ e.symm).2;omega);clear YD;go_wp2_with fail;clear q0 q1 q2 q3 q4 q5 q6 q7;obtain⟨y0,y1,y2,y3,y4,y5,y6,y7,-,-,-,-,-,-,-,-⟩:=Y3.o;go_region_law (first
     |(refine mc rfl (.tmp 43) (.tmp 45) rfl base u1 Q rfl HO.o ⟨47,1,y.1,⟨#[]⟩⟩ ⟨wr.heap.size+2,0,none⟩ 1 rfl RN.o HQl.o (by rw [YL.o];exact XL.o) ?_;intro v5 w5 hrow hg hb;(have Rh:=O (zf (zc B3.o u1.ownBlock) hg));(have WE:=O (show v5.ownBlock=u1.ownBlock\/∃g,v5.ownBlock=some g/\wr.heap.size<=g from hb.imp_right λ⟨g,hb,h2⟩=>⟨g,hb,Nat.le_trans B3.o.size h2⟩));(have IH:=O (ih y.2.2 _ w5 B base v5 (Q ++ [⟨47,1,y.1,⟨#[]⟩⟩]) HYS.o HLQ.o (Um.o.cong λg hg4=>Rh.o.block g (Wu.o g hg4) (HYB.o g hg4)) hrow (Nat.le_trans HBR.o Rh.o.size) FO.o));clear y0 y1 y2 y3 y4 y5 y6 y7;(obtain⟨y0,y1,y2,y3,y4,y5,y6,y7,-,-,-,-,-,-,-,-⟩:=Y3.o.but hg Yz.o);clear hrow hg hb)
     |(go_simp;go_at_call 126;(refine IH.o.mono ?_);rintro e w6 ⟨v6,rfl,r6,g6,h6⟩))
    all_goals
     have L6:=O (show FLp w w6 base v v6 _ from⟨r6,iQ (iQ hL.o.G Rh.o hL.o.H) g6 (by
      rcases WE.o with h|⟨g,h,h2⟩
      ·rw [h];exact hL.o.H
      ·exact .inr ⟨g,h,Nat.le_trans HS.o h2⟩),by
      rcases h6 with h|⟨g,h,h2⟩
      ·rw [h]
       rcases WE.o with h|⟨g,h,h2⟩
       ·rw [h];exact hL.o.H
       ·exact .inr ⟨g,h,Nat.le_trans HS.o h2⟩
      ·exact .inr ⟨g,h,Nat.le_trans HS.o (Nat.le_trans Rh.o.size h2)⟩⟩)
     clear y0 y1 y2 y3 y4 y5 y6 y7 r6 g6 h6 IH;go_wp2_with fail;go_roundw
     case rel=>exact⟨k+1,_,by go_num,hlt,HQ2,L6⟩
     case measure=>simp [intOf];omega
  ·have Xd:k=m:=by omega
   have HF:=O (show Q=PP by
    have:=hQ.o
    rw [Xd,HM.o,List.drop_length] at this
    simpa [ofL,Fl.flat] using this)
   go_wp2_with fail;go_ret;exact⟨_,rfl,by rw [<-HF.o];exact hL.o.F,hL.o.G,hL.o.H⟩
theorem yr:∀N,Qy N
 | 0=>λk u w B base v P h=>by cases k <;> simp [Kd.sz] at h
 | N+1=>λk u w B base v P hN hP hk hown hbase hB=>by
  have ih:=yr N
  cases k with
  | base x =>
   obtain⟨n,rfl⟩:=hk
   exact xQ x n ⟨#[]⟩ ⟨#[]⟩ w base v P (by omega) hown hbase
  | ent s =>
   obtain⟨n,rfl⟩:=hk
   exact xQ 44 n s ⟨#[]⟩ w base v P (by omega) hown hbase
  | set q =>
   obtain⟨n,b,u,rfl,h1,h2,h3⟩:=hk
   simp only [Kd.sz] at hN
   simp only [Kd.flat,List.length_cons] at hP
   exact OD N ih q n b u w B base v P (by omega) (by omega) h1 h2 h3 hown hbase hB
  | fs f =>
   obtain⟨n,A,c,rfl,h1,h2,h3⟩:=hk
   simp only [Kd.sz] at hN
   simp only [Kd.flat,List.length_cons] at hP
   exact Sb N ih f n A c w B base v P (by omega) (by omega) h1 h2 h3 hown hbase hB
theorem Ns.kinds_Check{A:Option Addr}{n c:Nat}{P:List Nd}{w:World}(h:Ns w A n c P):
 Calls Tryz.prog 75 #[.slice A n c] w λe w'=>e = .returned (je (zK P))/\Below w.heap.size w w':=by
 have C:=O (kJ A n c P w h);go_enter Tryz.func75,Tryz.ntmps75;go_wp2_with fail;refine C.o.mono ?_;rintro e w1 ⟨b1,o,n,s,t,p,A,m,c,rfl,-⟩;have B1:=O b1;go_wp2_with fail;go_ret;exact⟨rfl,B1.o.trans ((za w1 _).mono B1.o.size)⟩
def J4(w:World)(P Q:List Nd)(e:Ending)(w':World):Prop :=
 Below w.heap.size w w'/\∃(o n:Int) (s t:ByteArray) (p A:Option Addr) (m c:Nat) (o2 n2:Int) (s2 t2:ByteArray) (p2 A2:Option Addr) (m2 c2:Nat),
  e = .returned (.tuple #[.agg #[.int .i64 o,.int .i64 n,.string s,.string t,.pointer p,.slice A m c],.agg #[.int .i64 o2,.int .i64 n2,.string s2,.string t2,.pointer p2,.slice A2 m2 c2],je (nz P Q)])/\
  (nz P Q=0->∃a b,Kin P a/\Kin Q b/\KAt w' (λg=>w.heap.size<=g) a [.int .i64 o,.int .i64 n,.string s,.string t,.pointer p,.slice A m c]/\KAt w' (λg=>w.heap.size<=g) b [.int .i64 o2,.int .i64 n2,.string s2,.string t2,.pointer p2,.slice A2 m2 c2])
theorem F8{A1 A2:Option Addr}{n1 c1 n2 c2:Nat}{P Q:List Nd}{w:World}(h:Ns w A1 n1 c1 P)(k:Ns w A2 n2 c2 Q):
 Calls Tryz.prog 125 #[.slice A1 n1 c1,.slice A2 n2 c2] w (J4 w P Q):=by
 have b0:=(za w (.cells #[.int .i64 0,.int .i64 0,.string ⟨#[]⟩,.string ⟨#[]⟩,.pointer none,.slice none 0 0] 81)).trans ((za (w.alloc (.cells #[.int .i64 0,.int .i64 0,.string ⟨#[]⟩,.string ⟨#[]⟩,.pointer none,.slice none 0 0] 81)) (.cells #[.int .i64 0,.int .i64 0,.string ⟨#[]⟩,.string ⟨#[]⟩,.pointer none,.slice none 0 0] 81)).mono (by simp));have X1:=(jf w (.int .i64 0) (.int .i64 0) (.string ⟨#[]⟩) (.string ⟨#[]⟩) (.pointer none) (.slice none 0 0) 81).keep (za (w.alloc (.cells #[.int .i64 0,.int .i64 0,.string ⟨#[]⟩,.string ⟨#[]⟩,.pointer none,.slice none 0 0] 81)) (.cells #[.int .i64 0,.int .i64 0,.string ⟨#[]⟩,.string ⟨#[]⟩,.pointer none,.slice none 0 0] 81));have X2:=jf (w.alloc (.cells #[.int .i64 0,.int .i64 0,.string ⟨#[]⟩,.string ⟨#[]⟩,.pointer none,.slice none 0 0] 81)) (.int .i64 0) (.int .i64 0) (.string ⟨#[]⟩) (.string ⟨#[]⟩) (.pointer none) (.slice none 0 0) 81;have hz:(w.alloc (.cells #[.int .i64 0,.int .i64 0,.string ⟨#[]⟩,.string ⟨#[]⟩,.pointer none,.slice none 0 0] 81)).heap.size=w.heap.size+1:=by simp
 have hz2:((w.alloc (.cells #[.int .i64 0,.int .i64 0,.string ⟨#[]⟩,.string ⟨#[]⟩,.pointer none,.slice none 0 0] 81)).alloc (.cells #[.int .i64 0,.int .i64 0,.string ⟨#[]⟩,.string ⟨#[]⟩,.pointer none,.slice none 0 0] 81)).heap.size=w.heap.size+2:=by simp
 rw [hz] at X2;have C1:=O (kJ A1 n1 c1 P _ (h.keep b0));have C2:=O (λw' hb=>kJ A2 n2 c2 Q w' (k.keep (w':=w') hb));have B0:=O b0;have wd:=O X1;have oJ:=O X2;have WP:=O hz2;have HF:=O (show nz P Q=if zK P=0 then zK Q else zK P from rfl);have HL1:=O (λ(hh:zK P=0)=>(cm.1 hh).1);have Fy:=O (λ(hh:zK Q=0)=>(cm.1 hh).1);obtain⟨f,hf⟩:∃f,f=nz P Q:=⟨_,rfl⟩
 rw [<-hf] at HF;have RA:=O hf;clear hf h k b0 X1 X2 hz hz2;go_enter Tryz.func125,Tryz.ntmps125;go_wp2_with fail;obtain⟨w0,hw0⟩:∃w0,(w.alloc (.cells #[.int .i64 0,.int .i64 0,.string ⟨#[]⟩,.string ⟨#[]⟩,.pointer none,.slice none 0 0] 81)).alloc (.cells #[.int .i64 0,.int .i64 0,.string ⟨#[]⟩,.string ⟨#[]⟩,.pointer none,.slice none 0 0] 81)=w0:=⟨_,rfl⟩
 rw [hw0] at C1 B0 wd oJ WP ⊢;clear hw0;refine C1.o.mono ?_;rintro e w1 ⟨b1,o,n,s,t,p,A,m,c,rfl,k1⟩;have Bx:=za w1 (.cells #[.int .i64 o,.int .i64 n,.string s,.string t,.pointer p,.slice A m c] 81);have XX:=O (jf w1 (.int .i64 o) (.int .i64 n) (.string s) (.string t) (.pointer p) (.slice A m c) 81);have B1:=O b1;have K1:=O k1;have BX:=O (B0.o.trans ((b1.trans (Bx.mono b1.size)).mono B0.o.size));clear b1 k1 C1 Bx;go_wp2_with fail;refine(C2.o _ BX.o).mono ?_;rintro e w2 ⟨b2,o',n',s',t',p',A',m',c',rfl,k2⟩;have B2:=O b2;have K2:=O k2;have XX2:=O (XX.o.keep b2);have HSX:=O (show w1.heap.size<w2.heap.size by have:=b2.size;simp at this;omega);have sd:=O (show w.heap.size+2<=w1.heap.size by have:=B1.o.size;have:=WP.o;omega);clear b2 k2 C2 XX;generalize zK P=f1 at *;generalize zK Q=f2 at *;have By:=za w2 (.cells #[.int .i64 o',.int .i64 n',.string s',.string t',.pointer p',Value.slice A' m' c'] 81);have XX3:=O (XX2.o.keep By);have YY3:=O (jf w2 (.int .i64 o') (.int .i64 n') (.string s') (.string t') (.pointer p') (Value.slice A' m' c') 81);have hz3:(w2.alloc (.cells #[.int .i64 o',.int .i64 n',.string s',.string t',.pointer p',Value.slice A' m' c'] 81)).heap.size=w2.heap.size+1:=by simp
 have B0Y:=O (BX.o.trans ((B2.o.trans (By.mono B2.o.size)).mono BX.o.size));have Ub:=O (show Below w1.heap.size w1 (w2.alloc (.cells #[.int .i64 o',.int .i64 n',.string s',.string t',.pointer p',Value.slice A' m' c'] 81)) from((za w1 _).trans (B2.o.mono (by simp))).trans (By.mono (by have:=HSX.o;omega)));have BY:=O By;clear By BX XX2;go_wp2_with fail;obtain⟨w3,hw3⟩:∃w3,w2.alloc (.cells #[.int .i64 o',.int .i64 n',.string s',.string t',.pointer p',Value.slice A' m' c'] 81)=w3:=⟨_,rfl⟩
 rw [hw3] at XX3 YY3 hz3 B0Y Ub BY ⊢;clear hw3;have MF:=O hz3;clear hz3;have Yq:=O (λ(w':World) (hb:Below w3.heap.size w3 w')=>(show w'.cell? ⟨w1.heap.size,0,none⟩=some (.int .i64 o)/\w'.cell? ⟨w1.heap.size,1,none⟩=some (.int .i64 n)/\w'.cell? ⟨w1.heap.size,2,none⟩=some (.string s)/\w'.cell? ⟨w1.heap.size,3,none⟩=some (.string t)/\w'.cell? ⟨w1.heap.size,4,none⟩=some (.pointer p)/\w'.cell? ⟨w1.heap.size,5,none⟩=some (Value.slice A m c)/\w'.cell? ⟨w2.heap.size,0,none⟩=some (.int .i64 o')/\w'.cell? ⟨w2.heap.size,1,none⟩=some (.int .i64 n')/\w'.cell? ⟨w2.heap.size,2,none⟩=some (.string s')/\w'.cell? ⟨w2.heap.size,3,none⟩=some (.string t')/\w'.cell? ⟨w2.heap.size,4,none⟩=some (.pointer p')/\w'.cell? ⟨w2.heap.size,5,none⟩=some (Value.slice A' m' c') from by
  obtain⟨a0,a1,a2,a3,a4,a5,-,-,-,-,-,-⟩:=XX3.o.keep hb
  obtain⟨b0,b1,b2,b3,b4,b5,-,-,-,-,-,-⟩:=YY3.o.keep hb
  exact⟨a0,a1,a2,a3,a4,a5,b0,b1,b2,b3,b4,b5⟩))
 have hne1:w.heap.size≠w1.heap.size:=by have:=sd.o;omega
 have hne2:w.heap.size≠w2.heap.size:=by have:=sd.o;have:=HSX.o;omega
 have hne3:w.heap.size+1≠w1.heap.size:=by have:=sd.o;omega
 have hne4:w.heap.size+1≠w2.heap.size:=by have:=sd.o;have:=HSX.o;omega
 have bd:Below w3.heap.size w3 w3.drew:=⟨rfl,rfl,rfl,Nat.le_refl _,λ_ _=>rfl⟩
 have be:=bd.trans ((za w3.drew (.cells #[je f1,je f2] 34)).mono (show w3.heap.size<=w3.drew.heap.size from Nat.le_refl _));have rn:=ag w3.drew [je f1,je f2] 34;have R0:=O (rn 0 _ rfl);have R1:=O (rn 1 _ rfl);have BD:=O bd;have BE:=O be;have X13:=O ((wd.o.keep B1.o).keep Ub.o);have X23:=O ((oJ.o.keep B1.o).keep Ub.o);clear bd be rn wd oJ;obtain⟨a0,a1,a2,a3,a4,a5,b0,b1,b2,b3,b4,b5⟩:=Yq.o w3 (Below.refl _ _);have KF:=O (show∀(ad:Addr) (w':World),w'.cell? ad=some (je f1)->w'.cell? ⟨ad.block,ad.off+1,none⟩=some (je f2)->Calls Tryz.prog 28 #[.slice (some ad) 2 2] w' λe w''=>e = .returned (je f)/\Below w'.heap.size w' w'' from λad w' h0 h1=>by
  rw [HF.o];exact uF f1 f2 ad w' h0 h1)
 have W1:=(mP f1).imp And.right And.right;have W2:=(mP f2).imp And.right And.right;generalize je f1=v1 at *;generalize je f2=v2 at *;rcases W1 with rfl|rfl <;> rcases W2 with rfl|rfl
 all_goals go_region_held3 (λ(w':World)=>w'.cell? ⟨w1.heap.size,0,none⟩=some (.int .i64 o)/\w'.cell? ⟨w1.heap.size,1,none⟩=some (.int .i64 n)/\w'.cell? ⟨w1.heap.size,2,none⟩=some (.string s)/\w'.cell? ⟨w1.heap.size,3,none⟩=some (.string t)/\w'.cell? ⟨w1.heap.size,4,none⟩=some (.pointer p)/\w'.cell? ⟨w1.heap.size,5,none⟩=some (Value.slice A m c)/\w'.cell? ⟨w2.heap.size,0,none⟩=some (.int .i64 o')/\w'.cell? ⟨w2.heap.size,1,none⟩=some (.int .i64 n')/\w'.cell? ⟨w2.heap.size,2,none⟩=some (.string s')/\w'.cell? ⟨w2.heap.size,3,none⟩=some (.string t')/\w'.cell? ⟨w2.heap.size,4,none⟩=some (.pointer p')/\w'.cell? ⟨w2.heap.size,5,none⟩=some (Value.slice A' m' c')) (first|go_keep)
  (first
   |(go_at_call 28;(refine(KF.o _ _ R0.o R1.o).mono ?_);rintro e w5 ⟨rfl,b5'⟩;(have B5:=O (BE.o.trans (b5'.mono BE.o.size)));clear a0 a1 a2 a3 a4 a5 b0 b1 b2 b3 b4 b5 b5';(obtain⟨a0,a1,a2,a3,a4,a5,b0,b1,b2,b3,b4,b5⟩:=Yq.o w5 B5.o);(obtain⟨i0,i1,i2,i3,i4,i5,y0,y1,y2,y3,y4,y5⟩:=X13.o.keep B5.o);(obtain⟨h0,h1,h2,h3,h4,h5,z0,z1,z2,z3,z4,z5⟩:=X23.o.keep B5.o)))
 all_goals
  clear a0 a1 a2 a3 a4 a5 b0 b1 b2 b3 b4 b5 hne1 hne2 hne3 hne4 i0 i1 i2 i3 i4 i5 y0 y1 y2 y3 y4 y5 h0 h1 h2 h3 h4 h5 z0 z1 z2 z3 z4 z5;have gs:=jI w5 w.heap.size (.int .i64 o) (.int .i64 n) (.string s) (.string t) (.pointer p) (.slice A m c);have gt:=jI ((((((w5.setCell ⟨w.heap.size,0,none⟩ (.int .i64 o)).setCell ⟨w.heap.size,1,none⟩ (.int .i64 n)).setCell ⟨w.heap.size,2,none⟩ (.string s)).setCell ⟨w.heap.size,3,none⟩ (.string t)).setCell ⟨w.heap.size,4,none⟩ (.pointer p)).setCell ⟨w.heap.size,5,none⟩ (.slice A m c)) (w.heap.size+1) (.int .i64 o') (.int .i64 n') (.string s') (.string t') (.pointer p') (.slice A' m' c');have J1:=O (((X13.o.keep B5.o).set (.int .i64 o) (.int .i64 n) (.string s) (.string t) (.pointer p) (.slice A m c)).but gt (λe=>by injection e with e;omega));have J2:=O (((X23.o.keep B5.o).but gs (λe=>by injection e with e;omega)).set (.int .i64 o') (.int .i64 n') (.string s') (.string t') (.pointer p') (.slice A' m' c'));have HBL:=O (jY (jY (B0Y.o.trans (B5.o.mono B0Y.o.size)) (Nat.le_refl _) (.int .i64 o) (.int .i64 n) (.string s) (.string t) (.pointer p) (.slice A m c)) (Nat.le_succ _) (.int .i64 o') (.int .i64 n') (.string s') (.string t') (.pointer p') (.slice A' m' c'));have Wu:=O (show∀q,w.heap.size+2<=q->q<w3.heap.size->((((((((((((w5.setCell ⟨w.heap.size,0,none⟩ (.int .i64 o)).setCell ⟨w.heap.size,1,none⟩ (.int .i64 n)).setCell ⟨w.heap.size,2,none⟩ (.string s)).setCell ⟨w.heap.size,3,none⟩ (.string t)).setCell ⟨w.heap.size,4,none⟩ (.pointer p)).setCell ⟨w.heap.size,5,none⟩ (.slice A m c)).setCell ⟨w.heap.size+1,0,none⟩ (.int .i64 o')).setCell ⟨w.heap.size+1,1,none⟩ (.int .i64 n')).setCell ⟨w.heap.size+1,2,none⟩ (.string s')).setCell ⟨w.heap.size+1,3,none⟩ (.string t')).setCell ⟨w.heap.size+1,4,none⟩ (.pointer p')).setCell ⟨w.heap.size+1,5,none⟩ (.slice A' m' c')).heap[q]?=w3.heap[q]? from λq h1 h2 =>
   (ae ((((((w5.setCell ⟨w.heap.size,0,none⟩ (.int .i64 o)).setCell ⟨w.heap.size,1,none⟩ (.int .i64 n)).setCell ⟨w.heap.size,2,none⟩ (.string s)).setCell ⟨w.heap.size,3,none⟩ (.string t)).setCell ⟨w.heap.size,4,none⟩ (.pointer p)).setCell ⟨w.heap.size,5,none⟩ (.slice A m c)) (w.heap.size+1) (.int .i64 o') (.int .i64 n') (.string s') (.string t') (.pointer p') (.slice A' m' c') (by omega)).trans ((ae w5 w.heap.size (.int .i64 o) (.int .i64 n) (.string s) (.string t) (.pointer p) (.slice A m c) (by omega)).trans (B5.o.block q h2)))
  go_wp2_with fail;obtain⟨W,hW⟩:∃W,((((((((((((w5.setCell ⟨w.heap.size,0,none⟩ (.int .i64 o)).setCell ⟨w.heap.size,1,none⟩ (.int .i64 n)).setCell ⟨w.heap.size,2,none⟩ (.string s)).setCell ⟨w.heap.size,3,none⟩ (.string t)).setCell ⟨w.heap.size,4,none⟩ (.pointer p)).setCell ⟨w.heap.size,5,none⟩ (.slice A m c)).setCell ⟨w.heap.size+1,0,none⟩ (.int .i64 o')).setCell ⟨w.heap.size+1,1,none⟩ (.int .i64 n')).setCell ⟨w.heap.size+1,2,none⟩ (.string s')).setCell ⟨w.heap.size+1,3,none⟩ (.string t')).setCell ⟨w.heap.size+1,4,none⟩ (.pointer p')).setCell ⟨w.heap.size+1,5,none⟩ (.slice A' m' c'))=W:=⟨_,rfl⟩
  rw [hW] at J1 J2 HBL Wu ⊢;clear hW gs gt;obtain⟨j0,j1,j2,j3,j4,j5,-,-,-,-,-,-⟩:=J1.o;obtain⟨i0,i1,i2,i3,i4,i5,-,-,-,-,-,-⟩:=J2.o;refine bodyPost_ret (v := .tuple #[.agg #[.int .i64 o,.int .i64 n,.string s,.string t,.pointer p,.slice A m c],.agg #[.int .i64 o',.int .i64 n',.string s',.string t',.pointer p',.slice A' m' c'],je f]) (by simp [results,Tryz.results125,go_sem,j0,j1,j2,j3,j4,j5,i0,i1,i2,i3,i4,i5]) rfl ?_;refine⟨HBL.o,o,n,s,t,p,A,m,c,o',n',s',t',p',A',m',c',by rw [<-RA.o],λhz=>?_⟩;rw [<-RA.o,HF.o] at hz;have z1:f1=0:=by
   rcases Decidable.em (f1=0) with h|h
   ·exact h
   ·rw [if_neg h] at hz;exact hz
  rw [if_pos z1] at hz;obtain⟨a,va,ea,ka⟩:=K1.o z1;obtain⟨b,vb,eb,kb⟩:=K2.o hz;refine⟨a,b,⟨va,ea,HL1.o z1⟩,⟨vb,eb,Fy.o hz⟩,?_,?_⟩
  ·have h1:=ka.mono (B':=λg=>w0.heap.size<=g/\g<w1.heap.size) λg h1 h2=>⟨h1,h2⟩
   have h2:=(h1.cong (w':=w3) λg hg=>Ub.o.block g hg.2)
   exact(h2.cong (w':=W) λg hg=>Wu.o g (by have:=hg.1;have:=WP.o;omega) (Nat.lt_of_lt_of_le hg.2 Ub.o.size)).mono λg hg _=>by have:=hg.1;have:=WP.o;omega
  ·have h1:=kb.mono (B':=λg=>w1.heap.size<=g/\g<w2.heap.size) λg h1 h2=>⟨by simp at h1;omega,h2⟩
   have h2:=(h1.cong (w':=w3) λg hg=>BY.o.block g hg.2)
   exact(h2.cong (w':=W) λg hg=>Wu.o g (by have:=hg.1;have:=sd.o;omega) (Nat.lt_of_lt_of_le hg.2 BY.o.size)).mono λg hg _=>by have:=hg.1;have:=sd.o;omega
theorem Bm:∀n:Nat,(∀k:Kd,k.sz<=n->k.sz<=k.flat.length/\k.flat.length<=2*k.sz)/\(∀f:Fl,f.sz<=n->f.sz<=f.flat.length/\f.flat.length<=2*f.sz)
 | 0=>by
  refine⟨λk h=>by cases k <;> simp [Kd.sz] at h,λf h=>?_⟩
  cases f with
  | nil=>simp [Fl.sz,Fl.flat]
  | cons s m k r=>simp [Fl.sz] at h
 | n+1=>by
  obtain⟨i1,i2⟩:=Bm n;refine⟨λk h=>?_,λf h=>?_⟩
  ·cases k with
   | base x=>simp [Kd.sz,Kd.flat]
   | ent s=>simp [Kd.sz,Kd.flat]
   | set q =>
    simp only [Kd.sz] at h
    have:=i1 q (by omega)
    simp only [Kd.sz,Kd.flat,List.length_cons];omega
   | fs f =>
    simp only [Kd.sz] at h
    have:=i2 f (by omega)
    simp only [Kd.sz,Kd.flat,List.length_cons];omega
  ·cases f with
   | nil=>simp [Fl.sz,Fl.flat]
   | cons s m k r =>
    simp only [Fl.sz] at h
    have h1:=i1 k (by omega)
    have h2:=i2 r (by omega)
    simp only [Fl.sz,Fl.flat,List.length_cons,List.length_append];omega
theorem _root_.Go.Wk.Kin.sz{P:List Nd}{k:Kd}(h:Kin P k):k.sz<=200:=by
 have h1:=((Bm _).1 k (Nat.le_refl _)).1;have h2:=h.l;rw [h.e] at h2;omega
theorem Jo:∀n:Nat,(∀k:Kd,k.sz<=n->k.valid->k.sz<=1000000->bi k.flat)/\(∀f:Fl,f.sz<=n->f.av->f.sz<=1000000->bi f.flat)
 | 0=>by
  refine⟨λk h=>by cases k <;> simp [Kd.sz] at h,λf h _ _=>?_⟩
  cases f with
  | nil=>exact λx hx=>nomatch hx
  | cons s m k r=>simp [Fl.sz] at h
 | n+1=>by
  obtain⟨i1,i2⟩:=Jo n;have hname:∀s:ByteArray,zk s=0->s.size<=maxLen:=λs h=>by
   unfold zk at h;split at h
   ·split at h
    ·cases h
    ·unfold maxLen;omega
   ·cases h
  refine⟨λk h hv hs=>?_,λf h hv hs=>?_⟩
  ·cases k with
   | base x =>
    intro y hy
    simp only [Kd.flat,List.mem_cons,List.not_mem_nil,or_false] at hy
    subst hy
    exact⟨Nat.zero_le _,Nat.zero_le _,show(-9223372036854775808:Int)<=0 by decide,show(0:Int)<=9223372036854775807 by decide⟩
   | ent s =>
    intro y hy
    simp only [Kd.flat,List.mem_cons,List.not_mem_nil,or_false] at hy
    subst hy
    exact⟨hname s hv,Nat.zero_le _,show(-9223372036854775808:Int)<=0 by decide,show(0:Int)<=9223372036854775807 by decide⟩
   | set q =>
    simp only [Kd.sz] at h hs
    intro y hy
    rcases List.mem_cons.1 (show y∈_ :: q.flat from hy) with rfl|hy
    ·exact⟨Nat.zero_le _,Nat.zero_le _,show(-9223372036854775808:Int)<=0 by decide,show(0:Int)<=9223372036854775807 by decide⟩
    ·exact i1 q (by omega) hv (by omega) y hy
   | fs f =>
    simp only [Kd.sz] at h hs
    have hl:f.len<=f.sz:=tm f
    intro y hy
    rcases List.mem_cons.1 (show y∈_ :: f.flat from hy) with rfl|hy
    ·exact⟨Nat.zero_le _,Nat.zero_le _,show(-9223372036854775808:Int)<=(f.len:Int) by omega,show(f.len:Int)<=9223372036854775807 by omega⟩
    ·exact i2 f (by omega) (bw.1 hv).2 (by omega) y hy
  ·cases f with
   | nil=>exact λx hx=>nomatch hx
   | cons s m k r =>
    simp only [Fl.sz] at h hs
    obtain⟨v1,v2,v3⟩:=hv
    intro y hy
    rcases List.mem_cons.1 (show y∈_ ::(k.flat ++ r.flat) from hy) with rfl|hy
    ·refine⟨hname s v1,Nat.zero_le _,?_,?_⟩<;>(simp only;split <;> decide)
    ·rcases List.mem_append.1 hy with hy|hy
     ·exact i1 k (by omega) v2 (by omega) y hy
     ·exact i2 r (by omega) v3 (by omega) y hy
theorem _root_.Go.Wk.Kd.valid.nds{k:Kd}(h:k.valid)(hs:k.sz<=1000000):bi k.flat:=(Jo _).1 k (Nat.le_refl _) h hs
theorem kq.ns{w:World}{base:Nat}{v:Value}{P:List Nd}(h:kq w base v P)(de:bi P)(hl:P.length<=1000000):∃(A:Option Addr) (n c:Nat),v = .slice A n c/\n=P.length/\Ns w A n c P:=by
 obtain⟨A,c,rfl,h1,h2,-⟩:=aM h.own;exact⟨A,_,c,rfl,rfl,⟨rfl,h1,by unfold maxLen;omega,h2,de⟩⟩
theorem On(w:World)(base:Nat):kq w base (.slice none 0 0) []:=⟨World.ownsRow_nil _ _ _ _⟩
theorem Js(w:World):Ns w none 0 0 []:=⟨rfl,Nat.le_refl _,Nat.zero_le _,λk x hx=>by simp at hx,λx hx=>nomatch hx⟩
def Kq(w:World)(P Q:List Nd)(e:Ending)(w':World):Prop :=
 ∃(A:Option Addr) (n c:Nat),e = .returned (.tuple #[.slice A n c,je (joinE P Q)])/\Ns w' A n c (nb P Q)/\Below w.heap.size w w'/\∀a,A=some a->w.heap.size<=a.block
theorem Ns.kinds_JoinN{A1 A2:Option Addr}{n1 c1 n2 c2:Nat}{P Q:List Nd}{w:World}(h:Ns w A1 n1 c1 P)(k:Ns w A2 n2 c2 Q):
 Calls Tryz.prog 85 #[.slice A1 n1 c1,.slice A2 n2 c2] w (Kq w P Q):=by
 have C:=O (F8 h k);clear h k;by_cases h0:nz P Q=0
 ·go_enter Tryz.func85,Tryz.ntmps85;go_wp2_with fail;refine C.o.mono ?_;rintro e w1 ⟨b1,o,n,s,t,p,A,m,c,o',n',s',t',p',A',m',c',rfl,hk⟩;obtain⟨a,b,ha,hb,ka,kb⟩:=hk h0;have B1:=O b1;have HJE:=O (ha.joinE hb);have HJV:=O (show nb P Q=if joinE P Q=0 then(zI a b).flat else [] by unfold nb;rw [ha.join hb]);have yB:(zI a b).valid:=cA _ a b (Nat.le_refl _) ha.v hb.v;have hjs:(zI a b).sz<=400:=by have:=Co ha.v.ok hb.v.ok;have:=ha.sz;have:=hb.sz;omega
  have Ca:=O (yB.nds (by omega));have Yk:=O (((Bm _).1 (zI a b) (Nat.le_refl _)).2);have ZV:=O hjs;have K:=O (λw' (hw:Below w1.heap.size w1 w')=>mC _ a b _ _ w' (λg=>w.heap.size<=g/\g<w1.heap.size) (Nat.le_refl _) (by have:=ha.sz;omega) (by have:=hb.sz;omega) ((ka.mono λg h1 h2=>⟨h1,h2⟩).cong λg hg=>hw.block g hg.2) ((kb.mono λg h1 h2=>⟨h1,h2⟩).cong λg hg=>hw.block g hg.2) ha.v hb.v (λg hg=>Nat.lt_of_lt_of_le hg.2 hw.size));rw [h0,zj];clear b1 hk ha hb ka kb C h0 yB hjs;have YI:=O ((za w1 (.cells #[.int .i64 o,.int .i64 n,.string s,.string t,.pointer p,.slice A m c] 81)).trans ((za (w1.alloc (.cells #[.int .i64 o,.int .i64 n,.string s,.string t,.pointer p,.slice A m c] 81)) (.cells #[.int .i64 o',.int .i64 n',.string s',.string t',.pointer p',.slice A' m' c'] 81)).mono (by simp)));go_wp2_with fail;refine(K.o _ YI.o).mono ?_;rintro e w2 ⟨u,rfl,ku,b2⟩;have B2:=O (B1.o.trans ((YI.o.trans (b2.mono YI.o.size)).mono B1.o.size));have KF:=O (yr _ (zI a b) u w2 (λg=>g<w2.heap.size) w2.heap.size (.slice none 0 0) [] (Nat.le_refl _) (by have:=Yk.o;have:=ZV.o;simp;omega) (ku.mono λg _ hg=>hg) (On _ _) (Nat.le_refl _) (λg hg=>hg));obtain⟨o3,n3,s3,t3,p3,A3,m3,c3,rfl⟩:=aG ku;clear b2 K ku;go_wp2_with fail;refine KF.o.mono ?_;rintro e w3 ⟨v3,rfl,r3,g3,-⟩;rw [List.nil_append] at r3;have B3:=O (show Below w.heap.size w w3 from B2.o.trans ((show Below w2.heap.size w2 w3 from⟨g3.os,g3.tape,g3.output,g3.size,λk hk=>g3.block k hk (λe=>nomatch (show some k=none from e))⟩).mono B2.o.size));obtain⟨A4,n4,c4,rfl,Ru,N4⟩:=r3.ns Ca.o (by have:=Yk.o;have:=ZV.o;omega);have ZX:=O (show∀a,A4=some a->w.heap.size<=a.block from λa e=>by subst e;exact Nat.le_trans B2.o.size (jk r3.own _ rfl));have NS:=O N4;have Fx:=O Ru;have hl4:n4<=800:=by have:=Yk.o;have:=ZV.o;omega
  clear r3 g3 N4 KF Ru;by_cases hb:200<n4
  ·have HE:=O (show joinE P Q=4 by rw [HJE.o,if_pos (by rw [<-Fx.o];exact hb)]);have HV:=O (show nb P Q = [] by rw [HJV.o,HE.o];rfl);go_wp2_with fail;go_ret2;exact⟨none,0,0,by rw [HE.o];rfl,by rw [HV.o];exact Js _,B3.o,λa e=>nomatch e⟩
  ·have HE:=O (show joinE P Q=0 by rw [HJE.o,if_neg (by rw [<-Fx.o];exact hb)]);have HV:=O (show nb P Q=(zI a b).flat by rw [HJV.o,HE.o];rfl);go_wp2_with fail;go_ret2;exact⟨A4,n4,c4,by rw [HE.o];rfl,by rw [HV.o];exact NS.o,B3.o,ZX.o⟩
 ·have HE:=O (show joinE P Q=nz P Q by unfold joinE;rw [if_neg h0]);have HV:=O (show nb P Q = [] by unfold nb;rw [HE.o,if_neg h0]);go_enter Tryz.func85,Tryz.ntmps85;go_wp2_with fail;refine C.o.mono ?_;rintro e w1 ⟨b1,o,n,s,t,p,A,m,c,o',n',s',t',p',A',m',c',rfl,-⟩;rw [zm h0];have B1:=O b1;clear b1 C;have YI:=O ((za w1 (.cells #[.int .i64 o,.int .i64 n,.string s,.string t,.pointer p,.slice A m c] 81)).trans ((za (w1.alloc (.cells #[.int .i64 o,.int .i64 n,.string s,.string t,.pointer p,.slice A m c] 81)) (.cells #[.int .i64 o',.int .i64 n',.string s',.string t',.pointer p',.slice A' m' c'] 81)).mono (by simp)));go_wp2_with fail;go_ret2;exact⟨none,0,0,by rw [HE.o,zm h0];rfl,by rw [HV.o];exact Js _,B1.o.trans (YI.o.mono B1.o.size),λa e=>nomatch e⟩
end Go.Proofs.YthifljpkgfpkiaaGreatDoor
