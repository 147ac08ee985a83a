/-
  tree: parts, Reserved, variable, shaped; the reference's Reserved, Parts, Fields: one node of an expression. tree.Skip: the place behind a part of an ..
-/
import Derived.Test.YtlkfaliomdbaoaaGreatDoorQ1
import Derived.Test.YtlkfaliomdbaoaaGreatDoorQ5
import Derived.Test.YtlkfaliomdbaoaaGreatDoorQ19
import Derived.Test.YtlkfaliomdbaoaaGreatDoorQ20
set_option maxRecDepth 100000
set_option maxHeartbeats 8000000
namespace Go.Proofs.YtlkfaliomdbaoaaGreatDoor
open Go.RowKit Go.Wk Go.Sort
theorem zoR(o:Int):(o=1∨o=2∨o=3∨o=4∨o=5∨o=6∨o=7∨o=8∨o=9∨o=10∨o=11∨o=12∨o=13∨o=14∨o=15∨o=16∨o=17∨o=18∨o=19∨o=20∨o=21∨o=22∨o=23∨o=24∨o=25∨o=26∨o=27)∨o≤0∨28≤o:=by omega
theorem zos{o:Int}(h:o≤0∨28≤o):(o==1)=false∧(o==2)=false∧(o==3)=false∧(o==4)=false∧(o==5)=false∧(o==6)=false∧(o==7)=false∧(o==8)=false∧(o==9)=false∧(o==10)=false∧(o==11)=false∧(o==12)=false∧(o==13)=false∧(o==14)=false∧(o==15)=false∧(o==16)=false∧(o==17)=false∧(o==18)=false∧(o==19)=false∧(o==20)=false∧(o==21)=false∧(o==22)=false∧(o==23)=false∧(o==24)=false∧(o==25)=false∧(o==26)=false∧(o==27)=false:=by
 refine⟨?_,?_,?_,?_,?_,?_,?_,?_,?_,?_,?_,?_,?_,?_,?_,?_,?_,?_,?_,?_,?_,?_,?_,?_,?_,?_,?_⟩<;>(rw [beq_eq_false_iff_ne];omega)
theorem zdF{o:Int}(h:o≤0∨28≤o)(n:Int)(s t:ByteArray):zL ⟨o,n,s,t⟩= -1:=by
 unfold zL;dsimp only;rw [if_neg (by omega),if_neg (by omega),if_neg (by omega),if_neg (by omega),if_neg (by omega)]
theorem zci(x:Nd)(w:World):Calls Tryz.prog 85 #[ndV x] w fun e w'=>e = .returned (.int .i64 (zL x))∧Below w.heap.size w w':=by
 obtain⟨o,n,s,t⟩:=x;unfold ndV;dsimp only;rcases zoR o with (rfl|rfl|rfl|rfl|rfl|rfl|rfl|rfl|rfl|rfl|rfl|rfl|rfl|rfl|rfl|rfl|rfl|rfl|rfl|rfl|rfl|rfl|rfl|rfl|rfl|rfl|rfl)|h
 all_goals try
  go_enter Tryz.func85,Tryz.ntmps85
  go_wp2_with fail
  go_ret
  exact⟨by rfl,za _ _⟩
 have hp:=hi9 (zdF h n s t);obtain⟨g1,g2,g3,g4,g5,g6,g7,g8,g9,g10,g11,g12,g13,g14,g15,g16,g17,g18,g19,g20,g21,g22,g23,g24,g25,g26,g27⟩:=zos h;rcases h with h|h
 all_goals
  go_enter Tryz.func85,Tryz.ntmps85;go_wp2_with fail;go_ret;exact⟨by rw [hp.out];rfl,za _ _⟩
theorem zhl(s:ByteArray)(w:World):Calls Tryz.prog 136 #[.string s] w fun e w'=>e = .returned (.bool (zR s))∧w=w':=by
 by_cases h0:s.toList = [105,102]
 ·have HR:=hi9 (show zR s=true by rw [ByteArray.toList_eq] at h0;unfold zR;rw [h0];rfl);have f0:(s.toList == [105,102])=true:=beq_iff_eq.2 h0;clear h0;go_enter Tryz.func136,Tryz.ntmps136;go_wp2_with fail;go_ret;exact⟨by rw [HR.out];rfl,rfl⟩
 have f0:(s.toList == [105,102])=false:=beq_eq_false_iff_ne.2 h0;by_cases h1:s.toList = [116,104,101,110]
 ·have HR:=hi9 (show zR s=true by rw [ByteArray.toList_eq] at h1;unfold zR;rw [h1];rfl);have f1:(s.toList == [116,104,101,110])=true:=beq_iff_eq.2 h1;clear h1 h0;go_enter Tryz.func136,Tryz.ntmps136;go_wp2_with fail;go_ret;exact⟨by rw [HR.out];rfl,rfl⟩
 have f1:(s.toList == [116,104,101,110])=false:=beq_eq_false_iff_ne.2 h1;by_cases h2:s.toList = [101,108,115,101]
 ·have HR:=hi9 (show zR s=true by rw [ByteArray.toList_eq] at h2;unfold zR;rw [h2];rfl);have f2:(s.toList == [101,108,115,101])=true:=beq_iff_eq.2 h2;clear h2 h0 h1;go_enter Tryz.func136,Tryz.ntmps136;go_wp2_with fail;go_ret;exact⟨by rw [HR.out];rfl,rfl⟩
 have f2:(s.toList == [101,108,115,101])=false:=beq_eq_false_iff_ne.2 h2;by_cases h3:s.toList = [116,114,117,101]
 ·have HR:=hi9 (show zR s=true by rw [ByteArray.toList_eq] at h3;unfold zR;rw [h3];rfl);have f3:(s.toList == [116,114,117,101])=true:=beq_iff_eq.2 h3;clear h3 h0 h1 h2;go_enter Tryz.func136,Tryz.ntmps136;go_wp2_with fail;go_ret;exact⟨by rw [HR.out];rfl,rfl⟩
 have f3:(s.toList == [116,114,117,101])=false:=beq_eq_false_iff_ne.2 h3;by_cases h4:s.toList = [102,97,108,115,101]
 ·have HR:=hi9 (show zR s=true by rw [ByteArray.toList_eq] at h4;unfold zR;rw [h4];rfl);have f4:(s.toList == [102,97,108,115,101])=true:=beq_iff_eq.2 h4;clear h4 h0 h1 h2 h3;go_enter Tryz.func136,Tryz.ntmps136;go_wp2_with fail;go_ret;exact⟨by rw [HR.out];rfl,rfl⟩
 have f4:(s.toList == [102,97,108,115,101])=false:=beq_eq_false_iff_ne.2 h4;by_cases h5:s.toList = [105,110]
 ·have HR:=hi9 (show zR s=true by rw [ByteArray.toList_eq] at h5;unfold zR;rw [h5];rfl);have f5:(s.toList == [105,110])=true:=beq_iff_eq.2 h5;clear h5 h0 h1 h2 h3 h4;go_enter Tryz.func136,Tryz.ntmps136;go_wp2_with fail;go_ret;exact⟨by rw [HR.out];rfl,rfl⟩
 have f5:(s.toList == [105,110])=false:=beq_eq_false_iff_ne.2 h5;by_cases h6:s.toList = [104,97,115]
 ·have HR:=hi9 (show zR s=true by rw [ByteArray.toList_eq] at h6;unfold zR;rw [h6];rfl);have f6:(s.toList == [104,97,115])=true:=beq_iff_eq.2 h6;clear h6 h0 h1 h2 h3 h4 h5;go_enter Tryz.func136,Tryz.ntmps136;go_wp2_with fail;go_ret;exact⟨by rw [HR.out];rfl,rfl⟩
 have f6:(s.toList == [104,97,115])=false:=beq_eq_false_iff_ne.2 h6;by_cases h7:s.toList = [108,105,107,101]
 ·have HR:=hi9 (show zR s=true by rw [ByteArray.toList_eq] at h7;unfold zR;rw [h7];rfl);have f7:(s.toList == [108,105,107,101])=true:=beq_iff_eq.2 h7;clear h7 h0 h1 h2 h3 h4 h5 h6;go_enter Tryz.func136,Tryz.ntmps136;go_wp2_with fail;go_ret;exact⟨by rw [HR.out];rfl,rfl⟩
 have f7:(s.toList == [108,105,107,101])=false:=beq_eq_false_iff_ne.2 h7;by_cases h8:s.toList = [105,115]
 ·have HR:=hi9 (show zR s=true by rw [ByteArray.toList_eq] at h8;unfold zR;rw [h8];rfl);have f8:(s.toList == [105,115])=true:=beq_iff_eq.2 h8;clear h8 h0 h1 h2 h3 h4 h5 h6 h7;go_enter Tryz.func136,Tryz.ntmps136;go_wp2_with fail;go_ret;exact⟨by rw [HR.out];rfl,rfl⟩
 have f8:(s.toList == [105,115])=false:=beq_eq_false_iff_ne.2 h8;have HR:=hi9 (show zR s=false by
  rw [ByteArray.toList_eq] at h0 h1 h2 h3 h4 h5 h6 h7 h8
  unfold zR zp2
  simp only [List.contains_cons,List.contains_nil,Bool.or_false,Bool.or_eq_false_iff,beq_eq_false_iff_ne]
  exact⟨h0,h1,h2,h3,h4,h5,h6,h7,h8⟩)
 clear h0 h1 h2 h3 h4 h5 h6 h7 h8;go_enter Tryz.func136,Tryz.ntmps136;go_wp2_with fail;go_ret;exact⟨by rw [HR.out];rfl,rfl⟩
theorem zmx(A:Option Addr)(n c:Nat)(P:List Nd)(p:Nat)(f:Bool)(x:Ex)(w:World)(h:Ns w A n c P)(hx:XAt P p f x):
 Calls Tryz.prog 86 #[.slice A n c,.int .i64 p] w fun e w'=>e = .returned (.int .i64 ((p+x.flat.length:Nat):Int))∧Below w.heap.size w w':=by
 have hm:=h.max;unfold maxLen at hm;have HNS:=hi9 h;have HLN:=hi9 h.len;have HLE:=hi9 hx.le;have HO:=hi9 (show zfi P p (.cons x .nil) from(by obtain⟨r,e⟩:=hx.drop;exact zfi.start hx.valid e));have CP:=hi9 (fun y w=>zci y w);unfold ndV at CP;have HT:=hi9 (show p+(Exs.cons x .nil).flat.length=p+x.flat.length by simp [Exs.flat]);have hple:p+x.flat.length≤n:=by rw [HLN.out];exact HLE.out
 generalize p+x.flat.length=T at *;clear h hx;go_enter Tryz.func86,Tryz.ntmps86;go_wp2_with fail;go_loopw [1,5] (fun u l wr=>∃(q m:Nat) (L:Exs),u = .int .i64 q∧l = .int .i64 m∧Hid (m=L.len)∧Hid (zfi P q L)∧Hid (q+L.flat.length=T)∧Hid (Below w.heap.size w wr)) (fun u _ _=>n+1-(intOf u).toNat)
 case atStart=>exact⟨p,1,.cons x .nil,rfl,rfl,hi9 rfl,HO,HT,hi9 (Below.refl _ _)⟩
 case round =>
  obtain⟨q,m,L,rfl,rfl,hM,hO,hT,hB⟩:=hrel;by_cases hl:0<m
  ·obtain⟨y,ps,r,rfl⟩:=hO.out.left (by rw [←hM.out];exact hl);obtain⟨hy,hO2,hlen,htot⟩:=hO.out.step;have hql:q<P.length:=(List.getElem?_eq_some_iff.1 hy).1;have hqn:q<n:=by rw [HLN.out];exact hql
   obtain⟨a,rfl,d0,d1,d2,d3⟩:=(HNS.out.keep hB.out).at_ q y hy;have HO2:=hi9 hO2;have HT2:=hi9 (htot.trans hT.out);have hbl:=zbi (ps.app r);have hm1:(Exs.cons (.node y ps) r).len=r.len+1:=rfl;have hmm:=hM.out;have hsum:(m:Int)+zL y=((ps.app r).len:Int)+1:=by omega
   have hfl:(ps.app r).len+1≤n:=by have:=HT2.out;omega
   have CY:=hi9 (fun w=>CP.out y w);have f0:decide (0<m)=true:=decide_eq_true hl;obtain⟨m2,hm2⟩:∃m2,m2=(ps.app r).len:=⟨_,rfl⟩
   have HM2:=hi9 hm2;rw [←hm2] at hsum hfl;generalize (ps.app r)=L2 at *;generalize zL y=k at *;clear hO hT hy hO2 htot hlen hl hbl hm1 hmm hm2;go_wp2_with fail;refine(CY.out _).mono ?_;rintro e w1 ⟨rfl,b1⟩;have B1:=bh hB b1;clear b1 hB d0 d1 d2 d3;go_wp2_with fail;go_roundw
   case rel=>exact⟨q+1,m2,L2,by go_num,by go_num,HM2,HO2,HT2,B1⟩
   case measure=>simp [intOf];omega
  ·have hL:L = .nil:=by
    have:=hM.out
    cases L with
    | nil=>rfl
    | cons x r=>simp only [Exs.len] at this;omega
   have HR:=hi9 (show q=T by have:=hT.out;rw [hL] at this;simpa [Exs.flat] using this)
   have hm0:m=0:=by omega
   subst hm0
   clear hL hl
   go_wp2_with fail
   go_ret
   exact⟨by rw [←HR.out];rfl,hB.out⟩
theorem zM(w:World)(cs:Array Value)(t:TypeId)(j:Nat){v:Value}(h:cs[j]?=some v):(w.alloc (.cells cs t)).cell? ⟨w.heap.size,j,none⟩=some v:=by
 rw [World.cell?_alloc_at _ _ _ _ rfl];exact h
structure Bx4(w:World)(b:Nat)(x0 x1 x2 x3:Value):Prop where
 c0:w.cell? ⟨b,0,none⟩=some x0
 c1:w.cell? ⟨b,1,none⟩=some x1
 c2:w.cell? ⟨b,2,none⟩=some x2
 c3:w.cell? ⟨b,3,none⟩=some x3
 z0:w.frozen? ⟨b,0,none⟩=false
 z1:w.frozen? ⟨b,1,none⟩=false
 z2:w.frozen? ⟨b,2,none⟩=false
 z3:w.frozen? ⟨b,3,none⟩=false
theorem za9(w:World)(x0 x1 x2 x3:Value)(t:TypeId):Bx4 (w.alloc (.cells #[x0,x1,x2,x3] t)) w.heap.size x0 x1 x2 x3 :=
 ⟨zM w _ _ _ rfl,zM w _ _ _ rfl,zM w _ _ _ rfl,zM w _ _ _ rfl,by simp,by simp,by simp,by simp⟩
theorem Bx4.keep{w w':World}{b:Nat}{x0 x1 x2 x3:Value}(h:Bx4 w b x0 x1 x2 x3)(hb:Below w.heap.size w w'):Bx4 w' b x0 x1 x2 x3 :=
 have hl:=block_lt_of_cell h.c0
 ⟨zb hb h.c0,zb hb h.c1,zb hb h.c2,zb hb h.c3,by rw [(jO hb).2 b 0 hl];exact h.z0,by rw [(jO hb).2 b 1 hl];exact h.z1,by rw [(jO hb).2 b 2 hl];exact h.z2,by rw [(jO hb).2 b 3 hl];exact h.z3⟩
theorem Bx4.but{w w':World}{b:Nat}{x0 x1 x2 x3:Value}{g:Option Nat}(h:Bx4 w b x0 x1 x2 x3)(hg:w.grownBy w' g)(hn:some b≠g):Bx4 w' b x0 x1 x2 x3 :=
 have hb:=hg.block b (block_lt_of_cell h.c0) hn
 ⟨(World.cell?_of_block (a:=⟨b,0,none⟩) hb).trans h.c0,(World.cell?_of_block (a:=⟨b,1,none⟩) hb).trans h.c1,(World.cell?_of_block (a:=⟨b,2,none⟩) hb).trans h.c2,(World.cell?_of_block (a:=⟨b,3,none⟩) hb).trans h.c3,(World.frozen?_of_block (a:=⟨b,0,none⟩) hb).trans h.z0,(World.frozen?_of_block (a:=⟨b,1,none⟩) hb).trans h.z1,(World.frozen?_of_block (a:=⟨b,2,none⟩) hb).trans h.z2,(World.frozen?_of_block (a:=⟨b,3,none⟩) hb).trans h.z3⟩
structure Bx6(w:World)(b:Nat)(x0 x1 x2 x3 x4 x5:Value):Prop where
 c0:w.cell? ⟨b,0,none⟩=some x0
 c1:w.cell? ⟨b,1,none⟩=some x1
 c2:w.cell? ⟨b,2,none⟩=some x2
 c3:w.cell? ⟨b,3,none⟩=some x3
 c4:w.cell? ⟨b,4,none⟩=some x4
 c5:w.cell? ⟨b,5,none⟩=some x5
 z0:w.frozen? ⟨b,0,none⟩=false
 z1:w.frozen? ⟨b,1,none⟩=false
 z2:w.frozen? ⟨b,2,none⟩=false
 z3:w.frozen? ⟨b,3,none⟩=false
 z4:w.frozen? ⟨b,4,none⟩=false
 z5:w.frozen? ⟨b,5,none⟩=false
theorem zS(w:World)(x0 x1 x2 x3 x4 x5:Value)(t:TypeId):Bx6 (w.alloc (.cells #[x0,x1,x2,x3,x4,x5] t)) w.heap.size x0 x1 x2 x3 x4 x5 :=
 ⟨zM w _ _ _ rfl,zM w _ _ _ rfl,zM w _ _ _ rfl,zM w _ _ _ rfl,zM w _ _ _ rfl,zM w _ _ _ rfl,by simp,by simp,by simp,by simp,by simp,by simp⟩
theorem Bx6.keep{w w':World}{b:Nat}{x0 x1 x2 x3 x4 x5:Value}(h:Bx6 w b x0 x1 x2 x3 x4 x5)(hb:Below w.heap.size w w'):Bx6 w' b x0 x1 x2 x3 x4 x5 :=
 have hl:=block_lt_of_cell h.c0
 ⟨zb hb h.c0,zb hb h.c1,zb hb h.c2,zb hb h.c3,zb hb h.c4,zb hb h.c5,by rw [(jO hb).2 b 0 hl];exact h.z0,by rw [(jO hb).2 b 1 hl];exact h.z1,by rw [(jO hb).2 b 2 hl];exact h.z2,by rw [(jO hb).2 b 3 hl];exact h.z3,by rw [(jO hb).2 b 4 hl];exact h.z4,by rw [(jO hb).2 b 5 hl];exact h.z5⟩
theorem Bx6.but{w w':World}{b:Nat}{x0 x1 x2 x3 x4 x5:Value}{g:Option Nat}(h:Bx6 w b x0 x1 x2 x3 x4 x5)(hg:w.grownBy w' g)(hn:some b≠g):Bx6 w' b x0 x1 x2 x3 x4 x5 :=
 have hb:=hg.block b (block_lt_of_cell h.c0) hn
 ⟨(World.cell?_of_block (a:=⟨b,0,none⟩) hb).trans h.c0,(World.cell?_of_block (a:=⟨b,1,none⟩) hb).trans h.c1,(World.cell?_of_block (a:=⟨b,2,none⟩) hb).trans h.c2,(World.cell?_of_block (a:=⟨b,3,none⟩) hb).trans h.c3,(World.cell?_of_block (a:=⟨b,4,none⟩) hb).trans h.c4,(World.cell?_of_block (a:=⟨b,5,none⟩) hb).trans h.c5,(World.frozen?_of_block (a:=⟨b,0,none⟩) hb).trans h.z0,(World.frozen?_of_block (a:=⟨b,1,none⟩) hb).trans h.z1,(World.frozen?_of_block (a:=⟨b,2,none⟩) hb).trans h.z2,(World.frozen?_of_block (a:=⟨b,3,none⟩) hb).trans h.z3,(World.frozen?_of_block (a:=⟨b,4,none⟩) hb).trans h.z4,(World.frozen?_of_block (a:=⟨b,5,none⟩) hb).trans h.z5⟩
structure Bx8(w:World)(b:Nat)(x0 x1 x2 x3 x4 x5 x6 x7:Value):Prop where
 c0:w.cell? ⟨b,0,none⟩=some x0
 c1:w.cell? ⟨b,1,none⟩=some x1
 c2:w.cell? ⟨b,2,none⟩=some x2
 c3:w.cell? ⟨b,3,none⟩=some x3
 c4:w.cell? ⟨b,4,none⟩=some x4
 c5:w.cell? ⟨b,5,none⟩=some x5
 c6:w.cell? ⟨b,6,none⟩=some x6
 c7:w.cell? ⟨b,7,none⟩=some x7
 z0:w.frozen? ⟨b,0,none⟩=false
 z1:w.frozen? ⟨b,1,none⟩=false
 z2:w.frozen? ⟨b,2,none⟩=false
 z3:w.frozen? ⟨b,3,none⟩=false
 z4:w.frozen? ⟨b,4,none⟩=false
 z5:w.frozen? ⟨b,5,none⟩=false
 z6:w.frozen? ⟨b,6,none⟩=false
 z7:w.frozen? ⟨b,7,none⟩=false
theorem zck(w:World)(x0 x1 x2 x3 x4 x5 x6 x7:Value)(t:TypeId):Bx8 (w.alloc (.cells #[x0,x1,x2,x3,x4,x5,x6,x7] t)) w.heap.size x0 x1 x2 x3 x4 x5 x6 x7 :=
 ⟨zM w _ _ _ rfl,zM w _ _ _ rfl,zM w _ _ _ rfl,zM w _ _ _ rfl,zM w _ _ _ rfl,zM w _ _ _ rfl,zM w _ _ _ rfl,zM w _ _ _ rfl,by simp,by simp,by simp,by simp,by simp,by simp,by simp,by simp⟩
theorem Bx8.keep{w w':World}{b:Nat}{x0 x1 x2 x3 x4 x5 x6 x7:Value}(h:Bx8 w b x0 x1 x2 x3 x4 x5 x6 x7)(hb:Below w.heap.size w w'):Bx8 w' b x0 x1 x2 x3 x4 x5 x6 x7 :=
 have hl:=block_lt_of_cell h.c0
 ⟨zb hb h.c0,zb hb h.c1,zb hb h.c2,zb hb h.c3,zb hb h.c4,zb hb h.c5,zb hb h.c6,zb hb h.c7,by rw [(jO hb).2 b 0 hl];exact h.z0,by rw [(jO hb).2 b 1 hl];exact h.z1,by rw [(jO hb).2 b 2 hl];exact h.z2,by rw [(jO hb).2 b 3 hl];exact h.z3,by rw [(jO hb).2 b 4 hl];exact h.z4,by rw [(jO hb).2 b 5 hl];exact h.z5,by rw [(jO hb).2 b 6 hl];exact h.z6,by rw [(jO hb).2 b 7 hl];exact h.z7⟩
theorem Bx8.but{w w':World}{b:Nat}{x0 x1 x2 x3 x4 x5 x6 x7:Value}{g:Option Nat}(h:Bx8 w b x0 x1 x2 x3 x4 x5 x6 x7)(hg:w.grownBy w' g)(hn:some b≠g):Bx8 w' b x0 x1 x2 x3 x4 x5 x6 x7 :=
 have hb:=hg.block b (block_lt_of_cell h.c0) hn
 ⟨(World.cell?_of_block (a:=⟨b,0,none⟩) hb).trans h.c0,(World.cell?_of_block (a:=⟨b,1,none⟩) hb).trans h.c1,(World.cell?_of_block (a:=⟨b,2,none⟩) hb).trans h.c2,(World.cell?_of_block (a:=⟨b,3,none⟩) hb).trans h.c3,(World.cell?_of_block (a:=⟨b,4,none⟩) hb).trans h.c4,(World.cell?_of_block (a:=⟨b,5,none⟩) hb).trans h.c5,(World.cell?_of_block (a:=⟨b,6,none⟩) hb).trans h.c6,(World.cell?_of_block (a:=⟨b,7,none⟩) hb).trans h.c7,(World.frozen?_of_block (a:=⟨b,0,none⟩) hb).trans h.z0,(World.frozen?_of_block (a:=⟨b,1,none⟩) hb).trans h.z1,(World.frozen?_of_block (a:=⟨b,2,none⟩) hb).trans h.z2,(World.frozen?_of_block (a:=⟨b,3,none⟩) hb).trans h.z3,(World.frozen?_of_block (a:=⟨b,4,none⟩) hb).trans h.z4,(World.frozen?_of_block (a:=⟨b,5,none⟩) hb).trans h.z5,(World.frozen?_of_block (a:=⟨b,6,none⟩) hb).trans h.z6,(World.frozen?_of_block (a:=⟨b,7,none⟩) hb).trans h.z7⟩
theorem Bx4.set{w:World}{b:Nat}{x0 x1 x2 x3:Value}(h:Bx4 w b x0 x1 x2 x3)(y0 y1 y2 y3:Value):Bx4 ((((w.setCell ⟨b,0,none⟩ y0).setCell ⟨b,1,none⟩ y1).setCell ⟨b,2,none⟩ y2).setCell ⟨b,3,none⟩ y3) b y0 y1 y2 y3:=by
 obtain⟨c0,c1,c2,c3,z0,z1,z2,z3⟩:=h;refine⟨?_,?_,?_,?_,?_,?_,?_,?_⟩
 all_goals go_simp
theorem Bx6.set{w:World}{b:Nat}{x0 x1 x2 x3 x4 x5:Value}(h:Bx6 w b x0 x1 x2 x3 x4 x5)(y0 y1 y2 y3 y4 y5:Value):Bx6 ((((((w.setCell ⟨b,0,none⟩ y0).setCell ⟨b,1,none⟩ y1).setCell ⟨b,2,none⟩ y2).setCell ⟨b,3,none⟩ y3).setCell ⟨b,4,none⟩ y4).setCell ⟨b,5,none⟩ y5) b y0 y1 y2 y3 y4 y5:=by
 obtain⟨c0,c1,c2,c3,c4,c5,z0,z1,z2,z3,z4,z5⟩:=h;refine⟨?_,?_,?_,?_,?_,?_,?_,?_,?_,?_,?_,?_⟩
 all_goals go_simp
theorem Bx8.set{w:World}{b:Nat}{x0 x1 x2 x3 x4 x5 x6 x7:Value}(h:Bx8 w b x0 x1 x2 x3 x4 x5 x6 x7)(y0 y1 y2 y3 y4 y5 y6 y7:Value):Bx8 ((((((((w.setCell ⟨b,0,none⟩ y0).setCell ⟨b,1,none⟩ y1).setCell ⟨b,2,none⟩ y2).setCell ⟨b,3,none⟩ y3).setCell ⟨b,4,none⟩ y4).setCell ⟨b,5,none⟩ y5).setCell ⟨b,6,none⟩ y6).setCell ⟨b,7,none⟩ y7) b y0 y1 y2 y3 y4 y5 y6 y7:=by
 obtain⟨c0,c1,c2,c3,c4,c5,c6,c7,z0,z1,z2,z3,z4,z5,z6,z7⟩:=h;refine⟨?_,?_,?_,?_,?_,?_,?_,?_,?_,?_,?_,?_,?_,?_,?_,?_⟩
 all_goals go_simp
theorem zdX{B b:Nat}{a w:World}(h:Below B a w)(hb:B≤b)(y0 y1 y2 y3:Value):Below B a ((((w.setCell ⟨b,0,none⟩ y0).setCell ⟨b,1,none⟩ y1).setCell ⟨b,2,none⟩ y2).setCell ⟨b,3,none⟩ y3):=((((h.setCell (p:=⟨b,0,none⟩) hb y0).setCell (p:=⟨b,1,none⟩) hb y1).setCell (p:=⟨b,2,none⟩) hb y2).setCell (p:=⟨b,3,none⟩) hb y3)
theorem jk{B b:Nat}{a w:World}(h:Below B a w)(hb:B≤b)(y0 y1 y2 y3 y4 y5:Value):Below B a ((((((w.setCell ⟨b,0,none⟩ y0).setCell ⟨b,1,none⟩ y1).setCell ⟨b,2,none⟩ y2).setCell ⟨b,3,none⟩ y3).setCell ⟨b,4,none⟩ y4).setCell ⟨b,5,none⟩ y5):=((((((h.setCell (p:=⟨b,0,none⟩) hb y0).setCell (p:=⟨b,1,none⟩) hb y1).setCell (p:=⟨b,2,none⟩) hb y2).setCell (p:=⟨b,3,none⟩) hb y3).setCell (p:=⟨b,4,none⟩) hb y4).setCell (p:=⟨b,5,none⟩) hb y5)
theorem zcn{B b:Nat}{a w:World}(h:Below B a w)(hb:B≤b)(y0 y1 y2 y3 y4 y5 y6 y7:Value):Below B a ((((((((w.setCell ⟨b,0,none⟩ y0).setCell ⟨b,1,none⟩ y1).setCell ⟨b,2,none⟩ y2).setCell ⟨b,3,none⟩ y3).setCell ⟨b,4,none⟩ y4).setCell ⟨b,5,none⟩ y5).setCell ⟨b,6,none⟩ y6).setCell ⟨b,7,none⟩ y7):=((((((((h.setCell (p:=⟨b,0,none⟩) hb y0).setCell (p:=⟨b,1,none⟩) hb y1).setCell (p:=⟨b,2,none⟩) hb y2).setCell (p:=⟨b,3,none⟩) hb y3).setCell (p:=⟨b,4,none⟩) hb y4).setCell (p:=⟨b,5,none⟩) hb y5).setCell (p:=⟨b,6,none⟩) hb y6).setCell (p:=⟨b,7,none⟩) hb y7)
theorem zig{w:World}{a:Addr}{n c:Nat}{P:List Nd}(h:Ns w (some a) n c P)(h0:0<P.length):a.block<w.heap.size:=h.at_.lt h0 a rfl
theorem zb8(A:Option Addr)(n c:Nat)(x:Ex)(f:Bool)(w:World)(h:Ns w A n c x.flat)(hn:n≤4000)(hv:x.valid f):
 Calls Tryz.prog 49 #[.slice A n c] w fun e w'=>∃A' c' V,e = .returned (.tuple #[ndV x.head,.slice A' V.length c'])∧V.length≤c'∧zal w' A' V∧V.map Sl.P=x.parts.list.map Ex.flat∧Below w.heap.size w w':=by
 obtain⟨i0,hi,hz0,hz1,hz2⟩:=info_parts zld;have hx:=XAt.all hv;obtain⟨a,rfl,d0,d1,d2,d3⟩:=h.at_ 0 _ hx.head;have hab:=zig h (zV x);rw [show a.add (0*4)=a from rfl] at d0 d1 d2 d3;have HN:=hi9 h;have HLn:=hi9 h.len;have HC:=hi9 h.cap;have hn1:1≤n:=by rw [h.len];exact zV x
 have HXS:=hi9 hx.parts;have HTOT:=hi9 (show 1+x.parts.flat.length=n by rw [h.len];cases x;simp [Ex.flat,Ex.parts];omega);have HY:=hi9 (show Nd4 w a x.head from⟨d0,d1,d2,d3⟩);have HMAP:=hi9 (show x.parts.list.map Ex.flat=([]:List Sl).map Sl.P ++ x.parts.list.map Ex.flat from rfl);generalize jU x.head=cc at *;generalize x.flat=P at *;generalize x.parts=ps at *;generalize x.head=y at *;clear h hx hv d0 d1 d2 d3;have B0:=hi9 (za w (.cells #[.int .i64 0,.int .i64 0,.string ⟨#[]⟩,.string ⟨#[]⟩] 40));have R0:=hi9 (za9 w (.int .i64 0) (.int .i64 0) (.string ⟨#[]⟩) (.string ⟨#[]⟩) 40);go_enter Tryz.func49,Tryz.ntmps49;go_wp2_with fail;go_loopw [4,5] (fun v u wr=>∃(q:Nat) (V:List Sl) (R:Exs),u = .int .i64 q∧1≤q∧q≤n∧V.length+1≤q∧Hid (ps.list.map Ex.flat=V.map Sl.P ++ R.list.map Ex.flat)∧Hid (zlk P q cc R)∧Hid (q+R.flat.length=n)∧Hid (js wr (w.heap.size+1) v V)∧Hid (Bx4 wr w.heap.size (.int .i64 0) (.int .i64 0) (.string ⟨#[]⟩) (.string ⟨#[]⟩))∧Hid (∀r∈V,zaA r (some w.heap.size))∧Hid (Below w.heap.size w wr)) (fun _ u _=>n-(intOf u).toNat)
 case atStart=>exact⟨1,[],ps,rfl,Nat.le_refl _,hn1,Nat.le_refl _,HMAP,HXS,HTOT,hi9 (js.nil _ _),R0,hi9 (fun r hr=>nomatch hr),B0⟩
 case round =>
  clear HXS HTOT HMAP R0 B0;obtain⟨q,V,R,rfl,hq1,hq,hVq,hE,hXs,hT,hO,hR,hAp,hB⟩:=hrel;by_cases hlt:q<n
  ·obtain⟨x1,r,rfl⟩:∃x1 r,R = .cons x1 r:=by
    cases R with
    | nil=>have:=hT.out;simp [Exs.flat] at this;omega
    | cons x1 r=>exact⟨x1,r,rfl⟩
   obtain⟨h1,h2⟩:=hXs.out.head
   have CS:=hi9 (zmx (some a) n c P q cc x1 wr (HN.out.keep hB.out) h1)
   have HSEG:=hi9 h1.seg
   have hpos:=zV x1
   have HX2:=hi9 h2
   have HT2:=hi9 (show q+x1.flat.length+r.flat.length=n by have:=hT.out;simp only [Exs.flat,List.length_append] at this;omega)
   have hle:q+x1.flat.length≤n:=by have:=HT2.out;omega
   have hcn:=HC.out
   have HE2:=hi9 (show ps.list.map Ex.flat=V.map Sl.P ++(x1.flat :: r.list.map Ex.flat) from hE.out)
   clear hE hXs hT h1 h2
   go_wp2_with fail
   refine CS.out.mono ?_
   rintro e w2 ⟨rfl,b2⟩
   have B2:=bh hB b2
   have O2:=hi9 (hO.out.keep b2)
   have R2:=hi9 (hR.out.keep b2)
   have hsz2:=B2.out.size
   have hsz3:w.heap.size<w2.heap.size:=block_lt_of_cell R2.out.c0
   clear b2 hB hO hR CS
   have NS:=zgT (HN.out.keep B2.out) (i:=q) (j:=q+x1.flat.length) (by omega) hle
   rw [HSEG.out,show q+x1.flat.length-q=x1.flat.length by omega] at NS
   have N2:=hi9 (show Ns w2 (⟨some (a.add (q*4)),x1.flat.length,c-q,x1.flat⟩:Sl).A _ _ _ from NS)
   have A2p:Hid (zaA ⟨some (a.add (q*4)),x1.flat.length,c-q,x1.flat⟩ u4.ownBlock):=by
    intro h0 a' e' q';have h1:=jB O2.out.own a'.block q';injection e' with e';subst e';rw [jI] at h1;omega
   clear NS HSEG
   generalize x1.flat=F1 at *
   obtain⟨l1,hl1⟩:∃l1,l1=F1.length:=⟨_,rfl⟩
   rw [←hl1] at hpos HT2 hle N2 A2p HX2 ⊢
   clear hl1
   go_wp2_with (at_builtin;refine wpList_append_own_at _ rfl _ _ 97 rfl (w.heap.size+1) 26 i0 _ 1 24 Tryz.underlying97 hi hz0 hz1 hz2 rfl (by decide) _ V.length (V.map Sl.v) rfl (O2.out.own.alloc _) ⟨_,0,none⟩ 1 1 [.slice (some (a.add (q*4))) l1 (c-q)] rfl rfl (cell_one_new _ _ _) (by intro u hu;simp only [List.mem_cons,List.not_mem_nil,or_false] at hu;subst hu;rfl) ?c1 ?c2 ?c3 ?_)
   case c1=>unfold maxLen;omega
   case c2=>omega
   case c3=>simp;omega
   intro v1 w4 hown hgrow _ hat
   have B4:=hi9 ((B2.out.alloc B2.out.size _).grown hgrow (by simp;omega) (fun g hg=>by have:=jB O2.out.own g hg;omega))
   have R4:=hi9 ((R2.out.keep (za w2 _)).but hgrow (zfT O2.out.own (by omega)))
   have O4:=hi9 (O2.out.snoc (r:=⟨some (a.add (q*4)),l1,c-q,F1⟩) N2.out A2p.out hown hgrow (by simpa using hat))
   have HE4:=hi9 (HE2.out.trans (show _=(V ++ [(⟨some (a.add (q*4)),l1,c-q,F1⟩:Sl)]).map Sl.P ++ r.list.map Ex.flat by simp))
   have HAP4:=hi9 (show∀r∈V ++ [(⟨some (a.add (q*4)),l1,c-q,F1⟩:Sl)],zaA r (some w.heap.size) from fun r hr=>by
    rcases List.mem_append.1 hr with h|h
    ·exact hAp.out r h
    ·rw [List.mem_singleton.1 h]
     intro _ a' e' q'
     injection e' with e'
     subst e'
     injection q' with q'
     rw [jI] at q'
     omega)
   have hl4:(V ++ [(⟨some (a.add (q*4)),l1,c-q,F1⟩:Sl)]).length+1≤q+l1:=by simp;omega
   clear hown hgrow hat O2 R2 N2 A2p HE2 B2
   go_wp2_with fail
   go_roundw
   case rel=>exact⟨q+l1,_,r,by go_num,by omega,hle,hl4,HE4,HX2,HT2,O4,R4,HAP4,B4⟩
   case measure=>simp [intOf];omega
  ·obtain rfl:R = .nil:=by
    cases R with
    | nil=>rfl
    | cons x1 r=>have:=hT.out;have:=zV x1;simp only [Exs.flat,List.length_append] at *;omega
   have HF:=hi9 (show V.map Sl.P=ps.list.map Ex.flat by rw [hE.out];simp [Exs.list])
   obtain⟨A',c',hv',hc',-⟩:=hO.out.at
   subst hv'
   have g5:=zd (zd (zd (zg wr ⟨w.heap.size,0,none⟩ (.int .i64 y.op)) (zg _ ⟨w.heap.size,1,none⟩ (.int .i64 y.n))) (zg _ ⟨w.heap.size,2,none⟩ (.string y.s))) (zg _ ⟨w.heap.size,3,none⟩ (.string y.t))
   obtain⟨A5,c5,e5,-,hint⟩:=(hO.out.row g5 (zg7 hO.out.own (Nat.lt_succ_self _)) hAp.out).at
   injection e5 with e51 _ e52
   subst e51
   subst e52
   have HI:=hi9 hint
   obtain⟨d0,d1,d2,d3⟩:=HY.out.keep hB.out
   obtain⟨r0,r1,r2,r3,z0,z1,z2,z3⟩:=hR.out
   obtain⟨y0,y1,y2,y3,-,-,-,-⟩:=hR.out.set (.int .i64 y.op) (.int .i64 y.n) (.string y.s) (.string y.t)
   have hn0:0<n:=by omega
   have B5:=hi9 (zdX hB.out (Nat.le_refl _) (.int .i64 y.op) (.int .i64 y.n) (.string y.s) (.string y.t))
   clear hint g5 hE hXs hT hO hR hAp hB
   go_wp2_with fail
   refine bodyPost_ret (v := .tuple #[ndV y,.slice A' V.length c']) (by simp [results,Tryz.results49,go_sem,y0,y1,y2,y3,ndV]) rfl ⟨A',c',V,rfl,hc',HI.out,HF.out,B5.out⟩
end Go.Proofs.YtlkfaliomdbaoaaGreatDoor
namespace Go.Wk
def zpY(L:List (List Nd))(Q:List Nd):Bool:=L.any fun P=>decide (z8 P Q=0)
end Go.Wk
namespace Go.Proofs.YtlkfaliomdbaoaaGreatDoor
open Go.RowKit Go.Wk Go.Sort
theorem zit(A B:Option Addr)(n m c d:Nat)(P Q:List Nd)(w:World)(hn:n=P.length)(hm:m=Q.length)(hln:n≤maxLen)(hlm:m≤maxLen)(hP:jp w A P)(hQ:jp w B Q):
 Calls Tryz.prog 91 #[.slice A n c,.slice B m d] w fun e w'=>e = .returned (.bool (decide (z8 P Q=0)))∧Below w.heap.size w w':=by
 unfold maxLen at hln hlm;have HN:=hi9 hn;have HM:=hi9 hm;have HP:=hi9 hP;have HQ:=hi9 hQ;clear hn hm hP hQ;by_cases hl:n=m
 ·subst hl;go_enter Tryz.func91,Tryz.ntmps91;go_wp2_with fail;go_loopw [5,13] (fun _ i wr=>∃k:Nat,k≤n∧i = .int .i64 k∧Hid (z8 P Q=z8 (P.drop k) (Q.drop k))∧Hid (Below w.heap.size w wr)) (fun _ i _=>n-(intOf i).toNat)
  case atStart=>exact⟨0,Nat.zero_le _,rfl,rfl,Below.refl _ _⟩
  case round =>
   obtain⟨k,hk,rfl,hE,hB⟩:=hrel;by_cases hlt:k<n
   ·have h1:k<P.length:=by rw [←HN.out];exact hlt
    have h2:k<Q.length:=by rw [←HM.out];exact hlt
    obtain⟨a,rfl,a1,a2,a3,a4⟩:=(HP.out.keep hB.out) k P[k] (List.getElem?_eq_getElem h1);obtain⟨b,rfl,b1,b2,b3,b4⟩:=(HQ.out.keep hB.out) k Q[k] (List.getElem?_eq_getElem h2);by_cases he:P[k]=Q[k]
    ·have HE:=hi9 (hE.out.trans ((zc7 h1 h2).trans (by rw [zi9 he,zT])));rw [he] at a1 a2 a3 a4;generalize Q[k]=y at *;clear he hE;go_wp2_with fail;go_quiet (fail);go_wp2_with fail;go_roundw
     case rel=>exact⟨k+1,by omega,by go_num,HE,hB.out.drewN _⟩
     case measure=>simp [intOf];omega
    ·have HE:=hi9 (zc4 h1 h2 he hE.out);have hne:=fun w=>znZ he w;generalize P[k]=x at *;generalize Q[k]=y at *;clear he hE;go_wp2_with fail;go_quiet (fail);go_wp2_with fail;go_ret;exact⟨zt (decide_eq_false HE.out).symm,hB.out.drewN _⟩
   ·have HE:=hi9 (hE.out.trans (zcV (by rw [←HN.out];omega) (by rw [←HM.out];omega)));clear hE;go_wp2_with fail;go_ret;exact⟨zt (decide_eq_true HE.out).symm,hB.out⟩
 ·have HE:=hi9 (show z8 P Q≠0 from fun h=>hl (by rw [HN.out,HM.out,(zcy.zero _ _).1 h]));have h3:(n != m)=true:=by rw [bne_iff_ne];exact hl
  clear hl;go_enter Tryz.func91,Tryz.ntmps91;go_wp2_with fail;go_ret;exact⟨zt (decide_eq_false HE.out).symm,Below.refl _ _⟩
theorem any_map(V:List Sl)(Q:List Nd):(V.any fun r=>decide (z8 r.P Q=0))=zpY (V.map Sl.P) Q:=by
 unfold zpY;rw [List.any_map];rfl
structure Bx3(w:World)(b:Nat)(x0 x1 x2:Value):Prop where
 c0:w.cell? ⟨b,0,none⟩=some x0
 c1:w.cell? ⟨b,1,none⟩=some x1
 c2:w.cell? ⟨b,2,none⟩=some x2
 z0:w.frozen? ⟨b,0,none⟩=false
 z1:w.frozen? ⟨b,1,none⟩=false
 z2:w.frozen? ⟨b,2,none⟩=false
theorem zf0(w:World)(x0 x1 x2:Value)(t:TypeId):Bx3 (w.alloc (.cells #[x0,x1,x2] t)) w.heap.size x0 x1 x2 :=
 ⟨zM w _ _ _ rfl,zM w _ _ _ rfl,zM w _ _ _ rfl,by simp,by simp,by simp⟩
theorem Bx3.keep{w w':World}{b:Nat}{x0 x1 x2:Value}(h:Bx3 w b x0 x1 x2)(hb:Below w.heap.size w w'):Bx3 w' b x0 x1 x2 :=
 have hl:=block_lt_of_cell h.c0
 ⟨zb hb h.c0,zb hb h.c1,zb hb h.c2,by rw [(jO hb).2 b 0 hl];exact h.z0,by rw [(jO hb).2 b 1 hl];exact h.z1,by rw [(jO hb).2 b 2 hl];exact h.z2⟩
theorem Bx3.but{w w':World}{b:Nat}{x0 x1 x2:Value}{g:Option Nat}(h:Bx3 w b x0 x1 x2)(hg:w.grownBy w' g)(hn:some b≠g):Bx3 w' b x0 x1 x2 :=
 have hb:=hg.block b (block_lt_of_cell h.c0) hn
 ⟨(World.cell?_of_block (a:=⟨b,0,none⟩) hb).trans h.c0,(World.cell?_of_block (a:=⟨b,1,none⟩) hb).trans h.c1,(World.cell?_of_block (a:=⟨b,2,none⟩) hb).trans h.c2,(World.frozen?_of_block (a:=⟨b,0,none⟩) hb).trans h.z0,(World.frozen?_of_block (a:=⟨b,1,none⟩) hb).trans h.z1,(World.frozen?_of_block (a:=⟨b,2,none⟩) hb).trans h.z2⟩
theorem Bx3.set{w:World}{b:Nat}{x0 x1 x2:Value}(h:Bx3 w b x0 x1 x2)(y0 y1 y2:Value):Bx3 (((w.setCell ⟨b,0,none⟩ y0).setCell ⟨b,1,none⟩ y1).setCell ⟨b,2,none⟩ y2) b y0 y1 y2:=by
 obtain⟨c0,c1,c2,z0,z1,z2⟩:=h;refine⟨?_,?_,?_,?_,?_,?_⟩
 all_goals go_simp
theorem zdG{B b:Nat}{a w:World}(h:Below B a w)(hb:B≤b)(y0 y1 y2:Value):Below B a (((w.setCell ⟨b,0,none⟩ y0).setCell ⟨b,1,none⟩ y1).setCell ⟨b,2,none⟩ y2):=(((h.setCell (p:=⟨b,0,none⟩) hb y0).setCell (p:=⟨b,1,none⟩) hb y1).setCell (p:=⟨b,2,none⟩) hb y2)
def zn6:Option Addr→Nat
 | none=>0
 | some a=>a.block+1
def zpW:Value→Nat
 | .pointer p=>zn6 p
 | _=>0
def zcI(w:World):Option Addr→zW→Prop
 | p,[]=>p=none
 | p,x :: F=>∃b A n c q,p=some ⟨b,0,none⟩∧Bx3 w b (.slice A n c) (.string x.2) (.pointer q)∧Ns w A n c x.1∧x.2.size≤maxLen∧zn6 q≤b∧zcI w q F
theorem zcI.keep{w w':World}(hb:Below w.heap.size w w'):∀ {F:zW} {p:Option Addr},zcI w p F→zcI w' p F
 | [],_,h=>h
 | _ :: _,_,⟨b,A,n,c,q,e,h1,h2,h3,h4,h5⟩=>⟨b,A,n,c,q,e,h1.keep hb,h2.keep hb,h3,h4,h5.keep hb⟩
theorem zcI.rank{w:World}:∀ {F:zW} {p:Option Addr},zcI w p F→zn6 p≤w.heap.size
 | [],_,h=>by rw [show _=none from h];exact Nat.zero_le _
 | _ :: _,_,⟨b,A,n,c,q,e,h1,_⟩=>by rw [e];exact block_lt_of_cell h1.c0
theorem zma(p:Option Addr)(F:zW)(A:Option Addr)(n c:Nat)(P:List Nd)(s:ByteArray)(w:World)(h:zcI w p F)(k:Ns w A n c P):
 Calls Tryz.prog 58 #[.pointer p,.slice A n c,.string s] w fun e w'=>e = .returned (.bool (za7 F P s))∧Below w.heap.size w w':=by
 have HF:=hi9 h;have HN:=hi9 k;clear h k;go_enter Tryz.func58,Tryz.ntmps58;go_wp2_with fail;go_loopw [0] (fun v wr=>∃(q:Option Addr) (G:zW),v = .pointer q∧Hid (zcI wr q G)∧Hid (za7 F P s=za7 G P s)∧Hid (Below w.heap.size w wr)) (fun v _=>zpW v)
 case atStart=>exact⟨p,F,rfl,HF,rfl,Below.refl _ _⟩
 case round =>
  obtain⟨q,G,rfl,hG,hE,hB⟩:=hrel
  cases G with
  | nil =>
   obtain rfl:q=none:=hG.out
   go_wp2_with fail
   go_ret
   exact⟨by rw [hE.out];rfl,hB.out⟩
  | cons x G =>
   obtain⟨b,A1,n1,c1,q1,rfl,R,N1,hs1,hr,hG1⟩:=hG.out
   have R1:=hi9 R
   have N2:=hi9 N1
   have G2:=hi9 hG1
   obtain⟨r0,r1,r2,z0,z1,z2⟩:=R
   clear hG hG1 N1 z0 z1 z2
   by_cases hs:x.2=s
   ·rw [hs] at r1
    have EQ:=hi9 (zit A1 A n1 n c1 c x.1 P wr N2.out.len HN.out.len N2.out.max HN.out.max N2.out.at_ ((HN.out.keep hB.out).at_));by_cases he:z8 x.1 P=0
    ·have HT:=hi9 (show za7 F P s=true by rw [hE.out];simp [za7,hs,he]);rw [decide_eq_true he] at EQ;clear hE he R1 r2 N2 G2;go_wp2_with fail;refine EQ.out.mono ?_;rintro e w2 ⟨rfl,b2⟩;have B2:=bh hB b2;clear EQ b2 hB;go_wp2_with fail;go_ret;exact⟨by rw [HT.out];rfl,B2.out⟩
    ·have HT:=hi9 (show za7 F P s=za7 G P s by rw [hE.out];simp [za7,hs,he]);rw [decide_eq_false he] at EQ;clear hE he r2 N2;go_wp2_with fail;refine EQ.out.mono ?_;rintro e w2 ⟨rfl,b2⟩;have B2:=bh hB b2;obtain⟨r0',r1',r2',z0',z1',z2'⟩:=R1.out.keep b2;have G3:=hi9 (G2.out.keep b2);clear EQ b2 hB R1 r0 r1 r0' r1' z0' z1' z2';go_wp2_with fail;go_roundw
     case rel=>exact⟨q1,G,rfl,G3,HT,B2⟩
     case measure=>exact Nat.lt_succ_of_le hr
   ·have HT:=hi9 (show za7 F P s=za7 G P s by rw [hE.out];simp [za7,hs])
    have f6:(x.2.toList==s.toList)=false:=beq_eq_false_iff_ne.2 (fun q=>hs (toList_inj q));generalize x.2=y at *;clear hE hs N2;go_wp2_with fail;go_roundw
    case rel=>exact⟨q1,G,rfl,G2,HT,hB⟩
    case measure=>exact Nat.lt_succ_of_le hr
theorem zip{ps:Exs}(h:ps.len=1):∃a,ps = .cons a .nil:=by
 cases ps with
 | nil=>simp [Exs.len] at h
 | cons a r=>cases r with
  | nil=>exact⟨a,rfl⟩
  | cons b r=>simp [Exs.len] at h
theorem zpG{ps:Exs}(h:ps.len=2):∃a b,ps = .cons a (.cons b .nil):=by
 cases ps with
 | nil=>simp [Exs.len] at h
 | cons a r =>
  simp only [Exs.len] at h
  obtain⟨b,rfl⟩:=zip (ps:=r) (by omega)
  exact⟨a,b,rfl⟩
structure zis(w:World)(A:Option Addr)(k:Nat)(r:Sl)(x:Ex):Prop where
 cell:∃a,A=some a∧w.cell? (a.add k)=some (.slice r.A r.n r.c)
 ns:Ns w r.A r.n r.c x.flat
theorem zbB{w:World}{A:Option Addr}{V:List Sl}{L:List Ex}(h:zal w A V)(hm:V.map Sl.P=L.map Ex.flat){k:Nat}{x:Ex}(hk:L[k]?=some x):∃r,V[k]?=some r∧zis w A k r x:=by
 have h1:(V.map Sl.P)[k]?=some x.flat:=by rw [hm,List.getElem?_map,hk];rfl
 rw [List.getElem?_map] at h1;rcases hv:V[k]? with _|r
 ·rw [hv] at h1;cases h1
 ·rw [hv] at h1;obtain⟨a,e1,e2,e3⟩:=h k r hv;injection h1 with h1;exact⟨r,rfl,⟨a,e1,e2⟩,h1 ▸ e3⟩
theorem zis.keep{w w':World}{A:Option Addr}{k:Nat}{r:Sl}{x:Ex}(h:zis w A k r x)(hb:Below w.heap.size w w'):zis w' A k r x :=
 ⟨let ⟨a,e1,e2⟩:=h.cell;⟨a,e1,zb hb e2⟩,h.ns.keep hb⟩
def zlC(w:World)(F:zW)(e:Ending)(w':World):Prop:=∃q,e = .returned (.pointer q)∧zcI w' q F∧Below w.heap.size w w'
def zp9(N:Nat):Prop:=∀(A:Option Addr) (n c:Nat) (x:Ex) (f:Bool) (p:Option Addr) (F:zW) (w:World),Ns w A n c x.flat→n≤4000→x.valid f→n≤N→zcI w p F→
 Calls Tryz.prog 50 #[.slice A n c,.pointer p] w (zlC w (zb7 x F))
theorem jZ(w:World):Below w.heap.size w w.drew:=⟨rfl,rfl,rfl,Nat.le_refl _,fun _ _=>rfl⟩
theorem zmj{f:Bool}{y:Nd}(h:jT f y=true)(h21:y.op=21):y.s.size≤maxLen:=by
 unfold jT at h;rw [Bool.and_eq_true] at h;have h1:=h.1;unfold jo at h1;rw [if_neg (by omega)] at h1;split at h1
 ·cases h1
 ·rw [if_neg (by omega),if_pos (Or.inl h21)] at h1;have:=zkm (of_decide_eq_true h1);unfold maxLen;omega
theorem zmU{w w1:World}{A:Option Addr}{n c:Nat}{P:List Nd}{s:ByteArray}{p:Option Addr}{F:zW}(o:Obj)(b:Below w.heap.size w w1)(hN:Ns w1 A n c P)(hF:zcI w1 p F)(hs:s.size≤maxLen)(t:TypeId):
 zlC w ((P,s):: F) (.returned (.pointer (some ⟨w1.heap.size+1,0,none⟩))) ((w1.alloc o).alloc (.cells #[.slice A n c,.string s,.pointer p] t)).drew:=by
 have k1:=za w1 o;have hz:(w1.alloc o).heap.size=w1.heap.size+1:=by simp
 have k2:=za (w1.alloc o) (.cells #[.slice A n c,.string s,.pointer p] t);have k3:=jZ ((w1.alloc o).alloc (.cells #[.slice A n c,.string s,.pointer p] t));have k4:=k1.trans (k2.mono k1.size);have k5:=k4.trans (k3.mono k4.size);refine⟨_,rfl,⟨w1.heap.size+1,A,n,c,p,rfl,?_,hN.keep k5,hs,Nat.le_succ_of_le hF.rank,hF.keep k5⟩,b.trans (k5.mono b.size)⟩;have h:=(zf0 (w1.alloc o) (.slice A n c) (.string s) (.pointer p) t).keep k3;rw [hz] at h;exact h
theorem zcv:∀N:Nat,zp9 N
 | 0=>fun A n c x f p F w h _ _ hN _=>by
  have h1:=h.len;have h2:=zV x;omega
 | N+1=>fun A n c x f p F w h hn hv hN hF=>by
  have IH:=hi9 (zcv N);have K:=hi9 (zb8 A n c x f w h hn hv);have HL:=h.len;obtain⟨y,ps⟩:=x;have hlen:=hv.2.1;have hhd:=hv.1;have hvp:=hi9 hv.2.2;have HF:=hi9 hF;have HT:=hi9 (show n=ps.flat.length+1 by rw [HL];simp [Ex.flat]);clear h hF hv HL;simp only [Ex.head,Ex.parts] at K;by_cases h21:y.op=21
  ·obtain⟨a,rfl⟩:=zip (ps:=ps) (by rw [show zL y=1 by unfold zL;simp [h21]] at hlen;omega);have HB:=hi9 (show zb7 (.node y (.cons a .nil)) F=(a.flat,y.s):: F by simp [zb7,h21,znN]);have HS:=hi9 (zmj hhd h21);clear hlen hhd;go_enter Tryz.func50,Tryz.ntmps50;go_wp2_with fail;refine K.out.mono ?_;rintro e w1 ⟨A',c',V,rfl,hc,hS,hm,b1⟩;obtain⟨r,hr,hp⟩:=zbB hS hm (k:=0) (x:=a) rfl;obtain⟨⟨A1,rfl,q0⟩,N0⟩:=hp;rw [show A1.add 0=A1 from rfl] at q0;have hV:0<V.length:=by rw [List.getElem?_eq_some_iff] at hr;exact hr.1
   generalize V.length=m at *;have B1:=hi9 b1;have N1:=hi9 N0;have F1:=hi9 (HF.out.keep b1);clear hS hm b1 N0 hr hc K;have q1:=zb (za w1 (.cells #[.int .i64 21,.int .i64 y.n,.string y.s,.string y.t] 40)) q0;unfold ndV;rw [h21];go_wp2_with fail;go_region_with (fail)
   all_goals (go_wp2_with fail)
   all_goals go_ret
   all_goals (rw [HB.out];exact zmU _ B1.out N1.out F1.out HS.out _)
  ·by_cases h11:y.op=11
   ·obtain⟨a,b,rfl⟩:=zpG (ps:=ps) (by rw [show zL y=2 by unfold zL;simp [h11]] at hlen;omega);have HB:=hi9 (show zb7 (.node y (.cons a (.cons b .nil))) F=zb7 b (zb7 a F) by simp [zb7,h11,zn8]);clear hlen hhd;have HLa:=hi9 (show a.flat.length+b.flat.length=n-1 by have:=HT.out;simp [Exs.flat] at this;omega);go_enter Tryz.func50,Tryz.ntmps50;go_wp2_with fail;refine K.out.mono ?_;rintro e w1 ⟨A',c',V,rfl,hc,hS,hm,b1⟩;obtain⟨r,hr,hp⟩:=zbB hS hm (k:=0) (x:=a) rfl;obtain⟨r',hr',hp'⟩:=zbB hS hm (k:=1) (x:=b) rfl;obtain⟨⟨A1,rfl,q0⟩,N0⟩:=hp;obtain⟨⟨A2,e2,q2⟩,N2⟩:=hp';obtain rfl:A1=A2:=Option.some.inj e2;rw [show A1.add 0=A1 from rfl] at q0;have hV:1<V.length:=by rw [List.getElem?_eq_some_iff] at hr';exact hr'.1
    generalize V.length=m at *;have B1:=hi9 b1;have N1:=hi9 N0;have N3:=hi9 N2;have F1:=hi9 (HF.out.keep b1);have q1:=zb (za w1 (.cells #[.int .i64 11,.int .i64 y.n,.string y.s,.string y.t] 40)) q0;have q3:=zb (za w1 (.cells #[.int .i64 11,.int .i64 y.n,.string y.s,.string y.t] 40)) q2;clear hS hm b1 N0 hr hc K e2 N2 hr';unfold ndV;rw [h11];go_wp2_with fail;have bD:=(za w1 (.cells #[.int .i64 11,.int .i64 y.n,.string y.s,.string y.t] 40)).trans ((jZ (w1.alloc (.cells #[.int .i64 11,.int .i64 y.n,.string y.s,.string y.t] 40))).mono (by simp));have QD:=hi9 (zb bD q2);have p1:=zb bD q0;have p3:((w1.alloc (.cells #[.int .i64 11,.int .i64 y.n,.string y.s,.string y.t] 40)).drew).cell? ⟨A1.block,A1.off+1,none⟩=some (.slice r'.A r'.n r'.c):=zb bD q2;have ND:=hi9 (N1.out.keep bD);have N3D:=hi9 (N3.out.keep bD);have FD:=hi9 (F1.out.keep bD);have BD:=hi9 (B1.out.trans (bD.mono B1.out.size));have ha1:=N1.out.len;have hb1:=N3.out.len;have HLL:=HLa.out;have pa:=zV a;have pb:=zV b;obtain⟨-,va,-,vb,-⟩:=hvp.out;have HVA:=hi9 va;have HVB:=hi9 vb;have HC1:=hi9 (show r.n≤4000∧r.n≤N by omega);have HC2:=hi9 (show r'.n≤4000∧r'.n≤N by omega);clear ha1 hb1 HLL pa pb va vb bD N1 N3 F1 HT HLa hvp HF;have hV0:(1:Int)<(m:Int):=by omega
    go_region_with (first
     |(go_at_call 50;(refine(IH.out _ _ _ b _ _ (zb7 a F) _ N5.out HC2.out.1 HVB.out HC2.out.2 F5.out).mono ?_);rintro e2 w6 ⟨p6,rfl,hF6,b6⟩;(have F6:=hi9 hF6);(have B6:=hi9 (B5.out.trans (b6.mono B5.out.size)));clear hF6 b6)
     |(go_at_call 50;(refine(IH.out _ _ _ a _ _ F _ ND.out HC1.out.1 HVA.out HC1.out.2 FD.out).mono ?_);rintro e w5 ⟨p5,rfl,hF5,b5⟩;(have QE:w5.cell? ⟨A1.block,A1.off+1,none⟩=some (.slice r'.A r'.n r'.c):=zb b5 QD.out);(have N5:=hi9 (N3D.out.keep b5));(have F5:=hi9 hF5);(have B5:=hi9 (BD.out.trans (b5.mono BD.out.size)));clear hF5 b5))
    all_goals (go_wp2_with fail)
    all_goals go_ret
    all_goals (rw [HB.out];exact⟨p6,rfl,F6.out,B6.out⟩)
   ·have HB:=hi9 (show zb7 (.node y ps) F=F by simp [zb7,h21,h11]);generalize zb7 (.node y ps) F=F' at *;go_enter Tryz.func50,Tryz.ntmps50;go_wp2_with fail;refine K.out.mono ?_;rintro e w1 ⟨A',c',V,rfl,hc,hS,hm,b1⟩;have B1:=hi9 b1;clear hc hS hm b1 K;have f1:(y.op==21)=false:=beq_eq_false_iff_ne.2 h21;have f2:(y.op==11)=false:=beq_eq_false_iff_ne.2 h11;unfold ndV;go_wp2_with fail;go_ret;have B2:=B1.out.trans ((za w1 (.cells #[.int .i64 y.op,.int .i64 y.n,.string y.s,.string y.t] 40)).mono B1.out.size);exact⟨p,rfl,by rw [HB.out];exact HF.out.keep B2,B2⟩
end Go.Proofs.YtlkfaliomdbaoaaGreatDoor
