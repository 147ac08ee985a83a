/-
  ref JoinKinds: the least above two types. kinds' reader: a field. Fields of types in a row of the call's own: their cells.
-/
import Derived.Deep.AppendLies
import Derived.Deep.Onto
import Derived.Laws.AppendOwnNone
import Derived.Maps.AppendAt
import Derived.Test.YtjcdeikbghjpkaaGreatDoorQ2
import Derived.Test.YtjcdeikbghjpkaaGreatDoorQ3
import Derived.Test.YtjcdeikbghjpkaaGreatDoorQ10
import Derived.Test.YtjcdeikbghjpkaaGreatDoorQ17
import Derived.Test.YtjcdeikbghjpkaaGreatDoorQ18
import Derived.Test.YtjcdeikbghjpkaaGreatDoorQ19
import Derived.Test.YtjcdeikbghjpkaaGreatDoorQ26
import Derived.Test.YtjcdeikbghjpkaaGreatDoorQ27
set_option maxRecDepth 100000
set_option maxHeartbeats 4000000
namespace Go.Proofs.YtjcdeikbghjpkaaGreatDoor
open Go.RowKit Go.Wk Go.Sort
set_option linter.unusedSectionVars false
def JnR(w:World)(k:Kd)(D:Nat→Prop)(e:Ending)(w':World):Prop:=∃(A:Option Addr) (c:Nat),e = .returned (.slice A k.flat.length c)∧Ns w' A k.flat.length c k.flat∧Below w.heap.size w w'∧∀x,A=some x→w.heap.size≤x.block∨D x.block
def InB(A:Option Addr)(g:Nat):Prop:=∃x,A=some x∧x.block=g
theorem zkt{w w':World}{k:Kd}{D:Nat→Prop}{e:Ending}(h:JnR w k (fun _=>False) e w'):JnR w k D e w':=by
 obtain⟨A,c,h1,h2,h3,h4⟩:=h;exact⟨A,c,h1,h2,h3,fun x hx=>(h4 x hx).elim .inl False.elim⟩
theorem zqg{x:Int}{s:ByteArray}(n:Int)(h0 : -9223372036854775808≤n)(h1:n≤9223372036854775807)(hs:s.size≤maxLen):zcP ⟨x,n,s,emp⟩:=⟨hs,by show(0:Nat)≤maxLen;exact Nat.zero_le _,h0,h1⟩
theorem zsU{w w1:World}(k:Kd)(x:Nd)(hk:k.flat = [x])(hx:zcP x)(hb:Below w.heap.size w w1):JnR w k (fun _=>False) (.returned (.slice (some ⟨w1.heap.size,0,none⟩) 1 1)) (w1.alloc (.cells #[.int .i64 x.op,.int .i64 x.n,.string x.s,.string x.t] 41)):=by
 obtain⟨A',c',e,q1,q2,q3⟩:=ji (P := [x]) (zhq w1 x);injection e with e1 e2 e3;subst e1 e3;have hl:k.flat.length=1:=by rw [hk];rfl
 refine⟨_,_,by rw [hl],⟨rfl,by rw [hl];exact Nat.le_refl _,by rw [hl];unfold maxLen;omega,by rw [hk];exact q2,?_⟩,hb.alloc hb.size _,fun y hy => .inl (by injection hy with hy;subst hy;exact hb.size)⟩;rw [hk];intro y hy;simp only [List.mem_cons,List.not_mem_nil,or_false] at hy;subst hy;exact hx
theorem zhj{ops:Array Oper}{o:Oper}{a:Act}{w:World}{K:Act→World→Prop}{Q:Exit→Act→World→Prop}{E:Prop}(hgd:o.guard=none)(s x:Operand)
 (ho:o.op = .call { callee := .builtin .append,args:=#[s,x],argTypes:=#[26,26] })
 (base:Nat) (v:Value) (n:Nat) (P Z:List Nd) (hs:a.eval s=v) (hrow:w.ownsRow base 41 4 v n (zh P)) (hn:n=P.length) (ad:Addr) (m c:Nat) (hx:a.eval x = .slice (some ad) m c) (hm:m=Z.length)
 (hnews:∀j u,(zh Z)[j]?=some u→w.cell? (ad.add j)=some u) (hl:0<m∧n+m≤1000000) (hbase:base≤w.heap.size)
 (h:∀A c' w',w'.ownsRow base 41 4 (.slice (some A) (n+m) c') (P ++ Z).length (zh (P ++ Z))→w.grownBy w' v.ownBlock→K (a.put o.dst (.slice (some A) (n+m) c')) w'):
 if Region.wanted o (yielded ops a.tmps)=true then Oper.wp Tryz.prog o a w K Q else E:=by
 have hi:=zc5
 cases hq:Tryz.prog.info? 41 with
 | none=>rw [hq] at hi;cases hi
 | some i0 =>
  rw [hq] at hi
  simp only [Option.map_some,Option.some.injEq,Prod.mk.injEq] at hi
  refine step_append_lies w hgd s x _ ho base _ i0 _ 4 48 Tryz.underlying26 hq hi.1 hi.2.1 hi.2.2 (by decide) (by decide) v n (zh P) hs hrow ad m c (zh Z) hx (by rw [jm,hm]) hnews (je _) hl.1 (by unfold maxLen;omega) (by omega) hbase _ rfl ?_
  intro g cap w' h1 h2 h3 h4
  exact h _ _ w' (by rw [zK,List.length_append,←hn,←hm];exact h1) h2
theorem zjR{w:World}{B n c:Nat}{A:Option Addr}{P:List Nd}(h:w.ownsRow B 41 4 (.slice A n c) P.length (zh P))(hl:P.length≤1000000)(hok:zaj P):Ns w A P.length c P:=by
 obtain⟨A',c',e,h1,h2,-⟩:=ji h;injection e with e1 e2 e3;subst e1 e3;exact⟨rfl,h1,by unfold maxLen;omega,h2,hok⟩
theorem zi2{w:World}{B n c:Nat}{A:Option Addr}{P:List Nd}(h:w.ownsRow B 41 4 (.slice A n c) P.length (zh P)):n=P.length:=by
 obtain⟨A',c',e,-,-,-⟩:=ji h;injection e
section
variable (a b:Addr) (n c m d:Nat) (o1 o2:Int) (s1 s2:ByteArray) (w:World) (hn:1≤n) (hm:1≤m) (hl:n≤4000) (hl2:m≤4000) (hnc:n≤c) (hmd:m≤d) (d0:w.cell? a=some (.int .i64 o1)) (d2:w.cell? ⟨a.block,a.off+2,none⟩=some (.string s1)) (e0:w.cell? b=some (.int .i64 o2)) (e2:w.cell? ⟨b.block,b.off+2,none⟩=some (.string s2))
include hn hm hl hl2 hnc hmd d0 d2 e0 e2
theorem zp7(h:o1=49):
 Calls Tryz.prog 32 #[.slice (some a) n c,.slice (some b) m d] w fun e w'=>e = .returned (.slice (some b) m d)∧Below w.heap.size w w':=by
 subst h;go_enter Tryz.func32,Tryz.ntmps32;go_wp2_with fail;go_ret;exact⟨rfl,Below.refl _ _⟩
theorem zrU(h1:o1≠49)(h:o2=49):
 Calls Tryz.prog 32 #[.slice (some a) n c,.slice (some b) m d] w fun e w'=>e = .returned (.slice (some a) n c)∧Below w.heap.size w w':=by
 have f1:(o1==49)=false:=beq_eq_false_iff_ne.2 h1;subst h;clear h1;go_enter Tryz.func32,Tryz.ntmps32;go_wp2_with fail;go_ret;exact⟨rfl,Below.refl _ _⟩
theorem zr3(h1:o1≠49)(h3:o1≠45)(h4:o1≠46)(h:o1=o2)(hs:s1=s2):
 Calls Tryz.prog 32 #[.slice (some a) n c,.slice (some b) m d] w fun e w'=>e = .returned (.slice (some a) n c)∧Below w.heap.size w w':=by
 subst h hs;have f1:(o1==49)=false:=beq_eq_false_iff_ne.2 h1;have f3:(o1==45)=false:=beq_eq_false_iff_ne.2 h3;have f4:(o1==46)=false:=beq_eq_false_iff_ne.2 h4;clear h1 h3 h4;have k0:=cell_regrown d0;have k1:=cell_regrown e0;have k2:=cell_regrown d2;have k3:=cell_regrown e2;go_enter Tryz.func32,Tryz.ntmps32;go_wp2_with fail;refine wp_region_quiet_below (by kernel_rfl) (by kernel_rfl) ?_
 repeat (first|go_big_quiet_step (fail)|quiet_step (fail))
 refine wpQuiet_nil ?_;intro w1 hw';have B1:=hi9 (show Below w.heap.size w w1 by obtain⟨⟨d,os⟩,rfl⟩:=hw';exact below_regrown _ _ _);clear hw';clear k0 k1 k2 k3;go_wp2_with fail;go_ret;exact⟨rfl,B1.out⟩
theorem zs4(h1:o1≠49)(h2:o2≠49)(h:o1≠o2∨(s1≠s2∧o1≠45∧o1≠46)):
 Calls Tryz.prog 32 #[.slice (some a) n c,.slice (some b) m d] w (JnR w (.base 48) (fun _=>False)):=by
 have f1:(o1==49)=false:=beq_eq_false_iff_ne.2 h1;have f2:(o2==49)=false:=beq_eq_false_iff_ne.2 h2;have HR:=hi9 (fun w1 (hb:Below w.heap.size w w1)=>zsU (w:=w) (w1:=w1) (.base 48) ⟨48,0,emp,emp⟩ rfl (zqg 0 (by decide) (by decide) (Nat.zero_le _)) hb);have k0:=cell_regrown d0;have k1:=cell_regrown e0;have k2:=cell_regrown d2;have k3:=cell_regrown e2;by_cases ho:o1=o2
 ·obtain⟨hs,h45,h46⟩:=h.resolve_left (fun q=>q ho);subst ho;have f3:(o1==45)=false:=beq_eq_false_iff_ne.2 h45;have f4:(o1==46)=false:=beq_eq_false_iff_ne.2 h46;have f6:(s1.toList==s2.toList)=false:=beq_eq_false_iff_ne.2 (fun q=>hs (toList_inj q));clear h h1 h2 hs h45 h46;go_enter Tryz.func32,Tryz.ntmps32;go_wp2_with fail;refine wp_region_quiet_below (by kernel_rfl) (by kernel_rfl) ?_
  repeat (first|go_big_quiet_step (fail)|quiet_step (fail))
  refine wpQuiet_nil ?_;intro w1 hw';have B1:=hi9 (show Below w.heap.size w w1 by obtain⟨⟨d,os⟩,rfl⟩:=hw';exact below_regrown _ _ _);clear hw';clear k0 k1 k2 k3;go_wp2_with fail;go_ret;exact HR.out w1 B1.out
 ·have f5:(o1==o2)=false:=beq_eq_false_iff_ne.2 ho;by_cases h45:o1=45
  ·subst h45;have f6:(o2==45)=false:=beq_eq_false_iff_ne.2 (fun e=>ho e.symm);clear h h1 h2 ho;go_enter Tryz.func32,Tryz.ntmps32;go_wp2_with fail;refine wp_region_quiet_below (by kernel_rfl) (by kernel_rfl) ?_
   repeat (first|go_big_quiet_step (fail)|quiet_step (fail))
   refine wpQuiet_nil ?_;intro w1 hw';have B1:=hi9 (show Below w.heap.size w w1 by obtain⟨⟨d,os⟩,rfl⟩:=hw';exact below_regrown _ _ _);clear hw';clear k0 k1 k2 k3;go_wp2_with fail;go_ret;exact HR.out w1 B1.out
  ·have f3:(o1==45)=false:=beq_eq_false_iff_ne.2 h45;by_cases h46:o1=46
   ·subst h46;have f6:(o2==46)=false:=beq_eq_false_iff_ne.2 (fun e=>ho e.symm);clear h h1 h2 ho h45;go_enter Tryz.func32,Tryz.ntmps32;go_wp2_with fail;refine wp_region_quiet_below (by kernel_rfl) (by kernel_rfl) ?_
    repeat (first|go_big_quiet_step (fail)|quiet_step (fail))
    refine wpQuiet_nil ?_;intro w1 hw';have B1:=hi9 (show Below w.heap.size w w1 by obtain⟨⟨d,os⟩,rfl⟩:=hw';exact below_regrown _ _ _);clear hw';clear k0 k1 k2 k3;go_wp2_with fail;go_ret;exact HR.out w1 B1.out
   ·have f4:(o1==46)=false:=beq_eq_false_iff_ne.2 h46;clear h h1 h2 ho h45 h46;go_enter Tryz.func32,Tryz.ntmps32;go_wp2_with fail;refine wp_region_quiet_below (by kernel_rfl) (by kernel_rfl) ?_
    repeat (first|go_big_quiet_step (fail)|quiet_step (fail))
    refine wpQuiet_nil ?_;intro w1 hw';have B1:=hi9 (show Below w.heap.size w w1 by obtain⟨⟨d,os⟩,rfl⟩:=hw';exact below_regrown _ _ _);clear hw';clear k0 k1 k2 k3;go_wp2_with fail;go_ret;exact HR.out w1 B1.out
end
theorem zoo{w w3:World}{A:Option Addr}{n c:Nat}{P:List Nd}(hb:Below w.heap.size w w3)(h:Ns w3 A n c P):
 (w3.alloc (.cells #[.int .i64 45,.int .i64 0,.string ⟨#[]⟩,.string ⟨#[]⟩] 41)).ownsRow w.heap.size 41 4 (.slice (some ⟨w3.heap.size,0,none⟩) 1 1) 1 (zh [⟨45,0,emp,emp⟩])∧Below w.heap.size w (w3.alloc (.cells #[.int .i64 45,.int .i64 0,.string ⟨#[]⟩,.string ⟨#[]⟩] 41))∧Ns (w3.alloc (.cells #[.int .i64 45,.int .i64 0,.string ⟨#[]⟩,.string ⟨#[]⟩] 41)) A n c P :=
 ⟨World.ownsRow.mono (zhq w3 ⟨45,0,emp,emp⟩) hb.size,hb.alloc hb.size (.cells #[.int .i64 45,.int .i64 0,.string ⟨#[]⟩,.string ⟨#[]⟩] 41),h.keep (za w3 (.cells #[.int .i64 45,.int .i64 0,.string ⟨#[]⟩,.string ⟨#[]⟩] 41))⟩
def zsO(N:Nat):Prop:=∀(k1 k2:Kd),k1.sz≤N→k1.sz+k2.sz≤2000→k1.valid→k2.valid→∀(A B:Option Addr) (n c m d:Nat) (w:World),Ns w A n c k1.flat→Ns w B m d k2.flat→
 Calls Tryz.prog 32 #[.slice A n c,.slice B m d] w (JnR w (zm k1 k2) fun g=>InB A g∨InB B g)
theorem zsP(N:Nat)(ih:zsO N)(p q:Kd)(hp:p.sz≤N)(hsz:p.sz+q.sz≤2000)(hvp:p.valid)(hvq:q.valid)(A B:Option Addr)(n c m d:Nat)(w:World)(h:Ns w A n c (Kd.set p).flat)(k:Ns w B m d (Kd.set q).flat):
 Calls Tryz.prog 32 #[.slice A n c,.slice B m d] w (JnR w (.set (zm p q)) (fun _=>False)):=by
 obtain⟨i0,hi,hz0,hz1,hz2⟩:=info_parts zc5;obtain⟨a,rfl,hn1,d0,-⟩:=zaI h;obtain⟨b,rfl,hm1,e0,-⟩:=zaI k;have R:=hi9 (fun w' (hb:Below w.heap.size w w')=>ih p q hp hsz hvp hvq (some (a.add 4)) (some (b.add 4)) (n-1) (c-1) (m-1) (d-1) w' (zfR (h.keep hb)) (zfR (k.keep hb)));have hnc:=h.cap;have hmd:=k.cap;have hcm:=h.max;have hdm:=k.max;have hb0:a.block<w.heap.size:=block_lt_of_cell d0;have hb1:b.block<w.heap.size:=block_lt_of_cell e0;have HB:=hi9 (za w (.cells #[.int .i64 45,.int .i64 0,.string ⟨#[]⟩,.string ⟨#[]⟩] 41));have HR0:=hi9 (zhq w ⟨45,0,emp,emp⟩);have hp1:2≤n:=by have:=h.len;have:=jL p;rw [Kd.flat,List.length_cons] at *;omega
 have hq1:2≤m:=by have:=k.len;have:=jL q;rw [Kd.flat,List.length_cons] at *;omega
 have hln:n≤4000:=by have:=h.len;rw [jd] at this;simp only [Kd.sz] at this;omega
 have hlm:m≤4000:=by have:=k.len;rw [jd] at this;simp only [Kd.sz] at this;omega
 have HSZ:=hi9 (show(zm p q).flat.length≤2000 by rw [jd];have:=ziC hvp.ok hvq.ok;omega);unfold maxLen at hcm hdm;simp only [opN] at d0 e0;have HFL:=hi9 (show(Kd.set (zm p q)).flat=⟨45,0,emp,emp⟩::(zm p q).flat from rfl);generalize (zm p q)=r at *;clear h k ih hp hvp hvq hsz;go_enter Tryz.func32,Tryz.ntmps32;have hcne:c≠1:=by omega
 have hdne:d≠1:=by omega
 have hni:(1:Int)≤(n:Int):=by omega
 have hmi:(1:Int)≤(m:Int):=by omega
 have HB1:Hid (Below w.heap.size w w.drew):=hi9 ⟨rfl,rfl,rfl,Nat.le_refl _,fun _ _=>rfl⟩;have HB2:Hid (Below w.heap.size w (w.alloc (.cells #[.int .i64 45,.int .i64 0,.string ⟨#[]⟩,.string ⟨#[]⟩] 41)).drew):=hi9 (HB.out.drew);have RA:Hid ((w.alloc (.cells #[.int .i64 45,.int .i64 0,.string ⟨#[]⟩,.string ⟨#[]⟩] 41)).drew.ownsRow w.heap.size 41 4 (.slice (some ⟨w.heap.size,0,none⟩) 1 1) 1 (zh [⟨45,0,emp,emp⟩])):=hi9 HR0.out;go_wp2_with fail;go_region_law (first
  |(refine zhj rfl (.tmp 30) (.tmp 35) rfl w.heap.size _ 1 [⟨45,0,emp,emp⟩] r.flat rfl RW.out rfl a3 r.flat.length c3 rfl rfl NC.out HLZ.out HBS.out ?_;intro A5 c5 w5 hown hgrow)
  |(go_simp;go_at_call 32;(refine(R.out _ ?hbx).mono ?_);(case hbx=>first|exact HB1.out|exact HB2.out);rintro e w3 ⟨A3,c3,rfl,n3,b3,-⟩;(obtain⟨a3,rfl,-,-,-⟩:=zaI n3);(have NO:=hi9 n3.ok);(first|(have RW:=hi9 (z8 RA.out b3);have BX:=hi9 (HB2.out.trans (b3.mono HB2.out.size));have NC:=hi9 n3.at_.cells)|(have SO:=zoo (HB1.out.trans (b3.mono HB1.out.size)) n3;have RW:=hi9 SO.1;have BX:=hi9 SO.2.1;have NC:=hi9 SO.2.2.at_.cells));(have HBS:=hi9 BX.out.size);(have HLZ:=hi9 (show 0<r.flat.length∧1+r.flat.length≤1000000 from⟨jL r,by have:=HSZ.out;omega⟩));clear n3 b3))
 all_goals
  have B5:=hi9 (BX.out.grown hgrow HBS.out (zD RW.out));have OW:=hi9 hown;clear hown hgrow RW NC HBS BX;go_wp2_with fail;go_ret;refine⟨some A5,c5,?_,?_,B5.out,fun y hy => .inl (by injection hy with hy;subst hy;exact zD OW.out _ rfl)⟩;rotate_left
  ·rw [HFL.out];exact zjR OW.out (by have:=HSZ.out;simp;omega) (fun y hy=>by
    rcases List.mem_cons.1 hy with rfl|hy
    ·exact zqg 0 (by decide) (by decide) (Nat.zero_le _)
    ·exact NO.out y hy)
  ·have:=zi2 OW.out;rw [HFL.out];simp only [List.length_cons];rw [show 1+r.flat.length=r.flat.length+1 by omega];rfl
def zcH(w:World)(R:Nat):Option (Kd × List Nd)→Ending→World→Prop
 | none,e,w'=>e = .panicked zim∧w.grownBy w' (some R)
 | some (k,r),e,w'=>∃v:List Value,e = .returned (.agg v.toArray)∧KAt w' (fun b=>w.heap.size≤b) k v∧RdK w' R r∧w.grownBy w' (some R)
def znU(R m:Nat):Prop:=∀(Q:List Nd) (w:World),RdK w R Q→Q.length≤m→Calls Tryz.prog 111 #[.pointer (some ⟨R,0,none⟩)] w (zcH w R (zw m Q))
def zrV(w:World)(R:Nat):Option (ByteArray × Bool × Kd × List Nd)→Ending→World→Prop
 | none,e,w'=>e = .panicked zim∧w.grownBy w' (some R)
 | some (s,b,k,r),e,w'=>∃u:List Value,e = .returned (.agg (.string s :: .bool b :: u).toArray)∧KAt w' (fun b=>w.heap.size≤b) k u∧RdK w' R r∧w.grownBy w' (some R)
theorem RdK.but{w w':World}{R b:Nat}{Q:List Nd}(h:RdK w R Q)(hg:w.grownBy w' (some b))(hb:R<b):RdK w' R Q:=by
 obtain⟨⟨A,n,c,h1,h2,h3⟩,h4⟩:=h;have hne:some R≠some b:=fun e=>by injection e with e;omega
 refine⟨⟨A,n,c,hg.cell h1 hne,h2.but hg (fun h0 a e=>Nat.ne_of_lt (Nat.lt_trans (h3 h0 a e) hb)),h3⟩,?_⟩;exact(World.frozen?_of_block (a:=⟨R,0,none⟩) (hg.block R (block_lt_of_cell h1) hne)).trans h4
theorem zil(w:World)(b:Nat)(y0 y1 y2 y3 y4 y5 y6 y7:Value):w.grownBy ((((((((w.setCell ⟨b,0,none⟩ y0).setCell ⟨b,1,none⟩ y1).setCell ⟨b,2,none⟩ y2).setCell ⟨b,3,none⟩ y3).setCell ⟨b,4,none⟩ y4).setCell ⟨b,5,none⟩ y5).setCell ⟨b,6,none⟩ y6).setCell ⟨b,7,none⟩ y7) (some b):=
 zf (zf (zf (zf (zf (zf (zf (zf (zfk w (some b)) (zg _ ⟨b,0,none⟩ _)) (zg _ ⟨b,1,none⟩ _)) (zg _ ⟨b,2,none⟩ _)) (zg _ ⟨b,3,none⟩ _)) (zg _ ⟨b,4,none⟩ _)) (zg _ ⟨b,5,none⟩ _)) (zg _ ⟨b,6,none⟩ _)) (zg _ ⟨b,7,none⟩ _)
theorem zgm(w:World)(b:Nat)(y0 y1 y2 y3 y4 y5 y6 y7:Value){g:Nat}(h:g≠b):((((((((w.setCell ⟨b,0,none⟩ y0).setCell ⟨b,1,none⟩ y1).setCell ⟨b,2,none⟩ y2).setCell ⟨b,3,none⟩ y3).setCell ⟨b,4,none⟩ y4).setCell ⟨b,5,none⟩ y5).setCell ⟨b,6,none⟩ y6).setCell ⟨b,7,none⟩ y7).heap[g]?=w.heap[g]?:=by
 iterate 8 rw [Below.heap_setCell _ _ _ g h]
theorem jO{w w4 W:World}{R b:Nat}(h:w.grownBy w4 (some R))(k:w4.grownBy W (some b))(hb:w.heap.size≤b):w.grownBy W (some R):=
 ⟨k.os.trans h.os,k.tape.trans h.tape,k.output.trans h.output,Nat.le_trans h.size k.size,fun i hi hn=>(k.block i (Nat.lt_of_lt_of_le hi h.size) (fun e=>by injection e with e;omega)).trans (h.block i hi hn)⟩
theorem ze5:emp.toList = []:=by rw [ByteArray.toList_eq];rfl
theorem zdm{w:World}{B:Nat→Prop}{k:Kd}{v:List Value}(h:KAt w B k v):∃(o n:Int) (s t:ByteArray) (p:Option Addr) (A:Option Addr) (m c:Nat),v = [.int .i64 o,.int .i64 n,.string s,.string t,.pointer p,.slice A m c]:=by
 cases k with
 | base x=>obtain⟨_,rfl⟩:=h;exact⟨_,_,_,_,_,_,_,_,rfl⟩
 | ent s=>obtain⟨_,rfl⟩:=h;exact⟨_,_,_,_,_,_,_,_,rfl⟩
 | set q=>obtain⟨_,_,_,rfl,_⟩:=h;exact⟨_,_,_,_,_,_,_,_,rfl⟩
 | fs f=>obtain⟨_,_,_,rfl,_⟩:=h;exact⟨_,_,_,_,_,_,_,_,rfl⟩
theorem zmP(R m:Nat)(ih:znU R m)(x:ByteArray)(Q:List Nd)(w:World)(h:RdK w R Q)(hl:Q.length≤m+1):
 Calls Tryz.prog 124 #[.pointer (some ⟨R,0,none⟩),.string x] w (zrV w R (zdF m x Q)):=by
 have HR:=hi9 h;have IH:=hi9 ih;clear h ih;go_enter Tryz.func124,Tryz.ntmps124;go_wp2_with fail;have G0:=hi9 (zc (za w (.cells #[.string ⟨#[]⟩,.bool false,.int .i64 0,.int .i64 0,.string ⟨#[]⟩,.string ⟨#[]⟩,.pointer none,.slice none 0 0] 207)) (some R));have X0:=hi9 (zdA w (.string ⟨#[]⟩) (.bool false) (.int .i64 0) (.int .i64 0) (.string ⟨#[]⟩) (.string ⟨#[]⟩) (.pointer none) (.slice none 0 0) 207);have R0:=hi9 (HR.out.keep (za w (.cells #[.string ⟨#[]⟩,.bool false,.int .i64 0,.int .i64 0,.string ⟨#[]⟩,.string ⟨#[]⟩,.pointer none,.slice none 0 0] 207)));have HRL:=hi9 (show R<w.heap.size by obtain⟨⟨_,_,_,h1,_⟩,_⟩:=HR.out;exact block_lt_of_cell h1);have HNE:=hi9 (show some w.heap.size≠some R from fun e=>by injection e with e;have:=HRL.out;omega);obtain⟨w0,hw0⟩:∃w0,w.alloc (.cells #[.string ⟨#[]⟩,.bool false,.int .i64 0,.int .i64 0,.string ⟨#[]⟩,.string ⟨#[]⟩,.pointer none,.slice none 0 0] 207)=w0:=⟨_,rfl⟩
 have HS0:=hi9 (show w.heap.size≤w0.heap.size by rw [←hw0];simp);rw [hw0] at G0 X0 R0 ⊢;clear hw0 HR;refine(zbT R Q w0 R0.out).mono ?_
 cases Q with
 | nil =>
  rintro e w1 ⟨rfl,g1⟩
  go_wp2_with fail
  exact⟨rfl,rfl,G0.out.trans g1⟩
 | cons y r =>
  rintro e w1 ⟨rfl,r1,g1⟩
  have G1:=hi9 (G0.out.trans g1)
  have X1:=hi9 (X0.out.but g1 HNE.out)
  have R1:=hi9 r1
  have HS1:=hi9 (Nat.le_trans HS0.out g1.size)
  have HYO:=hi9 (show zcP y by obtain⟨⟨_,_,_,_,h2,_⟩,_⟩:=R0.out;exact h2.ok y (by simp))
  have HW1:=hi9 (show R<w1.heap.size by have:=HRL.out;have:=HS1.out;omega)
  clear r1 g1 G0 X0 R0 HS0
  unfold ndV
  have HBAD:=hi9 (show¬zha x y→zdF m x (y :: r)=none from fun h=>if_neg h)
  have HGOOD:=hi9 (show zha x y→zdF m x (y :: r)=(match zw m r with|none=>none|some (k,r')=>some (y.s,y.n==1,k,r')) from fun h=>if_pos h)
  generalize zdF m x (y :: r)=PP at *
  by_cases ho:y.op=47
  ·have HO:=hi9 ho
   have KN:=hi9 (fun w=>zaB y.s w HYO.out.s);rw [ho];clear ho;by_cases hn:y.n=0
   ·have HN:=hi9 hn;rw [hn];clear hn;rcases zn y.t with ht|⟨t1,t2,t3⟩
    ·have HT:=hi9 ht;rw [ht];clear ht;have B2:=hi9 (za w1 (.cells #[.int .i64 47,.int .i64 0,.string y.s,.string ⟨#[]⟩] 41));have V2:=hi9 (zbe w1 (.int .i64 47) (.int .i64 0) (.string y.s) (.string ⟨#[]⟩) 41);go_wp2_with fail;obtain⟨w2,hw2⟩:∃w2,w1.alloc (.cells #[.int .i64 47,.int .i64 0,.string y.s,.string ⟨#[]⟩] 41)=w2:=⟨_,rfl⟩
     rw [hw2] at B2 V2 ⊢;clear hw2;refine(KN.out w2).mono ?_;rintro e w3 ⟨rfl,b3⟩;have B3:=bh B2 b3;have V3:=hi9 (V2.out.keep b3);have G3:=hi9 (zf G1.out (zc B3.out (some R)));have R3:=hi9 (R1.out.keep B3.out);have X3:=hi9 (X1.out.keep B3.out);have HS3:=hi9 (Nat.le_trans HS1.out B3.out.size);clear b3 B2 V2 G1 R1 X1 HS1 KN B3;obtain⟨c0,c1,c2,c3,-,-,-,-⟩:=V3.out;by_cases hf:zd y.s=0
     ·have HF:=hi9 hf;rw [hf,zM];clear hf;rcases zf0 y.s x with ⟨l0,l1,l2⟩|hl2
      ·have HPG:=hi9 (HGOOD.out ⟨HO.out,by rw [HN.out];simp,HT.out,HF.out,l0⟩);have bd3:Below w3.heap.size w3 w3.drew:=⟨rfl,rfl,rfl,Nat.le_refl _,fun _ _=>rfl⟩
       have VD:=hi9 (V3.out.keep bd3);have XD:=hi9 (X3.out.keep bd3);have GD:=hi9 (zf G3.out (zc bd3 (some R)));have HSD:=hi9 (show w.heap.size≤w3.drew.heap.size from HS3.out);have HWD:=hi9 (show R<w1.heap.size from HW1.out);have IK:=hi9 (IH.out r w3.drew (R3.out.keep bd3) (by simp at hl;omega));clear bd3;obtain⟨e0,e1,e2,e3,-,-,-,-⟩:=VD.out;rcases hp:zw m r with _|⟨k,r'⟩
       ·have HPN:=hi9 (show PP=none by rw [HPG.out,hp]);have IK2:=hi9 (fun d os=>(IH.out r (grow (redrawn w3 d) os) (R3.out.keep (below_regrown w3 d os)) (by simp at hl;omega)));simp only [hp] at IK2;clear IK hp e0 e1 e2 e3 HPG;have k0:=cell_regrown c0;have k1:=cell_regrown c1;have k2:=cell_regrown c2;have k3:=cell_regrown c3;go_wp2_with fail;refine zd4 (l := [_,_,_,_,_,_]) [0,1,2,3,4,5] [6] (by kernel_rfl) (by decide) (by kernel_rfl) rfl (fun w'=>∃p:Regrown,w'=grow (redrawn w3 p.d) p.os) (fun ch w'=>ch=zim∧w3.grownBy w' (some R)) ⟨⟨w3.drawn+1,#[]⟩,by rw [grow_empty];rfl⟩ ?_ ?_
        ·rintro a' ch w' hd ⟨rfl,hg⟩;exact⟨hd,by rw [HPN.out];exact⟨rfl,zf G3.out hg⟩⟩
        ·repeat (first|go_big_quiet_step (fail)|quiet_step (fail))
         refine wpQuiet_nil ?_;refine⟨fun o ho=>?_,trivial⟩;injection ho with ho;subst ho;refine⟨by go_simp,?_⟩;rintro w' ⟨⟨d,os⟩,rfl⟩;go_wp2_with fail;refine(IK2.out d os).mono ?_;rintro e w4 ⟨rfl,g4⟩;exact⟨rfl,zf (zc (below_regrown w3 d os) _) g4⟩
       ·have HPN:=hi9 (show PP=some (y.s,y.n==1,k,r') by rw [HPG.out,hp]);rw [hp] at IK;clear hp;go_wp2_with fail;go_region_with (go_at_call 111;(refine IK.out.mono ?_);rintro e w4 ⟨v,rfl,hk,hr,g4⟩;(obtain⟨o,n,s0,t0,p,A,m0,cc,rfl⟩:=zdm hk);(have HK4:=hi9 hk);(have HR4:=hi9 hr);(have G4:=hi9 g4);(obtain⟨u0,u1,u2,u3,-,-,-,-⟩:=VD.out.but g4 (by intro e;injection e with e;have:=HWD.out;omega));(obtain⟨d0,d1,d2,d3,d4,d5,d6,d7,z0,z1,z2,z3,z4,z5,z6,z7⟩:=XD.out.but g4 HNE.out);clear hk hr g4)
        all_goals
         have HPB:=hi9 (show PP=some (y.s,false,k,r') by rw [HPN.out,HN.out];rfl);have Y5:=(XD.out.but G4.out HNE.out).set (.string y.s) (.bool false) (.int .i64 o) (.int .i64 n) (.string s0) (.string t0) (.pointer p) (.slice A m0 cc);obtain⟨j0,j1,j2,j3,j4,j5,j6,j7,-,-,-,-,-,-,-,-⟩:=Y5;have gs:=zil w4 w.heap.size (.string y.s) (.bool false) (.int .i64 o) (.int .i64 n) (.string s0) (.string t0) (.pointer p) (.slice A m0 cc);have hRb:=HRL.out;have R5:=hi9 (HR4.out.but gs hRb);have K5:=hi9 ((HK4.out.cong (fun g hg=>zgm w4 w.heap.size (.string y.s) (.bool false) (.int .i64 o) (.int .i64 n) (.string s0) (.string t0) (.pointer p) (.slice A m0 cc) (by have hq:w.heap.size<w3.drew.heap.size:=block_lt_of_cell XD.out.c0;have hg':w3.drew.heap.size≤g:=hg;omega))).mono (B':=fun b=>w.heap.size≤b) (fun b hb _=>Nat.le_trans HSD.out hb));have G5:=hi9 (show w.grownBy _ (some R) from jO (zf GD.out G4.out) gs (Nat.le_refl _));clear gs;go_wp2_with fail;refine bodyPost_ret (v := .agg #[.string y.s,.bool false,.int .i64 o,.int .i64 n,.string s0,.string t0,.pointer p,.slice A m0 cc]) (by simp [results,Tryz.results124,go_sem,j0,j1,j2,j3,j4,j5,j6,j7]) rfl ?_;rw [HPB.out];exact⟨[.int .i64 o,.int .i64 n,.string s0,.string t0,.pointer p,.slice A m0 cc],rfl,K5.out,R5.out,G5.out⟩
      ·have HPN:=hi9 (HBAD.out (fun h=>by rcases hl2 with h2|h2 <;> exact h2.1 h.2.2.2.2));have GB:=G3;rcases hl2 with ⟨-,l1⟩|⟨-,l1,l2⟩
       ·go_wp2_with fail;refine⟨rfl,?_⟩;rw [HPN.out];exact⟨rfl,GB.out⟩
       ·go_wp2_with fail;refine⟨rfl,?_⟩;rw [HPN.out];exact⟨rfl,GB.out⟩
     ·have HPN:=hi9 (HBAD.out (fun h=>hf h.2.2.2.1));rw [jc hf];generalize zd y.s=ff at *;clear hf;have GB:=G3;go_wp2_with fail;refine⟨rfl,?_⟩;rw [HPN.out];exact⟨rfl,GB.out⟩
    ·have HPN:=hi9 (HBAD.out (fun h=>t2 (by rw [h.2.2.1];exact ze5)));clear HBAD HGOOD;go_wp2_with fail;refine⟨rfl,?_⟩;rw [HPN.out];exact⟨rfl,zf G1.out (zc (za _ _) _)⟩
   ·by_cases hn1:y.n=1
    ·have hn:=hn1;clear hn1;have HN:=hi9 hn;rw [hn];clear hn;rcases zn y.t with ht|⟨t1,t2,t3⟩
     ·have HT:=hi9 ht;rw [ht];clear ht;have B2:=hi9 (za w1 (.cells #[.int .i64 47,.int .i64 1,.string y.s,.string ⟨#[]⟩] 41));have V2:=hi9 (zbe w1 (.int .i64 47) (.int .i64 1) (.string y.s) (.string ⟨#[]⟩) 41);go_wp2_with fail;obtain⟨w2,hw2⟩:∃w2,w1.alloc (.cells #[.int .i64 47,.int .i64 1,.string y.s,.string ⟨#[]⟩] 41)=w2:=⟨_,rfl⟩
      rw [hw2] at B2 V2 ⊢;clear hw2;refine(KN.out w2).mono ?_;rintro e w3 ⟨rfl,b3⟩;have B3:=bh B2 b3;have V3:=hi9 (V2.out.keep b3);have G3:=hi9 (zf G1.out (zc B3.out (some R)));have R3:=hi9 (R1.out.keep B3.out);have X3:=hi9 (X1.out.keep B3.out);have HS3:=hi9 (Nat.le_trans HS1.out B3.out.size);clear b3 B2 V2 G1 R1 X1 HS1 KN B3;obtain⟨c0,c1,c2,c3,-,-,-,-⟩:=V3.out;by_cases hf:zd y.s=0
      ·have HF:=hi9 hf;rw [hf,zM];clear hf;rcases zf0 y.s x with ⟨l0,l1,l2⟩|hl2
       ·have HPG:=hi9 (HGOOD.out ⟨HO.out,by rw [HN.out];simp,HT.out,HF.out,l0⟩);have bd3:Below w3.heap.size w3 w3.drew:=⟨rfl,rfl,rfl,Nat.le_refl _,fun _ _=>rfl⟩
        have VD:=hi9 (V3.out.keep bd3);have XD:=hi9 (X3.out.keep bd3);have GD:=hi9 (zf G3.out (zc bd3 (some R)));have HSD:=hi9 (show w.heap.size≤w3.drew.heap.size from HS3.out);have HWD:=hi9 (show R<w1.heap.size from HW1.out);have IK:=hi9 (IH.out r w3.drew (R3.out.keep bd3) (by simp at hl;omega));clear bd3;obtain⟨e0,e1,e2,e3,-,-,-,-⟩:=VD.out;rcases hp:zw m r with _|⟨k,r'⟩
        ·have HPN:=hi9 (show PP=none by rw [HPG.out,hp]);have IK2:=hi9 (fun d os=>(IH.out r (grow (redrawn w3 d) os) (R3.out.keep (below_regrown w3 d os)) (by simp at hl;omega)));simp only [hp] at IK2;clear IK hp e0 e1 e2 e3 HPG;have k0:=cell_regrown c0;have k1:=cell_regrown c1;have k2:=cell_regrown c2;have k3:=cell_regrown c3;go_wp2_with fail;refine zd4 (l := [_,_,_,_,_,_]) [0,1,2,3,4,5] [6] (by kernel_rfl) (by decide) (by kernel_rfl) rfl (fun w'=>∃p:Regrown,w'=grow (redrawn w3 p.d) p.os) (fun ch w'=>ch=zim∧w3.grownBy w' (some R)) ⟨⟨w3.drawn+1,#[]⟩,by rw [grow_empty];rfl⟩ ?_ ?_
         ·rintro a' ch w' hd ⟨rfl,hg⟩;exact⟨hd,by rw [HPN.out];exact⟨rfl,zf G3.out hg⟩⟩
         ·repeat (first|go_big_quiet_step (fail)|quiet_step (fail))
          refine wpQuiet_nil ?_;refine⟨fun o ho=>?_,trivial⟩;injection ho with ho;subst ho;refine⟨by go_simp,?_⟩;rintro w' ⟨⟨d,os⟩,rfl⟩;go_wp2_with fail;refine(IK2.out d os).mono ?_;rintro e w4 ⟨rfl,g4⟩;exact⟨rfl,zf (zc (below_regrown w3 d os) _) g4⟩
        ·have HPN:=hi9 (show PP=some (y.s,y.n==1,k,r') by rw [HPG.out,hp]);rw [hp] at IK;clear hp;go_wp2_with fail;go_region_with (go_at_call 111;(refine IK.out.mono ?_);rintro e w4 ⟨v,rfl,hk,hr,g4⟩;(obtain⟨o,n,s0,t0,p,A,m0,cc,rfl⟩:=zdm hk);(have HK4:=hi9 hk);(have HR4:=hi9 hr);(have G4:=hi9 g4);(obtain⟨u0,u1,u2,u3,-,-,-,-⟩:=VD.out.but g4 (by intro e;injection e with e;have:=HWD.out;omega));(obtain⟨d0,d1,d2,d3,d4,d5,d6,d7,z0,z1,z2,z3,z4,z5,z6,z7⟩:=XD.out.but g4 HNE.out);clear hk hr g4)
         all_goals
          have HPB:=hi9 (show PP=some (y.s,true,k,r') by rw [HPN.out,HN.out];rfl);have Y5:=(XD.out.but G4.out HNE.out).set (.string y.s) (.bool true) (.int .i64 o) (.int .i64 n) (.string s0) (.string t0) (.pointer p) (.slice A m0 cc);obtain⟨j0,j1,j2,j3,j4,j5,j6,j7,-,-,-,-,-,-,-,-⟩:=Y5;have gs:=zil w4 w.heap.size (.string y.s) (.bool true) (.int .i64 o) (.int .i64 n) (.string s0) (.string t0) (.pointer p) (.slice A m0 cc);have hRb:=HRL.out;have R5:=hi9 (HR4.out.but gs hRb);have K5:=hi9 ((HK4.out.cong (fun g hg=>zgm w4 w.heap.size (.string y.s) (.bool true) (.int .i64 o) (.int .i64 n) (.string s0) (.string t0) (.pointer p) (.slice A m0 cc) (by have hq:w.heap.size<w3.drew.heap.size:=block_lt_of_cell XD.out.c0;have hg':w3.drew.heap.size≤g:=hg;omega))).mono (B':=fun b=>w.heap.size≤b) (fun b hb _=>Nat.le_trans HSD.out hb));have G5:=hi9 (show w.grownBy _ (some R) from jO (zf GD.out G4.out) gs (Nat.le_refl _));clear gs;go_wp2_with fail;refine bodyPost_ret (v := .agg #[.string y.s,.bool true,.int .i64 o,.int .i64 n,.string s0,.string t0,.pointer p,.slice A m0 cc]) (by simp [results,Tryz.results124,go_sem,j0,j1,j2,j3,j4,j5,j6,j7]) rfl ?_;rw [HPB.out];exact⟨[.int .i64 o,.int .i64 n,.string s0,.string t0,.pointer p,.slice A m0 cc],rfl,K5.out,R5.out,G5.out⟩
       ·have HPN:=hi9 (HBAD.out (fun h=>by rcases hl2 with h2|h2 <;> exact h2.1 h.2.2.2.2));have GB:=G3;rcases hl2 with ⟨-,l1⟩|⟨-,l1,l2⟩
        ·go_wp2_with fail;refine⟨rfl,?_⟩;rw [HPN.out];exact⟨rfl,GB.out⟩
        ·go_wp2_with fail;refine⟨rfl,?_⟩;rw [HPN.out];exact⟨rfl,GB.out⟩
      ·have HPN:=hi9 (HBAD.out (fun h=>hf h.2.2.2.1));rw [jc hf];generalize zd y.s=ff at *;clear hf;have GB:=G3;go_wp2_with fail;refine⟨rfl,?_⟩;rw [HPN.out];exact⟨rfl,GB.out⟩
     ·have HPN:=hi9 (HBAD.out (fun h=>t2 (by rw [h.2.2.1];exact ze5)));clear HBAD HGOOD;go_wp2_with fail;refine⟨rfl,?_⟩;rw [HPN.out];exact⟨rfl,zf G1.out (zc (za _ _) _)⟩
    ·have HPN:=hi9 (HBAD.out (fun h=>h.2.1.elim hn hn1));have e0:(y.n != 0)=true:=by rw [bne_iff_ne];exact hn
     have e1:(y.n != 1)=true:=by rw [bne_iff_ne];exact hn1
     clear HBAD HGOOD hn hn1;go_wp2_with fail;refine⟨rfl,?_⟩;rw [HPN.out];exact⟨rfl,zf G1.out (zc (za _ _) _)⟩
  ·have HPN:=hi9 (HBAD.out (fun h=>ho h.1))
   have h1:(y.op != 47)=true:=by rw [bne_iff_ne];exact ho
   clear ho HBAD HGOOD;go_wp2_with fail;refine⟨rfl,?_⟩;rw [HPN.out];exact⟨rfl,zf G1.out (zc (za _ _) _)⟩
structure Fe where
 y:Kfd
 o:Int
 n:Int
 s:ByteArray
 t:ByteArray
 p:Option Addr
 A:Option Addr
 m:Nat
 c:Nat
def Fe.u(x:Fe):List Value := [.int .i64 x.o,.int .i64 x.n,.string x.s,.string x.t,.pointer x.p,.slice x.A x.m x.c]
def Fe.eight(x:Fe):List Value := .string x.y.1 :: .bool x.y.2.1 :: x.u
def jN:List Fe→List Value
 | [] => []
 | x :: E => .string x.y.1 :: .bool x.y.2.1 :: .int .i64 x.o :: .int .i64 x.n :: .string x.s :: .string x.t :: .pointer x.p :: .slice x.A x.m x.c :: jN E
@[simp] theorem zcr (E:List Fe):(jN E).length=E.length*8:=by
 induction E with
 | nil=>rfl
 | cons x E ih=>simp only [jN,List.length_cons,ih];omega
theorem zei(U V:List Fe):jN (U ++ V)=jN U ++ jN V:=by
 induction U with
 | nil=>rfl
 | cons u U ih=>simp only [List.cons_append,jN,ih]
theorem zej(E:List Fe):∀v∈jN E,v.oneCell'=true:=by
 induction E with
 | nil=>intro v hv;cases hv
 | cons u U ih =>
  intro v hv
  simp only [jN,List.mem_cons] at hv
  rcases hv with rfl|rfl|rfl|rfl|rfl|rfl|rfl|rfl|hv
  ·rfl
  ·rfl
  ·rfl
  ·rfl
  ·rfl
  ·rfl
  ·rfl
  ·rfl
  ·exact ih v hv
theorem zfg:∀(E:List Fe) (k:Nat) (x:Fe),E[k]?=some x→∀j v,x.eight[j]?=some v→(jN E)[k*8+j]?=some v
 | [],k,x,h=>by simp at h
 | y :: E,0,x,h=>by
  simp at h;subst h;intro j v hv;rw [Nat.zero_mul,Nat.zero_add]
  match j,hv with
  | 0,hv=>exact hv
  | 1,hv=>exact hv
  | 2,hv=>exact hv
  | 3,hv=>exact hv
  | 4,hv=>exact hv
  | 5,hv=>exact hv
  | 6,hv=>exact hv
  | 7,hv=>exact hv
  | j+8,hv=>simp [Fe.eight,Fe.u] at hv
 | y :: E,k+1,x,h=>by
  intro j v hv;have:=zfg E k x (by simpa using h) j v hv;rw [show(k+1)*8+j=k*8+j+1+1+1+1+1+1+1+1 by omega];simpa [jN] using this
theorem zqi:(Tryz.prog.info? 207).map (fun i=>(i.zero,i.size,i.bytes))=some (some (.agg #[.string ⟨#[]⟩,.bool false,.int .i64 0,.int .i64 0,.string ⟨#[]⟩,.string ⟨#[]⟩,.pointer none,.slice none 0 0]),8,104):=by kernel_rfl
theorem zrd(a:Addr)(x y:Nat):(a.add x).add y=a.add (x+y):=by
 unfold Addr.add;by_cases hx:x=0 <;> by_cases hy:y=0 <;> simp [hx,hy,Nat.add_assoc]
theorem zdG{w:World}{B:Nat→Prop}{a:Addr}(hB:B a.block):∀(E0 E:List Fe),(∀j u,(jN (E0 ++ E))[j]?=some u→w.cell? (a.add j)=some u)→(∀x∈E,KAt w B x.y.2.2 x.u)→FAt w B (some a) E0.length (ofL (E.map Fe.y))
 | _,[],_,_=>trivial
 | E0,x :: E,h,hE=>by
  refine⟨⟨a,x.u,rfl,hB,fun j v hv=>?_,hE x (by simp)⟩,?_⟩
  ·rw [zrd];exact h _ _ (zfg (E0 ++ x :: E) E0.length x (by simp) j v hv)
  ·have:=zdG hB (E0 ++ [x]) E (by simpa using h) fun y hy=>hE y (by simp [hy]);simpa [ofL] using this
theorem zkU:∀L:List Kfd,(ofL L).len=L.length
 | []=>rfl
 | y :: r=>by simp [ofL,Fl.len,zkU r]
structure zeo(w:World)(base:Nat)(v:Value)(E:List Fe):Prop where
 own:w.ownsRow base 207 8 v E.length (jN E)
 ok:∀x∈E,KAt w (fun b=>base≤b∧some b≠v.ownBlock) x.y.2.2 x.u
theorem zeo.nil(w:World)(base:Nat):zeo w base (.slice none 0 0) []:=⟨World.ownsRow_nil _ _ _ _,fun _ h=>nomatch h⟩
theorem zeo.keep{w w':World}{base:Nat}{v:Value}{E:List Fe}{R:Nat}(h:zeo w base v E)(hg:w.grownBy w' (some R))(hR:R<base):zeo w' base v E:=by
 refine⟨h.own.kept hg ?_,fun x hx=>?_⟩
 ·rcases hv:v.ownBlock with _|k
  ·exact .inl rfl
  ·refine .inr fun e=>?_;injection e with e;have:=(h.own.lt k hv).1;omega
 ·have h1:=((zbb (w:=w) (B':=fun b=>(base≤b∧some b≠v.ownBlock)∧b<w.heap.size) (fun b hb hl=>⟨hb,hl⟩) _).1 _ _ (Nat.le_refl _) (h.ok x hx))
  have h2:=h1.cong (w':=w') fun b hb=>hg.block b hb.2 (fun e=>by injection e with e;have:=hb.1.1;omega);exact h2.mono fun b hb _=>hb.1
theorem zeo.keepN{w w':World}{base:Nat}{v:Value}{E:List Fe}(h:zeo w base v E)(hg:w.grownBy w' none):zeo w' base v E:=by
 refine⟨h.own.kept hg ?_,fun x hx=>?_⟩
 ·rcases hv:v.ownBlock with _|k
  ·exact .inl rfl
  ·exact .inr (fun e=>nomatch e)
 ·have h1:=((zbb (w:=w) (B':=fun b=>(base≤b∧some b≠v.ownBlock)∧b<w.heap.size) (fun b hb hl=>⟨hb,hl⟩) _).1 _ _ (Nat.le_refl _) (h.ok x hx))
  have h2:=h1.cong (w':=w') fun b hb=>hg.block b hb.2 (fun e=>nomatch e);exact h2.mono fun b hb _=>hb.1
theorem zeo.fat{w:World}{base:Nat}{v:Value}{E:List Fe}(h:zeo w base v E):∃A c,v = .slice A E.length c∧FAt w (fun b=>base≤b) A 0 (ofL (E.map Fe.y))∧E.length≤c∧c≤maxLen:=by
 obtain⟨h1,h2⟩:=h;have h0:=h1;rcases h1.2 with ⟨rfl,e0⟩|⟨g,cap,cur,rfl,hB,hh,hc,hm,hrest⟩
 ·have:E = []:=List.eq_nil_of_length_eq_zero e0;subst this;exact⟨none,0,rfl,trivial,Nat.le_refl _,Nat.zero_le _⟩
 ·refine⟨some ⟨g,0,none⟩,cap,rfl,?_,hc,hm⟩;exact zdG (B:=fun b=>base≤b) (a:=⟨g,0,none⟩) hB [] E (by simpa using h0.cells (g:=g) rfl) fun x hx=>(h2 x hx).mono fun b hb _=>hb.1
theorem zeo.snoc{w w':World}{base:Nat}{v v':Value}{E:List Fe}{x:Fe}(h:zeo w base v E)(hx:KAt w (fun b=>base≤b∧some b≠v.ownBlock) x.y.2.2 x.u)(hown:w'.ownsRow base 207 8 v' (E.length+1) (jN E ++ x.eight))(hg:w.grownBy w' v.ownBlock)
 (hb:v'.ownBlock=v.ownBlock∨v'.ownBlock=some w.heap.size):zeo w' base v' (E ++ [x]):=by
 refine⟨?_,fun z hz=>?_⟩
 ·rw [zei,List.length_append];exact hown
 ·have hz':KAt w (fun b=>base≤b∧some b≠v.ownBlock) z.y.2.2 z.u:=by
   rcases List.mem_append.1 hz with hz|hz
   ·exact h.ok z hz
   ·simp only [List.mem_cons,List.not_mem_nil,or_false] at hz;subst hz;exact hx
  have h1:=(zbb (w:=w) (B':=fun b=>(base≤b∧some b≠v.ownBlock)∧b<w.heap.size) (fun b hb hl=>⟨hb,hl⟩) _).1 _ _ (Nat.le_refl _) hz'
  have h2:=h1.cong (w':=w') fun b hb=>hg.block b hb.2 (fun e=>hb.1.2 (by rw [←e]))
  refine h2.mono fun b hb _=>⟨hb.1.1,?_⟩
  rcases ‹v'.ownBlock=v.ownBlock∨v'.ownBlock=some w.heap.size› with e|e
  ·rw [e];exact hb.1.2
  ·rw [e];intro q;injection q with q;have:=hb.2;omega
theorem zgg{ops:Array Oper}{rest:List Oper}{o:Oper}{a:Act}{w:World}{Q:Exit→Act→World→Prop}(hgd:o.guard=none)(s x:Operand)
 (ho:o.op = .call { callee := .builtin .append,args:=#[s,x],argTypes:=#[147,147] })
 (base:Nat) (v:Value) (E:List Fe) (hs:a.eval s=v) (hrow:zeo w base v E) (z:Fe) (ad:Addr) (m c:Nat) (hx:a.eval x = .slice (some ad) m c) (hm:m=1)
 (hnews:∀j u,z.eight[j]?=some u→w.cell? (ad.add j)=some u) (hz:KAt w (fun b=>base≤b∧some b≠v.ownBlock) z.y.2.2 z.u) (hl:E.length≤1000000) (hbase:base≤w.heap.size)
 (h:∀v' w',zeo w' base v' (E ++ [z])→w.grownBy w' v.ownBlock→wpList Tryz.prog ops Q rest (a.put o.dst v') w'):wpList Tryz.prog ops Q (o :: rest) a w:=by
 subst hm;have hi:=zqi
 cases hq:Tryz.prog.info? 207 with
 | none=>rw [hq] at hi;cases hi
 | some i0 =>
  rw [hq] at hi
  simp only [Option.map_some,Option.some.injEq,Prod.mk.injEq] at hi
  refine wpList_append_own_at w hgd s x _ ho base _ i0 _ 8 104 Tryz.underlying147 hq hi.1 hi.2.1 hi.2.2 (by decide) (by decide) v E.length (jN E) hs hrow.own ad 1 c z.eight hx rfl hnews ?_ (by unfold maxLen;omega) (by omega) hbase ?_
  ·intro u hu
   have:=zej [z] u (by simpa [jN,Fe.eight,Fe.u] using hu);exact this
  ·intro v' w' h1 h2 _ h4
   exact h v' w' (hrow.snoc hz h1 h2 h4) h2
end Go.Proofs.YtjcdeikbghjpkaaGreatDoor
