/-
  val's reader: part at a record; part outright. val.Check: nodes that are a value. val.first, val.Compare. Aids of later walks: a node's four cells; contracts ..
-/
import Derived.Defers
import Derived.Recover
import Derived.Deep.Slices
import Derived.Maps.AppendAt
import Derived.Test.YtkfgabdnppmglaaGreatDoorQ16
import Derived.Test.YtkfgabdnppmglaaGreatDoorQ18
set_option maxRecDepth 100000
set_option maxHeartbeats 8000000
namespace Go.Wk
theorem zry(a b:List UInt8):Op.bytesLess a b=decide (Lib.compareBytes a b<0):=by
 induction a generalizing b with
 | nil=>cases b <;> simp [Op.bytesLess,Lib.compareBytes]
 | cons x a ih =>
  cases b with
  | nil=>simp [Op.bytesLess,Lib.compareBytes]
  | cons y b =>
   simp only [Op.bytesLess,Lib.compareBytes,ih]
   by_cases h1:x<y
   ·simp [h1]
   ·by_cases h2:y<x
    ·have:(x==y)=false:=by
      rw [beq_eq_false_iff_ne];intro e;subst e;exact h1 h2
     simp [h1,h2,this]
    ·have:x=y:=by
      have a1:¬x.toNat<y.toNat:=h1;have a2:¬y.toNat<x.toNat:=h2;exact UInt8.toNat_inj.1 (by omega)
     subst this
     simp [h1]
theorem zl4(a b:ByteArray):(jk b a<0∧Op.bytesLess a.toList b.toList=false∧(a.toList==b.toList)=false)∨(¬jk b a<0∧Op.bytesLess a.toList b.toList=true)∨(¬jk b a<0∧Op.bytesLess a.toList b.toList=false∧(a.toList==b.toList)=true):=by
 rw [zry];have e:Lib.compareBytes a.toList b.toList=jk a b:=by unfold jk;rw [ByteArray.toList_eq,ByteArray.toList_eq]
 rw [e];have h1:=jx.anti a b;have h2:=jx.zero a b;by_cases h:jk a b<0
 ·exact .inr (.inl ⟨by omega,by simpa using h⟩)
 ·by_cases h0:jk a b=0
  ·exact .inr (.inr ⟨by omega,by simpa using h,by rw [h2.1 h0];simp⟩)
  ·refine .inl ⟨by omega,by simpa using h,?_⟩;rw [beq_eq_false_iff_ne];intro q;rw [ByteArray.toList_eq,ByteArray.toList_eq] at q;exact h0 (h2.2 (zaq q))
theorem zbw{v:List Nd}{f:Nat→Option Nat}{N k:Nat}{last:ByteArray}{q:Nat}(hk:k<N)(h:jV v last q=none):zY v f (N-k) last q=none:=by
 obtain⟨j,hj⟩:∃j,N-k=j+1:=⟨N-k-1,by omega⟩
 rw [hj];simp only [zY,h]
theorem zfK{v:List Nd}{f:Nat→Option Nat}{N k:Nat}{last s:ByteArray}{q:Nat}(hk:k<N)(h:jV v last q=some s)(hf:f (q+1)=none):zY v f (N-k) last q=none:=by
 obtain⟨j,hj⟩:∃j,N-k=j+1:=⟨N-k-1,by omega⟩
 rw [hj];simp only [zY,h,hf]
theorem zdj{v:List Nd}{f:Nat→Option Nat}{N k:Nat}{last s:ByteArray}{q e:Nat}(hk:k<N)(h:jV v last q=some s)(hf:f (q+1)=some e):zY v f (N-k) last q=zY v f (N-(k+1)) s e:=by
 obtain⟨j,hj⟩:∃j,N-k=j+1:=⟨N-k-1,by omega⟩
 rw [hj,show N-(k+1)=j by omega];simp only [zY,h,hf]
theorem zgM{v:List Nd}{last:ByteArray}{p:Nat}(h:v.length≤p):jV v last p=none:=by
 unfold jV;rw [List.getElem?_eq_none h]
theorem zeE{v:List Nd}{last:ByteArray}{p:Nat}(h:p<v.length)(hq:(decide (v[p].op=7)&& zB v[p] && decide (jk last v[p].s<0))=false):jV v last p=none:=by
 unfold jV;rw [List.getElem?_eq_getElem h];simp only [hq,Bool.false_eq_true,if_false]
theorem zgn{v:List Nd}{last:ByteArray}{p:Nat}(h:p<v.length)(hq:(decide (v[p].op=7)&& zB v[p] && decide (jk last v[p].s<0))=true):jV v last p=some v[p].s:=by
 unfold jV;rw [List.getElem?_eq_getElem h];simp only [hq,if_true]
end Go.Wk
namespace Go.Proofs.YtkfgabdnppmglaaGreatDoor
open Go.RowKit Go.Wk Go.Sort
theorem zrg(a:Addr)(P:List Nd)(n c p R m:Nat)(w:World)(hr:zby w R (.slice (some a) n c) p)(hn:n=P.length)(hc:n≤c)(hm:n≤maxLen)(hp:p<n)(hP:jp w (some a) P)(hO:zaj P)(hs:zB (P[p]'(by omega))=true)
 (h5:(P[p]'(by omega)).op=6) (hR:a.block≠R) (ih:zsP P (some a) n c R m) (hfu:n-p<m+1):
 Calls Tryz.prog 72 #[.pointer (some ⟨R,0,none⟩)] w (zci R (some a) n c p w (zY P (zn P m) (P[p]'(by omega)).n.toNat .empty (p+1))):=by
 unfold maxLen at hm;have HR:=hi9 hr;have HS:=hi9 (fun w1 (hb:Below w.heap.size w w1) o=>zg5 hr hb o);have HP:=hi9 hP;have HN:=hi9 hn;have HO:=hi9 hO;have IH:=hi9 ih;obtain⟨c0,c1,f1⟩:=hr;have hp':p<P.length:=by omega
 obtain⟨b,hb0,q1,q2,q3,q4⟩:=hP p P[p] (List.getElem?_eq_getElem hp');injection hb0 with hb0;subst hb0;have S:=hi9 (fun w=>zbL P[p] w (hO.at hp').s (hO.at hp').t);rw [hs] at S;unfold ndV at S;obtain⟨-,-,hlo,hhi⟩:=hO.at hp';rw [h5] at q1 S;generalize P[p]=x at *;have hx0:0≤x.n:=by
  unfold zB at hs;rw [h5] at hs;simp at hs;exact hs.1.1
 clear hP hn h5 hs hlo ih hO;have hnp:decide (n≤p)=false:=decide_eq_false (by omega);go_enter Tryz.func72,Tryz.ntmps72;go_wp2_with fail;refine(S.out _).mono ?_;rintro e w1 ⟨rfl,hb⟩;replace c0:=za hb c0;replace c1:=za hb c1;replace q1:=za hb q1;replace q2:=za hb q2;replace q3:=za hb q3;replace q4:=za hb q4;have f1':=(hb.frozen (p:=⟨R,1,none⟩) HR.out.lt).trans f1;clear f1;have hRl:=Nat.lt_of_lt_of_le HR.out.lt hb.size;have HB:=hi9 hb;clear hb;go_wp2_with fail;obtain⟨s1,s2⟩:=HS.out _ HB.out (.cells #[.int .i64 6,.int .i64 x.n,.string x.s,.string x.t] 53);have S1:=hi9 s1;have S2:=hi9 s2;clear s1 s2 c0 c1 f1' q1 q2 q3 q4 hRl S HS HR;go_loopw [8,74] (fun last i wr=>∃(k q:Nat) (ls:ByteArray),i = .int .i64 k∧(k:Int)≤x.n∧last = .string ls∧q≤n∧p<q∧
  Hid (zY P (zn P m) x.n.toNat .empty (p+1)=zY P (zn P m) (x.n.toNat-k) ls q)∧Hid (zby wr R (.slice (some a) n c) q)∧Hid (w.grownBy wr (some R))) (fun _ i _=>(x.n-intOf i).toNat)
 case atStart=>exact⟨0,p+1,.empty,rfl,hx0,rfl,by omega,by omega,rfl,S1.out,S2.out⟩
 case round =>
  obtain⟨k,q,ls,rfl,hk,rfl,hq,hpq,hE,hrd,hgr⟩:=hrel;by_cases hlt:(k:Int)<x.n
  ·have N:=hi9 (HP.out.but hgr.out (fun a' e=>by cases e;exact hR));have kc0:=cell_regrown hrd.out.c0;have kc1:=cell_regrown hrd.out.c1;by_cases hqn:q<n
   ·have hq':q<P.length:=by rw [←HN.out];exact hqn
    obtain⟨b,hb0,q1,q2,q3,q4⟩:=N.out q P[q] (List.getElem?_eq_getElem hq');injection hb0 with hb0;subst hb0;have hnq:decide (n≤q)=false:=decide_eq_false (by omega);by_cases h7:P[q].op=7
    ·rw [h7] at q1;have hy:=HO.out.at hq';have S0:Hid (∀w,Calls Tryz.prog 115 #[.agg #[.int .i64 7,.int .i64 P[q].n,.string P[q].s,.string P[q].t]] w fun e w'=>e = .returned (.bool (zB P[q]))∧Below w.heap.size w w'):=
      hi9 (fun w=>by have:=zbL P[q] w hy.s hy.t;unfold ndV at this;rw [h7] at this;exact this)
     have HY:=hi9 (show∀b,(decide (P[q].op=7)&& zB P[q] && decide (jk ls P[q].s<0))=b→(b=true→jV P ls q=some P[q].s)∧(b=false→jV P ls q=none) from
      fun b hb=>⟨fun e=>zgn hq' (hb.trans e),fun e=>zeE hq' (hb.trans e)⟩)
     rw [h7] at HY;generalize P[q]=y at *;clear h7 hy;have kq1:=cell_regrown q1;have kq2:=cell_regrown q2;have kq3:=cell_regrown q3;have kq4:=cell_regrown q4;by_cases hsy:zB y=true
     ·rw [hsy] at S0 HY;clear hsy;rcases zl4 y.s ls with ⟨l0,l1,l2⟩|hl
      ·have HF:=hi9 ((HY.out true (by simp [l0])).1 rfl);have cS:∀d os,Calls Tryz.prog 115 #[.agg #[.int .i64 7,.int .i64 y.n,.string y.s,.string y.t]] (grow (redrawn wr d) os) fun e w''=>e = .returned (.bool true)∧∃p:Regrown,w''=grow (redrawn wr p.d) p.os:=fun d os=>Calls.regrown_of (S0.out _);clear l0 HY S0;have Q1:=hi9 q1;have Q2:=hi9 q2;have Q3:=hi9 q3;have Q4:=hi9 q4;clear q1 q2 q3 q4;go_wp2_with fail;refine wp_region_quiet_below (by kernel_rfl) (by kernel_rfl) ?_
       repeat (first|go_big_quiet_step (exact cS _ _)|quiet_step (exact cS _ _))
       refine wpQuiet_nil ?_;intro w2 hw';have b2:Below wr.heap.size wr w2:=by obtain⟨⟨d,os⟩,rfl⟩:=hw';exact below_regrown _ _ _
       clear hw' kq1 kq2 kq3 kq4 kc0 kc1 cS;have rd2:=hrd.out.keep b2;have q3:=za b2 Q3.out;have nd2:=N.out.keep b2;have RS:=hi9 (fun k=>(rd2.put (q+1)).drewN k);have gs:wr.grownBy (w2.setCell ⟨R,1,none⟩ (.int .i64 (q+1:Nat))) (some R):=zk (zh b2 _) (zJ _ ⟨R,1,none⟩ _);have GS:=hi9 (fun k=>zcD gs k);have NS:=hi9 (fun k=>N.out.but (GS.out k) (fun a' e=>by cases e;exact hR));have hl2:=rd2.lt;obtain⟨d0,d1,d2⟩:=rd2;have C:=hi9 (fun k=>IH.out (q+1) _ (RS.out k) (NS.out k) (by omega));clear b2 nd2 gs Q1 Q2 Q3 Q4 l1 l2 N hrd NS;rcases hf:zn P m (q+1) with _|e
       ·have HG:=hi9 (hE.out.trans (zfK (by omega) HF.out hf));rw [hf] at C;clear hE HF hf;go_wp2_with fail;go_quiet (fail);go_wp2_with fail;refine(C.out _).mono ?_;rintro e w3 hpost;obtain⟨rfl,g3⟩:=hpost;go_wp2_with fail;rw [HG.out];exact⟨rfl,rfl,zk hgr.out (zk (GS.out _) g3)⟩
       ·have HG:=hi9 (hE.out.trans (zdj (by omega) HF.out hf));have hpe:=jG _ _ _ hf;rw [←HN.out] at hpe;rw [hf] at C;clear hE HF hf;go_wp2_with fail;go_quiet (fail);go_wp2_with fail;refine(C.out _).mono ?_;rintro e' w3 hpost;obtain⟨rfl,r3,g3⟩:=hpost;have R3:=hi9 r3;have G3:=hi9 (zk hgr.out (zk (GS.out _) g3));clear r3 g3;go_wp2_with fail;go_roundw
        case rel=>exact⟨k+1,e,_,by go_num,by omega,rfl,by omega,by omega,HG.out,R3.out,G3.out⟩
        case measure=>simp [intOf];omega
      ·have HF:=hi9 ((HY.out false (by rcases hl with ⟨l0,_⟩|⟨l0,_⟩<;> simp [l0])).2 rfl);have HG:=hi9 (hE.out.trans (zbw (by omega) HF.out));have cS:∀d os,Calls Tryz.prog 115 #[.agg #[.int .i64 7,.int .i64 y.n,.string y.s,.string y.t]] (grow (redrawn wr d) os) fun e w''=>e = .returned (.bool true)∧∃p:Regrown,w''=grow (redrawn wr p.d) p.os:=fun d os=>Calls.regrown_of (S0.out _);clear hE HY S0;rcases hl with ⟨-,l1⟩|⟨-,l1,l2⟩
       all_goals
        go_wp2_with fail;refine wp_region_quiet_below (by kernel_rfl) (by kernel_rfl) ?_
        repeat (first|go_big_quiet_step (exact cS _ _)|quiet_step (exact cS _ _))
        refine wpQuiet_nil ?_;intro w2 hw';have B2:=hi9 (show Below wr.heap.size wr w2 by obtain⟨⟨d,os⟩,rfl⟩:=hw';exact below_regrown _ _ _);clear hw';go_wp2_with fail;rw [HG.out];exact⟨rfl,rfl,zk hgr.out (zh B2.out _)⟩
     ·rw [Bool.not_eq_true] at hsy;rw [hsy] at S0 HY;clear hsy;have HF:=hi9 ((HY.out false (by simp)).2 rfl);have HG:=hi9 (hE.out.trans (zbw (by omega) HF.out));have cS:∀d os,Calls Tryz.prog 115 #[.agg #[.int .i64 7,.int .i64 y.n,.string y.s,.string y.t]] (grow (redrawn wr d) os) fun e w''=>e = .returned (.bool false)∧∃p:Regrown,w''=grow (redrawn wr p.d) p.os:=fun d os=>Calls.regrown_of (S0.out _);clear hE HY S0;go_wp2_with fail;refine wp_region_quiet_below (by kernel_rfl) (by kernel_rfl) ?_
      repeat (first|go_big_quiet_step (exact cS _ _)|quiet_step (exact cS _ _))
      refine wpQuiet_nil ?_;intro w2 hw';have B2:=hi9 (show Below wr.heap.size wr w2 by obtain⟨⟨d,os⟩,rfl⟩:=hw';exact below_regrown _ _ _);clear hw';go_wp2_with fail;rw [HG.out];exact⟨rfl,rfl,zk hgr.out (zh B2.out _)⟩
    ·have hs7:(P[q].op != 7)=true:=by rw [bne_iff_ne];exact h7
     have HG:=hi9 (hE.out.trans (zbw (by omega) (zeE hq' (by simp [h7]))));clear hE h7;have kq1:=cell_regrown q1;go_wp2_with fail;refine wp_region_quiet_below (by kernel_rfl) (by kernel_rfl) ?_
     repeat (first|go_big_quiet_step (fail)|quiet_step (fail))
     refine wpQuiet_nil ?_;intro w2 hw';have B2:=hi9 (show Below wr.heap.size wr w2 by obtain⟨⟨d,os⟩,rfl⟩:=hw';exact below_regrown _ _ _);clear hw';go_wp2_with fail;rw [HG.out];exact⟨rfl,rfl,zk hgr.out (zh B2.out _)⟩
   ·have hnq:decide (n≤q)=true:=decide_eq_true (by omega);have HG:=hi9 (hE.out.trans (zbw (by omega) (zgM (by rw [←HN.out];omega))));clear hE;go_wp2_with fail;refine wp_region_quiet_below (by kernel_rfl) (by kernel_rfl) ?_
    repeat (first|go_big_quiet_step (fail)|quiet_step (fail))
    refine wpQuiet_nil ?_;intro w2 hw';have B2:=hi9 (show Below wr.heap.size wr w2 by obtain⟨⟨d,os⟩,rfl⟩:=hw';exact below_regrown _ _ _);clear hw';go_wp2_with fail;rw [HG.out];exact⟨rfl,rfl,zk hgr.out (zh B2.out _)⟩
  ·have HG:=hi9 (hE.out.trans (by rw [show x.n.toNat-k=0 by omega];rfl:_=some q));obtain⟨d0,d1,d2⟩:=hrd.out;have RD:=hi9 hrd.out;clear hE hrd;go_wp2_with fail;go_quiet (fail);go_wp2_with fail;go_ret;rw [HG.out];exact⟨rfl,RD.out.drewN _,zcD hgr.out _⟩
theorem znQ(a:Addr)(P:List Nd)(n c p R:Nat)(w:World)(hr:zby w R (.slice (some a) n c) p)(hn:n=P.length)(hm:n≤maxLen)(hp:p<n)(hP:jp w (some a) P)(hO:zaj P)(hs:zB (P[p]'(by omega))=true)
 (h7:(P[p]'(by omega)).op=7):
 Calls Tryz.prog 72 #[.pointer (some ⟨R,0,none⟩)] w (zci R (some a) n c p w none):=by
 unfold maxLen at hm;have HR:=hi9 hr;have HS:=hi9 (fun w1 (hb:Below w.heap.size w w1) o=>zg5 hr hb o);obtain⟨c0,c1,f1⟩:=hr;have hp':p<P.length:=by omega
 obtain⟨b,hb0,q1,q2,q3,q4⟩:=hP p P[p] (List.getElem?_eq_getElem hp');injection hb0 with hb0;subst hb0;have S:=hi9 (fun w=>zbL P[p] w (hO.at hp').s (hO.at hp').t);rw [hs] at S;unfold ndV at S;rw [h7] at q1 S;generalize P[p]=x at *;clear hO hP hn h7;go_enter Tryz.func72,Tryz.ntmps72;go_wp2_with fail;refine(S.out _).mono ?_;rintro e w1 ⟨rfl,hb⟩;replace c0:=za hb c0;replace c1:=za hb c1;replace q1:=za hb q1;replace q2:=za hb q2;replace q3:=za hb q3;replace q4:=za hb q4;have f1':=(hb.frozen (p:=⟨R,1,none⟩) HR.out.lt).trans f1;clear f1;have hR:=Nat.lt_of_lt_of_le HR.out.lt hb.size;have HB:=hi9 hb;clear hb;go_wp2_with fail;exact⟨rfl,rfl,(HS.out _ HB.out _).2⟩
theorem zfu(A:Option Addr)(P:List Nd)(n c R:Nat)(hn:n=P.length)(hc:n≤c)(hm:n≤maxLen)(hO:zaj P)(hR:0<P.length→∀a,A=some a→a.block≠R)(m:Nat):zsP P A n c R m:=by
 induction m with
 | zero=>intro q w _ _ h;omega
 | succ m ih =>
  intro p w hr hP hf
  by_cases hp:p<n
  ·have hp':p<P.length:=by omega
   obtain⟨a,rfl,-⟩:=hP p P[p] (List.getElem?_eq_getElem hp');have e:zn P (m+1) p=if zB P[p] then(if P[p].op=5 then z7 P (zn P m) P[p].n.toNat none (p+1) else if P[p].op=6 then zY P (zn P m) P[p].n.toNat .empty (p+1) else if P[p].op=7 then none else some (p+1)) else none:=by
    simp only [zn,List.getElem?_eq_getElem hp']
   rw [e];by_cases hs:zB P[p]=true
   ·rw [if_pos hs];by_cases h5:P[p].op=5
    ·rw [if_pos h5];exact zsx a P n c p R m w hr hn hc hm hp hP hO hs h5 (hR (by omega) a rfl) ih hf
    rw [if_neg h5];by_cases h6:P[p].op=6
    ·rw [if_pos h6];exact zrg a P n c p R m w hr hn hc hm hp hP hO hs h6 (hR (by omega) a rfl) ih hf
    rw [if_neg h6];by_cases h7:P[p].op=7
    ·rw [if_pos h7];exact znQ a P n c p R w hr hn hm hp hP hO hs h7
    rw [if_neg h7];exact zps a P n c p R w hr hn hc hm hp hP hO hs (beq_eq_false_iff_ne.2 h5) (beq_eq_false_iff_ne.2 h6) (beq_eq_false_iff_ne.2 h7)
   ·rw [if_neg hs];exact zq8 a P n c p R w hr hn hp hP hO (by simpa using hs)
  ·have e:zn P (m+1) p=none:=by
    simp only [zn,List.getElem?_eq_none (by omega:P.length≤p)]
   rw [e]
   exact zso A n c p R w hr (by omega)
theorem ziP(p:Addr)(w:World):
 CallsD Tryz.prog 71 #[.pointer (some p)] .returning w fun e u' w'=>e = .returned (.tuple #[])∧u' = .returning∧w'=w:=by
 refine callsD_of_wpS Tryz.func71 rfl fun c₀ cs hu=>?_;apply wpS_seq;apply wpS_region;simp [wpOpsS,go_sem,recoverD,hu,Tryz.ntmps71,Exit.thenS];refine wpS_of_wp ?_;go_wp2_with fail;cases c₀;simp_all [bodyPostS,results,Tryz.results71]
theorem zkC(E:Nat)(v:Value)(older:List PanicEntry)(w:World)(hc:w.cell? ⟨E,0,none⟩=some v)(hz:w.frozen? ⟨E,0,none⟩=false):
 CallsD Tryz.prog 71 #[.pointer (some ⟨E,0,none⟩)] (.panicking ({ v := .iface 119 (.agg #[]),recovered:=false } :: older)) w fun e u' w' =>
  e = .returned (.tuple #[])∧u' = .panicking ({ v := .iface 119 (.agg #[]),recovered:=true } :: older)∧w'=(w.setCell ⟨E,0,none⟩ (.iface 28 (.int .i64 1))).alloc (.cells #[] 119):=by
 have hl:E<w.heap.size:=block_lt_of_cell hc;have hta:∀w,(Instr.typeAssert (.iface 119 (.agg #[])) 20 119 true).run Tryz.prog w = .ok (.tuple #[.agg #[],.bool true]) w:=fun _=>by kernel_rfl
 refine callsD_of_wpS Tryz.func71 rfl fun c₀ cs hu=>?_;apply wpS_seq;apply wpS_region;simp [wpOpsS,go_sem,recoverD,hu,Tryz.ntmps71];refine wpS_of_wp ?_;go_wp2_with fail;cases c₀;simp [bodyPostS,results,Tryz.results71]
theorem znG(A:Option Addr)(n c:Nat)(P:List Nd)(w:World)(hn:n=P.length)(hm:n≤maxLen)(h:200<n):
 Calls Tryz.prog 40 #[.slice A n c] w fun e w'=>e = .returned (j3 (zc P))∧Below w.heap.size w w':=by
 have H:=hi9 (show zc P=4 by unfold zc;rw [if_pos (by omega)]);unfold maxLen at hm;clear hn;go_enter_defers Tryz.func40,Tryz.ntmps40;go_wp2_with fail;simp [bodyPostD,Leaves,results,Tryz.results40,go_sem];rw [H.out];exact⟨rfl,zb _ _⟩
theorem jp.lt{w:World}{A:Option Addr}{P:List Nd}(h:jp w A P)(h0:0<P.length)(a:Addr)(e:A=some a):a.block<w.heap.size:=by
 obtain⟨b,hb,q,-⟩:=h 0 P[0] (List.getElem?_eq_getElem h0);rw [e] at hb;injection hb with hb;subst hb;have:=block_lt_of_cell q;rw [zch] at this;exact this
theorem zdw{w w1:World}(o1 o2:Obj)(h:((w.alloc o1).alloc o2).grownBy w1 (some (w.heap.size+1))):
 Below w.heap.size w w1∧w1.cell? ⟨w.heap.size,0,none⟩=(w.alloc o1).cell? ⟨w.heap.size,0,none⟩∧w1.frozen? ⟨w.heap.size,0,none⟩=(w.alloc o1).frozen? ⟨w.heap.size,0,none⟩∧w.heap.size+2≤w1.heap.size:=by
 have hb:Below (w.heap.size+1) ((w.alloc o1).alloc o2) w1:=zaK h (Nat.le_refl _) (by simp);have hb2:Below (w.heap.size+1) (w.alloc o1) w1:=((Below.refl _ _).alloc (by simp) o2).trans hb;refine⟨(zb w o1).trans (hb2.mono (by omega)),hb2.cell (by simp),hb2.frozen (by simp),?_⟩;have:=h.size;simp at this;omega
theorem zow(A:Option Addr)(n c:Nat)(P:List Nd)(w:World)(hn:n=P.length)(hc:n≤c)(hm:n≤maxLen)(hP:jp w A P)(hO:zaj P)(h:¬200<n)(he:zn P (n+1) 0=none):
 Calls Tryz.prog 40 #[.slice A n c] w fun e w'=>e = .returned (j3 (zc P))∧Below w.heap.size w w':=by
 have H:=hi9 (show zc P=1 by unfold zc;rw [if_neg (by omega),←hn,he];rfl);have C:=hi9 (fun W h1 h2=>zfu A P n c (w.heap.size+1) hn hc hm hO (fun h0 a e=>by have:=hP.lt h0 a e;omega) (n+1) 0 W h1 h2 (by omega));rw [he] at C;unfold maxLen at hm;have HP:=hi9 hP;have hmf:∀(fn:Fn) (first cap:Array Value) (w:World),(Instr.makeFunc fn first cap).run Tryz.prog w = .ok (.func fn first cap) w:=fun _ _ _ _=>rfl;clear hn hP hO;go_enter_defers Tryz.func40,Tryz.ntmps40;go_wp2_with fail;refine(C.out _ ⟨by simp,by simp,by simp⟩ (HP.out.keep ((by(repeat' (first|exact Below.refl _ _|refine Below.alloc ?_ ?_ _|refine Below.setCell ?_ ?_ _|refine Below.drew ?_|refine Below.drewN ?_ _))<;>(try simp)<;> omega)))).mono ?_;rintro e w1 hpost;obtain⟨rfl,g1⟩:=hpost;obtain⟨b1,c1,f1,z1⟩:=zdw _ _ g1;have c1':w1.cell? ⟨w.heap.size,0,none⟩=some .nilIface:=c1.trans (by simp);have f1':w1.frozen? ⟨w.heap.size,0,none⟩=false:=f1.trans (by simp);clear c1 f1 g1;go_wp2_with fail;refine leaves_cons (f:=71) (args:=#[.pointer (some ⟨w.heap.size,0,none⟩)]) (by simp) (by simp [go_sem]) ?_;refine(zkC w.heap.size _ [] w1 c1' f1').mono ?_;rintro e u' w2 ⟨rfl,rfl,rfl⟩;have hl:w.heap.size<w1.heap.size:=by omega
 simp [Leaves,settle,results,Tryz.results40,go_sem,c1',hl];rw [H.out];exact⟨rfl,(b1.setCell (p:=⟨w.heap.size,0,none⟩) (Nat.le_refl _) _).alloc (by simp [World.setCell];omega) _⟩
theorem zn7(A:Option Addr)(n c e:Nat)(P:List Nd)(w:World)(hn:n=P.length)(hc:n≤c)(hm:n≤maxLen)(hP:jp w A P)(hO:zaj P)(h:¬200<n)(he:zn P (n+1) 0=some e):
 Calls Tryz.prog 40 #[.slice A n c] w fun e w'=>e = .returned (j3 (zc P))∧Below w.heap.size w w':=by
 have C:=hi9 (fun W h1 h2=>zfu A P n c (w.heap.size+1) hn hc hm hO (fun h0 a e=>by have:=hP.lt h0 a e;omega) (n+1) 0 W h1 h2 (by omega));rw [he] at C;have hle:=jG _ _ _ he;rw [←hn] at hle;have H:=hi9 (show zc P=if e<n then 1 else 0 by
  unfold zc;rw [if_neg (by omega),←hn,he]
  by_cases q:e<n
  ·rw [if_pos q,if_neg (by intro z;injection z with z;omega)]
  ·rw [if_neg q,if_pos (by congr 1;omega)])
 unfold maxLen at hm;have HP:=hi9 hP;have hmf:∀(fn:Fn) (first cap:Array Value) (w:World),(Instr.makeFunc fn first cap).run Tryz.prog w = .ok (.func fn first cap) w:=fun _ _ _ _=>rfl;clear hn hP hO he;by_cases hen:e<n
 ·rw [if_pos hen] at H;go_enter_defers Tryz.func40,Tryz.ntmps40;go_wp2_with fail;refine(C.out _ ⟨by simp,by simp,by simp⟩ (HP.out.keep ((by(repeat' (first|exact Below.refl _ _|refine Below.alloc ?_ ?_ _|refine Below.setCell ?_ ?_ _|refine Below.drew ?_|refine Below.drewN ?_ _))<;>(try simp)<;> omega)))).mono ?_;rintro e w1 hpost;obtain⟨rfl,r1,g1⟩:=hpost;obtain⟨b1,c1,f1,z1⟩:=zdw _ _ g1;have c1':w1.cell? ⟨w.heap.size,0,none⟩=some .nilIface:=c1.trans (by simp);have f1':w1.frozen? ⟨w.heap.size,0,none⟩=false:=f1.trans (by simp);have r2:=r1.c1;clear c1 f1 g1 r1;go_wp2_with fail;refine leaves_cons (f:=71) (args:=#[.pointer (some ⟨w.heap.size,0,none⟩)]) (by simp) (by simp [go_sem]) ?_;refine(ziP ⟨w.heap.size,0,none⟩ _).mono ?_;rintro e u' w2 ⟨rfl,rfl,rfl⟩;simp [Leaves,settle,results,Tryz.results40,go_sem,c1'];rw [H.out];exact⟨rfl,b1.setCell (p:=⟨w.heap.size,0,none⟩) (Nat.le_refl _) _⟩
 ·rw [if_neg hen] at H;obtain rfl:e=n:=by omega
  go_enter_defers Tryz.func40,Tryz.ntmps40;go_wp2_with fail;refine(C.out _ ⟨by simp,by simp,by simp⟩ (HP.out.keep ((by(repeat' (first|exact Below.refl _ _|refine Below.alloc ?_ ?_ _|refine Below.setCell ?_ ?_ _|refine Below.drew ?_|refine Below.drewN ?_ _))<;>(try simp)<;> omega)))).mono ?_;rintro e w1 hpost;obtain⟨rfl,r1,g1⟩:=hpost;obtain⟨b1,c1,f1,z1⟩:=zdw _ _ g1;have c1':w1.cell? ⟨w.heap.size,0,none⟩=some .nilIface:=c1.trans (by simp);have f1':w1.frozen? ⟨w.heap.size,0,none⟩=false:=f1.trans (by simp);have r2:=r1.c1;clear c1 f1 g1 r1;go_wp2_with fail;refine leaves_cons (f:=71) (args:=#[.pointer (some ⟨w.heap.size,0,none⟩)]) (by simp) (by simp [go_sem]) ?_;refine(ziP ⟨w.heap.size,0,none⟩ _).mono ?_;rintro e u' w2 ⟨rfl,rfl,rfl⟩;simp [Leaves,settle,results,Tryz.results40,go_sem,c1'];rw [H.out];exact⟨rfl,b1.setCell (p:=⟨w.heap.size,0,none⟩) (Nat.le_refl _) _⟩
theorem zpC(A:Option Addr)(n c:Nat)(P:List Nd)(w:World)(hn:n=P.length)(hc:n≤c)(hm:n≤maxLen)(hP:jp w A P)(hO:zaj P):
 Calls Tryz.prog 40 #[.slice A n c] w fun e w'=>e = .returned (j3 (zc P))∧Below w.heap.size w w':=by
 by_cases h:200<n
 ·exact znG A n c P w hn hm h
 ·rcases he:zn P (n+1) 0 with _|e
  ·exact zow A n c P w hn hc hm hP hO h he
  ·exact zn7 A n c e P w hn hc hm hP hO h he
end Go.Proofs.YtkfgabdnppmglaaGreatDoor
namespace Go.Wk
end Go.Wk
namespace Go.Proofs.YtkfgabdnppmglaaGreatDoor
open Go.RowKit Go.Wk Go.Sort
theorem zh5{x y:Nd}(h:x=y):zea x y=0:=(zej.zero x y).2 h
theorem zn0{x y:Nd}(h:x≠y)(w:World):(binOp .neq 53 (.agg #[.int .i64 x.op,.int .i64 x.n,.string x.s,.string x.t]) (.agg #[.int .i64 y.op,.int .i64 y.n,.string y.s,.string y.t])).run Tryz.prog w = .ok (.bool true) w:=by
 simp [go_sem];exact fun h1 h2 h3 h4=>h (Nd.ext4 h1 h2 (toList_inj h3) (toList_inj h4))
theorem zcl{P Q:List Nd}{k:Nat}(h1:k<P.length)(h2:k<Q.length)(h:P[k]≠Q[k])(hc:zu P Q=zu (P.drop k) (Q.drop k)):zu P Q≠0:=by
 rw [hc,zbO h1 h2,jc (fun e=>h ((zej.zero _ _).1 e))];exact fun e=>h ((zej.zero _ _).1 e)
theorem zhV(A B:Option Addr)(n m c d:Nat)(P Q:List Nd)(w:World)(hn:n=P.length)(hm:m=Q.length)(hln:n≤maxLen)(hlm:m≤maxLen)(hP:jp w A P)(hQ:jp w B Q):
 Calls Tryz.prog 7 #[.slice A n c,.slice B m d] w fun e w'=>e = .returned (.bool (decide (zu P Q=0)))∧Below w.heap.size w w':=by
 unfold maxLen at hln hlm;have HN:=hi9 hn;have HM:=hi9 hm;have HP:=hi9 hP;have HQ:=hi9 hQ;clear hn hm hP hQ;by_cases hl:n=m
 ·subst hl;go_enter Tryz.func7,Tryz.ntmps7;go_wp2_with fail;go_loopw [5] (fun i wr=>∃k:Nat,k≤n∧i = .int .i64 k∧Hid (zu P Q=zu (P.drop k) (Q.drop k))∧Hid (Below w.heap.size w wr)) (fun i _=>n-(intOf i).toNat)
  case atStart=>exact⟨0,Nat.zero_le _,rfl,rfl,Below.refl _ _⟩
  case round =>
   obtain⟨k,hk,rfl,hE,hB⟩:=hrel;by_cases hlt:k<n
   ·have h1:k<P.length:=by rw [←HN.out];exact hlt
    have h2:k<Q.length:=by rw [←HM.out];exact hlt
    obtain⟨a,rfl,a1,a2,a3,a4⟩:=(HP.out.keep hB.out) k P[k] (List.getElem?_eq_getElem h1);obtain⟨b,rfl,b1,b2,b3,b4⟩:=(HQ.out.keep hB.out) k Q[k] (List.getElem?_eq_getElem h2);by_cases he:P[k]=Q[k]
    ·have HE:=hi9 (hE.out.trans ((zbO h1 h2).trans (by rw [zh5 he,zx])));rw [he] at a1 a2 a3 a4;generalize Q[k]=y at *;clear he hE;go_wp2_with fail;go_quiet (fail);go_wp2_with fail;go_roundw
     case rel=>exact⟨k+1,by omega,by go_num,HE,hB.out.drewN _⟩
     case measure=>simp [intOf];omega
    ·have HE:=hi9 (zcl h1 h2 he hE.out);have hne:=fun w=>zn0 he w;generalize P[k]=x at *;generalize Q[k]=y at *;clear he hE;go_wp2_with fail;go_quiet (fail);go_wp2_with fail;go_ret;exact⟨zq (decide_eq_false HE.out).symm,hB.out.drewN _⟩
   ·have HE:=hi9 (hE.out.trans (zbu (by rw [←HN.out];omega) (by rw [←HM.out];omega)));clear hE;go_wp2_with fail;go_ret;exact⟨zq (decide_eq_true HE.out).symm,hB.out⟩
 ·have HE:=hi9 (show zu P Q≠0 from fun h=>hl (by rw [HN.out,HM.out,(zV.zero _ _).1 h]));have h3:(n != m)=true:=by rw [bne_iff_ne];exact hl
  clear hl;go_enter Tryz.func7,Tryz.ntmps7;go_wp2_with fail;go_ret;exact⟨zq (decide_eq_false HE.out).symm,Below.refl _ _⟩
def zO:List Nd→List Value
 | [] => []
 | x :: r => .int .i64 x.op :: .int .i64 x.n :: .string x.s :: .string x.t :: zO r
theorem zaH(P Q:List Nd):zO (P ++ Q)=zO P ++ zO Q:=by
 induction P with
 | nil=>rfl
 | cons x P ih=>simp [zO,ih]
theorem zaf(P:List Nd):(zO P).length=P.length*4:=by
 induction P with
 | nil=>rfl
 | cons x P ih=>simp only [zO,List.length_cons,ih];omega
theorem ziu(P:List Nd)(k:Nat)(x:Nd)(h:P[k]?=some x):(zO P)[k*4]?=some (.int .i64 x.op)∧(zO P)[k*4+1]?=some (.int .i64 x.n)∧(zO P)[k*4+2]?=some (.string x.s)∧(zO P)[k*4+3]?=some (.string x.t):=by
 induction P generalizing k with
 | nil=>simp at h
 | cons y P ih =>
  cases k with
  | zero=>simp only [List.getElem?_cons_zero,Option.some.injEq] at h;subst h;exact⟨rfl,rfl,rfl,rfl⟩
  | succ k =>
   have:=ih k (by simpa using h)
   rw [show(k+1)*4=k*4+1+1+1+1 by omega]
   simp only [zO,List.getElem?_cons_succ]
   exact this
theorem zbD(g o k:Nat):(⟨g,o,none⟩:Addr).add k=⟨g,o+k,none⟩:=by
 unfold Addr.add;split
 ·rename_i h0;subst h0;rfl
 ·simp
theorem ze3{w:World}{b o:Nat}{P:List Nd}(h:∀(j:Nat) u,(zO P)[j]?=some u→w.cell? ((⟨b,o,none⟩:Addr).add j)=some u):jp w (some ⟨b,o,none⟩) P:=by
 intro k x hx;obtain⟨h1,h2,h3,h4⟩:=ziu P k x hx;have g1:=h _ _ h1;have g2:=h _ _ h2;have g3:=h _ _ h3;have g4:=h _ _ h4;simp only [zbD] at g1 g2 g3 g4;exact⟨_,rfl,by simp only [zbD];exact g1,by simp only [zbD];exact g2,by simp only [zbD];exact g3,by simp only [zbD];exact g4⟩
theorem ztL(w:World)(P:List Nd)(t:TypeId):jp (w.alloc (.cells (zO P).toArray t)) (some ⟨w.heap.size,0,none⟩) P:=ze3 (jW w _ t)
theorem rq{P:Program}{f:FuncId}{args:Array Value}{w:World}{v:Value}(h:∀w',Below w.heap.size w w'→Calls P f args w' fun e w''=>e = .returned v∧Below w'.heap.size w' w''):
 ∀d os,Calls P f args (grow (redrawn w d) os) fun e w''=>e = .returned v∧∃p:Regrown,w''=grow (redrawn w p.d) p.os :=
 fun d os=>Calls.regrown_of (h _ (below_regrown w d os))
theorem rqs{P:Program}{f:FuncId}{args:Array Value}{w:World}{v:Value}(h:∀w',Calls P f args w' fun e w''=>e = .returned v∧w'=w''):
 ∀d os,Calls P f args (grow (redrawn w d) os) fun e w''=>e = .returned v∧∃p:Regrown,w''=grow (redrawn w p.d) p.os :=
 fun d os=>(h _).mono fun _ _ ⟨he,hw⟩=>⟨he,⟨⟨d,os⟩,hw.symm⟩⟩
structure Nd4(w:World)(a:Addr)(x:Nd):Prop where
 c0:w.cell? a=some (.int .i64 x.op)
 c1:w.cell? ⟨a.block,a.off+1,none⟩=some (.int .i64 x.n)
 c2:w.cell? ⟨a.block,a.off+2,none⟩=some (.string x.s)
 c3:w.cell? ⟨a.block,a.off+3,none⟩=some (.string x.t)
theorem Nd4.keep{w w':World}{a:Addr}{x:Nd}(h:Nd4 w a x)(hb:Below w.heap.size w w'):Nd4 w' a x :=
 ⟨za hb h.c0,za hb h.c1,za hb h.c2,za hb h.c3⟩
theorem jp.nd{w:World}{A:Option Addr}{P:List Nd}(h:jp w A P){k:Nat}(hk:k<P.length):∃a,A=some a∧Nd4 w (a.add (k*4)) P[k] :=
 let ⟨a,e,h1,h2,h3,h4⟩:=h k P[k] (List.getElem?_eq_getElem hk);⟨a,e,h1,h2,h3,h4⟩
theorem zaj.seg{P:List Nd}(h:zaj P)(i j:Nat):zaj (seg P i j):=fun x hx=>h x (List.mem_of_mem_drop (List.mem_of_mem_take hx))
end Go.Proofs.YtkfgabdnppmglaaGreatDoor
namespace Go.Wk
open Go.ChangeShapes Go.WideShapes Go.RowKit
def Rd(P:Program)(w:World)(t:TypeId)(cs:List Value):Prop :=
 ∃(H:Type) (enc:TypeId × Value→H) (base:Nat) (sp:Nat→Bool) (held:Bool) (fuel:Nat) (x:DataW H × List MemPlace),DataW.trod enc P w base sp held fuel t cs=some x
section
variable {P:Program} {w:World} {t:TypeId} {cs:List Value}
theorem zeK{H:Type}{enc:TypeId × Value→H}{b:Nat}{sp:Nat→Bool}{hd:Bool}{v:Value}{d:DataW H}{ps:List MemPlace}(h:DataW.Trod enc P w b sp hd t v d ps):Rd P w t v.cells.toList :=
 let ⟨f,hf⟩:=h;⟨H,enc,b,sp,hd,f,_,hf⟩
theorem zei(ht:P.underlying t=some .string)(h:Rd P w t cs):∃s:ByteArray,cs = [.string s]∧s.size≤maxLen:=by
 obtain⟨H,enc,b,sp,hd,f,x,hx⟩:=h;obtain⟨s,h1,_,h2⟩:=DataW.trod_string ht hx;exact⟨s,h1,h2⟩
theorem zuX{k:IntKind}(ht:P.underlying t=some (.int k))(h:Rd P w t cs):∃n:Int,cs = [.int k n]∧(Lit.int k n).wf=true:=by
 obtain⟨H,enc,b,sp,hd,f,x,hx⟩:=h;obtain⟨s,h1,_,h2⟩:=DataW.trod_int ht hx;exact⟨s,h1,h2⟩
theorem zrb(ht:P.underlying t=some (.int .i64))(h:Rd P w t cs):∃n:Int,cs = [.int .i64 n]∧-9223372036854775808≤n∧n≤9223372036854775807:=by
 obtain⟨n,h1,h2⟩:=zuX ht h;refine⟨n,h1,?_⟩;simpa [Lit.wf,IntKind.min,IntKind.max,IntKind.bits,IntKind.signed] using h2
theorem zc9{fs:Array Field}(ht:P.underlying t=some (.struct fs))(h:Rd P w t cs):
 cs.length=P.cellsOf t∧∀(i:Nat) (f:Field),fs[i]?=some f→Rd P w f.type ((cs.drop f.offset).take (P.cellsOf f.type)):=by
 obtain⟨H,enc,b,sp,hd,f,x,hx⟩:=h;obtain⟨xs,n,_,_,h1,h2,h3⟩:=DataW.trod_struct ht hx;refine⟨h1,fun i f hf=>?_⟩;have hi:i<xs.length:=by rw [h2];exact(Array.getElem?_eq_some_iff.1 hf).1
 exact⟨H,enc,b,sp,hd,n,xs[i],(h3 i f hf).trans (List.getElem?_eq_getElem hi)⟩
theorem zaI{fs:Array Field}(ht:P.underlying t=some (.struct fs))(h:Rd P w t cs)(i T o n:Nat)(hf:(fs[i]?).map (fun f=>(f.type,f.offset))=some (T,o))(hn:P.cellsOf T=n):
 Rd P w T ((cs.drop o).take n):=by
 rcases hi:fs[i]? with _|f
 ·rw [hi] at hf;cases hf
 ·rw [hi] at hf;simp only [Option.map_some,Option.some.injEq,Prod.mk.injEq] at hf;obtain⟨rfl,rfl⟩:=hf;subst hn;exact(zc9 ht h).2 i f hi
end
end Go.Wk
namespace Go.Proofs.YtkfgabdnppmglaaGreatDoor
open Go.Wk Go.ChangeShapes Go.WideShapes Go.RowKit
theorem zbv:Tryz.prog.cellsOf 24=2:=by kernel_rfl
theorem zbA:Tryz.prog.cellsOf 9=1:=by kernel_rfl
theorem zh1{w:World}{cs:List Value}(h:Rd Tryz.prog w 24 cs):∃a b:ByteArray,cs = [.string a,.string b]∧a.size≤maxLen∧b.size≤maxLen:=by
 have hl:=(zc9 Tryz.underlying24 h).1;rw [zbv] at hl
 match cs,hl with
 | [c0,c1],_ =>
  have h0:Rd Tryz.prog w 9 [c0]:=zaI Tryz.underlying24 h 0 9 0 1 rfl zbA
  have h1:Rd Tryz.prog w 9 [c1]:=zaI Tryz.underlying24 h 1 9 1 1 rfl zbA
  obtain⟨a,e0,s0⟩:=zei Tryz.underlying9 h0
  obtain⟨b,e1,s1⟩:=zei Tryz.underlying9 h1
  simp only [List.cons.injEq,and_true] at e0 e1
  exact⟨a,b,by rw [e0,e1],s0,s1⟩
end Go.Proofs.YtkfgabdnppmglaaGreatDoor
namespace Go.Wk
open Go.ChangeShapes Go.WideShapes Go.RowKit Go.Deep
section
variable {P:Program} {w:World} {t:TypeId} {cs:List Value}
theorem zkv{α:Type}(n:Nat)(R:Nat→α→Prop)(h:∀i,i<n→∃x,R i x):∃l:List α,l.length=n∧∀k x,l[k]?=some x→R k x:=by
 induction n with
 | zero=>exact⟨[],rfl,fun k x hx=>by simp at hx⟩
 | succ n ih =>
  obtain⟨l,hl,hr⟩:=ih (fun i hi=>h i (by omega))
  obtain⟨y,hy⟩:=h n (by omega)
  refine⟨l ++ [y],by simp [hl],fun k x hx=>?_⟩
  by_cases hk:k<n
  ·rw [List.getElem?_append_left (by omega)] at hx;exact hr k x hx
  ·rw [List.getElem?_append_right (by omega)] at hx
   by_cases hk2:k=n
   ·subst hk2;rw [hl,Nat.sub_self] at hx;simp only [List.getElem?_cons_zero,Option.some.injEq] at hx;subst hx;exact hy
   ·have:k-l.length≠0:=by omega
    obtain⟨j,hj⟩:∃j,k-l.length=j+1:=⟨k-l.length-1,by omega⟩
    rw [hj] at hx;simp at hx
theorem zhj{e:TypeId}(ht:P.underlying t=some (.slice e))(h:Rd P w t cs):
 ∃(A:Option Addr) (n c:Nat),cs = [.slice A n c]∧n≤c∧c≤maxLen∧∀i,i<n→∃a,A=some a∧∃cs':List Value,cs'.length=P.cellsOf e∧(∀j,j<P.cellsOf e→w.cell? (a.add (i*P.cellsOf e+j))=cs'[j]?)∧Rd P w e cs':=by
 obtain⟨H,enc,b,sp,hd,f,x,hx⟩:=h;rcases open_slice ht hx with ⟨h0,_⟩|⟨a,len,cap,m,n,D,Pl,hcs,hb,hl,hm,hmm,hx,hi⟩
 ·exact⟨none,0,0,h0,Nat.le_refl _,by unfold maxLen;omega,fun i hi=>by omega⟩
 ·refine⟨some a,len,cap,hcs,hl,hm,fun i hil=>⟨a,rfl,?_⟩⟩;obtain⟨cs',hc,ht'⟩:=hi i (by rw [hmm];split <;> omega);obtain⟨_,hcl,hat⟩:=World.cells?_some hc;refine⟨cs',hcl,fun j hj=>?_,⟨H,enc,b,sp,hd,n,_,ht'⟩⟩;have:=hat j hj;rw [←Go.Deep.add_add];exact this
end
end Go.Wk
namespace Go.Proofs.YtkfgabdnppmglaaGreatDoor
open Go.Wk Go.ChangeShapes Go.WideShapes Go.RowKit
structure Ns(w:World)(A:Option Addr)(n c:Nat)(P:List Nd):Prop where
 len:n=P.length
 cap:n≤c
 max:n≤maxLen
 at_:jp w A P
 ok:zaj P
theorem Ns.keep{w w':World}{A:Option Addr}{n c:Nat}{P:List Nd}(h:Ns w A n c P)(hb:Below w.heap.size w w'):Ns w' A n c P:=⟨h.len,h.cap,h.max,h.at_.keep hb,h.ok⟩
theorem Ns.same{w:World}{A B:Option Addr}{n c m d:Nat}{P Q:List Nd}(h:Ns w A n c P)(k:Ns w B m d Q):
 Calls Tryz.prog 7 #[.slice A n c,.slice B m d] w fun e w'=>e = .returned (.bool (decide (zu P Q=0)))∧Below w.heap.size w w' :=
 zhV A B n m c d P Q w h.len k.len h.max k.max h.at_ k.at_
theorem ziT:Tryz.prog.cellsOf 53=4:=by kernel_rfl
theorem zjU:Tryz.prog.cellsOf 3=1:=by kernel_rfl
theorem ztW{w:World}{cs:List Value}(h:Rd Tryz.prog w 53 cs):∃x:Nd,cs = [.int .i64 x.op,.int .i64 x.n,.string x.s,.string x.t]∧zcw x:=by
 have hl:=(zc9 Tryz.underlying53 h).1;rw [ziT] at hl
 match cs,hl with
 | [c0,c1,c2,c3],_ =>
  have h0:Rd Tryz.prog w 3 [c0]:=zaI Tryz.underlying53 h 0 3 0 1 rfl zjU
  have h1:Rd Tryz.prog w 3 [c1]:=zaI Tryz.underlying53 h 1 3 1 1 rfl zjU
  have h2:Rd Tryz.prog w 9 [c2]:=zaI Tryz.underlying53 h 2 9 2 1 rfl zbA
  have h3:Rd Tryz.prog w 9 [c3]:=zaI Tryz.underlying53 h 3 9 3 1 rfl zbA
  obtain⟨o,e0,o1,o2⟩:=zrb Tryz.underlying3 h0
  obtain⟨n,e1,n1,n2⟩:=zrb Tryz.underlying3 h1
  obtain⟨a,e2,s2⟩:=zei Tryz.underlying9 h2
  obtain⟨b,e3,s3⟩:=zei Tryz.underlying9 h3
  simp only [List.cons.injEq,and_true] at e0 e1 e2 e3
  exact⟨⟨o,n,a,b⟩,by rw [e0,e1,e2,e3],s2,s3,n1,n2⟩
theorem zhL{w:World}{cs:List Value}(h:Rd Tryz.prog w 25 cs):
 ∃(A:Option Addr) (n c:Nat) (P:List Nd),cs = [.slice A n c]∧n=P.length∧n≤c∧n≤maxLen∧jp w A P∧zaj P:=by
 obtain⟨A,n,c,rfl,h1,h2,h3⟩:=zhj Tryz.underlying25 h;rw [ziT] at h3;obtain⟨P,hl,hr⟩:=zkv n (fun k x=>(∃a,A=some a∧w.cell? (a.add (k*4))=some (.int .i64 x.op)∧w.cell? (a.add (k*4+1))=some (.int .i64 x.n)∧w.cell? (a.add (k*4+2))=some (.string x.s)∧w.cell? (a.add (k*4+3))=some (.string x.t))∧zcw x) (fun i hi=>by
  obtain⟨a,rfl,cs',hl,hc,hr⟩:=h3 i hi
  obtain⟨x,rfl,hx⟩:=ztW hr
  exact⟨x,⟨a,rfl,hc 0 (by omega),hc 1 (by omega),hc 2 (by omega),hc 3 (by omega)⟩,hx⟩)
 refine⟨A,n,c,P,rfl,hl.symm,h1,by omega,fun k x hx=>?_,fun x hx=>?_⟩
 ·obtain⟨⟨a,e,q1,q2,q3,q4⟩,-⟩:=hr k x hx;refine⟨a,e,q1,?_,?_,?_⟩
  all_goals
   rw [←add_add] at q2 q3 q4;unfold Addr.add at q2 q3 q4 ⊢
   first|(simpa using q2)|(simpa using q3)|(simpa using q4)
 ·obtain⟨k,hk,rfl⟩:=List.getElem_of_mem hx;exact(hr k _ (List.getElem?_eq_getElem hk)).2
theorem znS{H:Type}{enc:TypeId × Value→H}{w:World}{b b0:Nat}{sp:Nat→Bool}{hd:Bool}{v:Value}{d:DataW H}{ps:List MemPlace}{r:Reach}
 (hv:Value.okWide Tryz.prog w r b0 25 v) (h:DataW.Trod enc Tryz.prog w b sp hd 25 v d ps):
 ∃(A:Option Addr) (n c:Nat) (P:List Nd),v = .slice A n c∧Ns w A n c P:=by
 obtain⟨A',n',c',rfl⟩:=okWide_slice Tryz.underlying25 hv;obtain⟨A,n,c,P,e,h1,h2,h3,h4,h5⟩:=zhL (zeK h);have e':(Value.slice A' n' c')= .slice A n c:=by simpa [Value.cells] using e
 exact⟨A,n,c,P,e',h1,h2,h3,h4,h5⟩
end Go.Proofs.YtkfgabdnppmglaaGreatDoor
namespace Go.Proofs.YtkfgabdnppmglaaGreatDoor
open Go.RowKit Go.Wk Go.Sort
structure Sl where
 A:Option Addr
 n:Nat
 c:Nat
 P:List Nd
def Sl.v(r:Sl):Value := .slice r.A r.n r.c
def zag(w:World)(A:Option Addr)(V:List Sl):Prop :=
 ∀(k:Nat) (r:Sl),V[k]?=some r→∃a,A=some a∧w.cell? (a.add k)=some (.slice r.A r.n r.c)∧Ns w r.A r.n r.c r.P
theorem zag.keep{w w':World}{A:Option Addr}{V:List Sl}(h:zag w A V)(hb:Below w.heap.size w w'):zag w' A V :=
 fun k r hk=>let ⟨a,h1,h2,h3⟩:=h k r hk;⟨a,h1,za hb h2,h3.keep hb⟩
theorem zag.at{w:World}{A:Option Addr}{V:List Sl}(h:zag w A V){k:Nat}(hk:k<V.length):∃a,A=some a∧w.cell? (a.add k)=some (.slice V[k].A V[k].n V[k].c)∧Ns w V[k].A V[k].n V[k].c V[k].P :=
 h k V[k] (List.getElem?_eq_getElem hk)
theorem Ns.but{w w':World}{A:Option Addr}{n c:Nat}{P:List Nd}{R:Nat}(h:Ns w A n c P)(hg:w.grownBy w' (some R))(hR:0<P.length→∀a,A=some a→a.block≠R):Ns w' A n c P:=by
 refine⟨h.len,h.cap,h.max,?_,h.ok⟩;rcases Nat.eq_zero_or_pos P.length with h0|h0
 ·intro k x hx;have:P = []:=List.eq_nil_of_length_eq_zero h0;subst this;simp at hx
 ·exact h.at_.but hg (hR h0)
def zaC(r:Sl)(g:Option Nat):Prop:=0<r.P.length→∀a,r.A=some a→g≠some a.block
theorem Ns.row{w w':World}{r:Sl}{g:Option Nat}(h:Ns w r.A r.n r.c r.P)(hg:w.grownBy w' g)(ha:zaC r g):Ns w' r.A r.n r.c r.P:=by
 rcases g with _|g
 ·exact h.keep (zdo hg)
 ·exact h.but hg (fun h0 a e q=>ha h0 a e (by rw [q]))
structure zT(w:World)(B:Nat)(v:Value)(V:List Sl):Prop where
 own:w.ownsRow B 25 1 v V.length (V.map Sl.v)
 each:∀r∈V,Ns w r.A r.n r.c r.P
 apart:∀r∈V,zaC r v.ownBlock
theorem zT.nil(w:World)(B:Nat):zT w B (.slice none 0 0) []:=⟨World.ownsRow_nil w B _ 1,(by intro r hr;cases hr),(by intro r hr;cases hr)⟩
theorem zT.keep{w w':World}{B:Nat}{v:Value}{V:List Sl}(h:zT w B v V)(hb:Below w.heap.size w w'):zT w' B v V :=
 ⟨h.own.kept (zh hb none) (by cases hv:v.ownBlock <;> simp),fun r hr=>(h.each r hr).keep hb,h.apart⟩
theorem zT.row{w w':World}{B:Nat}{v:Value}{V:List Sl}{g:Option Nat}(h:zT w B v V)(hg:w.grownBy w' g)(hne:v.ownBlock=none∨v.ownBlock≠g)(ha:∀r∈V,zaC r g):zT w' B v V :=
 ⟨h.own.kept hg hne,fun r hr=>(h.each r hr).row hg (ha r hr),h.apart⟩
theorem zT.snoc{w w':World}{B:Nat}{v v':Value}{V:List Sl}{r:Sl}{o:Obj}(h:zT w B v V)(hr:Ns w r.A r.n r.c r.P)(ha:zaC r v.ownBlock)
 (hown:w'.ownsRow B 25 1 v' (V.length+1) (V.map Sl.v ++ [r.v])) (hg:(w.alloc o).grownBy w' v.ownBlock) (hat:v'.ownBlock=v.ownBlock∨v'.ownBlock=some (w.alloc o).heap.size):zT w' B v' (V ++ [r]):=by
 have hba:Below w.heap.size w (w.alloc o):=zb w o;have hlt:∀x∈V ++ [r],Ns w x.A x.n x.c x.P∧zaC x v.ownBlock:=by
  intro x hx;rcases List.mem_append.1 hx with h1|h1
  ·exact⟨h.each x h1,h.apart x h1⟩
  ·simp only [List.mem_cons,List.not_mem_nil,or_false] at h1;subst h1;exact⟨hr,ha⟩
 refine⟨?_,fun x hx=>((hlt x hx).1.keep hba).row hg (hlt x hx).2,fun x hx h0 a e=>?_⟩
 ·simpa using hown
 ·rcases hat with e'|e'
  ·rw [e'];exact(hlt x hx).2 h0 a e
  ·rw [e'];have:=(hlt x hx).1.at_.lt h0 a e;intro q;injection q with q;simp at q;omega
theorem zT.at{w:World}{B:Nat}{v:Value}{V:List Sl}(h:zT w B v V):∃A c,v = .slice A V.length c∧V.length≤c∧zag w A V:=by
 rcases h.own.2 with ⟨rfl,h0⟩|⟨g,cap,cur,rfl,_,_,hc,_⟩
 ·have:V = []:=List.eq_nil_of_length_eq_zero h0;subst this;exact⟨none,0,rfl,Nat.le_refl _,fun k r hk=>by simp at hk⟩
 ·refine⟨some ⟨g,0,none⟩,cap,rfl,hc,fun k r hk=>⟨_,rfl,?_,h.each r (List.mem_of_getElem? hk)⟩⟩;exact h.own.cells (g:=g) rfl k _ (by rw [List.getElem?_map,hk];rfl)
theorem zcP:(Tryz.prog.info? 25).map (fun i=>(i.zero,i.size,i.bytes))=some (some (.slice none 0 0),1,24):=by kernel_rfl
theorem jp.cells{w:World}{a:Addr}{P:List Nd}(h:jp w (some a) P):∀j u,(zO P)[j]?=some u→w.cell? (a.add j)=some u:=by
 intro j u hu;have hl:=zaf P;have hj:j<(zO P).length:=(List.getElem?_eq_some_iff.1 hu).1;have hk:j / 4<P.length:=by omega
 obtain⟨h1,h2,h3,h4⟩:=ziu P (j / 4) P[j / 4] (List.getElem?_eq_getElem hk);obtain⟨b,e,q1,q2,q3,q4⟩:=h (j / 4) P[j / 4] (List.getElem?_eq_getElem hk);injection e with e;subst e;have hr:j % 4=0∨j % 4=1∨j % 4=2∨j % 4=3:=by omega
 have nx:∀(x d:Nat),0<d→(⟨(a.add x).block,(a.add x).off+d,none⟩:Addr)=a.add (x+d):=by
  intro x d hd;unfold Addr.add;by_cases hx:x=0
  ·subst hx;simp;omega
  ·simp [hx,Nat.add_assoc]
 rcases hr with hr|hr|hr|hr
 ·have e:j=j / 4*4:=by omega
  rw [←e] at h1 q1;rw [hu] at h1;rw [h1];exact q1
 ·have e:j=j / 4*4+1:=by omega
  rw [nx _ _ (by omega),←e] at q2;rw [←e] at h2;rw [hu] at h2;rw [h2];exact q2
 ·have e:j=j / 4*4+2:=by omega
  rw [nx _ _ (by omega),←e] at q3;rw [←e] at h3;rw [hu] at h3;rw [h3];exact q3
 ·have e:j=j / 4*4+3:=by omega
  rw [nx _ _ (by omega),←e] at q4;rw [←e] at h4;rw [hu] at h4;rw [h4];exact q4
theorem zaO(P:List Nd):∀u∈zO P,u.oneCell'=true:=by
 induction P with
 | nil=>intro u hu;cases hu
 | cons x P ih =>
  intro u hu
  simp only [zO,List.mem_cons] at hu
  rcases hu with rfl|rfl|rfl|rfl|hu
  ·rfl
  ·rfl
  ·rfl
  ·rfl
  ·exact ih u hu
theorem zf6:(Tryz.prog.info? 53).map (fun i=>(i.zero,i.size,i.bytes))=some (some (.agg #[.int .i64 0,.int .i64 0,.string ⟨#[]⟩,.string ⟨#[]⟩]),4,48):=by kernel_rfl
theorem zaU{w:World}{B:Nat}{v:Value}{P:List Nd}(h:w.ownsRow B 53 4 v P.length (zO P)):∃A c,v = .slice A P.length c∧P.length≤c∧jp w A P∧(∀a,A=some a→B≤a.block):=by
 rcases h.2 with ⟨rfl,h0⟩|⟨g,cap,cur,rfl,hB,_,hc,_⟩
 ·have:P = []:=List.eq_nil_of_length_eq_zero h0;subst this;exact⟨none,0,rfl,Nat.le_refl _,fun k x hx=>by simp at hx,fun a e=>by cases e⟩
 ·exact⟨some ⟨g,0,none⟩,cap,rfl,hc,ze3 (h.cells (g:=g) rfl),fun a e=>by injection e with e;subst e;exact hB⟩
def zsN(w:World)(P:List Nd)(e:Ending)(w':World):Prop:=∃(A:Option Addr) (c:Nat),e = .returned (.slice A P.length c)∧Ns w' A P.length c P∧(∀a,A=some a→w.heap.size≤a.block)∧Below w.heap.size w w'
theorem zgy(a:Addr)(n c:Nat)(P:List Nd)(w:World)(h:Ns w (some a) n c P)(hl:P.length≤100000):
 Calls Tryz.prog 152 #[.slice (some a) n c] w (zsN w P):=by
 obtain⟨i0,hi,hz0,hz1,hz2⟩:=info_parts zf6;have hn:=h.len;have HC:=hi9 (fun w' hb=>(h.at_.keep (w':=w') hb).cells);have HO:=hi9 h.ok;have HL:=hi9 hl;clear h hl;subst hn;have hnil:=fun w:World=>Lib.run_eql_slice_nil (P:=Tryz.prog) w 25 53 (some a) P.length c 0 0 Tryz.underlying25;simp only [Option.isNone_some] at hnil;go_enter Tryz.func152,Tryz.ntmps152;have hB:∀W:World,(W.alloc (.cells #[] 53)).ownsRow W.heap.size 53 4 (.slice (some ⟨W.heap.size,0,none⟩) 0 0) 0 []:=fun W =>
  ⟨rfl,.inr ⟨_,0,#[],rfl,Nat.le_refl _,heap_alloc_new W _,Nat.le_refl _,by unfold maxLen;omega,rfl,rfl⟩⟩
 go_wp2_with (at_builtin;refine wpList_append_own _ rfl _ _ 25 rfl w.heap.size 53 i0 _ 4 48 Tryz.underlying25 hi hz0 hz1 hz2 rfl (by decide) _ 0 [] rfl (hB w) a P.length c (zO P) rfl (zaf P) (HC.out _ (zb _ _)) (zaO P) ?c1 ?c2 ?c3 ?_)
 case c1=>have:=HL.out;unfold maxLen;omega
 case c2=>have:=HL.out;omega
 case c3=>simp
 intro v1 w1 hown hgrow _;have HW:=hi9 hown;have HG:=hi9 hgrow;clear hown hgrow hnil;go_wp2_with fail;go_ret;obtain⟨A,c',rfl,h1,h2,h3⟩:=zaU HW.out;refine⟨A,c',rfl,⟨rfl,h1,by have:=HL.out;unfold maxLen;omega,h2,HO.out⟩,h3,?_⟩;exact(zb w _).grown HG.out (by simp) (fun k hk=>by simp [Value.ownBlock] at hk;omega)
end Go.Proofs.YtkfgabdnppmglaaGreatDoor
