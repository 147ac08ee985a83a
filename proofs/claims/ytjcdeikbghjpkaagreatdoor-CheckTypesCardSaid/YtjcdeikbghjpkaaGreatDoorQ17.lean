/-
  val's reader: part at a record; part outright. val.Check: nodes that are a value. val.first, val.Compare. Aids of later walks: a node's four cells; contracts ..
-/
import Derived.Defers
import Derived.Recover
import Derived.Test.YtjcdeikbghjpkaaGreatDoorQ15
import Derived.Test.YtjcdeikbghjpkaaGreatDoorQ16
set_option maxRecDepth 100000
set_option maxHeartbeats 8000000
namespace Go.Wk
theorem zqE(a b:List UInt8):Op.bytesLess a b=decide (Lib.compareBytes a b<0):=by
 induction a generalizing b with
 | nil=>cases b <;> simp [Op.bytesLess,Lib.compareBytes]
 | cons x a ih =>
  cases b with
  | nil=>simp [Op.bytesLess,Lib.compareBytes]
  | cons y b =>
   simp only [Op.bytesLess,Lib.compareBytes,ih]
   by_cases h1:x<y
   ·simp [h1]
   ·by_cases h2:y<x
    ·have:(x==y)=false:=by
      rw [beq_eq_false_iff_ne];intro e;subst e;exact h1 h2
     simp [h1,h2,this]
    ·have:x=y:=by
      have a1:¬x.toNat<y.toNat:=h1;have a2:¬y.toNat<x.toNat:=h2;exact UInt8.toNat_inj.1 (by omega)
     subst this
     simp [h1]
theorem zf0(a b:ByteArray):(zO b a<0∧Op.bytesLess a.toList b.toList=false∧(a.toList==b.toList)=false)∨(¬zO b a<0∧Op.bytesLess a.toList b.toList=true)∨(¬zO b a<0∧Op.bytesLess a.toList b.toList=false∧(a.toList==b.toList)=true):=by
 rw [zqE];have e:Lib.compareBytes a.toList b.toList=zO a b:=by unfold zO;rw [ByteArray.toList_eq,ByteArray.toList_eq]
 rw [e];have h1:=zt.anti a b;have h2:=zt.zero a b;by_cases h:zO a b<0
 ·exact .inr (.inl ⟨by omega,by simpa using h⟩)
 ·by_cases h0:zO a b=0
  ·exact .inr (.inr ⟨by omega,by simpa using h,by rw [h2.1 h0];simp⟩)
  ·refine .inl ⟨by omega,by simpa using h,?_⟩;rw [beq_eq_false_iff_ne];intro q;rw [ByteArray.toList_eq,ByteArray.toList_eq] at q;exact h0 (h2.2 (zaD q))
theorem zc1{v:List Nd}{f:Nat→Option Nat}{N k:Nat}{last:ByteArray}{q:Nat}(hk:k<N)(h:zbh v last q=none):zap v f (N-k) last q=none:=by
 obtain⟨j,hj⟩:∃j,N-k=j+1:=⟨N-k-1,by omega⟩
 rw [hj];simp only [zap,h]
theorem zkv{v:List Nd}{f:Nat→Option Nat}{N k:Nat}{last s:ByteArray}{q:Nat}(hk:k<N)(h:zbh v last q=some s)(hf:f (q+1)=none):zap v f (N-k) last q=none:=by
 obtain⟨j,hj⟩:∃j,N-k=j+1:=⟨N-k-1,by omega⟩
 rw [hj];simp only [zap,h,hf]
theorem zk5{v:List Nd}{f:Nat→Option Nat}{N k:Nat}{last s:ByteArray}{q e:Nat}(hk:k<N)(h:zbh v last q=some s)(hf:f (q+1)=some e):zap v f (N-k) last q=zap v f (N-(k+1)) s e:=by
 obtain⟨j,hj⟩:∃j,N-k=j+1:=⟨N-k-1,by omega⟩
 rw [hj,show N-(k+1)=j by omega];simp only [zap,h,hf]
theorem zlS{v:List Nd}{last:ByteArray}{p:Nat}(h:v.length≤p):zbh v last p=none:=by
 unfold zbh;rw [List.getElem?_eq_none h]
theorem ziN{v:List Nd}{last:ByteArray}{p:Nat}(h:p<v.length)(hq:(decide (v[p].op=7)&& ja v[p] && decide (zO last v[p].s<0))=false):zbh v last p=none:=by
 unfold zbh;rw [List.getElem?_eq_getElem h];simp only [hq,Bool.false_eq_true,if_false]
theorem zlu{v:List Nd}{last:ByteArray}{p:Nat}(h:p<v.length)(hq:(decide (v[p].op=7)&& ja v[p] && decide (zO last v[p].s<0))=true):zbh v last p=some v[p].s:=by
 unfold zbh;rw [List.getElem?_eq_getElem h];simp only [hq,if_true]
end Go.Wk
namespace Go.Proofs.YtjcdeikbghjpkaaGreatDoor
open Go.RowKit Go.Wk Go.Sort
theorem zpu(a:Addr)(P:List Nd)(n c p R m:Nat)(w:World)(hr:zb0 w R (.slice (some a) n c) p)(hn:n=P.length)(hc:n≤c)(hm:n≤maxLen)(hp:p<n)(hP:jM w (some a) P)(hO:zaj P)(hs:ja (P[p]'(by omega))=true)
 (h5:(P[p]'(by omega)).op=6) (hR:a.block≠R) (ih:zpK P (some a) n c R m) (hfu:n-p<m+1):
 Calls Tryz.prog 116 #[.pointer (some ⟨R,0,none⟩)] w (zco R (some a) n c p w (zap P (ju P m) (P[p]'(by omega)).n.toNat .empty (p+1))):=by
 unfold maxLen at hm;have HR:=hi9 hr;have HS:=hi9 (fun w1 (hb:Below w.heap.size w w1) o=>zhs hr hb o);have HP:=hi9 hP;have HN:=hi9 hn;have HO:=hi9 hO;have IH:=hi9 ih;obtain⟨c0,c1,f1⟩:=hr;have hp':p<P.length:=by omega
 obtain⟨b,hb0,q1,q2,q3,q4⟩:=hP p P[p] (List.getElem?_eq_getElem hp');injection hb0 with hb0;subst hb0;have S:=hi9 (fun w=>zbQ P[p] w (hO.at hp').s (hO.at hp').t);rw [hs] at S;unfold ndV at S;obtain⟨-,-,hlo,hhi⟩:=hO.at hp';rw [h5] at q1 S;generalize P[p]=x at *;have hx0:0≤x.n:=by
  unfold ja at hs;rw [h5] at hs;simp at hs;exact hs.1.1
 clear hP hn h5 hs hlo ih hO;have hnp:decide (n≤p)=false:=decide_eq_false (by omega);go_enter Tryz.func116,Tryz.ntmps116;go_wp2_with fail;refine(S.out _).mono ?_;rintro e w1 ⟨rfl,hb⟩;replace c0:=zb hb c0;replace c1:=zb hb c1;replace q1:=zb hb q1;replace q2:=zb hb q2;replace q3:=zb hb q3;replace q4:=zb hb q4;have f1':=(hb.frozen (p:=⟨R,1,none⟩) HR.out.lt).trans f1;clear f1;have hRl:=Nat.lt_of_lt_of_le HR.out.lt hb.size;have HB:=hi9 hb;clear hb;go_wp2_with fail;obtain⟨s1,s2⟩:=HS.out _ HB.out (.cells #[.int .i64 6,.int .i64 x.n,.string x.s,.string x.t] 41);have S1:=hi9 s1;have S2:=hi9 s2;clear s1 s2 c0 c1 f1' q1 q2 q3 q4 hRl S HS HR;go_loopw [8,74] (fun last i wr=>∃(k q:Nat) (ls:ByteArray),i = .int .i64 k∧(k:Int)≤x.n∧last = .string ls∧q≤n∧p<q∧
  Hid (zap P (ju P m) x.n.toNat .empty (p+1)=zap P (ju P m) (x.n.toNat-k) ls q)∧Hid (zb0 wr R (.slice (some a) n c) q)∧Hid (w.grownBy wr (some R))) (fun _ i _=>(x.n-intOf i).toNat)
 case atStart=>exact⟨0,p+1,.empty,rfl,hx0,rfl,by omega,by omega,rfl,S1.out,S2.out⟩
 case round =>
  obtain⟨k,q,ls,rfl,hk,rfl,hq,hpq,hE,hrd,hgr⟩:=hrel;by_cases hlt:(k:Int)<x.n
  ·have N:=hi9 (HP.out.but hgr.out (fun a' e=>by cases e;exact hR));have kc0:=cell_regrown hrd.out.c0;have kc1:=cell_regrown hrd.out.c1;by_cases hqn:q<n
   ·have hq':q<P.length:=by rw [←HN.out];exact hqn
    obtain⟨b,hb0,q1,q2,q3,q4⟩:=N.out q P[q] (List.getElem?_eq_getElem hq');injection hb0 with hb0;subst hb0;have hnq:decide (n≤q)=false:=decide_eq_false (by omega);by_cases h7:P[q].op=7
    ·rw [h7] at q1;have hy:=HO.out.at hq';have S0:Hid (∀w,Calls Tryz.prog 131 #[.agg #[.int .i64 7,.int .i64 P[q].n,.string P[q].s,.string P[q].t]] w fun e w'=>e = .returned (.bool (ja P[q]))∧Below w.heap.size w w'):=
      hi9 (fun w=>by have:=zbQ P[q] w hy.s hy.t;unfold ndV at this;rw [h7] at this;exact this)
     have HY:=hi9 (show∀b,(decide (P[q].op=7)&& ja P[q] && decide (zO ls P[q].s<0))=b→(b=true→zbh P ls q=some P[q].s)∧(b=false→zbh P ls q=none) from
      fun b hb=>⟨fun e=>zlu hq' (hb.trans e),fun e=>ziN hq' (hb.trans e)⟩)
     rw [h7] at HY;generalize P[q]=y at *;clear h7 hy;have kq1:=cell_regrown q1;have kq2:=cell_regrown q2;have kq3:=cell_regrown q3;have kq4:=cell_regrown q4;by_cases hsy:ja y=true
     ·rw [hsy] at S0 HY;clear hsy;rcases zf0 y.s ls with ⟨l0,l1,l2⟩|hl
      ·have HF:=hi9 ((HY.out true (by simp [l0])).1 rfl);have cS:∀d os,Calls Tryz.prog 131 #[.agg #[.int .i64 7,.int .i64 y.n,.string y.s,.string y.t]] (grow (redrawn wr d) os) fun e w''=>e = .returned (.bool true)∧∃p:Regrown,w''=grow (redrawn wr p.d) p.os:=fun d os=>Calls.regrown_of (S0.out _);clear l0 HY S0;have Q1:=hi9 q1;have Q2:=hi9 q2;have Q3:=hi9 q3;have Q4:=hi9 q4;clear q1 q2 q3 q4;go_wp2_with fail;refine wp_region_quiet_below (by kernel_rfl) (by kernel_rfl) ?_
       repeat (first|go_big_quiet_step (exact cS _ _)|quiet_step (exact cS _ _))
       refine wpQuiet_nil ?_;intro w2 hw';have b2:Below wr.heap.size wr w2:=by obtain⟨⟨d,os⟩,rfl⟩:=hw';exact below_regrown _ _ _
       clear hw' kq1 kq2 kq3 kq4 kc0 kc1 cS;have rd2:=hrd.out.keep b2;have q3:=zb b2 Q3.out;have nd2:=N.out.keep b2;have RS:=hi9 (fun k=>(rd2.put (q+1)).drewN k);have gs:wr.grownBy (w2.setCell ⟨R,1,none⟩ (.int .i64 (q+1:Nat))) (some R):=zf (zc b2 _) (zg _ ⟨R,1,none⟩ _);have GS:=hi9 (fun k=>zcU gs k);have NS:=hi9 (fun k=>N.out.but (GS.out k) (fun a' e=>by cases e;exact hR));have hl2:=rd2.lt;obtain⟨d0,d1,d2⟩:=rd2;have C:=hi9 (fun k=>IH.out (q+1) _ (RS.out k) (NS.out k) (by omega));clear b2 nd2 gs Q1 Q2 Q3 Q4 l1 l2 N hrd NS;rcases hf:ju P m (q+1) with _|e
       ·have HG:=hi9 (hE.out.trans (zkv (by omega) HF.out hf));rw [hf] at C;clear hE HF hf;go_wp2_with fail;go_quiet (fail);go_wp2_with fail;refine(C.out _).mono ?_;rintro e w3 hpost;obtain⟨rfl,g3⟩:=hpost;go_wp2_with fail;rw [HG.out];exact⟨rfl,rfl,zf hgr.out (zf (GS.out _) g3)⟩
       ·have HG:=hi9 (hE.out.trans (zk5 (by omega) HF.out hf));have hpe:=zfh _ _ _ hf;rw [←HN.out] at hpe;rw [hf] at C;clear hE HF hf;go_wp2_with fail;go_quiet (fail);go_wp2_with fail;refine(C.out _).mono ?_;rintro e' w3 hpost;obtain⟨rfl,r3,g3⟩:=hpost;have R3:=hi9 r3;have G3:=hi9 (zf hgr.out (zf (GS.out _) g3));clear r3 g3;go_wp2_with fail;go_roundw
        case rel=>exact⟨k+1,e,_,by go_num,by omega,rfl,by omega,by omega,HG.out,R3.out,G3.out⟩
        case measure=>simp [intOf];omega
      ·have HF:=hi9 ((HY.out false (by rcases hl with ⟨l0,_⟩|⟨l0,_⟩<;> simp [l0])).2 rfl);have HG:=hi9 (hE.out.trans (zc1 (by omega) HF.out));have cS:∀d os,Calls Tryz.prog 131 #[.agg #[.int .i64 7,.int .i64 y.n,.string y.s,.string y.t]] (grow (redrawn wr d) os) fun e w''=>e = .returned (.bool true)∧∃p:Regrown,w''=grow (redrawn wr p.d) p.os:=fun d os=>Calls.regrown_of (S0.out _);clear hE HY S0;rcases hl with ⟨-,l1⟩|⟨-,l1,l2⟩
       all_goals
        go_wp2_with fail;refine wp_region_quiet_below (by kernel_rfl) (by kernel_rfl) ?_
        repeat (first|go_big_quiet_step (exact cS _ _)|quiet_step (exact cS _ _))
        refine wpQuiet_nil ?_;intro w2 hw';have B2:=hi9 (show Below wr.heap.size wr w2 by obtain⟨⟨d,os⟩,rfl⟩:=hw';exact below_regrown _ _ _);clear hw';go_wp2_with fail;rw [HG.out];exact⟨rfl,rfl,zf hgr.out (zc B2.out _)⟩
     ·rw [Bool.not_eq_true] at hsy;rw [hsy] at S0 HY;clear hsy;have HF:=hi9 ((HY.out false (by simp)).2 rfl);have HG:=hi9 (hE.out.trans (zc1 (by omega) HF.out));have cS:∀d os,Calls Tryz.prog 131 #[.agg #[.int .i64 7,.int .i64 y.n,.string y.s,.string y.t]] (grow (redrawn wr d) os) fun e w''=>e = .returned (.bool false)∧∃p:Regrown,w''=grow (redrawn wr p.d) p.os:=fun d os=>Calls.regrown_of (S0.out _);clear hE HY S0;go_wp2_with fail;refine wp_region_quiet_below (by kernel_rfl) (by kernel_rfl) ?_
      repeat (first|go_big_quiet_step (exact cS _ _)|quiet_step (exact cS _ _))
      refine wpQuiet_nil ?_;intro w2 hw';have B2:=hi9 (show Below wr.heap.size wr w2 by obtain⟨⟨d,os⟩,rfl⟩:=hw';exact below_regrown _ _ _);clear hw';go_wp2_with fail;rw [HG.out];exact⟨rfl,rfl,zf hgr.out (zc B2.out _)⟩
    ·have hs7:(P[q].op != 7)=true:=by rw [bne_iff_ne];exact h7
     have HG:=hi9 (hE.out.trans (zc1 (by omega) (ziN hq' (by simp [h7]))));clear hE h7;have kq1:=cell_regrown q1;go_wp2_with fail;refine wp_region_quiet_below (by kernel_rfl) (by kernel_rfl) ?_
     repeat (first|go_big_quiet_step (fail)|quiet_step (fail))
     refine wpQuiet_nil ?_;intro w2 hw';have B2:=hi9 (show Below wr.heap.size wr w2 by obtain⟨⟨d,os⟩,rfl⟩:=hw';exact below_regrown _ _ _);clear hw';go_wp2_with fail;rw [HG.out];exact⟨rfl,rfl,zf hgr.out (zc B2.out _)⟩
   ·have hnq:decide (n≤q)=true:=decide_eq_true (by omega);have HG:=hi9 (hE.out.trans (zc1 (by omega) (zlS (by rw [←HN.out];omega))));clear hE;go_wp2_with fail;refine wp_region_quiet_below (by kernel_rfl) (by kernel_rfl) ?_
    repeat (first|go_big_quiet_step (fail)|quiet_step (fail))
    refine wpQuiet_nil ?_;intro w2 hw';have B2:=hi9 (show Below wr.heap.size wr w2 by obtain⟨⟨d,os⟩,rfl⟩:=hw';exact below_regrown _ _ _);clear hw';go_wp2_with fail;rw [HG.out];exact⟨rfl,rfl,zf hgr.out (zc B2.out _)⟩
  ·have HG:=hi9 (hE.out.trans (by rw [show x.n.toNat-k=0 by omega];rfl:_=some q));obtain⟨d0,d1,d2⟩:=hrd.out;have RD:=hi9 hrd.out;clear hE hrd;go_wp2_with fail;go_quiet (fail);go_wp2_with fail;go_ret;rw [HG.out];exact⟨rfl,RD.out.drewN _,zcU hgr.out _⟩
theorem znG(a:Addr)(P:List Nd)(n c p R:Nat)(w:World)(hr:zb0 w R (.slice (some a) n c) p)(hn:n=P.length)(hm:n≤maxLen)(hp:p<n)(hP:jM w (some a) P)(hO:zaj P)(hs:ja (P[p]'(by omega))=true)
 (h7:(P[p]'(by omega)).op=7):
 Calls Tryz.prog 116 #[.pointer (some ⟨R,0,none⟩)] w (zco R (some a) n c p w none):=by
 unfold maxLen at hm;have HR:=hi9 hr;have HS:=hi9 (fun w1 (hb:Below w.heap.size w w1) o=>zhs hr hb o);obtain⟨c0,c1,f1⟩:=hr;have hp':p<P.length:=by omega
 obtain⟨b,hb0,q1,q2,q3,q4⟩:=hP p P[p] (List.getElem?_eq_getElem hp');injection hb0 with hb0;subst hb0;have S:=hi9 (fun w=>zbQ P[p] w (hO.at hp').s (hO.at hp').t);rw [hs] at S;unfold ndV at S;rw [h7] at q1 S;generalize P[p]=x at *;clear hO hP hn h7;go_enter Tryz.func116,Tryz.ntmps116;go_wp2_with fail;refine(S.out _).mono ?_;rintro e w1 ⟨rfl,hb⟩;replace c0:=zb hb c0;replace c1:=zb hb c1;replace q1:=zb hb q1;replace q2:=zb hb q2;replace q3:=zb hb q3;replace q4:=zb hb q4;have f1':=(hb.frozen (p:=⟨R,1,none⟩) HR.out.lt).trans f1;clear f1;have hR:=Nat.lt_of_lt_of_le HR.out.lt hb.size;have HB:=hi9 hb;clear hb;go_wp2_with fail;exact⟨rfl,rfl,(HS.out _ HB.out _).2⟩
theorem zlo(A:Option Addr)(P:List Nd)(n c R:Nat)(hn:n=P.length)(hc:n≤c)(hm:n≤maxLen)(hO:zaj P)(hR:0<P.length→∀a,A=some a→a.block≠R)(m:Nat):zpK P A n c R m:=by
 induction m with
 | zero=>intro q w _ _ h;omega
 | succ m ih =>
  intro p w hr hP hf
  by_cases hp:p<n
  ·have hp':p<P.length:=by omega
   obtain⟨a,rfl,-⟩:=hP p P[p] (List.getElem?_eq_getElem hp');have e:ju P (m+1) p=if ja P[p] then(if P[p].op=5 then zaq P (ju P m) P[p].n.toNat none (p+1) else if P[p].op=6 then zap P (ju P m) P[p].n.toNat .empty (p+1) else if P[p].op=7 then none else some (p+1)) else none:=by
    simp only [ju,List.getElem?_eq_getElem hp']
   rw [e];by_cases hs:ja P[p]=true
   ·rw [if_pos hs];by_cases h5:P[p].op=5
    ·rw [if_pos h5];exact zpW a P n c p R m w hr hn hc hm hp hP hO hs h5 (hR (by omega) a rfl) ih hf
    rw [if_neg h5];by_cases h6:P[p].op=6
    ·rw [if_pos h6];exact zpu a P n c p R m w hr hn hc hm hp hP hO hs h6 (hR (by omega) a rfl) ih hf
    rw [if_neg h6];by_cases h7:P[p].op=7
    ·rw [if_pos h7];exact znG a P n c p R w hr hn hm hp hP hO hs h7
    rw [if_neg h7];exact zoF a P n c p R w hr hn hc hm hp hP hO hs (beq_eq_false_iff_ne.2 h5) (beq_eq_false_iff_ne.2 h6) (beq_eq_false_iff_ne.2 h7)
   ·rw [if_neg hs];exact zpY a P n c p R w hr hn hp hP hO (by simpa using hs)
  ·have e:ju P (m+1) p=none:=by
    simp only [ju,List.getElem?_eq_none (by omega:P.length≤p)]
   rw [e]
   exact zre A n c p R w hr (by omega)
theorem zij(p:Addr)(w:World):
 CallsD Tryz.prog 115 #[.pointer (some p)] .returning w fun e u' w'=>e = .returned (.tuple #[])∧u' = .returning∧w'=w:=by
 refine callsD_of_wpS Tryz.func115 rfl fun c₀ cs hu=>?_;apply wpS_seq;apply wpS_region;simp [wpOpsS,go_sem,recoverD,hu,Tryz.ntmps115,Exit.thenS];refine wpS_of_wp ?_;go_wp2_with fail;cases c₀;simp_all [bodyPostS,results,Tryz.results115]
theorem zkl(E:Nat)(v:Value)(older:List PanicEntry)(w:World)(hc:w.cell? ⟨E,0,none⟩=some v)(hz:w.frozen? ⟨E,0,none⟩=false):
 CallsD Tryz.prog 115 #[.pointer (some ⟨E,0,none⟩)] (.panicking ({ v := .iface 200 (.agg #[]),recovered:=false } :: older)) w fun e u' w' =>
  e = .returned (.tuple #[])∧u' = .panicking ({ v := .iface 200 (.agg #[]),recovered:=true } :: older)∧w'=(w.setCell ⟨E,0,none⟩ (.iface 28 (.int .i64 1))).alloc (.cells #[] 200):=by
 have hl:E<w.heap.size:=block_lt_of_cell hc;have hta:∀w,(Instr.typeAssert (.iface 200 (.agg #[])) 20 200 true).run Tryz.prog w = .ok (.tuple #[.agg #[],.bool true]) w:=fun _=>by kernel_rfl
 refine callsD_of_wpS Tryz.func115 rfl fun c₀ cs hu=>?_;apply wpS_seq;apply wpS_region;simp [wpOpsS,go_sem,recoverD,hu,Tryz.ntmps115];refine wpS_of_wp ?_;go_wp2_with fail;cases c₀;simp [bodyPostS,results,Tryz.results115]
theorem zmY(A:Option Addr)(n c:Nat)(P:List Nd)(w:World)(hn:n=P.length)(hm:n≤maxLen)(h:200<n):
 Calls Tryz.prog 98 #[.slice A n c] w fun e w'=>e = .returned (zao (jT P))∧Below w.heap.size w w':=by
 have H:=hi9 (show jT P=4 by unfold jT;rw [if_pos (by omega)]);unfold maxLen at hm;clear hn;go_enter_defers Tryz.func98,Tryz.ntmps98;go_wp2_with fail;simp [bodyPostD,Leaves,results,Tryz.results98,go_sem];rw [H.out];exact⟨rfl,za _ _⟩
theorem jM.lt{w:World}{A:Option Addr}{P:List Nd}(h:jM w A P)(h0:0<P.length)(a:Addr)(e:A=some a):a.block<w.heap.size:=by
 obtain⟨b,hb,q,-⟩:=h 0 P[0] (List.getElem?_eq_getElem h0);rw [e] at hb;injection hb with hb;subst hb;have:=block_lt_of_cell q;rw [jx] at this;exact this
theorem zdO{w w1:World}(o1 o2:Obj)(h:((w.alloc o1).alloc o2).grownBy w1 (some (w.heap.size+1))):
 Below w.heap.size w w1∧w1.cell? ⟨w.heap.size,0,none⟩=(w.alloc o1).cell? ⟨w.heap.size,0,none⟩∧w1.frozen? ⟨w.heap.size,0,none⟩=(w.alloc o1).frozen? ⟨w.heap.size,0,none⟩∧w.heap.size+2≤w1.heap.size:=by
 have hb:Below (w.heap.size+1) ((w.alloc o1).alloc o2) w1:=zaL h (Nat.le_refl _) (by simp);have hb2:Below (w.heap.size+1) (w.alloc o1) w1:=((Below.refl _ _).alloc (by simp) o2).trans hb;refine⟨(za w o1).trans (hb2.mono (by omega)),hb2.cell (by simp),hb2.frozen (by simp),?_⟩;have:=h.size;simp at this;omega
theorem zm0(A:Option Addr)(n c:Nat)(P:List Nd)(w:World)(hn:n=P.length)(hc:n≤c)(hm:n≤maxLen)(hP:jM w A P)(hO:zaj P)(h:¬200<n)(he:ju P (n+1) 0=none):
 Calls Tryz.prog 98 #[.slice A n c] w fun e w'=>e = .returned (zao (jT P))∧Below w.heap.size w w':=by
 have H:=hi9 (show jT P=1 by unfold jT;rw [if_neg (by omega),←hn,he];rfl);have C:=hi9 (fun W h1 h2=>zlo A P n c (w.heap.size+1) hn hc hm hO (fun h0 a e=>by have:=hP.lt h0 a e;omega) (n+1) 0 W h1 h2 (by omega));rw [he] at C;unfold maxLen at hm;have HP:=hi9 hP;have hmf:∀(fn:Fn) (first cap:Array Value) (w:World),(Instr.makeFunc fn first cap).run Tryz.prog w = .ok (.func fn first cap) w:=fun _ _ _ _=>rfl;clear hn hP hO;go_enter_defers Tryz.func98,Tryz.ntmps98;go_wp2_with fail;refine(C.out _ ⟨by simp,by simp,by simp⟩ (HP.out.keep ((by(repeat' (first|exact Below.refl _ _|refine Below.alloc ?_ ?_ _|refine Below.setCell ?_ ?_ _|refine Below.drew ?_|refine Below.drewN ?_ _))<;>(try simp)<;> omega)))).mono ?_;rintro e w1 hpost;obtain⟨rfl,g1⟩:=hpost;obtain⟨b1,c1,f1,z1⟩:=zdO _ _ g1;have c1':w1.cell? ⟨w.heap.size,0,none⟩=some .nilIface:=c1.trans (by simp);have f1':w1.frozen? ⟨w.heap.size,0,none⟩=false:=f1.trans (by simp);clear c1 f1 g1;go_wp2_with fail;refine leaves_cons (f:=115) (args:=#[.pointer (some ⟨w.heap.size,0,none⟩)]) (by simp) (by simp [go_sem]) ?_;refine(zkl w.heap.size _ [] w1 c1' f1').mono ?_;rintro e u' w2 ⟨rfl,rfl,rfl⟩;have hl:w.heap.size<w1.heap.size:=by omega
 simp [Leaves,settle,results,Tryz.results98,go_sem,c1',hl];rw [H.out];exact⟨rfl,(b1.setCell (p:=⟨w.heap.size,0,none⟩) (Nat.le_refl _) _).alloc (by simp [World.setCell];omega) _⟩
theorem znB(A:Option Addr)(n c e:Nat)(P:List Nd)(w:World)(hn:n=P.length)(hc:n≤c)(hm:n≤maxLen)(hP:jM w A P)(hO:zaj P)(h:¬200<n)(he:ju P (n+1) 0=some e):
 Calls Tryz.prog 98 #[.slice A n c] w fun e w'=>e = .returned (zao (jT P))∧Below w.heap.size w w':=by
 have C:=hi9 (fun W h1 h2=>zlo A P n c (w.heap.size+1) hn hc hm hO (fun h0 a e=>by have:=hP.lt h0 a e;omega) (n+1) 0 W h1 h2 (by omega));rw [he] at C;have hle:=zfh _ _ _ he;rw [←hn] at hle;have H:=hi9 (show jT P=if e<n then 1 else 0 by
  unfold jT;rw [if_neg (by omega),←hn,he]
  by_cases q:e<n
  ·rw [if_pos q,if_neg (by intro z;injection z with z;omega)]
  ·rw [if_neg q,if_pos (by congr 1;omega)])
 unfold maxLen at hm;have HP:=hi9 hP;have hmf:∀(fn:Fn) (first cap:Array Value) (w:World),(Instr.makeFunc fn first cap).run Tryz.prog w = .ok (.func fn first cap) w:=fun _ _ _ _=>rfl;clear hn hP hO he;by_cases hen:e<n
 ·rw [if_pos hen] at H;go_enter_defers Tryz.func98,Tryz.ntmps98;go_wp2_with fail;refine(C.out _ ⟨by simp,by simp,by simp⟩ (HP.out.keep ((by(repeat' (first|exact Below.refl _ _|refine Below.alloc ?_ ?_ _|refine Below.setCell ?_ ?_ _|refine Below.drew ?_|refine Below.drewN ?_ _))<;>(try simp)<;> omega)))).mono ?_;rintro e w1 hpost;obtain⟨rfl,r1,g1⟩:=hpost;obtain⟨b1,c1,f1,z1⟩:=zdO _ _ g1;have c1':w1.cell? ⟨w.heap.size,0,none⟩=some .nilIface:=c1.trans (by simp);have f1':w1.frozen? ⟨w.heap.size,0,none⟩=false:=f1.trans (by simp);have r2:=r1.c1;clear c1 f1 g1 r1;go_wp2_with fail;refine leaves_cons (f:=115) (args:=#[.pointer (some ⟨w.heap.size,0,none⟩)]) (by simp) (by simp [go_sem]) ?_;refine(zij ⟨w.heap.size,0,none⟩ _).mono ?_;rintro e u' w2 ⟨rfl,rfl,rfl⟩;simp [Leaves,settle,results,Tryz.results98,go_sem,c1'];rw [H.out];exact⟨rfl,b1.setCell (p:=⟨w.heap.size,0,none⟩) (Nat.le_refl _) _⟩
 ·rw [if_neg hen] at H;obtain rfl:e=n:=by omega
  go_enter_defers Tryz.func98,Tryz.ntmps98;go_wp2_with fail;refine(C.out _ ⟨by simp,by simp,by simp⟩ (HP.out.keep ((by(repeat' (first|exact Below.refl _ _|refine Below.alloc ?_ ?_ _|refine Below.setCell ?_ ?_ _|refine Below.drew ?_|refine Below.drewN ?_ _))<;>(try simp)<;> omega)))).mono ?_;rintro e w1 hpost;obtain⟨rfl,r1,g1⟩:=hpost;obtain⟨b1,c1,f1,z1⟩:=zdO _ _ g1;have c1':w1.cell? ⟨w.heap.size,0,none⟩=some .nilIface:=c1.trans (by simp);have f1':w1.frozen? ⟨w.heap.size,0,none⟩=false:=f1.trans (by simp);have r2:=r1.c1;clear c1 f1 g1 r1;go_wp2_with fail;refine leaves_cons (f:=115) (args:=#[.pointer (some ⟨w.heap.size,0,none⟩)]) (by simp) (by simp [go_sem]) ?_;refine(zij ⟨w.heap.size,0,none⟩ _).mono ?_;rintro e u' w2 ⟨rfl,rfl,rfl⟩;simp [Leaves,settle,results,Tryz.results98,go_sem,c1'];rw [H.out];exact⟨rfl,b1.setCell (p:=⟨w.heap.size,0,none⟩) (Nat.le_refl _) _⟩
theorem zoT(A:Option Addr)(n c:Nat)(P:List Nd)(w:World)(hn:n=P.length)(hc:n≤c)(hm:n≤maxLen)(hP:jM w A P)(hO:zaj P):
 Calls Tryz.prog 98 #[.slice A n c] w fun e w'=>e = .returned (zao (jT P))∧Below w.heap.size w w':=by
 by_cases h:200<n
 ·exact zmY A n c P w hn hm h
 ·rcases he:ju P (n+1) 0 with _|e
  ·exact zm0 A n c P w hn hc hm hP hO h he
  ·exact znB A n c e P w hn hc hm hP hO h he
end Go.Proofs.YtjcdeikbghjpkaaGreatDoor
namespace Go.Wk
end Go.Wk
namespace Go.Proofs.YtjcdeikbghjpkaaGreatDoor
open Go.RowKit Go.Wk Go.Sort
theorem zj9(x:Int):(x=0∧zao x = .nilIface)∨(x≠0∧zao x = .iface 28 (.int .i64 x)):=by
 by_cases h:x=0
 ·exact .inl ⟨h,by rw [h];rfl⟩
 ·exact .inr ⟨h,jc h⟩
theorem zlR{x y:Nd}(h:x=y):zg6 x y=0:=(zeL.zero x y).2 h
theorem zpo{x y:Nd}(h:x≠y)(w:World):(binOp .neq 41 (.agg #[.int .i64 x.op,.int .i64 x.n,.string x.s,.string x.t]) (.agg #[.int .i64 y.op,.int .i64 y.n,.string y.s,.string y.t])).run Tryz.prog w = .ok (.bool true) w:=by
 simp [go_sem];exact fun h1 h2 h3 h4=>h (Nd.ext4 h1 h2 (toList_inj h3) (toList_inj h4))
theorem zeq{P Q:List Nd}{k:Nat}(h1:k<P.length)(h2:k<Q.length)(h:P[k]≠Q[k])(hc:zW P Q=zW (P.drop k) (Q.drop k)):zW P Q≠0:=by
 rw [hc,zdo h1 h2,zB (fun e=>h ((zeL.zero _ _).1 e))];exact fun e=>h ((zeL.zero _ _).1 e)
theorem zmR(A B:Option Addr)(n m c d:Nat)(P Q:List Nd)(w:World)(hn:n=P.length)(hm:m=Q.length)(hln:n≤maxLen)(hlm:m≤maxLen)(hP:jM w A P)(hQ:jM w B Q):
 Calls Tryz.prog 8 #[.slice A n c,.slice B m d] w fun e w'=>e = .returned (.bool (decide (zW P Q=0)))∧Below w.heap.size w w':=by
 unfold maxLen at hln hlm;have HN:=hi9 hn;have HM:=hi9 hm;have HP:=hi9 hP;have HQ:=hi9 hQ;clear hn hm hP hQ;by_cases hl:n=m
 ·subst hl;go_enter Tryz.func8,Tryz.ntmps8;go_wp2_with fail;go_loopw [5] (fun i wr=>∃k:Nat,k≤n∧i = .int .i64 k∧Hid (zW P Q=zW (P.drop k) (Q.drop k))∧Hid (Below w.heap.size w wr)) (fun i _=>n-(intOf i).toNat)
  case atStart=>exact⟨0,Nat.zero_le _,rfl,rfl,Below.refl _ _⟩
  case round =>
   obtain⟨k,hk,rfl,hE,hB⟩:=hrel;by_cases hlt:k<n
   ·have h1:k<P.length:=by rw [←HN.out];exact hlt
    have h2:k<Q.length:=by rw [←HM.out];exact hlt
    obtain⟨a,rfl,a1,a2,a3,a4⟩:=(HP.out.keep hB.out) k P[k] (List.getElem?_eq_getElem h1);obtain⟨b,rfl,b1,b2,b3,b4⟩:=(HQ.out.keep hB.out) k Q[k] (List.getElem?_eq_getElem h2);by_cases he:P[k]=Q[k]
    ·have HE:=hi9 (hE.out.trans ((zdo h1 h2).trans (by rw [zlR he,zs])));rw [he] at a1 a2 a3 a4;generalize Q[k]=y at *;clear he hE;go_wp2_with fail;go_quiet (fail);go_wp2_with fail;go_roundw
     case rel=>exact⟨k+1,by omega,by go_num,HE,hB.out.drewN _⟩
     case measure=>simp [intOf];omega
    ·have HE:=hi9 (zeq h1 h2 he hE.out);have hne:=fun w=>zpo he w;generalize P[k]=x at *;generalize Q[k]=y at *;clear he hE;go_wp2_with fail;go_quiet (fail);go_wp2_with fail;go_ret;exact⟨zi (decide_eq_false HE.out).symm,hB.out.drewN _⟩
   ·have HE:=hi9 (hE.out.trans (zc0 (by rw [←HN.out];omega) (by rw [←HM.out];omega)));clear hE;go_wp2_with fail;go_ret;exact⟨zi (decide_eq_true HE.out).symm,hB.out⟩
 ·have HE:=hi9 (show zW P Q≠0 from fun h=>hl (by rw [HN.out,HM.out,(zdX.zero _ _).1 h]));have h3:(n != m)=true:=by rw [bne_iff_ne];exact hl
  clear hl;go_enter Tryz.func8,Tryz.ntmps8;go_wp2_with fail;go_ret;exact⟨zi (decide_eq_false HE.out).symm,Below.refl _ _⟩
def zh:List Nd→List Value
 | [] => []
 | x :: r => .int .i64 x.op :: .int .i64 x.n :: .string x.s :: .string x.t :: zh r
theorem zK(P Q:List Nd):zh (P ++ Q)=zh P ++ zh Q:=by
 induction P with
 | nil=>rfl
 | cons x P ih=>simp [zh,ih]
theorem jm(P:List Nd):(zh P).length=P.length*4:=by
 induction P with
 | nil=>rfl
 | cons x P ih=>simp only [zh,List.length_cons,ih];omega
theorem ziw(P:List Nd)(k:Nat)(x:Nd)(h:P[k]?=some x):(zh P)[k*4]?=some (.int .i64 x.op)∧(zh P)[k*4+1]?=some (.int .i64 x.n)∧(zh P)[k*4+2]?=some (.string x.s)∧(zh P)[k*4+3]?=some (.string x.t):=by
 induction P generalizing k with
 | nil=>simp at h
 | cons y P ih =>
  cases k with
  | zero=>simp only [List.getElem?_cons_zero,Option.some.injEq] at h;subst h;exact⟨rfl,rfl,rfl,rfl⟩
  | succ k =>
   have:=ih k (by simpa using h)
   rw [show(k+1)*4=k*4+1+1+1+1 by omega]
   simp only [zh,List.getElem?_cons_succ]
   exact this
theorem zdl(g o k:Nat):(⟨g,o,none⟩:Addr).add k=⟨g,o+k,none⟩:=by
 unfold Addr.add;split
 ·rename_i h0;subst h0;rfl
 ·simp
theorem zfW{w:World}{b o:Nat}{P:List Nd}(h:∀(j:Nat) u,(zh P)[j]?=some u→w.cell? ((⟨b,o,none⟩:Addr).add j)=some u):jM w (some ⟨b,o,none⟩) P:=by
 intro k x hx;obtain⟨h1,h2,h3,h4⟩:=ziw P k x hx;have g1:=h _ _ h1;have g2:=h _ _ h2;have g3:=h _ _ h3;have g4:=h _ _ h4;simp only [zdl] at g1 g2 g3 g4;exact⟨_,rfl,by simp only [zdl];exact g1,by simp only [zdl];exact g2,by simp only [zdl];exact g3,by simp only [zdl];exact g4⟩
theorem znQ(w:World)(P:List Nd)(t:TypeId):jM (w.alloc (.cells (zh P).toArray t)) (some ⟨w.heap.size,0,none⟩) P:=zfW (zV w _ t)
theorem rq{P:Program}{f:FuncId}{args:Array Value}{w:World}{v:Value}(h:∀w',Below w.heap.size w w'→Calls P f args w' fun e w''=>e = .returned v∧Below w'.heap.size w' w''):
 ∀d os,Calls P f args (grow (redrawn w d) os) fun e w''=>e = .returned v∧∃p:Regrown,w''=grow (redrawn w p.d) p.os :=
 fun d os=>Calls.regrown_of (h _ (below_regrown w d os))
theorem rqs{P:Program}{f:FuncId}{args:Array Value}{w:World}{v:Value}(h:∀w',Calls P f args w' fun e w''=>e = .returned v∧w'=w''):
 ∀d os,Calls P f args (grow (redrawn w d) os) fun e w''=>e = .returned v∧∃p:Regrown,w''=grow (redrawn w p.d) p.os :=
 fun d os=>(h _).mono fun _ _ ⟨he,hw⟩=>⟨he,⟨⟨d,os⟩,hw.symm⟩⟩
structure Nd4(w:World)(a:Addr)(x:Nd):Prop where
 c0:w.cell? a=some (.int .i64 x.op)
 c1:w.cell? ⟨a.block,a.off+1,none⟩=some (.int .i64 x.n)
 c2:w.cell? ⟨a.block,a.off+2,none⟩=some (.string x.s)
 c3:w.cell? ⟨a.block,a.off+3,none⟩=some (.string x.t)
theorem Nd4.keep{w w':World}{a:Addr}{x:Nd}(h:Nd4 w a x)(hb:Below w.heap.size w w'):Nd4 w' a x :=
 ⟨zb hb h.c0,zb hb h.c1,zb hb h.c2,zb hb h.c3⟩
theorem jM.nd{w:World}{A:Option Addr}{P:List Nd}(h:jM w A P){k:Nat}(hk:k<P.length):∃a,A=some a∧Nd4 w (a.add (k*4)) P[k] :=
 let ⟨a,e,h1,h2,h3,h4⟩:=h k P[k] (List.getElem?_eq_getElem hk);⟨a,e,h1,h2,h3,h4⟩
theorem zaj.seg{P:List Nd}(h:zaj P)(i j:Nat):zaj (seg P i j):=fun x hx=>h x (List.mem_of_mem_drop (List.mem_of_mem_take hx))
end Go.Proofs.YtjcdeikbghjpkaaGreatDoor
namespace Go.Proofs.YtjcdeikbghjpkaaGreatDoor
open Go.RowKit Go.Wk
theorem zkF(n:Int)(w:World)(h0:0≤n)(h1:n≤255):Calls Tryz.prog 87 #[.int .u8 n] w fun e w'=>e = .returned (.bool (zcb n))∧w=w':=by
 go_enter Tryz.func87,Tryz.ntmps87;go_wp2
 all_goals (go_ret;exact⟨zi (by unfold zcb;rw [Bool.eq_iff_iff];simp;omega),rfl⟩)
theorem zlH(n:Int)(w:World)(h0:0≤n)(h1:n≤255):Calls Tryz.prog 88 #[.int .u8 n] w fun e w'=>e = .returned (.bool (zfJ n))∧w=w':=by
 go_enter Tryz.func88,Tryz.ntmps88;go_wp2
 all_goals (go_ret;exact⟨zi (by unfold zfJ;rw [Bool.eq_iff_iff];simp;omega),rfl⟩)
theorem jR(s:ByteArray)(w:World)(hs:s.size≤maxLen):Calls Tryz.prog 56 #[.string s] w fun e w'=>e = .returned (.int .i64 (zd s))∧w=w':=by
 unfold maxLen at hs;go_enter Tryz.func56,Tryz.ntmps56;go_wp2;go_loop [2,3] (fun r i=>∃k:Nat,k≤s.size∧i = .int .i64 k∧r = .int .i64 0∧Hid (0<k→zaG (s.data.toList.take k)=true)) (fun _ i=>s.size-(intOf i).toNat)
 case atStart=>exact⟨0,Nat.zero_le _,rfl,rfl,fun h=>absurd h (by omega)⟩
 case round =>
  obtain⟨k,hk,rfl,rfl,hall⟩:=hrel;by_cases hlt:k<s.size
  ·have C1:=hi9 (fun w=>zkF (s[k].toNat:Int) w (by omega) (by have:=s[k].toNat_lt;omega));have C2:=hi9 (fun w=>zlH (s[k].toNat:Int) w (by omega) (by have:=s[k].toNat_lt;omega));by_cases hk0:k=0
   ·subst hk0;have G1:=hi9 (fun q:zcb (s[0].toNat:Int)=true=>(show zaG (s.data.toList.take 1)=true from zhg hlt q));have G2:=hi9 (fun q:zcb (s[0].toNat:Int)=false=>(show zd s=1 by unfold zd;rw [zdK hlt q];rfl));clear hall;rcases hx:zcb (s[0].toNat:Int) with _|_ <;> rw [hx] at C1 G1 G2 <;> clear hx
    ·go_wp2_with (go_at_call 87;refine(C1.out _).mono ?_;rintro e w' ⟨rfl,rfl⟩);go_ret;exact⟨by rw [G2.out (by simp)];rfl,rfl⟩
    ·go_wp2_with (go_at_call 87;refine(C1.out _).mono ?_;rintro e w' ⟨rfl,rfl⟩);go_round
     case rel=>exact⟨1,by omega,by go_num,rfl,fun _=>G1.out (by simp)⟩
     case measure=>simp [intOf];omega
   ·have hst:zbO s[k]=(zcb (s[k].toNat:Int)|| zfJ (s[k].toNat:Int)):=rfl;have G1:=hi9 (fun q:zbO s[k]=true=>(show zaG (s.data.toList.take (k+1))=true from zgc (by omega) hlt (hall.out (by omega)) q));have G2:=hi9 (fun q:zbO s[k]=false=>(show zd s=1 by unfold zd;rw [zmA (by omega) hlt q];rfl));rw [hst] at G1 G2;have hk1:((k:Int)==0)=false:=by rw [beq_eq_false_iff_ne];omega
    clear hst hall hk0;rcases hx:zcb (s[k].toNat:Int) with _|_ <;> rcases hy:zfJ (s[k].toNat:Int) with _|_ <;> rw [hx] at C1 G1 G2 <;> rw [hy] at C2 G1 G2 <;> clear hx hy
    all_goals go_wp2_with (first|(go_at_call 87;refine(C1.out _).mono ?_;rintro e w' ⟨rfl,rfl⟩)|(go_at_call 88;refine(C2.out _).mono ?_;rintro e w' ⟨rfl,rfl⟩))
    ·go_ret;exact⟨by rw [G2.out (by simp)];rfl,rfl⟩
    all_goals
     go_round
     case rel=>exact⟨k+1,by omega,by go_num,rfl,fun _=>G1.out rfl⟩
     case measure=>simp [intOf];omega
  ·by_cases h0:s.size=0
   ·have H3:=hi9 (show zd s=1 by unfold zd;rw [zfC h0];rfl);have h1:((s.size:Int)==0)=true:=by rw [beq_iff_eq];omega
    clear hall;go_wp2;go_ret;exact⟨by rw [H3.out];rfl,rfl⟩
   ·have H2:=hi9 (show zaG s.data.toList=true from zmZ (by omega) (hall.out (by omega)));have h1:((s.size:Int)==0)=false:=by rw [beq_eq_false_iff_ne];omega
    clear hall h0;by_cases h20:20<s.size
    ·have H3:=hi9 (show zd s=4 by unfold zd;rw [H2.out,if_pos rfl,if_pos h20]);clear H2;go_wp2;go_ret;exact⟨by rw [H3.out];rfl,rfl⟩
    ·have H3:=hi9 (show zd s=0 by unfold zd;rw [H2.out,if_pos rfl,if_neg h20]);clear H2;go_wp2;go_ret;exact⟨by rw [H3.out];rfl,rfl⟩
theorem zbZ(s:ByteArray)(w:World)(hs:s.size≤maxLen):Calls Tryz.prog 59 #[.string s] w fun e w'=>e = .returned (.int .i64 (zk s))∧Below w.heap.size w w':=by
 unfold maxLen at hs;by_cases h60:60<s.size
 ·have H:=hi9 (show zk s=4 by unfold zk;rw [if_pos h60]);go_enter Tryz.func59,Tryz.ntmps59;go_wp2;go_ret;exact⟨by rw [H.out];rfl,Below.refl _ _⟩
 have H:=hi9 (show zk s=if s.data.toList.all zaR then 0 else 1 by unfold zk;rw [if_neg (by omega)]);go_enter Tryz.func59,Tryz.ntmps59;go_wp2;go_loopw [2,3] (fun r i wr=>∃k:Nat,k≤s.size∧i = .int .i64 k∧r = .int .i64 0∧Hid ((s.data.toList.take k).all zaR=true)∧Below w.heap.size w wr) (fun _ i _=>s.size-(intOf i).toNat)
 case atStart=>exact⟨0,Nat.zero_le _,rfl,rfl,by simp [Hid],Below.refl _ _⟩
 case round =>
  obtain⟨k,hk,rfl,rfl,hall,hb⟩:=hrel;by_cases hlt:k<s.size
  ·by_cases hp:32≤(s[k].toNat:Int)∧(s[k].toNat:Int)≤126
   ·have H2:=hi9 (show(s.data.toList.take (k+1)).all zaR=true by rw [zhN s zaR hlt,hall.out,Bool.true_and];unfold zaR zmm;simp;omega);obtain⟨hp1,hp2⟩:=hp;have q1:decide ((s[k].toNat:Int)<32)=false:=by simp;omega
    clear hall;go_wp2;go_roundw
    case rel=>exact⟨k+1,by omega,by go_num,rfl,H2,hb⟩
    case measure=>simp [intOf];omega
   ·have H2:=hi9 (show s.data.toList.all zaR=false from zfS hlt (by unfold zaR zmm;rw [Bool.eq_false_iff];simp;omega));clear hall;by_cases hq:(s[k].toNat:Int)<32
    ·clear hp;have q1:decide ((s[k].toNat:Int)<32)=true:=by simp;omega
     go_wp2;go_ret;exact⟨by rw [H.out,H2.out];rfl,hb⟩
    ·have hq2:126<(s[k].toNat:Int):=by omega
     clear hp;have q1:decide ((s[k].toNat:Int)<32)=false:=by simp;omega
     go_wp2;go_ret;exact⟨by rw [H.out,H2.out];rfl,hb⟩
  ·have H2:=hi9 (show s.data.toList.all zaR=true from(zkT (k:=k) (by omega)).symm.trans hall.out);clear hall;go_wp2;go_ret;exact⟨by rw [H.out,H2.out];rfl,hb⟩
end Go.Proofs.YtjcdeikbghjpkaaGreatDoor
namespace Go.Proofs.YtjcdeikbghjpkaaGreatDoor
open Go.RowKit Go.Wk Go.Sort
theorem zkf(s t:ByteArray)(w:World)(hs:s.size≤maxLen)(ht:t.size≤maxLen):
 Calls Tryz.prog 109 #[.agg #[.string s,.string t]] w fun e w'=>e = .returned (.int .i64 (or2 (zd s) (zk t)))∧Below w.heap.size w w':=by
 have N:=hi9 (fun w=>jR s w hs);have T:=hi9 (fun w=>zbZ t w ht);by_cases h1:zd s=0
 ·rw [h1] at N;have H:=hi9 (show or2 (zd s) (zk t)=zk t by rw [h1,zs]);clear h1;go_enter Tryz.func109,Tryz.ntmps109;go_wp2_with fail;refine(N.out _).mono ?_;rintro e w1 ⟨rfl,rfl⟩;go_wp2_with fail;refine(T.out _).mono ?_;rintro e w2 ⟨rfl,b2⟩;go_wp2_with fail;go_ret;exact⟨jI H.out.symm,zr b2⟩
 ·have H:=hi9 (show or2 (zd s) (zk t)=zd s from zB h1 _);have h2:(zd s==0)=false:=beq_eq_false_iff_ne.2 h1;clear h1;go_enter Tryz.func109,Tryz.ntmps109;go_wp2_with fail;refine(N.out _).mono ?_;rintro e w1 ⟨rfl,rfl⟩;go_wp2_with fail;go_ret;exact⟨jI H.out.symm,za _ _⟩
theorem zkR(n:Int)(s t:ByteArray)(w:World):
 Calls Tryz.prog 90 #[.agg #[.int .i64 1,.int .i64 n,.string s,.string t]] w fun e w'=>e = .returned (.bool ((decide (n=0)|| decide (n=1))&& noB s && noB t))∧Below w.heap.size w w':=by
 rcases zn s with rfl|⟨s1,s2,s3⟩<;> rcases zn t with rfl|⟨t1,t2,t3⟩
 ·by_cases h0:0≤n
  ·by_cases h1:n≤1
   ·go_enter Tryz.func90,Tryz.ntmps90;go_wp2;go_ret
    exact ⟨zi       (by have : n = 0 ∨ n = 1 := by omega
                        rcases this with rfl|rfl <;> rfl),za _ _⟩
   ·go_enter Tryz.func90,Tryz.ntmps90;go_wp2;go_ret;exact⟨zi (by rw [decide_eq_false (show¬n=0 by omega),decide_eq_false (show¬n=1 by omega)];rfl),za _ _⟩
  ·go_enter Tryz.func90,Tryz.ntmps90;go_wp2;go_ret;exact⟨zi (by rw [decide_eq_false (show¬n=0 by omega),decide_eq_false (show¬n=1 by omega)];rfl),za _ _⟩
 all_goals
  go_enter Tryz.func90,Tryz.ntmps90;go_wp2;go_ret;exact⟨zi (by simp [*]),za _ _⟩
theorem zl5(n:Int)(s t:ByteArray)(w:World):
 Calls Tryz.prog 90 #[.agg #[.int .i64 2,.int .i64 n,.string s,.string t]] w fun e w'=>e = .returned (.bool (noB s && noB t))∧Below w.heap.size w w':=by
 rcases zn s with rfl|⟨s1,s2,s3⟩<;> rcases zn t with rfl|⟨t1,t2,t3⟩
 all_goals
  go_enter Tryz.func90,Tryz.ntmps90;go_wp2;go_ret;exact⟨zi (by simp [*,jw]),za _ _⟩
theorem zkG(o n:Int)(s t:ByteArray)(w:World)(ho:o=5∨o=6):
 Calls Tryz.prog 90 #[.agg #[.int .i64 o,.int .i64 n,.string s,.string t]] w fun e w'=>e = .returned (.bool (decide (0≤n)&& noB s && noB t))∧Below w.heap.size w w':=by
 by_cases h0:0≤n
 ·rcases ho with rfl|rfl <;> rcases zn s with rfl|⟨s1,s2,s3⟩<;> rcases zn t with rfl|⟨t1,t2,t3⟩
  all_goals
   go_enter Tryz.func90,Tryz.ntmps90;go_wp2;go_ret;exact⟨zi (by simp [*,jw]),za _ _⟩
 ·rcases ho with rfl|rfl <;> rcases zn s with rfl|⟨s1,s2,s3⟩<;> rcases zn t with rfl|⟨t1,t2,t3⟩
  all_goals
   go_enter Tryz.func90,Tryz.ntmps90;go_wp2;go_ret;exact⟨zi (by first|rfl|(rw [decide_eq_false (show¬0≤n by omega)];rfl)),za _ _⟩
theorem zkz(n:Int)(s t:ByteArray)(w:World)(hs:s.size≤maxLen):
 Calls Tryz.prog 90 #[.agg #[.int .i64 3,.int .i64 n,.string s,.string t]] w fun e w'=>e = .returned (.bool (decide (n=0)&& noB t && decide (zk s=0)))∧Below w.heap.size w w':=by
 have P:=hi9 (fun w=>zbZ s w hs);by_cases h0:n=0
 ·subst h0;rcases zn s with rfl|⟨s1,s2,s3⟩<;> rcases zn t with rfl|⟨t1,t2,t3⟩
  ·have e:zk ⟨#[]⟩=0:=by decide
   rw [e] at P;go_enter Tryz.func90,Tryz.ntmps90;go_wp2_with fail;refine(P.out _).mono ?_;rintro e w1 ⟨rfl,hb⟩;go_wp2;go_ret;exact⟨zi (by simp [e,jw]),zr hb⟩
  ·go_enter Tryz.func90,Tryz.ntmps90;go_wp2;go_ret;exact⟨zi (by simp [t3]),za _ _⟩
  ·by_cases h1:zk s=0
   ·rw [h1] at P;go_enter Tryz.func90,Tryz.ntmps90;go_wp2_with fail;refine(P.out _).mono ?_;rintro e w1 ⟨rfl,hb⟩;go_wp2;go_ret;exact⟨zi (by simp [h1,jw]),zr hb⟩
   ·have h2:(zk s==0)=false:=beq_eq_false_iff_ne.2 h1;go_enter Tryz.func90,Tryz.ntmps90;go_wp2_with fail;refine(P.out _).mono ?_;rintro e w1 ⟨rfl,hb⟩;go_wp2;go_ret;exact⟨zi (by simp [h1]),zr hb⟩
  ·go_enter Tryz.func90,Tryz.ntmps90;go_wp2;go_ret;exact⟨zi (by simp [t3]),za _ _⟩
 ·have e0:(n != 0)=true:=by rw [bne_iff_ne];exact h0
  rcases zn s with rfl|⟨s1,s2,s3⟩<;> rcases zn t with rfl|⟨t1,t2,t3⟩
  all_goals
   go_enter Tryz.func90,Tryz.ntmps90;go_wp2;go_ret;exact⟨zi (by simp [h0]),za _ _⟩
theorem zl2(n:Int)(s t:ByteArray)(w:World)(hs:s.size≤maxLen)(ht:t.size≤maxLen):
 Calls Tryz.prog 90 #[.agg #[.int .i64 4,.int .i64 n,.string s,.string t]] w fun e w'=>e = .returned (.bool (decide (n=0)&& decide (zd s=0)&& decide (zk t=0)))∧Below w.heap.size w w':=by
 have P:=hi9 (fun w=>zkf s t w hs ht);have H:=hi9 (show(or2 (zd s) (zk t)==0)=(decide (zd s=0)&& decide (zk t=0)) by
  by_cases h:zd s=0
  ·rw [h,zs];simp;rfl
  ·rw [zB h,beq_eq_false_iff_ne.2 h];simp [h])
 by_cases h0:n=0
 ·subst h0;rcases zn s with rfl|⟨s1,s2,s3⟩<;> rcases zn t with rfl|⟨t1,t2,t3⟩
  all_goals
   go_enter Tryz.func90,Tryz.ntmps90;go_wp2_with fail;refine(P.out _).mono ?_;rintro e w1 ⟨rfl,hb⟩;go_wp2;go_ret;exact⟨zi (by rw [H.out];simp),zr hb⟩
 ·have e0:(n != 0)=true:=by rw [bne_iff_ne];exact h0
  rcases zn s with rfl|⟨s1,s2,s3⟩<;> rcases zn t with rfl|⟨t1,t2,t3⟩
  all_goals
   go_enter Tryz.func90,Tryz.ntmps90;go_wp2;go_ret;exact⟨zi (by simp [h0]),za _ _⟩
theorem zjc(n:Int)(s t:ByteArray)(w:World)(hs:s.size≤maxLen):
 Calls Tryz.prog 90 #[.agg #[.int .i64 7,.int .i64 n,.string s,.string t]] w fun e w'=>e = .returned (.bool (decide (n=0)&& noB t && decide (zd s=0)))∧Below w.heap.size w w':=by
 have P:=hi9 (fun w=>jR s w hs);have H:(zd s==0)=decide (zd s=0):=rfl;by_cases h0:n=0
 ·subst h0;rcases zn s with rfl|⟨s1,s2,s3⟩<;> rcases zn t with rfl|⟨t1,t2,t3⟩
  ·have e:zd ⟨#[]⟩=1:=by decide
   rw [e] at P;go_enter Tryz.func90,Tryz.ntmps90;go_wp2_with fail;refine(P.out _).mono ?_;rintro e w1 ⟨rfl,rfl⟩;go_wp2;go_ret;exact⟨zi (by simp [e]),za _ _⟩
  ·go_enter Tryz.func90,Tryz.ntmps90;go_wp2;go_ret;exact⟨zi (by simp [t3]),za _ _⟩
  ·by_cases h1:zd s=0
   ·rw [h1] at P;go_enter Tryz.func90,Tryz.ntmps90;go_wp2_with fail;refine(P.out _).mono ?_;rintro e w1 ⟨rfl,rfl⟩;go_wp2;go_ret;exact⟨zi (by simp [h1,jw]),za _ _⟩
   ·have h2:(zd s==0)=false:=beq_eq_false_iff_ne.2 h1;go_enter Tryz.func90,Tryz.ntmps90;go_wp2_with fail;refine(P.out _).mono ?_;rintro e w1 ⟨rfl,rfl⟩;go_wp2;go_ret;exact⟨zi (by simp [h1]),za _ _⟩
  ·go_enter Tryz.func90,Tryz.ntmps90;go_wp2;go_ret;exact⟨zi (by simp [t3]),za _ _⟩
 ·have e0:(n != 0)=true:=by rw [bne_iff_ne];exact h0
  rcases zn s with rfl|⟨s1,s2,s3⟩<;> rcases zn t with rfl|⟨t1,t2,t3⟩
  all_goals
   go_enter Tryz.func90,Tryz.ntmps90;go_wp2;go_ret;exact⟨zi (by simp [h0]),za _ _⟩
theorem zjo(o n:Int)(s t:ByteArray)(w:World)(h1:(o==1)=false)(h2:(o==2)=false)(h3:(o==3)=false)(h4:(o==4)=false)(h5:(o==5)=false)(h6:(o==6)=false)(h7:(o==7)=false):
 Calls Tryz.prog 90 #[.agg #[.int .i64 o,.int .i64 n,.string s,.string t]] w fun e w'=>e = .returned (.bool false)∧Below w.heap.size w w':=by
 by_cases h0:n=0
 ·subst h0;rcases zn s with rfl|⟨s1,s2,s3⟩<;> rcases zn t with rfl|⟨t1,t2,t3⟩
  all_goals
   go_enter Tryz.func90,Tryz.ntmps90;go_wp2;go_ret;exact⟨rfl,za _ _⟩
 ·have e0:(n != 0)=true:=by rw [bne_iff_ne];exact h0
  rcases zn s with rfl|⟨s1,s2,s3⟩<;> rcases zn t with rfl|⟨t1,t2,t3⟩
  all_goals
   go_enter Tryz.func90,Tryz.ntmps90;go_wp2;go_ret;exact⟨rfl,za _ _⟩
theorem zi7(x:Nd)(w:World)(hs:x.s.size≤maxLen)(ht:x.t.size≤maxLen):
 Calls Tryz.prog 90 #[ndV x] w fun e w'=>e = .returned (.bool (ja x))∧Below w.heap.size w w':=by
 obtain⟨o,n,s,t⟩:=x;unfold ndV ja;simp only at hs ht ⊢;by_cases h1:o=1
 ·subst h1;rw [if_pos rfl];exact zkR n s t w
 rw [if_neg h1];by_cases h2:o=2
 ·subst h2;rw [if_pos rfl];exact zl5 n s t w
 rw [if_neg h2];by_cases h3:o=3
 ·subst h3;rw [if_pos rfl];exact zkz n s t w hs
 rw [if_neg h3];by_cases h4:o=4
 ·subst h4;rw [if_pos rfl];exact zl2 n s t w hs ht
 rw [if_neg h4];by_cases h5:o=5∨o=6
 ·rw [if_pos h5];exact zkG o n s t w h5
 rw [if_neg h5];by_cases h7:o=7
 ·subst h7;rw [if_pos rfl];exact zjc n s t w hs
 rw [if_neg h7];exact zjo o n s t w (beq_eq_false_iff_ne.2 h1) (beq_eq_false_iff_ne.2 h2) (beq_eq_false_iff_ne.2 h3) (beq_eq_false_iff_ne.2 h4) (beq_eq_false_iff_ne.2 fun q=>h5 (.inl q)) (beq_eq_false_iff_ne.2 fun q=>h5 (.inr q)) (beq_eq_false_iff_ne.2 h7)
end Go.Proofs.YtjcdeikbghjpkaaGreatDoor
namespace Go.Wk
open Go.ChangeShapes Go.WideShapes Go.RowKit
def Rd(P:Program)(w:World)(t:TypeId)(cs:List Value):Prop :=
 ∃(H:Type) (enc:TypeId × Value→H) (base:Nat) (sp:Nat→Bool) (held:Bool) (fuel:Nat) (x:DataW H × List MemPlace),DataW.trod enc P w base sp held fuel t cs=some x
section
variable {P:Program} {w:World} {t:TypeId} {cs:List Value}
theorem zhP{H:Type}{enc:TypeId × Value→H}{b:Nat}{sp:Nat→Bool}{hd:Bool}{v:Value}{d:DataW H}{ps:List MemPlace}(h:DataW.Trod enc P w b sp hd t v d ps):Rd P w t v.cells.toList :=
 let ⟨f,hf⟩:=h;⟨H,enc,b,sp,hd,f,_,hf⟩
theorem zdc(ht:P.underlying t=some .string)(h:Rd P w t cs):∃s:ByteArray,cs = [.string s]∧s.size≤maxLen:=by
 obtain⟨H,enc,b,sp,hd,f,x,hx⟩:=h;obtain⟨s,h1,_,h2⟩:=DataW.trod_string ht hx;exact⟨s,h1,h2⟩
theorem zsT{k:IntKind}(ht:P.underlying t=some (.int k))(h:Rd P w t cs):∃n:Int,cs = [.int k n]∧(Lit.int k n).wf=true:=by
 obtain⟨H,enc,b,sp,hd,f,x,hx⟩:=h;obtain⟨s,h1,_,h2⟩:=DataW.trod_int ht hx;exact⟨s,h1,h2⟩
theorem zqj(ht:P.underlying t=some (.int .i64))(h:Rd P w t cs):∃n:Int,cs = [.int .i64 n]∧-9223372036854775808≤n∧n≤9223372036854775807:=by
 obtain⟨n,h1,h2⟩:=zsT ht h;refine⟨n,h1,?_⟩;simpa [Lit.wf,IntKind.min,IntKind.max,IntKind.bits,IntKind.signed] using h2
theorem zdt{fs:Array Field}(ht:P.underlying t=some (.struct fs))(h:Rd P w t cs):
 cs.length=P.cellsOf t∧∀(i:Nat) (f:Field),fs[i]?=some f→Rd P w f.type ((cs.drop f.offset).take (P.cellsOf f.type)):=by
 obtain⟨H,enc,b,sp,hd,f,x,hx⟩:=h;obtain⟨xs,n,_,_,h1,h2,h3⟩:=DataW.trod_struct ht hx;refine⟨h1,fun i f hf=>?_⟩;have hi:i<xs.length:=by rw [h2];exact(Array.getElem?_eq_some_iff.1 hf).1
 exact⟨H,enc,b,sp,hd,n,xs[i],(h3 i f hf).trans (List.getElem?_eq_getElem hi)⟩
theorem zas{fs:Array Field}(ht:P.underlying t=some (.struct fs))(h:Rd P w t cs)(i T o n:Nat)(hf:(fs[i]?).map (fun f=>(f.type,f.offset))=some (T,o))(hn:P.cellsOf T=n):
 Rd P w T ((cs.drop o).take n):=by
 rcases hi:fs[i]? with _|f
 ·rw [hi] at hf;cases hf
 ·rw [hi] at hf;simp only [Option.map_some,Option.some.injEq,Prod.mk.injEq] at hf;obtain⟨rfl,rfl⟩:=hf;subst hn;exact(zdt ht h).2 i f hi
end
end Go.Wk
namespace Go.Proofs.YtjcdeikbghjpkaaGreatDoor
open Go.Wk Go.ChangeShapes Go.WideShapes Go.RowKit
theorem zbz:Tryz.prog.cellsOf 9=1:=by kernel_rfl
end Go.Proofs.YtjcdeikbghjpkaaGreatDoor
