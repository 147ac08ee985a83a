/-
  val's reader: part at a record; part outright. val.Check: nodes that are a value. val.first, val.Compare. Aids of later walks: a node's four cells; contracts ..
-/
import Derived.Defers
import Derived.Recover
import Derived.Test.YtlkfaliomdbaoaaGreatDoorQ16
import Derived.Test.YtlkfaliomdbaoaaGreatDoorQ18
set_option maxRecDepth 100000
set_option maxHeartbeats 8000000
namespace Go.Wk
theorem znY(a b:List UInt8):Op.bytesLess a b=decide (Lib.compareBytes a b<0):=by
 induction a generalizing b with
 | nil=>cases b <;> simp [Op.bytesLess,Lib.compareBytes]
 | cons x a ih =>
  cases b with
  | nil=>simp [Op.bytesLess,Lib.compareBytes]
  | cons y b =>
   simp only [Op.bytesLess,Lib.compareBytes,ih]
   by_cases h1:x<y
   ·simp [h1]
   ·by_cases h2:y<x
    ·have:(x==y)=false:=by
      rw [beq_eq_false_iff_ne];intro e;subst e;exact h1 h2
     simp [h1,h2,this]
    ·have:x=y:=by
      have a1:¬x.toNat<y.toNat:=h1;have a2:¬y.toNat<x.toNat:=h2;exact UInt8.toNat_inj.1 (by omega)
     subst this
     simp [h1]
theorem zd9(a b:ByteArray):(je b a<0∧Op.bytesLess a.toList b.toList=false∧(a.toList==b.toList)=false)∨(¬je b a<0∧Op.bytesLess a.toList b.toList=true)∨(¬je b a<0∧Op.bytesLess a.toList b.toList=false∧(a.toList==b.toList)=true):=by
 rw [znY];have e:Lib.compareBytes a.toList b.toList=je a b:=by unfold je;rw [ByteArray.toList_eq,ByteArray.toList_eq]
 rw [e];have h1:=zo.anti a b;have h2:=zo.zero a b;by_cases h:je a b<0
 ·exact .inr (.inl ⟨by omega,by simpa using h⟩)
 ·by_cases h0:je a b=0
  ·exact .inr (.inr ⟨by omega,by simpa using h,by rw [h2.1 h0];simp⟩)
  ·refine .inl ⟨by omega,by simpa using h,?_⟩;rw [beq_eq_false_iff_ne];intro q;rw [ByteArray.toList_eq,ByteArray.toList_eq] at q;exact h0 (h2.2 (zah q))
theorem zbN{v:List Nd}{f:Nat→Option Nat}{N k:Nat}{last:ByteArray}{q:Nat}(hk:k<N)(h:jF v last q=none):zH v f (N-k) last q=none:=by
 obtain⟨j,hj⟩:∃j,N-k=j+1:=⟨N-k-1,by omega⟩
 rw [hj];simp only [zH,h]
theorem zid{v:List Nd}{f:Nat→Option Nat}{N k:Nat}{last s:ByteArray}{q:Nat}(hk:k<N)(h:jF v last q=some s)(hf:f (q+1)=none):zH v f (N-k) last q=none:=by
 obtain⟨j,hj⟩:∃j,N-k=j+1:=⟨N-k-1,by omega⟩
 rw [hj];simp only [zH,h,hf]
theorem ziM{v:List Nd}{f:Nat→Option Nat}{N k:Nat}{last s:ByteArray}{q e:Nat}(hk:k<N)(h:jF v last q=some s)(hf:f (q+1)=some e):zH v f (N-k) last q=zH v f (N-(k+1)) s e:=by
 obtain⟨j,hj⟩:∃j,N-k=j+1:=⟨N-k-1,by omega⟩
 rw [hj,show N-(k+1)=j by omega];simp only [zH,h,hf]
theorem zfe{v:List Nd}{last:ByteArray}{p:Nat}(h:v.length≤p):jF v last p=none:=by
 unfold jF;rw [List.getElem?_eq_none h]
theorem zf8{v:List Nd}{last:ByteArray}{p:Nat}(h:p<v.length)(hq:(decide (v[p].op=7)&& zp v[p] && decide (je last v[p].s<0))=false):jF v last p=none:=by
 unfold jF;rw [List.getElem?_eq_getElem h];simp only [hq,Bool.false_eq_true,if_false]
theorem zj5{v:List Nd}{last:ByteArray}{p:Nat}(h:p<v.length)(hq:(decide (v[p].op=7)&& zp v[p] && decide (je last v[p].s<0))=true):jF v last p=some v[p].s:=by
 unfold jF;rw [List.getElem?_eq_getElem h];simp only [hq,if_true]
end Go.Wk
namespace Go.Proofs.YtlkfaliomdbaoaaGreatDoor
open Go.RowKit Go.Wk Go.Sort
theorem znm(a:Addr)(P:List Nd)(n c p R m:Nat)(w:World)(hr:zaB w R (.slice (some a) n c) p)(hn:n=P.length)(hc:n≤c)(hm:n≤maxLen)(hp:p<n)(hP:jp w (some a) P)(hO:zap P)(hs:zp (P[p]'(by omega))=true)
 (h5:(P[p]'(by omega)).op=6) (hR:a.block≠R) (ih:znl P (some a) n c R m) (hfu:n-p<m+1):
 Calls Tryz.prog 62 #[.pointer (some ⟨R,0,none⟩)] w (zbp R (some a) n c p w (zH P (zh P m) (P[p]'(by omega)).n.toNat .empty (p+1))):=by
 unfold maxLen at hm;have HR:=hi9 hr;have HS:=hi9 (fun w1 (hb:Below w.heap.size w w1) o=>zfU hr hb o);have HP:=hi9 hP;have HN:=hi9 hn;have HO:=hi9 hO;have IH:=hi9 ih;obtain⟨c0,c1,f1⟩:=hr;have hp':p<P.length:=by omega
 obtain⟨b,hb0,q1,q2,q3,q4⟩:=hP p P[p] (List.getElem?_eq_getElem hp');injection hb0 with hb0;subst hb0;have S:=hi9 (fun w=>zaP P[p] w (hO.at hp').s (hO.at hp').t);rw [hs] at S;unfold ndV at S;obtain⟨-,-,hlo,hhi⟩:=hO.at hp';rw [h5] at q1 S;generalize P[p]=x at *;have hx0:0≤x.n:=by
  unfold zp at hs;rw [h5] at hs;simp at hs;exact hs.1.1
 clear hP hn h5 hs hlo ih hO;have hnp:decide (n≤p)=false:=decide_eq_false (by omega);go_enter Tryz.func62,Tryz.ntmps62;go_wp2_with fail;refine(S.out _).mono ?_;rintro e w1 ⟨rfl,hb⟩;replace c0:=zb hb c0;replace c1:=zb hb c1;replace q1:=zb hb q1;replace q2:=zb hb q2;replace q3:=zb hb q3;replace q4:=zb hb q4;have f1':=(hb.frozen (p:=⟨R,1,none⟩) HR.out.lt).trans f1;clear f1;have hRl:=Nat.lt_of_lt_of_le HR.out.lt hb.size;have HB:=hi9 hb;clear hb;go_wp2_with fail;obtain⟨s1,s2⟩:=HS.out _ HB.out (.cells #[.int .i64 6,.int .i64 x.n,.string x.s,.string x.t] 40);have S1:=hi9 s1;have S2:=hi9 s2;clear s1 s2 c0 c1 f1' q1 q2 q3 q4 hRl S HS HR;go_loopw [8,74] (fun last i wr=>∃(k q:Nat) (ls:ByteArray),i = .int .i64 k∧(k:Int)≤x.n∧last = .string ls∧q≤n∧p<q∧
  Hid (zH P (zh P m) x.n.toNat .empty (p+1)=zH P (zh P m) (x.n.toNat-k) ls q)∧Hid (zaB wr R (.slice (some a) n c) q)∧Hid (w.grownBy wr (some R))) (fun _ i _=>(x.n-intOf i).toNat)
 case atStart=>exact⟨0,p+1,.empty,rfl,hx0,rfl,by omega,by omega,rfl,S1.out,S2.out⟩
 case round =>
  obtain⟨k,q,ls,rfl,hk,rfl,hq,hpq,hE,hrd,hgr⟩:=hrel;by_cases hlt:(k:Int)<x.n
  ·have N:=hi9 (HP.out.but hgr.out (fun a' e=>by cases e;exact hR));have kc0:=cell_regrown hrd.out.c0;have kc1:=cell_regrown hrd.out.c1;by_cases hqn:q<n
   ·have hq':q<P.length:=by rw [←HN.out];exact hqn
    obtain⟨b,hb0,q1,q2,q3,q4⟩:=N.out q P[q] (List.getElem?_eq_getElem hq');injection hb0 with hb0;subst hb0;have hnq:decide (n≤q)=false:=decide_eq_false (by omega);by_cases h7:P[q].op=7
    ·rw [h7] at q1;have hy:=HO.out.at hq';have S0:Hid (∀w,Calls Tryz.prog 96 #[.agg #[.int .i64 7,.int .i64 P[q].n,.string P[q].s,.string P[q].t]] w fun e w'=>e = .returned (.bool (zp P[q]))∧Below w.heap.size w w'):=
      hi9 (fun w=>by have:=zaP P[q] w hy.s hy.t;unfold ndV at this;rw [h7] at this;exact this)
     have HY:=hi9 (show∀b,(decide (P[q].op=7)&& zp P[q] && decide (je ls P[q].s<0))=b→(b=true→jF P ls q=some P[q].s)∧(b=false→jF P ls q=none) from
      fun b hb=>⟨fun e=>zj5 hq' (hb.trans e),fun e=>zf8 hq' (hb.trans e)⟩)
     rw [h7] at HY;generalize P[q]=y at *;clear h7 hy;have kq1:=cell_regrown q1;have kq2:=cell_regrown q2;have kq3:=cell_regrown q3;have kq4:=cell_regrown q4;by_cases hsy:zp y=true
     ·rw [hsy] at S0 HY;clear hsy;rcases zd9 y.s ls with ⟨l0,l1,l2⟩|hl
      ·have HF:=hi9 ((HY.out true (by simp [l0])).1 rfl);have cS:∀d os,Calls Tryz.prog 96 #[.agg #[.int .i64 7,.int .i64 y.n,.string y.s,.string y.t]] (grow (redrawn wr d) os) fun e w''=>e = .returned (.bool true)∧∃p:Regrown,w''=grow (redrawn wr p.d) p.os:=fun d os=>Calls.regrown_of (S0.out _);clear l0 HY S0;have Q1:=hi9 q1;have Q2:=hi9 q2;have Q3:=hi9 q3;have Q4:=hi9 q4;clear q1 q2 q3 q4;go_wp2_with fail;refine wp_region_quiet_below (by kernel_rfl) (by kernel_rfl) ?_
       repeat (first|go_big_quiet_step (exact cS _ _)|quiet_step (exact cS _ _))
       refine wpQuiet_nil ?_;intro w2 hw';have b2:Below wr.heap.size wr w2:=by obtain⟨⟨d,os⟩,rfl⟩:=hw';exact below_regrown _ _ _
       clear hw' kq1 kq2 kq3 kq4 kc0 kc1 cS;have rd2:=hrd.out.keep b2;have q3:=zb b2 Q3.out;have nd2:=N.out.keep b2;have RS:=hi9 (fun k=>(rd2.put (q+1)).drewN k);have gs:wr.grownBy (w2.setCell ⟨R,1,none⟩ (.int .i64 (q+1:Nat))) (some R):=zd (zc b2 _) (zg _ ⟨R,1,none⟩ _);have GS:=hi9 (fun k=>zbM gs k);have NS:=hi9 (fun k=>N.out.but (GS.out k) (fun a' e=>by cases e;exact hR));have hl2:=rd2.lt;obtain⟨d0,d1,d2⟩:=rd2;have C:=hi9 (fun k=>IH.out (q+1) _ (RS.out k) (NS.out k) (by omega));clear b2 nd2 gs Q1 Q2 Q3 Q4 l1 l2 N hrd NS;rcases hf:zh P m (q+1) with _|e
       ·have HG:=hi9 (hE.out.trans (zid (by omega) HF.out hf));rw [hf] at C;clear hE HF hf;go_wp2_with fail;go_quiet (fail);go_wp2_with fail;refine(C.out _).mono ?_;rintro e w3 hpost;obtain⟨rfl,g3⟩:=hpost;go_wp2_with fail;rw [HG.out];exact⟨rfl,rfl,zd hgr.out (zd (GS.out _) g3)⟩
       ·have HG:=hi9 (hE.out.trans (ziM (by omega) HF.out hf));have hpe:=jw _ _ _ hf;rw [←HN.out] at hpe;rw [hf] at C;clear hE HF hf;go_wp2_with fail;go_quiet (fail);go_wp2_with fail;refine(C.out _).mono ?_;rintro e' w3 hpost;obtain⟨rfl,r3,g3⟩:=hpost;have R3:=hi9 r3;have G3:=hi9 (zd hgr.out (zd (GS.out _) g3));clear r3 g3;go_wp2_with fail;go_roundw
        case rel=>exact⟨k+1,e,_,by go_num,by omega,rfl,by omega,by omega,HG.out,R3.out,G3.out⟩
        case measure=>simp [intOf];omega
      ·have HF:=hi9 ((HY.out false (by rcases hl with ⟨l0,_⟩|⟨l0,_⟩<;> simp [l0])).2 rfl);have HG:=hi9 (hE.out.trans (zbN (by omega) HF.out));have cS:∀d os,Calls Tryz.prog 96 #[.agg #[.int .i64 7,.int .i64 y.n,.string y.s,.string y.t]] (grow (redrawn wr d) os) fun e w''=>e = .returned (.bool true)∧∃p:Regrown,w''=grow (redrawn wr p.d) p.os:=fun d os=>Calls.regrown_of (S0.out _);clear hE HY S0;rcases hl with ⟨-,l1⟩|⟨-,l1,l2⟩
       all_goals
        go_wp2_with fail;refine wp_region_quiet_below (by kernel_rfl) (by kernel_rfl) ?_
        repeat (first|go_big_quiet_step (exact cS _ _)|quiet_step (exact cS _ _))
        refine wpQuiet_nil ?_;intro w2 hw';have B2:=hi9 (show Below wr.heap.size wr w2 by obtain⟨⟨d,os⟩,rfl⟩:=hw';exact below_regrown _ _ _);clear hw';go_wp2_with fail;rw [HG.out];exact⟨rfl,rfl,zd hgr.out (zc B2.out _)⟩
     ·rw [Bool.not_eq_true] at hsy;rw [hsy] at S0 HY;clear hsy;have HF:=hi9 ((HY.out false (by simp)).2 rfl);have HG:=hi9 (hE.out.trans (zbN (by omega) HF.out));have cS:∀d os,Calls Tryz.prog 96 #[.agg #[.int .i64 7,.int .i64 y.n,.string y.s,.string y.t]] (grow (redrawn wr d) os) fun e w''=>e = .returned (.bool false)∧∃p:Regrown,w''=grow (redrawn wr p.d) p.os:=fun d os=>Calls.regrown_of (S0.out _);clear hE HY S0;go_wp2_with fail;refine wp_region_quiet_below (by kernel_rfl) (by kernel_rfl) ?_
      repeat (first|go_big_quiet_step (exact cS _ _)|quiet_step (exact cS _ _))
      refine wpQuiet_nil ?_;intro w2 hw';have B2:=hi9 (show Below wr.heap.size wr w2 by obtain⟨⟨d,os⟩,rfl⟩:=hw';exact below_regrown _ _ _);clear hw';go_wp2_with fail;rw [HG.out];exact⟨rfl,rfl,zd hgr.out (zc B2.out _)⟩
    ·have hs7:(P[q].op != 7)=true:=by rw [bne_iff_ne];exact h7
     have HG:=hi9 (hE.out.trans (zbN (by omega) (zf8 hq' (by simp [h7]))));clear hE h7;have kq1:=cell_regrown q1;go_wp2_with fail;refine wp_region_quiet_below (by kernel_rfl) (by kernel_rfl) ?_
     repeat (first|go_big_quiet_step (fail)|quiet_step (fail))
     refine wpQuiet_nil ?_;intro w2 hw';have B2:=hi9 (show Below wr.heap.size wr w2 by obtain⟨⟨d,os⟩,rfl⟩:=hw';exact below_regrown _ _ _);clear hw';go_wp2_with fail;rw [HG.out];exact⟨rfl,rfl,zd hgr.out (zc B2.out _)⟩
   ·have hnq:decide (n≤q)=true:=decide_eq_true (by omega);have HG:=hi9 (hE.out.trans (zbN (by omega) (zfe (by rw [←HN.out];omega))));clear hE;go_wp2_with fail;refine wp_region_quiet_below (by kernel_rfl) (by kernel_rfl) ?_
    repeat (first|go_big_quiet_step (fail)|quiet_step (fail))
    refine wpQuiet_nil ?_;intro w2 hw';have B2:=hi9 (show Below wr.heap.size wr w2 by obtain⟨⟨d,os⟩,rfl⟩:=hw';exact below_regrown _ _ _);clear hw';go_wp2_with fail;rw [HG.out];exact⟨rfl,rfl,zd hgr.out (zc B2.out _)⟩
  ·have HG:=hi9 (hE.out.trans (by rw [show x.n.toNat-k=0 by omega];rfl:_=some q));obtain⟨d0,d1,d2⟩:=hrd.out;have RD:=hi9 hrd.out;clear hE hrd;go_wp2_with fail;go_quiet (fail);go_wp2_with fail;go_ret;rw [HG.out];exact⟨rfl,RD.out.drewN _,zbM hgr.out _⟩
theorem zlb(a:Addr)(P:List Nd)(n c p R:Nat)(w:World)(hr:zaB w R (.slice (some a) n c) p)(hn:n=P.length)(hm:n≤maxLen)(hp:p<n)(hP:jp w (some a) P)(hO:zap P)(hs:zp (P[p]'(by omega))=true)
 (h7:(P[p]'(by omega)).op=7):
 Calls Tryz.prog 62 #[.pointer (some ⟨R,0,none⟩)] w (zbp R (some a) n c p w none):=by
 unfold maxLen at hm;have HR:=hi9 hr;have HS:=hi9 (fun w1 (hb:Below w.heap.size w w1) o=>zfU hr hb o);obtain⟨c0,c1,f1⟩:=hr;have hp':p<P.length:=by omega
 obtain⟨b,hb0,q1,q2,q3,q4⟩:=hP p P[p] (List.getElem?_eq_getElem hp');injection hb0 with hb0;subst hb0;have S:=hi9 (fun w=>zaP P[p] w (hO.at hp').s (hO.at hp').t);rw [hs] at S;unfold ndV at S;rw [h7] at q1 S;generalize P[p]=x at *;clear hO hP hn h7;go_enter Tryz.func62,Tryz.ntmps62;go_wp2_with fail;refine(S.out _).mono ?_;rintro e w1 ⟨rfl,hb⟩;replace c0:=zb hb c0;replace c1:=zb hb c1;replace q1:=zb hb q1;replace q2:=zb hb q2;replace q3:=zb hb q3;replace q4:=zb hb q4;have f1':=(hb.frozen (p:=⟨R,1,none⟩) HR.out.lt).trans f1;clear f1;have hR:=Nat.lt_of_lt_of_le HR.out.lt hb.size;have HB:=hi9 hb;clear hb;go_wp2_with fail;exact⟨rfl,rfl,(HS.out _ HB.out _).2⟩
theorem zeo(A:Option Addr)(P:List Nd)(n c R:Nat)(hn:n=P.length)(hc:n≤c)(hm:n≤maxLen)(hO:zap P)(hR:0<P.length→∀a,A=some a→a.block≠R)(m:Nat):znl P A n c R m:=by
 induction m with
 | zero=>intro q w _ _ h;omega
 | succ m ih =>
  intro p w hr hP hf
  by_cases hp:p<n
  ·have hp':p<P.length:=by omega
   obtain⟨a,rfl,-⟩:=hP p P[p] (List.getElem?_eq_getElem hp');have e:zh P (m+1) p=if zp P[p] then(if P[p].op=5 then zI P (zh P m) P[p].n.toNat none (p+1) else if P[p].op=6 then zH P (zh P m) P[p].n.toNat .empty (p+1) else if P[p].op=7 then none else some (p+1)) else none:=by
    simp only [zh,List.getElem?_eq_getElem hp']
   rw [e];by_cases hs:zp P[p]=true
   ·rw [if_pos hs];by_cases h5:P[p].op=5
    ·rw [if_pos h5];exact zoj a P n c p R m w hr hn hc hm hp hP hO hs h5 (hR (by omega) a rfl) ih hf
    rw [if_neg h5];by_cases h6:P[p].op=6
    ·rw [if_pos h6];exact znm a P n c p R m w hr hn hc hm hp hP hO hs h6 (hR (by omega) a rfl) ih hf
    rw [if_neg h6];by_cases h7:P[p].op=7
    ·rw [if_pos h7];exact zlb a P n c p R w hr hn hm hp hP hO hs h7
    rw [if_neg h7];exact zl5 a P n c p R w hr hn hc hm hp hP hO hs (beq_eq_false_iff_ne.2 h5) (beq_eq_false_iff_ne.2 h6) (beq_eq_false_iff_ne.2 h7)
   ·rw [if_neg hs];exact znw a P n c p R w hr hn hp hP hO (by simpa using hs)
  ·have e:zh P (m+1) p=none:=by
    simp only [zh,List.getElem?_eq_none (by omega:P.length≤p)]
   rw [e]
   exact znI A n c p R w hr (by omega)
theorem zg6(p:Addr)(w:World):
 CallsD Tryz.prog 61 #[.pointer (some p)] .returning w fun e u' w'=>e = .returned (.tuple #[])∧u' = .returning∧w'=w:=by
 refine callsD_of_wpS Tryz.func61 rfl fun c₀ cs hu=>?_;apply wpS_seq;apply wpS_region;simp [wpOpsS,go_sem,recoverD,hu,Tryz.ntmps61,Exit.thenS];refine wpS_of_wp ?_;go_wp2_with fail;cases c₀;simp_all [bodyPostS,results,Tryz.results61]
theorem zix(E:Nat)(v:Value)(older:List PanicEntry)(w:World)(hc:w.cell? ⟨E,0,none⟩=some v)(hz:w.frozen? ⟨E,0,none⟩=false):
 CallsD Tryz.prog 61 #[.pointer (some ⟨E,0,none⟩)] (.panicking ({ v := .iface 113 (.agg #[]),recovered:=false } :: older)) w fun e u' w' =>
  e = .returned (.tuple #[])∧u' = .panicking ({ v := .iface 113 (.agg #[]),recovered:=true } :: older)∧w'=(w.setCell ⟨E,0,none⟩ (.iface 28 (.int .i64 1))).alloc (.cells #[] 113):=by
 have hl:E<w.heap.size:=block_lt_of_cell hc;have hta:∀w,(Instr.typeAssert (.iface 113 (.agg #[])) 20 113 true).run Tryz.prog w = .ok (.tuple #[.agg #[],.bool true]) w:=fun _=>by kernel_rfl
 refine callsD_of_wpS Tryz.func61 rfl fun c₀ cs hu=>?_;apply wpS_seq;apply wpS_region;simp [wpOpsS,go_sem,recoverD,hu,Tryz.ntmps61];refine wpS_of_wp ?_;go_wp2_with fail;cases c₀;simp [bodyPostS,results,Tryz.results61]
theorem zkE(A:Option Addr)(n c:Nat)(P:List Nd)(w:World)(hn:n=P.length)(hm:n≤maxLen)(h:200<n):
 Calls Tryz.prog 26 #[.slice A n c] w fun e w'=>e = .returned (jE (zD P))∧Below w.heap.size w w':=by
 have H:=hi9 (show zD P=4 by unfold zD;rw [if_pos (by omega)]);unfold maxLen at hm;clear hn;go_enter_defers Tryz.func26,Tryz.ntmps26;go_wp2_with fail;simp [bodyPostD,Leaves,results,Tryz.results26,go_sem];rw [H.out];exact⟨rfl,za _ _⟩
theorem jp.lt{w:World}{A:Option Addr}{P:List Nd}(h:jp w A P)(h0:0<P.length)(a:Addr)(e:A=some a):a.block<w.heap.size:=by
 obtain⟨b,hb,q,-⟩:=h 0 P[0] (List.getElem?_eq_getElem h0);rw [e] at hb;injection hb with hb;subst hb;have:=block_lt_of_cell q;rw [jI] at this;exact this
theorem zcA{w w1:World}(o1 o2:Obj)(h:((w.alloc o1).alloc o2).grownBy w1 (some (w.heap.size+1))):
 Below w.heap.size w w1∧w1.cell? ⟨w.heap.size,0,none⟩=(w.alloc o1).cell? ⟨w.heap.size,0,none⟩∧w1.frozen? ⟨w.heap.size,0,none⟩=(w.alloc o1).frozen? ⟨w.heap.size,0,none⟩∧w.heap.size+2≤w1.heap.size:=by
 have hb:Below (w.heap.size+1) ((w.alloc o1).alloc o2) w1:=jt h (Nat.le_refl _) (by simp);have hb2:Below (w.heap.size+1) (w.alloc o1) w1:=((Below.refl _ _).alloc (by simp) o2).trans hb;refine⟨(za w o1).trans (hb2.mono (by omega)),hb2.cell (by simp),hb2.frozen (by simp),?_⟩;have:=h.size;simp at this;omega
theorem zkD(A:Option Addr)(n c:Nat)(P:List Nd)(w:World)(hn:n=P.length)(hc:n≤c)(hm:n≤maxLen)(hP:jp w A P)(hO:zap P)(h:¬200<n)(he:zh P (n+1) 0=none):
 Calls Tryz.prog 26 #[.slice A n c] w fun e w'=>e = .returned (jE (zD P))∧Below w.heap.size w w':=by
 have H:=hi9 (show zD P=1 by unfold zD;rw [if_neg (by omega),←hn,he];rfl);have C:=hi9 (fun W h1 h2=>zeo A P n c (w.heap.size+1) hn hc hm hO (fun h0 a e=>by have:=hP.lt h0 a e;omega) (n+1) 0 W h1 h2 (by omega));rw [he] at C;unfold maxLen at hm;have HP:=hi9 hP;have hmf:∀(fn:Fn) (first cap:Array Value) (w:World),(Instr.makeFunc fn first cap).run Tryz.prog w = .ok (.func fn first cap) w:=fun _ _ _ _=>rfl;clear hn hP hO;go_enter_defers Tryz.func26,Tryz.ntmps26;go_wp2_with fail;refine(C.out _ ⟨by simp,by simp,by simp⟩ (HP.out.keep ((by(repeat' (first|exact Below.refl _ _|refine Below.alloc ?_ ?_ _|refine Below.setCell ?_ ?_ _|refine Below.drew ?_|refine Below.drewN ?_ _))<;>(try simp)<;> omega)))).mono ?_;rintro e w1 hpost;obtain⟨rfl,g1⟩:=hpost;obtain⟨b1,c1,f1,z1⟩:=zcA _ _ g1;have c1':w1.cell? ⟨w.heap.size,0,none⟩=some .nilIface:=c1.trans (by simp);have f1':w1.frozen? ⟨w.heap.size,0,none⟩=false:=f1.trans (by simp);clear c1 f1 g1;go_wp2_with fail;refine leaves_cons (f:=61) (args:=#[.pointer (some ⟨w.heap.size,0,none⟩)]) (by simp) (by simp [go_sem]) ?_;refine(zix w.heap.size _ [] w1 c1' f1').mono ?_;rintro e u' w2 ⟨rfl,rfl,rfl⟩;have hl:w.heap.size<w1.heap.size:=by omega
 simp [Leaves,settle,results,Tryz.results26,go_sem,c1',hl];rw [H.out];exact⟨rfl,(b1.setCell (p:=⟨w.heap.size,0,none⟩) (Nat.le_refl _) _).alloc (by simp [World.setCell];omega) _⟩
theorem zku(A:Option Addr)(n c e:Nat)(P:List Nd)(w:World)(hn:n=P.length)(hc:n≤c)(hm:n≤maxLen)(hP:jp w A P)(hO:zap P)(h:¬200<n)(he:zh P (n+1) 0=some e):
 Calls Tryz.prog 26 #[.slice A n c] w fun e w'=>e = .returned (jE (zD P))∧Below w.heap.size w w':=by
 have C:=hi9 (fun W h1 h2=>zeo A P n c (w.heap.size+1) hn hc hm hO (fun h0 a e=>by have:=hP.lt h0 a e;omega) (n+1) 0 W h1 h2 (by omega));rw [he] at C;have hle:=jw _ _ _ he;rw [←hn] at hle;have H:=hi9 (show zD P=if e<n then 1 else 0 by
  unfold zD;rw [if_neg (by omega),←hn,he]
  by_cases q:e<n
  ·rw [if_pos q,if_neg (by intro z;injection z with z;omega)]
  ·rw [if_neg q,if_pos (by congr 1;omega)])
 unfold maxLen at hm;have HP:=hi9 hP;have hmf:∀(fn:Fn) (first cap:Array Value) (w:World),(Instr.makeFunc fn first cap).run Tryz.prog w = .ok (.func fn first cap) w:=fun _ _ _ _=>rfl;clear hn hP hO he;by_cases hen:e<n
 ·rw [if_pos hen] at H;go_enter_defers Tryz.func26,Tryz.ntmps26;go_wp2_with fail;refine(C.out _ ⟨by simp,by simp,by simp⟩ (HP.out.keep ((by(repeat' (first|exact Below.refl _ _|refine Below.alloc ?_ ?_ _|refine Below.setCell ?_ ?_ _|refine Below.drew ?_|refine Below.drewN ?_ _))<;>(try simp)<;> omega)))).mono ?_;rintro e w1 hpost;obtain⟨rfl,r1,g1⟩:=hpost;obtain⟨b1,c1,f1,z1⟩:=zcA _ _ g1;have c1':w1.cell? ⟨w.heap.size,0,none⟩=some .nilIface:=c1.trans (by simp);have f1':w1.frozen? ⟨w.heap.size,0,none⟩=false:=f1.trans (by simp);have r2:=r1.c1;clear c1 f1 g1 r1;go_wp2_with fail;refine leaves_cons (f:=61) (args:=#[.pointer (some ⟨w.heap.size,0,none⟩)]) (by simp) (by simp [go_sem]) ?_;refine(zg6 ⟨w.heap.size,0,none⟩ _).mono ?_;rintro e u' w2 ⟨rfl,rfl,rfl⟩;simp [Leaves,settle,results,Tryz.results26,go_sem,c1'];rw [H.out];exact⟨rfl,b1.setCell (p:=⟨w.heap.size,0,none⟩) (Nat.le_refl _) _⟩
 ·rw [if_neg hen] at H;obtain rfl:e=n:=by omega
  go_enter_defers Tryz.func26,Tryz.ntmps26;go_wp2_with fail;refine(C.out _ ⟨by simp,by simp,by simp⟩ (HP.out.keep ((by(repeat' (first|exact Below.refl _ _|refine Below.alloc ?_ ?_ _|refine Below.setCell ?_ ?_ _|refine Below.drew ?_|refine Below.drewN ?_ _))<;>(try simp)<;> omega)))).mono ?_;rintro e w1 hpost;obtain⟨rfl,r1,g1⟩:=hpost;obtain⟨b1,c1,f1,z1⟩:=zcA _ _ g1;have c1':w1.cell? ⟨w.heap.size,0,none⟩=some .nilIface:=c1.trans (by simp);have f1':w1.frozen? ⟨w.heap.size,0,none⟩=false:=f1.trans (by simp);have r2:=r1.c1;clear c1 f1 g1 r1;go_wp2_with fail;refine leaves_cons (f:=61) (args:=#[.pointer (some ⟨w.heap.size,0,none⟩)]) (by simp) (by simp [go_sem]) ?_;refine(zg6 ⟨w.heap.size,0,none⟩ _).mono ?_;rintro e u' w2 ⟨rfl,rfl,rfl⟩;simp [Leaves,settle,results,Tryz.results26,go_sem,c1'];rw [H.out];exact⟨rfl,b1.setCell (p:=⟨w.heap.size,0,none⟩) (Nat.le_refl _) _⟩
theorem zmf(A:Option Addr)(n c:Nat)(P:List Nd)(w:World)(hn:n=P.length)(hc:n≤c)(hm:n≤maxLen)(hP:jp w A P)(hO:zap P):
 Calls Tryz.prog 26 #[.slice A n c] w fun e w'=>e = .returned (jE (zD P))∧Below w.heap.size w w':=by
 by_cases h:200<n
 ·exact zkE A n c P w hn hm h
 ·rcases he:zh P (n+1) 0 with _|e
  ·exact zkD A n c P w hn hc hm hP hO h he
  ·exact zku A n c e P w hn hc hm hP hO h he
end Go.Proofs.YtlkfaliomdbaoaaGreatDoor
namespace Go.Wk
end Go.Wk
namespace Go.Proofs.YtlkfaliomdbaoaaGreatDoor
open Go.RowKit Go.Wk Go.Sort
theorem zhH(x:Int):(x=0∧jE x = .nilIface)∨(x≠0∧jE x = .iface 28 (.int .i64 x)):=by
 by_cases h:x=0
 ·exact .inl ⟨h,by rw [h];rfl⟩
 ·exact .inr ⟨h,zA h⟩
theorem zi9{x y:Nd}(h:x=y):zha x y=0:=(zdb.zero x y).2 h
theorem znZ{x y:Nd}(h:x≠y)(w:World):(binOp .neq 40 (.agg #[.int .i64 x.op,.int .i64 x.n,.string x.s,.string x.t]) (.agg #[.int .i64 y.op,.int .i64 y.n,.string y.s,.string y.t])).run Tryz.prog w = .ok (.bool true) w:=by
 simp [go_sem];exact fun h1 h2 h3 h4=>h (Nd.ext4 h1 h2 (toList_inj h3) (toList_inj h4))
theorem zc4{P Q:List Nd}{k:Nat}(h1:k<P.length)(h2:k<Q.length)(h:P[k]≠Q[k])(hc:z8 P Q=z8 (P.drop k) (Q.drop k)):z8 P Q≠0:=by
 rw [hc,zc7 h1 h2,zP (fun e=>h ((zdb.zero _ _).1 e))];exact fun e=>h ((zdb.zero _ _).1 e)
theorem zkx(A B:Option Addr)(n m c d:Nat)(P Q:List Nd)(w:World)(hn:n=P.length)(hm:m=Q.length)(hln:n≤maxLen)(hlm:m≤maxLen)(hP:jp w A P)(hQ:jp w B Q):
 Calls Tryz.prog 9 #[.slice A n c,.slice B m d] w fun e w'=>e = .returned (.bool (decide (z8 P Q=0)))∧Below w.heap.size w w':=by
 unfold maxLen at hln hlm;have HN:=hi9 hn;have HM:=hi9 hm;have HP:=hi9 hP;have HQ:=hi9 hQ;clear hn hm hP hQ;by_cases hl:n=m
 ·subst hl;go_enter Tryz.func9,Tryz.ntmps9;go_wp2_with fail;go_loopw [5] (fun i wr=>∃k:Nat,k≤n∧i = .int .i64 k∧Hid (z8 P Q=z8 (P.drop k) (Q.drop k))∧Hid (Below w.heap.size w wr)) (fun i _=>n-(intOf i).toNat)
  case atStart=>exact⟨0,Nat.zero_le _,rfl,rfl,Below.refl _ _⟩
  case round =>
   obtain⟨k,hk,rfl,hE,hB⟩:=hrel;by_cases hlt:k<n
   ·have h1:k<P.length:=by rw [←HN.out];exact hlt
    have h2:k<Q.length:=by rw [←HM.out];exact hlt
    obtain⟨a,rfl,a1,a2,a3,a4⟩:=(HP.out.keep hB.out) k P[k] (List.getElem?_eq_getElem h1);obtain⟨b,rfl,b1,b2,b3,b4⟩:=(HQ.out.keep hB.out) k Q[k] (List.getElem?_eq_getElem h2);by_cases he:P[k]=Q[k]
    ·have HE:=hi9 (hE.out.trans ((zc7 h1 h2).trans (by rw [zi9 he,zT])));rw [he] at a1 a2 a3 a4;generalize Q[k]=y at *;clear he hE;go_wp2_with fail;go_quiet (fail);go_wp2_with fail;go_roundw
     case rel=>exact⟨k+1,by omega,by go_num,HE,hB.out.drewN _⟩
     case measure=>simp [intOf];omega
    ·have HE:=hi9 (zc4 h1 h2 he hE.out);have hne:=fun w=>znZ he w;generalize P[k]=x at *;generalize Q[k]=y at *;clear he hE;go_wp2_with fail;go_quiet (fail);go_wp2_with fail;go_ret;exact⟨zt (decide_eq_false HE.out).symm,hB.out.drewN _⟩
   ·have HE:=hi9 (hE.out.trans (zcV (by rw [←HN.out];omega) (by rw [←HM.out];omega)));clear hE;go_wp2_with fail;go_ret;exact⟨zt (decide_eq_true HE.out).symm,hB.out⟩
 ·have HE:=hi9 (show z8 P Q≠0 from fun h=>hl (by rw [HN.out,HM.out,(zcy.zero _ _).1 h]));have h3:(n != m)=true:=by rw [bne_iff_ne];exact hl
  clear hl;go_enter Tryz.func9,Tryz.ntmps9;go_wp2_with fail;go_ret;exact⟨zt (decide_eq_false HE.out).symm,Below.refl _ _⟩
def zu:List Nd→List Value
 | [] => []
 | x :: r => .int .i64 x.op :: .int .i64 x.n :: .string x.s :: .string x.t :: zu r
theorem zaL(P Q:List Nd):zu (P ++ Q)=zu P ++ zu Q:=by
 induction P with
 | nil=>rfl
 | cons x P ih=>simp [zu,ih]
theorem jX(P:List Nd):(zu P).length=P.length*4:=by
 induction P with
 | nil=>rfl
 | cons x P ih=>simp only [zu,List.length_cons,ih];omega
theorem zhb(P:List Nd)(k:Nat)(x:Nd)(h:P[k]?=some x):(zu P)[k*4]?=some (.int .i64 x.op)∧(zu P)[k*4+1]?=some (.int .i64 x.n)∧(zu P)[k*4+2]?=some (.string x.s)∧(zu P)[k*4+3]?=some (.string x.t):=by
 induction P generalizing k with
 | nil=>simp at h
 | cons y P ih =>
  cases k with
  | zero=>simp only [List.getElem?_cons_zero,Option.some.injEq] at h;subst h;exact⟨rfl,rfl,rfl,rfl⟩
  | succ k =>
   have:=ih k (by simpa using h)
   rw [show(k+1)*4=k*4+1+1+1+1 by omega]
   simp only [zu,List.getElem?_cons_succ]
   exact this
theorem zcT(g o k:Nat):(⟨g,o,none⟩:Addr).add k=⟨g,o+k,none⟩:=by
 unfold Addr.add;split
 ·rename_i h0;subst h0;rfl
 ·simp
theorem zes{w:World}{b o:Nat}{P:List Nd}(h:∀(j:Nat) u,(zu P)[j]?=some u→w.cell? ((⟨b,o,none⟩:Addr).add j)=some u):jp w (some ⟨b,o,none⟩) P:=by
 intro k x hx;obtain⟨h1,h2,h3,h4⟩:=zhb P k x hx;have g1:=h _ _ h1;have g2:=h _ _ h2;have g3:=h _ _ h3;have g4:=h _ _ h4;simp only [zcT] at g1 g2 g3 g4;exact⟨_,rfl,by simp only [zcT];exact g1,by simp only [zcT];exact g2,by simp only [zcT];exact g3,by simp only [zcT];exact g4⟩
theorem zlJ(w:World)(P:List Nd)(t:TypeId):jp (w.alloc (.cells (zu P).toArray t)) (some ⟨w.heap.size,0,none⟩) P:=zes (zaz w _ t)
theorem rq{P:Program}{f:FuncId}{args:Array Value}{w:World}{v:Value}(h:∀w',Below w.heap.size w w'→Calls P f args w' fun e w''=>e = .returned v∧Below w'.heap.size w' w''):
 ∀d os,Calls P f args (grow (redrawn w d) os) fun e w''=>e = .returned v∧∃p:Regrown,w''=grow (redrawn w p.d) p.os :=
 fun d os=>Calls.regrown_of (h _ (below_regrown w d os))
structure Nd4(w:World)(a:Addr)(x:Nd):Prop where
 c0:w.cell? a=some (.int .i64 x.op)
 c1:w.cell? ⟨a.block,a.off+1,none⟩=some (.int .i64 x.n)
 c2:w.cell? ⟨a.block,a.off+2,none⟩=some (.string x.s)
 c3:w.cell? ⟨a.block,a.off+3,none⟩=some (.string x.t)
theorem Nd4.keep{w w':World}{a:Addr}{x:Nd}(h:Nd4 w a x)(hb:Below w.heap.size w w'):Nd4 w' a x :=
 ⟨zb hb h.c0,zb hb h.c1,zb hb h.c2,zb hb h.c3⟩
theorem jp.nd{w:World}{A:Option Addr}{P:List Nd}(h:jp w A P){k:Nat}(hk:k<P.length):∃a,A=some a∧Nd4 w (a.add (k*4)) P[k] :=
 let ⟨a,e,h1,h2,h3,h4⟩:=h k P[k] (List.getElem?_eq_getElem hk);⟨a,e,h1,h2,h3,h4⟩
theorem zap.seg{P:List Nd}(h:zap P)(i j:Nat):zap (seg P i j):=fun x hx=>h x (List.mem_of_mem_drop (List.mem_of_mem_take hx))
end Go.Proofs.YtlkfaliomdbaoaaGreatDoor
namespace Go.Proofs.YtlkfaliomdbaoaaGreatDoor
open Go.RowKit Go.Wk
end Go.Proofs.YtlkfaliomdbaoaaGreatDoor
namespace Go.Proofs.YtlkfaliomdbaoaaGreatDoor
open Go.RowKit Go.Wk Go.Sort
end Go.Proofs.YtlkfaliomdbaoaaGreatDoor
namespace Go.Wk
open Go.ChangeShapes Go.WideShapes Go.RowKit
def Rd(P:Program)(w:World)(t:TypeId)(cs:List Value):Prop :=
 ∃(H:Type) (enc:TypeId × Value→H) (base:Nat) (sp:Nat→Bool) (held:Bool) (fuel:Nat) (x:DataW H × List MemPlace),DataW.trod enc P w base sp held fuel t cs=some x
section
variable {P:Program} {w:World} {t:TypeId} {cs:List Value}
theorem zgf{H:Type}{enc:TypeId × Value→H}{b:Nat}{sp:Nat→Bool}{hd:Bool}{v:Value}{d:DataW H}{ps:List MemPlace}(h:DataW.Trod enc P w b sp hd t v d ps):Rd P w t v.cells.toList :=
 let ⟨f,hf⟩:=h;⟨H,enc,b,sp,hd,f,_,hf⟩
theorem zbY(ht:P.underlying t=some .string)(h:Rd P w t cs):∃s:ByteArray,cs = [.string s]∧s.size≤maxLen:=by
 obtain⟨H,enc,b,sp,hd,f,x,hx⟩:=h;obtain⟨s,h1,_,h2⟩:=DataW.trod_string ht hx;exact⟨s,h1,h2⟩
theorem zpT{k:IntKind}(ht:P.underlying t=some (.int k))(h:Rd P w t cs):∃n:Int,cs = [.int k n]∧(Lit.int k n).wf=true:=by
 obtain⟨H,enc,b,sp,hd,f,x,hx⟩:=h;obtain⟨s,h1,_,h2⟩:=DataW.trod_int ht hx;exact⟨s,h1,h2⟩
theorem znC(ht:P.underlying t=some (.int .i64))(h:Rd P w t cs):∃n:Int,cs = [.int .i64 n]∧-9223372036854775808≤n∧n≤9223372036854775807:=by
 obtain⟨n,h1,h2⟩:=zpT ht h;refine⟨n,h1,?_⟩;simpa [Lit.wf,IntKind.min,IntKind.max,IntKind.bits,IntKind.signed] using h2
theorem zb9{fs:Array Field}(ht:P.underlying t=some (.struct fs))(h:Rd P w t cs):
 cs.length=P.cellsOf t∧∀(i:Nat) (f:Field),fs[i]?=some f→Rd P w f.type ((cs.drop f.offset).take (P.cellsOf f.type)):=by
 obtain⟨H,enc,b,sp,hd,f,x,hx⟩:=h;obtain⟨xs,n,_,_,h1,h2,h3⟩:=DataW.trod_struct ht hx;refine⟨h1,fun i f hf=>?_⟩;have hi:i<xs.length:=by rw [h2];exact(Array.getElem?_eq_some_iff.1 hf).1
 exact⟨H,enc,b,sp,hd,n,xs[i],(h3 i f hf).trans (List.getElem?_eq_getElem hi)⟩
theorem jH{fs:Array Field}(ht:P.underlying t=some (.struct fs))(h:Rd P w t cs)(i T o n:Nat)(hf:(fs[i]?).map (fun f=>(f.type,f.offset))=some (T,o))(hn:P.cellsOf T=n):
 Rd P w T ((cs.drop o).take n):=by
 rcases hi:fs[i]? with _|f
 ·rw [hi] at hf;cases hf
 ·rw [hi] at hf;simp only [Option.map_some,Option.some.injEq,Prod.mk.injEq] at hf;obtain⟨rfl,rfl⟩:=hf;subst hn;exact(zb9 ht h).2 i f hi
end
end Go.Wk
namespace Go.Proofs.YtlkfaliomdbaoaaGreatDoor
open Go.Wk Go.ChangeShapes Go.WideShapes Go.RowKit
theorem zaH:Tryz.prog.cellsOf 9=1:=by kernel_rfl
end Go.Proofs.YtlkfaliomdbaoaaGreatDoor
