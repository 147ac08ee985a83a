/-
  val.Check: nodes that are a value. val.first, val.Compare. Aids of later walks: ..
-/
import Derived.Deep.Slices
import Derived.Test.YthidiimbeaabhaaGreatDoorQ16
set_option maxRecDepth 100000
set_option maxHeartbeats 1000000
namespace Go.Proofs.YthidiimbeaabhaaGreatDoor
open Go.RowKit Go.Wk Go.Sort
theorem wA(a:Addr)(P:List Nd)(n c p R:Nat)(w:World)(hr:bZ w R (.slice (some a) n c) p)(hn:n=P.length)(hm:n<=maxLen)(hp:p<n)(hP:jk w (some a) P)(hO:jZ P)(hs:zD (P[p]'(by omega))=true)
 (h7:(P[p]'(by omega)).op=7):
 Calls Tryz.prog 80 #[.pointer (some ⟨R,0,none⟩)] w (dq R (some a) n c p w none):=by
 unfold maxLen at hm;have HR:=O hr;have HS:=O (λw1 (hb:Below w.heap.size w w1) o=>mg hr hb o);obtain⟨c0,c1,f1⟩:=hr;have fj:p<P.length:=by omega
 obtain⟨b,hb0,q1,q2,q3,q4⟩:=hP p P[p] (List.getElem?_eq_getElem fj);injection hb0 with hb0;subst hb0;have S:=O (λw=>cJ P[p] w (hO.at fj).s (hO.at fj).t);rw [hs] at S;unfold ndV at S;rw [h7] at q1 S;generalize P[p]=x at *;clear hO hP hn h7;go_enter Tryz.func80,Tryz.ntmps80;go_wp2_with fail;refine(S.o _).mono ?_;rintro e w1 ⟨rfl,hb⟩;replace c0:=zb hb c0;replace c1:=zb hb c1;replace q1:=zb hb q1;replace q2:=zb hb q2;replace q3:=zb hb q3;replace q4:=zb hb q4;have f1':=(hb.frozen (p:=⟨R,1,none⟩) HR.o.lt).trans f1;clear f1;have hR:=Nat.lt_of_lt_of_le HR.o.lt hb.size;have HB:=O hb;clear hb;go_wp2_with fail;exact⟨rfl,rfl,(HS.o _ HB.o _).2⟩
theorem i7(A:Option Addr)(P:List Nd)(n c R:Nat)(hn:n=P.length)(hc:n<=c)(hm:n<=maxLen)(hO:jZ P)(hR:0<P.length->∀a,A=some a->a.block≠R)(m:Nat):Ct P A n c R m:=by
 induction m with
 | zero=>intro q w _ _ h;omega
 | succ m ih =>
  intro p w hr hP hf
  by_cases hp:p<n
  ·have fj:p<P.length:=by omega
   obtain⟨a,rfl,-⟩:=hP p P[p] (List.getElem?_eq_getElem fj);have e:zm P (m+1) p=if zD P[p] then(if P[p].op=5 then zR P (zm P m) P[p].n.toNat none (p+1) else if P[p].op=6 then zS P (zm P m) P[p].n.toNat .empty (p+1) else if P[p].op=7 then none else some (p+1)) else none:=by
    simp only [zm,List.getElem?_eq_getElem fj]
   rw [e];by_cases hs:zD P[p]=true
   ·rw [if_pos hs];by_cases h5:P[p].op=5
    ·rw [if_pos h5];exact Cd a P n c p R m w hr hn hc hm hp hP hO hs h5 (hR (by omega) a rfl) ih hf
    rw [if_neg h5];by_cases h6:P[p].op=6
    ·rw [if_pos h6];exact Da a P n c p R m w hr hn hc hm hp hP hO hs h6 (hR (by omega) a rfl) ih hf
    rw [if_neg h6];by_cases h7:P[p].op=7
    ·rw [if_pos h7];exact wA a P n c p R w hr hn hm hp hP hO hs h7
    rw [if_neg h7];exact xM a P n c p R w hr hn hc hm hp hP hO hs (beq_eq_false_iff_ne.2 h5) (beq_eq_false_iff_ne.2 h6) (beq_eq_false_iff_ne.2 h7)
   ·rw [if_neg hs];exact DT a P n c p R w hr hn hp hP hO (by simpa using hs)
  ·have e:zm P (m+1) p=none:=by
    simp only [zm,List.getElem?_eq_none (by omega:P.length<=p)]
   rw [e];exact AX A n c p R w hr (by omega)
theorem ny(p:Addr)(w:World):
 CallsD Tryz.prog 79 #[.pointer (some p)] .returning w λe u' w'=>e = .returned (.tuple #[])/\u' = .returning/\w'=w:=by
 refine callsD_of_wpS Tryz.func79 rfl λc₀ cs hu=>?_;apply wpS_seq;apply wpS_region;simp [wpOpsS,go_sem,recoverD,hu,Tryz.ntmps79,Exit.thenS];refine wpS_of_wp ?_;go_wp2_with fail;cases c₀;simp_all [bodyPostS,results,Tryz.results79]
theorem qL(E:Nat)(v:Value)(older:List PanicEntry)(w:World)(hc:w.cell? ⟨E,0,none⟩=some v)(hz:w.frozen? ⟨E,0,none⟩=false):
 CallsD Tryz.prog 79 #[.pointer (some ⟨E,0,none⟩)] (.panicking ({ v := .iface 149 (.agg #[]),recovered:=false } :: older)) w λe u' w' =>
  e = .returned (.tuple #[])/\u' = .panicking ({ v := .iface 149 (.agg #[]),recovered:=true } :: older)/\w'=(w.setCell ⟨E,0,none⟩ (.iface 80 (.int .i64 1))).alloc (.cells #[] 149):=by
 have hl:E<w.heap.size:=block_lt_of_cell hc;have hta:∀w,(Instr.typeAssert (.iface 149 (.agg #[])) 20 149 true).run Tryz.prog w = .ok (.tuple #[.agg #[],.bool true]) w:=λ_=>by kernel_rfl
 refine callsD_of_wpS Tryz.func79 rfl λc₀ cs hu=>?_;apply wpS_seq;apply wpS_region;simp [wpOpsS,go_sem,recoverD,hu,Tryz.ntmps79];refine wpS_of_wp ?_;go_wp2_with fail;cases c₀;simp [bodyPostS,results,Tryz.results79]
theorem vC(A:Option Addr)(n c:Nat)(P:List Nd)(w:World)(hn:n=P.length)(hm:n<=maxLen)(h:200<n):
 Calls Tryz.prog 57 #[.slice A n c] w λe w'=>e = .returned (zM (zc P))/\Below w.heap.size w w':=by
 have H:=O (show zc P=4 by unfold zc;rw [if_pos (by omega)]);unfold maxLen at hm;clear hn;go_enter_defers Tryz.func57,Tryz.ntmps57;go_wp2_with fail;simp [bodyPostD,Leaves,results,Tryz.results57,go_sem];rw [H.o];exact⟨rfl,za _ _⟩
theorem jk.lt{w:World}{A:Option Addr}{P:List Nd}(h:jk w A P)(h0:0<P.length)(a:Addr)(e:A=some a):a.block<w.heap.size:=by
 obtain⟨b,hb,q,-⟩:=h 0 P[0] (List.getElem?_eq_getElem h0);rw [e] at hb;injection hb with hb;subst hb;have:=block_lt_of_cell q;rw [cD] at this;exact this
theorem eV{w w1:World}(o1 o2:Obj)(h:((w.alloc o1).alloc o2).grownBy w1 (some (w.heap.size+1))):
 Below w.heap.size w w1/\w1.cell? ⟨w.heap.size,0,none⟩=(w.alloc o1).cell? ⟨w.heap.size,0,none⟩/\w1.frozen? ⟨w.heap.size,0,none⟩=(w.alloc o1).frozen? ⟨w.heap.size,0,none⟩/\w.heap.size+2<=w1.heap.size:=by
 have hb:Below (w.heap.size+1) ((w.alloc o1).alloc o2) w1:=aw h (Nat.le_refl _) (by simp);have hb2:Below (w.heap.size+1) (w.alloc o1) w1:=((Below.refl _ _).alloc (by simp) o2).trans hb;refine⟨(za w o1).trans (hb2.mono (by omega)),hb2.cell (by simp),hb2.frozen (by simp),?_⟩;have:=h.size;simp at this;omega
theorem uS(A:Option Addr)(n c:Nat)(P:List Nd)(w:World)(hn:n=P.length)(hc:n<=c)(hm:n<=maxLen)(hP:jk w A P)(hO:jZ P)(h:¬200<n)(he:zm P (n+1) 0=none):
 Calls Tryz.prog 57 #[.slice A n c] w λe w'=>e = .returned (zM (zc P))/\Below w.heap.size w w':=by
 have H:=O (show zc P=1 by unfold zc;rw [if_neg (by omega),<-hn,he];rfl);have C:=O (λW h1 h2=>i7 A P n c (w.heap.size+1) hn hc hm hO (λh0 a e=>by have:=hP.lt h0 a e;omega) (n+1) 0 W h1 h2 (by omega));rw [he] at C;unfold maxLen at hm;have HP:=O hP;have I6:∀(fn:Fn) (first cap:Array Value) (w:World),(Instr.makeFunc fn first cap).run Tryz.prog w = .ok (.func fn first cap) w:=λ_ _ _ _=>rfl;clear hn hP hO;go_enter_defers Tryz.func57,Tryz.ntmps57;go_wp2_with fail;refine(C.o _ ⟨by simp,by simp,by simp⟩ (HP.o.keep ((by(repeat' (first|exact Below.refl _ _|refine Below.alloc ?_ ?_ _|refine Below.setCell ?_ ?_ _|refine Below.drew ?_|refine Below.drewN ?_ _))<;>(try simp)<;> omega)))).mono ?_;rintro e w1 jS;obtain⟨rfl,g1⟩:=jS;obtain⟨b1,c1,f1,z1⟩:=eV _ _ g1;have c1':w1.cell? ⟨w.heap.size,0,none⟩=some .nilIface:=c1.trans (by simp);have f1':w1.frozen? ⟨w.heap.size,0,none⟩=false:=f1.trans (by simp);clear c1 f1 g1;go_wp2_with fail;refine leaves_cons (f:=79) (args:=#[.pointer (some ⟨w.heap.size,0,none⟩)]) (by simp) (by simp [go_sem]) ?_;refine(qL w.heap.size _ [] w1 c1' f1').mono ?_;rintro e u' w2 ⟨rfl,rfl,rfl⟩;have hl:w.heap.size<w1.heap.size:=by omega
 simp [Leaves,settle,results,Tryz.results57,go_sem,c1',hl];rw [H.o];exact⟨rfl,(b1.setCell (p:=⟨w.heap.size,0,none⟩) (Nat.le_refl _) _).alloc (by simp [World.setCell];omega) _⟩
theorem vM(A:Option Addr)(n c e:Nat)(P:List Nd)(w:World)(hn:n=P.length)(hc:n<=c)(hm:n<=maxLen)(hP:jk w A P)(hO:jZ P)(h:¬200<n)(he:zm P (n+1) 0=some e):
 Calls Tryz.prog 57 #[.slice A n c] w λe w'=>e = .returned (zM (zc P))/\Below w.heap.size w w':=by
 have C:=O (λW h1 h2=>i7 A P n c (w.heap.size+1) hn hc hm hO (λh0 a e=>by have:=hP.lt h0 a e;omega) (n+1) 0 W h1 h2 (by omega));rw [he] at C;have hle:=jH _ _ _ he;rw [<-hn] at hle;have H:=O (show zc P=if e<n then 1 else 0 by
  unfold zc;rw [if_neg (by omega),<-hn,he]
  by_cases q:e<n
  ·rw [if_pos q,if_neg (by intro z;injection z with z;omega)]
  ·rw [if_neg q,if_pos (by congr 1;omega)])
 unfold maxLen at hm;have HP:=O hP;have I6:∀(fn:Fn) (first cap:Array Value) (w:World),(Instr.makeFunc fn first cap).run Tryz.prog w = .ok (.func fn first cap) w:=λ_ _ _ _=>rfl;clear hn hP hO he;by_cases hen:e<n
 ·rw [if_pos hen] at H;go_enter_defers Tryz.func57,Tryz.ntmps57;go_wp2_with fail;refine(C.o _ ⟨by simp,by simp,by simp⟩ (HP.o.keep ((by(repeat' (first|exact Below.refl _ _|refine Below.alloc ?_ ?_ _|refine Below.setCell ?_ ?_ _|refine Below.drew ?_|refine Below.drewN ?_ _))<;>(try simp)<;> omega)))).mono ?_;rintro e w1 jS;obtain⟨rfl,r1,g1⟩:=jS;obtain⟨b1,c1,f1,z1⟩:=eV _ _ g1;have c1':w1.cell? ⟨w.heap.size,0,none⟩=some .nilIface:=c1.trans (by simp);have f1':w1.frozen? ⟨w.heap.size,0,none⟩=false:=f1.trans (by simp);have r2:=r1.c1;clear c1 f1 g1 r1;go_wp2_with fail;refine leaves_cons (f:=79) (args:=#[.pointer (some ⟨w.heap.size,0,none⟩)]) (by simp) (by simp [go_sem]) ?_;refine(ny ⟨w.heap.size,0,none⟩ _).mono ?_;rintro e u' w2 ⟨rfl,rfl,rfl⟩;simp [Leaves,settle,results,Tryz.results57,go_sem,c1'];rw [H.o];exact⟨rfl,b1.setCell (p:=⟨w.heap.size,0,none⟩) (Nat.le_refl _) _⟩
 ·rw [if_neg hen] at H;obtain rfl:e=n:=by omega
  go_enter_defers Tryz.func57,Tryz.ntmps57;go_wp2_with fail;refine(C.o _ ⟨by simp,by simp,by simp⟩ (HP.o.keep ((by(repeat' (first|exact Below.refl _ _|refine Below.alloc ?_ ?_ _|refine Below.setCell ?_ ?_ _|refine Below.drew ?_|refine Below.drewN ?_ _))<;>(try simp)<;> omega)))).mono ?_;rintro e w1 jS;obtain⟨rfl,r1,g1⟩:=jS;obtain⟨b1,c1,f1,z1⟩:=eV _ _ g1;have c1':w1.cell? ⟨w.heap.size,0,none⟩=some .nilIface:=c1.trans (by simp);have f1':w1.frozen? ⟨w.heap.size,0,none⟩=false:=f1.trans (by simp);have r2:=r1.c1;clear c1 f1 g1 r1;go_wp2_with fail;refine leaves_cons (f:=79) (args:=#[.pointer (some ⟨w.heap.size,0,none⟩)]) (by simp) (by simp [go_sem]) ?_;refine(ny ⟨w.heap.size,0,none⟩ _).mono ?_;rintro e u' w2 ⟨rfl,rfl,rfl⟩;simp [Leaves,settle,results,Tryz.results57,go_sem,c1'];rw [H.o];exact⟨rfl,b1.setCell (p:=⟨w.heap.size,0,none⟩) (Nat.le_refl _) _⟩
theorem yx(A:Option Addr)(n c:Nat)(P:List Nd)(w:World)(hn:n=P.length)(hc:n<=c)(hm:n<=maxLen)(hP:jk w A P)(hO:jZ P):
 Calls Tryz.prog 57 #[.slice A n c] w λe w'=>e = .returned (zM (zc P))/\Below w.heap.size w w':=by
 by_cases h:200<n
 ·exact vC A n c P w hn hm h
 ·rcases he:zm P (n+1) 0 with _|e
  ·exact uS A n c P w hn hc hm hP hO h he
  ·exact vM A n c e P w hn hc hm hP hO h he
end Go.Proofs.YthidiimbeaabhaaGreatDoor
namespace Go.Wk
end Go.Wk
namespace Go.Proofs.YthidiimbeaabhaaGreatDoor
open Go.RowKit Go.Wk Go.Sort
theorem mL{x y:Nd}(h:x=y):gW x y=0:=(gx.zero x y).2 h
theorem wF{x y:Nd}(h:x≠y)(w:World):(binOp .neq 47 (.agg #[.int .i64 x.op,.int .i64 x.n,.string x.s,.string x.t]) (.agg #[.int .i64 y.op,.int .i64 y.n,.string y.s,.string y.t])).run Tryz.prog w = .ok (.bool true) w:=by
 simp [go_sem];exact λh1 h2 h3 h4=>h (Nd.ext4 h1 h2 (toList_inj h3) (toList_inj h4))
theorem dt{P Q:List Nd}{k:Nat}(h1:k<P.length)(h2:k<Q.length)(h:P[k]≠Q[k])(hc:zx P Q=zx (P.drop k) (Q.drop k)):zx P Q≠0:=by
 rw [hc,dl h1 h2,zG (λe=>h ((gx.zero _ _).1 e))];exact λe=>h ((gx.zero _ _).1 e)
theorem vu(A B:Option Addr)(n m c d:Nat)(P Q:List Nd)(w:World)(hn:n=P.length)(hm:m=Q.length)(uJ:n<=maxLen)(wM:m<=maxLen)(hP:jk w A P)(hQ:jk w B Q):
 Calls Tryz.prog 11 #[.slice A n c,.slice B m d] w λe w'=>e = .returned (.bool (decide (zx P Q=0)))/\Below w.heap.size w w':=by
 unfold maxLen at uJ wM;have HN:=O hn;have HM:=O hm;have HP:=O hP;have HQ:=O hQ;clear hn hm hP hQ;by_cases hl:n=m
 ·subst hl;go_enter Tryz.func11,Tryz.ntmps11;go_wp2_with fail;go_loopw [5] (λi wr=>∃k:Nat,k<=n/\i = .int .i64 k/\Hid (zx P Q=zx (P.drop k) (Q.drop k))/\Hid (Below w.heap.size w wr)) (λi _=>n-(intOf i).toNat)
  case atStart=>exact⟨0,Nat.zero_le _,rfl,rfl,Below.refl _ _⟩
  case round =>
   obtain⟨k,hk,rfl,hE,hB⟩:=hrel;by_cases hlt:k<n
   ·have h1:k<P.length:=by rw [<-HN.o];exact hlt
    have h2:k<Q.length:=by rw [<-HM.o];exact hlt
    obtain⟨a,rfl,a1,a2,a3,a4⟩:=(HP.o.keep hB.o) k P[k] (List.getElem?_eq_getElem h1);obtain⟨b,rfl,b1,b2,b3,b4⟩:=(HQ.o.keep hB.o) k Q[k] (List.getElem?_eq_getElem h2);by_cases he:P[k]=Q[k]
    ·have HE:=O (hE.o.trans ((dl h1 h2).trans (by rw [mL he,zn])));rw [he] at a1 a2 a3 a4;generalize Q[k]=y at *;clear he hE;go_wp2_with fail;go_quiet (fail);go_wp2_with fail;go_roundw
     case rel=>exact⟨k+1,by omega,by go_num,HE,hB.o.drewN _⟩
     case measure=>simp [intOf];omega
    ·have HE:=O (dt h1 h2 he hE.o);have hne:=λw=>wF he w;generalize P[k]=x at *;generalize Q[k]=y at *;clear he hE;go_wp2_with fail;go_quiet (fail);go_wp2_with fail;go_ret;exact⟨zC (decide_eq_false HE.o).symm,hB.o.drewN _⟩
   ·have HE:=O (hE.o.trans (cP (by rw [<-HN.o];omega) (by rw [<-HM.o];omega)));clear hE;go_wp2_with fail;go_ret;exact⟨zC (decide_eq_true HE.o).symm,hB.o⟩
 ·have HE:=O (show zx P Q≠0 from λh=>hl (by rw [HN.o,HM.o,(zO.zero _ _).1 h]));have h3:(n != m)=true:=by rw [bne_iff_ne];exact hl
  clear hl;go_enter Tryz.func11,Tryz.ntmps11;go_wp2_with fail;go_ret;exact⟨zC (decide_eq_false HE.o).symm,Below.refl _ _⟩
def zH:List Nd->List Value
 | [] => []
 | x :: r => .int .i64 x.op :: .int .i64 x.n :: .string x.s :: .string x.t :: zH r
theorem bi(P Q:List Nd):zH (P ++ Q)=zH P ++ zH Q:=by
 induction P with
 | nil=>rfl
 | cons x P ih=>simp [zH,ih]
theorem az(P:List Nd):(zH P).length=P.length*4:=by
 induction P with
 | nil=>rfl
 | cons x P ih=>simp only [zH,List.length_cons,ih];omega
theorem mB(P:List Nd)(k:Nat)(x:Nd)(h:P[k]?=some x):(zH P)[k*4]?=some (.int .i64 x.op)/\(zH P)[k*4+1]?=some (.int .i64 x.n)/\(zH P)[k*4+2]?=some (.string x.s)/\(zH P)[k*4+3]?=some (.string x.t):=by
 induction P generalizing k with
 | nil=>simp at h
 | cons y P ih =>
  cases k with
  | zero=>simp only [List.getElem?_cons_zero,Option.some.injEq] at h;subst h;exact⟨rfl,rfl,rfl,rfl⟩
  | succ k =>
   have:=ih k (by simpa using h)
   rw [show(k+1)*4=k*4+1+1+1+1 by omega]
   simp only [zH,List.getElem?_cons_succ]
   exact this
theorem ei(g o k:Nat):(⟨g,o,none⟩:Addr).add k=⟨g,o+k,none⟩:=by
 unfold Addr.add;split
 ·rename_i h0;subst h0;rfl
 ·simp
theorem i9{w:World}{b o:Nat}{P:List Nd}(h:∀(j:Nat) u,(zH P)[j]?=some u->w.cell? ((⟨b,o,none⟩:Addr).add j)=some u):jk w (some ⟨b,o,none⟩) P:=by
 intro k x hx;obtain⟨h1,h2,h3,h4⟩:=mB P k x hx;have g1:=h _ _ h1;have g2:=h _ _ h2;have g3:=h _ _ h3;have g4:=h _ _ h4;simp only [ei] at g1 g2 g3 g4;exact⟨_,rfl,by simp only [ei];exact g1,by simp only [ei];exact g2,by simp only [ei];exact g3,by simp only [ei];exact g4⟩
theorem xg(w:World)(P:List Nd)(t:TypeId):jk (w.alloc (.cells (zH P).toArray t)) (some ⟨w.heap.size,0,none⟩) P:=i9 (bW w _ t)
theorem rq{P:Program}{f:FuncId}{args:Array Value}{w:World}{v:Value}(h:∀w',Below w.heap.size w w'->Calls P f args w' λe w''=>e = .returned v/\Below w'.heap.size w' w''):
 ∀d os,Calls P f args (grow (redrawn w d) os) λe w''=>e = .returned v/\∃p:Regrown,w''=grow (redrawn w p.d) p.os :=
 λd os=>Calls.regrown_of (h _ (below_regrown w d os))
structure Nd4(w:World)(a:Addr)(x:Nd):Prop where
 c0:w.cell? a=some (.int .i64 x.op)
 c1:w.cell? ⟨a.block,a.off+1,none⟩=some (.int .i64 x.n)
 c2:w.cell? ⟨a.block,a.off+2,none⟩=some (.string x.s)
 c3:w.cell? ⟨a.block,a.off+3,none⟩=some (.string x.t)
theorem Nd4.keep{w w':World}{a:Addr}{x:Nd}(h:Nd4 w a x)(hb:Below w.heap.size w w'):Nd4 w' a x :=
 ⟨zb hb h.c0,zb hb h.c1,zb hb h.c2,zb hb h.c3⟩
theorem jk.nd{w:World}{A:Option Addr}{P:List Nd}(h:jk w A P){k:Nat}(hk:k<P.length):∃a,A=some a/\Nd4 w (a.add (k*4)) P[k] :=
 let ⟨a,e,h1,h2,h3,h4⟩:=h k P[k] (List.getElem?_eq_getElem hk);⟨a,e,h1,h2,h3,h4⟩
theorem jZ.seg{P:List Nd}(h:jZ P)(i j:Nat):jZ (seg P i j):=λx hx=>h x (List.mem_of_mem_drop (List.mem_of_mem_take hx))
theorem CM(w:World)(cs:Array Value)(t:TypeId)(j:Nat){v:Value}(h:cs[j]?=some v):(w.alloc (.cells cs t)).cell? ⟨w.heap.size,j,none⟩=some v:=by
 rw [World.cell?_alloc_at _ _ _ _ rfl];exact h
end Go.Proofs.YthidiimbeaabhaaGreatDoor
namespace Go.Wk
open Go.ChangeShapes Go.WideShapes Go.RowKit
def Rd(P:Program)(w:World)(t:TypeId)(cs:List Value):Prop :=
 ∃(H:Type) (enc:TypeId × Value->H) (base:Nat) (sp:Nat->Bool) (held:Bool) (fuel:Nat) (x:DataW H × List MemPlace),DataW.trod enc P w base sp held fuel t cs=some x
section
variable {P:Program} {w:World} {t:TypeId} {cs:List Value}
theorem eU{H:Type}{enc:TypeId × Value->H}{b:Nat}{sp:Nat->Bool}{hd:Bool}{v:Value}{d:DataW H}{ps:List MemPlace}(h:DataW.Trod enc P w b sp hd t v d ps):Rd P w t v.cells.toList :=
 let ⟨f,hf⟩:=h;⟨H,enc,b,sp,hd,f,_,hf⟩
theorem dm(ht:P.underlying t=some .string)(h:Rd P w t cs):∃s:ByteArray,cs = [.string s]/\s.size<=maxLen:=by
 obtain⟨H,enc,b,sp,hd,f,x,hx⟩:=h;obtain⟨s,h1,_,h2⟩:=DataW.trod_string ht hx;exact⟨s,h1,h2⟩
theorem Ib{k:IntKind}(ht:P.underlying t=some (.int k))(h:Rd P w t cs):∃n:Int,cs = [.int k n]/\(Lit.int k n).wf=true:=by
 obtain⟨H,enc,b,sp,hd,f,x,hx⟩:=h;obtain⟨s,h1,_,h2⟩:=DataW.trod_int ht hx;exact⟨s,h1,h2⟩
theorem vY(ht:P.underlying t=some (.int .i64))(h:Rd P w t cs):∃n:Int,cs = [.int .i64 n]/\-9223372036854775808<=n/\n<=9223372036854775807:=by
 obtain⟨n,h1,h2⟩:=Ib ht h;refine⟨n,h1,?_⟩;simpa [Lit.wf,IntKind.min,IntKind.max,IntKind.bits,IntKind.signed] using h2
theorem bV{fs:Array Field}(ht:P.underlying t=some (.struct fs))(h:Rd P w t cs):
 cs.length=P.cellsOf t/\∀(i:Nat) (f:Field),fs[i]?=some f->Rd P w f.type ((cs.drop f.offset).take (P.cellsOf f.type)):=by
 obtain⟨H,enc,b,sp,hd,f,x,hx⟩:=h;obtain⟨xs,n,_,_,h1,h2,h3⟩:=DataW.trod_struct ht hx;refine⟨h1,λi f hf=>?_⟩;have hi:i<xs.length:=by rw [h2];exact(Array.getElem?_eq_some_iff.1 hf).1
 exact⟨H,enc,b,sp,hd,n,xs[i],(h3 i f hf).trans (List.getElem?_eq_getElem hi)⟩
theorem jd{fs:Array Field}(ht:P.underlying t=some (.struct fs))(h:Rd P w t cs)(i T o n:Nat)(hf:(fs[i]?).map (λf=>(f.type,f.offset))=some (T,o))(hn:P.cellsOf T=n):
 Rd P w T ((cs.drop o).take n):=by
 rcases hi:fs[i]? with _|f
 ·rw [hi] at hf;cases hf
 ·rw [hi] at hf;simp only [Option.map_some,Option.some.injEq,Prod.mk.injEq] at hf;obtain⟨rfl,rfl⟩:=hf;subst hn;exact(bV ht h).2 i f hi
end
end Go.Wk
namespace Go.Proofs.YthidiimbeaabhaaGreatDoor
open Go.Wk Go.ChangeShapes Go.WideShapes Go.RowKit
theorem bo:Tryz.prog.cellsOf 24=2:=by kernel_rfl
theorem aK:Tryz.prog.cellsOf 9=1:=by kernel_rfl
theorem iz{w:World}{cs:List Value}(h:Rd Tryz.prog w 24 cs):∃a b:ByteArray,cs = [.string a,.string b]/\a.size<=maxLen/\b.size<=maxLen:=by
 have hl:=(bV Tryz.underlying24 h).1;rw [bo] at hl
 match cs,hl with
 | [c0,c1],_ =>
  have h0:Rd Tryz.prog w 9 [c0]:=jd Tryz.underlying24 h 0 9 0 1 rfl aK
  have h1:Rd Tryz.prog w 9 [c1]:=jd Tryz.underlying24 h 1 9 1 1 rfl aK
  obtain⟨a,e0,s0⟩:=dm Tryz.underlying9 h0
  obtain⟨b,e1,s1⟩:=dm Tryz.underlying9 h1
  simp only [List.cons.injEq,and_true] at e0 e1
  exact⟨a,b,by rw [e0,e1],s0,s1⟩
theorem uh{H:Type}{enc:TypeId × Value->H}{w:World}{b b0:Nat}{sp:Nat->Bool}{hd:Bool}{v:Value}{d:DataW H}{ps:List MemPlace}{r:Reach}
 (hv:Value.okWide Tryz.prog w r b0 24 v) (h:DataW.Trod enc Tryz.prog w b sp hd 24 v d ps):
 ∃s t:ByteArray,v = .agg #[.string s,.string t]/\s.size<=maxLen/\t.size<=maxLen:=by
 obtain⟨cs,rfl,_⟩:=okWide_struct Tryz.underlying24 hv;obtain⟨s,t,e,h1,h2⟩:=iz (eU h);refine⟨s,t,?_,h1,h2⟩;obtain⟨l⟩:=cs;simp only [Value.cells] at e;rw [e]
end Go.Proofs.YthidiimbeaabhaaGreatDoor
namespace Go.Wk
open Go.ChangeShapes Go.WideShapes Go.RowKit Go.Deep
section
variable {P:Program} {w:World} {t:TypeId} {cs:List Value}
theorem l7{α:Type}(n:Nat)(R:Nat->α->Prop)(h:∀i,i<n->∃x,R i x):∃l:List α,l.length=n/\∀k x,l[k]?=some x->R k x:=by
 induction n with
 | zero=>exact⟨[],rfl,λk x hx=>by simp at hx⟩
 | succ n ih =>
  obtain⟨l,hl,hr⟩:=ih (λi hi=>h i (by omega))
  obtain⟨y,hy⟩:=h n (by omega)
  refine⟨l ++ [y],by simp [hl],λk x hx=>?_⟩
  by_cases hk:k<n
  ·rw [List.getElem?_append_left (by omega)] at hx;exact hr k x hx
  ·rw [List.getElem?_append_right (by omega)] at hx
   by_cases hk2:k=n
   ·subst hk2;rw [hl,Nat.sub_self] at hx;simp only [List.getElem?_cons_zero,Option.some.injEq] at hx;subst hx;exact hy
   ·have:k-l.length≠0:=by omega
    obtain⟨j,hj⟩:∃j,k-l.length=j+1:=⟨k-l.length-1,by omega⟩
    rw [hj] at hx;simp at hx
theorem kb{e:TypeId}(ht:P.underlying t=some (.slice e))(h:Rd P w t cs):
 ∃(A:Option Addr) (n c:Nat),cs = [.slice A n c]/\n<=c/\c<=maxLen/\∀i,i<n->∃a,A=some a/\∃cs':List Value,cs'.length=P.cellsOf e/\(∀j,j<P.cellsOf e->w.cell? (a.add (i*P.cellsOf e+j))=cs'[j]?)/\Rd P w e cs':=by
 obtain⟨H,enc,b,sp,hd,f,x,hx⟩:=h;rcases open_slice ht hx with ⟨h0,_⟩|⟨a,len,cap,m,n,D,Pl,hcs,hb,hl,hm,Hf,hx,hi⟩
 ·exact⟨none,0,0,h0,Nat.le_refl _,by unfold maxLen;omega,λi hi=>by omega⟩
 ·refine⟨some a,len,cap,hcs,hl,hm,λi hil=>⟨a,rfl,?_⟩⟩;obtain⟨cs',hc,LN⟩:=hi i (by rw [Hf];split <;> omega);obtain⟨_,kW,hat⟩:=World.cells?_some hc;refine⟨cs',kW,λj hj=>?_,⟨H,enc,b,sp,hd,n,_,LN⟩⟩;have:=hat j hj;rw [<-Go.Deep.add_add];exact this
end
end Go.Wk
namespace Go.Proofs.YthidiimbeaabhaaGreatDoor
open Go.Wk Go.ChangeShapes Go.WideShapes Go.RowKit
structure Ns(w:World)(A:Option Addr)(n c:Nat)(P:List Nd):Prop where
 len:n=P.length
 cap:n<=c
 max:n<=maxLen
 at_:jk w A P
 ok:jZ P
theorem Ns.keep{w w':World}{A:Option Addr}{n c:Nat}{P:List Nd}(h:Ns w A n c P)(hb:Below w.heap.size w w'):Ns w' A n c P:=⟨h.len,h.cap,h.max,h.at_.keep hb,h.ok⟩
theorem Ns.same{w:World}{A B:Option Addr}{n c m d:Nat}{P Q:List Nd}(h:Ns w A n c P)(k:Ns w B m d Q):
 Calls Tryz.prog 11 #[.slice A n c,.slice B m d] w λe w'=>e = .returned (.bool (decide (zx P Q=0)))/\Below w.heap.size w w' :=
 vu A B n m c d P Q w h.len k.len h.max k.max h.at_ k.at_
theorem nL:Tryz.prog.cellsOf 47=4:=by kernel_rfl
theorem kO:Tryz.prog.cellsOf 3=1:=by kernel_rfl
theorem EJ{w:World}{cs:List Value}(h:Rd Tryz.prog w 47 cs):∃x:Nd,cs = [.int .i64 x.op,.int .i64 x.n,.string x.s,.string x.t]/\fC x:=by
 have hl:=(bV Tryz.underlying47 h).1;rw [nL] at hl
 match cs,hl with
 | [c0,c1,c2,c3],_ =>
  have h0:Rd Tryz.prog w 3 [c0]:=jd Tryz.underlying47 h 0 3 0 1 rfl kO
  have h1:Rd Tryz.prog w 3 [c1]:=jd Tryz.underlying47 h 1 3 1 1 rfl kO
  have h2:Rd Tryz.prog w 9 [c2]:=jd Tryz.underlying47 h 2 9 2 1 rfl aK
  have h3:Rd Tryz.prog w 9 [c3]:=jd Tryz.underlying47 h 3 9 3 1 rfl aK
  obtain⟨o,e0,o1,o2⟩:=vY Tryz.underlying3 h0
  obtain⟨n,e1,n1,n2⟩:=vY Tryz.underlying3 h1
  obtain⟨a,e2,s2⟩:=dm Tryz.underlying9 h2
  obtain⟨b,e3,s3⟩:=dm Tryz.underlying9 h3
  simp only [List.cons.injEq,and_true] at e0 e1 e2 e3
  exact⟨⟨o,n,a,b⟩,by rw [e0,e1,e2,e3],s2,s3,n1,n2⟩
theorem mZ{w:World}{cs:List Value}(h:Rd Tryz.prog w 30 cs):
 ∃(A:Option Addr) (n c:Nat) (P:List Nd),cs = [.slice A n c]/\n=P.length/\n<=c/\n<=maxLen/\jk w A P/\jZ P:=by
 obtain⟨A,n,c,rfl,h1,h2,h3⟩:=kb Tryz.underlying30 h;rw [nL] at h3;obtain⟨P,hl,hr⟩:=l7 n (λk x=>(∃a,A=some a/\w.cell? (a.add (k*4))=some (.int .i64 x.op)/\w.cell? (a.add (k*4+1))=some (.int .i64 x.n)/\w.cell? (a.add (k*4+2))=some (.string x.s)/\w.cell? (a.add (k*4+3))=some (.string x.t))/\fC x) (λi hi=>by
  obtain⟨a,rfl,cs',hl,hc,hr⟩:=h3 i hi
  obtain⟨x,rfl,hx⟩:=EJ hr
  exact⟨x,⟨a,rfl,hc 0 (by omega),hc 1 (by omega),hc 2 (by omega),hc 3 (by omega)⟩,hx⟩)
 refine⟨A,n,c,P,rfl,hl.symm,h1,by omega,λk x hx=>?_,λx hx=>?_⟩
 ·obtain⟨⟨a,e,q1,q2,q3,q4⟩,-⟩:=hr k x hx;refine⟨a,e,q1,?_,?_,?_⟩
  all_goals
   rw [<-add_add] at q2 q3 q4;unfold Addr.add at q2 q3 q4 ⊢
   first|(simpa using q2)|(simpa using q3)|(simpa using q4)
 ·obtain⟨k,hk,rfl⟩:=List.getElem_of_mem hx;exact(hr k _ (List.getElem?_eq_getElem hk)).2
end Go.Proofs.YthidiimbeaabhaaGreatDoor
namespace Go.Proofs.YthidiimbeaabhaaGreatDoor
open Go.RowKit
theorem iR(w:World):(callFunc 206 #[]).run Tryz.prog w = .ok (.value (.tuple #[])) w:=run_call_mark0 Tryz.func206 (by kernel_rfl) (by kernel_rfl) (by kernel_rfl) .disable (by kernel_rfl) w
theorem lj(w:World):(callFunc 208 #[]).run Tryz.prog w = .ok (.value (.tuple #[])) w:=run_call_mark0 Tryz.func208 (by kernel_rfl) (by kernel_rfl) (by kernel_rfl) .enable (by kernel_rfl) w
theorem rE(a:Addr)(w:World):(callFunc 209 #[.pointer (some a)]).run Tryz.prog w = .ok (.value (.tuple #[])) w:=run_call_marked Tryz.func209 (by kernel_rfl) (by kernel_rfl) (by kernel_rfl) .acquire (by kernel_rfl) a w
theorem ku(a:Addr)(w:World):(callFunc 211 #[.pointer (some a)]).run Tryz.prog w = .ok (.value (.tuple #[])) w:=run_call_marked Tryz.func211 (by kernel_rfl) (by kernel_rfl) (by kernel_rfl) .releaseMerge (by kernel_rfl) a w
theorem nU(a:Addr)(x:Value)(u:FrameMode)(w:World)(hc:w.cell? a=some x)(hz:w.frozen? a=false):
 CallsD Tryz.prog 184 #[.pointer (some a),.bool true] u w λe u' w'=>u'=u/\(e = .returned (.tuple #[])/\w'=w.drew.setCell a (.int .u32 1)):=by
 have hc':w.drew.cell? a=some x:=by go_simp
 have hz':w.drew.frozen? a=false:=by go_simp
 have hst:=run_call_store (P:=Tryz.prog) Tryz.func193 (by kernel_rfl) (by kernel_rfl) (by kernel_rfl) (by kernel_rfl) (k := .u32) (y:=1) hc' hz';go_enter_d Tryz.func184,Tryz.ntmps184;go_wp2;go_region_calls
 all_goals (go_end0;exact⟨rfl,rfl⟩)
theorem lN(a:Addr)(u:FrameMode)(w:World)(hc:w.cell? a=some (.int .i32 1))(hz:w.frozen? a=false):
 CallsD Tryz.prog 183 #[.pointer (some a)] u w λe u' w'=>u'=u/\(e = .returned (.tuple #[])/\w'=w.setCell a (.int .i32 0)):=by
 have hd:=iR;have he:=lj;have hr:=ku;have hadd:=run_call_add (P:=Tryz.prog) Tryz.func212 (by kernel_rfl) (by kernel_rfl) (by kernel_rfl) .i32 (by kernel_rfl) (y := -1) (s:=0) hc hz (by simp [go_sem];rfl);have hcv:=run_convert_to_unsafe (P:=Tryz.prog) (src:=326) (dst:=235) Tryz.underlying326 Tryz.underlying235 (by kernel_rfl) hc;go_enter_d Tryz.func183,Tryz.ntmps183;go_wp2;go_end0;go_wp2;go_end0;exact⟨rfl,rfl⟩
theorem yz(a:Addr)(w:World)(hc:w.cell? a=some (.int .i32 0))(hz:w.frozen? a=false):
 Calls Tryz.prog 182 #[.pointer (some a)] w λe w'=>e = .returned (.tuple #[])/\w'=w.setCell a (.int .i32 1):=by
 have hd:=iR;have he:=lj;have ha:=rE;have hcas:=run_call_cas_hit (P:=Tryz.prog) Tryz.func207 (by kernel_rfl) (by kernel_rfl) (by kernel_rfl) .i32 (by kernel_rfl) (y:=1) hc hz;have hc':(w.setCell a (.int .i32 1)).cell? a=some (.int .i32 1):=World.cell?_setCell_same w a _ hc;have hcv:=run_convert_to_unsafe (P:=Tryz.prog) (src:=326) (dst:=235) Tryz.underlying326 Tryz.underlying235 (by kernel_rfl) hc';go_enter Tryz.func182,Tryz.ntmps182;go_wp2
 first|go_end0|(simp only [Exit.inBlock,Exit.then];refine bodyPost_ret (results_none rfl _ _ _) rfl ?_)|refine bodyPost_ret (results_none rfl _ _ _) rfl ?_
 go_wp2;go_end0;exact⟨rfl,rfl⟩
end Go.Proofs.YthidiimbeaabhaaGreatDoor
