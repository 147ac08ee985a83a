/-
  val.Check: nodes that are a value. val.first, val.Compare. What slices that ..
-/
import Derived.Deep.Slices
import Derived.Deep.WholeRow
import Derived.Test.YthifljpkgfpkiaaGreatDoorQ3
import Derived.Test.YthifljpkgfpkiaaGreatDoorQ19
set_option maxRecDepth 100000
set_option maxHeartbeats 4000000
namespace Go.Proofs.YthifljpkgfpkiaaGreatDoor
open Go.RowKit Go.Wk Go.Sort
theorem F9(a:Addr)(P:List Nd)(n c p R:Nat)(w:World)(hr:dB w R (.slice (some a) n c) p)(hn:n=P.length)(hm:n<=maxLen)(hp:p<n)(hP:jL w (some a) P)(hO:bi P)(hs:zC (P[p]'(by omega))=true)
 (h7:(P[p]'(by omega)).op=7):
 Calls Tryz.prog 69 #[.pointer (some ⟨R,0,none⟩)] w (fH R (some a) n c p w none):=by
 unfold maxLen at hm;have HR:=O hr;have HS:=O (λw1 (hb:Below w.heap.size w w1) o=>sG hr hb o);obtain⟨c0,c1,f1⟩:=hr;have iV:p<P.length:=by omega
 obtain⟨b,hb0,q1,q2,q3,q4⟩:=hP p P[p] (List.getElem?_eq_getElem iV);injection hb0 with hb0;subst hb0;have S:=O (λw=>eB P[p] w (hO.at iV).s (hO.at iV).t);rw [hs] at S;unfold ndV at S;rw [h7] at q1 S;generalize P[p]=x at *;clear hO hP hn h7;go_enter Tryz.func69,Tryz.ntmps69;go_wp2_with fail;refine(S.o _).mono ?_;rintro e w1 ⟨rfl,hb⟩;replace c0:=zb hb c0;replace c1:=zb hb c1;replace q1:=zb hb q1;replace q2:=zb hb q2;replace q3:=zb hb q3;replace q4:=zb hb q4;have f1':=(hb.frozen (p:=⟨R,1,none⟩) HR.o.lt).trans f1;clear f1;have hR:=Nat.lt_of_lt_of_le HR.o.lt hb.size;have HB:=O hb;clear hb;go_wp2_with fail;exact⟨rfl,rfl,(HS.o _ HB.o _).2⟩
theorem pD(A:Option Addr)(P:List Nd)(n c R:Nat)(hn:n=P.length)(hc:n<=c)(hm:n<=maxLen)(hO:bi P)(hR:0<P.length->∀a,A=some a->a.block≠R)(m:Nat):Pi P A n c R m:=by
 induction m with
 | zero=>intro q w _ _ h;omega
 | succ m ih =>
  intro p w hr hP hf
  by_cases hp:p<n
  ·have iV:p<P.length:=by omega
   obtain⟨a,rfl,-⟩:=hP p P[p] (List.getElem?_eq_getElem iV);have e:zq P (m+1) p=if zC P[p] then(if P[p].op=5 then jb P (zq P m) P[p].n.toNat none (p+1) else if P[p].op=6 then ja P (zq P m) P[p].n.toNat .empty (p+1) else if P[p].op=7 then none else some (p+1)) else none:=by
    simp only [zq,List.getElem?_eq_getElem iV]
   rw [e];by_cases hs:zC P[p]=true
   ·rw [if_pos hs];by_cases h5:P[p].op=5
    ·rw [if_pos h5];exact Oa a P n c p R m w hr hn hc hm hp hP hO hs h5 (hR (by omega) a rfl) ih hf
    rw [if_neg h5];by_cases h6:P[p].op=6
    ·rw [if_pos h6];exact PK a P n c p R m w hr hn hc hm hp hP hO hs h6 (hR (by omega) a rfl) ih hf
    rw [if_neg h6];by_cases h7:P[p].op=7
    ·rw [if_pos h7];exact F9 a P n c p R w hr hn hm hp hP hO hs h7
    rw [if_neg h7];exact JQ a P n c p R w hr hn hc hm hp hP hO hs (beq_eq_false_iff_ne.2 h5) (beq_eq_false_iff_ne.2 h6) (beq_eq_false_iff_ne.2 h7)
   ·rw [if_neg hs];exact Nt a P n c p R w hr hn hp hP hO (by simpa using hs)
  ·have e:zq P (m+1) p=none:=by
    simp only [zq,List.getElem?_eq_none (by omega:P.length<=p)]
   rw [e];exact QA A n c p R w hr (by omega)
theorem sW(p:Addr)(w:World):
 CallsD Tryz.prog 68 #[.pointer (some p)] .returning w λe u' w'=>e = .returned (.tuple #[])/\u' = .returning/\w'=w:=by
 refine callsD_of_wpS Tryz.func68 rfl λc₀ cs hu=>?_;apply wpS_seq;apply wpS_region;simp [wpOpsS,go_sem,recoverD,hu,Tryz.ntmps68,Exit.thenS];refine wpS_of_wp ?_;go_wp2_with fail;cases c₀;simp_all [bodyPostS,results,Tryz.results68]
theorem Bo(E:Nat)(v:Value)(older:List PanicEntry)(w:World)(hc:w.cell? ⟨E,0,none⟩=some v)(hz:w.frozen? ⟨E,0,none⟩=false):
 CallsD Tryz.prog 68 #[.pointer (some ⟨E,0,none⟩)] (.panicking ({ v := .iface 137 (.agg #[]),recovered:=false } :: older)) w λe u' w' =>
  e = .returned (.tuple #[])/\u' = .panicking ({ v := .iface 137 (.agg #[]),recovered:=true } :: older)/\w'=(w.setCell ⟨E,0,none⟩ (.iface 41 (.int .i64 1))).alloc (.cells #[] 137):=by
 have hl:E<w.heap.size:=block_lt_of_cell hc;have Z7:∀w,(Instr.typeAssert (.iface 137 (.agg #[])) 20 137 true).run Tryz.prog w = .ok (.tuple #[.agg #[],.bool true]) w:=λ_=>by kernel_rfl
 refine callsD_of_wpS Tryz.func68 rfl λc₀ cs hu=>?_;apply wpS_seq;apply wpS_region;simp [wpOpsS,go_sem,recoverD,hu,Tryz.ntmps68];refine wpS_of_wp ?_;go_wp2_with fail;cases c₀;simp [bodyPostS,results,Tryz.results68]
theorem GR(A:Option Addr)(n c:Nat)(P:List Nd)(w:World)(hn:n=P.length)(hm:n<=maxLen)(h:200<n):
 Calls Tryz.prog 29 #[.slice A n c] w λe w'=>e = .returned (je (zh P))/\Below w.heap.size w w':=by
 have H:=O (show zh P=4 by unfold zh;rw [if_pos (by omega)]);unfold maxLen at hm;clear hn;go_enter_defers Tryz.func29,Tryz.ntmps29;go_wp2_with fail;simp [bodyPostD,Leaves,results,Tryz.results29,go_sem];rw [H.o];exact⟨rfl,za _ _⟩
theorem jL.lt{w:World}{A:Option Addr}{P:List Nd}(h:jL w A P)(h0:0<P.length)(a:Addr)(e:A=some a):a.block<w.heap.size:=by
 obtain⟨b,hb,q,-⟩:=h 0 P[0] (List.getElem?_eq_getElem h0);rw [e] at hb;injection hb with hb;subst hb;have:=block_lt_of_cell q;rw [ax] at this;exact this
theorem kw{w w1:World}(o1 o2:Obj)(h:((w.alloc o1).alloc o2).grownBy w1 (some (w.heap.size+1))):
 Below w.heap.size w w1/\w1.cell? ⟨w.heap.size,0,none⟩=(w.alloc o1).cell? ⟨w.heap.size,0,none⟩/\w1.frozen? ⟨w.heap.size,0,none⟩=(w.alloc o1).frozen? ⟨w.heap.size,0,none⟩/\w.heap.size+2<=w1.heap.size:=by
 have hb:Below (w.heap.size+1) ((w.alloc o1).alloc o2) w1:=jE h (Nat.le_refl _) (by simp);have hb2:Below (w.heap.size+1) (w.alloc o1) w1:=((Below.refl _ _).alloc (by simp) o2).trans hb;refine⟨(za w o1).trans (hb2.mono (by omega)),hb2.cell (by simp),hb2.frozen (by simp),?_⟩;have:=h.size;simp at this;omega
theorem He(A:Option Addr)(n c:Nat)(P:List Nd)(w:World)(hn:n=P.length)(hc:n<=c)(hm:n<=maxLen)(hP:jL w A P)(hO:bi P)(h:¬200<n)(he:zq P (n+1) 0=none):
 Calls Tryz.prog 29 #[.slice A n c] w λe w'=>e = .returned (je (zh P))/\Below w.heap.size w w':=by
 have H:=O (show zh P=1 by unfold zh;rw [if_neg (by omega),<-hn,he];rfl);have C:=O (λW h1 h2=>pD A P n c (w.heap.size+1) hn hc hm hO (λh0 a e=>by have:=hP.lt h0 a e;omega) (n+1) 0 W h1 h2 (by omega));rw [he] at C;unfold maxLen at hm;have HP:=O hP;have hmf:∀(fn:Fn) (first cap:Array Value) (w:World),(Instr.makeFunc fn first cap).run Tryz.prog w = .ok (.func fn first cap) w:=λ_ _ _ _=>rfl;clear hn hP hO;go_enter_defers Tryz.func29,Tryz.ntmps29;go_wp2_with fail;refine(C.o _ ⟨by simp,by simp,by simp⟩ (HP.o.keep ((by(repeat' (first|exact Below.refl _ _|refine Below.alloc ?_ ?_ _|refine Below.setCell ?_ ?_ _|refine Below.drew ?_|refine Below.drewN ?_ _))<;>(try simp)<;> omega)))).mono ?_;rintro e w1 zX;obtain⟨rfl,g1⟩:=zX;obtain⟨b1,c1,f1,z1⟩:=kw _ _ g1;have c1':w1.cell? ⟨w.heap.size,0,none⟩=some .nilIface:=c1.trans (by simp);have f1':w1.frozen? ⟨w.heap.size,0,none⟩=false:=f1.trans (by simp);clear c1 f1 g1;go_wp2_with fail;refine leaves_cons (f:=68) (args:=#[.pointer (some ⟨w.heap.size,0,none⟩)]) (by simp) (by simp [go_sem]) ?_;refine(Bo w.heap.size _ [] w1 c1' f1').mono ?_;rintro e u' w2 ⟨rfl,rfl,rfl⟩;have hl:w.heap.size<w1.heap.size:=by omega
 simp [Leaves,settle,results,Tryz.results29,go_sem,c1',hl];rw [H.o];exact⟨rfl,(b1.setCell (p:=⟨w.heap.size,0,none⟩) (Nat.le_refl _) _).alloc (by simp [World.setCell];omega) _⟩
theorem Hq(A:Option Addr)(n c e:Nat)(P:List Nd)(w:World)(hn:n=P.length)(hc:n<=c)(hm:n<=maxLen)(hP:jL w A P)(hO:bi P)(h:¬200<n)(he:zq P (n+1) 0=some e):
 Calls Tryz.prog 29 #[.slice A n c] w λe w'=>e = .returned (je (zh P))/\Below w.heap.size w w':=by
 have C:=O (λW h1 h2=>pD A P n c (w.heap.size+1) hn hc hm hO (λh0 a e=>by have:=hP.lt h0 a e;omega) (n+1) 0 W h1 h2 (by omega));rw [he] at C;have hle:=aC _ _ _ he;rw [<-hn] at hle;have H:=O (show zh P=if e<n then 1 else 0 by
  unfold zh;rw [if_neg (by omega),<-hn,he]
  by_cases q:e<n
  ·rw [if_pos q,if_neg (by intro z;injection z with z;omega)]
  ·rw [if_neg q,if_pos (by congr 1;omega)])
 unfold maxLen at hm;have HP:=O hP;have hmf:∀(fn:Fn) (first cap:Array Value) (w:World),(Instr.makeFunc fn first cap).run Tryz.prog w = .ok (.func fn first cap) w:=λ_ _ _ _=>rfl;clear hn hP hO he;by_cases hen:e<n
 ·rw [if_pos hen] at H;go_enter_defers Tryz.func29,Tryz.ntmps29;go_wp2_with fail;refine(C.o _ ⟨by simp,by simp,by simp⟩ (HP.o.keep ((by(repeat' (first|exact Below.refl _ _|refine Below.alloc ?_ ?_ _|refine Below.setCell ?_ ?_ _|refine Below.drew ?_|refine Below.drewN ?_ _))<;>(try simp)<;> omega)))).mono ?_;rintro e w1 zX;obtain⟨rfl,r1,g1⟩:=zX;obtain⟨b1,c1,f1,z1⟩:=kw _ _ g1;have c1':w1.cell? ⟨w.heap.size,0,none⟩=some .nilIface:=c1.trans (by simp);have f1':w1.frozen? ⟨w.heap.size,0,none⟩=false:=f1.trans (by simp);have r2:=r1.c1;clear c1 f1 g1 r1;go_wp2_with fail;refine leaves_cons (f:=68) (args:=#[.pointer (some ⟨w.heap.size,0,none⟩)]) (by simp) (by simp [go_sem]) ?_;refine(sW ⟨w.heap.size,0,none⟩ _).mono ?_;rintro e u' w2 ⟨rfl,rfl,rfl⟩;simp [Leaves,settle,results,Tryz.results29,go_sem,c1'];rw [H.o];exact⟨rfl,b1.setCell (p:=⟨w.heap.size,0,none⟩) (Nat.le_refl _) _⟩
 ·rw [if_neg hen] at H;obtain rfl:e=n:=by omega
  go_enter_defers Tryz.func29,Tryz.ntmps29;go_wp2_with fail;refine(C.o _ ⟨by simp,by simp,by simp⟩ (HP.o.keep ((by(repeat' (first|exact Below.refl _ _|refine Below.alloc ?_ ?_ _|refine Below.setCell ?_ ?_ _|refine Below.drew ?_|refine Below.drewN ?_ _))<;>(try simp)<;> omega)))).mono ?_;rintro e w1 zX;obtain⟨rfl,r1,g1⟩:=zX;obtain⟨b1,c1,f1,z1⟩:=kw _ _ g1;have c1':w1.cell? ⟨w.heap.size,0,none⟩=some .nilIface:=c1.trans (by simp);have f1':w1.frozen? ⟨w.heap.size,0,none⟩=false:=f1.trans (by simp);have r2:=r1.c1;clear c1 f1 g1 r1;go_wp2_with fail;refine leaves_cons (f:=68) (args:=#[.pointer (some ⟨w.heap.size,0,none⟩)]) (by simp) (by simp [go_sem]) ?_;refine(sW ⟨w.heap.size,0,none⟩ _).mono ?_;rintro e u' w2 ⟨rfl,rfl,rfl⟩;simp [Leaves,settle,results,Tryz.results29,go_sem,c1'];rw [H.o];exact⟨rfl,b1.setCell (p:=⟨w.heap.size,0,none⟩) (Nat.le_refl _) _⟩
theorem Ku(A:Option Addr)(n c:Nat)(P:List Nd)(w:World)(hn:n=P.length)(hc:n<=c)(hm:n<=maxLen)(hP:jL w A P)(hO:bi P):
 Calls Tryz.prog 29 #[.slice A n c] w λe w'=>e = .returned (je (zh P))/\Below w.heap.size w w':=by
 by_cases h:200<n
 ·exact GR A n c P w hn hm h
 ·rcases he:zq P (n+1) 0 with _|e
  ·exact He A n c P w hn hc hm hP hO h he
  ·exact Hq A n c e P w hn hc hm hP hO h he
end Go.Proofs.YthifljpkgfpkiaaGreatDoor
namespace Go.Wk
end Go.Wk
namespace Go.Proofs.YthifljpkgfpkiaaGreatDoor
open Go.RowKit Go.Wk Go.Sort
theorem mP(x:Int):(x=0/\je x = .nilIface)\/(x≠0/\je x = .iface 41 (.int .i64 x)):=by
 by_cases h:x=0
 ·exact .inl ⟨h,by rw [h];rfl⟩
 ·exact .inr ⟨h,zm h⟩
theorem ut{x y:Nd}(h:x=y):nA x y=0:=(mN.zero x y).2 h
theorem Gf{x y:Nd}(h:x≠y)(w:World):(binOp .neq 47 (.agg #[.int .i64 x.op,.int .i64 x.n,.string x.s,.string x.t]) (.agg #[.int .i64 y.op,.int .i64 y.n,.string y.s,.string y.t])).run Tryz.prog w = .ok (.bool true) w:=by
 simp [go_sem];exact λh1 h2 h3 h4=>h (Nd.ext4 h1 h2 (toList_inj h3) (toList_inj h4))
theorem fX{P Q:List Nd}{k:Nat}(h1:k<P.length)(h2:k<Q.length)(h:P[k]≠Q[k])(hc:zJ P Q=zJ (P.drop k) (Q.drop k)):zJ P Q≠0:=by
 rw [hc,fD h1 h2,zR (λe=>h ((mN.zero _ _).1 e))];exact λe=>h ((mN.zero _ _).1 e)
theorem Ir(A B:Option Addr)(n m c d:Nat)(P Q:List Nd)(w:World)(hn:n=P.length)(hm:m=Q.length)(hln:n<=maxLen)(IL:m<=maxLen)(hP:jL w A P)(hQ:jL w B Q):
 Calls Tryz.prog 12 #[.slice A n c,.slice B m d] w λe w'=>e = .returned (.bool (decide (zJ P Q=0)))/\Below w.heap.size w w':=by
 unfold maxLen at hln IL;have HN:=O hn;have HM:=O hm;have HP:=O hP;have HQ:=O hQ;clear hn hm hP hQ;by_cases hl:n=m
 ·subst hl;go_enter Tryz.func12,Tryz.ntmps12;go_wp2_with fail;go_loopw [5] (λi wr=>∃k:Nat,k<=n/\i = .int .i64 k/\Hid (zJ P Q=zJ (P.drop k) (Q.drop k))/\Hid (Below w.heap.size w wr)) (λi _=>n-(intOf i).toNat)
  case atStart=>exact⟨0,Nat.zero_le _,rfl,rfl,Below.refl _ _⟩
  case round =>
   obtain⟨k,hk,rfl,hE,hB⟩:=hrel;by_cases hlt:k<n
   ·have h1:k<P.length:=by rw [<-HN.o];exact hlt
    have h2:k<Q.length:=by rw [<-HM.o];exact hlt
    obtain⟨a,rfl,a1,a2,a3,a4⟩:=(HP.o.keep hB.o) k P[k] (List.getElem?_eq_getElem h1);obtain⟨b,rfl,b1,b2,b3,b4⟩:=(HQ.o.keep hB.o) k Q[k] (List.getElem?_eq_getElem h2);by_cases he:P[k]=Q[k]
    ·have HE:=O (hE.o.trans ((fD h1 h2).trans (by rw [ut he,zu])));rw [he] at a1 a2 a3 a4;generalize Q[k]=y at *;clear he hE;go_wp2_with fail;go_quiet (fail);go_wp2_with fail;go_roundw
     case rel=>exact⟨k+1,by omega,by go_num,HE,hB.o.drewN _⟩
     case measure=>simp [intOf];omega
    ·have HE:=O (fX h1 h2 he hE.o);have hne:=λw=>Gf he w;generalize P[k]=x at *;generalize Q[k]=y at *;clear he hE;go_wp2_with fail;go_quiet (fail);go_wp2_with fail;go_ret;exact⟨zM (decide_eq_false HE.o).symm,hB.o.drewN _⟩
   ·have HE:=O (hE.o.trans (eP (by rw [<-HN.o];omega) (by rw [<-HM.o];omega)));clear hE;go_wp2_with fail;go_ret;exact⟨zM (decide_eq_true HE.o).symm,hB.o⟩
 ·have HE:=O (show zJ P Q≠0 from λh=>hl (by rw [HN.o,HM.o,(jg.zero _ _).1 h]));have h3:(n != m)=true:=by rw [bne_iff_ne];exact hl
  clear hl;go_enter Tryz.func12,Tryz.ntmps12;go_wp2_with fail;go_ret;exact⟨zM (decide_eq_false HE.o).symm,Below.refl _ _⟩
def zD:List Nd->List Value
 | [] => []
 | x :: r => .int .i64 x.op :: .int .i64 x.n :: .string x.s :: .string x.t :: zD r
theorem aP(P Q:List Nd):zD (P ++ Q)=zD P ++ zD Q:=by
 induction P with
 | nil=>rfl
 | cons x P ih=>simp [zD,ih]
theorem az(P:List Nd):(zD P).length=P.length*4:=by
 induction P with
 | nil=>rfl
 | cons x P ih=>simp only [zD,List.length_cons,ih];omega
theorem ue(P:List Nd)(k:Nat)(x:Nd)(h:P[k]?=some x):(zD P)[k*4]?=some (.int .i64 x.op)/\(zD P)[k*4+1]?=some (.int .i64 x.n)/\(zD P)[k*4+2]?=some (.string x.s)/\(zD P)[k*4+3]?=some (.string x.t):=by
 induction P generalizing k with
 | nil=>simp at h
 | cons y P ih =>
  cases k with
  | zero=>simp only [List.getElem?_cons_zero,Option.some.injEq] at h;subst h;exact⟨rfl,rfl,rfl,rfl⟩
  | succ k =>
   have:=ih k (by simpa using h)
   rw [show(k+1)*4=k*4+1+1+1+1 by omega]
   simp only [zD,List.getElem?_cons_succ]
   exact this
theorem iL(g o k:Nat):(⟨g,o,none⟩:Addr).add k=⟨g,o+k,none⟩:=by
 unfold Addr.add;split
 ·rename_i h0;subst h0;rfl
 ·simp
theorem oL{w:World}{b o:Nat}{P:List Nd}(h:∀(j:Nat) u,(zD P)[j]?=some u->w.cell? ((⟨b,o,none⟩:Addr).add j)=some u):jL w (some ⟨b,o,none⟩) P:=by
 intro k x hx;obtain⟨h1,h2,h3,h4⟩:=ue P k x hx;have g1:=h _ _ h1;have g2:=h _ _ h2;have g3:=h _ _ h3;have g4:=h _ _ h4;simp only [iL] at g1 g2 g3 g4;exact⟨_,rfl,by simp only [iL];exact g1,by simp only [iL];exact g2,by simp only [iL];exact g3,by simp only [iL];exact g4⟩
theorem Jm(w:World)(P:List Nd)(t:TypeId):jL (w.alloc (.cells (zD P).toArray t)) (some ⟨w.heap.size,0,none⟩) P:=oL (ag w _ t)
end Go.Proofs.YthifljpkgfpkiaaGreatDoor
namespace Go.Wk
open Go.ChangeShapes Go.WideShapes Go.RowKit Go.Deep
section
variable {P:Program} {w:World} {t:TypeId} {cs:List Value}
theorem mF{α:Type}(n:Nat)(R:Nat->α->Prop)(h:∀i,i<n->∃x,R i x):∃l:List α,l.length=n/\∀k x,l[k]?=some x->R k x:=by
 induction n with
 | zero=>exact⟨[],rfl,λk x hx=>by simp at hx⟩
 | succ n ih =>
  obtain⟨l,hl,hr⟩:=ih (λi hi=>h i (by omega))
  obtain⟨y,hy⟩:=h n (by omega)
  refine⟨l ++ [y],by simp [hl],λk x hx=>?_⟩
  by_cases hk:k<n
  ·rw [List.getElem?_append_left (by omega)] at hx;exact hr k x hx
  ·rw [List.getElem?_append_right (by omega)] at hx
   by_cases hk2:k=n
   ·subst hk2;rw [hl,Nat.sub_self] at hx;simp only [List.getElem?_cons_zero,Option.some.injEq] at hx;subst hx;exact hy
   ·have:k-l.length≠0:=by omega
    obtain⟨j,hj⟩:∃j,k-l.length=j+1:=⟨k-l.length-1,by omega⟩
    rw [hj] at hx;simp at hx
theorem il{e:TypeId}(ht:P.underlying t=some (.slice e))(h:Rd P w t cs):
 ∃(A:Option Addr) (n c:Nat),cs = [.slice A n c]/\n<=c/\c<=maxLen/\∀i,i<n->∃a,A=some a/\∃cs':List Value,cs'.length=P.cellsOf e/\(∀j,j<P.cellsOf e->w.cell? (a.add (i*P.cellsOf e+j))=cs'[j]?)/\Rd P w e cs':=by
 obtain⟨H,enc,b,sp,hd,f,x,hx⟩:=h;rcases open_slice ht hx with ⟨h0,_⟩|⟨a,len,cap,m,n,D,Pl,hcs,hb,hl,hm,UN,hx,hi⟩
 ·exact⟨none,0,0,h0,Nat.le_refl _,by unfold maxLen;omega,λi hi=>by omega⟩
 ·refine⟨some a,len,cap,hcs,hl,hm,λi hil=>⟨a,rfl,?_⟩⟩;obtain⟨cs',hc,Yu⟩:=hi i (by rw [UN];split <;> omega);obtain⟨_,IP,hat⟩:=World.cells?_some hc;refine⟨cs',IP,λj hj=>?_,⟨H,enc,b,sp,hd,n,_,Yu⟩⟩;have:=hat j hj;rw [<-Go.Deep.add_add];exact this
end
end Go.Wk
namespace Go.Proofs.YthifljpkgfpkiaaGreatDoor
open Go.Wk Go.ChangeShapes Go.WideShapes Go.RowKit
structure Ns(w:World)(A:Option Addr)(n c:Nat)(P:List Nd):Prop where
 len:n=P.length
 cap:n<=c
 max:n<=maxLen
 at_:jL w A P
 ok:bi P
theorem Ns.keep{w w':World}{A:Option Addr}{n c:Nat}{P:List Nd}(h:Ns w A n c P)(hb:Below w.heap.size w w'):Ns w' A n c P:=⟨h.len,h.cap,h.max,h.at_.keep hb,h.ok⟩
theorem Ns.same{w:World}{A B:Option Addr}{n c m d:Nat}{P Q:List Nd}(h:Ns w A n c P)(k:Ns w B m d Q):
 Calls Tryz.prog 12 #[.slice A n c,.slice B m d] w λe w'=>e = .returned (.bool (decide (zJ P Q=0)))/\Below w.heap.size w w' :=
 Ir A B n m c d P Q w h.len k.len h.max k.max h.at_ k.at_
theorem uQ:Tryz.prog.cellsOf 47=4:=by kernel_rfl
theorem yi:Tryz.prog.cellsOf 3=1:=by kernel_rfl
theorem TS{w:World}{cs:List Value}(h:Rd Tryz.prog w 47 cs):∃x:Nd,cs = [.int .i64 x.op,.int .i64 x.n,.string x.s,.string x.t]/\lk x:=by
 have hl:=(dt Tryz.underlying47 h).1;rw [uQ] at hl
 match cs,hl with
 | [c0,c1,c2,c3],_ =>
  have h0:Rd Tryz.prog w 3 [c0]:=jH Tryz.underlying47 h 0 3 0 1 rfl yi
  have h1:Rd Tryz.prog w 3 [c1]:=jH Tryz.underlying47 h 1 3 1 1 rfl yi
  have h2:Rd Tryz.prog w 9 [c2]:=jH Tryz.underlying47 h 2 9 2 1 rfl bf
  have h3:Rd Tryz.prog w 9 [c3]:=jH Tryz.underlying47 h 3 9 3 1 rfl bf
  obtain⟨o,e0,o1,o2⟩:=Nh Tryz.underlying3 h0
  obtain⟨n,e1,n1,n2⟩:=Nh Tryz.underlying3 h1
  obtain⟨a,e2,s2⟩:=eA Tryz.underlying9 h2
  obtain⟨b,e3,s3⟩:=eA Tryz.underlying9 h3
  simp only [List.cons.injEq,and_true] at e0 e1 e2 e3
  exact⟨⟨o,n,a,b⟩,by rw [e0,e1,e2,e3],s2,s3,n1,n2⟩
theorem lq{w:World}{cs:List Value}(h:Rd Tryz.prog w 29 cs):
 ∃(A:Option Addr) (n c:Nat) (P:List Nd),cs = [.slice A n c]/\n=P.length/\n<=c/\n<=maxLen/\jL w A P/\bi P:=by
 obtain⟨A,n,c,rfl,h1,h2,h3⟩:=il Tryz.underlying29 h;rw [uQ] at h3;obtain⟨P,hl,hr⟩:=mF n (λk x=>(∃a,A=some a/\w.cell? (a.add (k*4))=some (.int .i64 x.op)/\w.cell? (a.add (k*4+1))=some (.int .i64 x.n)/\w.cell? (a.add (k*4+2))=some (.string x.s)/\w.cell? (a.add (k*4+3))=some (.string x.t))/\lk x) (λi hi=>by
  obtain⟨a,rfl,cs',hl,hc,hr⟩:=h3 i hi
  obtain⟨x,rfl,hx⟩:=TS hr
  exact⟨x,⟨a,rfl,hc 0 (by omega),hc 1 (by omega),hc 2 (by omega),hc 3 (by omega)⟩,hx⟩)
 refine⟨A,n,c,P,rfl,hl.symm,h1,by omega,λk x hx=>?_,λx hx=>?_⟩
 ·obtain⟨⟨a,e,q1,q2,q3,q4⟩,-⟩:=hr k x hx;refine⟨a,e,q1,?_,?_,?_⟩
  all_goals
   rw [<-add_add] at q2 q3 q4;unfold Addr.add at q2 q3 q4 ⊢
   first|(simpa using q2)|(simpa using q3)|(simpa using q4)
 ·obtain⟨k,hk,rfl⟩:=List.getElem_of_mem hx;exact(hr k _ (List.getElem?_eq_getElem hk)).2
theorem Ii{H:Type}{enc:TypeId × Value->H}{w:World}{b b0:Nat}{sp:Nat->Bool}{hd:Bool}{v:Value}{d:DataW H}{ps:List MemPlace}{r:Reach}
 (hv:Value.okWide Tryz.prog w r b0 29 v) (h:DataW.Trod enc Tryz.prog w b sp hd 29 v d ps):
 ∃(A:Option Addr) (n c:Nat) (P:List Nd),v = .slice A n c/\Ns w A n c P:=by
 obtain⟨A',n',c',rfl⟩:=okWide_slice Tryz.underlying29 hv;obtain⟨A,n,c,P,e,h1,h2,h3,h4,h5⟩:=lq (kC h);have e':(Value.slice A' n' c')= .slice A n c:=by simpa [Value.cells] using e
 exact⟨A,n,c,P,e',h1,h2,h3,h4,h5⟩
end Go.Proofs.YthifljpkgfpkiaaGreatDoor
namespace Go.Proofs.YthifljpkgfpkiaaGreatDoor
open Go.RowKit
theorem pd(w:World):(callFunc 211 #[]).run Tryz.prog w = .ok (.value (.tuple #[])) w:=run_call_mark0 Tryz.func211 (by kernel_rfl) (by kernel_rfl) (by kernel_rfl) .disable (by kernel_rfl) w
theorem rD(w:World):(callFunc 213 #[]).run Tryz.prog w = .ok (.value (.tuple #[])) w:=run_call_mark0 Tryz.func213 (by kernel_rfl) (by kernel_rfl) (by kernel_rfl) .enable (by kernel_rfl) w
theorem yH(a:Addr)(w:World):(callFunc 214 #[.pointer (some a)]).run Tryz.prog w = .ok (.value (.tuple #[])) w:=run_call_marked Tryz.func214 (by kernel_rfl) (by kernel_rfl) (by kernel_rfl) .acquire (by kernel_rfl) a w
theorem o0(a:Addr)(w:World):(callFunc 216 #[.pointer (some a)]).run Tryz.prog w = .ok (.value (.tuple #[])) w:=run_call_marked Tryz.func216 (by kernel_rfl) (by kernel_rfl) (by kernel_rfl) .releaseMerge (by kernel_rfl) a w
theorem tN(a:Addr)(x:Value)(u:FrameMode)(w:World)(hc:w.cell? a=some x)(hz:w.frozen? a=false):
 CallsD Tryz.prog 181 #[.pointer (some a),.bool true] u w λe u' w'=>u'=u/\(e = .returned (.tuple #[])/\w'=w.drew.setCell a (.int .u32 1)):=by
 have hc':w.drew.cell? a=some x:=by go_simp
 have hz':w.drew.frozen? a=false:=by go_simp
 have hst:=run_call_store (P:=Tryz.prog) Tryz.func196 (by kernel_rfl) (by kernel_rfl) (by kernel_rfl) (by kernel_rfl) (k := .u32) (y:=1) hc' hz';go_enter_d Tryz.func181,Tryz.ntmps181;go_wp2;go_region_calls
 all_goals (go_end0;exact⟨rfl,rfl⟩)
theorem rM(a:Addr)(u:FrameMode)(w:World)(hc:w.cell? a=some (.int .i32 1))(hz:w.frozen? a=false):
 CallsD Tryz.prog 180 #[.pointer (some a)] u w λe u' w'=>u'=u/\(e = .returned (.tuple #[])/\w'=w.setCell a (.int .i32 0)):=by
 have hd:=pd;have he:=rD;have hr:=o0;have hadd:=run_call_add (P:=Tryz.prog) Tryz.func217 (by kernel_rfl) (by kernel_rfl) (by kernel_rfl) .i32 (by kernel_rfl) (y := -1) (s:=0) hc hz (by simp [go_sem];rfl);have hcv:=run_convert_to_unsafe (P:=Tryz.prog) (src:=337) (dst:=181) Tryz.underlying337 Tryz.underlying181 (by kernel_rfl) hc;go_enter_d Tryz.func180,Tryz.ntmps180;go_wp2;go_end0;go_wp2;go_end0;exact⟨rfl,rfl⟩
theorem Ms(a:Addr)(w:World)(hc:w.cell? a=some (.int .i32 0))(hz:w.frozen? a=false):
 Calls Tryz.prog 179 #[.pointer (some a)] w λe w'=>e = .returned (.tuple #[])/\w'=w.setCell a (.int .i32 1):=by
 have hd:=pd;have he:=rD;have ha:=yH;have hcas:=run_call_cas_hit (P:=Tryz.prog) Tryz.func212 (by kernel_rfl) (by kernel_rfl) (by kernel_rfl) .i32 (by kernel_rfl) (y:=1) hc hz;have hc':(w.setCell a (.int .i32 1)).cell? a=some (.int .i32 1):=World.cell?_setCell_same w a _ hc;have hcv:=run_convert_to_unsafe (P:=Tryz.prog) (src:=337) (dst:=181) Tryz.underlying337 Tryz.underlying181 (by kernel_rfl) hc';go_enter Tryz.func179,Tryz.ntmps179;go_wp2
 first|go_end0|(simp only [Exit.inBlock,Exit.then];refine bodyPost_ret (results_none rfl _ _ _) rfl ?_)|refine bodyPost_ret (results_none rfl _ _ _) rfl ?_
 go_wp2;go_end0;exact⟨rfl,rfl⟩
end Go.Proofs.YthifljpkgfpkiaaGreatDoor
namespace Go.Proofs.YthifljpkgfpkiaaGreatDoor
open Go.RowKit Go.Wk
theorem Og:(Tryz.prog.info? 9).map (λi=>(i.zero,i.size,i.bytes))=some (some (.string ⟨#[]⟩),1,16):=by kernel_rfl
noncomputable def oZ(v:Value):Array Value:=Tryz.zeroCells303.setIfInBounds 256 v
theorem DY:Tryz.zeroCells303=Array.replicate 257 (.slice none 0 0):=by kernel_rfl
theorem Bv(v:Value):oZ v=(Array.replicate 257 (.slice none 0 0)).setIfInBounds 256 v:=by unfold oZ;rw [DY]
theorem L8(v:Value):(oZ v).size=257:=by rw [Bv];simp
theorem Ji(v:Value)(k:Nat)(h:k<256):(oZ v)[k]?=some (.slice none 0 0):=by
 rw [Bv,Array.getElem?_setIfInBounds];rw [if_neg (by omega),Array.getElem?_replicate,if_pos (by omega)]
theorem xR(v:Value):(oZ v)[256]?=some v:=by rw [Bv];simp
structure Tab(w:World)(X:Nat)(f:Nat->Value)(z:Value):Prop where
 at_:∀k,k<256->w.cell? ⟨X,k,none⟩=some (f k)
 last:w.cell? ⟨X,256,none⟩=some z
 thaw:∀k,k<=256->w.frozen? ⟨X,k,none⟩=false
theorem zt{w:World}{b k:Nat}{arr:Array Value}{t:TypeId}{fz:Nat × Nat}{u:Value}(h:w.heap[b]?=some (.cells arr t fz))(hu:arr[k]?=some u):w.cell? ⟨b,k,none⟩=some u:=by
 rw [cell_of_row _ _ k arr t fz h];exact hu
theorem Tk(w:World)(v:Value):Tab (w.alloc (.cells (oZ v) 303)) w.heap.size (λ_ => .slice none 0 0) v :=
 ⟨λk h=>zt (heap_alloc_last w _) (Ji v k h),zt (heap_alloc_last w _) (xR v),λk _=>by simp⟩
theorem Tab.lt{w:World}{X:Nat}{f:Nat->Value}{z:Value}(h:Tab w X f z):X<w.heap.size:=block_lt_of_cell h.last
theorem Tab.keep{w w':World}{X:Nat}{f:Nat->Value}{z:Value}(h:Tab w X f z)(hb:Below w.heap.size w w'):Tab w' X f z :=
 ⟨λk hk=>zb hb (h.at_ k hk),zb hb h.last,λk hk=>by rw [(bv hb).2 X k h.lt];exact h.thaw k hk⟩
theorem Tab.set{w:World}{X:Nat}{f:Nat->Value}{z:Value}(h:Tab w X f z)(j:Nat)(hj:j<256)(v:Value):Tab (w.setCell ⟨X,j,none⟩ v) X (λk=>if k=j then v else f k) z :=
 ⟨λk hk=>by
  by_cases e:k=j
  ·subst e;rw [if_pos rfl];exact World.cell?_setCell_same _ _ _ (h.at_ k hk)
  ·rw [if_neg e,World.cell?_setCell_other _ ⟨X,j,none⟩ ⟨X,k,none⟩ _ (by intro e;injection e;omega)];exact h.at_ k hk,
  by rw [World.cell?_setCell_other _ ⟨X,j,none⟩ ⟨X,256,none⟩ _ (by intro e;injection e;omega)];exact h.last,
  λk hk=>by rw [World.frozen?_setCell];exact h.thaw k hk⟩
theorem Tab.grown{w w':World}{X:Nat}{f:Nat->Value}{z:Value}{g:Option Nat}(h:Tab w X f z)(hg:w.grownBy w' g)(hn:g≠some X):Tab w' X f z:=by
 have hb:w'.heap[X]?=w.heap[X]?:=hg.block X h.lt (λe=>hn e.symm);exact⟨λk hk=>(World.cell?_of_block (a:=⟨X,k,none⟩) hb).trans (h.at_ k hk),(World.cell?_of_block (a:=⟨X,256,none⟩) hb).trans h.last,λk hk=>(World.frozen?_of_block (a:=⟨X,k,none⟩) hb).trans (h.thaw k hk)⟩
theorem Tab.setLast{w:World}{X:Nat}{f:Nat->Value}{z:Value}(h:Tab w X f z)(v:Value):Tab (w.setCell ⟨X,256,none⟩ v) X f v :=
 ⟨λk hk=>by rw [World.cell?_setCell_other _ ⟨X,256,none⟩ ⟨X,k,none⟩ _ (by intro e;injection e;omega)];exact h.at_ k hk,
  World.cell?_setCell_same _ _ _ h.last,
  λk hk=>by rw [World.frozen?_setCell];exact h.thaw k hk⟩
theorem Lu(w:World):(binOp .eql 150 (.slice none 0 0) (.slice none 0 0)).run Tryz.prog w = .ok (.bool true) w:=by kernel_rfl
theorem Ee(w:World)(b:UInt8)(n:Int)(hn:n=b.toNat):(convert 150 9 (.slice (some ⟨w.heap.size,0,none⟩) 1 1)).run Tryz.prog (w.alloc (.cells #[.int .u8 n] 5))= .ok (.string ⟨#[b]⟩) (w.alloc (.cells #[.int .u8 n] 5)):=by
 subst hn;exact run_convert_bytes_back (P:=Tryz.prog) _ 150 9 5 ⟨w.heap.size,0,none⟩ 1 [b] Tryz.underlying150 Tryz.underlying5 Tryz.underlying9 (λj hj=>by
  have:j=0:=by simpa using hj
  subst this
  exact cell_one_new w _ _ 0 _ rfl)
theorem Jw(w:World)(o:Array Value)(x:Value)(t t':TypeId):∀j u,[x][j]?=some u->((w.alloc (.cells o t')).alloc (.cells #[x] t)).cell? ((⟨w.heap.size+1,0,none⟩:Addr).add j)=some u:=by
 intro j u hj;have:=cell_one_new (w.alloc (.cells o t')) x t j u hj;simpa using this
theorem xF{w:World}{B n size:Nat}{e:TypeId}{v:Value}{xs:List Value}(h:w.ownsRow B e size v n xs):∃A c,v = .slice A n c:=by
 rcases h.2 with ⟨rfl,h0⟩|⟨g,cap,cur,rfl,_⟩
 ·exact⟨none,0,by rw [h0]⟩
 ·exact⟨_,_,rfl⟩
def Tx(w:World)(X:Nat)(g:Option Nat)(v:Value)(l:List UInt8):Prop:=∃P c,v = .slice (some ⟨P,0,none⟩) l.length c/\P≠X/\g≠some P/\P<w.heap.size/\∀(j:Nat) (b:UInt8),l[j]?=some b->w.cell? ⟨P,j,none⟩=some (.int .u8 (b.toNat:Int))
theorem Tx.keep{w w':World}{X:Nat}{g:Option Nat}{v:Value}{l:List UInt8}(h:Tx w X g v l)(hb:Below w.heap.size w w'):Tx w' X g v l :=
 let ⟨P,c,h1,h2,h3,h4,h5⟩:=h;⟨P,c,h1,h2,h3,Nat.lt_of_lt_of_le h4 hb.size,λj b hj=>zb hb (h5 j b hj)⟩
theorem Tx.grown{w w':World}{X:Nat}{g:Option Nat}{v:Value}{l:List UInt8}(h:Tx w X g v l)(hg:w.grownBy w' g):Tx w' X g v l :=
 let ⟨P,c,h1,h2,h3,h4,h5⟩:=h;⟨P,c,h1,h2,h3,Nat.lt_of_lt_of_le h4 hg.size,λj b hj=>(World.cell?_of_block (a:=⟨P,j,none⟩) (hg.block P h4 (λe=>h3 e.symm))).trans (h5 j b hj)⟩
theorem Tx.setX{w:World}{X:Nat}{g:Option Nat}{v:Value}{l:List UInt8}(h:Tx w X g v l)(k:Nat)(u:Value):Tx (w.setCell ⟨X,k,none⟩ u) X g v l :=
 let ⟨P,c,h1,h2,h3,h4,h5⟩:=h;⟨P,c,h1,h2,h3,by simpa [World.setCell] using h4,λj b hj=>by
  rw [World.cell?_setCell_other _ ⟨X,k,none⟩ ⟨P,j,none⟩ _ (by intro e;injection e with e;exact h2 e.symm)];exact h5 j b hj⟩
theorem Tx.regrow{w w':World}{X:Nat}{g g':Option Nat}{v:Value}{l:List UInt8}{o o':Obj}(h:Tx w X g v l)(hg:((w.alloc o).alloc o').grownBy w' g)(hat:g'=g\/g'=some (w.heap.size+1+1)):Tx w' X g' v l:=by
 have h1:=((h.keep (za w o)).keep (za _ o')).grown hg;obtain⟨P,c,h1,h2,h3,h4,h5⟩:=h1;refine⟨P,c,h1,h2,?_,h4,h5⟩;rcases hat with rfl|rfl
 ·exact h3
 ·obtain⟨P',c',k1,k2,k3,k4,k5⟩:=h;rw [h1] at k1;injection k1 with k1;injection k1 with k1;injection k1 with k1;intro e;injection e with e;omega
theorem UC{w:World}{X P c:Nat}{g:Option Nat}(l:List UInt8)(hX:P≠X)(hg:g≠some P)(hP:P<w.heap.size)(h:∀(k:Nat) (h:k<(⟨l.toArray⟩:ByteArray).size),w.cell? ⟨P,k,none⟩=some (.int .u8 ((⟨l.toArray⟩:ByteArray)[k].toNat:Int))):Tx w X g (.slice (some ⟨P,0,none⟩) l.length c) l :=
 ⟨P,c,rfl,hX,hg,hP,λj b hj=>by
  obtain⟨hk,e⟩:=List.getElem?_eq_some_iff.1 hj
  have:=h j (by show j<l.toArray.size;rw [List.size_toArray];exact hk)
  rw [this,<-e];rfl⟩
def Rnd(w:World)(X:Nat)(wr:World)(i:Value):Prop:=∃(f:Nat->Value) (z:Value) (L:List Value),
 wr.ownsRow w.heap.size 9 1 z L.length L/\Tab wr X f z/\z.ownBlock≠some X/\Below w.heap.size w wr/\
 ((i = .int .i64 2/\L = []/\f=λ_ => .slice none 0 0)\/
  (i = .int .i64 0/\L = [.string ⟨#[34]⟩]/\Tx wr X z.ownBlock (f 34) [92,34]/\∀k,k≠34->f k = .slice none 0 0)\/
  (i = .int .i64 (-2)/\L = [.string ⟨#[34]⟩,.string ⟨#[92]⟩]/\Tx wr X z.ownBlock (f 34) [92,34]/\Tx wr X z.ownBlock (f 92) [92,92]/\∀k,k≠34->k≠92->f k = .slice none 0 0))
structure kX(w:World)(X:Nat)(f:Nat->Value)(T c:Nat):Prop where
 tab:Tab w X f (.slice (some ⟨T,0,none⟩) 2 c)
 t0:w.cell? ⟨T,0,none⟩=some (.string ⟨#[34]⟩)
 t1:w.cell? ⟨T,1,none⟩=some (.string ⟨#[92]⟩)
 q:∃P d,f 34 = .slice (some ⟨P,0,none⟩) 2 d/\w.cell? ⟨P,0,none⟩=some (.int .u8 92)/\w.cell? ⟨P,1,none⟩=some (.int .u8 34)
 s:∃P d,f 92 = .slice (some ⟨P,0,none⟩) 2 d/\w.cell? ⟨P,0,none⟩=some (.int .u8 92)/\w.cell? ⟨P,1,none⟩=some (.int .u8 92)
 o:∀k,k≠34->k≠92->f k = .slice none 0 0
theorem kX.keep{w w':World}{X:Nat}{f:Nat->Value}{T c:Nat}(h:kX w X f T c)(hb:Below w.heap.size w w'):kX w' X f T c :=
 ⟨h.tab.keep hb,zb hb h.t0,zb hb h.t1,let ⟨P,d,h1,h2,h3⟩:=h.q;⟨P,d,h1,zb hb h2,zb hb h3⟩,let ⟨P,d,h1,h2,h3⟩:=h.s;⟨P,d,h1,zb hb h2,zb hb h3⟩,h.o⟩
theorem U9{w:World}{X B:Nat}{f:Nat->Value}{z:Value}(hO:w.ownsRow B 9 1 z 2 [.string ⟨#[34]⟩,.string ⟨#[92]⟩])(hT:Tab w X f z)
 (sg:Tx w X z.ownBlock (f 34) [92,34]) (oG:Tx w X z.ownBlock (f 92) [92,92]) (hk:∀k,k≠34->k≠92->f k = .slice none 0 0):∃T c,kX w X f T c:=by
 have hc:=λg (e:z.ownBlock=some g)=>hO.cells (g:=g) e;obtain⟨P,d,p1,-,-,-,p2⟩:=sg;obtain⟨Q,d',q1,-,-,-,q2⟩:=oG;rcases hO.2 with ⟨rfl,h0⟩|⟨g,cap,cur,rfl,_⟩
 ·omega
 ·exact⟨g,cap,hT,hc g rfl 0 _ rfl,hc g rfl 1 _ rfl,⟨P,d,p1,p2 0 92 rfl,p2 1 34 rfl⟩,⟨Q,d',q1,q2 0 92 rfl,q2 1 92 rfl⟩,hk⟩
theorem Ny(w0:World)(A:Option Addr)(n c:Nat):
 Sem.run Tryz.prog (storeCells ⟨w0.heap.size,0,none⟩ (Tryz.zeroCells303.toList.set 256 (.slice A n c))) (w0.alloc (.cells Tryz.zeroCells303 303))= .ok () (w0.alloc (.cells (oZ (.slice A n c)) 303)):=by
 have hs:=L8 (.slice A n c);have hz:Tryz.zeroCells303.size=257:=by rw [DY];simp
 have h1:(oZ (.slice A n c)).all (·.oneCell')=true:=by
  rw [Array.all_eq_true];intro i hi;have:=Array.getElem?_eq_getElem hi;rcases Nat.lt_or_ge i 256 with h|h
  ·rw [Ji _ i h] at this;injection this with this;rw [<-this];rfl
  ·have e:i=256:=by omega
   subst e;rw [xR] at this;injection this with this;rw [<-this];rfl
 have:=run_storeCells_new (P:=Tryz.prog) w0 303 Tryz.zeroCells303 (oZ (.slice A n c)) (by rw [hs];kernel_rfl) (by omega) h1;have e:(oZ (.slice A n c)).toList=Tryz.zeroCells303.toList.set 256 (.slice A n c):=by unfold oZ;simp
 rw [e] at this;exact this
theorem Gd(b G C:Nat)(w:World)(h4:w.cell? ⟨b,4,none⟩=some (.slice (some ⟨G,0,none⟩) 4 C))
 (t0:w.cell? ⟨G,0,none⟩=some (.string ⟨#[92]⟩)) (t1:w.cell? ⟨G,1,none⟩=some (.string ⟨#[92,92]⟩)) (t2:w.cell? ⟨G,2,none⟩=some (.string ⟨#[34]⟩)) (t3:w.cell? ⟨G,3,none⟩=some (.string ⟨#[92,34]⟩)):
 Calls Tryz.prog 154 #[.pointer (some ⟨b,0,none⟩)] w λe w'=>∃X f T c,e = .returned (.iface 304 (.pointer (some ⟨X,0,none⟩)))/\w.heap.size<=X/\kX w' X f T c/\Below w.heap.size w w':=by
 obtain⟨j0,hj,jz0,jz1,jz2⟩:=info_parts Og;have T0:=O t0;have T1:=O t1;have T2:=O t2;have T3:=O t3;clear t0 t1 t2 t3;go_enter Tryz.func154,Tryz.ntmps154;go_wp2_with fail;go_loopw [4,5] (λf i wr=>((i = .int .i64 0/\f = .bool true)\/(i = .int .i64 2/\f = .bool false)\/(i = .int .i64 4/\f = .bool false))/\Hid (Below w.heap.size w wr)) (λ_ i _=>4-(intOf i).toNat)
 case atStart=>exact⟨.inl ⟨rfl,rfl⟩,Below.refl _ _⟩
 case round =>
  obtain⟨hk,hB⟩:=hrel;have e0:=zb hB.o T0.o;have e1:=zb hB.o T1.o;have e2:=zb hB.o T2.o;have e3:=zb hB.o T3.o;rcases hk with ⟨rfl,rfl⟩|⟨rfl,rfl⟩|⟨rfl,rfl⟩
  ·go_wp2_with fail;go_roundw
   case rel=>exact⟨.inr (.inl ⟨rfl,rfl⟩),hB⟩
   case measure=>simp [intOf]
  ·go_wp2_with fail;go_roundw
   case rel=>exact⟨.inr (.inr ⟨rfl,rfl⟩),hB⟩
   case measure=>simp [intOf]
  ·have hsz:=hB.o.size;go_wp2_with (at_make;refine wpList_make_own _ rfl _ _ 45 rfl w.heap.size 9 j0 (.string ⟨#[]⟩) 1 Tryz.underlying45 hj jz0 jz1 .i64 .i64 _ 2 rfl rfl (by simp) (by rw [jz2];omega) (by unfold maxLen;omega) hsz ?_;intro w0 hown0 hgrow0);have hst:=Ny w0 (some ⟨wr.heap.size,0,none⟩) 0 2;rw [hst];clear hst;have hX:=hgrow0.size;have hYX:=ej hown0 wr.heap.size rfl;have TB:=O (Tk w0 (.slice (some ⟨wr.heap.size,0,none⟩) 0 2));have OW:=O (hown0.alloc (.cells (oZ (.slice (some ⟨wr.heap.size,0,none⟩) 0 2)) 303));have B1:=bh hB (((ke hgrow0)).alloc hX (.cells (oZ (.slice (some ⟨wr.heap.size,0,none⟩) 0 2)) 303));obtain⟨w1,si⟩:∃w1,w0.alloc (.cells (oZ (.slice (some ⟨wr.heap.size,0,none⟩) 0 2)) 303)=w1:=⟨_,rfl⟩
   rw [si] at TB OW B1 ⊢;clear si hown0 hgrow0 hB e0 e1 e2 e3;have Ya:w.heap.size<=w0.heap.size:=by omega
   go_wp2_with fail;generalize w0.heap.size=X at *;generalize wr.heap.size=Y at *;go_loopw [12,13,14] (λi _ _ wr=>Hid (Rnd w X wr i)) (λi _ _ _=>(intOf i+2).toNat)
   case atStart=>exact⟨_,_,_,OW.o,TB.o,by simp [Value.ownBlock];omega,B1.o,.inl ⟨rfl,rfl,rfl⟩⟩
   case round =>
    obtain⟨f,z,L,hO,hT,hN,hB,hk⟩:=hrel.o;have e0:=zb hB T0.o;have e1:=zb hB T1.o;have e2:=zb hB T2.o;have e3:=zb hB T3.o;have HO:=O hO;have HT:=O hT;have HN:=O hN;have HB:=O hB;clear hO hT hN hB hrel;have qnil:=Lu;have q34:((⟨#[34]⟩:ByteArray)[0]'(by decide)).toNat=34:=rfl;have q92:((⟨#[92]⟩:ByteArray)[0]'(by decide)).toNat=92:=rfl;rcases hk with ⟨rfl,rfl,rfl⟩|⟨rfl,rfl,sg,hk⟩|⟨rfl,rfl,sg,oG,hk⟩
    ·have c0:=HT.o.at_ 34 (by omega);have c1:=HT.o.last;have qs:=Ee wr 34 34 rfl;have hsz2:=HB.o.size;go_wp2_with (at_builtin;refine wpList_append_own_at _ rfl _ _ 45 rfl w.heap.size 9 j0 _ 1 16 Tryz.underlying45 hj jz0 jz1 jz2 rfl (by decide) _ 0 [] rfl ((HO.o.alloc _).alloc _) ⟨wr.heap.size+1,0,none⟩ 1 1 [.string ⟨#[34]⟩] rfl rfl (Jw wr _ _ _ _) (by intro u hu;simp only [List.mem_cons,List.not_mem_nil,or_false] at hu;subst hu;rfl) ?d1 ?d2 ?d3 ?_)
     case d1=>unfold maxLen;omega
     case d2=>omega
     case d3=>simp;omega
     intro v2 w3 hown hgrow _ hat;have Uk:=O (((HT.o.keep (za wr _)).keep (za _ _)).grown hgrow HN.o);obtain⟨A2,n2,rfl⟩:=xF hown;have O3:=O hown;have B3:=O ((((HB.o.alloc hsz2 _).alloc (by simp;omega) _)).grown hgrow (by simp;omega) (λg hg=>jk HO.o g hg));have N3:=O (show(Value.slice A2 1 n2).ownBlock≠some X by
      rcases hat with q|q
      ·rw [q];exact HN.o
      ·rw [q];intro e;injection e with e;have:=HT.o.lt;omega)
     have d1:=Uk.o.last;have d2:=Uk.o.thaw 256 (by omega);clear hown hgrow hat HT HO HB HN c0 c1 e0 e1 e2 e3 qs hsz2;go_wp2_with fail;have O4:=O (ownsRow_setCell_other O3.o (a:=⟨X,256,none⟩) N3.o (.slice A2 1 n2));have T4:=O (Uk.o.setLast (.slice A2 1 n2));have B4:=O (B3.o.setCell (p:=⟨X,256,none⟩) Ya (.slice A2 1 n2));obtain⟨w4,hw4⟩:∃w4,w3.setCell ⟨X,256,none⟩ (.slice A2 1 n2)=w4:=⟨_,rfl⟩
     rw [hw4] at O4 T4 B4 ⊢;clear hw4 d1 d2 O3 Uk B3;obtain⟨c5,w5,hrun,JL,hcell⟩:=mO ⟨#[92,34]⟩ w4;rw [hrun];clear hrun;have hc0:=hcell 0 (by decide);have X5:=O (UC (w:=w5) (X:=X) (P:=w4.heap.size) (c:=c5) (g:=(Value.slice A2 1 n2).ownBlock) [92,34] (by have:=T4.o.lt;omega) (by intro e;have:=ej O4.o _ e;omega) (block_lt_of_cell hc0) hcell);have T5:=O (T4.o.keep JL);have B5:=bh B4 JL;have O5:=O (dO O4.o JL);have e1:=T5.o.at_ 34 (by omega);have e2:=T5.o.thaw 34 (by omega);clear hcell JL O4 T4 B4 hc0;go_wp2_with fail;go_roundw
     case rel =>
      refine O ⟨_,_,[.string ⟨#[34]⟩],ownsRow_setCell_other O5.o (a:=⟨X,34,none⟩) N3.o _,T5.o.set 34 (by omega) _,N3.o,B5.o.setCell (p:=⟨X,34,none⟩) Ya _,.inr (.inl ⟨rfl,rfl,by rw [if_pos rfl];exact X5.o.setX 34 _,λk hk=>by rw [if_neg hk]⟩)⟩
     case measure=>simp [intOf]
    ·have c0:=HT.o.at_ 92 (by omega);have c1:=HT.o.last;have qs:=Ee wr 92 92 rfl;have hsz2:=HB.o.size;have H34:=O sg;have HK:=O hk;have ek:f 92 = .slice none 0 0:=hk 92 (by decide);rw [ek] at c0;clear sg hk ek;go_wp2_with (at_builtin;refine wpList_append_own_at _ rfl _ _ 45 rfl w.heap.size 9 j0 _ 1 16 Tryz.underlying45 hj jz0 jz1 jz2 rfl (by decide) _ 1 [.string ⟨#[34]⟩] rfl ((HO.o.alloc _).alloc _) ⟨wr.heap.size+1,0,none⟩ 1 1 [.string ⟨#[92]⟩] rfl rfl (Jw wr _ _ _ _) (by intro u hu;simp only [List.mem_cons,List.not_mem_nil,or_false] at hu;subst hu;rfl) ?d1 ?d2 ?d3 ?_)
     case d1=>unfold maxLen;omega
     case d2=>omega
     case d3=>simp;omega
     intro v2 w3 hown hgrow _ hat;have Uk:=O (((HT.o.keep (za wr _)).keep (za _ _)).grown hgrow HN.o);obtain⟨A2,n2,rfl⟩:=xF hown;have O3:=O hown;have B3:=O ((((HB.o.alloc hsz2 _).alloc (by simp;omega) _)).grown hgrow (by simp;omega) (λg hg=>jk HO.o g hg));have N3:=O (show(Value.slice A2 2 n2).ownBlock≠some X by
      rcases hat with q|q
      ·rw [q];exact HN.o
      ·rw [q];intro e;injection e with e;have:=HT.o.lt;omega)
     have K3:=O (H34.o.regrow hgrow hat);have d1:=Uk.o.last;have d2:=Uk.o.thaw 256 (by omega);clear hown hgrow hat HT HO HB HN c0 c1 e0 e1 e2 e3 qs hsz2 H34;go_wp2_with fail;have O4:=O (ownsRow_setCell_other O3.o (a:=⟨X,256,none⟩) N3.o (.slice A2 2 n2));have T4:=O (Uk.o.setLast (.slice A2 2 n2));have B4:=O (B3.o.setCell (p:=⟨X,256,none⟩) Ya (.slice A2 2 n2));have K4:=O (K3.o.setX 256 (.slice A2 2 n2));obtain⟨w4,hw4⟩:∃w4,w3.setCell ⟨X,256,none⟩ (.slice A2 2 n2)=w4:=⟨_,rfl⟩
     rw [hw4] at O4 T4 B4 K4 ⊢;clear hw4 d1 d2 O3 Uk B3 K3;obtain⟨c5,w5,hrun,JL,hcell⟩:=mO ⟨#[92,92]⟩ w4;rw [hrun];clear hrun;have hc0:=hcell 0 (by decide);have X5:=O (UC (w:=w5) (X:=X) (P:=w4.heap.size) (c:=c5) (g:=(Value.slice A2 2 n2).ownBlock) [92,92] (by have:=T4.o.lt;omega) (by intro e;have:=ej O4.o _ e;omega) (block_lt_of_cell hc0) hcell);have T5:=O (T4.o.keep JL);have B5:=bh B4 JL;have O5:=O (dO O4.o JL);have K5:=O (K4.o.keep JL);have e1:=T5.o.at_ 92 (by omega);have e2:=T5.o.thaw 92 (by omega);clear hcell JL O4 T4 B4 K4 hc0;go_wp2_with fail;go_roundw
     case rel =>
      refine O ⟨_,_,[.string ⟨#[34]⟩,.string ⟨#[92]⟩],ownsRow_setCell_other O5.o (a:=⟨X,92,none⟩) N3.o _,T5.o.set 92 (by omega) _,N3.o,B5.o.setCell (p:=⟨X,92,none⟩) Ya _,.inr (.inr ⟨rfl,rfl,by rw [if_neg (by decide)];exact K5.o.setX 92 _,by rw [if_pos rfl];exact X5.o.setX 92 _,λk IE hk2=>by rw [if_neg hk2];exact HK.o k IE⟩)⟩
     case measure=>simp [intOf]
    ·have R:=O (U9 HO.o HT.o sg oG hk);clear sg oG hk HO HT HN e0 e1 e2 e3;go_wp2_with fail;go_ret;obtain⟨T,c,R⟩:=R.o;exact⟨X,f,T,c,rfl,Ya,R,HB.o⟩
theorem tG(b G C:Nat)(w:World)(h3:w.cell? ⟨b,3,none⟩=some .nilIface)(z3:w.frozen? ⟨b,3,none⟩=false)(z4:w.frozen? ⟨b,4,none⟩=false)(h4:w.cell? ⟨b,4,none⟩=some (.slice (some ⟨G,0,none⟩) 4 C))
 (t0:w.cell? ⟨G,0,none⟩=some (.string ⟨#[92]⟩)) (t1:w.cell? ⟨G,1,none⟩=some (.string ⟨#[92,92]⟩)) (t2:w.cell? ⟨G,2,none⟩=some (.string ⟨#[34]⟩)) (t3:w.cell? ⟨G,3,none⟩=some (.string ⟨#[92,34]⟩)):
 Calls Tryz.prog 121 #[.pointer (some ⟨b,0,none⟩)] w λe w'=>∃w1 X f T c,e = .returned (.tuple #[])/\w.heap.size<=X/\kX w1 X f T c/\Below w.heap.size w w1/\
  w'=(w1.setCell ⟨b,3,none⟩ (.iface 304 (.pointer (some ⟨X,0,none⟩)))).setCell ⟨b,4,none⟩ (.slice none 0 0):=by
 have K:=O (Gd b G C w h4 t0 t1 t2 t3);have H3:=O h3;have H4:=O h4;have Z3:=O z3;have Z4:=O z4;have hb3:=block_lt_of_cell h3;clear h3 h4 z3 z4 t0 t1 t2 t3;go_enter Tryz.func121,Tryz.ntmps121;go_wp2_with fail;refine(K.o).mono ?_;rintro e w1 ⟨X,f,T,c,rfl,hX,R,b1⟩;have R1:=O R;have B1:=O b1;have c3:=zb b1 H3.o;have c4:=zb b1 H4.o;have y3:=(bv b1).2 b 3 hb3;have y4:=(bv b1).2 b 4 hb3;rw [Z3.o] at y3;rw [Z4.o] at y4;clear R b1 K;go_wp2_with fail;go_end0;exact⟨w1,X,f,T,c,rfl,hX,R1.o,B1.o,rfl⟩
structure AN(w:World)(b G C:Nat):Prop where
 c0:w.cell? ⟨b,0,none⟩=some (.int .u32 0)
 c1:w.cell? ⟨b,1,none⟩=some (.int .i32 0)
 c3:w.cell? ⟨b,3,none⟩=some .nilIface
 c4:w.cell? ⟨b,4,none⟩=some (.slice (some ⟨G,0,none⟩) 4 C)
 z:∀k,w.frozen? ⟨b,k,none⟩=false
 t0:w.cell? ⟨G,0,none⟩=some (.string ⟨#[92]⟩)
 t1:w.cell? ⟨G,1,none⟩=some (.string ⟨#[92,92]⟩)
 t2:w.cell? ⟨G,2,none⟩=some (.string ⟨#[34]⟩)
 t3:w.cell? ⟨G,3,none⟩=some (.string ⟨#[92,34]⟩)
theorem kX.other{w:World}{X:Nat}{f:Nat->Value}{T c b:Nat}{n:Int}(h:kX w X f T c)(hb:w.cell? ⟨b,0,none⟩=some (.int .u32 n))(k:Nat)(u:Value):kX (w.setCell ⟨b,k,none⟩ u) X f T c:=by
 have ne:∀(Y:Nat) (v:Value),w.cell? ⟨Y,0,none⟩=some v->v≠ .int .u32 n->∀j,(w.setCell ⟨b,k,none⟩ u).cell? ⟨Y,j,none⟩=w.cell? ⟨Y,j,none⟩:=λY v hv hn j =>
  World.cell?_setCell_other _ ⟨b,k,none⟩ ⟨Y,j,none⟩ _ (by
   intro e;injection e with e;subst e
   rw [hb] at hv;injection hv with hv;exact hn hv.symm)
 have eX:=ne X _ (h.tab.at_ 0 (by decide)) (by rw [h.o 0 (by decide) (by decide)];simp);have eT:=ne T _ h.t0 (by simp);refine⟨⟨λj hj=>(eX j).trans (h.tab.at_ j hj),(eX 256).trans h.tab.last,λj hj=>by rw [World.frozen?_setCell];exact h.tab.thaw j hj⟩,(eT 0).trans h.t0,(eT 1).trans h.t1,?_,?_,h.o⟩
 ·obtain⟨P,d,h1,h2,h3⟩:=h.q;have e:=ne P _ h2 (by simp);exact⟨P,d,h1,(e 0).trans h2,(e 1).trans h3⟩
 ·obtain⟨P,d,h1,h2,h3⟩:=h.s;have e:=ne P _ h2 (by simp);exact⟨P,d,h1,(e 0).trans h2,(e 1).trans h3⟩
theorem LJ(b G C:Nat)(w:World)(h:AN w b G C)(UX:b≠G):
 Calls Tryz.prog 153 #[.pointer (some ⟨b,0,none⟩),.func (.func 121) #[.pointer (some ⟨b,0,none⟩)] #[]] w λe w'=>∃X f T c,e = .returned (.tuple #[])/\w.heap.size<=X/\kX w' X f T c/\
  w'.cell? ⟨b,3,none⟩=some (.iface 304 (.pointer (some ⟨X,0,none⟩)))/\w.grownBy w' (some b):=by
 have oth:∀(u:World) (i k:Nat) (v:Value),i≠k->(u.setCell ⟨b,i,none⟩ v).cell? ⟨b,k,none⟩=u.cell? ⟨b,k,none⟩:=λu i k v hik=>World.cell?_setCell_other _ ⟨b,i,none⟩ ⟨b,k,none⟩ _ (by intro e;injection e with _ e;exact hik e);have othG:∀(u:World) (i k:Nat) (v:Value),(u.setCell ⟨b,i,none⟩ v).cell? ⟨G,k,none⟩=u.cell? ⟨G,k,none⟩:=λu i k v=>World.cell?_setCell_other _ ⟨b,i,none⟩ ⟨G,k,none⟩ _ (by intro e;injection e with e;exact UX e);have hl:=run_call_load (P:=Tryz.prog) Tryz.func178 (by kernel_rfl) (by kernel_rfl) (by kernel_rfl) .u32 (by kernel_rfl) (w:=w.setCell ⟨b,1,none⟩ (.int .i32 1)) (a:=⟨b,0,none⟩) (x:=0) ((oth _ _ _ _ (by decide)).trans h.c0);have Fz:∀(x:Bool) (w:World),(Op.unary .not (.bool x)).run Tryz.prog w = .ok (.bool (!x)) w:=λ_ _=>rfl;have RB:=O oth;have KB:=O (tG b G C (w.setCell ⟨b,1,none⟩ (.int .i32 1)) ((oth _ _ _ _ (by decide)).trans h.c3) (by simp [h.z]) (by simp [h.z]) ((oth _ _ _ _ (by decide)).trans h.c4) ((othG _ _ _ _).trans h.t0) ((othG _ _ _ _).trans h.t1) ((othG _ _ _ _).trans h.t2) ((othG _ _ _ _).trans h.t3));have K:=O (Ms ⟨b,1,none⟩ w h.c1 (h.z 1));have H:=O h;clear h oth othG;go_enter_defers Tryz.func153,Tryz.ntmps153;go_wp2_with fail;refine(K.o).mono ?_;rintro e w1 ⟨rfl,rfl⟩;clear K;go_wp2_with (first|(go_at_call 121;refine(KB.o).mono ?_;rintro e w2 ⟨w1,X,f,T,c,rfl,hX,R,hb,rfl⟩)|(go_at_call 152;go_in));have hbl:=block_lt_of_cell H.o.c0;have q0:w1.cell? ⟨b,0,none⟩=some (.int .u32 0):=zb hb ((RB.o _ _ _ _ (by decide)).trans H.o.c0);have q1:w1.cell? ⟨b,1,none⟩=some (.int .i32 1):=zb hb (World.cell?_setCell_same w ⟨b,1,none⟩ _ H.o.c1);have q3:w1.cell? ⟨b,3,none⟩=some .nilIface:=zb hb ((RB.o _ _ _ _ (by decide)).trans H.o.c3);have qz:∀k,w1.frozen? ⟨b,k,none⟩=false:=λk=>((bv hb).2 b k (by simpa [World.setCell] using hbl)).trans (by simp [H.o.z]);have R1:=R.other q0 3 (.iface 304 (.pointer (some ⟨X,0,none⟩)));have p0:=(RB.o w1 3 0 (.iface 304 (.pointer (some ⟨X,0,none⟩))) (by decide)).trans q0;have p1:=(RB.o w1 3 1 (.iface 304 (.pointer (some ⟨X,0,none⟩))) (by decide)).trans q1;have p3:=World.cell?_setCell_same w1 ⟨b,3,none⟩ (.iface 304 (.pointer (some ⟨X,0,none⟩))) q3;have pz:∀k,(w1.setCell ⟨b,3,none⟩ (.iface 304 (.pointer (some ⟨X,0,none⟩)))).frozen? ⟨b,k,none⟩=false:=λk=>by rw [World.frozen?_setCell];exact qz k
 have G1:=((zl w ⟨b,1,none⟩ (.int .i32 1)).trans (zc hb (some b))).trans (zl w1 ⟨b,3,none⟩ (.iface 304 (.pointer (some ⟨X,0,none⟩))));generalize w1.setCell ⟨b,3,none⟩ (.iface 304 (.pointer (some ⟨X,0,none⟩)))=w3 at *;have R2:=R1.other p0 4 (.slice none 0 0);have s0:=(RB.o w3 4 0 (.slice none 0 0) (by decide)).trans p0;have s1:=(RB.o w3 4 1 (.slice none 0 0) (by decide)).trans p1;have s3:=(RB.o w3 4 3 (.slice none 0 0) (by decide)).trans p3;have sz:∀k,(w3.setCell ⟨b,4,none⟩ (.slice none 0 0)).frozen? ⟨b,k,none⟩=false:=λk=>by rw [World.frozen?_setCell];exact pz k
 have G2:=G1.trans (zl w3 ⟨b,4,none⟩ (.slice none 0 0));generalize w3.setCell ⟨b,4,none⟩ (.slice none 0 0)=w4 at *;refine leaves_cons (f:=181) (args:=#[.pointer (some ⟨b,0,none⟩),.bool true]) (by simp) (by simp [go_sem]) ?_;refine(tN ⟨b,0,none⟩ (.int .u32 0) .returning _ s0 (sz 0)).mono ?_;rintro e u' w'' ⟨rfl,rfl,rfl⟩;have R3:=(R2.keep ((Below.refl _ _).drew)).other (b:=b) (n:=0) (by rw [World.cell?_drew];exact s0) 0 (.int .u32 1);have v0:=World.cell?_setCell_same w4.drew ⟨b,0,none⟩ (.int .u32 1) (by rw [World.cell?_drew];exact s0);have v1:=(RB.o w4.drew 0 1 (.int .u32 1) (by decide)).trans s1;have v3:=(RB.o w4.drew 0 3 (.int .u32 1) (by decide)).trans s3;have vz:∀k,(w4.drew.setCell ⟨b,0,none⟩ (.int .u32 1)).frozen? ⟨b,k,none⟩=false:=λk=>by rw [World.frozen?_setCell,World.frozen?_drew];exact sz k
 have G3:=(G2.trans (zc ((Below.refl w4.heap.size w4).drew) (some b))).trans (zl w4.drew ⟨b,0,none⟩ (.int .u32 1));generalize w4.drew.setCell ⟨b,0,none⟩ (.int .u32 1)=w5 at *;refine leaves_cons (f:=180) (args:=#[.pointer (some ⟨b,1,none⟩)]) (by simp [settle]) (by simp [go_sem]) ?_;refine(rM ⟨b,1,none⟩ _ _ v1 (vz 1)).mono ?_;rintro e u' w'' ⟨rfl,rfl,rfl⟩;have R4:=R3.other v0 1 (.int .i32 0);have y3:=(RB.o w5 1 3 (.int .i32 0) (by decide)).trans v3;have G4:=G3.trans (zl w5 ⟨b,1,none⟩ (.int .i32 0));simp [Leaves,settle,results,Tryz.results153];exact⟨X,by simpa [World.setCell] using hX,⟨f,T,c,R4⟩,y3,G4⟩
theorem RG(b G C:Nat)(w:World)(h:AN w b G C)(UX:b≠G):
 Calls Tryz.prog 120 #[.pointer (some ⟨b,0,none⟩),.func (.func 121) #[.pointer (some ⟨b,0,none⟩)] #[]] w λe w'=>∃X f T c,e = .returned (.tuple #[])/\w.heap.size<=X/\kX w' X f T c/\
  w'.cell? ⟨b,3,none⟩=some (.iface 304 (.pointer (some ⟨X,0,none⟩)))/\w.grownBy w' (some b):=by
 have hl:=run_call_load (P:=Tryz.prog) Tryz.func178 (by kernel_rfl) (by kernel_rfl) (by kernel_rfl) .u32 (by kernel_rfl) h.c0;have Fz:∀(x:Bool) (w:World),(Op.unary .not (.bool x)).run Tryz.prog w = .ok (.bool (!x)) w:=λ_ _=>rfl;have KS:=O (LJ b G C w h UX);clear h;go_enter Tryz.func120,Tryz.ntmps120;go_wp2_with (first|(go_at_call 153;refine(KS.o).mono ?_;rintro e w1 ⟨X,f,T,c,rfl,hX,R,h3,hg⟩)|(go_at_call 152;go_in));go_end0;exact⟨X,f,T,c,rfl,hX,R,h3,hg⟩
theorem QT(g:Nat)(w:World)(t0:w.cell? ⟨g,0,none⟩=some (.string ⟨#[92]⟩))(t1:w.cell? ⟨g,1,none⟩=some (.string ⟨#[92,92]⟩))(t2:w.cell? ⟨g,2,none⟩=some (.string ⟨#[34]⟩))(t3:w.cell? ⟨g,3,none⟩=some (.string ⟨#[92,34]⟩)):
 Calls Tryz.prog 77 #[.slice (some ⟨g,0,none⟩) 4 4] w λe w'=>∃b G C,e = .returned (.pointer (some ⟨b,0,none⟩))/\AN w' b G C/\b≠G/\w.heap.size<=b/\Below w.heap.size w w':=by
 obtain⟨j0,hj,jz0,jz1,jz2⟩:=info_parts Og;go_enter Tryz.func77,Tryz.ntmps77;go_wp2_with fail;go_ret;generalize (Question.appendCap 4 0 9).cut (w.tape w.drawn (Question.appendCap 4 0 9))=C;have hs:∀(k:Nat) (v:Value),[Value.string ⟨#[92]⟩,.string ⟨#[92,92]⟩,.string ⟨#[34]⟩,.string ⟨#[92,34]⟩][k]?=some v->∀(o:Obj),((w.alloc (.cells (#[.string ⟨#[92]⟩,.string ⟨#[92,92]⟩,.string ⟨#[34]⟩,.string ⟨#[92,34]⟩] ++ Builtin.zeroCells #[.string ⟨#[]⟩] (C-4)) 9)).alloc o).drew.cell? ⟨w.heap.size,k,none⟩=some v:=λk v hk o=>by
  rw [World.cell?_drew];refine zb (za _ o) (zt (heap_alloc_last w _) ?_);rw [Array.getElem?_append,if_pos (by have:=(List.getElem?_eq_some_iff.1 hk).1;simpa using this)];simpa using hk
 refine⟨w.heap.size+1,w.heap.size,C,rfl,?_,by omega,by omega,(((Below.refl _ _).alloc (Nat.le_refl _) _).alloc (by simp) _).drew⟩;have hn:∀(k:Nat) (v:Value),[Value.int .u32 0,.int .i32 0,.int .u32 0,.nilIface,.slice (some ⟨w.heap.size,0,none⟩) 4 C][k]?=some v->((w.alloc (.cells (#[.string ⟨#[92]⟩,.string ⟨#[92,92]⟩,.string ⟨#[34]⟩,.string ⟨#[92,34]⟩] ++ Builtin.zeroCells #[.string ⟨#[]⟩] (C-4)) 9)).alloc (.cells #[.int .u32 0,.int .i32 0,.int .u32 0,.nilIface,.slice (some ⟨w.heap.size,0,none⟩) 4 C] 217)).drew.cell? ⟨w.heap.size+1,k,none⟩=some v:=λk v hk=>by
  rw [World.cell?_drew];have:=zt (heap_alloc_last (w.alloc (.cells (#[.string ⟨#[92]⟩,.string ⟨#[92,92]⟩,.string ⟨#[34]⟩,.string ⟨#[92,34]⟩] ++ Builtin.zeroCells #[.string ⟨#[]⟩] (C-4)) 9)) (.cells #[.int .u32 0,.int .i32 0,.int .u32 0,.nilIface,.slice (some ⟨w.heap.size,0,none⟩) 4 C] 217)) (k:=k) (u:=v) (by simpa using hk);simpa using this
 exact⟨hn 0 _ rfl,hn 1 _ rfl,hn 3 _ rfl,hn 4 _ rfl,λk=>by simp,hs 0 _ rfl _,hs 1 _ rfl _,hs 2 _ rfl _,hs 3 _ rfl _⟩
end Go.Proofs.YthifljpkgfpkiaaGreatDoor
