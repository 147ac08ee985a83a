/-
  val.Check: nodes that are a value. val.first, val.Compare. What slices that ..
-/
import Derived.Deep.Slices
import Derived.Laws.AppendOwnNone
import Derived.Deep.AppendLies
import Derived.Test.YtokiogmfgpidmaaGreatDoorD17
set_option maxRecDepth 100000
set_option maxHeartbeats 1000000
namespace Go.Proofs.YtokiogmfgpidmaaGreatDoor
open Go.RowKit Go.Wk Go.Sort
theorem zdq(a:Addr)(P:List Nd)(n c p R:Nat)(w:World)(hr:Gz w R (.slice (some a) n c) p)(hn:n=P.length)(hm:n<=maxLen)(hp:p<n)(hP:jt w (some a) P)(hO:gh P)(hs:zq (P[p]'(by omega))=true)
 (h7:(P[p]'(by omega)).op=7):
 Calls Tryz.prog 94 #[.pointer (some ⟨R,0,none⟩)] w (Kw R (some a) n c p w none):=by
 unfold maxLen at hm;have HR:=O hr;have HS:=O (λw1 (hb:Below w.heap.size w w1) o=>Tb hr hb o);obtain⟨c0,c1,f1⟩:=hr;have Iy:p<P.length:=by omega
 obtain⟨b,hb0,q1,q2,q3,q4⟩:=hP p P[p] (List.getElem?_eq_getElem Iy);injection hb0 with hb0;subst hb0;have S:=O (λw=>IY P[p] w (hO.at Iy).s (hO.at Iy).t);rw [hs] at S;unfold ndV at S;rw [h7] at q1 S;generalize P[p]=x at *;clear hO hP hn h7;go_enter Tryz.func94,Tryz.ntmps94;go_wp2_with fail;refine(S.o _).mono ?_;rintro e w1 ⟨rfl,hb⟩;replace c0:=za hb c0;replace c1:=za hb c1;replace q1:=za hb q1;replace q2:=za hb q2;replace q3:=za hb q3;replace q4:=za hb q4;have f1':=(hb.frozen (p:=⟨R,1,none⟩) HR.o.lt).trans f1;clear f1;have hR:=Nat.lt_of_lt_of_le HR.o.lt hb.size;have HB:=O hb;clear hb;go_wp2_with fail;exact⟨rfl,rfl,(HS.o _ HB.o _).2⟩
theorem PQ(A:Option Addr)(P:List Nd)(n c R:Nat)(hn:n=P.length)(hc:n<=c)(hm:n<=maxLen)(hO:gh P)(hR:0<P.length->∀a,A=some a->a.block≠R)(m:Nat):ziM P A n c R m:=by
 induction m with
 | zero=>intro q w _ _ h;omega
 | succ m ih =>
  intro p w hr hP hf
  by_cases hp:p<n
  ·have Iy:p<P.length:=by omega
   obtain⟨a,rfl,-⟩:=hP p P[p] (List.getElem?_eq_getElem Iy);have e:zl P (m+1) p=if zq P[p] then(if P[p].op=5 then zY P (zl P m) P[p].n.toNat none (p+1) else if P[p].op=6 then zV P (zl P m) P[p].n.toNat .empty (p+1) else if P[p].op=7 then none else some (p+1)) else none:=by
    simp only [zl,List.getElem?_eq_getElem Iy]
   rw [e];by_cases hs:zq P[p]=true
   ·rw [if_pos hs];by_cases h5:P[p].op=5
    ·rw [if_pos h5];exact zhZ a P n c p R m w hr hn hc hm hp hP hO hs h5 (hR (by omega) a rfl) ih hf
    rw [if_neg h5];by_cases h6:P[p].op=6
    ·rw [if_pos h6];exact zix a P n c p R m w hr hn hc hm hp hP hO hs h6 (hR (by omega) a rfl) ih hf
    rw [if_neg h6];by_cases h7:P[p].op=7
    ·rw [if_pos h7];exact zdq a P n c p R w hr hn hm hp hP hO hs h7
    rw [if_neg h7];exact zfy a P n c p R w hr hn hc hm hp hP hO hs (beq_eq_false_iff_ne.2 h5) (beq_eq_false_iff_ne.2 h6) (beq_eq_false_iff_ne.2 h7)
   ·rw [if_neg hs];exact zhP a P n c p R w hr hn hp hP hO (by simpa using hs)
  ·have e:zl P (m+1) p=none:=by
    simp only [zl,List.getElem?_eq_none (by omega:P.length<=p)]
   rw [e];exact zjl A n c p R w hr (by omega)
theorem Ur(p:Addr)(w:World):
 CallsD Tryz.prog 93 #[.pointer (some p)] .returning w λe u' w'=>e = .returned (.tuple #[])/\u' = .returning/\w'=w:=by
 refine callsD_of_wpS Tryz.func93 rfl λc₀ cs hu=>?_;apply wpS_seq;apply wpS_region;simp [wpOpsS,go_sem,recoverD,hu,Tryz.ntmps93,Exit.thenS];refine wpS_of_wp ?_;go_wp2_with fail;cases c₀;simp_all [bodyPostS,results,Tryz.results93]
theorem YJ(E:Nat)(v:Value)(older:List PanicEntry)(w:World)(hc:w.cell? ⟨E,0,none⟩=some v)(hz:w.frozen? ⟨E,0,none⟩=false):
 CallsD Tryz.prog 93 #[.pointer (some ⟨E,0,none⟩)] (.panicking ({ v := .iface 151 (.agg #[]),recovered:=false } :: older)) w λe u' w' =>
  e = .returned (.tuple #[])/\u' = .panicking ({ v := .iface 151 (.agg #[]),recovered:=true } :: older)/\w'=(w.setCell ⟨E,0,none⟩ (.iface 41 (.int .i64 1))).alloc (.cells #[] 151):=by
 have hl:E<w.heap.size:=block_lt_of_cell hc;have hta:∀w,(Instr.typeAssert (.iface 151 (.agg #[])) 20 151 true).run Tryz.prog w = .ok (.tuple #[.agg #[],.bool true]) w:=λ_=>by kernel_rfl
 refine callsD_of_wpS Tryz.func93 rfl λc₀ cs hu=>?_;apply wpS_seq;apply wpS_region;simp [wpOpsS,go_sem,recoverD,hu,Tryz.ntmps93];refine wpS_of_wp ?_;go_wp2_with fail;cases c₀;simp [bodyPostS,results,Tryz.results93]
theorem zcF(A:Option Addr)(n c:Nat)(P:List Nd)(w:World)(hn:n=P.length)(hm:n<=maxLen)(h:200<n):
 Calls Tryz.prog 55 #[.slice A n c] w λe w'=>e = .returned (fa (zc P))/\Below w.heap.size w w':=by
 have H:=O (show zc P=4 by unfold zc;rw [if_pos (by omega)]);unfold maxLen at hm;clear hn;go_enter_defers Tryz.func55,Tryz.ntmps55;go_wp2_with fail;simp [bodyPostD,Leaves,results,Tryz.results55,go_sem];rw [H.o];exact⟨rfl,zb _ _⟩
theorem jt.lt{w:World}{A:Option Addr}{P:List Nd}(h:jt w A P)(h0:0<P.length)(a:Addr)(e:A=some a):a.block<w.heap.size:=by
 obtain⟨b,hb,q,-⟩:=h 0 P[0] (List.getElem?_eq_getElem h0);rw [e] at hb;injection hb with hb;subst hb;have:=block_lt_of_cell q;rw [vW] at this;exact this
theorem MC{w w1:World}(o1 o2:Obj)(h:((w.alloc o1).alloc o2).grownBy w1 (some (w.heap.size+1))):
 Below w.heap.size w w1/\w1.cell? ⟨w.heap.size,0,none⟩=(w.alloc o1).cell? ⟨w.heap.size,0,none⟩/\w1.frozen? ⟨w.heap.size,0,none⟩=(w.alloc o1).frozen? ⟨w.heap.size,0,none⟩/\w.heap.size+2<=w1.heap.size:=by
 have hb:Below (w.heap.size+1) ((w.alloc o1).alloc o2) w1:=j7 h (Nat.le_refl _) (by simp);have hb2:Below (w.heap.size+1) (w.alloc o1) w1:=((Below.refl _ _).alloc (by simp) o2).trans hb;refine⟨(zb w o1).trans (hb2.mono (by omega)),hb2.cell (by simp),hb2.frozen (by simp),?_⟩;have:=h.size;simp at this;omega
theorem zdb(A:Option Addr)(n c:Nat)(P:List Nd)(w:World)(hn:n=P.length)(hc:n<=c)(hm:n<=maxLen)(hP:jt w A P)(hO:gh P)(h:¬200<n)(he:zl P (n+1) 0=none):
 Calls Tryz.prog 55 #[.slice A n c] w λe w'=>e = .returned (fa (zc P))/\Below w.heap.size w w':=by
 have H:=O (show zc P=1 by unfold zc;rw [if_neg (by omega),<-hn,he];rfl);have C:=O (λW h1 h2=>PQ A P n c (w.heap.size+1) hn hc hm hO (λh0 a e=>by have:=hP.lt h0 a e;omega) (n+1) 0 W h1 h2 (by omega));rw [he] at C;unfold maxLen at hm;have HP:=O hP;have hmf:∀(fn:Fn) (first cap:Array Value) (w:World),(Instr.makeFunc fn first cap).run Tryz.prog w = .ok (.func fn first cap) w:=λ_ _ _ _=>rfl;clear hn hP hO;go_enter_defers Tryz.func55,Tryz.ntmps55;go_wp2_with fail;refine(C.o _ ⟨by simp,by simp,by simp⟩ (HP.o.keep ((by(repeat' (first|exact Below.refl _ _|refine Below.alloc ?_ ?_ _|refine Below.setCell ?_ ?_ _|refine Below.drew ?_|refine Below.drewN ?_ _))<;>(try simp)<;> omega)))).mono ?_;rintro e w1 hpost;obtain⟨rfl,g1⟩:=hpost;obtain⟨b1,c1,f1,z1⟩:=MC _ _ g1;have c1':w1.cell? ⟨w.heap.size,0,none⟩=some .nilIface:=c1.trans (by simp);have f1':w1.frozen? ⟨w.heap.size,0,none⟩=false:=f1.trans (by simp);clear c1 f1 g1;go_wp2_with fail;refine leaves_cons (f:=93) (args:=#[.pointer (some ⟨w.heap.size,0,none⟩)]) (by simp) (by simp [go_sem]) ?_;refine(YJ w.heap.size _ [] w1 c1' f1').mono ?_;rintro e u' w2 ⟨rfl,rfl,rfl⟩;have hl:w.heap.size<w1.heap.size:=by omega
 simp [Leaves,settle,results,Tryz.results55,go_sem,c1',hl];rw [H.o];exact⟨rfl,(b1.setCell (p:=⟨w.heap.size,0,none⟩) (Nat.le_refl _) _).alloc (by simp [World.setCell];omega) _⟩
theorem zcH(A:Option Addr)(n c e:Nat)(P:List Nd)(w:World)(hn:n=P.length)(hc:n<=c)(hm:n<=maxLen)(hP:jt w A P)(hO:gh P)(h:¬200<n)(he:zl P (n+1) 0=some e):
 Calls Tryz.prog 55 #[.slice A n c] w λe w'=>e = .returned (fa (zc P))/\Below w.heap.size w w':=by
 have C:=O (λW h1 h2=>PQ A P n c (w.heap.size+1) hn hc hm hO (λh0 a e=>by have:=hP.lt h0 a e;omega) (n+1) 0 W h1 h2 (by omega));rw [he] at C;have hle:=jN _ _ _ he;rw [<-hn] at hle;have H:=O (show zc P=if e<n then 1 else 0 by
  unfold zc;rw [if_neg (by omega),<-hn,he]
  by_cases q:e<n
  ·rw [if_pos q,if_neg (by intro z;injection z with z;omega)]
  ·rw [if_neg q,if_pos (by congr 1;omega)])
 unfold maxLen at hm;have HP:=O hP;have hmf:∀(fn:Fn) (first cap:Array Value) (w:World),(Instr.makeFunc fn first cap).run Tryz.prog w = .ok (.func fn first cap) w:=λ_ _ _ _=>rfl;clear hn hP hO he;by_cases hen:e<n
 ·rw [if_pos hen] at H;go_enter_defers Tryz.func55,Tryz.ntmps55;go_wp2_with fail;refine(C.o _ ⟨by simp,by simp,by simp⟩ (HP.o.keep ((by(repeat' (first|exact Below.refl _ _|refine Below.alloc ?_ ?_ _|refine Below.setCell ?_ ?_ _|refine Below.drew ?_|refine Below.drewN ?_ _))<;>(try simp)<;> omega)))).mono ?_;rintro e w1 hpost;obtain⟨rfl,r1,g1⟩:=hpost;obtain⟨b1,c1,f1,z1⟩:=MC _ _ g1;have c1':w1.cell? ⟨w.heap.size,0,none⟩=some .nilIface:=c1.trans (by simp);have f1':w1.frozen? ⟨w.heap.size,0,none⟩=false:=f1.trans (by simp);have r2:=r1.c1;clear c1 f1 g1 r1;go_wp2_with fail;refine leaves_cons (f:=93) (args:=#[.pointer (some ⟨w.heap.size,0,none⟩)]) (by simp) (by simp [go_sem]) ?_;refine(Ur ⟨w.heap.size,0,none⟩ _).mono ?_;rintro e u' w2 ⟨rfl,rfl,rfl⟩;simp [Leaves,settle,results,Tryz.results55,go_sem,c1'];rw [H.o];exact⟨rfl,b1.setCell (p:=⟨w.heap.size,0,none⟩) (Nat.le_refl _) _⟩
 ·rw [if_neg hen] at H;obtain rfl:e=n:=by omega
  go_enter_defers Tryz.func55,Tryz.ntmps55;go_wp2_with fail;refine(C.o _ ⟨by simp,by simp,by simp⟩ (HP.o.keep ((by(repeat' (first|exact Below.refl _ _|refine Below.alloc ?_ ?_ _|refine Below.setCell ?_ ?_ _|refine Below.drew ?_|refine Below.drewN ?_ _))<;>(try simp)<;> omega)))).mono ?_;rintro e w1 hpost;obtain⟨rfl,r1,g1⟩:=hpost;obtain⟨b1,c1,f1,z1⟩:=MC _ _ g1;have c1':w1.cell? ⟨w.heap.size,0,none⟩=some .nilIface:=c1.trans (by simp);have f1':w1.frozen? ⟨w.heap.size,0,none⟩=false:=f1.trans (by simp);have r2:=r1.c1;clear c1 f1 g1 r1;go_wp2_with fail;refine leaves_cons (f:=93) (args:=#[.pointer (some ⟨w.heap.size,0,none⟩)]) (by simp) (by simp [go_sem]) ?_;refine(Ur ⟨w.heap.size,0,none⟩ _).mono ?_;rintro e u' w2 ⟨rfl,rfl,rfl⟩;simp [Leaves,settle,results,Tryz.results55,go_sem,c1'];rw [H.o];exact⟨rfl,b1.setCell (p:=⟨w.heap.size,0,none⟩) (Nat.le_refl _) _⟩
theorem Mi(A:Option Addr)(n c:Nat)(P:List Nd)(w:World)(hn:n=P.length)(hc:n<=c)(hm:n<=maxLen)(hP:jt w A P)(hO:gh P):
 Calls Tryz.prog 55 #[.slice A n c] w λe w'=>e = .returned (fa (zc P))/\Below w.heap.size w w':=by
 by_cases h:200<n
 ·exact zcF A n c P w hn hm h
 ·rcases he:zl P (n+1) 0 with _|e
  ·exact zdb A n c P w hn hc hm hP hO h he
  ·exact zcH A n c e P w hn hc hm hP hO h he
end Go.Proofs.YtokiogmfgpidmaaGreatDoor
namespace Go.Wk
end Go.Wk
namespace Go.Proofs.YtokiogmfgpidmaaGreatDoor
open Go.RowKit Go.Wk Go.Sort
theorem UU{x y:Nd}(h:x=y):NH x y=0:=(OG.zero x y).2 h
theorem zc6{x y:Nd}(h:x≠y)(w:World):(binOp .neq 28 (.agg #[.int .i64 x.op,.int .i64 x.n,.string x.s,.string x.t]) (.agg #[.int .i64 y.op,.int .i64 y.n,.string y.s,.string y.t])).run Tryz.prog w = .ok (.bool true) w:=by
 simp [go_sem];exact λh1 h2 h3 h4=>h (Nd.ext4 h1 h2 (toList_inj h3) (toList_inj h4))
theorem Ku{P Q:List Nd}{k:Nat}(h1:k<P.length)(h2:k<Q.length)(h:P[k]≠Q[k])(hc:zu P Q=zu (P.drop k) (Q.drop k)):zu P Q≠0:=by
 rw [hc,IR h1 h2,jw (λe=>h ((OG.zero _ _).1 e))];exact λe=>h ((OG.zero _ _).1 e)
theorem zcE(A B:Option Addr)(n m c d:Nat)(P Q:List Nd)(w:World)(hn:n=P.length)(hm:m=Q.length)(hln:n<=maxLen)(hlm:m<=maxLen)(hP:jt w A P)(hQ:jt w B Q):
 Calls Tryz.prog 7 #[.slice A n c,.slice B m d] w λe w'=>e = .returned (.bool (decide (zu P Q=0)))/\Below w.heap.size w w':=by
 unfold maxLen at hln hlm;have HN:=O hn;have HM:=O hm;have HP:=O hP;have HQ:=O hQ;clear hn hm hP hQ;by_cases hl:n=m
 ·subst hl;go_enter Tryz.func7,Tryz.ntmps7;go_wp2_with fail;go_loopw [5] (λi wr=>∃k:Nat,k<=n/\i = .int .i64 k/\Hid (zu P Q=zu (P.drop k) (Q.drop k))/\Hid (Below w.heap.size w wr)) (λi _=>n-(intOf i).toNat)
  case atStart=>exact⟨0,Nat.zero_le _,rfl,rfl,Below.refl _ _⟩
  case round =>
   obtain⟨k,hk,rfl,hE,hB⟩:=hrel;by_cases hlt:k<n
   ·have h1:k<P.length:=by rw [<-HN.o];exact hlt
    have h2:k<Q.length:=by rw [<-HM.o];exact hlt
    obtain⟨a,rfl,a1,a2,a3,a4⟩:=(HP.o.keep hB.o) k P[k] (List.getElem?_eq_getElem h1);obtain⟨b,rfl,b1,b2,b3,b4⟩:=(HQ.o.keep hB.o) k Q[k] (List.getElem?_eq_getElem h2);by_cases he:P[k]=Q[k]
    ·have HE:=O (hE.o.trans ((IR h1 h2).trans (by rw [UU he,zM])));rw [he] at a1 a2 a3 a4;generalize Q[k]=y at *;clear he hE;go_wp2_with fail;go_quiet (fail);go_wp2_with fail;go_roundw
     case rel=>exact⟨k+1,by omega,by go_num,HE,hB.o.drewN _⟩
     case measure=>simp [intOf];omega
    ·have HE:=O (Ku h1 h2 he hE.o);have hne:=λw=>zc6 he w;generalize P[k]=x at *;generalize Q[k]=y at *;clear he hE;go_wp2_with fail;go_quiet (fail);go_wp2_with fail;go_ret;exact⟨zn (decide_eq_false HE.o).symm,hB.o.drewN _⟩
   ·have HE:=O (hE.o.trans (Gv (by rw [<-HN.o];omega) (by rw [<-HM.o];omega)));clear hE;go_wp2_with fail;go_ret;exact⟨zn (decide_eq_true HE.o).symm,hB.o⟩
 ·have HE:=O (show zu P Q≠0 from λh=>hl (by rw [HN.o,HM.o,(zO.zero _ _).1 h]));have h3:(n != m)=true:=by rw [bne_iff_ne];exact hl
  clear hl;go_enter Tryz.func7,Tryz.ntmps7;go_wp2_with fail;go_ret;exact⟨zn (decide_eq_false HE.o).symm,Below.refl _ _⟩
def zL:List Nd->List Value
 | [] => []
 | x :: r => .int .i64 x.op :: .int .i64 x.n :: .string x.s :: .string x.t :: zL r
theorem ow(P Q:List Nd):zL (P ++ Q)=zL P ++ zL Q:=by
 induction P with
 | nil=>rfl
 | cons x P ih=>simp [zL,ih]
theorem v7(P:List Nd):(zL P).length=P.length*4:=by
 induction P with
 | nil=>rfl
 | cons x P ih=>simp only [zL,List.length_cons,ih];omega
theorem TX(P:List Nd)(k:Nat)(x:Nd)(h:P[k]?=some x):(zL P)[k*4]?=some (.int .i64 x.op)/\(zL P)[k*4+1]?=some (.int .i64 x.n)/\(zL P)[k*4+2]?=some (.string x.s)/\(zL P)[k*4+3]?=some (.string x.t):=by
 induction P generalizing k with
 | nil=>simp at h
 | cons y P ih =>
  cases k with
  | zero=>simp only [List.getElem?_cons_zero,Option.some.injEq] at h;subst h;exact⟨rfl,rfl,rfl,rfl⟩
  | succ k =>
   have:=ih k (by simpa using h)
   rw [show(k+1)*4=k*4+1+1+1+1 by omega]
   simp only [zL,List.getElem?_cons_succ]
   exact this
theorem Iz(g o k:Nat):(⟨g,o,none⟩:Addr).add k=⟨g,o+k,none⟩:=by
 unfold Addr.add;split
 ·rename_i h0;subst h0;rfl
 ·simp
theorem Pu{w:World}{b o:Nat}{P:List Nd}(h:∀(j:Nat) u,(zL P)[j]?=some u->w.cell? ((⟨b,o,none⟩:Addr).add j)=some u):jt w (some ⟨b,o,none⟩) P:=by
 intro k x hx;obtain⟨h1,h2,h3,h4⟩:=TX P k x hx;have g1:=h _ _ h1;have g2:=h _ _ h2;have g3:=h _ _ h3;have g4:=h _ _ h4;simp only [Iz] at g1 g2 g3 g4;exact⟨_,rfl,by simp only [Iz];exact g1,by simp only [Iz];exact g2,by simp only [Iz];exact g3,by simp only [Iz];exact g4⟩
theorem zeT(w:World)(P:List Nd)(t:TypeId):jt (w.alloc (.cells (zL P).toArray t)) (some ⟨w.heap.size,0,none⟩) P:=Pu (jP w _ t)
end Go.Proofs.YtokiogmfgpidmaaGreatDoor
namespace Go.Wk
open Go.ChangeShapes Go.WideShapes Go.RowKit Go.Deep
section
variable {P:Program} {w:World} {t:TypeId} {cs:List Value}
theorem zlJ{α:Type}(n:Nat)(R:Nat->α->Prop)(h:∀i,i<n->∃x,R i x):∃l:List α,l.length=n/\∀k x,l[k]?=some x->R k x:=by
 induction n with
 | zero=>exact⟨[],rfl,λk x hx=>by simp at hx⟩
 | succ n ih =>
  obtain⟨l,hl,hr⟩:=ih (λi hi=>h i (by omega))
  obtain⟨y,hy⟩:=h n (by omega)
  refine⟨l ++ [y],by simp [hl],λk x hx=>?_⟩
  by_cases hk:k<n
  ·rw [List.getElem?_append_left (by omega)] at hx;exact hr k x hx
  ·rw [List.getElem?_append_right (by omega)] at hx
   by_cases hk2:k=n
   ·subst hk2;rw [hl,Nat.sub_self] at hx;simp only [List.getElem?_cons_zero,Option.some.injEq] at hx;subst hx;exact hy
   ·have:k-l.length≠0:=by omega
    obtain⟨j,hj⟩:∃j,k-l.length=j+1:=⟨k-l.length-1,by omega⟩
    rw [hj] at hx;simp at hx
theorem zjg{e:TypeId}(ht:P.underlying t=some (.slice e))(h:Rd P w t cs):
 ∃(A:Option Addr) (n c:Nat),cs = [.slice A n c]/\n<=c/\c<=maxLen/\∀i,i<n->∃a,A=some a/\∃cs':List Value,cs'.length=P.cellsOf e/\(∀j,j<P.cellsOf e->w.cell? (a.add (i*P.cellsOf e+j))=cs'[j]?)/\Rd P w e cs':=by
 obtain⟨H,enc,b,sp,hd,f,x,hx⟩:=h;rcases open_slice ht hx with ⟨h0,_⟩|⟨a,len,cap,m,n,D,Pl,hcs,hb,hl,hm,hmm,hx,hi⟩
 ·exact⟨none,0,0,h0,Nat.le_refl _,by unfold maxLen;omega,λi hi=>by omega⟩
 ·refine⟨some a,len,cap,hcs,hl,hm,λi hil=>⟨a,rfl,?_⟩⟩;obtain⟨cs',hc,ht'⟩:=hi i (by rw [hmm];split <;> omega);obtain⟨_,hcl,hat⟩:=World.cells?_some hc;refine⟨cs',hcl,λj hj=>?_,⟨H,enc,b,sp,hd,n,_,ht'⟩⟩;have:=hat j hj;rw [<-Go.Deep.add_add];exact this
end
end Go.Wk
namespace Go.Proofs.YtokiogmfgpidmaaGreatDoor
open Go.Wk Go.ChangeShapes Go.WideShapes Go.RowKit
structure Ns(w:World)(A:Option Addr)(n c:Nat)(P:List Nd):Prop where
 len:n=P.length
 cap:n<=c
 max:n<=maxLen
 at_:jt w A P
 ok:gh P
theorem Ns.keep{w w':World}{A:Option Addr}{n c:Nat}{P:List Nd}(h:Ns w A n c P)(hb:Below w.heap.size w w'):Ns w' A n c P:=⟨h.len,h.cap,h.max,h.at_.keep hb,h.ok⟩
theorem Ns.same{w:World}{A B:Option Addr}{n c m d:Nat}{P Q:List Nd}(h:Ns w A n c P)(k:Ns w B m d Q):
 Calls Tryz.prog 7 #[.slice A n c,.slice B m d] w λe w'=>e = .returned (.bool (decide (zu P Q=0)))/\Below w.heap.size w w' :=
 zcE A B n m c d P Q w h.len k.len h.max k.max h.at_ k.at_
theorem TQ:Tryz.prog.cellsOf 28=4:=by kernel_rfl
theorem Xx:Tryz.prog.cellsOf 3=1:=by kernel_rfl
theorem zln{w:World}{cs:List Value}(h:Rd Tryz.prog w 28 cs):∃x:Nd,cs = [.int .i64 x.op,.int .i64 x.n,.string x.s,.string x.t]/\Kb x:=by
 have hl:=(Xg Tryz.underlying28 h).1;rw [TQ] at hl
 match cs,hl with
 | [c0,c1,c2,c3],_ =>
  have h0:Rd Tryz.prog w 3 [c0]:=Qz Tryz.underlying28 h 0 3 0 1 rfl Xx
  have h1:Rd Tryz.prog w 3 [c1]:=Qz Tryz.underlying28 h 1 3 1 1 rfl Xx
  have h2:Rd Tryz.prog w 9 [c2]:=Qz Tryz.underlying28 h 2 9 2 1 rfl MO
  have h3:Rd Tryz.prog w 9 [c3]:=Qz Tryz.underlying28 h 3 9 3 1 rfl MO
  obtain⟨o,e0,o1,o2⟩:=zio Tryz.underlying3 h0
  obtain⟨n,e1,n1,n2⟩:=zio Tryz.underlying3 h1
  obtain⟨a,e2,s2⟩:=WV Tryz.underlying9 h2
  obtain⟨b,e3,s3⟩:=WV Tryz.underlying9 h3
  simp only [List.cons.injEq,and_true] at e0 e1 e2 e3
  exact⟨⟨o,n,a,b⟩,by rw [e0,e1,e2,e3],s2,s3,n1,n2⟩
theorem zjE{w:World}{cs:List Value}(h:Rd Tryz.prog w 22 cs):
 ∃(A:Option Addr) (n c:Nat) (P:List Nd),cs = [.slice A n c]/\n=P.length/\n<=c/\n<=maxLen/\jt w A P/\gh P:=by
 obtain⟨A,n,c,rfl,h1,h2,h3⟩:=zjg Tryz.underlying22 h;rw [TQ] at h3;obtain⟨P,hl,hr⟩:=zlJ n (λk x=>(∃a,A=some a/\w.cell? (a.add (k*4))=some (.int .i64 x.op)/\w.cell? (a.add (k*4+1))=some (.int .i64 x.n)/\w.cell? (a.add (k*4+2))=some (.string x.s)/\w.cell? (a.add (k*4+3))=some (.string x.t))/\Kb x) (λi hi=>by
  obtain⟨a,rfl,cs',hl,hc,hr⟩:=h3 i hi
  obtain⟨x,rfl,hx⟩:=zln hr
  exact⟨x,⟨a,rfl,hc 0 (by omega),hc 1 (by omega),hc 2 (by omega),hc 3 (by omega)⟩,hx⟩)
 refine⟨A,n,c,P,rfl,hl.symm,h1,by omega,λk x hx=>?_,λx hx=>?_⟩
 ·obtain⟨⟨a,e,q1,q2,q3,q4⟩,-⟩:=hr k x hx;refine⟨a,e,q1,?_,?_,?_⟩
  all_goals
   rw [<-add_add] at q2 q3 q4;unfold Addr.add at q2 q3 q4 ⊢
   first|(simpa using q2)|(simpa using q3)|(simpa using q4)
 ·obtain⟨k,hk,rfl⟩:=List.getElem_of_mem hx;exact(hr k _ (List.getElem?_eq_getElem hk)).2
theorem zc1{H:Type}{enc:TypeId × Value->H}{w:World}{b b0:Nat}{sp:Nat->Bool}{hd:Bool}{v:Value}{d:DataW H}{ps:List MemPlace}{r:Reach}
 (hv:Value.okWide Tryz.prog w r b0 22 v) (h:DataW.Trod enc Tryz.prog w b sp hd 22 v d ps):
 ∃(A:Option Addr) (n c:Nat) (P:List Nd),v = .slice A n c/\Ns w A n c P:=by
 obtain⟨A',n',c',rfl⟩:=okWide_slice Tryz.underlying22 hv;obtain⟨A,n,c,P,e,h1,h2,h3,h4,h5⟩:=zjE (zdr h);have e':(Value.slice A' n' c')= .slice A n c:=by simpa [Value.cells] using e
 exact⟨A,n,c,P,e',h1,h2,h3,h4,h5⟩
end Go.Proofs.YtokiogmfgpidmaaGreatDoor
namespace Go.Proofs.YtokiogmfgpidmaaGreatDoor
open Go.RowKit Go.Wk Go.Sort
theorem rq{P:Program}{f:FuncId}{args:Array Value}{w:World}{v:Value}(h:∀w',Below w.heap.size w w'->Calls P f args w' λe w''=>e = .returned v/\Below w'.heap.size w' w''):
 ∀d os,Calls P f args (grow (redrawn w d) os) λe w''=>e = .returned v/\∃p:Regrown,w''=grow (redrawn w p.d) p.os :=
 λd os=>Calls.regrown_of (h _ (below_regrown w d os))
theorem rqs{P:Program}{f:FuncId}{args:Array Value}{w:World}{v:Value}(h:∀w',Calls P f args w' λe w''=>e = .returned v/\w'=w''):
 ∀d os,Calls P f args (grow (redrawn w d) os) λe w''=>e = .returned v/\∃p:Regrown,w''=grow (redrawn w p.d) p.os :=
 λd os=>(h _).mono λ_ _ ⟨he,hw⟩=>⟨he,⟨⟨d,os⟩,hw.symm⟩⟩
structure Nd4(w:World)(a:Addr)(x:Nd):Prop where
 c0:w.cell? a=some (.int .i64 x.op)
 c1:w.cell? ⟨a.block,a.off+1,none⟩=some (.int .i64 x.n)
 c2:w.cell? ⟨a.block,a.off+2,none⟩=some (.string x.s)
 c3:w.cell? ⟨a.block,a.off+3,none⟩=some (.string x.t)
theorem Nd4.keep{w w':World}{a:Addr}{x:Nd}(h:Nd4 w a x)(hb:Below w.heap.size w w'):Nd4 w' a x :=
 ⟨za hb h.c0,za hb h.c1,za hb h.c2,za hb h.c3⟩
theorem jt.nd{w:World}{A:Option Addr}{P:List Nd}(h:jt w A P){k:Nat}(hk:k<P.length):∃a,A=some a/\Nd4 w (a.add (k*4)) P[k] :=
 let ⟨a,e,h1,h2,h3,h4⟩:=h k P[k] (List.getElem?_eq_getElem hk);⟨a,e,h1,h2,h3,h4⟩
theorem gh.seg{P:List Nd}(h:gh P)(i j:Nat):gh (seg P i j):=λx hx=>h x (List.mem_of_mem_drop (List.mem_of_mem_take hx))
structure Sl where
 A:Option Addr
 n:Nat
 c:Nat
 P:List Nd
def Sl.v(r:Sl):Value := .slice r.A r.n r.c
def ou(w:World)(A:Option Addr)(V:List Sl):Prop :=
 ∀(k:Nat) (r:Sl),V[k]?=some r->∃a,A=some a/\w.cell? (a.add k)=some (.slice r.A r.n r.c)/\Ns w r.A r.n r.c r.P
theorem ou.keep{w w':World}{A:Option Addr}{V:List Sl}(h:ou w A V)(hb:Below w.heap.size w w'):ou w' A V :=
 λk r hk=>let ⟨a,h1,h2,h3⟩:=h k r hk;⟨a,h1,za hb h2,h3.keep hb⟩
theorem ou.at{w:World}{A:Option Addr}{V:List Sl}(h:ou w A V){k:Nat}(hk:k<V.length):∃a,A=some a/\w.cell? (a.add k)=some (.slice V[k].A V[k].n V[k].c)/\Ns w V[k].A V[k].n V[k].c V[k].P :=
 h k V[k] (List.getElem?_eq_getElem hk)
theorem Ns.but{w w':World}{A:Option Addr}{n c:Nat}{P:List Nd}{R:Nat}(h:Ns w A n c P)(hg:w.grownBy w' (some R))(hR:0<P.length->∀a,A=some a->a.block≠R):Ns w' A n c P:=by
 refine⟨h.len,h.cap,h.max,?_,h.ok⟩;rcases Nat.eq_zero_or_pos P.length with h0|h0
 ·intro k x hx;have:P = []:=List.eq_nil_of_length_eq_zero h0;subst this;simp at hx
 ·exact h.at_.but hg (hR h0)
def td(r:Sl)(g:Option Nat):Prop:=0<r.P.length->∀a,r.A=some a->g≠some a.block
theorem Ns.row{w w':World}{r:Sl}{g:Option Nat}(h:Ns w r.A r.n r.c r.P)(hg:w.grownBy w' g)(ha:td r g):Ns w' r.A r.n r.c r.P:=by
 rcases g with _|g
 ·exact h.keep (ME hg)
 ·exact h.but hg (λh0 a e q=>ha h0 a e (by rw [q]))
structure zX(w:World)(B:Nat)(v:Value)(V:List Sl):Prop where
 own:w.ownsRow B 22 1 v V.length (V.map Sl.v)
 each:∀r∈V,Ns w r.A r.n r.c r.P
 apart:∀r∈V,td r v.ownBlock
theorem zX.nil(w:World)(B:Nat):zX w B (.slice none 0 0) []:=⟨World.ownsRow_nil w B _ 1,(by intro r hr;cases hr),(by intro r hr;cases hr)⟩
theorem zX.keep{w w':World}{B:Nat}{v:Value}{V:List Sl}(h:zX w B v V)(hb:Below w.heap.size w w'):zX w' B v V :=
 ⟨h.own.kept (zA hb none) (by cases hv:v.ownBlock <;> simp),λr hr=>(h.each r hr).keep hb,h.apart⟩
theorem zX.row{w w':World}{B:Nat}{v:Value}{V:List Sl}{g:Option Nat}(h:zX w B v V)(hg:w.grownBy w' g)(hne:v.ownBlock=none\/v.ownBlock≠g)(ha:∀r∈V,td r g):zX w' B v V :=
 ⟨h.own.kept hg hne,λr hr=>(h.each r hr).row hg (ha r hr),h.apart⟩
theorem zX.snoc{w w':World}{B:Nat}{v v':Value}{V:List Sl}{r:Sl}{o:Obj}(h:zX w B v V)(hr:Ns w r.A r.n r.c r.P)(ha:td r v.ownBlock)
 (hown:w'.ownsRow B 22 1 v' (V.length+1) (V.map Sl.v ++ [r.v])) (hg:(w.alloc o).grownBy w' v.ownBlock) (hat:v'.ownBlock=v.ownBlock\/v'.ownBlock=some (w.alloc o).heap.size):zX w' B v' (V ++ [r]):=by
 have hba:Below w.heap.size w (w.alloc o):=zb w o;have hlt:∀x∈V ++ [r],Ns w x.A x.n x.c x.P/\td x v.ownBlock:=by
  intro x hx;rcases List.mem_append.1 hx with h1|h1
  ·exact⟨h.each x h1,h.apart x h1⟩
  ·simp only [List.mem_cons,List.not_mem_nil,or_false] at h1;subst h1;exact⟨hr,ha⟩
 refine⟨?_,λx hx=>((hlt x hx).1.keep hba).row hg (hlt x hx).2,λx hx h0 a e=>?_⟩
 ·simpa using hown
 ·rcases hat with e'|e'
  ·rw [e'];exact(hlt x hx).2 h0 a e
  ·rw [e'];have:=(hlt x hx).1.at_.lt h0 a e;intro q;injection q with q;simp at q;omega
theorem zX.at{w:World}{B:Nat}{v:Value}{V:List Sl}(h:zX w B v V):∃A c,v = .slice A V.length c/\V.length<=c/\ou w A V:=by
 rcases h.own.2 with ⟨rfl,h0⟩|⟨g,cap,cur,rfl,_,_,hc,_⟩
 ·have:V = []:=List.eq_nil_of_length_eq_zero h0;subst this;exact⟨none,0,rfl,Nat.le_refl _,λk r hk=>by simp at hk⟩
 ·refine⟨some ⟨g,0,none⟩,cap,rfl,hc,λk r hk=>⟨_,rfl,?_,h.each r (List.mem_of_getElem? hk)⟩⟩;exact h.own.cells (g:=g) rfl k _ (by rw [List.getElem?_map,hk];rfl)
theorem ML:(Tryz.prog.info? 22).map (λi=>(i.zero,i.size,i.bytes))=some (some (.slice none 0 0),1,24):=by kernel_rfl
theorem jt.cells{w:World}{a:Addr}{P:List Nd}(h:jt w (some a) P):∀j u,(zL P)[j]?=some u->w.cell? (a.add j)=some u:=by
 intro j u hu;have hl:=v7 P;have hj:j<(zL P).length:=(List.getElem?_eq_some_iff.1 hu).1;have hk:j / 4<P.length:=by omega
 obtain⟨h1,h2,h3,h4⟩:=TX P (j / 4) P[j / 4] (List.getElem?_eq_getElem hk);obtain⟨b,e,q1,q2,q3,q4⟩:=h (j / 4) P[j / 4] (List.getElem?_eq_getElem hk);injection e with e;subst e;have hr:j % 4=0\/j % 4=1\/j % 4=2\/j % 4=3:=by omega
 have nx:∀(x d:Nat),0<d->(⟨(a.add x).block,(a.add x).off+d,none⟩:Addr)=a.add (x+d):=by
  intro x d hd;unfold Addr.add;by_cases hx:x=0
  ·subst hx;simp;omega
  ·simp [hx,Nat.add_assoc]
 rcases hr with hr|hr|hr|hr
 ·have e:j=j / 4*4:=by omega
  rw [<-e] at h1 q1;rw [hu] at h1;rw [h1];exact q1
 ·have e:j=j / 4*4+1:=by omega
  rw [nx _ _ (by omega),<-e] at q2;rw [<-e] at h2;rw [hu] at h2;rw [h2];exact q2
 ·have e:j=j / 4*4+2:=by omega
  rw [nx _ _ (by omega),<-e] at q3;rw [<-e] at h3;rw [hu] at h3;rw [h3];exact q3
 ·have e:j=j / 4*4+3:=by omega
  rw [nx _ _ (by omega),<-e] at q4;rw [<-e] at h4;rw [hu] at h4;rw [h4];exact q4
theorem CV(P:List Nd):∀u∈zL P,u.oneCell'=true:=by
 induction P with
 | nil=>intro u hu;cases hu
 | cons x P ih =>
  intro u hu
  simp only [zL,List.mem_cons] at hu
  rcases hu with rfl|rfl|rfl|rfl|hu
  ·rfl
  ·rfl
  ·rfl
  ·rfl
  ·exact ih u hu
theorem Ru:(Tryz.prog.info? 28).map (λi=>(i.zero,i.size,i.bytes))=some (some (.agg #[.int .i64 0,.int .i64 0,.string ⟨#[]⟩,.string ⟨#[]⟩]),4,48):=by kernel_rfl
theorem vl{w:World}{B:Nat}{v:Value}{P:List Nd}(h:w.ownsRow B 28 4 v P.length (zL P)):∃A c,v = .slice A P.length c/\P.length<=c/\jt w A P/\(∀a,A=some a->B<=a.block):=by
 rcases h.2 with ⟨rfl,h0⟩|⟨g,cap,cur,rfl,hB,_,hc,_⟩
 ·have:P = []:=List.eq_nil_of_length_eq_zero h0;subst this;exact⟨none,0,rfl,Nat.le_refl _,λk x hx=>by simp at hx,λa e=>by cases e⟩
 ·exact⟨some ⟨g,0,none⟩,cap,rfl,hc,Pu (h.cells (g:=g) rfl),λa e=>by injection e with e;subst e;exact hB⟩
def zpe(w:World)(P:List Nd)(e:Ending)(w':World):Prop:=∃(A:Option Addr) (c:Nat),e = .returned (.slice A P.length c)/\Ns w' A P.length c P/\(∀a,A=some a->w.heap.size<=a.block)/\Below w.heap.size w w'
theorem RG(a:Addr)(n c:Nat)(P:List Nd)(w:World)(h:Ns w (some a) n c P)(hl:P.length<=100000):
 Calls Tryz.prog 168 #[.slice (some a) n c] w (zpe w P):=by
 obtain⟨i0,hi,hz0,hz1,hz2⟩:=info_parts Ru;have hn:=h.len;have HC:=O (λw' hb=>(h.at_.keep (w':=w') hb).cells);have HO:=O h.ok;have HL:=O hl;clear h hl;subst hn;have hnil:=λw:World=>Lib.run_eql_slice_nil (P:=Tryz.prog) w 22 28 (some a) P.length c 0 0 Tryz.underlying22;simp only [Option.isNone_some] at hnil;go_enter Tryz.func168,Tryz.ntmps168;have hB:∀W:World,(W.alloc (.cells #[] 28)).ownsRow W.heap.size 28 4 (.slice (some ⟨W.heap.size,0,none⟩) 0 0) 0 []:=λW =>
  ⟨rfl,.inr ⟨_,0,#[],rfl,Nat.le_refl _,heap_alloc_new W _,Nat.le_refl _,by unfold maxLen;omega,rfl,rfl⟩⟩
 go_wp2_with (at_builtin;refine wpList_append_own _ rfl _ _ 22 rfl w.heap.size 28 i0 _ 4 48 Tryz.underlying22 hi hz0 hz1 hz2 rfl (by decide) _ 0 [] rfl (hB w) a P.length c (zL P) rfl (v7 P) (HC.o _ (zb _ _)) (CV P) ?c1 ?c2 ?c3 ?_)
 case c1=>have:=HL.o;unfold maxLen;omega
 case c2=>have:=HL.o;omega
 case c3=>simp
 intro v1 w1 hown hgrow _;have HW:=O hown;have HG:=O hgrow;clear hown hgrow hnil;go_wp2_with fail;go_ret;obtain⟨A,c',rfl,h1,h2,h3⟩:=vl HW.o;refine⟨A,c',rfl,⟨rfl,h1,by have:=HL.o;unfold maxLen;omega,h2,HO.o⟩,h3,?_⟩;exact(zb w _).grown HG.o (by simp) (λk hk=>by simp [Value.ownBlock] at hk;omega)
def Nm(w:World)(a:Addr)(u:List Value):Prop:=∀(j:Nat) (x:Value),u[j]?=some x->w.cell? (a.add j)=some x
theorem Nm.cong{w w':World}{a:Addr}{u:List Value}(h:Nm w a u)(hb:w'.heap[a.block]?=w.heap[a.block]?):Nm w' a u:=λj x hx=>by
 have:=h j x hx;rw [<-this];exact World.cell?_of_block (by rw [vW];exact hb)
mutual
def PAt(w:World)(B:Nat->Prop):Ex->List Value->Prop
 | .node n ps,v=>Kb n/\∃(A:Option Addr) (c:Nat),v = [.int .i64 n.op,.int .i64 n.n,.string n.s,.string n.t,.slice A ps.len c]/\ps.len<=c/\c<=maxLen/\lV w B A 0 ps
def lV(w:World)(B:Nat->Prop):Option Addr->Nat->Exs->Prop
 | _,_,.nil=>True
 | A,i,.cons x r=>(∃(a:Addr) (u:List Value),A=some a/\B a.block/\Nm w (a.add (i*5)) u/\PAt w B x u)/\lV w B A (i+1) r
end
theorem PAt.five{w:World}{B:Nat->Prop}{x:Ex}{v:List Value}(h:PAt w B x v):∃(o n:Int) (s t:ByteArray) (A:Option Addr) (m c:Nat),v = [.int .i64 o,.int .i64 n,.string s,.string t,.slice A m c]:=by
 cases x with
 | node n ps =>
  rw [PAt] at h
  obtain⟨-,A,c,rfl,-⟩:=h
  exact⟨_,_,_,_,_,_,_,rfl⟩
mutual
theorem PAt.cong{w w':World}{B:Nat->Prop}(hB:∀b,B b->w'.heap[b]?=w.heap[b]?):∀(x:Ex) (v:List Value),PAt w B x v->PAt w' B x v
 | .node n ps,v,h=>by
  rw [PAt] at h ⊢;obtain⟨h0,A,c,e,h1,h2,h3⟩:=h;exact⟨h0,A,c,e,h1,h2,lV.cong hB ps A 0 h3⟩
theorem lV.cong{w w':World}{B:Nat->Prop}(hB:∀b,B b->w'.heap[b]?=w.heap[b]?):∀(ps:Exs) (A:Option Addr) (i:Nat),lV w B A i ps->lV w' B A i ps
 | .nil,_,_,_=>by rw [lV];trivial
 | .cons x r,A,i,h=>by
  rw [lV] at h ⊢;obtain⟨⟨a,u,e,h1,h2,h3⟩,h4⟩:=h;exact⟨⟨a,u,e,h1,h2.cong (by rw [vW];exact hB _ h1),PAt.cong hB x u h3⟩,lV.cong hB r A (i+1) h4⟩
end
mutual
theorem PAt.mono{w:World}{B B':Nat->Prop}(hB:∀b,B b->b<w.heap.size->B' b):∀(x:Ex) (v:List Value),PAt w B x v->PAt w B' x v
 | .node n ps,v,h=>by
  rw [PAt] at h ⊢;obtain⟨h0,A,c,e,h1,h2,h3⟩:=h;exact⟨h0,A,c,e,h1,h2,lV.mono hB ps A 0 h3⟩
theorem lV.mono{w:World}{B B':Nat->Prop}(hB:∀b,B b->b<w.heap.size->B' b):∀(ps:Exs) (A:Option Addr) (i:Nat),lV w B A i ps->lV w B' A i ps
 | .nil,_,_,_=>by rw [lV];trivial
 | .cons x r,A,i,h=>by
  rw [lV] at h ⊢;obtain⟨⟨a,u,e,h1,h2,h3⟩,h4⟩:=h;have hlt:a.block<w.heap.size:=by
   obtain⟨o,n,s,t,A',m,c,rfl⟩:=h3.five;have:=block_lt_of_cell (h2 0 _ rfl);rwa [vW,vW] at this
  exact⟨⟨a,u,e,hB _ h1 hlt,h2,PAt.mono hB x u h3⟩,lV.mono hB r A (i+1) h4⟩
end
theorem Z8(a:Addr)(x j:Nat)(hj:j≠0):(⟨(a.add x).block,(a.add x).off+j,none⟩:Addr)=(a.add x).add j:=by
 unfold Addr.add;by_cases hx:x=0
 ·subst hx;simp [hj]
 ·simp [hx,hj]
theorem PAt.cells{w:World}{B:Nat->Prop}{a:Addr}{k:Nat}{x:Ex}{u:List Value}(hr:Nm w (a.add k) u)(h:PAt w B x u):∃(o n:Int) (s t:ByteArray) (A:Option Addr) (m c:Nat),u = [.int .i64 o,.int .i64 n,.string s,.string t,.slice A m c]/\
 w.cell? (a.add k)=some (.int .i64 o)/\w.cell? ⟨(a.add k).block,(a.add k).off+1,none⟩=some (.int .i64 n)/\w.cell? ⟨(a.add k).block,(a.add k).off+2,none⟩=some (.string s)/\w.cell? ⟨(a.add k).block,(a.add k).off+3,none⟩=some (.string t)/\
 w.cell? ⟨(a.add k).block,(a.add k).off+4,none⟩=some (.slice A m c):=by
 obtain⟨o,n,s,t,A,m,c,rfl⟩:=h.five;refine⟨o,n,s,t,A,m,c,rfl,?_,?_,?_,?_,?_⟩
 ·have:=hr 0 _ rfl;rwa [show(a.add k).add 0=a.add k from rfl] at this
 all_goals rw [Z8 _ _ _ (by omega)];exact hr _ _ rfl
theorem lV.at{w:World}{B:Nat->Prop}:∀(ps:Exs) (A:Option Addr) (j:Nat),lV w B A j ps->∀(i:Nat) (x:Ex),(exL ps)[i]?=some x->∃(a:Addr) (u:List Value),A=some a/\B a.block/\Nm w (a.add ((j+i)*5)) u/\PAt w B x u
 | .nil,_,_,_,i,x,hx=>by simp [exL] at hx
 | .cons y r,A,j,h,i,x,hx=>by
  rw [lV] at h
  cases i with
  | zero =>
   simp [exL] at hx
   subst hx
   simpa using h.1
  | succ i =>
   have hx':(exL r)[i]?=some x:=by simpa [exL] using hx
   obtain⟨a,u,e,h1,h2,h3⟩:=lV.at r A (j+1) h.2 i x hx'
   exact⟨a,u,e,h1,by rw [show j+(i+1)=j+1+i by omega];exact h2,h3⟩
theorem lV.of{w:World}{B:Nat->Prop}:∀(ps:Exs) (A:Option Addr) (j:Nat),(∀(i:Nat) (x:Ex),(exL ps)[i]?=some x->∃(a:Addr) (u:List Value),A=some a/\B a.block/\Nm w (a.add ((j+i)*5)) u/\PAt w B x u)->lV w B A j ps
 | .nil,_,_,_=>by rw [lV];trivial
 | .cons y r,A,j,h=>by
  rw [lV];refine⟨?_,lV.of r A (j+1) λi x hx=>?_⟩
  ·simpa using h 0 y (by simp [exL])
  ·obtain⟨a,u,e,h1,h2,h3⟩:=h (i+1) x (by simpa [exL] using hx);exact⟨a,u,e,h1,by rw [show j+1+i=j+(i+1) by omega];exact h2,h3⟩
mutual
theorem PAt.ok{w:World}{B:Nat->Prop}:∀(x:Ex) (v:List Value),PAt w B x v->gh x.flat
 | .node n ps,v,h=>by
  rw [PAt] at h;obtain⟨h0,A,c,e,h1,h2,h3⟩:=h;rw [Ex.flat];intro z hz;rcases List.mem_cons.1 hz with rfl|hz
  ·exact h0
  ·exact lV.ok ps A 0 h3 z hz
theorem lV.ok{w:World}{B:Nat->Prop}:∀(ps:Exs) (A:Option Addr) (i:Nat),lV w B A i ps->gh ps.flat
 | .nil,_,_,_=>λz hz=>by rw [Exs.flat] at hz;cases hz
 | .cons x r,A,i,h=>by
  rw [lV] at h;obtain⟨⟨a,u,e,h1,h2,h3⟩,h4⟩:=h;rw [Exs.flat];intro z hz;rcases List.mem_append.1 hz with hz|hz
  ·exact PAt.ok x u h3 z hz
  ·exact lV.ok r A (i+1) h4 z hz
end
structure Pe where
 x:Ex
 o:Int
 n:Int
 s:ByteArray
 t:ByteArray
 A:Option Addr
 m:Nat
 c:Nat
def Pe.u(z:Pe):List Value := [.int .i64 z.o,.int .i64 z.n,.string z.s,.string z.t,.slice z.A z.m z.c]
def ox:List Pe->List Value
 | [] => []
 | z :: E => .int .i64 z.o :: .int .i64 z.n :: .string z.s :: .string z.t :: .slice z.A z.m z.c :: ox E
def SD:List Pe->Exs
 | [] => .nil
 | z :: E => .cons z.x (SD E)
theorem TN:∀E:List Pe,(SD E).len=E.length
 | []=>rfl
 | z :: E=>by simp [SD,Exs.len,TN E]
@[simp] theorem ptCells_length (E:List Pe):(ox E).length=E.length*5:=by
 induction E with
 | nil=>rfl
 | cons x E ih=>simp only [ox,List.length_cons,ih];omega
theorem Uf(U V:List Pe):ox (U ++ V)=ox U ++ ox V:=by
 induction U with
 | nil=>rfl
 | cons u U ih=>simp only [List.cons_append,ox,ih]
theorem Si(E:List Pe):∀v∈ox E,v.oneCell'=true:=by
 induction E with
 | nil=>intro v hv;cases hv
 | cons u U ih =>
  intro v hv
  simp only [ox,List.mem_cons] at hv
  rcases hv with rfl|rfl|rfl|rfl|rfl|hv
  ·rfl
  ·rfl
  ·rfl
  ·rfl
  ·rfl
  ·exact ih v hv
theorem U':∀(E:List Pe) (k:Nat) (x:Pe),E[k]?=some x->∀j v,x.u[j]?=some v->(ox E)[k*5+j]?=some v
 | [],k,x,h=>by simp at h
 | y :: E,0,x,h=>by
  simp at h;subst h;intro j v hv;rw [Nat.zero_mul,Nat.zero_add]
  match j,hv with
  | 0,hv=>exact hv
  | 1,hv=>exact hv
  | 2,hv=>exact hv
  | 3,hv=>exact hv
  | 4,hv=>exact hv
  | j+5,hv=>simp [Pe.u] at hv
 | y :: E,k+1,x,h=>by
  intro j v hv;have:=U' E k x (by simpa using h) j v hv;rw [show(k+1)*5+j=k*5+j+1+1+1+1+1 by omega];simpa [ox] using this
theorem ziw:(Tryz.prog.info? 49).map (λi=>(i.zero,i.size,i.bytes))=some (some (.agg #[.int .i64 0,.int .i64 0,.string ⟨#[]⟩,.string ⟨#[]⟩,.slice none 0 0]),5,72):=by kernel_rfl
theorem zjz(a:Addr)(x y:Nat):(a.add x).add y=a.add (x+y):=by
 unfold Addr.add;by_cases hx:x=0 <;> by_cases hy:y=0 <;> simp [hx,hy,Nat.add_assoc]
theorem Pw{w:World}{B:Nat->Prop}{a:Addr}(hB:B a.block):∀(E0 E:List Pe),(∀j u,(ox (E0 ++ E))[j]?=some u->w.cell? (a.add j)=some u)->(∀z∈E,PAt w B z.x z.u)->lV w B (some a) E0.length (SD E)
 | _,[],_,_=>by rw [SD,lV];trivial
 | E0,x :: E,h,hE=>by
  rw [SD,lV];refine⟨⟨a,x.u,rfl,hB,λj v hv=>?_,hE x (by simp)⟩,?_⟩
  ·rw [zjz];exact h _ _ (U' (E0 ++ x :: E) E0.length x (by simp) j v hv)
  ·simpa using Pw hB (E0 ++ [x]) E (by simpa using h) λy hy=>hE y (by simp [hy])
structure Kt(w:World)(base:Nat)(D:Nat->Prop)(v:Value)(E:List Pe):Prop where
 own:w.ownsRow base 49 5 v E.length (ox E)
 ok:∀z∈E,PAt w (λb=>D b/\some b≠v.ownBlock) z.x z.u
theorem Kt.nil(w:World)(base:Nat)(D:Nat->Prop):Kt w base D (.slice none 0 0) []:=⟨World.ownsRow_nil _ _ _ _,λ_ h=>nomatch h⟩
theorem Kt.keepN{w w':World}{base:Nat}{D:Nat->Prop}{v:Value}{E:List Pe}(h:Kt w base D v E)(hg:w.grownBy w' none):Kt w' base D v E:=by
 refine⟨h.own.kept hg ?_,λx hx=>?_⟩
 ·rcases hv:v.ownBlock with _|k
  ·exact .inl rfl
  ·exact .inr (λe=>nomatch e)
 ·have h1:=PAt.mono (B':=λb=>(D b/\some b≠v.ownBlock)/\b<w.heap.size) (λb hb hl=>⟨hb,hl⟩) _ _ (h.ok x hx);have h2:=PAt.cong (w':=w') (λb hb=>hg.block b hb.2 (λe=>nomatch e)) _ _ h1;exact PAt.mono (λb hb _=>hb.1) _ _ h2
theorem Kt.keep{w w':World}{base:Nat}{D:Nat->Prop}{v:Value}{E:List Pe}{R:Nat}(h:Kt w base D v E)(hg:w.grownBy w' (some R))(hR:R<base)(hD:¬D R):Kt w' base D v E:=by
 refine⟨h.own.kept hg ?_,λx hx=>?_⟩
 ·rcases hv:v.ownBlock with _|k
  ·exact .inl rfl
  ·refine .inr λe=>?_;injection e with e;have:=(h.own.lt k hv).1;omega
 ·have h1:=PAt.mono (B':=λb=>(D b/\some b≠v.ownBlock)/\b<w.heap.size) (λb hb hl=>⟨hb,hl⟩) _ _ (h.ok x hx);have h2:=PAt.cong (w':=w') (λb hb=>hg.block b hb.2 (λe=>by injection e with e;subst e;exact hD hb.1.1)) _ _ h1;exact PAt.mono (λb hb _=>hb.1) _ _ h2
theorem Kt.pts{w:World}{base:Nat}{D:Nat->Prop}{v:Value}{E:List Pe}(h:Kt w base D v E)(hD:∀b,base<=b->D b):∃A c,v = .slice A E.length c/\lV w D A 0 (SD E)/\E.length<=c/\c<=maxLen:=by
 obtain⟨h1,h2⟩:=h;have h0:=h1;rcases h1.2 with ⟨rfl,e0⟩|⟨g,cap,cur,rfl,hB,hh,hc,hm,hrest⟩
 ·have:E = []:=List.eq_nil_of_length_eq_zero e0;subst this;exact⟨none,0,rfl,by rw [SD,lV];trivial,Nat.le_refl _,Nat.zero_le _⟩
 ·refine⟨some ⟨g,0,none⟩,cap,rfl,?_,hc,hm⟩;exact Pw (B:=D) (a:=⟨g,0,none⟩) (hD g hB) [] E (by simpa using h0.cells (g:=g) rfl) λx hx=>PAt.mono (λb hb _=>hb.1) _ _ (h2 x hx)
theorem Kt.snoc{w w':World}{base:Nat}{D:Nat->Prop}{v v':Value}{E:List Pe}{x:Pe}(h:Kt w base D v E)(hx:PAt w (λb=>D b/\some b≠v.ownBlock) x.x x.u)(hown:w'.ownsRow base 49 5 v' (E.length+1) (ox E ++ x.u))(hg:w.grownBy w' v.ownBlock)
 (hb:v'.ownBlock=v.ownBlock\/v'.ownBlock=some w.heap.size):Kt w' base D v' (E ++ [x]):=by
 refine⟨?_,λz hz=>?_⟩
 ·rw [Uf,List.length_append];exact hown
 ·have hz':PAt w (λb=>D b/\some b≠v.ownBlock) z.x z.u:=by
   rcases List.mem_append.1 hz with hz|hz
   ·exact h.ok z hz
   ·simp only [List.mem_cons,List.not_mem_nil,or_false] at hz;subst hz;exact hx
  have h1:=PAt.mono (B':=λb=>(D b/\some b≠v.ownBlock)/\b<w.heap.size) (λb hb hl=>⟨hb,hl⟩) _ _ hz';have h2:=PAt.cong (w':=w') (λb hb=>hg.block b hb.2 (λe=>hb.1.2 (by rw [<-e]))) _ _ h1;refine PAt.mono (λb hb _=>⟨hb.1.1,?_⟩) _ _ h2;rcases ‹v'.ownBlock=v.ownBlock\/v'.ownBlock=some w.heap.size› with e|e
  ·rw [e];exact hb.1.2
  ·rw [e];intro q;injection q with q;have:=hb.2;omega
theorem Rh{ops:Array Oper}{rest:List Oper}{o:Oper}{a:Act}{w:World}{Q:Exit->Act->World->Prop}(hgd:o.guard=none)(s x:Operand)
 (ho:o.op = .call { callee := .builtin .append,args:=#[s,x],argTypes:=#[47,47] })
 (base:Nat) (D:Nat->Prop) (v:Value) (E:List Pe) (hs:a.eval s=v) (hrow:Kt w base D v E) (z:Pe) (ad:Addr) (m c:Nat) (hx:a.eval x = .slice (some ad) m c) (hm:m=1)
 (hnews:∀j u,z.u[j]?=some u->w.cell? (ad.add j)=some u) (hz:PAt w (λb=>D b/\some b≠v.ownBlock) z.x z.u) (hl:E.length<=1000000) (hbase:base<=w.heap.size)
 (h:∀v' w',Kt w' base D v' (E ++ [z])->w.grownBy w' v.ownBlock->wpList Tryz.prog ops Q rest (a.put o.dst v') w'):wpList Tryz.prog ops Q (o :: rest) a w:=by
 subst hm;have hi:=ziw
 cases hq:Tryz.prog.info? 49 with
 | none=>rw [hq] at hi;cases hi
 | some i0 =>
  rw [hq] at hi
  simp only [Option.map_some,Option.some.injEq,Prod.mk.injEq] at hi
  refine wpList_append_own_at w hgd s x _ ho base _ i0 _ 5 72 Tryz.underlying47 hq hi.1 hi.2.1 hi.2.2 (by decide) (by decide) v E.length (ox E) hs hrow.own ad 1 c z.u hx rfl hnews ?_ (by unfold maxLen;omega) (by omega) hbase ?_
  ·intro u hu
   exact Si [z] u (by simpa [ox,Pe.u] using hu)
  ·intro v' w' h1 h2 _ h4
   exact h v' w' (hrow.snoc hz h1 h2 h4) h2
theorem Vh{ops:Array Oper}{o:Oper}{a:Act}{w:World}{K:Act->World->Prop}{Q:Exit->Act->World->Prop}{X:Prop}(hgd:o.guard=none)(s x:Operand)
 (ho:o.op = .call { callee := .builtin .append,args:=#[s,x],argTypes:=#[47,47] })
 (base:Nat) (D:Nat->Prop) (v:Value) (E:List Pe) (hs:a.eval s=v) (hrow:Kt w base D v E) (z:Pe) (ad:Addr) (c:Nat) (hx:a.eval x = .slice (some ad) 1 c)
 (hnews:∀j u,z.u[j]?=some u->w.cell? (ad.add j)=some u) (hz:PAt w (λb=>D b/\some b≠v.ownBlock) z.x z.u) (hl:E.length<=1000000) (hbase:base<=w.heap.size)
 (h:∀v' w',Kt w' base D v' (E ++ [z])->w.grownBy w' v.ownBlock->K (a.put o.dst v') w'):
 if Region.wanted o (yielded ops a.tmps)=true then Oper.wp Tryz.prog o a w K Q else X:=by
 have hi:=ziw
 cases hq:Tryz.prog.info? 49 with
 | none=>rw [hq] at hi;cases hi
 | some i0 =>
  rw [hq] at hi
  simp only [Option.map_some,Option.some.injEq,Prod.mk.injEq] at hi
  refine step_append_lies w hgd s x _ ho base _ i0 _ 5 72 Tryz.underlying47 hq hi.1 hi.2.1 hi.2.2 (by decide) (by decide) v E.length (ox E) hs hrow.own ad 1 c z.u hx rfl hnews ?_ (by decide) (by unfold maxLen;omega) (by omega) hbase _ rfl ?_
  ·intro u hu
   exact Si [z] u (by simpa [ox,Pe.u] using hu)
  ·intro g cap w' h1 h2 h3 h4
   refine h _ w' (hrow.snoc hz h1 h2 ?_) h2;rcases h3 with h3|h3
   ·exact .inl h3.symm
   ·exact .inr (by rw [<-h3];rfl)
theorem Gt(w:World):Below w.heap.size w w.drew:=⟨rfl,rfl,rfl,Nat.le_refl _,λ_ _=>rfl⟩
theorem E3(w:World)(cs:Array Value)(t:TypeId)(j:Nat){v:Value}(h:cs[j]?=some v):(w.alloc (.cells cs t)).cell? ⟨w.heap.size,j,none⟩=some v:=by
 rw [World.cell?_alloc_at _ _ _ _ rfl];exact h
structure Bx5(w:World)(b:Nat)(x0 x1 x2 x3 x4:Value):Prop where
 c0:w.cell? ⟨b,0,none⟩=some x0
 c1:w.cell? ⟨b,1,none⟩=some x1
 c2:w.cell? ⟨b,2,none⟩=some x2
 c3:w.cell? ⟨b,3,none⟩=some x3
 c4:w.cell? ⟨b,4,none⟩=some x4
 z0:w.frozen? ⟨b,0,none⟩=false
 z1:w.frozen? ⟨b,1,none⟩=false
 z2:w.frozen? ⟨b,2,none⟩=false
 z3:w.frozen? ⟨b,3,none⟩=false
 z4:w.frozen? ⟨b,4,none⟩=false
theorem jR(w:World)(x0 x1 x2 x3 x4:Value)(t:TypeId):Bx5 (w.alloc (.cells #[x0,x1,x2,x3,x4] t)) w.heap.size x0 x1 x2 x3 x4 :=
 ⟨E3 w _ _ _ rfl,E3 w _ _ _ rfl,E3 w _ _ _ rfl,E3 w _ _ _ rfl,E3 w _ _ _ rfl,by simp,by simp,by simp,by simp,by simp⟩
theorem Bx5.keep{w w':World}{b:Nat}{x0 x1 x2 x3 x4:Value}(h:Bx5 w b x0 x1 x2 x3 x4)(hb:Below w.heap.size w w'):Bx5 w' b x0 x1 x2 x3 x4 :=
 have hl:=block_lt_of_cell h.c0
 ⟨za hb h.c0,za hb h.c1,za hb h.c2,za hb h.c3,za hb h.c4,by rw [(Oa hb).2 b 0 hl];exact h.z0,by rw [(Oa hb).2 b 1 hl];exact h.z1,by rw [(Oa hb).2 b 2 hl];exact h.z2,by rw [(Oa hb).2 b 3 hl];exact h.z3,by rw [(Oa hb).2 b 4 hl];exact h.z4⟩
theorem Bx5.but{w w':World}{b:Nat}{x0 x1 x2 x3 x4:Value}{g:Option Nat}(h:Bx5 w b x0 x1 x2 x3 x4)(hg:w.grownBy w' g)(hn:some b≠g):Bx5 w' b x0 x1 x2 x3 x4 :=
 have hb:=hg.block b (block_lt_of_cell h.c0) hn
 ⟨(World.cell?_of_block (a:=⟨b,0,none⟩) hb).trans h.c0,(World.cell?_of_block (a:=⟨b,1,none⟩) hb).trans h.c1,(World.cell?_of_block (a:=⟨b,2,none⟩) hb).trans h.c2,(World.cell?_of_block (a:=⟨b,3,none⟩) hb).trans h.c3,(World.cell?_of_block (a:=⟨b,4,none⟩) hb).trans h.c4,(World.frozen?_of_block (a:=⟨b,0,none⟩) hb).trans h.z0,(World.frozen?_of_block (a:=⟨b,1,none⟩) hb).trans h.z1,(World.frozen?_of_block (a:=⟨b,2,none⟩) hb).trans h.z2,(World.frozen?_of_block (a:=⟨b,3,none⟩) hb).trans h.z3,(World.frozen?_of_block (a:=⟨b,4,none⟩) hb).trans h.z4⟩
theorem Bx5.set{w:World}{b:Nat}{x0 x1 x2 x3 x4:Value}(h:Bx5 w b x0 x1 x2 x3 x4)(y0 y1 y2 y3 y4:Value):Bx5 (((((w.setCell ⟨b,0,none⟩ y0).setCell ⟨b,1,none⟩ y1).setCell ⟨b,2,none⟩ y2).setCell ⟨b,3,none⟩ y3).setCell ⟨b,4,none⟩ y4) b y0 y1 y2 y3 y4:=by
 obtain⟨c0,c1,c2,c3,c4,z0,z1,z2,z3,z4⟩:=h;refine⟨?_,?_,?_,?_,?_,?_,?_,?_,?_,?_⟩
 all_goals go_simp
theorem Bx5.set4{w:World}{b:Nat}{x0 x1 x2 x3 x4:Value}(h:Bx5 w b x0 x1 x2 x3 x4)(y:Value):Bx5 (w.setCell ⟨b,4,none⟩ y) b x0 x1 x2 x3 y:=by
 obtain⟨c0,c1,c2,c3,c4,z0,z1,z2,z3,z4⟩:=h;refine⟨?_,?_,?_,?_,?_,?_,?_,?_,?_,?_⟩
 all_goals go_simp
theorem ed{B b:Nat}{a w:World}(h:Below B a w)(hb:B<=b)(y0 y1 y2 y3 y4:Value):Below B a (((((w.setCell ⟨b,0,none⟩ y0).setCell ⟨b,1,none⟩ y1).setCell ⟨b,2,none⟩ y2).setCell ⟨b,3,none⟩ y3).setCell ⟨b,4,none⟩ y4):=((((h.setCell (p:=⟨b,0,none⟩) hb y0).setCell (p:=⟨b,1,none⟩) hb y1).setCell (p:=⟨b,2,none⟩) hb y2).setCell (p:=⟨b,3,none⟩) hb y3).setCell (p:=⟨b,4,none⟩) hb y4
theorem Mz(w:World)(b:Nat)(y0 y1 y2 y3 y4:Value):w.grownBy (((((w.setCell ⟨b,0,none⟩ y0).setCell ⟨b,1,none⟩ y1).setCell ⟨b,2,none⟩ y2).setCell ⟨b,3,none⟩ y3).setCell ⟨b,4,none⟩ y4) (some b):=
 z8 (z8 (z8 (z8 (zr w ⟨b,0,none⟩ y0) (zr _ ⟨b,1,none⟩ y1)) (zr _ ⟨b,2,none⟩ y2)) (zr _ ⟨b,3,none⟩ y3)) (zr _ ⟨b,4,none⟩ y4)
theorem Km(w:World)(b:Nat)(y0 y1 y2 y3 y4:Value){g:Nat}(h:g≠b):(((((w.setCell ⟨b,0,none⟩ y0).setCell ⟨b,1,none⟩ y1).setCell ⟨b,2,none⟩ y2).setCell ⟨b,3,none⟩ y3).setCell ⟨b,4,none⟩ y4).heap[g]?=w.heap[g]?:=by
 iterate 5 rw [Below.heap_setCell _ _ _ g h]
end Go.Proofs.YtokiogmfgpidmaaGreatDoor
