/-
  check's setting, and where its parts lie; what is told of an expression: a type, or a panic; behindKind. check's told: the type of what has parts of some ..
-/
import Derived.Test.YtlkfaliomdbaoaaGreatDoorQ9
import Derived.Test.YtlkfaliomdbaoaaGreatDoorQ22
import Derived.Test.YtlkfaliomdbaoaaGreatDoorQ24
set_option maxRecDepth 100000
set_option maxHeartbeats 8000000
namespace Go.Proofs.YtlkfaliomdbaoaaGreatDoor
open Go.RowKit Go.Wk Go.Sort
structure Xs where
 s:Sc
 who:ByteArray
 what:ByteArray
 a:An
 D:Nat
def Xs.v(x:Xs):Value := .agg #[.slice x.s.KA x.s.kn x.s.kc,.slice x.s.AA x.s.an x.s.ac,.string x.who,.string x.what,.string x.a.d.id,.slice x.a.WA x.a.wn x.a.wc,.slice x.a.TA x.a.tn x.a.tc,.slice x.a.NA x.a.nn x.a.nc]
def Xs.o(x:Xs):Obj := .cells #[.slice x.s.KA x.s.kn x.s.kc,.slice x.s.AA x.s.an x.s.ac,.string x.who,.string x.what,.string x.a.d.id,.slice x.a.WA x.a.wn x.a.wc,.slice x.a.TA x.a.tn x.a.tc,.slice x.a.NA x.a.nn x.a.nc] 60
def Xs.t(x:Xs):Stg:=⟨x.s.k,x.a.d,x.who,x.what⟩
structure zef(w:World)(x:Xs):Prop where
 s:zdB w x.s
 a:zi0 w x.a
 who:x.who.size≤maxLen
 what:x.what.size≤maxLen
 ok:zcH x.t
 d:x.D≤w.heap.size
 ctx:∀a,x.a.NA=some a→a.block<x.D
 kds:∀y∈x.s.K,∀a,y.NA=some a→a.block<x.D
theorem zef.keep{w w':World}{x:Xs}(h:zef w x)(hb:Below w.heap.size w w'):zef w' x:=⟨h.s.keep hb,h.a.keep hb,h.who,h.what,h.ok,Nat.le_trans h.d hb.size,h.ctx,h.kds⟩
structure Vst(w:World)(b:Nat)(x:Xs):Prop where
 c0:w.cell? ⟨b,0,none⟩=some (.slice x.s.KA x.s.kn x.s.kc)
 c1:w.cell? ⟨b,1,none⟩=some (.slice x.s.AA x.s.an x.s.ac)
 c2:w.cell? ⟨b,2,none⟩=some (.string x.who)
 c3:w.cell? ⟨b,3,none⟩=some (.string x.what)
 c4:w.cell? ⟨b,4,none⟩=some (.string x.a.d.id)
 c5:w.cell? ⟨b,5,none⟩=some (.slice x.a.WA x.a.wn x.a.wc)
 c6:w.cell? ⟨b,6,none⟩=some (.slice x.a.TA x.a.tn x.a.tc)
 c7:w.cell? ⟨b,7,none⟩=some (.slice x.a.NA x.a.nn x.a.nc)
theorem Vst.keep{w w':World}{b:Nat}{x:Xs}(h:Vst w b x)(hb:Below w.heap.size w w'):Vst w' b x :=
 ⟨zb hb h.c0,zb hb h.c1,zb hb h.c2,zb hb h.c3,zb hb h.c4,zb hb h.c5,zb hb h.c6,zb hb h.c7⟩
theorem zaZ(w:World)(x:Xs):Vst (w.alloc x.o) w.heap.size x :=
 ⟨zx (heap_alloc_last w _) rfl,zx (heap_alloc_last w _) rfl,zx (heap_alloc_last w _) rfl,zx (heap_alloc_last w _) rfl,zx (heap_alloc_last w _) rfl,zx (heap_alloc_last w _) rfl,zx (heap_alloc_last w _) rfl,zx (heap_alloc_last w _) rfl⟩
def ji(S:Nat→Prop)(w:World)(r:zbk)(e:Ending)(w':World):Prop :=
 Below w.heap.size w w'∧match r with
  | .ok k=>∃A n c,e = .returned (.slice A n c)∧Ns w' A n c k.flat∧∀a,A=some a→S a.block∨w.heap.size≤a.block
  | .error u=>e = .panicked (zcE u)
theorem zQ{S:Nat→Prop}{w w':World}{u:Int}(hb:Below w.heap.size w w'):ji S w (.error u) (.panicked (zcE u)) w':=⟨hb,rfl⟩
theorem zJ{S:Nat→Prop}{w w':World}{k:Kd}{A:Option Addr}{n c:Nat}(hb:Below w.heap.size w w')(h:Ns w' A n c k.flat)(hl:∀a,A=some a→S a.block∨w.heap.size≤a.block):ji S w (.ok k) (.returned (.slice A n c)) w':=⟨hb,A,n,c,rfl,h,hl⟩
theorem jx{S:Nat→Prop}{w w1:World}{A:Option Addr}(hb:Below w.heap.size w w1)(h:∀a,A=some a→S a.block∨w1.heap.size≤a.block):∀a,A=some a→S a.block∨w.heap.size≤a.block:=fun a e=>(h a e).imp id (fun q=>Nat.le_trans hb.size q)
theorem zaJ{S:Nat→Prop}{w w':World}{u:Int}{e:Ending}(h:ji S w (.error u) e w'):e = .panicked (zcE u)∧Below w.heap.size w w':=⟨h.2,h.1⟩
theorem jM{S:Nat→Prop}{w w':World}{k:Kd}{e:Ending}(h:ji S w (.ok k) e w'):∃A n c,e = .returned (.slice A n c)∧Ns w' A n c k.flat∧Below w.heap.size w w'∧∀a,A=some a→S a.block∨w.heap.size≤a.block:=let ⟨A,n,c,h1,h2,h3⟩:=h.2;⟨A,n,c,h1,h2,h.1,h3⟩
theorem zeB(o:Int)(s:ByteArray)(w:World)(hs:s.size≤maxLen):
 Calls Tryz.prog 52 #[.int .i64 o,.string s] w fun e w'=>e = .returned (.slice (some ⟨w.heap.size,0,none⟩) 1 1)∧(zdL w' w.heap.size (.slice (some ⟨w.heap.size,0,none⟩) 1 1) [⟨o,0,s,emp⟩]∧Ns w' (some ⟨w.heap.size,0,none⟩) 1 1 [⟨o,0,s,emp⟩])∧Below w.heap.size w w':=by
 have N1:=hi9 (zdL.one w ⟨o,0,s,emp⟩);have N2:=hi9 (zeO w ⟨o,0,s,emp⟩ ⟨hs,Nat.zero_le _,by show _≤(0:Int);decide,by show(0:Int)≤_;decide⟩);clear hs;go_enter Tryz.func52,Tryz.ntmps52;go_wp2_with fail;go_ret;exact⟨rfl,⟨N1.out,N2.out⟩,za w _⟩
theorem zaC{S:Nat→Prop}{o:Int}{s:ByteArray}{k:Kd}{w:World}(hk:k.flat = [⟨o,0,s,emp⟩])(hs:s.size≤maxLen):
 Calls Tryz.prog 52 #[.int .i64 o,.string s] w (ji S w (.ok k)):=
 (zeB o s w hs).mono fun e w' ⟨h1,h2,h3⟩=>⟨h3,_,_,_,h1,by rw [hk];exact h2.2,fun a e => .inr (by injection e with e;subst e;exact Nat.le_refl _)⟩
theorem zb4(A:Option Addr)(n c:Nat)(P:List Nd)(p:Nat)(k:Kd)(w:World)(h:Ns w A n c P)(hn:n≤4000)(hO:zc0 P p [.ty k]):
 Calls Tryz.prog 90 #[.slice A n c,.int .i64 p] w fun e w'=>e = .returned (.int .i64 ((p+k.flat.length:Nat):Int))∧Below w.heap.size w w':=by
 have HNS:=hi9 h;have HLN:=hi9 h.len;have hle:=hO.le (by simp);have HT:=hi9 (show p+(j8 [Pc.ty k]).length=p+k.flat.length by simp [j8,Pc.flat]);rw [HT.out] at hle;have hple:p+k.flat.length≤n:=by rw [HLN.out];exact hle
 have HO:=hi9 hO;generalize p+k.flat.length=T at *;clear h hO hle;go_enter Tryz.func90,Tryz.ntmps90;go_wp2_with fail;go_loopw [1,5] (fun u l wr=>∃(q m:Nat) (L:List Pc),u = .int .i64 q∧l = .int .i64 m∧Hid (m=L.length)∧Hid (zc0 P q L)∧Hid (q+(j8 L).length=T)∧wr=w) (fun u _ _=>n+1-(intOf u).toNat)
 case atStart=>exact⟨p,1,[.ty k],rfl,rfl,hi9 rfl,HO,HT,rfl⟩
 case round =>
  obtain⟨q,m,L,rfl,rfl,hM,hO,hT,rfl⟩:=hrel;by_cases hl:0<m
  ·obtain⟨x,r,rfl⟩:∃x r,L=x :: r:=by
    cases L with
    | nil=>have:=hM.out;simp at this;omega
    | cons x r=>exact⟨x,r,rfl⟩
   obtain⟨y,L2,hy,hO2,hlen,htot⟩:=hO.out.step
   have hql:q<P.length:=(List.getElem?_eq_some_iff.1 hy).1
   have hqn:q<n:=by rw [HLN.out];exact hql
   obtain⟨a,rfl,d0,d1,d2,d3⟩:=HNS.out.at_ q y hy
   have HO2:=hi9 hO2
   have HT2:=hi9 (htot.trans hT.out)
   have hbl:=zdf L2
   have hmr:m=r.length+1:=by have:=hM.out;simpa using this
   have hsum:(m:Int)+zdy y=(L2.length:Int)+1:=by omega
   have hfl:L2.length+1≤n:=by have:=HT2.out;omega
   have hrl:r.length≤4000:=by have h1:=hT.out;have h2:=zdf (x :: r);simp only [List.length_cons] at h2;omega
   have hml:m≤4001:=by omega
   obtain⟨m2,hm2⟩:∃m2,m2=L2.length:=⟨_,rfl⟩
   have HM2:=hi9 hm2
   rw [←hm2] at hsum hfl
   clear hO hT hy hO2 htot hlen hbl hmr hm2 d2 d3 hrl hM
   unfold zdy at hsum
   have hqi:(q:Int)<(n:Int):=by omega
   have f0:decide (0<m)=true:=decide_eq_true hl
   by_cases g1:y.op=45∨y.op=47
   ·rw [if_pos g1] at hsum
    rcases g1 with g1|g1
    all_goals
     rw [g1] at d0;clear g1;go_wp2_with fail;go_roundw
     case rel=>exact⟨q+1,m2,L2,by go_num,by go_num,HM2,HO2,HT2,trivial⟩
     case measure=>simp [intOf];omega
   ·rw [if_neg g1] at hsum
    have f1:(y.op==45)=false:=beq_eq_false_iff_ne.2 (by omega);have f2:(y.op==47)=false:=beq_eq_false_iff_ne.2 (by omega);by_cases g2:y.op=46
    ·rw [if_pos g2] at hsum;rw [g2] at d0;generalize y.n=yn at *;have hyn:yn=(m2:Int)+1-m:=by omega
     clear g1 g2 f1 f2;go_wp2_with fail;go_roundw
     case rel=>exact⟨q+1,m2,L2,by go_num,by go_num,HM2,HO2,HT2,trivial⟩
     case measure=>simp [intOf];omega
    ·rw [if_neg g2] at hsum;have f3:(y.op==46)=false:=beq_eq_false_iff_ne.2 g2;generalize y.op=yo at *;clear g1 g2;go_wp2_with fail;go_roundw
     case rel=>exact⟨q+1,m2,L2,by go_num,by go_num,HM2,HO2,HT2,trivial⟩
     case measure=>simp [intOf];omega
  ·have hL:L = .nil:=by
    have:=hM.out
    cases L with
    | nil=>rfl
    | cons x r=>simp only [List.length_cons] at this;omega
   have HR:=hi9 (show q=T by have:=hT.out;rw [hL] at this;simpa [j8] using this)
   have hm0:m=0:=by omega
   subst hm0
   clear hL hl
   go_wp2_with fail
   go_ret
   exact⟨by rw [←HR.out];rfl,Below.refl _ _⟩
theorem ziQ(k:Kd):∃y r,k.flat=y :: r∧y.op=kOp k:=by
 cases k with
 | base x=>exact⟨_,_,rfl,rfl⟩
 | ent s=>exact⟨_,_,rfl,rfl⟩
 | set p=>exact⟨_,_,rfl,rfl⟩
 | fs f=>exact⟨_,_,rfl,rfl⟩
theorem zd0(L:List Int)(k:Kd):zB L k=true↔kOp k=49∨L.contains (kOp k)=true:=by
 unfold zB;rw [Bool.or_eq_true,decide_eq_true_iff]
theorem zY{A:Option Addr}{n c:Nat}{k:Kd}{B:Option Addr}{m d:Nat}(L:List Int){w:World}(h:Ns w A n c k.flat)(hm:m=L.length)(hm2:m≤1000)(hi:zex w B L):
 Calls Tryz.prog 51 #[.slice A n c,.slice B m d] w fun e w'=>e=(if zB L k=true then .returned (.tuple #[]) else .panicked (zcE 2))∧Below w.heap.size w w':=by
 obtain⟨y,r,e,ho⟩:=ziQ k;rw [e] at h;refine(zmp A n c y r B m d L w h hm hm2 hi).mono fun e w' hh=>?_;rw [ho] at hh;by_cases g:zB L k=true
 ·rw [if_pos ((zd0 L k).1 g)] at hh;rw [if_pos g];exact hh
 ·rw [if_neg (fun q=>g ((zd0 L k).2 q))] at hh;rw [if_neg g];exact hh
theorem jr(w:World)(x:Int)(t:TypeId):zex (w.alloc (.cells #[.int .i64 x] t)) (some ⟨w.heap.size,0,none⟩) [x]:=fun k y hk=>by
 match k,hk with
 | 0,hk =>
  simp only [List.getElem?_cons_zero,Option.some.injEq] at hk
  subst hk
  exact⟨_,rfl,zx (heap_alloc_last w _) rfl⟩
 | k+1,hk=>simp at hk
theorem zh1(w:World)(x y:Int)(t:TypeId):zex (w.alloc (.cells #[.int .i64 x,.int .i64 y] t)) (some ⟨w.heap.size,0,none⟩) [x,y]:=fun k z hk=>by
 match k,hk with
 | 0,hk =>
  simp only [List.getElem?_cons_zero,Option.some.injEq] at hk
  subst hk
  exact⟨_,rfl,zx (heap_alloc_last w _) rfl⟩
 | 1,hk =>
  simp only [List.getElem?_cons_succ,List.getElem?_cons_zero,Option.some.injEq] at hk
  subst hk
  exact⟨_,rfl,zx (heap_alloc_last w _) rfl⟩
 | k+2,hk=>simp at hk
theorem zC(w:World)(o:Obj):Below w.heap.size w (w.alloc o):=za w o
theorem zmC(S:Nat→Prop)(x:Xs)(op:Int)(L:List Kd)(A:Option Addr)(n c:Nat)(V:List Sl)(w:World)(hn:n=V.length)(hn2:n≤4000)(hV:zal w A V)(hm:V.map Sl.P=L.map Kd.flat)(hop:op=9∨op=12):
 Calls Tryz.prog 59 #[x.v,.int .i64 op,.slice A n c] w (ji S w (zU op L)):=by
 have B0:=hi9 (za w x.o);unfold Xs.o at B0;unfold Xs.v;have HS:=hi9 hV;have HLN:=hi9 hn;have HM:=hi9 hm;have HLL:=hi9 (show V.length=L.length by have:=congrArg List.length hm;simpa using this);have HR:=hi9 (show zU op L=if L.all (zB [41])=true then .ok (.base 41) else .error 2 by
  unfold zU zcW
  rcases hop with rfl|rfl <;> rfl)
 obtain⟨RR,hRR⟩:∃RR,RR=zU op L:=⟨_,rfl⟩
 rw [←hRR] at HR ⊢;clear hRR;have K1:=hi9 (fun w=>zaC (S:=S) (o:=41) (s:=emp) (k := .base 41) (w:=w) rfl (by decide));clear hV hn hm;rcases hop with rfl|rfl
 all_goals
  go_enter Tryz.func59,Tryz.ntmps59;go_wp2_with fail;go_loopw [17] (fun i wr=>∃j:Nat,i = .int .i64 j∧j≤n∧Hid ((L.take j).all (zB [41])=true)∧Hid (Below w.heap.size w wr)) (fun i _=>n-(intOf i).toNat)
  case atStart=>exact⟨0,rfl,Nat.zero_le _,hi9 (by simp),B0⟩
  case round =>
   obtain⟨j,rfl,hj,hA,hB⟩:=hrel;by_cases hlt:j<n
   ·have hjv:j<V.length:=by rw [←HLN.out];exact hlt
    have hjl:j<L.length:=by rw [←HLL.out];exact hjv
    obtain⟨a,rfl,q1,n1⟩:=(HS.out.keep hB.out).at hjv;have e1:V[j].P=(L[j]).flat:=by
     have:=congrArg (fun l=>l[j]?) HM.out;simpa [hjv,hjl] using this
    rw [e1] at n1;have HT:=hi9 (show(L.take (j+1)).all (zB [41])=((L.take j).all (zB [41])&& zB [41] L[j]) by rw [List.take_succ_eq_append_getElem hjl,List.all_append];simp);have HALL:=hi9 (show L.all (zB [41])=true→zB [41] L[j]=true from fun h=>List.all_eq_true.1 h _ (List.getElem_mem hjl));generalize V[j]=r at *;generalize L[j]=k at *;have N1:=hi9 n1;have bx:=zC wr (.cells #[.int .i64 41] 3);have BX:=bh hB bx;have KM:=hi9 (zY (d:=1) [41] (n1.keep bx) rfl (by decide) (jr wr 41 3));clear n1 e1 bx;by_cases g:zB [41] k=true
    ·rw [if_pos g] at KM;have HT2:=hi9 (show(L.take (j+1)).all (zB [41])=true by rw [HT.out,hA.out,g];rfl);clear HT HALL hA g;go_wp2_with fail;refine KM.out.mono ?_;rintro e w5 ⟨rfl,b5⟩;have B5:=bh BX b5;clear b5 KM BX hB;go_wp2_with fail;go_roundw
     case rel=>exact⟨j+1,by go_num,hlt,HT2,B5⟩
     case measure=>simp [intOf];omega
    ·rw [if_neg g] at KM;have HF:=hi9 (show¬L.all (zB [41])=true from fun q=>g (HALL.out q));clear HT HALL hA g;go_wp2_with fail;refine KM.out.mono ?_;rintro e w5 ⟨rfl,b5⟩;have B5:=bh BX b5;clear b5 KM BX hB;go_wp2_with fail;exact⟨rfl,by rw [HR.out,if_neg HF.out];exact zQ B5.out⟩
   ·have HF:=hi9 (show L.all (zB [41])=true by have:=hA.out;rwa [List.take_of_length_le (by rw [←HLL.out,←HLN.out];omega)] at this);clear hA;go_wp2_with fail;refine(K1.out _).mono ?_;rintro e w5 ⟨b5,A5,n5,c5,rfl,hN,hl⟩;have B5:=bh hB b5;have N5:=hi9 hN;have HL:=hi9 (jx hB.out hl);clear b5 hN hB K1 hl;go_wp2_with fail;go_ret;rw [HR.out,if_pos HF.out];exact zJ B5.out N5.out HL.out
theorem zoh(S:Nat→Prop)(x:Xs)(op:Int)(L:List Kd)(A:Option Addr)(n c:Nat)(V:List Sl)(w:World)(hn:n=V.length)(hn2:n≤4000)(hV:zal w A V)(hm:V.map Sl.P=L.map Kd.flat)(hop:op=10∨op=17∨op=18∨op=19):
 Calls Tryz.prog 59 #[x.v,.int .i64 op,.slice A n c] w (ji S w (zU op L)):=by
 have B0:=hi9 (za w x.o);unfold Xs.o at B0;unfold Xs.v;have HS:=hi9 hV;have HLN:=hi9 hn;have HM:=hi9 hm;have HLL:=hi9 (show V.length=L.length by have:=congrArg List.length hm;simpa using this);have HR:=hi9 (show zU op L=if L.all (zB [42])=true then .ok (.base 42) else .error 2 by
  unfold zU zcW
  rcases hop with rfl|rfl|rfl|rfl <;> rfl)
 obtain⟨RR,hRR⟩:∃RR,RR=zU op L:=⟨_,rfl⟩
 rw [←hRR] at HR ⊢;clear hRR;have K1:=hi9 (fun w=>zaC (S:=S) (o:=42) (s:=emp) (k := .base 42) (w:=w) rfl (by decide));clear hV hn hm;rcases hop with rfl|rfl|rfl|rfl
 all_goals
  go_enter Tryz.func59,Tryz.ntmps59;go_wp2_with fail;go_loopw [34] (fun i wr=>∃j:Nat,i = .int .i64 j∧j≤n∧Hid ((L.take j).all (zB [42])=true)∧Hid (Below w.heap.size w wr)) (fun i _=>n-(intOf i).toNat)
  case atStart=>exact⟨0,rfl,Nat.zero_le _,hi9 (by simp),B0⟩
  case round =>
   obtain⟨j,rfl,hj,hA,hB⟩:=hrel;by_cases hlt:j<n
   ·have hjv:j<V.length:=by rw [←HLN.out];exact hlt
    have hjl:j<L.length:=by rw [←HLL.out];exact hjv
    obtain⟨a,rfl,q1,n1⟩:=(HS.out.keep hB.out).at hjv;have e1:V[j].P=(L[j]).flat:=by
     have:=congrArg (fun l=>l[j]?) HM.out;simpa [hjv,hjl] using this
    rw [e1] at n1;have HT:=hi9 (show(L.take (j+1)).all (zB [42])=((L.take j).all (zB [42])&& zB [42] L[j]) by rw [List.take_succ_eq_append_getElem hjl,List.all_append];simp);have HALL:=hi9 (show L.all (zB [42])=true→zB [42] L[j]=true from fun h=>List.all_eq_true.1 h _ (List.getElem_mem hjl));generalize V[j]=r at *;generalize L[j]=k at *;have N1:=hi9 n1;have bx:=zC wr (.cells #[.int .i64 42] 3);have BX:=bh hB bx;have KM:=hi9 (zY (d:=1) [42] (n1.keep bx) rfl (by decide) (jr wr 42 3));clear n1 e1 bx;by_cases g:zB [42] k=true
    ·rw [if_pos g] at KM;have HT2:=hi9 (show(L.take (j+1)).all (zB [42])=true by rw [HT.out,hA.out,g];rfl);clear HT HALL hA g;go_wp2_with fail;refine KM.out.mono ?_;rintro e w5 ⟨rfl,b5⟩;have B5:=bh BX b5;clear b5 KM BX hB;go_wp2_with fail;go_roundw
     case rel=>exact⟨j+1,by go_num,hlt,HT2,B5⟩
     case measure=>simp [intOf];omega
    ·rw [if_neg g] at KM;have HF:=hi9 (show¬L.all (zB [42])=true from fun q=>g (HALL.out q));clear HT HALL hA g;go_wp2_with fail;refine KM.out.mono ?_;rintro e w5 ⟨rfl,b5⟩;have B5:=bh BX b5;clear b5 KM BX hB;go_wp2_with fail;exact⟨rfl,by rw [HR.out,if_neg HF.out];exact zQ B5.out⟩
   ·have HF:=hi9 (show L.all (zB [42])=true by have:=hA.out;rwa [List.take_of_length_le (by rw [←HLL.out,←HLN.out];omega)] at this);clear hA;go_wp2_with fail;refine(K1.out _).mono ?_;rintro e w5 ⟨b5,A5,n5,c5,rfl,hN,hl⟩;have B5:=bh hB b5;have N5:=hi9 hN;have HL:=hi9 (jx hB.out hl);clear b5 hN hB K1 hl;go_wp2_with fail;go_ret;rw [HR.out,if_pos HF.out];exact zJ B5.out N5.out HL.out
theorem znW(S:Nat→Prop)(x:Xs)(op:Int)(L:List Kd)(A:Option Addr)(n c:Nat)(V:List Sl)(w:World)(hn:n=V.length)(hn2:n≤4000)(hV:zal w A V)(hm:V.map Sl.P=L.map Kd.flat)(hop:op=15∨op=16):
 Calls Tryz.prog 59 #[x.v,.int .i64 op,.slice A n c] w (ji S w (zU op L)):=by
 have B0:=hi9 (za w x.o);unfold Xs.o at B0;unfold Xs.v;have HS:=hi9 hV;have HLN:=hi9 hn;have HM:=hi9 hm;have HLL:=hi9 (show V.length=L.length by have:=congrArg List.length hm;simpa using this);have HR:=hi9 (show zU op L=if L.all (zB [42])=true then .ok (.base 41) else .error 2 by
  unfold zU zcW
  rcases hop with rfl|rfl <;> rfl)
 obtain⟨RR,hRR⟩:∃RR,RR=zU op L:=⟨_,rfl⟩
 rw [←hRR] at HR ⊢;clear hRR;have K1:=hi9 (fun w=>zaC (S:=S) (o:=41) (s:=emp) (k := .base 41) (w:=w) rfl (by decide));clear hV hn hm;rcases hop with rfl|rfl
 all_goals
  go_enter Tryz.func59,Tryz.ntmps59;go_wp2_with fail;go_loopw [34] (fun i wr=>∃j:Nat,i = .int .i64 j∧j≤n∧Hid ((L.take j).all (zB [42])=true)∧Hid (Below w.heap.size w wr)) (fun i _=>n-(intOf i).toNat)
  case atStart=>exact⟨0,rfl,Nat.zero_le _,hi9 (by simp),B0⟩
  case round =>
   obtain⟨j,rfl,hj,hA,hB⟩:=hrel;by_cases hlt:j<n
   ·have hjv:j<V.length:=by rw [←HLN.out];exact hlt
    have hjl:j<L.length:=by rw [←HLL.out];exact hjv
    obtain⟨a,rfl,q1,n1⟩:=(HS.out.keep hB.out).at hjv;have e1:V[j].P=(L[j]).flat:=by
     have:=congrArg (fun l=>l[j]?) HM.out;simpa [hjv,hjl] using this
    rw [e1] at n1;have HT:=hi9 (show(L.take (j+1)).all (zB [42])=((L.take j).all (zB [42])&& zB [42] L[j]) by rw [List.take_succ_eq_append_getElem hjl,List.all_append];simp);have HALL:=hi9 (show L.all (zB [42])=true→zB [42] L[j]=true from fun h=>List.all_eq_true.1 h _ (List.getElem_mem hjl));generalize V[j]=r at *;generalize L[j]=k at *;have N1:=hi9 n1;have bx:=zC wr (.cells #[.int .i64 42] 3);have BX:=bh hB bx;have KM:=hi9 (zY (d:=1) [42] (n1.keep bx) rfl (by decide) (jr wr 42 3));clear n1 e1 bx;by_cases g:zB [42] k=true
    ·rw [if_pos g] at KM;have HT2:=hi9 (show(L.take (j+1)).all (zB [42])=true by rw [HT.out,hA.out,g];rfl);clear HT HALL hA g;go_wp2_with fail;refine KM.out.mono ?_;rintro e w5 ⟨rfl,b5⟩;have B5:=bh BX b5;clear b5 KM BX hB;go_wp2_with fail;go_roundw
     case rel=>exact⟨j+1,by go_num,hlt,HT2,B5⟩
     case measure=>simp [intOf];omega
    ·rw [if_neg g] at KM;have HF:=hi9 (show¬L.all (zB [42])=true from fun q=>g (HALL.out q));clear HT HALL hA g;go_wp2_with fail;refine KM.out.mono ?_;rintro e w5 ⟨rfl,b5⟩;have B5:=bh BX b5;clear b5 KM BX hB;go_wp2_with fail;exact⟨rfl,by rw [HR.out,if_neg HF.out];exact zQ B5.out⟩
   ·have HF:=hi9 (show L.all (zB [42])=true by have:=hA.out;rwa [List.take_of_length_le (by rw [←HLL.out,←HLN.out];omega)] at this);clear hA;go_wp2_with fail;refine(K1.out _).mono ?_;rintro e w5 ⟨b5,A5,n5,c5,rfl,hN,hl⟩;have B5:=bh hB b5;have N5:=hi9 hN;have HL:=hi9 (jx hB.out hl);clear b5 hN hB K1 hl;go_wp2_with fail;go_ret;rw [HR.out,if_pos HF.out];exact zJ B5.out N5.out HL.out
theorem zmM(S:Nat→Prop)(x:Xs)(k0:Kd)(L:List Kd)(A:Option Addr)(n c:Nat)(V:List Sl)(w:World)(hn:n=V.length)(hn2:n≤4000)(hV:zal w A V)(hm:V.map Sl.P=(k0 :: L).map Kd.flat):
 Calls Tryz.prog 59 #[x.v,.int .i64 23,.slice A n c] w (ji S w (zU 23 (k0 :: L))):=by
 have B0:=hi9 (za w x.o);unfold Xs.o at B0;unfold Xs.v;have e0:V[0]?.map Sl.P=some k0.flat:=by have:=congrArg (fun l=>l[0]?) hm;simpa using this
 obtain⟨r0,hr0,hp0⟩:=Option.map_eq_some_iff.1 e0;obtain⟨a,ea,q0,n0⟩:=hV 0 r0 hr0;rw [hp0] at n0;rw [show a.add 0=a from rfl] at q0;have hv0:0<V.length:=(List.getElem?_eq_some_iff.1 hr0).1;subst ea;have hi:(0:Int)<(n:Int):=by omega
 have hn0:0<n:=by omega
 have K1:=hi9 (fun w=>zaC (S:=S) (o:=41) (s:=emp) (k := .base 41) (w:=w) rfl (by decide));have HR:=hi9 (show zU 23 (k0 :: L)=if zB [43] k0=true then .ok (.base 41) else .error 2 by simp [zU,zcW]);obtain⟨RR,hRR⟩:∃RR,RR=zU 23 (k0 :: L):=⟨_,rfl⟩
 rw [←hRR] at HR ⊢;clear hRR;have bx1:=zC (w.alloc (.cells #[.slice x.s.KA x.s.kn x.s.kc,.slice x.s.AA x.s.an x.s.ac,.string x.who,.string x.what,.string x.a.d.id,.slice x.a.WA x.a.wn x.a.wc,.slice x.a.TA x.a.tn x.a.tc,.slice x.a.NA x.a.nn x.a.nc] 60)) (.cells #[.int .i64 43] 3);have BX1:=bh B0 bx1;have KM1:=hi9 (zY (d:=1) [43] ((n0.keep B0.out).keep bx1) rfl (by decide) (jr (w.alloc (.cells #[.slice x.s.KA x.s.kn x.s.kc,.slice x.s.AA x.s.an x.s.ac,.string x.who,.string x.what,.string x.a.d.id,.slice x.a.WA x.a.wn x.a.wc,.slice x.a.TA x.a.tn x.a.tc,.slice x.a.NA x.a.nn x.a.nc] 60)) 43 3));clear bx1;rw [show(w.alloc (.cells #[.slice x.s.KA x.s.kn x.s.kc,.slice x.s.AA x.s.an x.s.ac,.string x.who,.string x.what,.string x.a.d.id,.slice x.a.WA x.a.wn x.a.wc,.slice x.a.TA x.a.tn x.a.tc,.slice x.a.NA x.a.nn x.a.nc] 60)).heap.size=w.heap.size+1 from by simp [go_sem]] at KM1;replace q0:=zb B0.out q0;clear hV hm n0 hr0 hp0 e0 hv0;by_cases g:zB [43] k0=true
 ·rw [if_pos g] at KM1;have HT:=hi9 g;clear g;go_enter Tryz.func59,Tryz.ntmps59;go_wp2_with fail;refine KM1.out.mono ?_;rintro e w5 ⟨rfl,b5⟩;have B5:=bh BX1 b5;clear b5 KM1 BX1 B0 q0;go_wp2_with fail;refine(K1.out _).mono ?_;rintro e w9 ⟨b9,A9,n9,c9,rfl,hN,hl⟩;have B9:=bh B5 b9;have N9:=hi9 hN;have HL:=hi9 (jx B5.out hl);clear b9 hN B5 K1 hl;go_wp2_with fail;go_ret;rw [HR.out,if_pos HT.out];exact zJ B9.out N9.out HL.out
 ·rw [if_neg g] at KM1;have HF:=hi9 g;clear g;go_enter Tryz.func59,Tryz.ntmps59;go_wp2_with fail;refine KM1.out.mono ?_;rintro e w5 ⟨rfl,b5⟩;have B5:=bh BX1 b5;clear b5 KM1 BX1 B0 q0;go_wp2_with fail;exact⟨rfl,by rw [HR.out,if_neg HF.out];exact zQ B5.out⟩
theorem zo3(S:Nat→Prop)(x:Xs)(k0:Kd)(L:List Kd)(A:Option Addr)(n c:Nat)(V:List Sl)(w:World)(hn:n=V.length)(hn2:n≤4000)(hV:zal w A V)(hm:V.map Sl.P=(k0 :: L).map Kd.flat):
 Calls Tryz.prog 59 #[x.v,.int .i64 24,.slice A n c] w (ji S w (zU 24 (k0 :: L))):=by
 have B0:=hi9 (za w x.o);unfold Xs.o at B0;unfold Xs.v;have e0:V[0]?.map Sl.P=some k0.flat:=by have:=congrArg (fun l=>l[0]?) hm;simpa using this
 obtain⟨r0,hr0,hp0⟩:=Option.map_eq_some_iff.1 e0;obtain⟨a,ea,q0,n0⟩:=hV 0 r0 hr0;rw [hp0] at n0;rw [show a.add 0=a from rfl] at q0;have hv0:0<V.length:=(List.getElem?_eq_some_iff.1 hr0).1;subst ea;have hi:(0:Int)<(n:Int):=by omega
 have hn0:0<n:=by omega
 have K1:=hi9 (fun w=>zaC (S:=S) (o:=41) (s:=emp) (k := .base 41) (w:=w) rfl (by decide));have HR:=hi9 (show zU 24 (k0 :: L)=if zB [44] k0=true then .ok (.base 41) else .error 2 by simp [zU,zcW]);obtain⟨RR,hRR⟩:∃RR,RR=zU 24 (k0 :: L):=⟨_,rfl⟩
 rw [←hRR] at HR ⊢;clear hRR;have bx1:=zC (w.alloc (.cells #[.slice x.s.KA x.s.kn x.s.kc,.slice x.s.AA x.s.an x.s.ac,.string x.who,.string x.what,.string x.a.d.id,.slice x.a.WA x.a.wn x.a.wc,.slice x.a.TA x.a.tn x.a.tc,.slice x.a.NA x.a.nn x.a.nc] 60)) (.cells #[.int .i64 44] 3);have BX1:=bh B0 bx1;have KM1:=hi9 (zY (d:=1) [44] ((n0.keep B0.out).keep bx1) rfl (by decide) (jr (w.alloc (.cells #[.slice x.s.KA x.s.kn x.s.kc,.slice x.s.AA x.s.an x.s.ac,.string x.who,.string x.what,.string x.a.d.id,.slice x.a.WA x.a.wn x.a.wc,.slice x.a.TA x.a.tn x.a.tc,.slice x.a.NA x.a.nn x.a.nc] 60)) 44 3));clear bx1;rw [show(w.alloc (.cells #[.slice x.s.KA x.s.kn x.s.kc,.slice x.s.AA x.s.an x.s.ac,.string x.who,.string x.what,.string x.a.d.id,.slice x.a.WA x.a.wn x.a.wc,.slice x.a.TA x.a.tn x.a.tc,.slice x.a.NA x.a.nn x.a.nc] 60)).heap.size=w.heap.size+1 from by simp [go_sem]] at KM1;replace q0:=zb B0.out q0;clear hV hm n0 hr0 hp0 e0 hv0;by_cases g:zB [44] k0=true
 ·rw [if_pos g] at KM1;have HT:=hi9 g;clear g;go_enter Tryz.func59,Tryz.ntmps59;go_wp2_with fail;refine KM1.out.mono ?_;rintro e w5 ⟨rfl,b5⟩;have B5:=bh BX1 b5;clear b5 KM1 BX1 B0 q0;go_wp2_with fail;refine(K1.out _).mono ?_;rintro e w9 ⟨b9,A9,n9,c9,rfl,hN,hl⟩;have B9:=bh B5 b9;have N9:=hi9 hN;have HL:=hi9 (jx B5.out hl);clear b9 hN B5 K1 hl;go_wp2_with fail;go_ret;rw [HR.out,if_pos HT.out];exact zJ B9.out N9.out HL.out
 ·rw [if_neg g] at KM1;have HF:=hi9 g;clear g;go_enter Tryz.func59,Tryz.ntmps59;go_wp2_with fail;refine KM1.out.mono ?_;rintro e w5 ⟨rfl,b5⟩;have B5:=bh BX1 b5;clear b5 KM1 BX1 B0 q0;go_wp2_with fail;exact⟨rfl,by rw [HR.out,if_neg HF.out];exact zQ B5.out⟩
theorem zna(S:Nat→Prop)(x:Xs)(k0:Kd)(L:List Kd)(A:Option Addr)(n c:Nat)(V:List Sl)(w:World)(hn:n=V.length)(hn2:n≤4000)(hV:zal w A V)(hm:V.map Sl.P=(k0 :: L).map Kd.flat):
 Calls Tryz.prog 59 #[x.v,.int .i64 21,.slice A n c] w (ji S w (zU 21 (k0 :: L))):=by
 have B0:=hi9 (za w x.o);unfold Xs.o at B0;unfold Xs.v;have e0:V[0]?.map Sl.P=some k0.flat:=by have:=congrArg (fun l=>l[0]?) hm;simpa using this
 obtain⟨r0,hr0,hp0⟩:=Option.map_eq_some_iff.1 e0;obtain⟨a,ea,q0,n0⟩:=hV 0 r0 hr0;rw [hp0] at n0;rw [show a.add 0=a from rfl] at q0;have hv0:0<V.length:=(List.getElem?_eq_some_iff.1 hr0).1;subst ea;have hi:(0:Int)<(n:Int):=by omega
 have hn0:0<n:=by omega
 have K1:=hi9 (fun w=>zaC (S:=S) (o:=41) (s:=emp) (k := .base 41) (w:=w) rfl (by decide));have HR:=hi9 (show zU 21 (k0 :: L)=if zB [46,44] k0=true then .ok (.base 41) else .error 2 by simp [zU,zcW]);obtain⟨RR,hRR⟩:∃RR,RR=zU 21 (k0 :: L):=⟨_,rfl⟩
 rw [←hRR] at HR ⊢;clear hRR;have bx1:=zC (w.alloc (.cells #[.slice x.s.KA x.s.kn x.s.kc,.slice x.s.AA x.s.an x.s.ac,.string x.who,.string x.what,.string x.a.d.id,.slice x.a.WA x.a.wn x.a.wc,.slice x.a.TA x.a.tn x.a.tc,.slice x.a.NA x.a.nn x.a.nc] 60)) (.cells #[.int .i64 46,.int .i64 44] 3);have BX1:=bh B0 bx1;have KM1:=hi9 (zY (d:=2) [46,44] ((n0.keep B0.out).keep bx1) rfl (by decide) (zh1 (w.alloc (.cells #[.slice x.s.KA x.s.kn x.s.kc,.slice x.s.AA x.s.an x.s.ac,.string x.who,.string x.what,.string x.a.d.id,.slice x.a.WA x.a.wn x.a.wc,.slice x.a.TA x.a.tn x.a.tc,.slice x.a.NA x.a.nn x.a.nc] 60)) 46 44 3));clear bx1;rw [show(w.alloc (.cells #[.slice x.s.KA x.s.kn x.s.kc,.slice x.s.AA x.s.an x.s.ac,.string x.who,.string x.what,.string x.a.d.id,.slice x.a.WA x.a.wn x.a.wc,.slice x.a.TA x.a.tn x.a.tc,.slice x.a.NA x.a.nn x.a.nc] 60)).heap.size=w.heap.size+1 from by simp [go_sem]] at KM1;replace q0:=zb B0.out q0;clear hV hm n0 hr0 hp0 e0 hv0;by_cases g:zB [46,44] k0=true
 ·rw [if_pos g] at KM1;have HT:=hi9 g;clear g;go_enter Tryz.func59,Tryz.ntmps59;go_wp2_with fail;refine KM1.out.mono ?_;rintro e w5 ⟨rfl,b5⟩;have B5:=bh BX1 b5;clear b5 KM1 BX1 B0 q0;go_wp2_with fail;refine(K1.out _).mono ?_;rintro e w9 ⟨b9,A9,n9,c9,rfl,hN,hl⟩;have B9:=bh B5 b9;have N9:=hi9 hN;have HL:=hi9 (jx B5.out hl);clear b9 hN B5 K1 hl;go_wp2_with fail;go_ret;rw [HR.out,if_pos HT.out];exact zJ B9.out N9.out HL.out
 ·rw [if_neg g] at KM1;have HF:=hi9 g;clear g;go_enter Tryz.func59,Tryz.ntmps59;go_wp2_with fail;refine KM1.out.mono ?_;rintro e w5 ⟨rfl,b5⟩;have B5:=bh BX1 b5;clear b5 KM1 BX1 B0 q0;go_wp2_with fail;exact⟨rfl,by rw [HR.out,if_neg HF.out];exact zQ B5.out⟩
theorem znf(S:Nat→Prop)(x:Xs)(k0:Kd)(L:List Kd)(A:Option Addr)(n c:Nat)(V:List Sl)(w:World)(hn:n=V.length)(hn2:n≤4000)(hV:zal w A V)(hm:V.map Sl.P=(k0 :: L).map Kd.flat):
 Calls Tryz.prog 59 #[x.v,.int .i64 25,.slice A n c] w (ji S w (zU 25 (k0 :: L))):=by
 have B0:=hi9 (za w x.o);unfold Xs.o at B0;unfold Xs.v;have e0:V[0]?.map Sl.P=some k0.flat:=by have:=congrArg (fun l=>l[0]?) hm;simpa using this
 obtain⟨r0,hr0,hp0⟩:=Option.map_eq_some_iff.1 e0;obtain⟨a,ea,q0,n0⟩:=hV 0 r0 hr0;rw [hp0] at n0;rw [show a.add 0=a from rfl] at q0;have hv0:0<V.length:=(List.getElem?_eq_some_iff.1 hr0).1;subst ea;have hi:(0:Int)<(n:Int):=by omega
 have hn0:0<n:=by omega
 have K1:=hi9 (fun w=>zaC (S:=S) (o:=41) (s:=emp) (k := .base 41) (w:=w) rfl (by decide));have HR:=hi9 (show zU 25 (k0 :: L)=if zB [45] k0=true then .ok (.base 41) else .error 2 by simp [zU,zcW]);obtain⟨RR,hRR⟩:∃RR,RR=zU 25 (k0 :: L):=⟨_,rfl⟩
 rw [←hRR] at HR ⊢;clear hRR;have bx1:=zC (w.alloc (.cells #[.slice x.s.KA x.s.kn x.s.kc,.slice x.s.AA x.s.an x.s.ac,.string x.who,.string x.what,.string x.a.d.id,.slice x.a.WA x.a.wn x.a.wc,.slice x.a.TA x.a.tn x.a.tc,.slice x.a.NA x.a.nn x.a.nc] 60)) (.cells #[.int .i64 45] 3);have BX1:=bh B0 bx1;have KM1:=hi9 (zY (d:=1) [45] ((n0.keep B0.out).keep bx1) rfl (by decide) (jr (w.alloc (.cells #[.slice x.s.KA x.s.kn x.s.kc,.slice x.s.AA x.s.an x.s.ac,.string x.who,.string x.what,.string x.a.d.id,.slice x.a.WA x.a.wn x.a.wc,.slice x.a.TA x.a.tn x.a.tc,.slice x.a.NA x.a.nn x.a.nc] 60)) 45 3));clear bx1;rw [show(w.alloc (.cells #[.slice x.s.KA x.s.kn x.s.kc,.slice x.s.AA x.s.an x.s.ac,.string x.who,.string x.what,.string x.a.d.id,.slice x.a.WA x.a.wn x.a.wc,.slice x.a.TA x.a.tn x.a.tc,.slice x.a.NA x.a.nn x.a.nc] 60)).heap.size=w.heap.size+1 from by simp [go_sem]] at KM1;replace q0:=zb B0.out q0;clear hV hm n0 hr0 hp0 e0 hv0;by_cases g:zB [45] k0=true
 ·rw [if_pos g] at KM1;have HT:=hi9 g;clear g;go_enter Tryz.func59,Tryz.ntmps59;go_wp2_with fail;refine KM1.out.mono ?_;rintro e w5 ⟨rfl,b5⟩;have B5:=bh BX1 b5;clear b5 KM1 BX1 B0 q0;go_wp2_with fail;refine(K1.out _).mono ?_;rintro e w9 ⟨b9,A9,n9,c9,rfl,hN,hl⟩;have B9:=bh B5 b9;have N9:=hi9 hN;have HL:=hi9 (jx B5.out hl);clear b9 hN B5 K1 hl;go_wp2_with fail;go_ret;rw [HR.out,if_pos HT.out];exact zJ B9.out N9.out HL.out
 ·rw [if_neg g] at KM1;have HF:=hi9 g;clear g;go_enter Tryz.func59,Tryz.ntmps59;go_wp2_with fail;refine KM1.out.mono ?_;rintro e w5 ⟨rfl,b5⟩;have B5:=bh BX1 b5;clear b5 KM1 BX1 B0 q0;go_wp2_with fail;exact⟨rfl,by rw [HR.out,if_neg HF.out];exact zQ B5.out⟩
theorem znG(S:Nat→Prop)(x:Xs)(k0 k1:Kd)(A:Option Addr)(n c:Nat)(V:List Sl)(w:World)(hn:n=V.length)(hn2:n≤4000)(hV:zal w A V)(hm:V.map Sl.P = [k0,k1].map Kd.flat):
 Calls Tryz.prog 59 #[x.v,.int .i64 26,.slice A n c] w (ji S w (zU 26 [k0,k1])):=by
 have B0:=hi9 (za w x.o);unfold Xs.o at B0;unfold Xs.v;have e0:V[0]?.map Sl.P=some k0.flat:=by have:=congrArg (fun l=>l[0]?) hm;simpa using this
 obtain⟨r0,hr0,hp0⟩:=Option.map_eq_some_iff.1 e0;obtain⟨a,ea,q0,n0⟩:=hV 0 r0 hr0;rw [hp0] at n0;rw [show a.add 0=a from rfl] at q0;have hv0:0<V.length:=(List.getElem?_eq_some_iff.1 hr0).1;have e1:V[1]?.map Sl.P=some k1.flat:=by have:=congrArg (fun l=>l[1]?) hm;simpa using this
 obtain⟨r1,hr1,hp1⟩:=Option.map_eq_some_iff.1 e1;obtain⟨a',ea',q1,n1⟩:=hV 1 r1 hr1;rw [hp1] at n1;obtain rfl:a=a':=Option.some.inj (ea.symm.trans ea');have hv1:1<V.length:=(List.getElem?_eq_some_iff.1 hr1).1;have q1':w.cell? ⟨a.block,a.off+1,none⟩=some (.slice r1.A r1.n r1.c):=q1;have hi1:(1:Int)<(n:Int):=by omega
 subst ea;have hi:(0:Int)<(n:Int):=by omega
 have hn0:0<n:=by omega
 have K1:=hi9 (fun w=>zaC (S:=S) (o:=41) (s:=emp) (k := .base 41) (w:=w) rfl (by decide));have HR:=hi9 (show zU 26 [k0,k1]=if(zB [45] k0 && zB [45] k1)=true then .ok (.base 41) else .error 2 by simp [zU,zcW]);obtain⟨RR,hRR⟩:∃RR,RR=zU 26 [k0,k1]:=⟨_,rfl⟩
 rw [←hRR] at HR ⊢;clear hRR;have bx1:=zC (w.alloc (.cells #[.slice x.s.KA x.s.kn x.s.kc,.slice x.s.AA x.s.an x.s.ac,.string x.who,.string x.what,.string x.a.d.id,.slice x.a.WA x.a.wn x.a.wc,.slice x.a.TA x.a.tn x.a.tc,.slice x.a.NA x.a.nn x.a.nc] 60)) (.cells #[.int .i64 45] 3);have BX1:=bh B0 bx1;have KM1:=hi9 (zY (d:=1) [45] ((n0.keep B0.out).keep bx1) rfl (by decide) (jr (w.alloc (.cells #[.slice x.s.KA x.s.kn x.s.kc,.slice x.s.AA x.s.an x.s.ac,.string x.who,.string x.what,.string x.a.d.id,.slice x.a.WA x.a.wn x.a.wc,.slice x.a.TA x.a.tn x.a.tc,.slice x.a.NA x.a.nn x.a.nc] 60)) 45 3));clear bx1;rw [show(w.alloc (.cells #[.slice x.s.KA x.s.kn x.s.kc,.slice x.s.AA x.s.an x.s.ac,.string x.who,.string x.what,.string x.a.d.id,.slice x.a.WA x.a.wn x.a.wc,.slice x.a.TA x.a.tn x.a.tc,.slice x.a.NA x.a.nn x.a.nc] 60)).heap.size=w.heap.size+1 from by simp [go_sem]] at KM1;replace q0:=zb B0.out q0;have N1:=hi9 (n1.keep B0.out);have Q1:=hi9 (zb B0.out q1');clear hV hm n0 hr0 hp0 e0 hv0 n1 hr1 hp1 e1 q1 q1' ea';by_cases g:zB [45] k0=true
 ·rw [if_pos g] at KM1;have G:=hi9 g;clear g;go_enter Tryz.func59,Tryz.ntmps59;go_wp2_with fail;refine KM1.out.mono ?_;rintro e w5 ⟨rfl,b5⟩;have B5:=bh BX1 b5;have q1:=zb b5 (zb (zC _ _) Q1.out);have N5:=hi9 ((N1.out.keep (zC _ _)).keep b5);clear b5 N1 Q1 KM1 BX1 B0 q0;have bx2:=zC w5 (.cells #[.int .i64 45] 3);have BX2:=bh B5 bx2;have KM2:=hi9 (zY (d:=1) [45] (N5.out.keep bx2) rfl (by decide) (jr w5 45 3));clear bx2;by_cases g2:zB [45] k1=true
  ·rw [if_pos g2] at KM2;have HT:=hi9 (show(zB [45] k0 && zB [45] k1)=true by rw [G.out,g2];rfl);clear g2 G;go_wp2_with fail;refine KM2.out.mono ?_;rintro e w6 ⟨rfl,b6⟩;have B6:=bh BX2 b6;clear b6 KM2 BX2 B5 q1;go_wp2_with fail;refine(K1.out _).mono ?_;rintro e w9 ⟨b9,A9,n9,c9,rfl,hN,hl⟩;have B9:=bh B6 b9;have N9:=hi9 hN;have HL:=hi9 (jx B6.out hl);clear b9 hN B6 K1 hl;go_wp2_with fail;go_ret;rw [HR.out,if_pos HT.out];exact zJ B9.out N9.out HL.out
  ·rw [if_neg g2] at KM2;have HF:=hi9 (show¬(zB [45] k0 && zB [45] k1)=true from fun q=>g2 (by rw [Bool.and_eq_true] at q;exact q.2));clear g2 G;go_wp2_with fail;refine KM2.out.mono ?_;rintro e w6 ⟨rfl,b6⟩;have B6:=bh BX2 b6;clear b6 KM2 BX2 B5 q1;go_wp2_with fail;exact⟨rfl,by rw [HR.out,if_neg HF.out];exact zQ B6.out⟩
 ·rw [if_neg g] at KM1;have HF:=hi9 (show¬(zB [45] k0 && zB [45] k1)=true from fun q=>g (by rw [Bool.and_eq_true] at q;exact q.1));clear g;go_enter Tryz.func59,Tryz.ntmps59;go_wp2_with fail;refine KM1.out.mono ?_;rintro e w5 ⟨rfl,b5⟩;have B5:=bh BX1 b5;clear b5 KM1 BX1 B0 q0;go_wp2_with fail;exact⟨rfl,by rw [HR.out,if_neg HF.out];exact zQ B5.out⟩
theorem zne(S:Nat→Prop)(x:Xs)(k0 k1:Kd)(A:Option Addr)(n c:Nat)(V:List Sl)(w:World)(hn:n=V.length)(hn2:n≤4000)(hV:zal w A V)(hm:V.map Sl.P = [k0,k1].map Kd.flat):
 Calls Tryz.prog 59 #[x.v,.int .i64 27,.slice A n c] w (ji S w (zU 27 [k0,k1])):=by
 have B0:=hi9 (za w x.o);unfold Xs.o at B0;unfold Xs.v;have e0:V[0]?.map Sl.P=some k0.flat:=by have:=congrArg (fun l=>l[0]?) hm;simpa using this
 obtain⟨r0,hr0,hp0⟩:=Option.map_eq_some_iff.1 e0;obtain⟨a,ea,q0,n0⟩:=hV 0 r0 hr0;rw [hp0] at n0;rw [show a.add 0=a from rfl] at q0;have hv0:0<V.length:=(List.getElem?_eq_some_iff.1 hr0).1;have e1:V[1]?.map Sl.P=some k1.flat:=by have:=congrArg (fun l=>l[1]?) hm;simpa using this
 obtain⟨r1,hr1,hp1⟩:=Option.map_eq_some_iff.1 e1;obtain⟨a',ea',q1,n1⟩:=hV 1 r1 hr1;rw [hp1] at n1;obtain rfl:a=a':=Option.some.inj (ea.symm.trans ea');have hv1:1<V.length:=(List.getElem?_eq_some_iff.1 hr1).1;have q1':w.cell? ⟨a.block,a.off+1,none⟩=some (.slice r1.A r1.n r1.c):=q1;have hi1:(1:Int)<(n:Int):=by omega
 subst ea;have hi:(0:Int)<(n:Int):=by omega
 have hn0:0<n:=by omega
 have K1:=hi9 (fun w=>zaC (S:=S) (o:=41) (s:=emp) (k := .base 41) (w:=w) rfl (by decide));have HR:=hi9 (show zU 27 [k0,k1]=if(zB [45] k0 && zB [45] k1)=true then .ok (.base 41) else .error 2 by simp [zU,zcW]);obtain⟨RR,hRR⟩:∃RR,RR=zU 27 [k0,k1]:=⟨_,rfl⟩
 rw [←hRR] at HR ⊢;clear hRR;have bx1:=zC (w.alloc (.cells #[.slice x.s.KA x.s.kn x.s.kc,.slice x.s.AA x.s.an x.s.ac,.string x.who,.string x.what,.string x.a.d.id,.slice x.a.WA x.a.wn x.a.wc,.slice x.a.TA x.a.tn x.a.tc,.slice x.a.NA x.a.nn x.a.nc] 60)) (.cells #[.int .i64 45] 3);have BX1:=bh B0 bx1;have KM1:=hi9 (zY (d:=1) [45] ((n0.keep B0.out).keep bx1) rfl (by decide) (jr (w.alloc (.cells #[.slice x.s.KA x.s.kn x.s.kc,.slice x.s.AA x.s.an x.s.ac,.string x.who,.string x.what,.string x.a.d.id,.slice x.a.WA x.a.wn x.a.wc,.slice x.a.TA x.a.tn x.a.tc,.slice x.a.NA x.a.nn x.a.nc] 60)) 45 3));clear bx1;rw [show(w.alloc (.cells #[.slice x.s.KA x.s.kn x.s.kc,.slice x.s.AA x.s.an x.s.ac,.string x.who,.string x.what,.string x.a.d.id,.slice x.a.WA x.a.wn x.a.wc,.slice x.a.TA x.a.tn x.a.tc,.slice x.a.NA x.a.nn x.a.nc] 60)).heap.size=w.heap.size+1 from by simp [go_sem]] at KM1;replace q0:=zb B0.out q0;have N1:=hi9 (n1.keep B0.out);have Q1:=hi9 (zb B0.out q1');clear hV hm n0 hr0 hp0 e0 hv0 n1 hr1 hp1 e1 q1 q1' ea';by_cases g:zB [45] k0=true
 ·rw [if_pos g] at KM1;have G:=hi9 g;clear g;go_enter Tryz.func59,Tryz.ntmps59;go_wp2_with fail;refine KM1.out.mono ?_;rintro e w5 ⟨rfl,b5⟩;have B5:=bh BX1 b5;have q1:=zb b5 (zb (zC _ _) Q1.out);have N5:=hi9 ((N1.out.keep (zC _ _)).keep b5);clear b5 N1 Q1 KM1 BX1 B0 q0;have bx2:=zC w5 (.cells #[.int .i64 45] 3);have BX2:=bh B5 bx2;have KM2:=hi9 (zY (d:=1) [45] (N5.out.keep bx2) rfl (by decide) (jr w5 45 3));clear bx2;by_cases g2:zB [45] k1=true
  ·rw [if_pos g2] at KM2;have HT:=hi9 (show(zB [45] k0 && zB [45] k1)=true by rw [G.out,g2];rfl);clear g2 G;go_wp2_with fail;refine KM2.out.mono ?_;rintro e w6 ⟨rfl,b6⟩;have B6:=bh BX2 b6;clear b6 KM2 BX2 B5 q1;go_wp2_with fail;refine(K1.out _).mono ?_;rintro e w9 ⟨b9,A9,n9,c9,rfl,hN,hl⟩;have B9:=bh B6 b9;have N9:=hi9 hN;have HL:=hi9 (jx B6.out hl);clear b9 hN B6 K1 hl;go_wp2_with fail;go_ret;rw [HR.out,if_pos HT.out];exact zJ B9.out N9.out HL.out
  ·rw [if_neg g2] at KM2;have HF:=hi9 (show¬(zB [45] k0 && zB [45] k1)=true from fun q=>g2 (by rw [Bool.and_eq_true] at q;exact q.2));clear g2 G;go_wp2_with fail;refine KM2.out.mono ?_;rintro e w6 ⟨rfl,b6⟩;have B6:=bh BX2 b6;clear b6 KM2 BX2 B5 q1;go_wp2_with fail;exact⟨rfl,by rw [HR.out,if_neg HF.out];exact zQ B6.out⟩
 ·rw [if_neg g] at KM1;have HF:=hi9 (show¬(zB [45] k0 && zB [45] k1)=true from fun q=>g (by rw [Bool.and_eq_true] at q;exact q.1));clear g;go_enter Tryz.func59,Tryz.ntmps59;go_wp2_with fail;refine KM1.out.mono ?_;rintro e w5 ⟨rfl,b5⟩;have B5:=bh BX1 b5;clear b5 KM1 BX1 B0 q0;go_wp2_with fail;exact⟨rfl,by rw [HR.out,if_neg HF.out];exact zQ B5.out⟩
theorem zoU(S:Nat→Prop)(x:Xs)(L:List Kd)(A:Option Addr)(n c:Nat)(w:World):
 Calls Tryz.prog 59 #[x.v,.int .i64 14,.slice A n c] w (ji S w (zU 14 L)):=by
 have B0:=hi9 (za w x.o);unfold Xs.o at B0;unfold Xs.v;rw [show zU 14 L = .ok (.base 41) from rfl];have K1:=hi9 (fun w=>zaC (S:=S) (o:=41) (s:=emp) (k := .base 41) (w:=w) rfl (by decide));go_enter Tryz.func59,Tryz.ntmps59;go_wp2_with fail;refine(K1.out _).mono ?_;rintro e w9 ⟨b9,A9,n9,c9,rfl,hN,hl⟩;have B9:=bh B0 b9;have N9:=hi9 hN;have HL:=hi9 (jx B0.out hl);clear b9 hN B0 K1 hl;go_wp2_with fail;go_ret;exact zJ B9.out N9.out HL.out
theorem zoa(k:Kd)(h:∀p,k≠ .set p)(hb:∀x,k = .base x→x≠45):zB [44,45] k=zB [44] k:=by
 cases k with
 | base x =>
  have hx:=hb x rfl
  rw [Bool.eq_iff_iff,zd0,zd0]
  simp only [kOp,List.contains_cons,List.contains_nil,Bool.or_false,Bool.or_eq_true,beq_iff_eq]
  constructor
  ·rintro (q|q|q)
   ·exact .inl q
   ·exact .inr q
   ·exact absurd q hx
  ·rintro (q|q)
   ·exact .inl q
   ·exact .inr (.inl q)
 | ent s=>rfl
 | set p=>exact absurd rfl (h p)
 | fs f=>rfl
theorem zlW(k:Kd)(h:∀p,k≠ .set p):zba k=zB [44] k:=by
 cases k with
 | base x=>rfl
 | ent s=>rfl
 | set p=>exact absurd rfl (h p)
 | fs f=>rfl
theorem zoJ(k:Kd)(h:∀p,k≠ .set p)(hb:∀x,k = .base x→x≠45):kOp k≠45:=by
 cases k with
 | base x=>exact hb x rfl
 | ent s=>show(44:Int)≠45;decide
 | set p=>exact absurd rfl (h p)
 | fs f=>show(46:Int)≠45;decide
theorem zoW(S:Nat→Prop)(x:Xs)(k0 k1:Kd)(A:Option Addr)(n c:Nat)(V:List Sl)(w:World)(hn:n=V.length)(hn2:n≤4000)(hV:zal w A V)(hm:V.map Sl.P = [k0,k1].map Kd.flat)(hb:∀x,k1 = .base x→x≠45):
 Calls Tryz.prog 59 #[x.v,.int .i64 20,.slice A n c] w (ji S w (zU 20 [k0,k1])):=by
 have B0:=hi9 (za w x.o);unfold Xs.o at B0;unfold Xs.v;have e0:V[0]?.map Sl.P=some k0.flat:=by have:=congrArg (fun l=>l[0]?) hm;simpa using this
 obtain⟨r0,hr0,hp0⟩:=Option.map_eq_some_iff.1 e0;obtain⟨a,ea,q0,n0⟩:=hV 0 r0 hr0;rw [hp0] at n0;rw [show a.add 0=a from rfl] at q0;have hv0:0<V.length:=(List.getElem?_eq_some_iff.1 hr0).1;have e1:V[1]?.map Sl.P=some k1.flat:=by have:=congrArg (fun l=>l[1]?) hm;simpa using this
 obtain⟨r1,hr1,hp1⟩:=Option.map_eq_some_iff.1 e1;obtain⟨a',ea',q1,n1⟩:=hV 1 r1 hr1;rw [hp1] at n1;obtain rfl:a=a':=Option.some.inj (ea.symm.trans ea');have hv1:1<V.length:=(List.getElem?_eq_some_iff.1 hr1).1;have q1':w.cell? ⟨a.block,a.off+1,none⟩=some (.slice r1.A r1.n r1.c):=q1;have hi1:(1:Int)<(n:Int):=by omega
 subst ea;have hi:(0:Int)<(n:Int):=by omega
 have hn0:0<n:=by omega
 have K1:=hi9 (fun w=>zaC (S:=S) (o:=41) (s:=emp) (k := .base 41) (w:=w) rfl (by decide));have HR:=hi9 (show zU 20 [k0,k1]=if(zB [44] k0 && zba k1)=true then .ok (.base 41) else .error 2 by simp [zU,zcW]);obtain⟨RR,hRR⟩:∃RR,RR=zU 20 [k0,k1]:=⟨_,rfl⟩
 rw [←hRR] at HR ⊢;clear hRR;have bx1:=zC (w.alloc (.cells #[.slice x.s.KA x.s.kn x.s.kc,.slice x.s.AA x.s.an x.s.ac,.string x.who,.string x.what,.string x.a.d.id,.slice x.a.WA x.a.wn x.a.wc,.slice x.a.TA x.a.tn x.a.tc,.slice x.a.NA x.a.nn x.a.nc] 60)) (.cells #[.int .i64 44] 3);have BX1:=bh B0 bx1;have KM1:=hi9 (zY (d:=1) [44] ((n0.keep B0.out).keep bx1) rfl (by decide) (jr (w.alloc (.cells #[.slice x.s.KA x.s.kn x.s.kc,.slice x.s.AA x.s.an x.s.ac,.string x.who,.string x.what,.string x.a.d.id,.slice x.a.WA x.a.wn x.a.wc,.slice x.a.TA x.a.tn x.a.tc,.slice x.a.NA x.a.nn x.a.nc] 60)) 44 3));clear bx1;rw [show(w.alloc (.cells #[.slice x.s.KA x.s.kn x.s.kc,.slice x.s.AA x.s.an x.s.ac,.string x.who,.string x.what,.string x.a.d.id,.slice x.a.WA x.a.wn x.a.wc,.slice x.a.TA x.a.tn x.a.tc,.slice x.a.NA x.a.nn x.a.nc] 60)).heap.size=w.heap.size+1 from by simp [go_sem]] at KM1;replace q0:=zb B0.out q0;have N1:=hi9 (n1.keep B0.out);have Q1:=hi9 (zb B0.out q1');clear hV hm n0 hr0 hp0 e0 hv0 n1 hr1 hp1 e1 q1 q1' ea';by_cases g:zB [44] k0=true
 ·rw [if_pos g] at KM1;have G:=hi9 g;clear g;go_enter Tryz.func59,Tryz.ntmps59;go_wp2_with fail;refine KM1.out.mono ?_;rintro e w5 ⟨rfl,b5⟩;have B5:=bh BX1 b5;have Q5:=hi9 (zb b5 (zb (zC _ _) Q1.out));have q1:=Q5.out;have N5:=hi9 ((N1.out.keep (zC _ _)).keep b5);clear b5 N1 Q1 KM1 BX1 B0 q0;have bx2:=zC w5 (.cells #[.int .i64 44,.int .i64 45] 3);have BX2:=bh B5 bx2;have KM2:=hi9 (zY (d:=2) [44,45] (N5.out.keep bx2) rfl (by decide) (zh1 w5 44 45 3));clear bx2;by_cases hs:∃p,k1 = .set p
  ·obtain⟨p,rfl⟩:=hs;rw [show zB [44,45] (.set p)=true from rfl,if_pos rfl] at KM2;clear hb;go_wp2_with fail;refine KM2.out.mono ?_;rintro e w6 ⟨rfl,b6⟩;have B6:=bh BX2 b6;have q9:=zb b6 (zb (zC _ _) Q5.out);have N6:=hi9 ((N5.out.keep (zC _ _)).keep b6);clear b6 N5 Q5 KM2 BX2 B5 q1;have NS:=N6.out;obtain⟨a1,ea1,d0,-,-,-⟩:=NS.at_ 0 ⟨45,0,emp,emp⟩ rfl;rw [show a1.add (0*4)=a1 from rfl] at d0;rw [ea1] at q9 NS;have NT:=zie NS;have hr1n:(0:Int)<(r1.n:Int):=by rw [N6.out.len];simp [Kd.flat]
   have hrc:=N6.out.cap;have hrm:=N6.out.max;unfold maxLen at hrm;have hr1n2:2≤r1.n:=by rw [N6.out.len,Kd.flat,List.length_cons];have:=zaa p;omega
   have bx3:=zC w6 (.cells #[.int .i64 44] 3);have BX3:=bh B6 bx3;have KM3:=hi9 (zY (d:=1) [44] (NT.keep bx3) rfl (by decide) (jr w6 44 3));clear NS NT bx3 N6 ea1;by_cases g2:zB [44] p=true
   ·rw [if_pos g2] at KM3;have HT:=hi9 (show(zB [44] k0 && zba (.set p))=true by rw [G.out,show zba (.set p)=zB [44] p from rfl,g2];rfl);clear g2 G;go_wp2_with fail;refine KM3.out.mono ?_;rintro e w7 ⟨rfl,b7⟩;have B7:=bh BX3 b7;clear b7 KM3 BX3 B6 q9 d0;go_wp2_with fail;refine(K1.out _).mono ?_;rintro e w9 ⟨b9,A9,n9,c9,rfl,hN,hl⟩;have B9:=bh B7 b9;have N9:=hi9 hN;have HL:=hi9 (jx B7.out hl);clear b9 hN B7 K1 hl;go_wp2_with fail;go_ret;rw [HR.out,if_pos HT.out];exact zJ B9.out N9.out HL.out
   ·rw [if_neg g2] at KM3;have HF:=hi9 (show¬(zB [44] k0 && zba (.set p))=true from fun q=>g2 (by rw [Bool.and_eq_true] at q;exact q.2));clear g2 G;go_wp2_with fail;refine KM3.out.mono ?_;rintro e w7 ⟨rfl,b7⟩;have B7:=bh BX3 b7;clear b7 KM3 BX3 B6 q9 d0;go_wp2_with fail;exact⟨rfl,by rw [HR.out,if_neg HF.out];exact zQ B7.out⟩
  ·replace hs:∀p,k1≠ .set p:=fun p e=>hs ⟨p,e⟩;have hk:=zoa k1 hs hb;have hin:=zlW k1 hs;obtain⟨y,ry,ey,hy⟩:=ziQ k1;have hy45:y.op≠45:=by rw [hy];exact zoJ k1 hs hb
   rw [hk] at KM2;by_cases g2:zB [44] k1=true
   ·rw [if_pos g2] at KM2;have HT:=hi9 (show(zB [44] k0 && zba k1)=true by rw [G.out,hin,g2];rfl);rw [ey] at N5;clear g2 G hk hin hs hb;go_wp2_with fail;refine KM2.out.mono ?_;rintro e w6 ⟨rfl,b6⟩;have B6:=bh BX2 b6;have q9:=zb b6 (zb (zC _ _) Q5.out);have N6:=hi9 ((N5.out.keep (zC _ _)).keep b6);clear b6 N5 Q5 KM2 BX2 B5 q1;obtain⟨a1,ea1,d0,-,-,-⟩:=N6.out.at_ 0 y rfl;rw [show a1.add (0*4)=a1 from rfl] at d0;rw [ea1] at q9;have hr1n:(0:Int)<(r1.n:Int):=by rw [N6.out.len];simp
    have f45:(y.op==45)=false:=beq_eq_false_iff_ne.2 hy45;clear hy45 hy ey N6;generalize y.op=yo at *;go_wp2_with fail;refine(K1.out _).mono ?_;rintro e w9 ⟨b9,A9,n9,c9,rfl,hN,hl⟩;have B9:=bh B6 b9;have N9:=hi9 hN;have HL:=hi9 (jx B6.out hl);clear b9 hN B6 K1 hl;go_wp2_with fail;go_ret;rw [HR.out,if_pos HT.out];exact zJ B9.out N9.out HL.out
   ·rw [if_neg g2] at KM2;have HF:=hi9 (show¬(zB [44] k0 && zba k1)=true from fun q=>g2 (by rw [Bool.and_eq_true,hin] at q;exact q.2));clear g2 G hk hin hs hb;go_wp2_with fail;refine KM2.out.mono ?_;rintro e w6 ⟨rfl,b6⟩;have B6:=bh BX2 b6;clear b6 KM2 BX2 B5 q1;go_wp2_with fail;exact⟨rfl,by rw [HR.out,if_neg HF.out];exact zQ B6.out⟩
 ·rw [if_neg g] at KM1;have HF:=hi9 (show¬(zB [44] k0 && zba k1)=true from fun q=>g (by rw [Bool.and_eq_true] at q;exact q.1));clear g;go_enter Tryz.func59,Tryz.ntmps59;go_wp2_with fail;refine KM1.out.mono ?_;rintro e w5 ⟨rfl,b5⟩;have B5:=bh BX1 b5;clear b5 KM1 BX1 B0 q0;go_wp2_with fail;exact⟨rfl,by rw [HR.out,if_neg HF.out];exact zQ B5.out⟩
end Go.Proofs.YtlkfaliomdbaoaaGreatDoor
