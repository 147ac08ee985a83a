/-
  check's told: the type of what has parts of some types. (gen_chktold.py) ..
-/
import Derived.Test.YthifljpkgfpkiaaGreatDoorQ13
import Derived.Test.YthifljpkgfpkiaaGreatDoorQ33
set_option maxRecDepth 100000
set_option maxHeartbeats 8000000
namespace Go.Proofs.YthifljpkgfpkiaaGreatDoor
open Go.RowKit Go.Wk Go.Sort
theorem EU(k:Kd):∃y r,k.flat=y :: r/\y.op=kOp k:=by
 cases k with
 | base x=>exact⟨_,_,rfl,rfl⟩
 | ent s=>exact⟨_,_,rfl,rfl⟩
 | set p=>exact⟨_,_,rfl,rfl⟩
 | fs f=>exact⟨_,_,rfl,rfl⟩
theorem pI(L:List Int)(k:Kd):zQ L k=true↔kOp k=49\/L.contains (kOp k)=true:=by
 unfold zQ;rw [Bool.or_eq_true,decide_eq_true_iff]
theorem jC{A:Option Addr}{n c:Nat}{k:Kd}{B:Option Addr}{m d:Nat}(L:List Int){w:World}(h:Ns w A n c k.flat)(hm:m=L.length)(sN:m<=1000)(hi:qH w B L):
 Calls Tryz.prog 50 #[.slice A n c,.slice B m d] w λe w'=>e=(if zQ L k=true then .returned (.tuple #[]) else .panicked (kY 2))/\Below w.heap.size w w':=by
 obtain⟨y,r,e,ho⟩:=EU k;rw [e] at h;refine(Lr A n c y r B m d L w h hm sN hi).mono λe w' hh=>?_;rw [ho] at hh;by_cases g:zQ L k=true
 ·rw [if_pos ((pI L k).1 g)] at hh;rw [if_pos g];exact hh
 ·rw [if_neg (λq=>g ((pI L k).2 q))] at hh;rw [if_neg g];exact hh
theorem au(w:World)(x:Int)(t:TypeId):qH (w.alloc (.cells #[.int .i64 x] t)) (some ⟨w.heap.size,0,none⟩) [x]:=λk y hk=>by
 match k,hk with
 | 0,hk =>
  simp only [List.getElem?_cons_zero,Option.some.injEq] at hk
  subst hk
  exact⟨_,rfl,zt (heap_alloc_last w _) rfl⟩
 | k+1,hk=>simp at hk
theorem xy(w:World)(x y:Int)(t:TypeId):qH (w.alloc (.cells #[.int .i64 x,.int .i64 y] t)) (some ⟨w.heap.size,0,none⟩) [x,y]:=λk z hk=>by
 match k,hk with
 | 0,hk =>
  simp only [List.getElem?_cons_zero,Option.some.injEq] at hk
  subst hk
  exact⟨_,rfl,zt (heap_alloc_last w _) rfl⟩
 | 1,hk =>
  simp only [List.getElem?_cons_succ,List.getElem?_cons_zero,Option.some.injEq] at hk
  subst hk
  exact⟨_,rfl,zt (heap_alloc_last w _) rfl⟩
 | k+2,hk=>simp at hk
theorem z8(w:World)(o:Obj):Below w.heap.size w (w.alloc o):=za w o
theorem Kt(S:Nat->Prop)(x:Xs)(op:Int)(L:List Kd)(A:Option Addr)(n c:Nat)(V:List Sl)(w:World)(hn:n=V.length)(hn2:n<=4000)(hV:jM w A V)(hm:V.map Sl.P=L.map Kd.flat)(hop:op=9\/op=12):
 Calls Tryz.prog 58 #[x.v,.int .i64 op,.slice A n c] w (jT S w (jp op L)):=by
 have B0:=O (za w x.o);unfold Xs.o at B0;unfold Xs.v;have HS:=O hV;have fm:=O hn;have HM:=O hm;have MU:=O (show V.length=L.length by have:=congrArg List.length hm;simpa using this);have HR:=O (show jp op L=if L.all (zQ [41])=true then .ok (.base 41) else .error 2 by
  unfold jp bR
  rcases hop with rfl|rfl <;> rfl)
 obtain⟨RR,dA⟩:∃RR,RR=jp op L:=⟨_,rfl⟩
 rw [<-dA] at HR ⊢;clear dA;have K1:=O (λw=>dQ (S:=S) (o:=41) (s:=emp) (k := .base 41) (w:=w) rfl (by decide));clear hV hn hm;rcases hop with rfl|rfl
 all_goals
  go_enter Tryz.func58,Tryz.ntmps58;go_wp2_with fail;go_loopw [17] (λi wr=>∃j:Nat,i = .int .i64 j/\j<=n/\Hid ((L.take j).all (zQ [41])=true)/\Hid (Below w.heap.size w wr)) (λi _=>n-(intOf i).toNat)
  case atStart=>exact⟨0,rfl,Nat.zero_le _,O (by simp),B0⟩
  case round =>
   obtain⟨j,rfl,hj,hA,hB⟩:=hrel;by_cases hlt:j<n
   ·have yB:j<V.length:=by rw [<-fm.o];exact hlt
    have sf:j<L.length:=by rw [<-MU.o];exact yB
    obtain⟨a,rfl,q1,n1⟩:=(HS.o.keep hB.o).at yB;have e1:V[j].P=(L[j]).flat:=by
     have:=congrArg (λl=>l[j]?) HM.o;simpa [yB,sf] using this
    rw [e1] at n1;have HT:=O (show(L.take (j+1)).all (zQ [41])=((L.take j).all (zQ [41])&& zQ [41] L[j]) by rw [List.take_succ_eq_append_getElem sf,List.all_append];simp);have vZ:=O (show L.all (zQ [41])=true->zQ [41] L[j]=true from λh=>List.all_eq_true.1 h _ (List.getElem_mem sf));generalize V[j]=r at *;generalize L[j]=k at *;have N1:=O n1;have bx:=z8 wr (.cells #[.int .i64 41] 3);have BX:=bh hB bx;have KM:=O (jC (d:=1) [41] (n1.keep bx) rfl (by decide) (au wr 41 3));clear n1 e1 bx;by_cases g:zQ [41] k=true
    ·rw [if_pos g] at KM;have v7:=O (show(L.take (j+1)).all (zQ [41])=true by rw [HT.o,hA.o,g];rfl);clear HT vZ hA g;go_wp2_with fail;refine KM.o.mono ?_;rintro e w5 ⟨rfl,b5⟩;have B5:=bh BX b5;clear b5 KM BX hB;go_wp2_with fail;go_roundw
     case rel=>exact⟨j+1,by go_num,hlt,v7,B5⟩
     case measure=>simp [intOf];omega
    ·rw [if_neg g] at KM;have HF:=O (show¬L.all (zQ [41])=true from λq=>g (vZ.o q));clear HT vZ hA g;go_wp2_with fail;refine KM.o.mono ?_;rintro e w5 ⟨rfl,b5⟩;have B5:=bh BX b5;clear b5 KM BX hB;go_wp2_with fail;exact⟨rfl,by rw [HR.o,if_neg HF.o];exact jt B5.o⟩
   ·have HF:=O (show L.all (zQ [41])=true by have:=hA.o;rwa [List.take_of_length_le (by rw [<-MU.o,<-fm.o];omega)] at this);clear hA;go_wp2_with fail;refine(K1.o _).mono ?_;rintro e w5 ⟨b5,A5,n5,c5,rfl,hN,hl⟩;have B5:=bh hB b5;have N5:=O hN;have HL:=O (aH hB.o hl);clear b5 hN hB K1 hl;go_wp2_with fail;go_ret;rw [HR.o,if_pos HF.o];exact jj B5.o N5.o HL.o
theorem Pb(S:Nat->Prop)(x:Xs)(op:Int)(L:List Kd)(A:Option Addr)(n c:Nat)(V:List Sl)(w:World)(hn:n=V.length)(hn2:n<=4000)(hV:jM w A V)(hm:V.map Sl.P=L.map Kd.flat)(hop:op=10\/op=17\/op=18\/op=19):
 Calls Tryz.prog 58 #[x.v,.int .i64 op,.slice A n c] w (jT S w (jp op L)):=by
 have B0:=O (za w x.o);unfold Xs.o at B0;unfold Xs.v;have HS:=O hV;have fm:=O hn;have HM:=O hm;have MU:=O (show V.length=L.length by have:=congrArg List.length hm;simpa using this);have HR:=O (show jp op L=if L.all (zQ [42])=true then .ok (.base 42) else .error 2 by
  unfold jp bR
  rcases hop with rfl|rfl|rfl|rfl <;> rfl)
 obtain⟨RR,dA⟩:∃RR,RR=jp op L:=⟨_,rfl⟩
 rw [<-dA] at HR ⊢;clear dA;have K1:=O (λw=>dQ (S:=S) (o:=42) (s:=emp) (k := .base 42) (w:=w) rfl (by decide));clear hV hn hm;rcases hop with rfl|rfl|rfl|rfl
 all_goals
  go_enter Tryz.func58,Tryz.ntmps58;go_wp2_with fail;go_loopw [34] (λi wr=>∃j:Nat,i = .int .i64 j/\j<=n/\Hid ((L.take j).all (zQ [42])=true)/\Hid (Below w.heap.size w wr)) (λi _=>n-(intOf i).toNat)
  case atStart=>exact⟨0,rfl,Nat.zero_le _,O (by simp),B0⟩
  case round =>
   obtain⟨j,rfl,hj,hA,hB⟩:=hrel;by_cases hlt:j<n
   ·have yB:j<V.length:=by rw [<-fm.o];exact hlt
    have sf:j<L.length:=by rw [<-MU.o];exact yB
    obtain⟨a,rfl,q1,n1⟩:=(HS.o.keep hB.o).at yB;have e1:V[j].P=(L[j]).flat:=by
     have:=congrArg (λl=>l[j]?) HM.o;simpa [yB,sf] using this
    rw [e1] at n1;have HT:=O (show(L.take (j+1)).all (zQ [42])=((L.take j).all (zQ [42])&& zQ [42] L[j]) by rw [List.take_succ_eq_append_getElem sf,List.all_append];simp);have vZ:=O (show L.all (zQ [42])=true->zQ [42] L[j]=true from λh=>List.all_eq_true.1 h _ (List.getElem_mem sf));generalize V[j]=r at *;generalize L[j]=k at *;have N1:=O n1;have bx:=z8 wr (.cells #[.int .i64 42] 3);have BX:=bh hB bx;have KM:=O (jC (d:=1) [42] (n1.keep bx) rfl (by decide) (au wr 42 3));clear n1 e1 bx;by_cases g:zQ [42] k=true
    ·rw [if_pos g] at KM;have v7:=O (show(L.take (j+1)).all (zQ [42])=true by rw [HT.o,hA.o,g];rfl);clear HT vZ hA g;go_wp2_with fail;refine KM.o.mono ?_;rintro e w5 ⟨rfl,b5⟩;have B5:=bh BX b5;clear b5 KM BX hB;go_wp2_with fail;go_roundw
     case rel=>exact⟨j+1,by go_num,hlt,v7,B5⟩
     case measure=>simp [intOf];omega
    ·rw [if_neg g] at KM;have HF:=O (show¬L.all (zQ [42])=true from λq=>g (vZ.o q));clear HT vZ hA g;go_wp2_with fail;refine KM.o.mono ?_;rintro e w5 ⟨rfl,b5⟩;have B5:=bh BX b5;clear b5 KM BX hB;go_wp2_with fail;exact⟨rfl,by rw [HR.o,if_neg HF.o];exact jt B5.o⟩
   ·have HF:=O (show L.all (zQ [42])=true by have:=hA.o;rwa [List.take_of_length_le (by rw [<-MU.o,<-fm.o];omega)] at this);clear hA;go_wp2_with fail;refine(K1.o _).mono ?_;rintro e w5 ⟨b5,A5,n5,c5,rfl,hN,hl⟩;have B5:=bh hB b5;have N5:=O hN;have HL:=O (aH hB.o hl);clear b5 hN hB K1 hl;go_wp2_with fail;go_ret;rw [HR.o,if_pos HF.o];exact jj B5.o N5.o HL.o
theorem Pu(S:Nat->Prop)(x:Xs)(op:Int)(L:List Kd)(A:Option Addr)(n c:Nat)(V:List Sl)(w:World)(hn:n=V.length)(hn2:n<=4000)(hV:jM w A V)(hm:V.map Sl.P=L.map Kd.flat)(hop:op=15\/op=16):
 Calls Tryz.prog 58 #[x.v,.int .i64 op,.slice A n c] w (jT S w (jp op L)):=by
 have B0:=O (za w x.o);unfold Xs.o at B0;unfold Xs.v;have HS:=O hV;have fm:=O hn;have HM:=O hm;have MU:=O (show V.length=L.length by have:=congrArg List.length hm;simpa using this);have HR:=O (show jp op L=if L.all (zQ [42])=true then .ok (.base 41) else .error 2 by
  unfold jp bR
  rcases hop with rfl|rfl <;> rfl)
 obtain⟨RR,dA⟩:∃RR,RR=jp op L:=⟨_,rfl⟩
 rw [<-dA] at HR ⊢;clear dA;have K1:=O (λw=>dQ (S:=S) (o:=41) (s:=emp) (k := .base 41) (w:=w) rfl (by decide));clear hV hn hm;rcases hop with rfl|rfl
 all_goals
  go_enter Tryz.func58,Tryz.ntmps58;go_wp2_with fail;go_loopw [34] (λi wr=>∃j:Nat,i = .int .i64 j/\j<=n/\Hid ((L.take j).all (zQ [42])=true)/\Hid (Below w.heap.size w wr)) (λi _=>n-(intOf i).toNat)
  case atStart=>exact⟨0,rfl,Nat.zero_le _,O (by simp),B0⟩
  case round =>
   obtain⟨j,rfl,hj,hA,hB⟩:=hrel;by_cases hlt:j<n
   ·have yB:j<V.length:=by rw [<-fm.o];exact hlt
    have sf:j<L.length:=by rw [<-MU.o];exact yB
    obtain⟨a,rfl,q1,n1⟩:=(HS.o.keep hB.o).at yB;have e1:V[j].P=(L[j]).flat:=by
     have:=congrArg (λl=>l[j]?) HM.o;simpa [yB,sf] using this
    rw [e1] at n1;have HT:=O (show(L.take (j+1)).all (zQ [42])=((L.take j).all (zQ [42])&& zQ [42] L[j]) by rw [List.take_succ_eq_append_getElem sf,List.all_append];simp);have vZ:=O (show L.all (zQ [42])=true->zQ [42] L[j]=true from λh=>List.all_eq_true.1 h _ (List.getElem_mem sf));generalize V[j]=r at *;generalize L[j]=k at *;have N1:=O n1;have bx:=z8 wr (.cells #[.int .i64 42] 3);have BX:=bh hB bx;have KM:=O (jC (d:=1) [42] (n1.keep bx) rfl (by decide) (au wr 42 3));clear n1 e1 bx;by_cases g:zQ [42] k=true
    ·rw [if_pos g] at KM;have v7:=O (show(L.take (j+1)).all (zQ [42])=true by rw [HT.o,hA.o,g];rfl);clear HT vZ hA g;go_wp2_with fail;refine KM.o.mono ?_;rintro e w5 ⟨rfl,b5⟩;have B5:=bh BX b5;clear b5 KM BX hB;go_wp2_with fail;go_roundw
     case rel=>exact⟨j+1,by go_num,hlt,v7,B5⟩
     case measure=>simp [intOf];omega
    ·rw [if_neg g] at KM;have HF:=O (show¬L.all (zQ [42])=true from λq=>g (vZ.o q));clear HT vZ hA g;go_wp2_with fail;refine KM.o.mono ?_;rintro e w5 ⟨rfl,b5⟩;have B5:=bh BX b5;clear b5 KM BX hB;go_wp2_with fail;exact⟨rfl,by rw [HR.o,if_neg HF.o];exact jt B5.o⟩
   ·have HF:=O (show L.all (zQ [42])=true by have:=hA.o;rwa [List.take_of_length_le (by rw [<-MU.o,<-fm.o];omega)] at this);clear hA;go_wp2_with fail;refine(K1.o _).mono ?_;rintro e w5 ⟨b5,A5,n5,c5,rfl,hN,hl⟩;have B5:=bh hB b5;have N5:=O hN;have HL:=O (aH hB.o hl);clear b5 hN hB K1 hl;go_wp2_with fail;go_ret;rw [HR.o,if_pos HF.o];exact jj B5.o N5.o HL.o
theorem LM(S:Nat->Prop)(x:Xs)(k0:Kd)(L:List Kd)(A:Option Addr)(n c:Nat)(V:List Sl)(w:World)(hn:n=V.length)(hn2:n<=4000)(hV:jM w A V)(hm:V.map Sl.P=(k0 :: L).map Kd.flat):
 Calls Tryz.prog 58 #[x.v,.int .i64 23,.slice A n c] w (jT S w (jp 23 (k0 :: L))):=by
 have B0:=O (za w x.o);unfold Xs.o at B0;unfold Xs.v;have e0:V[0]?.map Sl.P=some k0.flat:=by have:=congrArg (λl=>l[0]?) hm;simpa using this
 obtain⟨r0,hr0,mY⟩:=Option.map_eq_some_iff.1 e0;obtain⟨a,ea,q0,n0⟩:=hV 0 r0 hr0;rw [mY] at n0;rw [show a.add 0=a from rfl] at q0;have hv0:0<V.length:=(List.getElem?_eq_some_iff.1 hr0).1;subst ea;have hi:(0:Int)<(n:Int):=by omega
 have hn0:0<n:=by omega
 have K1:=O (λw=>dQ (S:=S) (o:=41) (s:=emp) (k := .base 41) (w:=w) rfl (by decide));have HR:=O (show jp 23 (k0 :: L)=if zQ [43] k0=true then .ok (.base 41) else .error 2 by simp [jp,bR]);obtain⟨RR,dA⟩:∃RR,RR=jp 23 (k0 :: L):=⟨_,rfl⟩
 rw [<-dA] at HR ⊢;clear dA;have bx1:=z8 (w.alloc (.cells #[.slice x.s.KA x.s.kn x.s.kc,.slice x.s.AA x.s.an x.s.ac,.string x.who,.string x.what,.string x.a.d.id,.slice x.a.WA x.a.wn x.a.wc,.slice x.a.TA x.a.tn x.a.tc,.slice x.a.NA x.a.nn x.a.nc] 67)) (.cells #[.int .i64 43] 3);have gZ:=bh B0 bx1;have cK:=O (jC (d:=1) [43] ((n0.keep B0.o).keep bx1) rfl (by decide) (au (w.alloc (.cells #[.slice x.s.KA x.s.kn x.s.kc,.slice x.s.AA x.s.an x.s.ac,.string x.who,.string x.what,.string x.a.d.id,.slice x.a.WA x.a.wn x.a.wc,.slice x.a.TA x.a.tn x.a.tc,.slice x.a.NA x.a.nn x.a.nc] 67)) 43 3));clear bx1;rw [show(w.alloc (.cells #[.slice x.s.KA x.s.kn x.s.kc,.slice x.s.AA x.s.an x.s.ac,.string x.who,.string x.what,.string x.a.d.id,.slice x.a.WA x.a.wn x.a.wc,.slice x.a.TA x.a.tn x.a.tc,.slice x.a.NA x.a.nn x.a.nc] 67)).heap.size=w.heap.size+1 from by simp [go_sem]] at cK;replace q0:=zb B0.o q0;clear hV hm n0 hr0 mY e0 hv0;by_cases g:zQ [43] k0=true
 ·rw [if_pos g] at cK;have HT:=O g;clear g;go_enter Tryz.func58,Tryz.ntmps58;go_wp2_with fail;refine cK.o.mono ?_;rintro e w5 ⟨rfl,b5⟩;have B5:=bh gZ b5;clear b5 cK gZ B0 q0;go_wp2_with fail;refine(K1.o _).mono ?_;rintro e w9 ⟨b9,A9,n9,c9,rfl,hN,hl⟩;have B9:=bh B5 b9;have N9:=O hN;have HL:=O (aH B5.o hl);clear b9 hN B5 K1 hl;go_wp2_with fail;go_ret;rw [HR.o,if_pos HT.o];exact jj B9.o N9.o HL.o
 ·rw [if_neg g] at cK;have HF:=O g;clear g;go_enter Tryz.func58,Tryz.ntmps58;go_wp2_with fail;refine cK.o.mono ?_;rintro e w5 ⟨rfl,b5⟩;have B5:=bh gZ b5;clear b5 cK gZ B0 q0;go_wp2_with fail;exact⟨rfl,by rw [HR.o,if_neg HF.o];exact jt B5.o⟩
theorem S'(S:Nat->Prop)(x:Xs)(k0:Kd)(L:List Kd)(A:Option Addr)(n c:Nat)(V:List Sl)(w:World)(hn:n=V.length)(hn2:n<=4000)(hV:jM w A V)(hm:V.map Sl.P=(k0 :: L).map Kd.flat):
 Calls Tryz.prog 58 #[x.v,.int .i64 24,.slice A n c] w (jT S w (jp 24 (k0 :: L))):=by
 have B0:=O (za w x.o);unfold Xs.o at B0;unfold Xs.v;have e0:V[0]?.map Sl.P=some k0.flat:=by have:=congrArg (λl=>l[0]?) hm;simpa using this
 obtain⟨r0,hr0,mY⟩:=Option.map_eq_some_iff.1 e0;obtain⟨a,ea,q0,n0⟩:=hV 0 r0 hr0;rw [mY] at n0;rw [show a.add 0=a from rfl] at q0;have hv0:0<V.length:=(List.getElem?_eq_some_iff.1 hr0).1;subst ea;have hi:(0:Int)<(n:Int):=by omega
 have hn0:0<n:=by omega
 have K1:=O (λw=>dQ (S:=S) (o:=41) (s:=emp) (k := .base 41) (w:=w) rfl (by decide));have HR:=O (show jp 24 (k0 :: L)=if zQ [44] k0=true then .ok (.base 41) else .error 2 by simp [jp,bR]);obtain⟨RR,dA⟩:∃RR,RR=jp 24 (k0 :: L):=⟨_,rfl⟩
 rw [<-dA] at HR ⊢;clear dA;have bx1:=z8 (w.alloc (.cells #[.slice x.s.KA x.s.kn x.s.kc,.slice x.s.AA x.s.an x.s.ac,.string x.who,.string x.what,.string x.a.d.id,.slice x.a.WA x.a.wn x.a.wc,.slice x.a.TA x.a.tn x.a.tc,.slice x.a.NA x.a.nn x.a.nc] 67)) (.cells #[.int .i64 44] 3);have gZ:=bh B0 bx1;have cK:=O (jC (d:=1) [44] ((n0.keep B0.o).keep bx1) rfl (by decide) (au (w.alloc (.cells #[.slice x.s.KA x.s.kn x.s.kc,.slice x.s.AA x.s.an x.s.ac,.string x.who,.string x.what,.string x.a.d.id,.slice x.a.WA x.a.wn x.a.wc,.slice x.a.TA x.a.tn x.a.tc,.slice x.a.NA x.a.nn x.a.nc] 67)) 44 3));clear bx1;rw [show(w.alloc (.cells #[.slice x.s.KA x.s.kn x.s.kc,.slice x.s.AA x.s.an x.s.ac,.string x.who,.string x.what,.string x.a.d.id,.slice x.a.WA x.a.wn x.a.wc,.slice x.a.TA x.a.tn x.a.tc,.slice x.a.NA x.a.nn x.a.nc] 67)).heap.size=w.heap.size+1 from by simp [go_sem]] at cK;replace q0:=zb B0.o q0;clear hV hm n0 hr0 mY e0 hv0;by_cases g:zQ [44] k0=true
 ·rw [if_pos g] at cK;have HT:=O g;clear g;go_enter Tryz.func58,Tryz.ntmps58;go_wp2_with fail;refine cK.o.mono ?_;rintro e w5 ⟨rfl,b5⟩;have B5:=bh gZ b5;clear b5 cK gZ B0 q0;go_wp2_with fail;refine(K1.o _).mono ?_;rintro e w9 ⟨b9,A9,n9,c9,rfl,hN,hl⟩;have B9:=bh B5 b9;have N9:=O hN;have HL:=O (aH B5.o hl);clear b9 hN B5 K1 hl;go_wp2_with fail;go_ret;rw [HR.o,if_pos HT.o];exact jj B9.o N9.o HL.o
 ·rw [if_neg g] at cK;have HF:=O g;clear g;go_enter Tryz.func58,Tryz.ntmps58;go_wp2_with fail;refine cK.o.mono ?_;rintro e w5 ⟨rfl,b5⟩;have B5:=bh gZ b5;clear b5 cK gZ B0 q0;go_wp2_with fail;exact⟨rfl,by rw [HR.o,if_neg HF.o];exact jt B5.o⟩
theorem Nc(S:Nat->Prop)(x:Xs)(k0:Kd)(L:List Kd)(A:Option Addr)(n c:Nat)(V:List Sl)(w:World)(hn:n=V.length)(hn2:n<=4000)(hV:jM w A V)(hm:V.map Sl.P=(k0 :: L).map Kd.flat):
 Calls Tryz.prog 58 #[x.v,.int .i64 21,.slice A n c] w (jT S w (jp 21 (k0 :: L))):=by
 have B0:=O (za w x.o);unfold Xs.o at B0;unfold Xs.v;have e0:V[0]?.map Sl.P=some k0.flat:=by have:=congrArg (λl=>l[0]?) hm;simpa using this
 obtain⟨r0,hr0,mY⟩:=Option.map_eq_some_iff.1 e0;obtain⟨a,ea,q0,n0⟩:=hV 0 r0 hr0;rw [mY] at n0;rw [show a.add 0=a from rfl] at q0;have hv0:0<V.length:=(List.getElem?_eq_some_iff.1 hr0).1;subst ea;have hi:(0:Int)<(n:Int):=by omega
 have hn0:0<n:=by omega
 have K1:=O (λw=>dQ (S:=S) (o:=41) (s:=emp) (k := .base 41) (w:=w) rfl (by decide));have HR:=O (show jp 21 (k0 :: L)=if zQ [46,44] k0=true then .ok (.base 41) else .error 2 by simp [jp,bR]);obtain⟨RR,dA⟩:∃RR,RR=jp 21 (k0 :: L):=⟨_,rfl⟩
 rw [<-dA] at HR ⊢;clear dA;have bx1:=z8 (w.alloc (.cells #[.slice x.s.KA x.s.kn x.s.kc,.slice x.s.AA x.s.an x.s.ac,.string x.who,.string x.what,.string x.a.d.id,.slice x.a.WA x.a.wn x.a.wc,.slice x.a.TA x.a.tn x.a.tc,.slice x.a.NA x.a.nn x.a.nc] 67)) (.cells #[.int .i64 46,.int .i64 44] 3);have gZ:=bh B0 bx1;have cK:=O (jC (d:=2) [46,44] ((n0.keep B0.o).keep bx1) rfl (by decide) (xy (w.alloc (.cells #[.slice x.s.KA x.s.kn x.s.kc,.slice x.s.AA x.s.an x.s.ac,.string x.who,.string x.what,.string x.a.d.id,.slice x.a.WA x.a.wn x.a.wc,.slice x.a.TA x.a.tn x.a.tc,.slice x.a.NA x.a.nn x.a.nc] 67)) 46 44 3));clear bx1;rw [show(w.alloc (.cells #[.slice x.s.KA x.s.kn x.s.kc,.slice x.s.AA x.s.an x.s.ac,.string x.who,.string x.what,.string x.a.d.id,.slice x.a.WA x.a.wn x.a.wc,.slice x.a.TA x.a.tn x.a.tc,.slice x.a.NA x.a.nn x.a.nc] 67)).heap.size=w.heap.size+1 from by simp [go_sem]] at cK;replace q0:=zb B0.o q0;clear hV hm n0 hr0 mY e0 hv0;by_cases g:zQ [46,44] k0=true
 ·rw [if_pos g] at cK;have HT:=O g;clear g;go_enter Tryz.func58,Tryz.ntmps58;go_wp2_with fail;refine cK.o.mono ?_;rintro e w5 ⟨rfl,b5⟩;have B5:=bh gZ b5;clear b5 cK gZ B0 q0;go_wp2_with fail;refine(K1.o _).mono ?_;rintro e w9 ⟨b9,A9,n9,c9,rfl,hN,hl⟩;have B9:=bh B5 b9;have N9:=O hN;have HL:=O (aH B5.o hl);clear b9 hN B5 K1 hl;go_wp2_with fail;go_ret;rw [HR.o,if_pos HT.o];exact jj B9.o N9.o HL.o
 ·rw [if_neg g] at cK;have HF:=O g;clear g;go_enter Tryz.func58,Tryz.ntmps58;go_wp2_with fail;refine cK.o.mono ?_;rintro e w5 ⟨rfl,b5⟩;have B5:=bh gZ b5;clear b5 cK gZ B0 q0;go_wp2_with fail;exact⟨rfl,by rw [HR.o,if_neg HF.o];exact jt B5.o⟩
theorem Ob(S:Nat->Prop)(x:Xs)(k0:Kd)(L:List Kd)(A:Option Addr)(n c:Nat)(V:List Sl)(w:World)(hn:n=V.length)(hn2:n<=4000)(hV:jM w A V)(hm:V.map Sl.P=(k0 :: L).map Kd.flat):
 Calls Tryz.prog 58 #[x.v,.int .i64 25,.slice A n c] w (jT S w (jp 25 (k0 :: L))):=by
 have B0:=O (za w x.o);unfold Xs.o at B0;unfold Xs.v;have e0:V[0]?.map Sl.P=some k0.flat:=by have:=congrArg (λl=>l[0]?) hm;simpa using this
 obtain⟨r0,hr0,mY⟩:=Option.map_eq_some_iff.1 e0;obtain⟨a,ea,q0,n0⟩:=hV 0 r0 hr0;rw [mY] at n0;rw [show a.add 0=a from rfl] at q0;have hv0:0<V.length:=(List.getElem?_eq_some_iff.1 hr0).1;subst ea;have hi:(0:Int)<(n:Int):=by omega
 have hn0:0<n:=by omega
 have K1:=O (λw=>dQ (S:=S) (o:=41) (s:=emp) (k := .base 41) (w:=w) rfl (by decide));have HR:=O (show jp 25 (k0 :: L)=if zQ [45] k0=true then .ok (.base 41) else .error 2 by simp [jp,bR]);obtain⟨RR,dA⟩:∃RR,RR=jp 25 (k0 :: L):=⟨_,rfl⟩
 rw [<-dA] at HR ⊢;clear dA;have bx1:=z8 (w.alloc (.cells #[.slice x.s.KA x.s.kn x.s.kc,.slice x.s.AA x.s.an x.s.ac,.string x.who,.string x.what,.string x.a.d.id,.slice x.a.WA x.a.wn x.a.wc,.slice x.a.TA x.a.tn x.a.tc,.slice x.a.NA x.a.nn x.a.nc] 67)) (.cells #[.int .i64 45] 3);have gZ:=bh B0 bx1;have cK:=O (jC (d:=1) [45] ((n0.keep B0.o).keep bx1) rfl (by decide) (au (w.alloc (.cells #[.slice x.s.KA x.s.kn x.s.kc,.slice x.s.AA x.s.an x.s.ac,.string x.who,.string x.what,.string x.a.d.id,.slice x.a.WA x.a.wn x.a.wc,.slice x.a.TA x.a.tn x.a.tc,.slice x.a.NA x.a.nn x.a.nc] 67)) 45 3));clear bx1;rw [show(w.alloc (.cells #[.slice x.s.KA x.s.kn x.s.kc,.slice x.s.AA x.s.an x.s.ac,.string x.who,.string x.what,.string x.a.d.id,.slice x.a.WA x.a.wn x.a.wc,.slice x.a.TA x.a.tn x.a.tc,.slice x.a.NA x.a.nn x.a.nc] 67)).heap.size=w.heap.size+1 from by simp [go_sem]] at cK;replace q0:=zb B0.o q0;clear hV hm n0 hr0 mY e0 hv0;by_cases g:zQ [45] k0=true
 ·rw [if_pos g] at cK;have HT:=O g;clear g;go_enter Tryz.func58,Tryz.ntmps58;go_wp2_with fail;refine cK.o.mono ?_;rintro e w5 ⟨rfl,b5⟩;have B5:=bh gZ b5;clear b5 cK gZ B0 q0;go_wp2_with fail;refine(K1.o _).mono ?_;rintro e w9 ⟨b9,A9,n9,c9,rfl,hN,hl⟩;have B9:=bh B5 b9;have N9:=O hN;have HL:=O (aH B5.o hl);clear b9 hN B5 K1 hl;go_wp2_with fail;go_ret;rw [HR.o,if_pos HT.o];exact jj B9.o N9.o HL.o
 ·rw [if_neg g] at cK;have HF:=O g;clear g;go_enter Tryz.func58,Tryz.ntmps58;go_wp2_with fail;refine cK.o.mono ?_;rintro e w5 ⟨rfl,b5⟩;have B5:=bh gZ b5;clear b5 cK gZ B0 q0;go_wp2_with fail;exact⟨rfl,by rw [HR.o,if_neg HF.o];exact jt B5.o⟩
theorem PO(S:Nat->Prop)(x:Xs)(k0 k1:Kd)(A:Option Addr)(n c:Nat)(V:List Sl)(w:World)(hn:n=V.length)(hn2:n<=4000)(hV:jM w A V)(hm:V.map Sl.P = [k0,k1].map Kd.flat):
 Calls Tryz.prog 58 #[x.v,.int .i64 26,.slice A n c] w (jT S w (jp 26 [k0,k1])):=by
 have B0:=O (za w x.o);unfold Xs.o at B0;unfold Xs.v;have e0:V[0]?.map Sl.P=some k0.flat:=by have:=congrArg (λl=>l[0]?) hm;simpa using this
 obtain⟨r0,hr0,mY⟩:=Option.map_eq_some_iff.1 e0;obtain⟨a,ea,q0,n0⟩:=hV 0 r0 hr0;rw [mY] at n0;rw [show a.add 0=a from rfl] at q0;have hv0:0<V.length:=(List.getElem?_eq_some_iff.1 hr0).1;have e1:V[1]?.map Sl.P=some k1.flat:=by have:=congrArg (λl=>l[1]?) hm;simpa using this
 obtain⟨r1,hr1,eY⟩:=Option.map_eq_some_iff.1 e1;obtain⟨a',ea',q1,n1⟩:=hV 1 r1 hr1;rw [eY] at n1;obtain rfl:a=a':=Option.some.inj (ea.symm.trans ea');have XK:1<V.length:=(List.getElem?_eq_some_iff.1 hr1).1;have q1':w.cell? ⟨a.block,a.off+1,none⟩=some (.slice r1.A r1.n r1.c):=q1;have hi1:(1:Int)<(n:Int):=by omega
 subst ea;have hi:(0:Int)<(n:Int):=by omega
 have hn0:0<n:=by omega
 have K1:=O (λw=>dQ (S:=S) (o:=41) (s:=emp) (k := .base 41) (w:=w) rfl (by decide));have HR:=O (show jp 26 [k0,k1]=if(zQ [45] k0 && zQ [45] k1)=true then .ok (.base 41) else .error 2 by simp [jp,bR]);obtain⟨RR,dA⟩:∃RR,RR=jp 26 [k0,k1]:=⟨_,rfl⟩
 rw [<-dA] at HR ⊢;clear dA;have bx1:=z8 (w.alloc (.cells #[.slice x.s.KA x.s.kn x.s.kc,.slice x.s.AA x.s.an x.s.ac,.string x.who,.string x.what,.string x.a.d.id,.slice x.a.WA x.a.wn x.a.wc,.slice x.a.TA x.a.tn x.a.tc,.slice x.a.NA x.a.nn x.a.nc] 67)) (.cells #[.int .i64 45] 3);have gZ:=bh B0 bx1;have cK:=O (jC (d:=1) [45] ((n0.keep B0.o).keep bx1) rfl (by decide) (au (w.alloc (.cells #[.slice x.s.KA x.s.kn x.s.kc,.slice x.s.AA x.s.an x.s.ac,.string x.who,.string x.what,.string x.a.d.id,.slice x.a.WA x.a.wn x.a.wc,.slice x.a.TA x.a.tn x.a.tc,.slice x.a.NA x.a.nn x.a.nc] 67)) 45 3));clear bx1;rw [show(w.alloc (.cells #[.slice x.s.KA x.s.kn x.s.kc,.slice x.s.AA x.s.an x.s.ac,.string x.who,.string x.what,.string x.a.d.id,.slice x.a.WA x.a.wn x.a.wc,.slice x.a.TA x.a.tn x.a.tc,.slice x.a.NA x.a.nn x.a.nc] 67)).heap.size=w.heap.size+1 from by simp [go_sem]] at cK;replace q0:=zb B0.o q0;have N1:=O (n1.keep B0.o);have Q1:=O (zb B0.o q1');clear hV hm n0 hr0 mY e0 hv0 n1 hr1 eY e1 q1 q1' ea';by_cases g:zQ [45] k0=true
 ·rw [if_pos g] at cK;have G:=O g;clear g;go_enter Tryz.func58,Tryz.ntmps58;go_wp2_with fail;refine cK.o.mono ?_;rintro e w5 ⟨rfl,b5⟩;have B5:=bh gZ b5;have q1:=zb b5 (zb (z8 _ _) Q1.o);have N5:=O ((N1.o.keep (z8 _ _)).keep b5);clear b5 N1 Q1 cK gZ B0 q0;have bx2:=z8 w5 (.cells #[.int .i64 45] 3);have xe:=bh B5 bx2;have oD:=O (jC (d:=1) [45] (N5.o.keep bx2) rfl (by decide) (au w5 45 3));clear bx2;by_cases g2:zQ [45] k1=true
  ·rw [if_pos g2] at oD;have HT:=O (show(zQ [45] k0 && zQ [45] k1)=true by rw [G.o,g2];rfl);clear g2 G;go_wp2_with fail;refine oD.o.mono ?_;rintro e w6 ⟨rfl,b6⟩;have B6:=bh xe b6;clear b6 oD xe B5 q1;go_wp2_with fail;refine(K1.o _).mono ?_;rintro e w9 ⟨b9,A9,n9,c9,rfl,hN,hl⟩;have B9:=bh B6 b9;have N9:=O hN;have HL:=O (aH B6.o hl);clear b9 hN B6 K1 hl;go_wp2_with fail;go_ret;rw [HR.o,if_pos HT.o];exact jj B9.o N9.o HL.o
  ·rw [if_neg g2] at oD;have HF:=O (show¬(zQ [45] k0 && zQ [45] k1)=true from λq=>g2 (by rw [Bool.and_eq_true] at q;exact q.2));clear g2 G;go_wp2_with fail;refine oD.o.mono ?_;rintro e w6 ⟨rfl,b6⟩;have B6:=bh xe b6;clear b6 oD xe B5 q1;go_wp2_with fail;exact⟨rfl,by rw [HR.o,if_neg HF.o];exact jt B6.o⟩
 ·rw [if_neg g] at cK;have HF:=O (show¬(zQ [45] k0 && zQ [45] k1)=true from λq=>g (by rw [Bool.and_eq_true] at q;exact q.1));clear g;go_enter Tryz.func58,Tryz.ntmps58;go_wp2_with fail;refine cK.o.mono ?_;rintro e w5 ⟨rfl,b5⟩;have B5:=bh gZ b5;clear b5 cK gZ B0 q0;go_wp2_with fail;exact⟨rfl,by rw [HR.o,if_neg HF.o];exact jt B5.o⟩
theorem Oy(S:Nat->Prop)(x:Xs)(k0 k1:Kd)(A:Option Addr)(n c:Nat)(V:List Sl)(w:World)(hn:n=V.length)(hn2:n<=4000)(hV:jM w A V)(hm:V.map Sl.P = [k0,k1].map Kd.flat):
 Calls Tryz.prog 58 #[x.v,.int .i64 27,.slice A n c] w (jT S w (jp 27 [k0,k1])):=by
 have B0:=O (za w x.o);unfold Xs.o at B0;unfold Xs.v;have e0:V[0]?.map Sl.P=some k0.flat:=by have:=congrArg (λl=>l[0]?) hm;simpa using this
 obtain⟨r0,hr0,mY⟩:=Option.map_eq_some_iff.1 e0;obtain⟨a,ea,q0,n0⟩:=hV 0 r0 hr0;rw [mY] at n0;rw [show a.add 0=a from rfl] at q0;have hv0:0<V.length:=(List.getElem?_eq_some_iff.1 hr0).1;have e1:V[1]?.map Sl.P=some k1.flat:=by have:=congrArg (λl=>l[1]?) hm;simpa using this
 obtain⟨r1,hr1,eY⟩:=Option.map_eq_some_iff.1 e1;obtain⟨a',ea',q1,n1⟩:=hV 1 r1 hr1;rw [eY] at n1;obtain rfl:a=a':=Option.some.inj (ea.symm.trans ea');have XK:1<V.length:=(List.getElem?_eq_some_iff.1 hr1).1;have q1':w.cell? ⟨a.block,a.off+1,none⟩=some (.slice r1.A r1.n r1.c):=q1;have hi1:(1:Int)<(n:Int):=by omega
 subst ea;have hi:(0:Int)<(n:Int):=by omega
 have hn0:0<n:=by omega
 have K1:=O (λw=>dQ (S:=S) (o:=41) (s:=emp) (k := .base 41) (w:=w) rfl (by decide));have HR:=O (show jp 27 [k0,k1]=if(zQ [45] k0 && zQ [45] k1)=true then .ok (.base 41) else .error 2 by simp [jp,bR]);obtain⟨RR,dA⟩:∃RR,RR=jp 27 [k0,k1]:=⟨_,rfl⟩
 rw [<-dA] at HR ⊢;clear dA;have bx1:=z8 (w.alloc (.cells #[.slice x.s.KA x.s.kn x.s.kc,.slice x.s.AA x.s.an x.s.ac,.string x.who,.string x.what,.string x.a.d.id,.slice x.a.WA x.a.wn x.a.wc,.slice x.a.TA x.a.tn x.a.tc,.slice x.a.NA x.a.nn x.a.nc] 67)) (.cells #[.int .i64 45] 3);have gZ:=bh B0 bx1;have cK:=O (jC (d:=1) [45] ((n0.keep B0.o).keep bx1) rfl (by decide) (au (w.alloc (.cells #[.slice x.s.KA x.s.kn x.s.kc,.slice x.s.AA x.s.an x.s.ac,.string x.who,.string x.what,.string x.a.d.id,.slice x.a.WA x.a.wn x.a.wc,.slice x.a.TA x.a.tn x.a.tc,.slice x.a.NA x.a.nn x.a.nc] 67)) 45 3));clear bx1;rw [show(w.alloc (.cells #[.slice x.s.KA x.s.kn x.s.kc,.slice x.s.AA x.s.an x.s.ac,.string x.who,.string x.what,.string x.a.d.id,.slice x.a.WA x.a.wn x.a.wc,.slice x.a.TA x.a.tn x.a.tc,.slice x.a.NA x.a.nn x.a.nc] 67)).heap.size=w.heap.size+1 from by simp [go_sem]] at cK;replace q0:=zb B0.o q0;have N1:=O (n1.keep B0.o);have Q1:=O (zb B0.o q1');clear hV hm n0 hr0 mY e0 hv0 n1 hr1 eY e1 q1 q1' ea';by_cases g:zQ [45] k0=true
 ·rw [if_pos g] at cK;have G:=O g;clear g;go_enter Tryz.func58,Tryz.ntmps58;go_wp2_with fail;refine cK.o.mono ?_;rintro e w5 ⟨rfl,b5⟩;have B5:=bh gZ b5;have q1:=zb b5 (zb (z8 _ _) Q1.o);have N5:=O ((N1.o.keep (z8 _ _)).keep b5);clear b5 N1 Q1 cK gZ B0 q0;have bx2:=z8 w5 (.cells #[.int .i64 45] 3);have xe:=bh B5 bx2;have oD:=O (jC (d:=1) [45] (N5.o.keep bx2) rfl (by decide) (au w5 45 3));clear bx2;by_cases g2:zQ [45] k1=true
  ·rw [if_pos g2] at oD;have HT:=O (show(zQ [45] k0 && zQ [45] k1)=true by rw [G.o,g2];rfl);clear g2 G;go_wp2_with fail;refine oD.o.mono ?_;rintro e w6 ⟨rfl,b6⟩;have B6:=bh xe b6;clear b6 oD xe B5 q1;go_wp2_with fail;refine(K1.o _).mono ?_;rintro e w9 ⟨b9,A9,n9,c9,rfl,hN,hl⟩;have B9:=bh B6 b9;have N9:=O hN;have HL:=O (aH B6.o hl);clear b9 hN B6 K1 hl;go_wp2_with fail;go_ret;rw [HR.o,if_pos HT.o];exact jj B9.o N9.o HL.o
  ·rw [if_neg g2] at oD;have HF:=O (show¬(zQ [45] k0 && zQ [45] k1)=true from λq=>g2 (by rw [Bool.and_eq_true] at q;exact q.2));clear g2 G;go_wp2_with fail;refine oD.o.mono ?_;rintro e w6 ⟨rfl,b6⟩;have B6:=bh xe b6;clear b6 oD xe B5 q1;go_wp2_with fail;exact⟨rfl,by rw [HR.o,if_neg HF.o];exact jt B6.o⟩
 ·rw [if_neg g] at cK;have HF:=O (show¬(zQ [45] k0 && zQ [45] k1)=true from λq=>g (by rw [Bool.and_eq_true] at q;exact q.1));clear g;go_enter Tryz.func58,Tryz.ntmps58;go_wp2_with fail;refine cK.o.mono ?_;rintro e w5 ⟨rfl,b5⟩;have B5:=bh gZ b5;clear b5 cK gZ B0 q0;go_wp2_with fail;exact⟨rfl,by rw [HR.o,if_neg HF.o];exact jt B5.o⟩
theorem Td(S:Nat->Prop)(x:Xs)(L:List Kd)(A:Option Addr)(n c:Nat)(w:World):
 Calls Tryz.prog 58 #[x.v,.int .i64 14,.slice A n c] w (jT S w (jp 14 L)):=by
 have B0:=O (za w x.o);unfold Xs.o at B0;unfold Xs.v;rw [show jp 14 L = .ok (.base 41) from rfl];have K1:=O (λw=>dQ (S:=S) (o:=41) (s:=emp) (k := .base 41) (w:=w) rfl (by decide));go_enter Tryz.func58,Tryz.ntmps58;go_wp2_with fail;refine(K1.o _).mono ?_;rintro e w9 ⟨b9,A9,n9,c9,rfl,hN,hl⟩;have B9:=bh B0 b9;have N9:=O hN;have HL:=O (aH B0.o hl);clear b9 hN B0 K1 hl;go_wp2_with fail;go_ret;exact jj B9.o N9.o HL.o
theorem Om(k:Kd)(h:∀p,k≠ .set p)(hb:∀x,k = .base x->x≠45):zQ [44,45] k=zQ [44] k:=by
 cases k with
 | base x =>
  have hx:=hb x rfl
  rw [Bool.eq_iff_iff,pI,pI]
  simp only [kOp,List.contains_cons,List.contains_nil,Bool.or_false,Bool.or_eq_true,beq_iff_eq]
  constructor
  ·rintro (q|q|q)
   ·exact .inl q
   ·exact .inr q
   ·exact absurd q hx
  ·rintro (q|q)
   ·exact .inl q
   ·exact .inr (.inl q)
 | ent s=>rfl
 | set p=>exact absurd rfl (h p)
 | fs f=>rfl
theorem Mx(k:Kd)(h:∀p,k≠ .set p):dP k=zQ [44] k:=by
 cases k with
 | base x=>rfl
 | ent s=>rfl
 | set p=>exact absurd rfl (h p)
 | fs f=>rfl
theorem Sy(k:Kd)(h:∀p,k≠ .set p)(hb:∀x,k = .base x->x≠45):kOp k≠45:=by
 cases k with
 | base x=>exact hb x rfl
 | ent s=>show(44:Int)≠45;decide
 | set p=>exact absurd rfl (h p)
 | fs f=>show(46:Int)≠45;decide
theorem SL(S:Nat->Prop)(x:Xs)(k0 k1:Kd)(A:Option Addr)(n c:Nat)(V:List Sl)(w:World)(hn:n=V.length)(hn2:n<=4000)(hV:jM w A V)(hm:V.map Sl.P = [k0,k1].map Kd.flat)(hb:∀x,k1 = .base x->x≠45):
 Calls Tryz.prog 58 #[x.v,.int .i64 20,.slice A n c] w (jT S w (jp 20 [k0,k1])):=by
 have B0:=O (za w x.o);unfold Xs.o at B0;unfold Xs.v;have e0:V[0]?.map Sl.P=some k0.flat:=by have:=congrArg (λl=>l[0]?) hm;simpa using this
 obtain⟨r0,hr0,mY⟩:=Option.map_eq_some_iff.1 e0;obtain⟨a,ea,q0,n0⟩:=hV 0 r0 hr0;rw [mY] at n0;rw [show a.add 0=a from rfl] at q0;have hv0:0<V.length:=(List.getElem?_eq_some_iff.1 hr0).1;have e1:V[1]?.map Sl.P=some k1.flat:=by have:=congrArg (λl=>l[1]?) hm;simpa using this
 obtain⟨r1,hr1,eY⟩:=Option.map_eq_some_iff.1 e1;obtain⟨a',ea',q1,n1⟩:=hV 1 r1 hr1;rw [eY] at n1;obtain rfl:a=a':=Option.some.inj (ea.symm.trans ea');have XK:1<V.length:=(List.getElem?_eq_some_iff.1 hr1).1;have q1':w.cell? ⟨a.block,a.off+1,none⟩=some (.slice r1.A r1.n r1.c):=q1;have hi1:(1:Int)<(n:Int):=by omega
 subst ea;have hi:(0:Int)<(n:Int):=by omega
 have hn0:0<n:=by omega
 have K1:=O (λw=>dQ (S:=S) (o:=41) (s:=emp) (k := .base 41) (w:=w) rfl (by decide));have HR:=O (show jp 20 [k0,k1]=if(zQ [44] k0 && dP k1)=true then .ok (.base 41) else .error 2 by simp [jp,bR]);obtain⟨RR,dA⟩:∃RR,RR=jp 20 [k0,k1]:=⟨_,rfl⟩
 rw [<-dA] at HR ⊢;clear dA;have bx1:=z8 (w.alloc (.cells #[.slice x.s.KA x.s.kn x.s.kc,.slice x.s.AA x.s.an x.s.ac,.string x.who,.string x.what,.string x.a.d.id,.slice x.a.WA x.a.wn x.a.wc,.slice x.a.TA x.a.tn x.a.tc,.slice x.a.NA x.a.nn x.a.nc] 67)) (.cells #[.int .i64 44] 3);have gZ:=bh B0 bx1;have cK:=O (jC (d:=1) [44] ((n0.keep B0.o).keep bx1) rfl (by decide) (au (w.alloc (.cells #[.slice x.s.KA x.s.kn x.s.kc,.slice x.s.AA x.s.an x.s.ac,.string x.who,.string x.what,.string x.a.d.id,.slice x.a.WA x.a.wn x.a.wc,.slice x.a.TA x.a.tn x.a.tc,.slice x.a.NA x.a.nn x.a.nc] 67)) 44 3));clear bx1;rw [show(w.alloc (.cells #[.slice x.s.KA x.s.kn x.s.kc,.slice x.s.AA x.s.an x.s.ac,.string x.who,.string x.what,.string x.a.d.id,.slice x.a.WA x.a.wn x.a.wc,.slice x.a.TA x.a.tn x.a.tc,.slice x.a.NA x.a.nn x.a.nc] 67)).heap.size=w.heap.size+1 from by simp [go_sem]] at cK;replace q0:=zb B0.o q0;have N1:=O (n1.keep B0.o);have Q1:=O (zb B0.o q1');clear hV hm n0 hr0 mY e0 hv0 n1 hr1 eY e1 q1 q1' ea';by_cases g:zQ [44] k0=true
 ·rw [if_pos g] at cK;have G:=O g;clear g;go_enter Tryz.func58,Tryz.ntmps58;go_wp2_with fail;refine cK.o.mono ?_;rintro e w5 ⟨rfl,b5⟩;have B5:=bh gZ b5;have Q5:=O (zb b5 (zb (z8 _ _) Q1.o));have q1:=Q5.o;have N5:=O ((N1.o.keep (z8 _ _)).keep b5);clear b5 N1 Q1 cK gZ B0 q0;have bx2:=z8 w5 (.cells #[.int .i64 44,.int .i64 45] 3);have xe:=bh B5 bx2;have oD:=O (jC (d:=2) [44,45] (N5.o.keep bx2) rfl (by decide) (xy w5 44 45 3));clear bx2;by_cases hs:∃p,k1 = .set p
  ·obtain⟨p,rfl⟩:=hs;rw [show zQ [44,45] (.set p)=true from rfl,if_pos rfl] at oD;clear hb;go_wp2_with fail;refine oD.o.mono ?_;rintro e w6 ⟨rfl,b6⟩;have B6:=bh xe b6;have q9:=zb b6 (zb (z8 _ _) Q5.o);have N6:=O ((N5.o.keep (z8 _ _)).keep b6);clear b6 N5 Q5 oD xe B5 q1;have NS:=N6.o;obtain⟨a1,ea1,d0,-,-,-⟩:=NS.at_ 0 ⟨45,0,emp,emp⟩ rfl;rw [show a1.add (0*4)=a1 from rfl] at d0;rw [ea1] at q9 NS;have NT:=yL NS;have hr1n:(0:Int)<(r1.n:Int):=by rw [N6.o.len];simp [Kd.flat]
   have hrc:=N6.o.cap;have hrm:=N6.o.max;unfold maxLen at hrm;have hr1n2:2<=r1.n:=by rw [N6.o.len,Kd.flat,List.length_cons];have:=ct p;omega
   have bx3:=z8 w6 (.cells #[.int .i64 44] 3);have Zm:=bh B6 bx3;have WV:=O (jC (d:=1) [44] (NT.keep bx3) rfl (by decide) (au w6 44 3));clear NS NT bx3 N6 ea1;by_cases g2:zQ [44] p=true
   ·rw [if_pos g2] at WV;have HT:=O (show(zQ [44] k0 && dP (.set p))=true by rw [G.o,show dP (.set p)=zQ [44] p from rfl,g2];rfl);clear g2 G;go_wp2_with fail;refine WV.o.mono ?_;rintro e w7 ⟨rfl,b7⟩;have B7:=bh Zm b7;clear b7 WV Zm B6 q9 d0;go_wp2_with fail;refine(K1.o _).mono ?_;rintro e w9 ⟨b9,A9,n9,c9,rfl,hN,hl⟩;have B9:=bh B7 b9;have N9:=O hN;have HL:=O (aH B7.o hl);clear b9 hN B7 K1 hl;go_wp2_with fail;go_ret;rw [HR.o,if_pos HT.o];exact jj B9.o N9.o HL.o
   ·rw [if_neg g2] at WV;have HF:=O (show¬(zQ [44] k0 && dP (.set p))=true from λq=>g2 (by rw [Bool.and_eq_true] at q;exact q.2));clear g2 G;go_wp2_with fail;refine WV.o.mono ?_;rintro e w7 ⟨rfl,b7⟩;have B7:=bh Zm b7;clear b7 WV Zm B6 q9 d0;go_wp2_with fail;exact⟨rfl,by rw [HR.o,if_neg HF.o];exact jt B7.o⟩
  ·replace hs:∀p,k1≠ .set p:=λp e=>hs ⟨p,e⟩;have hk:=Om k1 hs hb;have Rz:=Mx k1 hs;obtain⟨y,ry,ey,hy⟩:=EU k1;have hy45:y.op≠45:=by rw [hy];exact Sy k1 hs hb
   rw [hk] at oD;by_cases g2:zQ [44] k1=true
   ·rw [if_pos g2] at oD;have HT:=O (show(zQ [44] k0 && dP k1)=true by rw [G.o,Rz,g2];rfl);rw [ey] at N5;clear g2 G hk Rz hs hb;go_wp2_with fail;refine oD.o.mono ?_;rintro e w6 ⟨rfl,b6⟩;have B6:=bh xe b6;have q9:=zb b6 (zb (z8 _ _) Q5.o);have N6:=O ((N5.o.keep (z8 _ _)).keep b6);clear b6 N5 Q5 oD xe B5 q1;obtain⟨a1,ea1,d0,-,-,-⟩:=N6.o.at_ 0 y rfl;rw [show a1.add (0*4)=a1 from rfl] at d0;rw [ea1] at q9;have hr1n:(0:Int)<(r1.n:Int):=by rw [N6.o.len];simp
    have f45:(y.op==45)=false:=beq_eq_false_iff_ne.2 hy45;clear hy45 hy ey N6;generalize y.op=yo at *;go_wp2_with fail;refine(K1.o _).mono ?_;rintro e w9 ⟨b9,A9,n9,c9,rfl,hN,hl⟩;have B9:=bh B6 b9;have N9:=O hN;have HL:=O (aH B6.o hl);clear b9 hN B6 K1 hl;go_wp2_with fail;go_ret;rw [HR.o,if_pos HT.o];exact jj B9.o N9.o HL.o
   ·rw [if_neg g2] at oD;have HF:=O (show¬(zQ [44] k0 && dP k1)=true from λq=>g2 (by rw [Bool.and_eq_true,Rz] at q;exact q.2));clear g2 G hk Rz hs hb;go_wp2_with fail;refine oD.o.mono ?_;rintro e w6 ⟨rfl,b6⟩;have B6:=bh xe b6;clear b6 oD xe B5 q1;go_wp2_with fail;exact⟨rfl,by rw [HR.o,if_neg HF.o];exact jt B6.o⟩
 ·rw [if_neg g] at cK;have HF:=O (show¬(zQ [44] k0 && dP k1)=true from λq=>g (by rw [Bool.and_eq_true] at q;exact q.1));clear g;go_enter Tryz.func58,Tryz.ntmps58;go_wp2_with fail;refine cK.o.mono ?_;rintro e w5 ⟨rfl,b5⟩;have B5:=bh gZ b5;clear b5 cK gZ B0 q0;go_wp2_with fail;exact⟨rfl,by rw [HR.o,if_neg HF.o];exact jt B5.o⟩
def KdC(S:Nat->Prop)(x:Xs)(N:Nat):Prop:=∀(A:Option Addr) (n c:Nat) (e:Ex) (p:Option Addr) (G:jl) (w:World),oY w x->Ns w A n c e.flat->n<=4000->e.valid false->n<=N->ll w p G->
 Calls Tryz.prog 22 #[x.v,.slice A n c,.pointer p] w (jT S w (tyX x.t e G))
theorem pK(w:World)(y:Nd):Bx4 (w.alloc (.cells #[.int .i64 y.op,.int .i64 y.n,.string y.s,.string y.t] 47)) w.heap.size (.int .i64 y.op) (.int .i64 y.n) (.string y.s) (.string y.t):=fq w _ _ _ _ _
theorem VP(S:Nat->Prop)(x:Xs)(N:Nat)(ih:KdC S x N)(A:Option Addr)(n c:Nat)(y:Nd)(ps:Exs)(p:Option Addr)(G:jl)(w:World)(hx:oY w x)(h:Ns w A n c (Ex.node y ps).flat)(hn:n<=4000)(hv:(Ex.node y ps).valid false)(hN:n<=N+1)(hF:ll w p G)(hop:y.op=11)(a b:Ex)(Rw:ps = .cons a (.cons b .nil)):
 Calls Tryz.prog 22 #[x.v,.slice A n c,.pointer p] w (jT S w (lA x.t ps G)):=by
 have B0:=O (za w x.o);have V0:=O (eH w x);have X0:=O hx;have F0:=O hF;have CK:=O (λw' (hb:Below w.heap.size w w')=>iJ A n c (.node y ps) false w' (h.keep hb) hn hv);have fm:=O (show n=ps.flat.length+1 by rw [h.len];simp [Ex.flat]);have wm:=O hv.2.2;have IH:=O ih;have Fx:=O hn;have II:=O hN;subst Rw;obtain⟨yo,yn,ys,yt⟩:=y;dsimp only at hop;subst hop;unfold Xs.o at B0 V0;unfold KdC at IH;unfold Xs.v at IH ⊢;simp only [Ex.head,Ex.parts,ndV] at CK;obtain⟨RR,dA⟩:∃RR,RR=lA x.t (.cons a (.cons b .nil)) G:=⟨_,rfl⟩
 rw [<-dA];have eZ:=O dA;clear hx hF h hn hv hN ih dA;go_enter Tryz.func22,Tryz.ntmps22;go_wp2_with fail;refine(CK.o _ B0.o).mono ?_;rintro e w1 ⟨A',c',V,rfl,hc,hS,hm,b1⟩;obtain⟨r,hr,⟨⟨A1,rfl,q0⟩,N0⟩⟩:=gU hS hm (k:=0) (x:=a) rfl;obtain⟨r',wh,⟨⟨A2,e2,q2⟩,N2⟩⟩:=gU hS hm (k:=1) (x:=b) rfl;obtain rfl:A1=A2:=Option.some.inj e2;rw [show A1.add 0=A1 from rfl] at q0;have hV:1<V.length:=by rw [List.getElem?_eq_some_iff] at wh;exact wh.1
 have hV1:(1:Int)<(V.length:Int):=by omega
 have hV0:(0:Int)<(V.length:Int):=by omega
 have hV00:0<V.length:=by omega
 generalize V.length=m at *;have bN:=za w1 (.cells #[.int .i64 11,.int .i64 yn,.string ys,.string yt] 47);have b2:=b1.trans (bN.mono b1.size);have B2:=bh B0 b2;have V2:=O (V0.o.keep b2);have F2:=O (F0.o.keep B2.o);have X2:=O (X0.o.keep B2.o);have Q0:=O (zb bN q0);have Q2:=O (zb bN q2);have M0:=O (N0.keep bN);have M2:=O (N2.keep bN);obtain⟨y0,-,-,-,-,-,-,-⟩:=pK w1 ⟨11,yn,ys,yt⟩;dsimp only at y0;clear hS hm b1 b2 bN N0 N2 hr wh e2 B0 V0 F0 X0 CK hc;have pa:=jq a;have pb:=jq b;have hLN:a.flat.length+b.flat.length+1=n:=by have:=fm.o;simp [Exs.flat] at this;omega
 have hra:r.n=a.flat.length:=M0.o.len;have Yo:r'.n=b.flat.length:=M2.o.len;have Ru:=Fx.o;have Z':=II.o;have HA:=O (show r.n<=4000/\r.n<=N by omega);have HB:=O (show r'.n<=4000/\r'.n<=N by omega);obtain⟨-,va,-,vb,-⟩:=wm.o;have FC:=O va;have W8:=O vb;clear pa pb hLN hra Yo Ru Z' va vb fm Fx II wm;go_wp2_with fail;obtain⟨w2,hw2⟩:∃w2,w1.alloc (.cells #[.int .i64 11,.int .i64 yn,.string ys,.string yt] 47)=w2:=⟨_,rfl⟩
 rw [hw2] at B2 V2 F2 X2 Q0 Q2 M0 M2 ⊢;clear hw2 y0;obtain⟨c0,c1,c2,c3,c4,c5,c6,c7⟩:=V2.o;have q0:=Q0.o;have q2:=Q2.o;have kc0:=cell_regrown c0;have kc1:=cell_regrown c1;have kc2:=cell_regrown c2;have kc3:=cell_regrown c3;have kc4:=cell_regrown c4;have kc5:=cell_regrown c5;have kc6:=cell_regrown c6;have kc7:=cell_regrown c7;have kq0:=cell_regrown q0;refine dR (l := [_,_,_,_,_]) [0,1,2,3,4] 5 2 (by kernel_rfl) (by kernel_rfl) rfl (λw'=>∃p:Regrown,w'=grow (redrawn w2 p.d) p.os) ⟨⟨w2.drawn+1,#[]⟩,by rw [grow_empty];rfl⟩ ?_
 repeat (first|go_big_quiet_step (fail)|quiet_step (fail))
 refine wpQuiet_nil ?_;rintro w2d ⟨⟨dd,os⟩,rfl⟩;have bd:=below_regrown w2 dd os;generalize grow (redrawn w2 dd) os=w2d at *;clear kc0 kc1 kc2 kc3 kc4 kc5 kc6 kc7 kq0;refine zA (i:=5) (by kernel_rfl) rfl (λK' hK'=>?_);go_simp;have KA:=O (IH.o _ _ _ a p G w2d (X2.o.keep bd) (M0.o.keep bd) HA.o.1 FC.o HA.o.2 (F2.o.keep bd));have BD:=bh B2 bd;rcases qa:tyX x.t a G with u|ka
 ·rw [qa] at KA;clear c0 c1 c2 c3 c4 c5 c6 c7 q0 q2;refine KA.o.mono ?_;intro e w3 h3;obtain⟨rfl,b3⟩:=dI h3;have B3:=bh BD b3;clear b3 h3;go_wp2_with fail;exact⟨rfl,by rw [show RR = .error u from eZ.o.trans (by unfold lA;rw [qa])];exact jt B3.o⟩
 rw [qa] at KA;have hka:KOk ka:=by have:=nj X2.o.ok a false G FC.o;rw [qa] at this;exact this
 refine KA.o.mono ?_;intro e w3 h3;obtain⟨A3,n3,m3,rfl,XZ,b3,l3⟩:=bM h3;have bb:=bd.trans (b3.mono bd.size);have B3:=bh B2 bb;have V3:=O (V2.o.keep bb);have X3:=O (X2.o.keep bb);have F3:=O (F2.o.keep bb);have P0:=O (zb bb Q0.o);have P2:=O (zb bb Q2.o);have L0:=O (M0.o.keep bb);have L2:=O (M2.o.keep bb);have NA:=O XZ;clear h3 XZ b3 l3 bb bd BD B2 V2 X2 F2 Q0 Q2 M0 M2 KA c0 c1 c2 c3 c4 c5 c6 c7 q0 q2;go_wp2_with fail;refine hK'.out _ _ (λ_=>trivial) ?_;clear hK' K'
 try simp only [Act.put,zL]
 refine zA (i:=6) (by kernel_rfl) rfl (λK' hK'=>?_);go_simp;refine hK'.out _ _ (λ_=>trivial) ?_;clear hK' K';refine jR (by kernel_rfl) ?_;go_wp2_with fail;have bd:=cn w3;have hHeld:(λw':World=>Vst w' w.heap.size x/\w'.cell? A1=some (.slice r.A r.n r.c)/\w'.cell? ⟨A1.block,A1.off+1,none⟩=some (.slice r'.A r'.n r'.c)) w3.drew:=⟨V3.o.keep bd,zb bd P0.o,zb bd P2.o⟩
 have KE:=O (kN r.n r.A r.n r.c a false p G w3.drew (L0.o.keep bd) HA.o.1 FC.o (Nat.le_refl _) (F3.o.keep bd));have YO:=bh B3 bd;have X4:=O (X3.o.keep bd);have L4:=O (L2.o.keep bd);have XJ:=O (NA.o.keep bd);clear bd;refine a8 (λw':World=>Vst w' w.heap.size x/\w'.cell? A1=some (.slice r.A r.n r.c)/\w'.cell? ⟨A1.block,A1.off+1,none⟩=some (.slice r'.A r'.n r'.c)) 11 (by kernel_rfl) hHeld (λhHeld=>?_);refine ji 0 (.agg #[.slice x.s.KA x.s.kn x.s.kc,.slice x.s.AA x.s.an x.s.ac,.string x.who,.string x.what,.string x.a.d.id,.slice x.a.WA x.a.wn x.a.wc,.slice x.a.TA x.a.tn x.a.tc,.slice x.a.NA x.a.nn x.a.nc]) rfl (λw' hSw=>?_) hHeld ?_
 ·obtain⟨⟨s0,s1,s2,s3,s4,s5,s6,s7⟩,t0,t1⟩:=hSw;go_simp
 refine ji 1 (.slice (some A1) m c') rfl (λw' hSw=>?_) hHeld ?_
 ·obtain⟨⟨s0,s1,s2,s3,s4,s5,s6,s7⟩,t0,t1⟩:=hSw;go_simp
 refine ji 2 (.pointer (some ⟨A1.block,A1.off+1,none⟩)) rfl (λw' hSw=>?_) hHeld ?_
 ·obtain⟨⟨s0,s1,s2,s3,s4,s5,s6,s7⟩,t0,t1⟩:=hSw;go_simp
 refine ji 3 (.slice r'.A r'.n r'.c) rfl (λw' hSw=>?_) hHeld ?_
 ·obtain⟨⟨s0,s1,s2,s3,s4,s5,s6,s7⟩,t0,t1⟩:=hSw;go_simp
 refine ji 4 (.slice (some A1) m c') rfl (λw' hSw=>?_) hHeld ?_
 ·obtain⟨⟨s0,s1,s2,s3,s4,s5,s6,s7⟩,t0,t1⟩:=hSw;go_simp
 refine ji 5 (.pointer (some A1)) rfl (λw' hSw=>?_) hHeld ?_
 ·obtain⟨⟨s0,s1,s2,s3,s4,s5,s6,s7⟩,t0,t1⟩:=hSw;go_simp
 refine ji 6 (.slice r.A r.n r.c) rfl (λw' hSw=>?_) hHeld ?_
 ·obtain⟨⟨s0,s1,s2,s3,s4,s5,s6,s7⟩,t0,t1⟩:=hSw;go_simp
 refine ji 7 (.pointer p) rfl (λw' hSw=>?_) hHeld ?_
 ·obtain⟨⟨s0,s1,s2,s3,s4,s5,s6,s7⟩,t0,t1⟩:=hSw;go_simp
 refine zA (i:=8) (by kernel_rfl) rfl (λK' hK'=>?_);go_simp;refine KE.o.mono ?_;rintro e w4 ⟨q4,rfl,YE,b4⟩;have B4:=bh YO b4;have F4:=O YE;have X5:=O (X4.o.keep b4);have L5:=O (L4.o.keep b4);have XO:=O (XJ.o.keep b4);have hHeld4:(λw':World=>Vst w' w.heap.size x/\w'.cell? A1=some (.slice r.A r.n r.c)/\w'.cell? ⟨A1.block,A1.off+1,none⟩=some (.slice r'.A r'.n r'.c)) w4:=⟨hHeld.1.keep b4,zb b4 hHeld.2.1,zb b4 hHeld.2.2⟩
 clear YE b4 YO X4 L4 XJ KE V3 X3 F3 P0 P2 L0 L2 NA B3 hHeld;go_wp2_with fail;refine hK'.out _ _ (λ_=>hHeld4) ?_;clear hK' K';have KB:=O (IH.o _ _ _ b q4 (cR a G) w4 X5.o L5.o HB.o.1 W8.o HB.o.2 F4.o);refine zA (i:=9) (by kernel_rfl) rfl (λK' hK'=>?_);go_simp;have BD:=B4;rcases qb:tyX x.t b (cR a G) with u|kb
 ·rw [qb] at KB;refine KB.o.mono ?_;intro e w5 h5;obtain⟨rfl,b5⟩:=dI h5;have B5:=bh BD b5;clear b5 h5;go_wp2_with fail;exact⟨rfl,by rw [show RR = .error u from eZ.o.trans (by unfold lA dU;rw [qa];simp only;rw [qb])];exact jt B5.o⟩
 rw [qb] at KB;refine KB.o.mono ?_;intro e w5 h5;obtain⟨A5,n5,m5,rfl,JK,b5,l5⟩:=bM h5;have B5:=bh B4 b5;have Yt:=O (XO.o.keep b5);have NB:=O JK;have hHeld5:(λw':World=>Vst w' w.heap.size x/\w'.cell? A1=some (.slice r.A r.n r.c)/\w'.cell? ⟨A1.block,A1.off+1,none⟩=some (.slice r'.A r'.n r'.c)) w5:=⟨hHeld4.1.keep b5,zb b5 hHeld4.2.1,zb b5 hHeld4.2.2⟩
 clear h5 JK b5 l5 BD B4 X5 L5 XO F4 KB hHeld4 IH;go_wp2_with fail;refine hK'.out _ _ (λ_=>hHeld5) ?_;clear hK' K';refine zA (i:=10) (by kernel_rfl) rfl (λK' hK'=>?_);go_simp;refine hK'.out _ _ (λ_=>hHeld5) ?_;refine jR (by kernel_rfl) ?_;clear hK' K' hHeld5;have Rp:=O (show RR=if zQ [41] ka && zQ [41] kb then .ok (.base 41) else .error 2 from eZ.o.trans (by unfold lA dU;rw [qa];simp only;rw [qb]));clear eZ qa qb;have bx1:=z8 w5 (.cells #[.int .i64 41] 3);have gZ:=bh B5 bx1;have cK:=O (jC (d:=1) [41] (Yt.o.keep bx1) rfl (by decide) (au w5 41 3));have NB1:=O (NB.o.keep bx1);clear bx1 NB Yt B5;by_cases g1:zQ [41] ka=true
 case neg =>
  rw [if_neg g1] at cK;have HF:=O (show RR = .error 2 by rw [Rp.o,if_neg (λq=>g1 (by rw [Bool.and_eq_true] at q;exact q.1))]);clear g1 Rp;go_wp2_with fail;refine cK.o.mono ?_;rintro e w6 ⟨rfl,b6⟩;have B6:=bh gZ b6;clear b6 cK gZ NB1;go_wp2_with fail;exact⟨rfl,by rw [HF.o];exact jt B6.o⟩
 rw [if_pos g1] at cK;have G1:=O g1;clear g1;go_wp2_with fail;refine cK.o.mono ?_;rintro e w6 ⟨rfl,b6⟩;have B6:=bh gZ b6;have NB6:=O (NB1.o.keep b6);clear b6 cK gZ NB1;have bx2:=z8 w6 (.cells #[.int .i64 41] 3);have xe:=bh B6 bx2;have oD:=O (jC (d:=1) [41] (NB6.o.keep bx2) rfl (by decide) (au w6 41 3));clear bx2 NB6 B6;by_cases g2:zQ [41] kb=true
 case neg =>
  rw [if_neg g2] at oD;have HF:=O (show RR = .error 2 by rw [Rp.o,if_neg (λq=>g2 (by rw [Bool.and_eq_true] at q;exact q.2))]);clear g2 Rp;go_wp2_with fail;refine oD.o.mono ?_;rintro e w7 ⟨rfl,b7⟩;have B7:=bh xe b7;clear b7 oD xe;go_wp2_with fail;exact⟨rfl,by rw [HF.o];exact jt B7.o⟩
 rw [if_pos g2] at oD;have HT:=O (show RR = .ok (.base 41) by rw [Rp.o,G1.o,g2];rfl);clear g2 Rp G1;go_wp2_with fail;refine oD.o.mono ?_;rintro e w7 ⟨rfl,b7⟩;have B7:=bh xe b7;clear b7 oD xe;go_wp2_with fail;refine(dQ (S:=S) (o:=41) (s:=emp) (k := .base 41) (w:=w7) rfl (by decide)).mono ?_;intro e w8 h8;obtain⟨A8,n8,m8,rfl,qm,b8,l8⟩:=bM h8;have B8:=bh B7 b8;have N8:=O qm;have HL:=O (aH B7.o l8);clear h8 qm b8 B7 l8;go_wp2_with fail;go_ret;rw [HT.o];exact jj B8.o N8.o HL.o
def JnX(w:World)(P Q:List Nd)(e:Ending)(w':World):Prop :=
 if joinE P Q=0 then∃(A:Option Addr) (n c:Nat),e = .returned (.slice A n c)/\Ns w' A n c (nb P Q)/\Below w.heap.size w w'/\(∀a,A=some a->w.heap.size<=a.block) else e = .panicked (kY 4)/\Below w.heap.size w w'
theorem NR{A1 A2:Option Addr}{n1 c1 n2 c2:Nat}{P Q:List Nd}{w:World}(h:Ns w A1 n1 c1 P)(k:Ns w A2 n2 c2 Q):
 Calls Tryz.prog 52 #[.slice A1 n1 c1,.slice A2 n2 c2] w (JnX w P Q):=by
 have K:=O (h.kinds_JoinN k);clear h k;unfold JnX;by_cases he:joinE P Q=0
 ·simp only [if_pos he];go_enter Tryz.func52,Tryz.ntmps52;go_wp2_with fail;refine K.o.mono ?_;rintro e w1 ⟨A,n,c,rfl,N1,b1,l1⟩;have NN:=O N1;have B1:=O b1;have LL:=O l1;clear N1 b1 l1 K;rw [he,zj];go_wp2_with fail;go_ret;exact⟨A,n,c,rfl,NN.o,B1.o,LL.o⟩
 ·simp only [if_neg he];go_enter Tryz.func52,Tryz.ntmps52;go_wp2_with fail;refine K.o.mono ?_;rintro e w1 ⟨A,n,c,rfl,N1,b1,l1⟩;have B1:=O b1;clear N1 b1 l1 K;rw [zm he];generalize joinE P Q=ff at *;clear he;go_wp2_with fail;exact⟨rfl,rfl,B1.o⟩
end Go.Proofs.YthifljpkgfpkiaaGreatDoor
