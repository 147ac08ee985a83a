/-
  check's told: the type of what has parts of some types. (gen_chktold.py)
-/
import Derived.Test.YtjcdeikbghjpkaaGreatDoorQ23
set_option maxRecDepth 100000
set_option maxHeartbeats 8000000
namespace Go.Proofs.YtjcdeikbghjpkaaGreatDoor
open Go.RowKit Go.Wk Go.Sort
theorem zmx(k:Kd):∃y r,k.flat=y :: r∧y.op=kOp k:=by
 cases k with
 | base x=>exact⟨_,_,rfl,rfl⟩
 | ent s=>exact⟨_,_,rfl,rfl⟩
 | set p=>exact⟨_,_,rfl,rfl⟩
 | fs f=>exact⟨_,_,rfl,rfl⟩
theorem zfs(L:List Int)(k:Kd):zj L k=true↔kOp k=49∨L.contains (kOp k)=true:=by
 unfold zj;rw [Bool.or_eq_true,decide_eq_true_iff]
theorem jr{A:Option Addr}{n c:Nat}{k:Kd}{B:Option Addr}{m d:Nat}(L:List Int){w:World}(h:Ns w A n c k.flat)(hm:m=L.length)(hm2:m≤1000)(hi:zgl w B L):
 Calls Tryz.prog 46 #[.slice A n c,.slice B m d] w fun e w'=>e=(if zj L k=true then .returned (.tuple #[]) else .panicked (zd0 2))∧Below w.heap.size w w':=by
 obtain⟨y,r,e,ho⟩:=zmx k;rw [e] at h;refine(zpf A n c y r B m d L w h hm hm2 hi).mono fun e w' hh=>?_;rw [ho] at hh;by_cases g:zj L k=true
 ·rw [if_pos ((zfs L k).1 g)] at hh;rw [if_pos g];exact hh
 ·rw [if_neg (fun q=>g ((zfs L k).2 q))] at hh;rw [if_neg g];exact hh
theorem jP(w:World)(x:Int)(t:TypeId):zgl (w.alloc (.cells #[.int .i64 x] t)) (some ⟨w.heap.size,0,none⟩) [x]:=fun k y hk=>by
 match k,hk with
 | 0,hk =>
  simp only [List.getElem?_cons_zero,Option.some.injEq] at hk
  subst hk
  exact⟨_,rfl,zx (heap_alloc_last w _) rfl⟩
 | k+1,hk=>simp at hk
theorem zkb(w:World)(x y:Int)(t:TypeId):zgl (w.alloc (.cells #[.int .i64 x,.int .i64 y] t)) (some ⟨w.heap.size,0,none⟩) [x,y]:=fun k z hk=>by
 match k,hk with
 | 0,hk =>
  simp only [List.getElem?_cons_zero,Option.some.injEq] at hk
  subst hk
  exact⟨_,rfl,zx (heap_alloc_last w _) rfl⟩
 | 1,hk =>
  simp only [List.getElem?_cons_succ,List.getElem?_cons_zero,Option.some.injEq] at hk
  subst hk
  exact⟨_,rfl,zx (heap_alloc_last w _) rfl⟩
 | k+2,hk=>simp at hk
theorem zS(w:World)(o:Obj):Below w.heap.size w (w.alloc o):=za w o
theorem zoJ(S:Nat→Prop)(x:Xs)(op:Int)(L:List Kd)(A:Option Addr)(n c:Nat)(V:List Sl)(w:World)(hn:n=V.length)(hn2:n≤4000)(hV:za4 w A V)(hm:V.map Sl.P=L.map Kd.flat)(hop:op=9∨op=12):
 Calls Tryz.prog 54 #[x.v,.int .i64 op,.slice A n c] w (jJ S w (zG op L)):=by
 have B0:=hi9 (za w x.o);unfold Xs.o at B0;unfold Xs.v;have HS:=hi9 hV;have HLN:=hi9 hn;have HM:=hi9 hm;have HLL:=hi9 (show V.length=L.length by have:=congrArg List.length hm;simpa using this);have HR:=hi9 (show zG op L=if L.all (zj [41])=true then .ok (.base 41) else .error 2 by
  unfold zG j9
  rcases hop with rfl|rfl <;> rfl)
 obtain⟨RR,hRR⟩:∃RR,RR=zG op L:=⟨_,rfl⟩
 rw [←hRR] at HR ⊢;clear hRR;have K1:=hi9 (fun w=>zbD (S:=S) (o:=41) (s:=emp) (k := .base 41) (w:=w) rfl (by decide));clear hV hn hm;rcases hop with rfl|rfl
 all_goals
  go_enter Tryz.func54,Tryz.ntmps54;go_wp2_with fail;go_loopw [17] (fun i wr=>∃j:Nat,i = .int .i64 j∧j≤n∧Hid ((L.take j).all (zj [41])=true)∧Hid (Below w.heap.size w wr)) (fun i _=>n-(intOf i).toNat)
  case atStart=>exact⟨0,rfl,Nat.zero_le _,hi9 (by simp),B0⟩
  case round =>
   obtain⟨j,rfl,hj,hA,hB⟩:=hrel;by_cases hlt:j<n
   ·have hjv:j<V.length:=by rw [←HLN.out];exact hlt
    have hjl:j<L.length:=by rw [←HLL.out];exact hjv
    obtain⟨a,rfl,q1,n1⟩:=(HS.out.keep hB.out).at hjv;have e1:V[j].P=(L[j]).flat:=by
     have:=congrArg (fun l=>l[j]?) HM.out;simpa [hjv,hjl] using this
    rw [e1] at n1;have HT:=hi9 (show(L.take (j+1)).all (zj [41])=((L.take j).all (zj [41])&& zj [41] L[j]) by rw [List.take_succ_eq_append_getElem hjl,List.all_append];simp);have HALL:=hi9 (show L.all (zj [41])=true→zj [41] L[j]=true from fun h=>List.all_eq_true.1 h _ (List.getElem_mem hjl));generalize V[j]=r at *;generalize L[j]=k at *;have N1:=hi9 n1;have bx:=zS wr (.cells #[.int .i64 41] 3);have BX:=bh hB bx;have KM:=hi9 (jr (d:=1) [41] (n1.keep bx) rfl (by decide) (jP wr 41 3));clear n1 e1 bx;by_cases g:zj [41] k=true
    ·rw [if_pos g] at KM;have HT2:=hi9 (show(L.take (j+1)).all (zj [41])=true by rw [HT.out,hA.out,g];rfl);clear HT HALL hA g;go_wp2_with fail;refine KM.out.mono ?_;rintro e w5 ⟨rfl,b5⟩;have B5:=bh BX b5;clear b5 KM BX hB;go_wp2_with fail;go_roundw
     case rel=>exact⟨j+1,by go_num,hlt,HT2,B5⟩
     case measure=>simp [intOf];omega
    ·rw [if_neg g] at KM;have HF:=hi9 (show¬L.all (zj [41])=true from fun q=>g (HALL.out q));clear HT HALL hA g;go_wp2_with fail;refine KM.out.mono ?_;rintro e w5 ⟨rfl,b5⟩;have B5:=bh BX b5;clear b5 KM BX hB;go_wp2_with fail;exact⟨rfl,by rw [HR.out,if_neg HF.out];exact jl B5.out⟩
   ·have HF:=hi9 (show L.all (zj [41])=true by have:=hA.out;rwa [List.take_of_length_le (by rw [←HLL.out,←HLN.out];omega)] at this);clear hA;go_wp2_with fail;refine(K1.out _).mono ?_;rintro e w5 ⟨b5,A5,n5,c5,rfl,hN,hl⟩;have B5:=bh hB b5;have N5:=hi9 hN;have HL:=hi9 (jY hB.out hl);clear b5 hN hB K1 hl;go_wp2_with fail;go_ret;rw [HR.out,if_pos HF.out];exact jb B5.out N5.out HL.out
theorem zpv(S:Nat→Prop)(x:Xs)(op:Int)(L:List Kd)(A:Option Addr)(n c:Nat)(V:List Sl)(w:World)(hn:n=V.length)(hn2:n≤4000)(hV:za4 w A V)(hm:V.map Sl.P=L.map Kd.flat)(hop:op=10∨op=17∨op=18∨op=19):
 Calls Tryz.prog 54 #[x.v,.int .i64 op,.slice A n c] w (jJ S w (zG op L)):=by
 have B0:=hi9 (za w x.o);unfold Xs.o at B0;unfold Xs.v;have HS:=hi9 hV;have HLN:=hi9 hn;have HM:=hi9 hm;have HLL:=hi9 (show V.length=L.length by have:=congrArg List.length hm;simpa using this);have HR:=hi9 (show zG op L=if L.all (zj [42])=true then .ok (.base 42) else .error 2 by
  unfold zG j9
  rcases hop with rfl|rfl|rfl|rfl <;> rfl)
 obtain⟨RR,hRR⟩:∃RR,RR=zG op L:=⟨_,rfl⟩
 rw [←hRR] at HR ⊢;clear hRR;have K1:=hi9 (fun w=>zbD (S:=S) (o:=42) (s:=emp) (k := .base 42) (w:=w) rfl (by decide));clear hV hn hm;rcases hop with rfl|rfl|rfl|rfl
 all_goals
  go_enter Tryz.func54,Tryz.ntmps54;go_wp2_with fail;go_loopw [34] (fun i wr=>∃j:Nat,i = .int .i64 j∧j≤n∧Hid ((L.take j).all (zj [42])=true)∧Hid (Below w.heap.size w wr)) (fun i _=>n-(intOf i).toNat)
  case atStart=>exact⟨0,rfl,Nat.zero_le _,hi9 (by simp),B0⟩
  case round =>
   obtain⟨j,rfl,hj,hA,hB⟩:=hrel;by_cases hlt:j<n
   ·have hjv:j<V.length:=by rw [←HLN.out];exact hlt
    have hjl:j<L.length:=by rw [←HLL.out];exact hjv
    obtain⟨a,rfl,q1,n1⟩:=(HS.out.keep hB.out).at hjv;have e1:V[j].P=(L[j]).flat:=by
     have:=congrArg (fun l=>l[j]?) HM.out;simpa [hjv,hjl] using this
    rw [e1] at n1;have HT:=hi9 (show(L.take (j+1)).all (zj [42])=((L.take j).all (zj [42])&& zj [42] L[j]) by rw [List.take_succ_eq_append_getElem hjl,List.all_append];simp);have HALL:=hi9 (show L.all (zj [42])=true→zj [42] L[j]=true from fun h=>List.all_eq_true.1 h _ (List.getElem_mem hjl));generalize V[j]=r at *;generalize L[j]=k at *;have N1:=hi9 n1;have bx:=zS wr (.cells #[.int .i64 42] 3);have BX:=bh hB bx;have KM:=hi9 (jr (d:=1) [42] (n1.keep bx) rfl (by decide) (jP wr 42 3));clear n1 e1 bx;by_cases g:zj [42] k=true
    ·rw [if_pos g] at KM;have HT2:=hi9 (show(L.take (j+1)).all (zj [42])=true by rw [HT.out,hA.out,g];rfl);clear HT HALL hA g;go_wp2_with fail;refine KM.out.mono ?_;rintro e w5 ⟨rfl,b5⟩;have B5:=bh BX b5;clear b5 KM BX hB;go_wp2_with fail;go_roundw
     case rel=>exact⟨j+1,by go_num,hlt,HT2,B5⟩
     case measure=>simp [intOf];omega
    ·rw [if_neg g] at KM;have HF:=hi9 (show¬L.all (zj [42])=true from fun q=>g (HALL.out q));clear HT HALL hA g;go_wp2_with fail;refine KM.out.mono ?_;rintro e w5 ⟨rfl,b5⟩;have B5:=bh BX b5;clear b5 KM BX hB;go_wp2_with fail;exact⟨rfl,by rw [HR.out,if_neg HF.out];exact jl B5.out⟩
   ·have HF:=hi9 (show L.all (zj [42])=true by have:=hA.out;rwa [List.take_of_length_le (by rw [←HLL.out,←HLN.out];omega)] at this);clear hA;go_wp2_with fail;refine(K1.out _).mono ?_;rintro e w5 ⟨b5,A5,n5,c5,rfl,hN,hl⟩;have B5:=bh hB b5;have N5:=hi9 hN;have HL:=hi9 (jY hB.out hl);clear b5 hN hB K1 hl;go_wp2_with fail;go_ret;rw [HR.out,if_pos HF.out];exact jb B5.out N5.out HL.out
theorem zqc(S:Nat→Prop)(x:Xs)(op:Int)(L:List Kd)(A:Option Addr)(n c:Nat)(V:List Sl)(w:World)(hn:n=V.length)(hn2:n≤4000)(hV:za4 w A V)(hm:V.map Sl.P=L.map Kd.flat)(hop:op=15∨op=16):
 Calls Tryz.prog 54 #[x.v,.int .i64 op,.slice A n c] w (jJ S w (zG op L)):=by
 have B0:=hi9 (za w x.o);unfold Xs.o at B0;unfold Xs.v;have HS:=hi9 hV;have HLN:=hi9 hn;have HM:=hi9 hm;have HLL:=hi9 (show V.length=L.length by have:=congrArg List.length hm;simpa using this);have HR:=hi9 (show zG op L=if L.all (zj [42])=true then .ok (.base 41) else .error 2 by
  unfold zG j9
  rcases hop with rfl|rfl <;> rfl)
 obtain⟨RR,hRR⟩:∃RR,RR=zG op L:=⟨_,rfl⟩
 rw [←hRR] at HR ⊢;clear hRR;have K1:=hi9 (fun w=>zbD (S:=S) (o:=41) (s:=emp) (k := .base 41) (w:=w) rfl (by decide));clear hV hn hm;rcases hop with rfl|rfl
 all_goals
  go_enter Tryz.func54,Tryz.ntmps54;go_wp2_with fail;go_loopw [34] (fun i wr=>∃j:Nat,i = .int .i64 j∧j≤n∧Hid ((L.take j).all (zj [42])=true)∧Hid (Below w.heap.size w wr)) (fun i _=>n-(intOf i).toNat)
  case atStart=>exact⟨0,rfl,Nat.zero_le _,hi9 (by simp),B0⟩
  case round =>
   obtain⟨j,rfl,hj,hA,hB⟩:=hrel;by_cases hlt:j<n
   ·have hjv:j<V.length:=by rw [←HLN.out];exact hlt
    have hjl:j<L.length:=by rw [←HLL.out];exact hjv
    obtain⟨a,rfl,q1,n1⟩:=(HS.out.keep hB.out).at hjv;have e1:V[j].P=(L[j]).flat:=by
     have:=congrArg (fun l=>l[j]?) HM.out;simpa [hjv,hjl] using this
    rw [e1] at n1;have HT:=hi9 (show(L.take (j+1)).all (zj [42])=((L.take j).all (zj [42])&& zj [42] L[j]) by rw [List.take_succ_eq_append_getElem hjl,List.all_append];simp);have HALL:=hi9 (show L.all (zj [42])=true→zj [42] L[j]=true from fun h=>List.all_eq_true.1 h _ (List.getElem_mem hjl));generalize V[j]=r at *;generalize L[j]=k at *;have N1:=hi9 n1;have bx:=zS wr (.cells #[.int .i64 42] 3);have BX:=bh hB bx;have KM:=hi9 (jr (d:=1) [42] (n1.keep bx) rfl (by decide) (jP wr 42 3));clear n1 e1 bx;by_cases g:zj [42] k=true
    ·rw [if_pos g] at KM;have HT2:=hi9 (show(L.take (j+1)).all (zj [42])=true by rw [HT.out,hA.out,g];rfl);clear HT HALL hA g;go_wp2_with fail;refine KM.out.mono ?_;rintro e w5 ⟨rfl,b5⟩;have B5:=bh BX b5;clear b5 KM BX hB;go_wp2_with fail;go_roundw
     case rel=>exact⟨j+1,by go_num,hlt,HT2,B5⟩
     case measure=>simp [intOf];omega
    ·rw [if_neg g] at KM;have HF:=hi9 (show¬L.all (zj [42])=true from fun q=>g (HALL.out q));clear HT HALL hA g;go_wp2_with fail;refine KM.out.mono ?_;rintro e w5 ⟨rfl,b5⟩;have B5:=bh BX b5;clear b5 KM BX hB;go_wp2_with fail;exact⟨rfl,by rw [HR.out,if_neg HF.out];exact jl B5.out⟩
   ·have HF:=hi9 (show L.all (zj [42])=true by have:=hA.out;rwa [List.take_of_length_le (by rw [←HLL.out,←HLN.out];omega)] at this);clear hA;go_wp2_with fail;refine(K1.out _).mono ?_;rintro e w5 ⟨b5,A5,n5,c5,rfl,hN,hl⟩;have B5:=bh hB b5;have N5:=hi9 hN;have HL:=hi9 (jY hB.out hl);clear b5 hN hB K1 hl;go_wp2_with fail;go_ret;rw [HR.out,if_pos HF.out];exact jb B5.out N5.out HL.out
theorem zoN(S:Nat→Prop)(x:Xs)(k0:Kd)(L:List Kd)(A:Option Addr)(n c:Nat)(V:List Sl)(w:World)(hn:n=V.length)(hn2:n≤4000)(hV:za4 w A V)(hm:V.map Sl.P=(k0 :: L).map Kd.flat):
 Calls Tryz.prog 54 #[x.v,.int .i64 23,.slice A n c] w (jJ S w (zG 23 (k0 :: L))):=by
 have B0:=hi9 (za w x.o);unfold Xs.o at B0;unfold Xs.v;have e0:V[0]?.map Sl.P=some k0.flat:=by have:=congrArg (fun l=>l[0]?) hm;simpa using this
 obtain⟨r0,hr0,hp0⟩:=Option.map_eq_some_iff.1 e0;obtain⟨a,ea,q0,n0⟩:=hV 0 r0 hr0;rw [hp0] at n0;rw [show a.add 0=a from rfl] at q0;have hv0:0<V.length:=(List.getElem?_eq_some_iff.1 hr0).1;subst ea;have hi:(0:Int)<(n:Int):=by omega
 have hn0:0<n:=by omega
 have K1:=hi9 (fun w=>zbD (S:=S) (o:=41) (s:=emp) (k := .base 41) (w:=w) rfl (by decide));have HR:=hi9 (show zG 23 (k0 :: L)=if zj [43] k0=true then .ok (.base 41) else .error 2 by simp [zG,j9]);obtain⟨RR,hRR⟩:∃RR,RR=zG 23 (k0 :: L):=⟨_,rfl⟩
 rw [←hRR] at HR ⊢;clear hRR;have bx1:=zS (w.alloc (.cells #[.slice x.s.KA x.s.kn x.s.kc,.slice x.s.AA x.s.an x.s.ac,.string x.who,.string x.what,.string x.a.d.id,.slice x.a.WA x.a.wn x.a.wc,.slice x.a.TA x.a.tn x.a.tc,.slice x.a.NA x.a.nn x.a.nc] 59)) (.cells #[.int .i64 43] 3);have BX1:=bh B0 bx1;have KM1:=hi9 (jr (d:=1) [43] ((n0.keep B0.out).keep bx1) rfl (by decide) (jP (w.alloc (.cells #[.slice x.s.KA x.s.kn x.s.kc,.slice x.s.AA x.s.an x.s.ac,.string x.who,.string x.what,.string x.a.d.id,.slice x.a.WA x.a.wn x.a.wc,.slice x.a.TA x.a.tn x.a.tc,.slice x.a.NA x.a.nn x.a.nc] 59)) 43 3));clear bx1;rw [show(w.alloc (.cells #[.slice x.s.KA x.s.kn x.s.kc,.slice x.s.AA x.s.an x.s.ac,.string x.who,.string x.what,.string x.a.d.id,.slice x.a.WA x.a.wn x.a.wc,.slice x.a.TA x.a.tn x.a.tc,.slice x.a.NA x.a.nn x.a.nc] 59)).heap.size=w.heap.size+1 from by simp [go_sem]] at KM1;replace q0:=zb B0.out q0;clear hV hm n0 hr0 hp0 e0 hv0;by_cases g:zj [43] k0=true
 ·rw [if_pos g] at KM1;have HT:=hi9 g;clear g;go_enter Tryz.func54,Tryz.ntmps54;go_wp2_with fail;refine KM1.out.mono ?_;rintro e w5 ⟨rfl,b5⟩;have B5:=bh BX1 b5;clear b5 KM1 BX1 B0 q0;go_wp2_with fail;refine(K1.out _).mono ?_;rintro e w9 ⟨b9,A9,n9,c9,rfl,hN,hl⟩;have B9:=bh B5 b9;have N9:=hi9 hN;have HL:=hi9 (jY B5.out hl);clear b9 hN B5 K1 hl;go_wp2_with fail;go_ret;rw [HR.out,if_pos HT.out];exact jb B9.out N9.out HL.out
 ·rw [if_neg g] at KM1;have HF:=hi9 g;clear g;go_enter Tryz.func54,Tryz.ntmps54;go_wp2_with fail;refine KM1.out.mono ?_;rintro e w5 ⟨rfl,b5⟩;have B5:=bh BX1 b5;clear b5 KM1 BX1 B0 q0;go_wp2_with fail;exact⟨rfl,by rw [HR.out,if_neg HF.out];exact jl B5.out⟩
theorem zrs(S:Nat→Prop)(x:Xs)(k0:Kd)(L:List Kd)(A:Option Addr)(n c:Nat)(V:List Sl)(w:World)(hn:n=V.length)(hn2:n≤4000)(hV:za4 w A V)(hm:V.map Sl.P=(k0 :: L).map Kd.flat):
 Calls Tryz.prog 54 #[x.v,.int .i64 24,.slice A n c] w (jJ S w (zG 24 (k0 :: L))):=by
 have B0:=hi9 (za w x.o);unfold Xs.o at B0;unfold Xs.v;have e0:V[0]?.map Sl.P=some k0.flat:=by have:=congrArg (fun l=>l[0]?) hm;simpa using this
 obtain⟨r0,hr0,hp0⟩:=Option.map_eq_some_iff.1 e0;obtain⟨a,ea,q0,n0⟩:=hV 0 r0 hr0;rw [hp0] at n0;rw [show a.add 0=a from rfl] at q0;have hv0:0<V.length:=(List.getElem?_eq_some_iff.1 hr0).1;subst ea;have hi:(0:Int)<(n:Int):=by omega
 have hn0:0<n:=by omega
 have K1:=hi9 (fun w=>zbD (S:=S) (o:=41) (s:=emp) (k := .base 41) (w:=w) rfl (by decide));have HR:=hi9 (show zG 24 (k0 :: L)=if zj [44] k0=true then .ok (.base 41) else .error 2 by simp [zG,j9]);obtain⟨RR,hRR⟩:∃RR,RR=zG 24 (k0 :: L):=⟨_,rfl⟩
 rw [←hRR] at HR ⊢;clear hRR;have bx1:=zS (w.alloc (.cells #[.slice x.s.KA x.s.kn x.s.kc,.slice x.s.AA x.s.an x.s.ac,.string x.who,.string x.what,.string x.a.d.id,.slice x.a.WA x.a.wn x.a.wc,.slice x.a.TA x.a.tn x.a.tc,.slice x.a.NA x.a.nn x.a.nc] 59)) (.cells #[.int .i64 44] 3);have BX1:=bh B0 bx1;have KM1:=hi9 (jr (d:=1) [44] ((n0.keep B0.out).keep bx1) rfl (by decide) (jP (w.alloc (.cells #[.slice x.s.KA x.s.kn x.s.kc,.slice x.s.AA x.s.an x.s.ac,.string x.who,.string x.what,.string x.a.d.id,.slice x.a.WA x.a.wn x.a.wc,.slice x.a.TA x.a.tn x.a.tc,.slice x.a.NA x.a.nn x.a.nc] 59)) 44 3));clear bx1;rw [show(w.alloc (.cells #[.slice x.s.KA x.s.kn x.s.kc,.slice x.s.AA x.s.an x.s.ac,.string x.who,.string x.what,.string x.a.d.id,.slice x.a.WA x.a.wn x.a.wc,.slice x.a.TA x.a.tn x.a.tc,.slice x.a.NA x.a.nn x.a.nc] 59)).heap.size=w.heap.size+1 from by simp [go_sem]] at KM1;replace q0:=zb B0.out q0;clear hV hm n0 hr0 hp0 e0 hv0;by_cases g:zj [44] k0=true
 ·rw [if_pos g] at KM1;have HT:=hi9 g;clear g;go_enter Tryz.func54,Tryz.ntmps54;go_wp2_with fail;refine KM1.out.mono ?_;rintro e w5 ⟨rfl,b5⟩;have B5:=bh BX1 b5;clear b5 KM1 BX1 B0 q0;go_wp2_with fail;refine(K1.out _).mono ?_;rintro e w9 ⟨b9,A9,n9,c9,rfl,hN,hl⟩;have B9:=bh B5 b9;have N9:=hi9 hN;have HL:=hi9 (jY B5.out hl);clear b9 hN B5 K1 hl;go_wp2_with fail;go_ret;rw [HR.out,if_pos HT.out];exact jb B9.out N9.out HL.out
 ·rw [if_neg g] at KM1;have HF:=hi9 g;clear g;go_enter Tryz.func54,Tryz.ntmps54;go_wp2_with fail;refine KM1.out.mono ?_;rintro e w5 ⟨rfl,b5⟩;have B5:=bh BX1 b5;clear b5 KM1 BX1 B0 q0;go_wp2_with fail;exact⟨rfl,by rw [HR.out,if_neg HF.out];exact jl B5.out⟩
theorem zpw(S:Nat→Prop)(x:Xs)(k0:Kd)(L:List Kd)(A:Option Addr)(n c:Nat)(V:List Sl)(w:World)(hn:n=V.length)(hn2:n≤4000)(hV:za4 w A V)(hm:V.map Sl.P=(k0 :: L).map Kd.flat):
 Calls Tryz.prog 54 #[x.v,.int .i64 21,.slice A n c] w (jJ S w (zG 21 (k0 :: L))):=by
 have B0:=hi9 (za w x.o);unfold Xs.o at B0;unfold Xs.v;have e0:V[0]?.map Sl.P=some k0.flat:=by have:=congrArg (fun l=>l[0]?) hm;simpa using this
 obtain⟨r0,hr0,hp0⟩:=Option.map_eq_some_iff.1 e0;obtain⟨a,ea,q0,n0⟩:=hV 0 r0 hr0;rw [hp0] at n0;rw [show a.add 0=a from rfl] at q0;have hv0:0<V.length:=(List.getElem?_eq_some_iff.1 hr0).1;subst ea;have hi:(0:Int)<(n:Int):=by omega
 have hn0:0<n:=by omega
 have K1:=hi9 (fun w=>zbD (S:=S) (o:=41) (s:=emp) (k := .base 41) (w:=w) rfl (by decide));have HR:=hi9 (show zG 21 (k0 :: L)=if zj [46,44] k0=true then .ok (.base 41) else .error 2 by simp [zG,j9]);obtain⟨RR,hRR⟩:∃RR,RR=zG 21 (k0 :: L):=⟨_,rfl⟩
 rw [←hRR] at HR ⊢;clear hRR;have bx1:=zS (w.alloc (.cells #[.slice x.s.KA x.s.kn x.s.kc,.slice x.s.AA x.s.an x.s.ac,.string x.who,.string x.what,.string x.a.d.id,.slice x.a.WA x.a.wn x.a.wc,.slice x.a.TA x.a.tn x.a.tc,.slice x.a.NA x.a.nn x.a.nc] 59)) (.cells #[.int .i64 46,.int .i64 44] 3);have BX1:=bh B0 bx1;have KM1:=hi9 (jr (d:=2) [46,44] ((n0.keep B0.out).keep bx1) rfl (by decide) (zkb (w.alloc (.cells #[.slice x.s.KA x.s.kn x.s.kc,.slice x.s.AA x.s.an x.s.ac,.string x.who,.string x.what,.string x.a.d.id,.slice x.a.WA x.a.wn x.a.wc,.slice x.a.TA x.a.tn x.a.tc,.slice x.a.NA x.a.nn x.a.nc] 59)) 46 44 3));clear bx1;rw [show(w.alloc (.cells #[.slice x.s.KA x.s.kn x.s.kc,.slice x.s.AA x.s.an x.s.ac,.string x.who,.string x.what,.string x.a.d.id,.slice x.a.WA x.a.wn x.a.wc,.slice x.a.TA x.a.tn x.a.tc,.slice x.a.NA x.a.nn x.a.nc] 59)).heap.size=w.heap.size+1 from by simp [go_sem]] at KM1;replace q0:=zb B0.out q0;clear hV hm n0 hr0 hp0 e0 hv0;by_cases g:zj [46,44] k0=true
 ·rw [if_pos g] at KM1;have HT:=hi9 g;clear g;go_enter Tryz.func54,Tryz.ntmps54;go_wp2_with fail;refine KM1.out.mono ?_;rintro e w5 ⟨rfl,b5⟩;have B5:=bh BX1 b5;clear b5 KM1 BX1 B0 q0;go_wp2_with fail;refine(K1.out _).mono ?_;rintro e w9 ⟨b9,A9,n9,c9,rfl,hN,hl⟩;have B9:=bh B5 b9;have N9:=hi9 hN;have HL:=hi9 (jY B5.out hl);clear b9 hN B5 K1 hl;go_wp2_with fail;go_ret;rw [HR.out,if_pos HT.out];exact jb B9.out N9.out HL.out
 ·rw [if_neg g] at KM1;have HF:=hi9 g;clear g;go_enter Tryz.func54,Tryz.ntmps54;go_wp2_with fail;refine KM1.out.mono ?_;rintro e w5 ⟨rfl,b5⟩;have B5:=bh BX1 b5;clear b5 KM1 BX1 B0 q0;go_wp2_with fail;exact⟨rfl,by rw [HR.out,if_neg HF.out];exact jl B5.out⟩
theorem zq5(S:Nat→Prop)(x:Xs)(k0:Kd)(L:List Kd)(A:Option Addr)(n c:Nat)(V:List Sl)(w:World)(hn:n=V.length)(hn2:n≤4000)(hV:za4 w A V)(hm:V.map Sl.P=(k0 :: L).map Kd.flat):
 Calls Tryz.prog 54 #[x.v,.int .i64 25,.slice A n c] w (jJ S w (zG 25 (k0 :: L))):=by
 have B0:=hi9 (za w x.o);unfold Xs.o at B0;unfold Xs.v;have e0:V[0]?.map Sl.P=some k0.flat:=by have:=congrArg (fun l=>l[0]?) hm;simpa using this
 obtain⟨r0,hr0,hp0⟩:=Option.map_eq_some_iff.1 e0;obtain⟨a,ea,q0,n0⟩:=hV 0 r0 hr0;rw [hp0] at n0;rw [show a.add 0=a from rfl] at q0;have hv0:0<V.length:=(List.getElem?_eq_some_iff.1 hr0).1;subst ea;have hi:(0:Int)<(n:Int):=by omega
 have hn0:0<n:=by omega
 have K1:=hi9 (fun w=>zbD (S:=S) (o:=41) (s:=emp) (k := .base 41) (w:=w) rfl (by decide));have HR:=hi9 (show zG 25 (k0 :: L)=if zj [45] k0=true then .ok (.base 41) else .error 2 by simp [zG,j9]);obtain⟨RR,hRR⟩:∃RR,RR=zG 25 (k0 :: L):=⟨_,rfl⟩
 rw [←hRR] at HR ⊢;clear hRR;have bx1:=zS (w.alloc (.cells #[.slice x.s.KA x.s.kn x.s.kc,.slice x.s.AA x.s.an x.s.ac,.string x.who,.string x.what,.string x.a.d.id,.slice x.a.WA x.a.wn x.a.wc,.slice x.a.TA x.a.tn x.a.tc,.slice x.a.NA x.a.nn x.a.nc] 59)) (.cells #[.int .i64 45] 3);have BX1:=bh B0 bx1;have KM1:=hi9 (jr (d:=1) [45] ((n0.keep B0.out).keep bx1) rfl (by decide) (jP (w.alloc (.cells #[.slice x.s.KA x.s.kn x.s.kc,.slice x.s.AA x.s.an x.s.ac,.string x.who,.string x.what,.string x.a.d.id,.slice x.a.WA x.a.wn x.a.wc,.slice x.a.TA x.a.tn x.a.tc,.slice x.a.NA x.a.nn x.a.nc] 59)) 45 3));clear bx1;rw [show(w.alloc (.cells #[.slice x.s.KA x.s.kn x.s.kc,.slice x.s.AA x.s.an x.s.ac,.string x.who,.string x.what,.string x.a.d.id,.slice x.a.WA x.a.wn x.a.wc,.slice x.a.TA x.a.tn x.a.tc,.slice x.a.NA x.a.nn x.a.nc] 59)).heap.size=w.heap.size+1 from by simp [go_sem]] at KM1;replace q0:=zb B0.out q0;clear hV hm n0 hr0 hp0 e0 hv0;by_cases g:zj [45] k0=true
 ·rw [if_pos g] at KM1;have HT:=hi9 g;clear g;go_enter Tryz.func54,Tryz.ntmps54;go_wp2_with fail;refine KM1.out.mono ?_;rintro e w5 ⟨rfl,b5⟩;have B5:=bh BX1 b5;clear b5 KM1 BX1 B0 q0;go_wp2_with fail;refine(K1.out _).mono ?_;rintro e w9 ⟨b9,A9,n9,c9,rfl,hN,hl⟩;have B9:=bh B5 b9;have N9:=hi9 hN;have HL:=hi9 (jY B5.out hl);clear b9 hN B5 K1 hl;go_wp2_with fail;go_ret;rw [HR.out,if_pos HT.out];exact jb B9.out N9.out HL.out
 ·rw [if_neg g] at KM1;have HF:=hi9 g;clear g;go_enter Tryz.func54,Tryz.ntmps54;go_wp2_with fail;refine KM1.out.mono ?_;rintro e w5 ⟨rfl,b5⟩;have B5:=bh BX1 b5;clear b5 KM1 BX1 B0 q0;go_wp2_with fail;exact⟨rfl,by rw [HR.out,if_neg HF.out];exact jl B5.out⟩
theorem zpM(S:Nat→Prop)(x:Xs)(k0 k1:Kd)(A:Option Addr)(n c:Nat)(V:List Sl)(w:World)(hn:n=V.length)(hn2:n≤4000)(hV:za4 w A V)(hm:V.map Sl.P = [k0,k1].map Kd.flat):
 Calls Tryz.prog 54 #[x.v,.int .i64 26,.slice A n c] w (jJ S w (zG 26 [k0,k1])):=by
 have B0:=hi9 (za w x.o);unfold Xs.o at B0;unfold Xs.v;have e0:V[0]?.map Sl.P=some k0.flat:=by have:=congrArg (fun l=>l[0]?) hm;simpa using this
 obtain⟨r0,hr0,hp0⟩:=Option.map_eq_some_iff.1 e0;obtain⟨a,ea,q0,n0⟩:=hV 0 r0 hr0;rw [hp0] at n0;rw [show a.add 0=a from rfl] at q0;have hv0:0<V.length:=(List.getElem?_eq_some_iff.1 hr0).1;have e1:V[1]?.map Sl.P=some k1.flat:=by have:=congrArg (fun l=>l[1]?) hm;simpa using this
 obtain⟨r1,hr1,hp1⟩:=Option.map_eq_some_iff.1 e1;obtain⟨a',ea',q1,n1⟩:=hV 1 r1 hr1;rw [hp1] at n1;obtain rfl:a=a':=Option.some.inj (ea.symm.trans ea');have hv1:1<V.length:=(List.getElem?_eq_some_iff.1 hr1).1;have q1':w.cell? ⟨a.block,a.off+1,none⟩=some (.slice r1.A r1.n r1.c):=q1;have hi1:(1:Int)<(n:Int):=by omega
 subst ea;have hi:(0:Int)<(n:Int):=by omega
 have hn0:0<n:=by omega
 have K1:=hi9 (fun w=>zbD (S:=S) (o:=41) (s:=emp) (k := .base 41) (w:=w) rfl (by decide));have HR:=hi9 (show zG 26 [k0,k1]=if(zj [45] k0 && zj [45] k1)=true then .ok (.base 41) else .error 2 by simp [zG,j9]);obtain⟨RR,hRR⟩:∃RR,RR=zG 26 [k0,k1]:=⟨_,rfl⟩
 rw [←hRR] at HR ⊢;clear hRR;have bx1:=zS (w.alloc (.cells #[.slice x.s.KA x.s.kn x.s.kc,.slice x.s.AA x.s.an x.s.ac,.string x.who,.string x.what,.string x.a.d.id,.slice x.a.WA x.a.wn x.a.wc,.slice x.a.TA x.a.tn x.a.tc,.slice x.a.NA x.a.nn x.a.nc] 59)) (.cells #[.int .i64 45] 3);have BX1:=bh B0 bx1;have KM1:=hi9 (jr (d:=1) [45] ((n0.keep B0.out).keep bx1) rfl (by decide) (jP (w.alloc (.cells #[.slice x.s.KA x.s.kn x.s.kc,.slice x.s.AA x.s.an x.s.ac,.string x.who,.string x.what,.string x.a.d.id,.slice x.a.WA x.a.wn x.a.wc,.slice x.a.TA x.a.tn x.a.tc,.slice x.a.NA x.a.nn x.a.nc] 59)) 45 3));clear bx1;rw [show(w.alloc (.cells #[.slice x.s.KA x.s.kn x.s.kc,.slice x.s.AA x.s.an x.s.ac,.string x.who,.string x.what,.string x.a.d.id,.slice x.a.WA x.a.wn x.a.wc,.slice x.a.TA x.a.tn x.a.tc,.slice x.a.NA x.a.nn x.a.nc] 59)).heap.size=w.heap.size+1 from by simp [go_sem]] at KM1;replace q0:=zb B0.out q0;have N1:=hi9 (n1.keep B0.out);have Q1:=hi9 (zb B0.out q1');clear hV hm n0 hr0 hp0 e0 hv0 n1 hr1 hp1 e1 q1 q1' ea';by_cases g:zj [45] k0=true
 ·rw [if_pos g] at KM1;have G:=hi9 g;clear g;go_enter Tryz.func54,Tryz.ntmps54;go_wp2_with fail;refine KM1.out.mono ?_;rintro e w5 ⟨rfl,b5⟩;have B5:=bh BX1 b5;have q1:=zb b5 (zb (zS _ _) Q1.out);have N5:=hi9 ((N1.out.keep (zS _ _)).keep b5);clear b5 N1 Q1 KM1 BX1 B0 q0;have bx2:=zS w5 (.cells #[.int .i64 45] 3);have BX2:=bh B5 bx2;have KM2:=hi9 (jr (d:=1) [45] (N5.out.keep bx2) rfl (by decide) (jP w5 45 3));clear bx2;by_cases g2:zj [45] k1=true
  ·rw [if_pos g2] at KM2;have HT:=hi9 (show(zj [45] k0 && zj [45] k1)=true by rw [G.out,g2];rfl);clear g2 G;go_wp2_with fail;refine KM2.out.mono ?_;rintro e w6 ⟨rfl,b6⟩;have B6:=bh BX2 b6;clear b6 KM2 BX2 B5 q1;go_wp2_with fail;refine(K1.out _).mono ?_;rintro e w9 ⟨b9,A9,n9,c9,rfl,hN,hl⟩;have B9:=bh B6 b9;have N9:=hi9 hN;have HL:=hi9 (jY B6.out hl);clear b9 hN B6 K1 hl;go_wp2_with fail;go_ret;rw [HR.out,if_pos HT.out];exact jb B9.out N9.out HL.out
  ·rw [if_neg g2] at KM2;have HF:=hi9 (show¬(zj [45] k0 && zj [45] k1)=true from fun q=>g2 (by rw [Bool.and_eq_true] at q;exact q.2));clear g2 G;go_wp2_with fail;refine KM2.out.mono ?_;rintro e w6 ⟨rfl,b6⟩;have B6:=bh BX2 b6;clear b6 KM2 BX2 B5 q1;go_wp2_with fail;exact⟨rfl,by rw [HR.out,if_neg HF.out];exact jl B6.out⟩
 ·rw [if_neg g] at KM1;have HF:=hi9 (show¬(zj [45] k0 && zj [45] k1)=true from fun q=>g (by rw [Bool.and_eq_true] at q;exact q.1));clear g;go_enter Tryz.func54,Tryz.ntmps54;go_wp2_with fail;refine KM1.out.mono ?_;rintro e w5 ⟨rfl,b5⟩;have B5:=bh BX1 b5;clear b5 KM1 BX1 B0 q0;go_wp2_with fail;exact⟨rfl,by rw [HR.out,if_neg HF.out];exact jl B5.out⟩
theorem zqn(S:Nat→Prop)(x:Xs)(k0 k1:Kd)(A:Option Addr)(n c:Nat)(V:List Sl)(w:World)(hn:n=V.length)(hn2:n≤4000)(hV:za4 w A V)(hm:V.map Sl.P = [k0,k1].map Kd.flat):
 Calls Tryz.prog 54 #[x.v,.int .i64 27,.slice A n c] w (jJ S w (zG 27 [k0,k1])):=by
 have B0:=hi9 (za w x.o);unfold Xs.o at B0;unfold Xs.v;have e0:V[0]?.map Sl.P=some k0.flat:=by have:=congrArg (fun l=>l[0]?) hm;simpa using this
 obtain⟨r0,hr0,hp0⟩:=Option.map_eq_some_iff.1 e0;obtain⟨a,ea,q0,n0⟩:=hV 0 r0 hr0;rw [hp0] at n0;rw [show a.add 0=a from rfl] at q0;have hv0:0<V.length:=(List.getElem?_eq_some_iff.1 hr0).1;have e1:V[1]?.map Sl.P=some k1.flat:=by have:=congrArg (fun l=>l[1]?) hm;simpa using this
 obtain⟨r1,hr1,hp1⟩:=Option.map_eq_some_iff.1 e1;obtain⟨a',ea',q1,n1⟩:=hV 1 r1 hr1;rw [hp1] at n1;obtain rfl:a=a':=Option.some.inj (ea.symm.trans ea');have hv1:1<V.length:=(List.getElem?_eq_some_iff.1 hr1).1;have q1':w.cell? ⟨a.block,a.off+1,none⟩=some (.slice r1.A r1.n r1.c):=q1;have hi1:(1:Int)<(n:Int):=by omega
 subst ea;have hi:(0:Int)<(n:Int):=by omega
 have hn0:0<n:=by omega
 have K1:=hi9 (fun w=>zbD (S:=S) (o:=41) (s:=emp) (k := .base 41) (w:=w) rfl (by decide));have HR:=hi9 (show zG 27 [k0,k1]=if(zj [45] k0 && zj [45] k1)=true then .ok (.base 41) else .error 2 by simp [zG,j9]);obtain⟨RR,hRR⟩:∃RR,RR=zG 27 [k0,k1]:=⟨_,rfl⟩
 rw [←hRR] at HR ⊢;clear hRR;have bx1:=zS (w.alloc (.cells #[.slice x.s.KA x.s.kn x.s.kc,.slice x.s.AA x.s.an x.s.ac,.string x.who,.string x.what,.string x.a.d.id,.slice x.a.WA x.a.wn x.a.wc,.slice x.a.TA x.a.tn x.a.tc,.slice x.a.NA x.a.nn x.a.nc] 59)) (.cells #[.int .i64 45] 3);have BX1:=bh B0 bx1;have KM1:=hi9 (jr (d:=1) [45] ((n0.keep B0.out).keep bx1) rfl (by decide) (jP (w.alloc (.cells #[.slice x.s.KA x.s.kn x.s.kc,.slice x.s.AA x.s.an x.s.ac,.string x.who,.string x.what,.string x.a.d.id,.slice x.a.WA x.a.wn x.a.wc,.slice x.a.TA x.a.tn x.a.tc,.slice x.a.NA x.a.nn x.a.nc] 59)) 45 3));clear bx1;rw [show(w.alloc (.cells #[.slice x.s.KA x.s.kn x.s.kc,.slice x.s.AA x.s.an x.s.ac,.string x.who,.string x.what,.string x.a.d.id,.slice x.a.WA x.a.wn x.a.wc,.slice x.a.TA x.a.tn x.a.tc,.slice x.a.NA x.a.nn x.a.nc] 59)).heap.size=w.heap.size+1 from by simp [go_sem]] at KM1;replace q0:=zb B0.out q0;have N1:=hi9 (n1.keep B0.out);have Q1:=hi9 (zb B0.out q1');clear hV hm n0 hr0 hp0 e0 hv0 n1 hr1 hp1 e1 q1 q1' ea';by_cases g:zj [45] k0=true
 ·rw [if_pos g] at KM1;have G:=hi9 g;clear g;go_enter Tryz.func54,Tryz.ntmps54;go_wp2_with fail;refine KM1.out.mono ?_;rintro e w5 ⟨rfl,b5⟩;have B5:=bh BX1 b5;have q1:=zb b5 (zb (zS _ _) Q1.out);have N5:=hi9 ((N1.out.keep (zS _ _)).keep b5);clear b5 N1 Q1 KM1 BX1 B0 q0;have bx2:=zS w5 (.cells #[.int .i64 45] 3);have BX2:=bh B5 bx2;have KM2:=hi9 (jr (d:=1) [45] (N5.out.keep bx2) rfl (by decide) (jP w5 45 3));clear bx2;by_cases g2:zj [45] k1=true
  ·rw [if_pos g2] at KM2;have HT:=hi9 (show(zj [45] k0 && zj [45] k1)=true by rw [G.out,g2];rfl);clear g2 G;go_wp2_with fail;refine KM2.out.mono ?_;rintro e w6 ⟨rfl,b6⟩;have B6:=bh BX2 b6;clear b6 KM2 BX2 B5 q1;go_wp2_with fail;refine(K1.out _).mono ?_;rintro e w9 ⟨b9,A9,n9,c9,rfl,hN,hl⟩;have B9:=bh B6 b9;have N9:=hi9 hN;have HL:=hi9 (jY B6.out hl);clear b9 hN B6 K1 hl;go_wp2_with fail;go_ret;rw [HR.out,if_pos HT.out];exact jb B9.out N9.out HL.out
  ·rw [if_neg g2] at KM2;have HF:=hi9 (show¬(zj [45] k0 && zj [45] k1)=true from fun q=>g2 (by rw [Bool.and_eq_true] at q;exact q.2));clear g2 G;go_wp2_with fail;refine KM2.out.mono ?_;rintro e w6 ⟨rfl,b6⟩;have B6:=bh BX2 b6;clear b6 KM2 BX2 B5 q1;go_wp2_with fail;exact⟨rfl,by rw [HR.out,if_neg HF.out];exact jl B6.out⟩
 ·rw [if_neg g] at KM1;have HF:=hi9 (show¬(zj [45] k0 && zj [45] k1)=true from fun q=>g (by rw [Bool.and_eq_true] at q;exact q.1));clear g;go_enter Tryz.func54,Tryz.ntmps54;go_wp2_with fail;refine KM1.out.mono ?_;rintro e w5 ⟨rfl,b5⟩;have B5:=bh BX1 b5;clear b5 KM1 BX1 B0 q0;go_wp2_with fail;exact⟨rfl,by rw [HR.out,if_neg HF.out];exact jl B5.out⟩
theorem zrW(S:Nat→Prop)(x:Xs)(L:List Kd)(A:Option Addr)(n c:Nat)(w:World):
 Calls Tryz.prog 54 #[x.v,.int .i64 14,.slice A n c] w (jJ S w (zG 14 L)):=by
 have B0:=hi9 (za w x.o);unfold Xs.o at B0;unfold Xs.v;rw [show zG 14 L = .ok (.base 41) from rfl];have K1:=hi9 (fun w=>zbD (S:=S) (o:=41) (s:=emp) (k := .base 41) (w:=w) rfl (by decide));go_enter Tryz.func54,Tryz.ntmps54;go_wp2_with fail;refine(K1.out _).mono ?_;rintro e w9 ⟨b9,A9,n9,c9,rfl,hN,hl⟩;have B9:=bh B0 b9;have N9:=hi9 hN;have HL:=hi9 (jY B0.out hl);clear b9 hN B0 K1 hl;go_wp2_with fail;go_ret;exact jb B9.out N9.out HL.out
theorem zqQ(k:Kd)(h:∀p,k≠ .set p)(hb:∀x,k = .base x→x≠45):zj [44,45] k=zj [44] k:=by
 cases k with
 | base x =>
  have hx:=hb x rfl
  rw [Bool.eq_iff_iff,zfs,zfs]
  simp only [kOp,List.contains_cons,List.contains_nil,Bool.or_false,Bool.or_eq_true,beq_iff_eq]
  constructor
  ·rintro (q|q|q)
   ·exact .inl q
   ·exact .inr q
   ·exact absurd q hx
  ·rintro (q|q)
   ·exact .inl q
   ·exact .inr (.inl q)
 | ent s=>rfl
 | set p=>exact absurd rfl (h p)
 | fs f=>rfl
theorem zom(k:Kd)(h:∀p,k≠ .set p):zbd k=zj [44] k:=by
 cases k with
 | base x=>rfl
 | ent s=>rfl
 | set p=>exact absurd rfl (h p)
 | fs f=>rfl
theorem zrJ(k:Kd)(h:∀p,k≠ .set p)(hb:∀x,k = .base x→x≠45):kOp k≠45:=by
 cases k with
 | base x=>exact hb x rfl
 | ent s=>show(44:Int)≠45;decide
 | set p=>exact absurd rfl (h p)
 | fs f=>show(46:Int)≠45;decide
theorem zrx(S:Nat→Prop)(x:Xs)(k0 k1:Kd)(A:Option Addr)(n c:Nat)(V:List Sl)(w:World)(hn:n=V.length)(hn2:n≤4000)(hV:za4 w A V)(hm:V.map Sl.P = [k0,k1].map Kd.flat)(hb:∀x,k1 = .base x→x≠45):
 Calls Tryz.prog 54 #[x.v,.int .i64 20,.slice A n c] w (jJ S w (zG 20 [k0,k1])):=by
 have B0:=hi9 (za w x.o);unfold Xs.o at B0;unfold Xs.v;have e0:V[0]?.map Sl.P=some k0.flat:=by have:=congrArg (fun l=>l[0]?) hm;simpa using this
 obtain⟨r0,hr0,hp0⟩:=Option.map_eq_some_iff.1 e0;obtain⟨a,ea,q0,n0⟩:=hV 0 r0 hr0;rw [hp0] at n0;rw [show a.add 0=a from rfl] at q0;have hv0:0<V.length:=(List.getElem?_eq_some_iff.1 hr0).1;have e1:V[1]?.map Sl.P=some k1.flat:=by have:=congrArg (fun l=>l[1]?) hm;simpa using this
 obtain⟨r1,hr1,hp1⟩:=Option.map_eq_some_iff.1 e1;obtain⟨a',ea',q1,n1⟩:=hV 1 r1 hr1;rw [hp1] at n1;obtain rfl:a=a':=Option.some.inj (ea.symm.trans ea');have hv1:1<V.length:=(List.getElem?_eq_some_iff.1 hr1).1;have q1':w.cell? ⟨a.block,a.off+1,none⟩=some (.slice r1.A r1.n r1.c):=q1;have hi1:(1:Int)<(n:Int):=by omega
 subst ea;have hi:(0:Int)<(n:Int):=by omega
 have hn0:0<n:=by omega
 have K1:=hi9 (fun w=>zbD (S:=S) (o:=41) (s:=emp) (k := .base 41) (w:=w) rfl (by decide));have HR:=hi9 (show zG 20 [k0,k1]=if(zj [44] k0 && zbd k1)=true then .ok (.base 41) else .error 2 by simp [zG,j9]);obtain⟨RR,hRR⟩:∃RR,RR=zG 20 [k0,k1]:=⟨_,rfl⟩
 rw [←hRR] at HR ⊢;clear hRR;have bx1:=zS (w.alloc (.cells #[.slice x.s.KA x.s.kn x.s.kc,.slice x.s.AA x.s.an x.s.ac,.string x.who,.string x.what,.string x.a.d.id,.slice x.a.WA x.a.wn x.a.wc,.slice x.a.TA x.a.tn x.a.tc,.slice x.a.NA x.a.nn x.a.nc] 59)) (.cells #[.int .i64 44] 3);have BX1:=bh B0 bx1;have KM1:=hi9 (jr (d:=1) [44] ((n0.keep B0.out).keep bx1) rfl (by decide) (jP (w.alloc (.cells #[.slice x.s.KA x.s.kn x.s.kc,.slice x.s.AA x.s.an x.s.ac,.string x.who,.string x.what,.string x.a.d.id,.slice x.a.WA x.a.wn x.a.wc,.slice x.a.TA x.a.tn x.a.tc,.slice x.a.NA x.a.nn x.a.nc] 59)) 44 3));clear bx1;rw [show(w.alloc (.cells #[.slice x.s.KA x.s.kn x.s.kc,.slice x.s.AA x.s.an x.s.ac,.string x.who,.string x.what,.string x.a.d.id,.slice x.a.WA x.a.wn x.a.wc,.slice x.a.TA x.a.tn x.a.tc,.slice x.a.NA x.a.nn x.a.nc] 59)).heap.size=w.heap.size+1 from by simp [go_sem]] at KM1;replace q0:=zb B0.out q0;have N1:=hi9 (n1.keep B0.out);have Q1:=hi9 (zb B0.out q1');clear hV hm n0 hr0 hp0 e0 hv0 n1 hr1 hp1 e1 q1 q1' ea';by_cases g:zj [44] k0=true
 ·rw [if_pos g] at KM1;have G:=hi9 g;clear g;go_enter Tryz.func54,Tryz.ntmps54;go_wp2_with fail;refine KM1.out.mono ?_;rintro e w5 ⟨rfl,b5⟩;have B5:=bh BX1 b5;have Q5:=hi9 (zb b5 (zb (zS _ _) Q1.out));have q1:=Q5.out;have N5:=hi9 ((N1.out.keep (zS _ _)).keep b5);clear b5 N1 Q1 KM1 BX1 B0 q0;have bx2:=zS w5 (.cells #[.int .i64 44,.int .i64 45] 3);have BX2:=bh B5 bx2;have KM2:=hi9 (jr (d:=2) [44,45] (N5.out.keep bx2) rfl (by decide) (zkb w5 44 45 3));clear bx2;by_cases hs:∃p,k1 = .set p
  ·obtain⟨p,rfl⟩:=hs;rw [show zj [44,45] (.set p)=true from rfl,if_pos rfl] at KM2;clear hb;go_wp2_with fail;refine KM2.out.mono ?_;rintro e w6 ⟨rfl,b6⟩;have B6:=bh BX2 b6;have q9:=zb b6 (zb (zS _ _) Q5.out);have N6:=hi9 ((N5.out.keep (zS _ _)).keep b6);clear b6 N5 Q5 KM2 BX2 B5 q1;have NS:=N6.out;obtain⟨a1,ea1,d0,-,-,-⟩:=NS.at_ 0 ⟨45,0,emp,emp⟩ rfl;rw [show a1.add (0*4)=a1 from rfl] at d0;rw [ea1] at q9 NS;have NT:=zfR NS;have hr1n:(0:Int)<(r1.n:Int):=by rw [N6.out.len];simp [Kd.flat]
   have hrc:=N6.out.cap;have hrm:=N6.out.max;unfold maxLen at hrm;have hr1n2:2≤r1.n:=by rw [N6.out.len,Kd.flat,List.length_cons];have:=jL p;omega
   have bx3:=zS w6 (.cells #[.int .i64 44] 3);have BX3:=bh B6 bx3;have KM3:=hi9 (jr (d:=1) [44] (NT.keep bx3) rfl (by decide) (jP w6 44 3));clear NS NT bx3 N6 ea1;by_cases g2:zj [44] p=true
   ·rw [if_pos g2] at KM3;have HT:=hi9 (show(zj [44] k0 && zbd (.set p))=true by rw [G.out,show zbd (.set p)=zj [44] p from rfl,g2];rfl);clear g2 G;go_wp2_with fail;refine KM3.out.mono ?_;rintro e w7 ⟨rfl,b7⟩;have B7:=bh BX3 b7;clear b7 KM3 BX3 B6 q9 d0;go_wp2_with fail;refine(K1.out _).mono ?_;rintro e w9 ⟨b9,A9,n9,c9,rfl,hN,hl⟩;have B9:=bh B7 b9;have N9:=hi9 hN;have HL:=hi9 (jY B7.out hl);clear b9 hN B7 K1 hl;go_wp2_with fail;go_ret;rw [HR.out,if_pos HT.out];exact jb B9.out N9.out HL.out
   ·rw [if_neg g2] at KM3;have HF:=hi9 (show¬(zj [44] k0 && zbd (.set p))=true from fun q=>g2 (by rw [Bool.and_eq_true] at q;exact q.2));clear g2 G;go_wp2_with fail;refine KM3.out.mono ?_;rintro e w7 ⟨rfl,b7⟩;have B7:=bh BX3 b7;clear b7 KM3 BX3 B6 q9 d0;go_wp2_with fail;exact⟨rfl,by rw [HR.out,if_neg HF.out];exact jl B7.out⟩
  ·replace hs:∀p,k1≠ .set p:=fun p e=>hs ⟨p,e⟩;have hk:=zqQ k1 hs hb;have hin:=zom k1 hs;obtain⟨y,ry,ey,hy⟩:=zmx k1;have hy45:y.op≠45:=by rw [hy];exact zrJ k1 hs hb
   rw [hk] at KM2;by_cases g2:zj [44] k1=true
   ·rw [if_pos g2] at KM2;have HT:=hi9 (show(zj [44] k0 && zbd k1)=true by rw [G.out,hin,g2];rfl);rw [ey] at N5;clear g2 G hk hin hs hb;go_wp2_with fail;refine KM2.out.mono ?_;rintro e w6 ⟨rfl,b6⟩;have B6:=bh BX2 b6;have q9:=zb b6 (zb (zS _ _) Q5.out);have N6:=hi9 ((N5.out.keep (zS _ _)).keep b6);clear b6 N5 Q5 KM2 BX2 B5 q1;obtain⟨a1,ea1,d0,-,-,-⟩:=N6.out.at_ 0 y rfl;rw [show a1.add (0*4)=a1 from rfl] at d0;rw [ea1] at q9;have hr1n:(0:Int)<(r1.n:Int):=by rw [N6.out.len];simp
    have f45:(y.op==45)=false:=beq_eq_false_iff_ne.2 hy45;clear hy45 hy ey N6;generalize y.op=yo at *;go_wp2_with fail;refine(K1.out _).mono ?_;rintro e w9 ⟨b9,A9,n9,c9,rfl,hN,hl⟩;have B9:=bh B6 b9;have N9:=hi9 hN;have HL:=hi9 (jY B6.out hl);clear b9 hN B6 K1 hl;go_wp2_with fail;go_ret;rw [HR.out,if_pos HT.out];exact jb B9.out N9.out HL.out
   ·rw [if_neg g2] at KM2;have HF:=hi9 (show¬(zj [44] k0 && zbd k1)=true from fun q=>g2 (by rw [Bool.and_eq_true,hin] at q;exact q.2));clear g2 G hk hin hs hb;go_wp2_with fail;refine KM2.out.mono ?_;rintro e w6 ⟨rfl,b6⟩;have B6:=bh BX2 b6;clear b6 KM2 BX2 B5 q1;go_wp2_with fail;exact⟨rfl,by rw [HR.out,if_neg HF.out];exact jl B6.out⟩
 ·rw [if_neg g] at KM1;have HF:=hi9 (show¬(zj [44] k0 && zbd k1)=true from fun q=>g (by rw [Bool.and_eq_true] at q;exact q.1));clear g;go_enter Tryz.func54,Tryz.ntmps54;go_wp2_with fail;refine KM1.out.mono ?_;rintro e w5 ⟨rfl,b5⟩;have B5:=bh BX1 b5;clear b5 KM1 BX1 B0 q0;go_wp2_with fail;exact⟨rfl,by rw [HR.out,if_neg HF.out];exact jl B5.out⟩
end Go.Proofs.YtjcdeikbghjpkaaGreatDoor
