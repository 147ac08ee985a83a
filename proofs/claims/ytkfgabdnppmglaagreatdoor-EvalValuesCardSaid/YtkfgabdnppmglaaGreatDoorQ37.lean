/-
  eval.next: the value of the expression at the place. (gen_evnext.py) eval.next: a node with two parts; all of it. (gen_evnext.py) eval.Value's deferred ..
-/
import Derived.Test.YtkfgabdnppmglaaGreatDoorQ19
import Derived.Test.YtkfgabdnppmglaaGreatDoorQ33
import Derived.Test.YtkfgabdnppmglaaGreatDoorQ35
import Derived.Test.YtkfgabdnppmglaaGreatDoorQ36
set_option maxRecDepth 100000
set_option maxHeartbeats 8000000
namespace Go.Proofs.YtkfgabdnppmglaaGreatDoor
open Go.RowKit Go.Wk Go.Sort
theorem zdH{W w w1 w2:World}{R:Nat}{k:Cx}{q:Int}{r:Res}{e:Ending}(h:jh W w1 R k q r e w2)(G:w.grownBy w1 (some R)):jh W w R k q r e w2:=by
 refine⟨zk G h.1,?_⟩
 cases r with
 | error x=>exact h.2
 | ok V =>
  obtain⟨⟨A,n,c,he,hN,hF⟩,hE⟩:=h.2
  exact⟨⟨A,n,c,he,hN,fun a ha=>(hF a ha).imp id (fun z=>Nat.le_trans G.size z)⟩,hE⟩
theorem zma{W:World}{R N:Nat}{k:Cx}(ih:zdC W R k N){w:World}{p:Nat}(h:jb W w R k (p:Int))(n:Nd)(ps:Exs)(hx:XAt k.P p false (.node n ps))(hN:(Ex.node n ps).flat.length≤N+1)(hop:n.op=11∨n.op=12)(hp:zH n=2):
 Calls Tryz.prog 18 #[.pointer (some ⟨R,0,none⟩)] w (jh W w R k ((p+(Ex.node n ps).flat.length:Nat):Int) (evX k.env (.node n ps))):=by
 obtain⟨b1,b2,rfl,x1,x2,hfl⟩:=hx.two hp (zg9 (by omega));have ways:n.op=11∨n.op=12:=hop;have HR:=hi9 (show evX k.env (.node n (.cons b1 (.cons b2 .nil)))=ja k.env (decide (n.op=12)) (.cons b1 (.cons b2 .nil)) by rw [evX,if_neg (by omega),if_neg (by omega),if_pos hop]);have HF:=hi9 (show((p+(Ex.node n (.cons b1 (.cons b2 .nil))).flat.length:Nat):Int)=((p+1+b1.flat.length+b2.flat.length:Nat):Int) by rw [hfl];congr 1;omega);rw [HR.out,HF.out];obtain⟨rr,hrr⟩:∃rr:Res,rr=ja k.env (decide (n.op=12)) (.cons b1 (.cons b2 .nil)):=⟨_,rfl⟩
 obtain⟨Qp,hQp⟩:∃Qp:Int,Qp=((p+1+b1.flat.length+b2.flat.length:Nat):Int):=⟨_,rfl⟩
 rw [←hrr,←hQp];have HRR:=hi9 hrr;have HQP:=hi9 hQp;clear hrr hQp;have l1:b1.flat.length≤N:=by omega
 have l2:b2.flat.length≤N:=by omega
 have X1:=hi9 x1;have X2:=hi9 x2;have IH:=hi9 ih;obtain⟨a,ha,hpn,D,ho⟩:=h.node hx;obtain⟨o,v,s,t⟩:=n;obtain⟨d0,d1,d2,d3⟩:=D;dsimp only at d0 d1 d2 d3 ways;have hm:=h.cx.ns.max;unfold maxLen at hm;have c8:w.cell? ⟨R,8,none⟩=some (.slice (some a) k.n k.c):=by rw [←ha];exact h.c8
 have c9:=h.c9;have z9:=h.z 9;have hRl:=h.lt;have HO:=hi9 ho;have E1:=hi9 (zaF h (.cells #[.int .i64 o,.int .i64 v,.string s,.string t] 53)).1;have G1:=hi9 (zaF h (.cells #[.int .i64 o,.int .i64 v,.string s,.string t] 53)).2;have nw8:=World.new_ne w ⟨R,8,none⟩ c8;have nw9:=World.new_ne w ⟨R,9,none⟩ c9;have nd0:=World.new_ne w _ d0;have nd1:=World.new_ne w _ d1;have nd2:=World.new_ne w _ d2;have nd3:=World.new_ne w _ d3;have hp0:(0:Int)≤(p:Int):=by omega
 generalize k.n=kn at *;have hp1:(p:Int)<(kn:Int):=by omega
 clear ha ho hx h hp hop hN HR HF hfl x1 x2 ih;go_enter Tryz.func18,Tryz.ntmps18;go_wp2_with fail;go_region_held3 (fun w':World=>w'.cell? ⟨R,8,none⟩=some (.slice (some a) kn k.c)∧w'.cell? ⟨R,9,none⟩=some (.int .i64 p)∧w'.cell? (a.add (p*4))=some (.int .i64 o)∧w'.cell? ⟨(a.add (p*4)).block,(a.add (p*4)).off+1,none⟩=some (.int .i64 v)∧w'.cell? ⟨(a.add (p*4)).block,(a.add (p*4)).off+2,none⟩=some (.string s)∧w'.cell? ⟨(a.add (p*4)).block,(a.add (p*4)).off+3,none⟩=some (.string t)) (go_keep) (fail);rcases ways with rfl|rfl
 ·have K:=hi9 (zqJ (p:=p+1) IH.out E1.out b1 b2 X1.out X2.out l1 l2);rw [show ja k.env false (.cons b1 (.cons b2 .nil))=rr by rw [HRR.out];rfl,←HQP.out] at K;clear HRR;rcases rr with u|U
  ·go_wp2_with fail;refine K.out.mono ?_;rintro e w2 hp;have HP:=hi9 (zdH hp G1.out);obtain⟨-,rfl⟩:=hp;go_wp2_with fail;exact⟨rfl,HP.out⟩
  ·go_wp2_with fail;refine K.out.mono ?_;rintro e w2 hp;have HP:=hi9 (zdH hp G1.out);obtain⟨-,⟨A2,n2,c2,rfl,-,-⟩,-⟩:=hp;go_wp2_with fail;go_ret;exact HP.out
 ·have K:=hi9 (zpT (p:=p+1) IH.out E1.out b1 b2 X1.out X2.out l1 l2);rw [show ja k.env true (.cons b1 (.cons b2 .nil))=rr by rw [HRR.out];rfl,←HQP.out] at K;clear HRR;rcases rr with u|U
  ·go_wp2_with fail;refine K.out.mono ?_;rintro e w2 hp;have HP:=hi9 (zdH hp G1.out);obtain⟨-,rfl⟩:=hp;go_wp2_with fail;exact⟨rfl,HP.out⟩
  ·go_wp2_with fail;refine K.out.mono ?_;rintro e w2 hp;have HP:=hi9 (zdH hp G1.out);obtain⟨-,⟨A2,n2,c2,rfl,-,-⟩,-⟩:=hp;go_wp2_with fail;go_ret;exact HP.out
theorem jy:za8.toList = [112,114,105,110,99,105,112,97,108]:=by kernel_rfl
theorem zas:zbV.toList = [97,99,116,105,111,110]:=by kernel_rfl
theorem zaJ:zao.toList = [114,101,115,111,117,114,99,101]:=by kernel_rfl
theorem zbT:zaw.toList = [99,111,110,116,101,120,116]:=by kernel_rfl
theorem zob{W w:World}{R:Nat}{k:Cx}{p:Int}(h:jb W w R k p)(s:ByteArray):Calls Tryz.prog 42 #[.pointer (some ⟨R,0,none⟩),.string s] w (jh W w R k p (jF k.env s)):=by
 have H:=hi9 h;have hrq:=h.cx.rq;by_cases g0:s=za8
 ·subst g0;have f0:(za8.toList == [112,114,105,110,99,105,112,97,108])=true:=beq_iff_eq.2 jy;have HR:=hi9 (show jF k.env za8 = .ok (zeH k.q.who) by unfold jF;rw [if_pos rfl];rfl);rw [HR.out];have KE:=hi9 (fun w=>zdL k.q.who w hrq.w1 hrq.w2);have d1:=h.c1;have d2:=h.c2;clear h hrq;go_enter Tryz.func42,Tryz.ntmps42;go_wp2_with fail;refine(KE.out _).mono ?_;rintro e w2 hp;have HP:=hi9 (zcc hp H.out (zbQ w _));obtain⟨-,A2,n2,c2,rfl,-,-⟩:=hp;go_wp2_with fail;go_ret;exact HP.out
 by_cases g1:s=zbV
 ·subst g1;have f1:(zbV.toList == [97,99,116,105,111,110])=true:=beq_iff_eq.2 zas;have f0:(zbV.toList == [112,114,105,110,99,105,112,97,108])=false:=beq_eq_false_iff_ne.2 (fun q=>g0 (toList_inj (q.trans jy.symm)));have HR:=hi9 (show jF k.env zbV = .ok (zeH k.q.act) by unfold jF;rw [if_neg g0];rw [if_pos rfl];rfl);rw [HR.out];have KE:=hi9 (fun w=>zdL k.q.act w hrq.a1 hrq.a2);have d1:=h.c3;have d2:=h.c4;clear h hrq g0;go_enter Tryz.func42,Tryz.ntmps42;go_wp2_with fail;refine(KE.out _).mono ?_;rintro e w2 hp;have HP:=hi9 (zcc hp H.out (zbQ w _));obtain⟨-,A2,n2,c2,rfl,-,-⟩:=hp;go_wp2_with fail;go_ret;exact HP.out
 by_cases g2:s=zao
 ·subst g2;have f2:(zao.toList == [114,101,115,111,117,114,99,101])=true:=beq_iff_eq.2 zaJ;have f0:(zao.toList == [112,114,105,110,99,105,112,97,108])=false:=beq_eq_false_iff_ne.2 (fun q=>g0 (toList_inj (q.trans jy.symm)));have f1:(zao.toList == [97,99,116,105,111,110])=false:=beq_eq_false_iff_ne.2 (fun q=>g1 (toList_inj (q.trans zas.symm)));have HR:=hi9 (show jF k.env zao = .ok (zeH k.q.what) by unfold jF;rw [if_neg g0];rw [if_neg g1];rw [if_pos rfl];rfl);rw [HR.out];have KE:=hi9 (fun w=>zdL k.q.what w hrq.t1 hrq.t2);have d1:=h.c5;have d2:=h.c6;clear h hrq g0 g1;go_enter Tryz.func42,Tryz.ntmps42;go_wp2_with fail;refine(KE.out _).mono ?_;rintro e w2 hp;have HP:=hi9 (zcc hp H.out (zbQ w _));obtain⟨-,A2,n2,c2,rfl,-,-⟩:=hp;go_wp2_with fail;go_ret;exact HP.out
 by_cases g3:s=zaw
 ·subst g3;have f3:(zaw.toList == [99,111,110,116,101,120,116])=true:=beq_iff_eq.2 zbT;have f0:(zaw.toList == [112,114,105,110,99,105,112,97,108])=false:=beq_eq_false_iff_ne.2 (fun q=>g0 (toList_inj (q.trans jy.symm)));have f1:(zaw.toList == [97,99,116,105,111,110])=false:=beq_eq_false_iff_ne.2 (fun q=>g1 (toList_inj (q.trans zas.symm)));have f2:(zaw.toList == [114,101,115,111,117,114,99,101])=false:=beq_eq_false_iff_ne.2 (fun q=>g2 (toList_inj (q.trans zaJ.symm)));have HR:=hi9 (show jF k.env zaw = .ok k.q.P by unfold jF;rw [if_neg g0];rw [if_neg g1];rw [if_neg g2];rw [if_pos rfl];rfl);rw [HR.out];have d7:=h.c7;have HLT:=hi9 (show∀a,k.q.NA=some a→a.block<W.heap.size from fun a e=>h.ok.rq.ns.at_.lt (zm h.ok.ok.ctx.1) a e);have HNS:=hi9 hrq.ns;clear h hrq g0 g1 g2;go_enter Tryz.func42,Tryz.ntmps42;go_wp2_with fail;go_ret;exact⟨zbQ w _,⟨_,_,_,rfl,HNS.out,fun a e => .inl (HLT.out a e)⟩,H.out⟩
 have f0:(s.toList == [112,114,105,110,99,105,112,97,108])=false:=beq_eq_false_iff_ne.2 (fun q=>g0 (toList_inj (q.trans jy.symm)));have f1:(s.toList == [97,99,116,105,111,110])=false:=beq_eq_false_iff_ne.2 (fun q=>g1 (toList_inj (q.trans zas.symm)));have f2:(s.toList == [114,101,115,111,117,114,99,101])=false:=beq_eq_false_iff_ne.2 (fun q=>g2 (toList_inj (q.trans zaJ.symm)));have f3:(s.toList == [99,111,110,116,101,120,116])=false:=beq_eq_false_iff_ne.2 (fun q=>g3 (toList_inj (q.trans zbT.symm)));have HR:=hi9 (show jF k.env s = .error 3 by unfold jF;rw [if_neg g0,if_neg g1,if_neg g2,if_neg g3]);rw [HR.out];clear h hrq g0 g1 g2 g3;go_enter Tryz.func42,Tryz.ntmps42;go_wp2_with fail;exact⟨rfl,zbQ w _,rfl⟩
theorem zsb{W w:World}{R:Nat}{k:Cx}{p:Nat}(h:jb W w R k (p:Int))(n:Nd)(ps:Exs)(hx:XAt k.P p false (.node n ps))(hop:n.op=8)(hp:zH n=0):
 Calls Tryz.prog 18 #[.pointer (some ⟨R,0,none⟩)] w (jh W w R k ((p+(Ex.node n ps).flat.length:Nat):Int) (evX k.env (.node n ps))):=by
 have ways:n.op=8:=hop;have HR:=hi9 (show evX k.env (.node n ps)=jF k.env n.s by rw [evX,if_neg (by omega),if_pos hop]);rw [HR.out,(hx.none hp).2];obtain⟨rr,hrr⟩:∃rr:Res,rr=jF k.env n.s:=⟨_,rfl⟩
 rw [←hrr];have HRR:=hi9 hrr;clear hrr;obtain⟨a,ha,hpn,D,ho⟩:=h.node hx;obtain⟨o,v,s,t⟩:=n;obtain⟨d0,d1,d2,d3⟩:=D;dsimp only at d0 d1 d2 d3 ways;have hm:=h.cx.ns.max;unfold maxLen at hm;have c8:w.cell? ⟨R,8,none⟩=some (.slice (some a) k.n k.c):=by rw [←ha];exact h.c8
 have c9:=h.c9;have z9:=h.z 9;have hRl:=h.lt;have HO:=hi9 ho;have E1:=hi9 (zaF h (.cells #[.int .i64 o,.int .i64 v,.string s,.string t] 53)).1;have G1:=hi9 (zaF h (.cells #[.int .i64 o,.int .i64 v,.string s,.string t] 53)).2;have nw8:=World.new_ne w ⟨R,8,none⟩ c8;have nw9:=World.new_ne w ⟨R,9,none⟩ c9;have nd0:=World.new_ne w _ d0;have nd1:=World.new_ne w _ d1;have nd2:=World.new_ne w _ d2;have nd3:=World.new_ne w _ d3;have hp0:(0:Int)≤(p:Int):=by omega
 generalize k.n=kn at *;have hp1:(p:Int)<(kn:Int):=by omega
 clear ha ho hx h hp hop HR;go_enter Tryz.func18,Tryz.ntmps18;go_wp2_with fail;go_region_held3 (fun w':World=>w'.cell? ⟨R,8,none⟩=some (.slice (some a) kn k.c)∧w'.cell? ⟨R,9,none⟩=some (.int .i64 p)∧w'.cell? (a.add (p*4))=some (.int .i64 o)∧w'.cell? ⟨(a.add (p*4)).block,(a.add (p*4)).off+1,none⟩=some (.int .i64 v)∧w'.cell? ⟨(a.add (p*4)).block,(a.add (p*4)).off+2,none⟩=some (.string s)∧w'.cell? ⟨(a.add (p*4)).block,(a.add (p*4)).off+3,none⟩=some (.string t)) (go_keep) (fail);subst ways;have K:=hi9 (zob E1.out s);rw [show jF k.env s=rr from HRR.out.symm] at K;clear HRR;rcases rr with u|U
 ·go_wp2_with fail;refine K.out.mono ?_;rintro e w2 hp;have HP:=hi9 (zdH hp G1.out);obtain⟨-,rfl⟩:=hp;go_wp2_with fail;exact⟨rfl,HP.out⟩
 ·go_wp2_with fail;refine K.out.mono ?_;rintro e w2 hp;have HP:=hi9 (zdH hp G1.out);obtain⟨-,⟨A2,n2,c2,rfl,-,-⟩,-⟩:=hp;go_wp2_with fail;go_ret;exact HP.out
theorem zlC{W:World}{R N:Nat}{k:Cx}(ih:zdC W R k N){w:World}{p:Nat}(h:jb W w R k (p:Int))(n:Nd)(ps:Exs)(hx:XAt k.P p false (.node n ps))(hN:(Ex.node n ps).flat.length≤N+1)(hop:n.op=13)(hp:zH n=3):
 Calls Tryz.prog 18 #[.pointer (some ⟨R,0,none⟩)] w (jh W w R k ((p+(Ex.node n ps).flat.length:Nat):Int) (evX k.env (.node n ps))):=by
 obtain⟨b1,b2,b3,rfl,x1,x2,x3,hfl⟩:=hx.three hp (zg9 (by omega));have ways:n.op=13:=hop;have HR:=hi9 (show evX k.env (.node n (.cons b1 (.cons b2 (.cons b3 .nil))))=zcb k.env (.cons b1 (.cons b2 (.cons b3 .nil))) by rw [evX,if_neg (by omega),if_neg (by omega),if_neg (by omega),if_pos hop]);have HF:=hi9 (show((p+(Ex.node n (.cons b1 (.cons b2 (.cons b3 .nil)))).flat.length:Nat):Int)=((p+1+b1.flat.length+b2.flat.length+b3.flat.length:Nat):Int) by rw [hfl];congr 1;omega);rw [HR.out,HF.out];obtain⟨rr,hrr⟩:∃rr:Res,rr=zcb k.env (.cons b1 (.cons b2 (.cons b3 .nil))):=⟨_,rfl⟩
 obtain⟨Qp,hQp⟩:∃Qp:Int,Qp=((p+1+b1.flat.length+b2.flat.length+b3.flat.length:Nat):Int):=⟨_,rfl⟩
 rw [←hrr,←hQp];have HRR:=hi9 hrr;have HQP:=hi9 hQp;clear hrr hQp;have l1:b1.flat.length≤N:=by omega
 have l2:b2.flat.length≤N:=by omega
 have l3:b3.flat.length≤N:=by omega
 have X1:=hi9 x1;have X2:=hi9 x2;have X3:=hi9 x3;have IH:=hi9 ih;obtain⟨a,ha,hpn,D,ho⟩:=h.node hx;obtain⟨o,v,s,t⟩:=n;obtain⟨d0,d1,d2,d3⟩:=D;dsimp only at d0 d1 d2 d3 ways;have hm:=h.cx.ns.max;unfold maxLen at hm;have c8:w.cell? ⟨R,8,none⟩=some (.slice (some a) k.n k.c):=by rw [←ha];exact h.c8
 have c9:=h.c9;have z9:=h.z 9;have hRl:=h.lt;have HO:=hi9 ho;have E1:=hi9 (zaF h (.cells #[.int .i64 o,.int .i64 v,.string s,.string t] 53)).1;have G1:=hi9 (zaF h (.cells #[.int .i64 o,.int .i64 v,.string s,.string t] 53)).2;have nw8:=World.new_ne w ⟨R,8,none⟩ c8;have nw9:=World.new_ne w ⟨R,9,none⟩ c9;have nd0:=World.new_ne w _ d0;have nd1:=World.new_ne w _ d1;have nd2:=World.new_ne w _ d2;have nd3:=World.new_ne w _ d3;have hp0:(0:Int)≤(p:Int):=by omega
 generalize k.n=kn at *;have hp1:(p:Int)<(kn:Int):=by omega
 clear ha ho hx h hp hop hN HR HF hfl x1 x2 x3 ih;go_enter Tryz.func18,Tryz.ntmps18;go_wp2_with fail;go_region_held3 (fun w':World=>w'.cell? ⟨R,8,none⟩=some (.slice (some a) kn k.c)∧w'.cell? ⟨R,9,none⟩=some (.int .i64 p)∧w'.cell? (a.add (p*4))=some (.int .i64 o)∧w'.cell? ⟨(a.add (p*4)).block,(a.add (p*4)).off+1,none⟩=some (.int .i64 v)∧w'.cell? ⟨(a.add (p*4)).block,(a.add (p*4)).off+2,none⟩=some (.string s)∧w'.cell? ⟨(a.add (p*4)).block,(a.add (p*4)).off+3,none⟩=some (.string t)) (go_keep) (fail);subst ways;have K:=hi9 (zln (p:=p+1) IH.out E1.out b1 b2 b3 X1.out X2.out X3.out l1 l2 l3);rw [←HRR.out,←HQP.out] at K;clear HRR;rcases rr with u|U
 ·go_wp2_with fail;refine K.out.mono ?_;rintro e w2 hp;have HP:=hi9 (zdH hp G1.out);obtain⟨-,rfl⟩:=hp;go_wp2_with fail;exact⟨rfl,HP.out⟩
 ·go_wp2_with fail;refine K.out.mono ?_;rintro e w2 hp;have HP:=hi9 (zdH hp G1.out);obtain⟨-,⟨A2,n2,c2,rfl,-,-⟩,-⟩:=hp;go_wp2_with fail;go_ret;exact HP.out
theorem zrA{W:World}{R N:Nat}{k:Cx}(ih:zdC W R k N){w:World}{p:Nat}(h:jb W w R k (p:Int))(n:Nd)(ps:Exs)(hx:XAt k.P p false (.node n ps))(hN:(Ex.node n ps).flat.length≤N+1)(hop:n.op=5)(h200:k.P.length≤200):
 Calls Tryz.prog 18 #[.pointer (some ⟨R,0,none⟩)] w (jh W w R k ((p+(Ex.node n ps).flat.length:Nat):Int) (evX k.env (.node n ps))):=by
 have ways:n.op=5:=hop;have HR:=hi9 (show evX k.env (.node n ps)=zpz (evS k.env ps) by rw [evX,if_neg (by omega),if_neg (by omega),if_neg (by omega),if_neg (by omega),if_neg (by omega)];rcases evS k.env ps with e|L <;> simp [zpz,hop]);have hfl:(Ex.node n ps).flat.length=ps.flat.length+1:=by simp [Ex.flat]
 have HF:=hi9 (show((p+(Ex.node n ps).flat.length:Nat):Int)=((p+1+ps.flat.length:Nat):Int) by rw [hfl];congr 1;omega);rw [HR.out,HF.out];obtain⟨rr,hrr⟩:∃rr:Res,rr=zpz (evS k.env ps):=⟨_,rfl⟩
 obtain⟨Qp,hQp⟩:∃Qp:Int,Qp=((p+1+ps.flat.length:Nat):Int):=⟨_,rfl⟩
 rw [←hrr,←hQp];have HRR:=hi9 hrr;have HQP:=hi9 hQp;clear hrr hQp;have l1:ps.flat.length≤N:=by omega
 have X1:=hi9 (show zcS k.P (p+1) false ps by have:=hx.parts;rwa [show z6 (Ex.node n ps).head=false from decide_eq_false (by show n.op≠6;omega)] at this);have HN:=hi9 (show n.n=(ps.len:Int) by have:=hx.valid.2.1;unfold zH at this;rw [if_pos (by omega)] at this;exact this.symm);have h2:ps.len≤200:=by have:=hx.le;have:=za2 ps;omega
 have IH:=hi9 ih;obtain⟨a,ha,hpn,D,ho⟩:=h.node hx;obtain⟨o,v,s,t⟩:=n;obtain⟨d0,d1,d2,d3⟩:=D;dsimp only at d0 d1 d2 d3 ways;have hm:=h.cx.ns.max;unfold maxLen at hm;have c8:w.cell? ⟨R,8,none⟩=some (.slice (some a) k.n k.c):=by rw [←ha];exact h.c8
 have c9:=h.c9;have z9:=h.z 9;have hRl:=h.lt;have HO:=hi9 ho;have E1:=hi9 (zaF h (.cells #[.int .i64 o,.int .i64 v,.string s,.string t] 53)).1;have G1:=hi9 (zaF h (.cells #[.int .i64 o,.int .i64 v,.string s,.string t] 53)).2;have nw8:=World.new_ne w ⟨R,8,none⟩ c8;have nw9:=World.new_ne w ⟨R,9,none⟩ c9;have nd0:=World.new_ne w _ d0;have nd1:=World.new_ne w _ d1;have nd2:=World.new_ne w _ d2;have nd3:=World.new_ne w _ d3;have hp0:(0:Int)≤(p:Int):=by omega
 generalize k.n=kn at *;have hp1:(p:Int)<(kn:Int):=by omega
 clear ha ho hx h hop hN HR HF hfl ih h200;go_enter Tryz.func18,Tryz.ntmps18;go_wp2_with fail;go_region_held3 (fun w':World=>w'.cell? ⟨R,8,none⟩=some (.slice (some a) kn k.c)∧w'.cell? ⟨R,9,none⟩=some (.int .i64 p)∧w'.cell? (a.add (p*4))=some (.int .i64 o)∧w'.cell? ⟨(a.add (p*4)).block,(a.add (p*4)).off+1,none⟩=some (.int .i64 v)∧w'.cell? ⟨(a.add (p*4)).block,(a.add (p*4)).off+2,none⟩=some (.string s)∧w'.cell? ⟨(a.add (p*4)).block,(a.add (p*4)).off+3,none⟩=some (.string t)) (go_keep) (fail);subst ways;have K:=hi9 (zre (p:=p+1) IH.out E1.out ⟨5,v,s,t⟩ ps X1.out rfl HN.out l1 h2);unfold ndV at K;rw [←HRR.out,←HQP.out] at K;clear HRR;rcases rr with u|U
 ·go_wp2_with fail;refine K.out.mono ?_;rintro e w2 hp;have HP:=hi9 (zdH hp G1.out);obtain⟨-,rfl⟩:=hp;go_wp2_with fail;exact⟨rfl,HP.out⟩
 ·go_wp2_with fail;refine K.out.mono ?_;rintro e w2 hp;have HP:=hi9 (zdH hp G1.out);obtain⟨-,⟨A2,n2,c2,rfl,-,-⟩,-⟩:=hp;go_wp2_with fail;go_ret;exact HP.out
theorem zsQ{W:World}{R N:Nat}{k:Cx}(ih:zdC W R k N){w:World}{p:Nat}(h:jb W w R k (p:Int))(n:Nd)(ps:Exs)(hx:XAt k.P p false (.node n ps))(hN:(Ex.node n ps).flat.length≤N+1)(hop:n.op=6)(h200:k.P.length≤200):
 Calls Tryz.prog 18 #[.pointer (some ⟨R,0,none⟩)] w (jh W w R k ((p+(Ex.node n ps).flat.length:Nat):Int) (evX k.env (.node n ps))):=by
 have ways:n.op=6:=hop;have HR:=hi9 (show evX k.env (.node n ps)=zq6 (evF k.env ps) by rw [evX,if_neg (by omega),if_neg (by omega),if_neg (by omega),if_neg (by omega),if_pos hop];rcases evF k.env ps with e|L <;> rfl);have hfl:(Ex.node n ps).flat.length=ps.flat.length+1:=by simp [Ex.flat]
 have HF:=hi9 (show((p+(Ex.node n ps).flat.length:Nat):Int)=((p+1+ps.flat.length:Nat):Int) by rw [hfl];congr 1;omega);rw [HR.out,HF.out];obtain⟨rr,hrr⟩:∃rr:Res,rr=zq6 (evF k.env ps):=⟨_,rfl⟩
 obtain⟨Qp,hQp⟩:∃Qp:Int,Qp=((p+1+ps.flat.length:Nat):Int):=⟨_,rfl⟩
 rw [←hrr,←hQp];have HRR:=hi9 hrr;have HQP:=hi9 hQp;clear hrr hQp;have l1:ps.flat.length≤N:=by omega
 have X1:=hi9 (show zcS k.P (p+1) true ps by have:=hx.parts;rwa [show z6 (Ex.node n ps).head=true from decide_eq_true hop] at this);have HN:=hi9 (show n.n=(ps.len:Int) by have:=hx.valid.2.1;unfold zH at this;rw [if_pos (by omega)] at this;exact this.symm);have h2:ps.len≤200:=by have:=hx.le;have:=za2 ps;omega
 have IH:=hi9 ih;obtain⟨a,ha,hpn,D,ho⟩:=h.node hx;obtain⟨o,v,s,t⟩:=n;obtain⟨d0,d1,d2,d3⟩:=D;dsimp only at d0 d1 d2 d3 ways;have hm:=h.cx.ns.max;unfold maxLen at hm;have c8:w.cell? ⟨R,8,none⟩=some (.slice (some a) k.n k.c):=by rw [←ha];exact h.c8
 have c9:=h.c9;have z9:=h.z 9;have hRl:=h.lt;have HO:=hi9 ho;have E1:=hi9 (zaF h (.cells #[.int .i64 o,.int .i64 v,.string s,.string t] 53)).1;have G1:=hi9 (zaF h (.cells #[.int .i64 o,.int .i64 v,.string s,.string t] 53)).2;have nw8:=World.new_ne w ⟨R,8,none⟩ c8;have nw9:=World.new_ne w ⟨R,9,none⟩ c9;have nd0:=World.new_ne w _ d0;have nd1:=World.new_ne w _ d1;have nd2:=World.new_ne w _ d2;have nd3:=World.new_ne w _ d3;have hp0:(0:Int)≤(p:Int):=by omega
 generalize k.n=kn at *;have hp1:(p:Int)<(kn:Int):=by omega
 clear ha ho hx h hop hN HR HF hfl ih h200;go_enter Tryz.func18,Tryz.ntmps18;go_wp2_with fail;go_region_held3 (fun w':World=>w'.cell? ⟨R,8,none⟩=some (.slice (some a) kn k.c)∧w'.cell? ⟨R,9,none⟩=some (.int .i64 p)∧w'.cell? (a.add (p*4))=some (.int .i64 o)∧w'.cell? ⟨(a.add (p*4)).block,(a.add (p*4)).off+1,none⟩=some (.int .i64 v)∧w'.cell? ⟨(a.add (p*4)).block,(a.add (p*4)).off+2,none⟩=some (.string s)∧w'.cell? ⟨(a.add (p*4)).block,(a.add (p*4)).off+3,none⟩=some (.string t)) (go_keep) (fail);subst ways;have K:=hi9 (zqS (p:=p+1) IH.out E1.out ⟨6,v,s,t⟩ ps X1.out rfl HN.out l1 h2);unfold ndV at K;rw [←HRR.out,←HQP.out] at K;clear HRR;rcases rr with u|U
 ·go_wp2_with fail;refine K.out.mono ?_;rintro e w2 hp;have HP:=hi9 (zdH hp G1.out);obtain⟨-,rfl⟩:=hp;go_wp2_with fail;exact⟨rfl,HP.out⟩
 ·go_wp2_with fail;refine K.out.mono ?_;rintro e w2 hp;have HP:=hi9 (zdH hp G1.out);obtain⟨-,⟨A2,n2,c2,rfl,-,-⟩,-⟩:=hp;go_wp2_with fail;go_ret;exact HP.out
theorem zue{W w:World}{R:Nat}{k:Cx}{p:Int}(_h:jb W w R k p)(x:Nd):Nd4 ((w.setCell ⟨R,9,none⟩ (.int .i64 (p+1))).alloc (.cells #[.int .i64 x.op,.int .i64 x.n,.string x.s,.string x.t] 53)).drew ⟨w.heap.size,0,none⟩ x:=by
 have h1:=zfB (w.setCell ⟨R,9,none⟩ (.int .i64 (p+1))) x 53;rw [show(w.setCell ⟨R,9,none⟩ (.int .i64 (p+1))).heap.size=w.heap.size by simp [World.setCell]] at h1;exact h1.keep (zG _)
theorem Nd4.but{w w':World}{b:Nat}{x:Nd}{R:Nat}(h:Nd4 w ⟨b,0,none⟩ x)(hg:w.grownBy w' (some R))(hne:b≠R):Nd4 w' ⟨b,0,none⟩ x :=
 have e:some b≠some R:=fun q=>hne (by injection q)
 ⟨hg.cell h.c0 e,hg.cell h.c1 e,hg.cell h.c2 e,hg.cell h.c3 e⟩
theorem zqw(σ:Env){n:Nd}{a:Ex}(h:n.op=9∨n.op=10∨n.op=21∨n.op=22∨n.op=23∨n.op=24):evX σ (.node n (.cons a .nil))=(match evX σ a with | .error e => .error e | .ok V=>jE σ.E n V):=by
 rw [evX,if_neg (by omega),if_neg (by omega),if_neg (by omega),if_neg (by omega),if_neg (by omega)];simp only [evS];rcases evX σ a with e|V
 ·rfl
 ·simp only [zeD];rw [if_neg (by omega)]
theorem zqE(σ:Env){n:Nd}{a b:Ex}(h:14≤n.op∧n.op≤20∨25≤n.op∧n.op≤27):evX σ (.node n (.cons a (.cons b .nil)))=(match evX σ a with | .error e => .error e | .ok V=>match evX σ b with | .error e => .error e | .ok U=>jQ σ.E n.op V U):=by
 rw [evX,if_neg (by omega),if_neg (by omega),if_neg (by omega),if_neg (by omega),if_neg (by omega)];simp only [evS];rcases evX σ a with e|V
 ·rfl
 ·simp only;rcases evX σ b with e|U
  ·rfl
  ·simp only [zeD];rw [if_neg (by omega)]
theorem zmS{W w:World}{R:Nat}{k:Cx}{p:Int}(h:jb W w R k p)(x:Nd)(hx:x.op=9∨x.op=10∨x.op=21∨x.op=22∨x.op=23∨x.op=24)(hs:x.s.size≤maxLen)(A:Option Addr)(n c:Nat)(V:List Nd)(hv:Ns w A n c V)(h0:0<V.length):
 Calls Tryz.prog 46 #[.pointer (some ⟨R,0,none⟩),ndV x,.slice A n c] w (je w (jE k.E x V)):=by
 rcases hx with q|q|q|q|q|q
 ·exact zn2 h x q A n c V hv h0
 ·exact znu h x q A n c V hv h0
 ·exact znB h x q A n c V hv h0
 ·exact zoi h x q A n c V hv h0
 ·exact zl7 h x q hs A n c V hv h0
 ·exact zqp h x q A n c V hv h0
theorem zqh{W w:World}{R:Nat}{k:Cx}{p:Int}(h:jb W w R k p)(A B:Option Addr)(n m c d:Nat)(P Q:List Nd)(hP:Ns w A n c P)(h0:0<P.length)(hQ:Ns w B m d Q)(h1:0<Q.length)(vQ:zc Q=0):
 Calls Tryz.prog 47 #[.pointer (some ⟨R,0,none⟩),.int .i64 20,.slice A n c,.slice B m d] w (je w (jQ k.E 20 P Q)):=by
 have K:=hi9 (zs9 h A B n m c d P Q hP h0 hQ h1 vQ);unfold zhY at K;have HR:=hi9 (show jQ k.E 20 P Q=(if zf P=4∧(j4 Q).all (fun t=>decide (zf t=4)) then .ok (zt ((j4 Q).any fun t=>inB k.E (jd P) (jd t))) else .error 2) by unfold jQ;rw [if_neg (by decide),if_pos rfl];rfl);rw [HR.out];generalize ((j4 Q).any fun t=>inB k.E (jd P) (jd t))=b at *;clear h hP h0 hQ h1 vQ;by_cases g:zf P=4∧(j4 Q).all (fun t=>decide (zf t=4))=true
 ·rw [if_pos g];simp only [if_pos g] at K;clear g HR;go_enter Tryz.func47,Tryz.ntmps47;go_wp2_with fail;refine K.out.mono ?_;rintro e w1 ⟨b1,rfl⟩;have B1:=hi9 b1;clear b1 K;go_wp2_with fail;refine(jR b w1).mono ?_;rintro e w2 hp;have HP:=hi9 (hp.up B1.out);obtain⟨-,A2,n2,c2,rfl,-,-⟩:=hp;go_wp2_with fail;go_ret;exact HP.out
 ·rw [if_neg g];simp only [if_neg g] at K;clear g HR;go_enter Tryz.func47,Tryz.ntmps47;go_wp2_with fail;refine K.out.mono ?_;rintro e w1 ⟨b1,rfl⟩;have B1:=hi9 b1;clear b1 K;go_wp2_with fail;exact⟨rfl,jT B1.out⟩
theorem zlz{W w:World}{R:Nat}{k:Cx}{p:Int}(h:jb W w R k p)(op:Int)(A B:Option Addr)(n m c d:Nat)(P Q:List Nd)(hP:Ns w A n c P)(h0:0<P.length)(hQ:Ns w B m d Q)(h1:0<Q.length)(vQ:zc Q=0):
 Calls Tryz.prog 47 #[.pointer (some ⟨R,0,none⟩),.int .i64 op,.slice A n c,.slice B m d] w (je w (jQ k.E op P Q)):=by
 by_cases q14:op=14
 ·subst q14;exact zp1 h A B n m c d P Q hP hQ
 by_cases q20:op=20
 ·subst q20;exact zqh h A B n m c d P Q hP h0 hQ h1 vQ
 by_cases q25:op=25
 ·subst q25;exact znV h A B n m c d P Q hP hQ
 by_cases q26:op=26
 ·subst q26;exact znC h A B n m c d P Q hP hQ
 by_cases q27:op=27
 ·subst q27;exact znI h A B n m c d P Q hP hQ
 by_cases g:zf P=2
 ·by_cases g2:zf Q=2
  ·by_cases q15:op=15
   ·subst q15;exact zpZ h A B n m c d P Q hP h0 hQ h1 g g2
   by_cases q16:op=16
   ·subst q16;exact zqr h A B n m c d P Q hP h0 hQ h1 g g2
   exact zp0 h op ⟨q14,q20,q25,q26,q27⟩ ⟨q15,q16⟩ A B n m c d P Q hP h0 hQ h1 g g2
  ·exact zoJ h op ⟨q14,q20,q25,q26,q27⟩ A B n m c d P Q hP h0 hQ h1 g g2
 ·exact znO h op ⟨q14,q20,q25,q26,q27⟩ A B n m c d P Q hP h0 hQ h1 g
theorem zlm{W:World}{R N:Nat}{k:Cx}(ih:zdC W R k N){w:World}{p:Nat}(h:jb W w R k (p:Int))(n:Nd)(ps:Exs)(hx:XAt k.P p false (.node n ps))(hN:(Ex.node n ps).flat.length≤N+1)(hop:n.op=9∨n.op=10∨n.op=21∨n.op=22∨n.op=23∨n.op=24)(hp:zH n=1):
 Calls Tryz.prog 18 #[.pointer (some ⟨R,0,none⟩)] w (jh W w R k ((p+(Ex.node n ps).flat.length:Nat):Int) (evX k.env (.node n ps))):=by
 obtain⟨b1,rfl,x1,hfl⟩:=hx.one hp (zg9 (by omega));have ways:=hop;have HR:=hi9 (zqw k.env (a:=b1) hop);have HF:=hi9 (show((p+(Ex.node n (.cons b1 .nil)).flat.length:Nat):Int)=((p+1+b1.flat.length:Nat):Int) by rw [hfl];congr 1;omega);rw [HR.out,HF.out];obtain⟨rr,hrr⟩:∃rr:Res,rr=(match evX k.env b1 with | .error e => .error e | .ok V=>jE k.env.E n V):=⟨_,rfl⟩
 obtain⟨Qp,hQp⟩:∃Qp:Int,Qp=((p+1+b1.flat.length:Nat):Int):=⟨_,rfl⟩
 rw [←hrr,←hQp];have HRR:=hi9 hrr;have HQP:=hi9 hQp;clear hrr hQp;have l1:b1.flat.length≤N:=by omega
 have X1:=hi9 x1;have IH:=hi9 ih;have HEO:=hi9 h.ok.ok;have B4:=hi9 (zue h n);obtain⟨a,ha,hpn,D,ho⟩:=h.node hx;obtain⟨o,v,s,t⟩:=n;obtain⟨d0,d1,d2,d3⟩:=D;dsimp only at d0 d1 d2 d3 ways;have hm:=h.cx.ns.max;unfold maxLen at hm;have c8:w.cell? ⟨R,8,none⟩=some (.slice (some a) k.n k.c):=by rw [←ha];exact h.c8
 have c9:=h.c9;have z9:=h.z 9;have hRl:=h.lt;have HO:=hi9 ho;have E1:=hi9 (zaF h (.cells #[.int .i64 o,.int .i64 v,.string s,.string t] 53)).1;have G1:=hi9 (zaF h (.cells #[.int .i64 o,.int .i64 v,.string s,.string t] 53)).2;have nw8:=World.new_ne w ⟨R,8,none⟩ c8;have nw9:=World.new_ne w ⟨R,9,none⟩ c9;have nd0:=World.new_ne w _ d0;have nd1:=World.new_ne w _ d1;have nd2:=World.new_ne w _ d2;have nd3:=World.new_ne w _ d3;have hp0:(0:Int)≤(p:Int):=by omega
 generalize k.n=kn at *;have hp1:(p:Int)<(kn:Int):=by omega
 clear ha ho hx h hp hop hN HR HF hfl x1 ih;go_enter Tryz.func18,Tryz.ntmps18;go_wp2_with fail;go_region_held3 (fun w':World=>w'.cell? ⟨R,8,none⟩=some (.slice (some a) kn k.c)∧w'.cell? ⟨R,9,none⟩=some (.int .i64 p)∧w'.cell? (a.add (p*4))=some (.int .i64 o)∧w'.cell? ⟨(a.add (p*4)).block,(a.add (p*4)).off+1,none⟩=some (.int .i64 v)∧w'.cell? ⟨(a.add (p*4)).block,(a.add (p*4)).off+2,none⟩=some (.string s)∧w'.cell? ⟨(a.add (p*4)).block,(a.add (p*4)).off+3,none⟩=some (.string t)) (go_keep) (fail);have hbR:w.heap.size≠R:=by omega
 have K1:=hi9 (IH.out b1 (p+1) _ E1.out X1.out l1);rcases qa:evX k.env b1 with u|V
 ·obtain rfl:rr = .error u:=by rw [HRR.out,qa]
  rw [qa] at K1;unfold jh at K1;clear qa;rcases ways with rfl|rfl|rfl|rfl|rfl|rfl
  all_goals
   go_wp2_with fail;refine K1.out.mono ?_;rintro e w2 ⟨g2,rfl⟩;have G2:=hi9 (zk G1.out g2);clear g2;go_wp2_with fail;exact⟨rfl,G2.out,rfl⟩
 ·obtain⟨-,pV⟩:=zdO HEO.out X1.out qa;have hr3:jE k.E ⟨o,v,s,t⟩ V=rr:=by rw [HRR.out,qa];rfl
  rw [qa,←HQP.out] at K1;unfold jh at K1;have KSF:=hi9 (fun(q:Int) (w2:World) (E2:jb W w2 R k q) (A2:Option Addr) (n2 c2:Nat) (N2:Ns w2 A2 n2 c2 V)=>zmS E2 ⟨o,v,s,t⟩ ways HO.out.s A2 n2 c2 V N2 pV);clear qa HRR;rcases ways with rfl|rfl|rfl|rfl|rfl|rfl
  all_goals
   go_wp2_with fail;refine K1.out.mono ?_;rintro e w2 ⟨g2,⟨A2,n2,c2,rfl,N2,F2⟩,E2⟩;have G2:=hi9 (zk G1.out g2);obtain⟨y0,y1,y2,y3⟩:=B4.out.but g2 hbR;have KS:=hi9 (KSF.out _ w2 E2 A2 n2 c2 N2);have HE2:=hi9 E2;clear g2 N2 F2 E2 K1;rw [hr3] at KS;unfold ndV at KS;dsimp only at KS y0 y1 y2 y3;clear hr3;rcases rr with u|U
   ·go_wp2_with fail;refine KS.out.mono ?_;rintro e w3 hp;have HP:=hi9 (zcc hp HE2.out G2.out);obtain⟨-,rfl⟩:=hp;go_wp2_with fail;exact⟨rfl,HP.out⟩
   ·go_wp2_with fail;refine KS.out.mono ?_;rintro e w3 hp;have HP:=hi9 (zcc hp HE2.out G2.out);obtain⟨-,A3,n3,c3,rfl,-,-⟩:=hp;go_wp2_with fail;go_ret;exact HP.out
noncomputable def zto(E:List En)(op:Int)(x y:Res):Res:=match x with
 | .error e => .error e
 | .ok V=>match y with
  | .error e => .error e
  | .ok U=>jQ E op V U
theorem zuF(σ:Env){n:Nd}{a b:Ex}(h:14≤n.op∧n.op≤20∨25≤n.op∧n.op≤27):evX σ (.node n (.cons a (.cons b .nil)))=zto σ.E n.op (evX σ a) (evX σ b):=by
 rw [zqE σ h];unfold zto;rcases evX σ a with e|V
 ·rfl
 ·rcases evX σ b with e|U <;> rfl
theorem zmZ{W:World}{R N:Nat}{k:Cx}(ih:zdC W R k N){w:World}{p:Nat}(h:jb W w R k (p:Int))(n:Nd)(ps:Exs)(hx:XAt k.P p false (.node n ps))(hN:(Ex.node n ps).flat.length≤N+1)(hop:14≤n.op∧n.op≤20∨25≤n.op∧n.op≤27)(hp:zH n=2):
 Calls Tryz.prog 18 #[.pointer (some ⟨R,0,none⟩)] w (jh W w R k ((p+(Ex.node n ps).flat.length:Nat):Int) (evX k.env (.node n ps))):=by
 obtain⟨b1,b2,rfl,x1,x2,hfl⟩:=hx.two hp (zg9 (by omega));have ways:=hop;have HR:=hi9 (zuF k.env (a:=b1) (b:=b2) hop);have HF:=hi9 (show((p+(Ex.node n (.cons b1 (.cons b2 .nil))).flat.length:Nat):Int)=((p+1+b1.flat.length+b2.flat.length:Nat):Int) by rw [hfl];congr 1;omega);rw [HR.out,HF.out];obtain⟨rr,hrr⟩:∃rr:Res,rr=zto k.env.E n.op (evX k.env b1) (evX k.env b2):=⟨_,rfl⟩
 obtain⟨Qp,hQp⟩:∃Qp:Int,Qp=((p+1+b1.flat.length+b2.flat.length:Nat):Int):=⟨_,rfl⟩
 rw [←hrr,←hQp];have HRR:=hi9 hrr;have HQP:=hi9 hQp;clear hrr hQp;have l1:b1.flat.length≤N:=by omega
 have l2:b2.flat.length≤N:=by omega
 have X1:=hi9 x1;have X2:=hi9 x2;have IH:=hi9 ih;have HEO:=hi9 h.ok.ok;have B4:=hi9 (zue h n);obtain⟨a,ha,hpn,D,ho⟩:=h.node hx;obtain⟨o,v,s,t⟩:=n;obtain⟨d0,d1,d2,d3⟩:=D;dsimp only at d0 d1 d2 d3 ways;have hm:=h.cx.ns.max;unfold maxLen at hm;have c8:w.cell? ⟨R,8,none⟩=some (.slice (some a) k.n k.c):=by rw [←ha];exact h.c8
 have c9:=h.c9;have z9:=h.z 9;have hRl:=h.lt;have HO:=hi9 ho;have E1:=hi9 (zaF h (.cells #[.int .i64 o,.int .i64 v,.string s,.string t] 53)).1;have G1:=hi9 (zaF h (.cells #[.int .i64 o,.int .i64 v,.string s,.string t] 53)).2;have nw8:=World.new_ne w ⟨R,8,none⟩ c8;have nw9:=World.new_ne w ⟨R,9,none⟩ c9;have nd0:=World.new_ne w _ d0;have nd1:=World.new_ne w _ d1;have nd2:=World.new_ne w _ d2;have nd3:=World.new_ne w _ d3;have hp0:(0:Int)≤(p:Int):=by omega
 have f1:(o==1)=false:=beq_eq_false_iff_ne.2 (by omega);have f2:(o==2)=false:=beq_eq_false_iff_ne.2 (by omega);have f3:(o==3)=false:=beq_eq_false_iff_ne.2 (by omega);have f4:(o==4)=false:=beq_eq_false_iff_ne.2 (by omega);have f8:(o==8)=false:=beq_eq_false_iff_ne.2 (by omega);have f11:(o==11)=false:=beq_eq_false_iff_ne.2 (by omega);have f12:(o==12)=false:=beq_eq_false_iff_ne.2 (by omega);have f13:(o==13)=false:=beq_eq_false_iff_ne.2 (by omega);have f5:(o==5)=false:=beq_eq_false_iff_ne.2 (by omega);have f6:(o==6)=false:=beq_eq_false_iff_ne.2 (by omega);have f9:(o==9)=false:=beq_eq_false_iff_ne.2 (by omega);have f10:(o==10)=false:=beq_eq_false_iff_ne.2 (by omega);have f21:(o==21)=false:=beq_eq_false_iff_ne.2 (by omega);have f22:(o==22)=false:=beq_eq_false_iff_ne.2 (by omega);have f23:(o==23)=false:=beq_eq_false_iff_ne.2 (by omega);have f24:(o==24)=false:=beq_eq_false_iff_ne.2 (by omega);generalize k.n=kn at *;have hp1:(p:Int)<(kn:Int):=by omega
 clear ha ho hx h hp hop hN HR HF hfl x1 x2 ih;go_enter Tryz.func18,Tryz.ntmps18;go_wp2_with fail;go_region_held3 (fun w':World=>w'.cell? ⟨R,8,none⟩=some (.slice (some a) kn k.c)∧w'.cell? ⟨R,9,none⟩=some (.int .i64 p)∧w'.cell? (a.add (p*4))=some (.int .i64 o)∧w'.cell? ⟨(a.add (p*4)).block,(a.add (p*4)).off+1,none⟩=some (.int .i64 v)∧w'.cell? ⟨(a.add (p*4)).block,(a.add (p*4)).off+2,none⟩=some (.string s)∧w'.cell? ⟨(a.add (p*4)).block,(a.add (p*4)).off+3,none⟩=some (.string t)) (go_keep) (fail);have hbR:w.heap.size≠R:=by omega
 have K1:=hi9 (IH.out b1 (p+1) _ E1.out X1.out l1);rcases qa:evX k.env b1 with u|V
 ·obtain rfl:rr = .error u:=by rw [HRR.out,qa];rfl
  rw [qa] at K1;unfold jh at K1;clear qa ways;go_wp2_with fail;refine K1.out.mono ?_;rintro e w2 ⟨g2,rfl⟩;have G2:=hi9 (zk G1.out g2);clear g2;go_wp2_with fail;exact⟨rfl,G2.out,rfl⟩
 obtain⟨-,pV⟩:=zdO HEO.out X1.out qa;have PV:=hi9 pV;rw [qa] at K1;unfold jh at K1;have HRV:=hi9 (show rr=zto k.E o (.ok V) (evX k.env b2) by rw [HRR.out,qa];rfl);clear qa ways HRR pV;go_wp2_with fail;refine K1.out.mono ?_;rintro e w2 ⟨g2,⟨A2,n2,c2,rfl,N2,F2⟩,E2⟩;have G2:=hi9 (zk G1.out g2);obtain⟨y0,y1,y2,y3⟩:=B4.out.but g2 hbR;dsimp only at y0 y1 y2 y3;have HE2:=hi9 E2;have HN2:=hi9 N2;clear g2 N2 F2 E2 K1;go_wp2_with fail;have HD2:=hi9 (HE2.out.keep (zG w2));have GD2:=hi9 (zk G2.out (zh (zG w2) (some R)));have ND2:=hi9 (HN2.out.keep (zG w2));have K2:=hi9 (IH.out b2 (p+1+b1.flat.length) w2.drew HD2.out X2.out l2);refine zgA (fun(w':World)=>w'.cell? ⟨w.heap.size,0,none⟩=some (.int .i64 o)) 7 (by kernel_rfl) (show w2.drew.cell? ⟨w.heap.size,0,none⟩=some (.int .i64 o) from y0) (fun hHeld=>?_);refine jI (i:=0) (oi:=⟨some 69,_,_,_,_,_⟩) (v := .pointer (some ⟨R,0,none⟩)) rfl (by kernel_rfl) (by kernel_rfl) (by kernel_rfl) (by kernel_rfl) (fun _ _ _ h=>h) (.inl ⟨by rfl,fun w' hSw=>?_⟩) hHeld ?_
 ·go_simp
 simp only [Act.put,List.setIfInBounds_toArray,List.set_cons_zero,List.set_cons_succ];refine jI (i:=1) (oi:=⟨some 70,_,_,_,_,_⟩) (v := .pointer (some ⟨w.heap.size,0,none⟩)) rfl (by kernel_rfl) (by kernel_rfl) (by kernel_rfl) (by kernel_rfl) (fun _ _ _ h=>h) (.inl ⟨by rfl,fun w' hSw=>?_⟩) hHeld ?_
 ·go_simp
 simp only [Act.put,List.setIfInBounds_toArray,List.set_cons_zero,List.set_cons_succ];refine jI (i:=2) (oi:=⟨some 71,_,_,_,_,_⟩) (v := .int .i64 o) rfl (by kernel_rfl) (by kernel_rfl) (by kernel_rfl) (by kernel_rfl) (fun _ _ _ h=>h) (.inl ⟨by rfl,fun w' hSw=>?_⟩) hHeld ?_
 ·go_simp
 simp only [Act.put,List.setIfInBounds_toArray,List.set_cons_zero,List.set_cons_succ];refine jI (i:=3) (oi:=⟨some 72,_,_,_,_,_⟩) (v := .slice A2 n2 c2) rfl (by kernel_rfl) (by kernel_rfl) (by kernel_rfl) (by kernel_rfl) (fun _ _ _ h=>h) (.inl ⟨by rfl,fun w' hSw=>?_⟩) hHeld ?_
 ·go_simp
 simp only [Act.put,List.setIfInBounds_toArray,List.set_cons_zero,List.set_cons_succ];refine jI (i:=4) (oi:=⟨some 73,_,_,_,_,_⟩) (v := .pointer (some ⟨R,0,none⟩)) rfl (by kernel_rfl) (by kernel_rfl) (by kernel_rfl) (by kernel_rfl) (fun _ _ _ h=>h) (.inl ⟨by rfl,fun w' hSw=>?_⟩) hHeld ?_
 ·go_simp
 simp only [Act.put,List.setIfInBounds_toArray,List.set_cons_zero,List.set_cons_succ];rcases qb:evX k.env b2 with u|U
 ·obtain rfl:rr = .error u:=by rw [HRV.out,qb];rfl
  rw [qb] at K2;unfold jh at K2;clear qb HRV;refine za7 (i:=5) (o:=⟨some 74,_,_,_,_,_⟩) (by kernel_rfl) rfl (fun K' hK'=>?_);go_simp;go_at_call 18;refine K2.out.mono ?_;rintro e w3 ⟨g3,rfl⟩;have G3:=hi9 (zk GD2.out g3);clear g3;go_wp2_with fail;exact⟨rfl,G3.out,rfl⟩
 obtain⟨vU,pU⟩:=zdO HEO.out X2.out qb;have hr3:jQ k.E o V U=rr:=by rw [HRV.out,qb];rfl
 rw [qb,←HQP.out] at K2;unfold jh at K2;clear qb HRV;refine za7 (i:=5) (o:=⟨some 74,_,_,_,_,_⟩) (by kernel_rfl) rfl (fun K' hK'=>?_);go_simp;go_at_call 18;refine K2.out.mono ?_;rintro e w3 ⟨g3,⟨A3,n3,c3,rfl,N3,F3⟩,E3⟩;have G3:=hi9 (zk GD2.out g3);have z0:=g3.cell hHeld (show some w.heap.size≠some R from fun e=>hbR (by injection e));have KD:=hi9 (zlz E3 o A2 A3 n2 n3 c2 c3 V U (HD2.out.ns ND2.out g3) PV.out N3 pU vU);rw [hr3] at KD;have HE3:=hi9 E3;clear g3 N3 F3 E3 vU pU hr3 K2;go_wp2_with fail;refine hK'.out _ _ (fun _=>z0) ?_;clear hK' K' hHeld
 try simp only [Act.put,List.setIfInBounds_toArray,List.set_cons_zero,List.set_cons_succ]
 refine za7 (i:=6) (o:=⟨some 75,_,_,_,_,_⟩) (by kernel_rfl) rfl (fun K' hK'=>?_);go_simp;go_at_call 47;rcases rr with u|T
 ·refine KD.out.mono ?_;rintro e w4 hp;have HP:=hi9 (zcc hp HE3.out G3.out);obtain⟨-,rfl⟩:=hp;go_wp2_with fail;exact⟨rfl,HP.out⟩
 ·refine KD.out.mono ?_;rintro e w4 hp;have HP:=hi9 (zcc hp HE3.out G3.out);obtain⟨b4,A4,n4,c4,rfl,-,-⟩:=hp;have z4:=za b4 z0;clear b4;go_wp2_with fail;refine hK'.out _ _ (fun _=>z4) ?_;clear hK' K'
  try simp only [Act.put,List.setIfInBounds_toArray,List.set_cons_zero,List.set_cons_succ]
  refine za7 (i:=7) (o:=⟨some 2,_,_,_,_,_⟩) (by kernel_rfl) rfl (fun K' hK'=>?_);go_simp;refine hK'.out _ _ (fun h=>absurd rfl h) ?_;refine zgK (by kernel_rfl) ?_;clear hK' K';go_wp2_with fail;go_ret;exact HP.out
theorem zka{W:World}{R:Nat}{k:Cx}(h200:k.P.length≤200):∀N:Nat,zdC W R k N
 | 0=>fun x p w _ _ hl=>by have:=zaY x;omega
 | N+1=>fun x p w h hx hl=>by
  have ih:=zka (W:=W) (R:=R) h200 N;obtain⟨n,ps⟩:=x;rcases hx.ways with ⟨g1,g2,hp⟩|⟨g,hp⟩|⟨g,hp⟩|⟨g,hp⟩|g|g|⟨g,hp⟩|⟨g,hp⟩
  ·exact zqA h n ps hx ⟨g1,g2⟩ hp
  ·exact zsb h n ps hx g hp
  ·exact zma ih h n ps hx hl g hp
  ·exact zlC ih h n ps hx hl g hp
  ·exact zrA ih h n ps hx hl g h200
  ·exact zsQ ih h n ps hx hl g h200
  ·exact zlm ih h n ps hx hl g hp
  ·exact zmZ ih h n ps hx hl g hp
theorem znt(p q:Addr)(w:World):
 CallsD Tryz.prog 16 #[.pointer (some p),.pointer (some q)] .returning w fun e u' w'=>e = .returned (.tuple #[])∧u' = .returning∧w'=w:=by
 refine callsD_of_wpS Tryz.func16 rfl fun c₀ cs hu=>?_;apply wpS_seq;apply wpS_region;simp [wpOpsS,go_sem,recoverD,hu,Tryz.ntmps16,Exit.thenS];refine wpS_of_wp ?_;go_wp2_with fail;cases c₀;simp_all [bodyPostS,results,Tryz.results16]
theorem zkG(E F:Nat)(x:Int)(v0 v1:Value)(older:List PanicEntry)(w:World)(hE:w.cell? ⟨E,0,none⟩=some v0)(zE:w.frozen? ⟨E,0,none⟩=false)(hF:w.cell? ⟨F,0,none⟩=some v1)(zF:w.frozen? ⟨F,0,none⟩=false)(hne:E≠F):
 CallsD Tryz.prog 16 #[.pointer (some ⟨E,0,none⟩),.pointer (some ⟨F,0,none⟩)] (.panicking ({ v := .iface 28 (.int .i64 x),recovered:=false } :: older)) w fun e u' w' =>
  e = .returned (.tuple #[])∧u' = .panicking ({ v := .iface 28 (.int .i64 x),recovered:=true } :: older)∧w'=((w.setCell ⟨E,0,none⟩ (.slice none 0 0)).setCell ⟨F,0,none⟩ (.iface 28 (.int .i64 x))):=by
 have hl:E<w.heap.size:=block_lt_of_cell hE;have hl2:F<w.heap.size:=block_lt_of_cell hF;have hne2:F≠E:=hne.symm;have hta:∀w,(Instr.typeAssert (.iface 28 (.int .i64 x)) 20 28 true).run Tryz.prog w = .ok (.tuple #[.int .i64 x,.bool true]) w:=fun _=>by kernel_rfl
 refine callsD_of_wpS Tryz.func16 rfl fun c₀ cs hu=>?_;apply wpS_seq;apply wpS_region;simp [wpOpsS,go_sem,recoverD,hu,Tryz.ntmps16];refine wpS_of_wp ?_;go_wp2_with fail;cases c₀;simp [bodyPostS,results,Tryz.results16]
end Go.Proofs.YtkfgabdnppmglaaGreatDoor
