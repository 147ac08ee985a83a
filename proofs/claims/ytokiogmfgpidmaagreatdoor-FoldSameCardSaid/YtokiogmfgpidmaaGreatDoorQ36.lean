/-
  eval.next: the value of the expression at the place. (gen_evnext.py) eval.next: ..
-/
import Derived.Test.YtokiogmfgpidmaaGreatDoorQ35
set_option maxRecDepth 100000
set_option maxHeartbeats 8000000
namespace Go.Proofs.YtokiogmfgpidmaaGreatDoor
open Go.RowKit Go.Wk Go.Sort
theorem eR{W w w1 w2:World}{R:Nat}{k:Cx}{q:Int}{r:Res}{e:Ending}(h:zZ W w1 R k q r e w2)(G:w.grownBy w1 (some R)):zZ W w R k q r e w2:=by
 refine⟨zg G h.1,?_⟩
 cases r with
 | error x=>exact h.2
 | ok V =>
  obtain⟨⟨A,n,c,he,hN,hF⟩,hE⟩:=h.2
  exact⟨⟨A,n,c,he,hN,λa ha=>(hF a ha).imp id (λz=>Nat.le_trans G.size z)⟩,hE⟩
theorem uf{W:World}{R N:Nat}{k:Cx}(ih:eV W R k N){w:World}{p:Nat}(h:ja W w R k (p:Int))(n:Nd)(ps:Exs)(hx:XAt k.P p false (.node n ps))(hN:(Ex.node n ps).flat.length<=N+1)(hop:n.op=11\/n.op=12)(hp:zt n=2):
 Calls Tryz.prog 30 #[.pointer (some ⟨R,0,none⟩)] w (zZ W w R k ((p+(Ex.node n ps).flat.length:Nat):Int) (evX k.env (.node n ps))):=by
 obtain⟨b1,b2,rfl,x1,x2,kQ⟩:=hx.two hp (lY (by omega));have ways:n.op=11\/n.op=12:=hop;have HR:=O (show evX k.env (.node n (.cons b1 (.cons b2 .nil)))=zQ k.env (decide (n.op=12)) (.cons b1 (.cons b2 .nil)) by rw [evX,if_neg (by omega),if_neg (by omega),if_pos hop]);have HF:=O (show((p+(Ex.node n (.cons b1 (.cons b2 .nil))).flat.length:Nat):Int)=((p+1+b1.flat.length+b2.flat.length:Nat):Int) by rw [kQ];congr 1;omega);rw [HR.o,HF.o];obtain⟨rr,gY⟩:∃rr:Res,rr=zQ k.env (decide (n.op=12)) (.cons b1 (.cons b2 .nil)):=⟨_,rfl⟩
 obtain⟨Qp,ot⟩:∃Qp:Int,Qp=((p+1+b1.flat.length+b2.flat.length:Nat):Int):=⟨_,rfl⟩
 rw [<-gY,<-ot];have hZ:=O gY;have C7:=O ot;clear gY ot;have l1:b1.flat.length<=N:=by omega
 have l2:b2.flat.length<=N:=by omega
 have X1:=O x1;have X2:=O x2;have IH:=O ih;obtain⟨a,ha,Gi,D,ho⟩:=h.node hx;obtain⟨o,v,s,t⟩:=n;obtain⟨d0,d1,d2,d3⟩:=D;dsimp only at d0 d1 d2 d3 ways;have hm:=h.cx.ns.max;unfold maxLen at hm;have c8:w.cell? ⟨R,8,none⟩=some (.slice (some a) k.n k.c):=by rw [<-ha];exact h.c8
 have c9:=h.c9;have z9:=h.z 9;have px:=h.lt;have HO:=O ho;have E1:=O (ax h (.cells #[.int .i64 o,.int .i64 v,.string s,.string t] 28)).1;have G1:=O (ax h (.cells #[.int .i64 o,.int .i64 v,.string s,.string t] 28)).2;have nw8:=World.new_ne w ⟨R,8,none⟩ c8;have nw9:=World.new_ne w ⟨R,9,none⟩ c9;have nd0:=World.new_ne w _ d0;have nd1:=World.new_ne w _ d1;have nd2:=World.new_ne w _ d2;have nd3:=World.new_ne w _ d3;have IK:(0:Int)<=(p:Int):=by omega
 generalize k.n=kn at *;have dK:(p:Int)<(kn:Int):=by omega
 clear ha ho hx h hp hop hN HR HF kQ x1 x2 ih;go_enter Tryz.func30,Tryz.ntmps30;go_wp2_with fail;go_region_held3 (λw':World=>w'.cell? ⟨R,8,none⟩=some (.slice (some a) kn k.c)/\w'.cell? ⟨R,9,none⟩=some (.int .i64 p)/\w'.cell? (a.add (p*4))=some (.int .i64 o)/\w'.cell? ⟨(a.add (p*4)).block,(a.add (p*4)).off+1,none⟩=some (.int .i64 v)/\w'.cell? ⟨(a.add (p*4)).block,(a.add (p*4)).off+2,none⟩=some (.string s)/\w'.cell? ⟨(a.add (p*4)).block,(a.add (p*4)).off+3,none⟩=some (.string t)) (go_keep) (fail);rcases ways with rfl|rfl
 ·have K:=O (BZ (p:=p+1) IH.o E1.o b1 b2 X1.o X2.o l1 l2);rw [show zQ k.env false (.cons b1 (.cons b2 .nil))=rr by rw [hZ.o];rfl,<-C7.o] at K;clear hZ;rcases rr with u|U
  ·go_wp2_with fail;refine K.o.mono ?_;rintro e w2 hp;have HP:=O (eR hp G1.o);obtain⟨-,rfl⟩:=hp;go_wp2_with fail;exact⟨rfl,HP.o⟩
  ·go_wp2_with fail;refine K.o.mono ?_;rintro e w2 hp;have HP:=O (eR hp G1.o);obtain⟨-,⟨A2,n2,c2,rfl,-,-⟩,-⟩:=hp;go_wp2_with fail;go_ret;exact HP.o
 ·have K:=O (Bt (p:=p+1) IH.o E1.o b1 b2 X1.o X2.o l1 l2);rw [show zQ k.env true (.cons b1 (.cons b2 .nil))=rr by rw [hZ.o];rfl,<-C7.o] at K;clear hZ;rcases rr with u|U
  ·go_wp2_with fail;refine K.o.mono ?_;rintro e w2 hp;have HP:=O (eR hp G1.o);obtain⟨-,rfl⟩:=hp;go_wp2_with fail;exact⟨rfl,HP.o⟩
  ·go_wp2_with fail;refine K.o.mono ?_;rintro e w2 hp;have HP:=O (eR hp G1.o);obtain⟨-,⟨A2,n2,c2,rfl,-,-⟩,-⟩:=hp;go_wp2_with fail;go_ret;exact HP.o
theorem aP:db.toList = [112,114,105,110,99,105,112,97,108]:=by kernel_rfl
theorem cQ:fO.toList = [97,99,116,105,111,110]:=by kernel_rfl
theorem dc:cd.toList = [114,101,115,111,117,114,99,101]:=by kernel_rfl
theorem gl:cE.toList = [99,111,110,116,101,120,116]:=by kernel_rfl
theorem xJ{W w:World}{R:Nat}{k:Cx}{p:Int}(h:ja W w R k p)(s:ByteArray):Calls Tryz.prog 56 #[.pointer (some ⟨R,0,none⟩),.string s] w (zZ W w R k p (aK k.env s)):=by
 have H:=O h;have Da:=h.cx.rq;by_cases g0:s=db
 ·subst g0;have f0:(db.toList == [112,114,105,110,99,105,112,97,108])=true:=beq_iff_eq.2 aP;have HR:=O (show aK k.env db = .ok (vK k.q.who) by unfold aK;rw [if_pos rfl];rfl);rw [HR.o];have KE:=O (λw=>fA k.q.who w Da.w1 Da.w2);have d1:=h.c1;have d2:=h.c2;clear h Da;go_enter Tryz.func56,Tryz.ntmps56;go_wp2_with fail;refine(KE.o _).mono ?_;rintro e w2 hp;have HP:=O (cP hp H.o (cr w _));obtain⟨-,A2,n2,c2,rfl,-,-⟩:=hp;go_wp2_with fail;go_ret;exact HP.o
 by_cases g1:s=fO
 ·subst g1;have f1:(fO.toList == [97,99,116,105,111,110])=true:=beq_iff_eq.2 cQ;have f0:(fO.toList == [112,114,105,110,99,105,112,97,108])=false:=beq_eq_false_iff_ne.2 (λq=>g0 (toList_inj (q.trans aP.symm)));have HR:=O (show aK k.env fO = .ok (vK k.q.act) by unfold aK;rw [if_neg g0];rw [if_pos rfl];rfl);rw [HR.o];have KE:=O (λw=>fA k.q.act w Da.a1 Da.a2);have d1:=h.c3;have d2:=h.c4;clear h Da g0;go_enter Tryz.func56,Tryz.ntmps56;go_wp2_with fail;refine(KE.o _).mono ?_;rintro e w2 hp;have HP:=O (cP hp H.o (cr w _));obtain⟨-,A2,n2,c2,rfl,-,-⟩:=hp;go_wp2_with fail;go_ret;exact HP.o
 by_cases g2:s=cd
 ·subst g2;have f2:(cd.toList == [114,101,115,111,117,114,99,101])=true:=beq_iff_eq.2 dc;have f0:(cd.toList == [112,114,105,110,99,105,112,97,108])=false:=beq_eq_false_iff_ne.2 (λq=>g0 (toList_inj (q.trans aP.symm)));have f1:(cd.toList == [97,99,116,105,111,110])=false:=beq_eq_false_iff_ne.2 (λq=>g1 (toList_inj (q.trans cQ.symm)));have HR:=O (show aK k.env cd = .ok (vK k.q.what) by unfold aK;rw [if_neg g0];rw [if_neg g1];rw [if_pos rfl];rfl);rw [HR.o];have KE:=O (λw=>fA k.q.what w Da.t1 Da.t2);have d1:=h.c5;have d2:=h.c6;clear h Da g0 g1;go_enter Tryz.func56,Tryz.ntmps56;go_wp2_with fail;refine(KE.o _).mono ?_;rintro e w2 hp;have HP:=O (cP hp H.o (cr w _));obtain⟨-,A2,n2,c2,rfl,-,-⟩:=hp;go_wp2_with fail;go_ret;exact HP.o
 by_cases g3:s=cE
 ·subst g3;have f3:(cE.toList == [99,111,110,116,101,120,116])=true:=beq_iff_eq.2 gl;have f0:(cE.toList == [112,114,105,110,99,105,112,97,108])=false:=beq_eq_false_iff_ne.2 (λq=>g0 (toList_inj (q.trans aP.symm)));have f1:(cE.toList == [97,99,116,105,111,110])=false:=beq_eq_false_iff_ne.2 (λq=>g1 (toList_inj (q.trans cQ.symm)));have f2:(cE.toList == [114,101,115,111,117,114,99,101])=false:=beq_eq_false_iff_ne.2 (λq=>g2 (toList_inj (q.trans dc.symm)));have HR:=O (show aK k.env cE = .ok k.q.P by unfold aK;rw [if_neg g0];rw [if_neg g1];rw [if_neg g2];rw [if_pos rfl];rfl);rw [HR.o];have d7:=h.c7;have NT:=O (show∀a,k.q.NA=some a->a.block<W.heap.size from λa e=>h.ok.rq.ns.at_.lt (cR h.ok.ok.ctx.1) a e);have vS:=O Da.ns;clear h Da g0 g1 g2;go_enter Tryz.func56,Tryz.ntmps56;go_wp2_with fail;go_ret;exact⟨cr w _,⟨_,_,_,rfl,vS.o,λa e => .inl (NT.o a e)⟩,H.o⟩
 have f0:(s.toList == [112,114,105,110,99,105,112,97,108])=false:=beq_eq_false_iff_ne.2 (λq=>g0 (toList_inj (q.trans aP.symm)));have f1:(s.toList == [97,99,116,105,111,110])=false:=beq_eq_false_iff_ne.2 (λq=>g1 (toList_inj (q.trans cQ.symm)));have f2:(s.toList == [114,101,115,111,117,114,99,101])=false:=beq_eq_false_iff_ne.2 (λq=>g2 (toList_inj (q.trans dc.symm)));have f3:(s.toList == [99,111,110,116,101,120,116])=false:=beq_eq_false_iff_ne.2 (λq=>g3 (toList_inj (q.trans gl.symm)));have HR:=O (show aK k.env s = .error 3 by unfold aK;rw [if_neg g0,if_neg g1,if_neg g2,if_neg g3]);rw [HR.o];clear h Da g0 g1 g2 g3;go_enter Tryz.func56,Tryz.ntmps56;go_wp2_with fail;exact⟨rfl,cr w _,rfl⟩
theorem Eu{W w:World}{R:Nat}{k:Cx}{p:Nat}(h:ja W w R k (p:Int))(n:Nd)(ps:Exs)(hx:XAt k.P p false (.node n ps))(hop:n.op=8)(hp:zt n=0):
 Calls Tryz.prog 30 #[.pointer (some ⟨R,0,none⟩)] w (zZ W w R k ((p+(Ex.node n ps).flat.length:Nat):Int) (evX k.env (.node n ps))):=by
 have ways:n.op=8:=hop;have HR:=O (show evX k.env (.node n ps)=aK k.env n.s by rw [evX,if_neg (by omega),if_pos hop]);rw [HR.o,(hx.none hp).2];obtain⟨rr,gY⟩:∃rr:Res,rr=aK k.env n.s:=⟨_,rfl⟩
 rw [<-gY];have hZ:=O gY;clear gY;obtain⟨a,ha,Gi,D,ho⟩:=h.node hx;obtain⟨o,v,s,t⟩:=n;obtain⟨d0,d1,d2,d3⟩:=D;dsimp only at d0 d1 d2 d3 ways;have hm:=h.cx.ns.max;unfold maxLen at hm;have c8:w.cell? ⟨R,8,none⟩=some (.slice (some a) k.n k.c):=by rw [<-ha];exact h.c8
 have c9:=h.c9;have z9:=h.z 9;have px:=h.lt;have HO:=O ho;have E1:=O (ax h (.cells #[.int .i64 o,.int .i64 v,.string s,.string t] 28)).1;have G1:=O (ax h (.cells #[.int .i64 o,.int .i64 v,.string s,.string t] 28)).2;have nw8:=World.new_ne w ⟨R,8,none⟩ c8;have nw9:=World.new_ne w ⟨R,9,none⟩ c9;have nd0:=World.new_ne w _ d0;have nd1:=World.new_ne w _ d1;have nd2:=World.new_ne w _ d2;have nd3:=World.new_ne w _ d3;have IK:(0:Int)<=(p:Int):=by omega
 generalize k.n=kn at *;have dK:(p:Int)<(kn:Int):=by omega
 clear ha ho hx h hp hop HR;go_enter Tryz.func30,Tryz.ntmps30;go_wp2_with fail;go_region_held3 (λw':World=>w'.cell? ⟨R,8,none⟩=some (.slice (some a) kn k.c)/\w'.cell? ⟨R,9,none⟩=some (.int .i64 p)/\w'.cell? (a.add (p*4))=some (.int .i64 o)/\w'.cell? ⟨(a.add (p*4)).block,(a.add (p*4)).off+1,none⟩=some (.int .i64 v)/\w'.cell? ⟨(a.add (p*4)).block,(a.add (p*4)).off+2,none⟩=some (.string s)/\w'.cell? ⟨(a.add (p*4)).block,(a.add (p*4)).off+3,none⟩=some (.string t)) (go_keep) (fail);subst ways;have K:=O (xJ E1.o s);rw [show aK k.env s=rr from hZ.o.symm] at K;clear hZ;rcases rr with u|U
 ·go_wp2_with fail;refine K.o.mono ?_;rintro e w2 hp;have HP:=O (eR hp G1.o);obtain⟨-,rfl⟩:=hp;go_wp2_with fail;exact⟨rfl,HP.o⟩
 ·go_wp2_with fail;refine K.o.mono ?_;rintro e w2 hp;have HP:=O (eR hp G1.o);obtain⟨-,⟨A2,n2,c2,rfl,-,-⟩,-⟩:=hp;go_wp2_with fail;go_ret;exact HP.o
theorem tJ{W:World}{R N:Nat}{k:Cx}(ih:eV W R k N){w:World}{p:Nat}(h:ja W w R k (p:Int))(n:Nd)(ps:Exs)(hx:XAt k.P p false (.node n ps))(hN:(Ex.node n ps).flat.length<=N+1)(hop:n.op=13)(hp:zt n=3):
 Calls Tryz.prog 30 #[.pointer (some ⟨R,0,none⟩)] w (zZ W w R k ((p+(Ex.node n ps).flat.length:Nat):Int) (evX k.env (.node n ps))):=by
 obtain⟨b1,b2,b3,rfl,x1,x2,x3,kQ⟩:=hx.three hp (lY (by omega));have ways:n.op=13:=hop;have HR:=O (show evX k.env (.node n (.cons b1 (.cons b2 (.cons b3 .nil))))=dE k.env (.cons b1 (.cons b2 (.cons b3 .nil))) by rw [evX,if_neg (by omega),if_neg (by omega),if_neg (by omega),if_pos hop]);have HF:=O (show((p+(Ex.node n (.cons b1 (.cons b2 (.cons b3 .nil)))).flat.length:Nat):Int)=((p+1+b1.flat.length+b2.flat.length+b3.flat.length:Nat):Int) by rw [kQ];congr 1;omega);rw [HR.o,HF.o];obtain⟨rr,gY⟩:∃rr:Res,rr=dE k.env (.cons b1 (.cons b2 (.cons b3 .nil))):=⟨_,rfl⟩
 obtain⟨Qp,ot⟩:∃Qp:Int,Qp=((p+1+b1.flat.length+b2.flat.length+b3.flat.length:Nat):Int):=⟨_,rfl⟩
 rw [<-gY,<-ot];have hZ:=O gY;have C7:=O ot;clear gY ot;have l1:b1.flat.length<=N:=by omega
 have l2:b2.flat.length<=N:=by omega
 have l3:b3.flat.length<=N:=by omega
 have X1:=O x1;have X2:=O x2;have X3:=O x3;have IH:=O ih;obtain⟨a,ha,Gi,D,ho⟩:=h.node hx;obtain⟨o,v,s,t⟩:=n;obtain⟨d0,d1,d2,d3⟩:=D;dsimp only at d0 d1 d2 d3 ways;have hm:=h.cx.ns.max;unfold maxLen at hm;have c8:w.cell? ⟨R,8,none⟩=some (.slice (some a) k.n k.c):=by rw [<-ha];exact h.c8
 have c9:=h.c9;have z9:=h.z 9;have px:=h.lt;have HO:=O ho;have E1:=O (ax h (.cells #[.int .i64 o,.int .i64 v,.string s,.string t] 28)).1;have G1:=O (ax h (.cells #[.int .i64 o,.int .i64 v,.string s,.string t] 28)).2;have nw8:=World.new_ne w ⟨R,8,none⟩ c8;have nw9:=World.new_ne w ⟨R,9,none⟩ c9;have nd0:=World.new_ne w _ d0;have nd1:=World.new_ne w _ d1;have nd2:=World.new_ne w _ d2;have nd3:=World.new_ne w _ d3;have IK:(0:Int)<=(p:Int):=by omega
 generalize k.n=kn at *;have dK:(p:Int)<(kn:Int):=by omega
 clear ha ho hx h hp hop hN HR HF kQ x1 x2 x3 ih;go_enter Tryz.func30,Tryz.ntmps30;go_wp2_with fail;go_region_held3 (λw':World=>w'.cell? ⟨R,8,none⟩=some (.slice (some a) kn k.c)/\w'.cell? ⟨R,9,none⟩=some (.int .i64 p)/\w'.cell? (a.add (p*4))=some (.int .i64 o)/\w'.cell? ⟨(a.add (p*4)).block,(a.add (p*4)).off+1,none⟩=some (.int .i64 v)/\w'.cell? ⟨(a.add (p*4)).block,(a.add (p*4)).off+2,none⟩=some (.string s)/\w'.cell? ⟨(a.add (p*4)).block,(a.add (p*4)).off+3,none⟩=some (.string t)) (go_keep) (fail);subst ways;have K:=O (vE (p:=p+1) IH.o E1.o b1 b2 b3 X1.o X2.o X3.o l1 l2 l3);rw [<-hZ.o,<-C7.o] at K;clear hZ;rcases rr with u|U
 ·go_wp2_with fail;refine K.o.mono ?_;rintro e w2 hp;have HP:=O (eR hp G1.o);obtain⟨-,rfl⟩:=hp;go_wp2_with fail;exact⟨rfl,HP.o⟩
 ·go_wp2_with fail;refine K.o.mono ?_;rintro e w2 hp;have HP:=O (eR hp G1.o);obtain⟨-,⟨A2,n2,c2,rfl,-,-⟩,-⟩:=hp;go_wp2_with fail;go_ret;exact HP.o
theorem FA{W:World}{R N:Nat}{k:Cx}(ih:eV W R k N){w:World}{p:Nat}(h:ja W w R k (p:Int))(n:Nd)(ps:Exs)(hx:XAt k.P p false (.node n ps))(hN:(Ex.node n ps).flat.length<=N+1)(hop:n.op=5)(bX:k.P.length<=200):
 Calls Tryz.prog 30 #[.pointer (some ⟨R,0,none⟩)] w (zZ W w R k ((p+(Ex.node n ps).flat.length:Nat):Int) (evX k.env (.node n ps))):=by
 have ways:n.op=5:=hop;have HR:=O (show evX k.env (.node n ps)=BL (evS k.env ps) by rw [evX,if_neg (by omega),if_neg (by omega),if_neg (by omega),if_neg (by omega),if_neg (by omega)];rcases evS k.env ps with e|L <;> simp [BL,hop]);have kQ:(Ex.node n ps).flat.length=ps.flat.length+1:=by simp [Ex.flat]
 have HF:=O (show((p+(Ex.node n ps).flat.length:Nat):Int)=((p+1+ps.flat.length:Nat):Int) by rw [kQ];congr 1;omega);rw [HR.o,HF.o];obtain⟨rr,gY⟩:∃rr:Res,rr=BL (evS k.env ps):=⟨_,rfl⟩
 obtain⟨Qp,ot⟩:∃Qp:Int,Qp=((p+1+ps.flat.length:Nat):Int):=⟨_,rfl⟩
 rw [<-gY,<-ot];have hZ:=O gY;have C7:=O ot;clear gY ot;have l1:ps.flat.length<=N:=by omega
 have X1:=O (show gU k.P (p+1) false ps by have:=hx.parts;rwa [show zP (Ex.node n ps).head=false from decide_eq_false (by show n.op≠6;omega)] at this);have HN:=O (show n.n=(ps.len:Int) by have:=hx.valid.2.1;unfold zt at this;rw [if_pos (by omega)] at this;exact this.symm);have h2:ps.len<=200:=by have:=hx.le;have:=am ps;omega
 have IH:=O ih;obtain⟨a,ha,Gi,D,ho⟩:=h.node hx;obtain⟨o,v,s,t⟩:=n;obtain⟨d0,d1,d2,d3⟩:=D;dsimp only at d0 d1 d2 d3 ways;have hm:=h.cx.ns.max;unfold maxLen at hm;have c8:w.cell? ⟨R,8,none⟩=some (.slice (some a) k.n k.c):=by rw [<-ha];exact h.c8
 have c9:=h.c9;have z9:=h.z 9;have px:=h.lt;have HO:=O ho;have E1:=O (ax h (.cells #[.int .i64 o,.int .i64 v,.string s,.string t] 28)).1;have G1:=O (ax h (.cells #[.int .i64 o,.int .i64 v,.string s,.string t] 28)).2;have nw8:=World.new_ne w ⟨R,8,none⟩ c8;have nw9:=World.new_ne w ⟨R,9,none⟩ c9;have nd0:=World.new_ne w _ d0;have nd1:=World.new_ne w _ d1;have nd2:=World.new_ne w _ d2;have nd3:=World.new_ne w _ d3;have IK:(0:Int)<=(p:Int):=by omega
 generalize k.n=kn at *;have dK:(p:Int)<(kn:Int):=by omega
 clear ha ho hx h hop hN HR HF kQ ih bX;go_enter Tryz.func30,Tryz.ntmps30;go_wp2_with fail;go_region_held3 (λw':World=>w'.cell? ⟨R,8,none⟩=some (.slice (some a) kn k.c)/\w'.cell? ⟨R,9,none⟩=some (.int .i64 p)/\w'.cell? (a.add (p*4))=some (.int .i64 o)/\w'.cell? ⟨(a.add (p*4)).block,(a.add (p*4)).off+1,none⟩=some (.int .i64 v)/\w'.cell? ⟨(a.add (p*4)).block,(a.add (p*4)).off+2,none⟩=some (.string s)/\w'.cell? ⟨(a.add (p*4)).block,(a.add (p*4)).off+3,none⟩=some (.string t)) (go_keep) (fail);subst ways;have K:=O (D8 (p:=p+1) IH.o E1.o ⟨5,v,s,t⟩ ps X1.o rfl HN.o l1 h2);unfold ndV at K;rw [<-hZ.o,<-C7.o] at K;clear hZ;rcases rr with u|U
 ·go_wp2_with fail;refine K.o.mono ?_;rintro e w2 hp;have HP:=O (eR hp G1.o);obtain⟨-,rfl⟩:=hp;go_wp2_with fail;exact⟨rfl,HP.o⟩
 ·go_wp2_with fail;refine K.o.mono ?_;rintro e w2 hp;have HP:=O (eR hp G1.o);obtain⟨-,⟨A2,n2,c2,rfl,-,-⟩,-⟩:=hp;go_wp2_with fail;go_ret;exact HP.o
theorem Fo{W:World}{R N:Nat}{k:Cx}(ih:eV W R k N){w:World}{p:Nat}(h:ja W w R k (p:Int))(n:Nd)(ps:Exs)(hx:XAt k.P p false (.node n ps))(hN:(Ex.node n ps).flat.length<=N+1)(hop:n.op=6)(bX:k.P.length<=200):
 Calls Tryz.prog 30 #[.pointer (some ⟨R,0,none⟩)] w (zZ W w R k ((p+(Ex.node n ps).flat.length:Nat):Int) (evX k.env (.node n ps))):=by
 have ways:n.op=6:=hop;have HR:=O (show evX k.env (.node n ps)=Dc (evF k.env ps) by rw [evX,if_neg (by omega),if_neg (by omega),if_neg (by omega),if_neg (by omega),if_pos hop];rcases evF k.env ps with e|L <;> rfl);have kQ:(Ex.node n ps).flat.length=ps.flat.length+1:=by simp [Ex.flat]
 have HF:=O (show((p+(Ex.node n ps).flat.length:Nat):Int)=((p+1+ps.flat.length:Nat):Int) by rw [kQ];congr 1;omega);rw [HR.o,HF.o];obtain⟨rr,gY⟩:∃rr:Res,rr=Dc (evF k.env ps):=⟨_,rfl⟩
 obtain⟨Qp,ot⟩:∃Qp:Int,Qp=((p+1+ps.flat.length:Nat):Int):=⟨_,rfl⟩
 rw [<-gY,<-ot];have hZ:=O gY;have C7:=O ot;clear gY ot;have l1:ps.flat.length<=N:=by omega
 have X1:=O (show gU k.P (p+1) true ps by have:=hx.parts;rwa [show zP (Ex.node n ps).head=true from decide_eq_true hop] at this);have HN:=O (show n.n=(ps.len:Int) by have:=hx.valid.2.1;unfold zt at this;rw [if_pos (by omega)] at this;exact this.symm);have h2:ps.len<=200:=by have:=hx.le;have:=am ps;omega
 have IH:=O ih;obtain⟨a,ha,Gi,D,ho⟩:=h.node hx;obtain⟨o,v,s,t⟩:=n;obtain⟨d0,d1,d2,d3⟩:=D;dsimp only at d0 d1 d2 d3 ways;have hm:=h.cx.ns.max;unfold maxLen at hm;have c8:w.cell? ⟨R,8,none⟩=some (.slice (some a) k.n k.c):=by rw [<-ha];exact h.c8
 have c9:=h.c9;have z9:=h.z 9;have px:=h.lt;have HO:=O ho;have E1:=O (ax h (.cells #[.int .i64 o,.int .i64 v,.string s,.string t] 28)).1;have G1:=O (ax h (.cells #[.int .i64 o,.int .i64 v,.string s,.string t] 28)).2;have nw8:=World.new_ne w ⟨R,8,none⟩ c8;have nw9:=World.new_ne w ⟨R,9,none⟩ c9;have nd0:=World.new_ne w _ d0;have nd1:=World.new_ne w _ d1;have nd2:=World.new_ne w _ d2;have nd3:=World.new_ne w _ d3;have IK:(0:Int)<=(p:Int):=by omega
 generalize k.n=kn at *;have dK:(p:Int)<(kn:Int):=by omega
 clear ha ho hx h hop hN HR HF kQ ih bX;go_enter Tryz.func30,Tryz.ntmps30;go_wp2_with fail;go_region_held3 (λw':World=>w'.cell? ⟨R,8,none⟩=some (.slice (some a) kn k.c)/\w'.cell? ⟨R,9,none⟩=some (.int .i64 p)/\w'.cell? (a.add (p*4))=some (.int .i64 o)/\w'.cell? ⟨(a.add (p*4)).block,(a.add (p*4)).off+1,none⟩=some (.int .i64 v)/\w'.cell? ⟨(a.add (p*4)).block,(a.add (p*4)).off+2,none⟩=some (.string s)/\w'.cell? ⟨(a.add (p*4)).block,(a.add (p*4)).off+3,none⟩=some (.string t)) (go_keep) (fail);subst ways;have K:=O (EW (p:=p+1) IH.o E1.o ⟨6,v,s,t⟩ ps X1.o rfl HN.o l1 h2);unfold ndV at K;rw [<-hZ.o,<-C7.o] at K;clear hZ;rcases rr with u|U
 ·go_wp2_with fail;refine K.o.mono ?_;rintro e w2 hp;have HP:=O (eR hp G1.o);obtain⟨-,rfl⟩:=hp;go_wp2_with fail;exact⟨rfl,HP.o⟩
 ·go_wp2_with fail;refine K.o.mono ?_;rintro e w2 hp;have HP:=O (eR hp G1.o);obtain⟨-,⟨A2,n2,c2,rfl,-,-⟩,-⟩:=hp;go_wp2_with fail;go_ret;exact HP.o
theorem I6{W w:World}{R:Nat}{k:Cx}{p:Int}(_h:ja W w R k p)(x:Nd):Nd4 ((w.setCell ⟨R,9,none⟩ (.int .i64 (p+1))).alloc (.cells #[.int .i64 x.op,.int .i64 x.n,.string x.s,.string x.t] 28)).drew ⟨w.heap.size,0,none⟩ x:=by
 have h1:=fW (w.setCell ⟨R,9,none⟩ (.int .i64 (p+1))) x 28;rw [show(w.setCell ⟨R,9,none⟩ (.int .i64 (p+1))).heap.size=w.heap.size by simp [World.setCell]] at h1;exact h1.keep (z6 _)
theorem Nd4.but{w w':World}{b:Nat}{x:Nd}{R:Nat}(h:Nd4 w ⟨b,0,none⟩ x)(hg:w.grownBy w' (some R))(hne:b≠R):Nd4 w' ⟨b,0,none⟩ x :=
 have e:some b≠some R:=λq=>hne (by injection q)
 ⟨hg.cell h.c0 e,hg.cell h.c1 e,hg.cell h.c2 e,hg.cell h.c3 e⟩
theorem BU(σ:Env){n:Nd}{a:Ex}(h:n.op=9\/n.op=10\/n.op=21\/n.op=22\/n.op=23\/n.op=24):evX σ (.node n (.cons a .nil))=(match evX σ a with | .error e => .error e | .ok V=>ar σ.E n V):=by
 rw [evX,if_neg (by omega),if_neg (by omega),if_neg (by omega),if_neg (by omega),if_neg (by omega)];simp only [evS];rcases evX σ a with e|V
 ·rfl
 ·simp only [fh];rw [if_neg (by omega)]
theorem Ap(σ:Env){n:Nd}{a b:Ex}(h:14<=n.op/\n.op<=20\/25<=n.op/\n.op<=27):evX σ (.node n (.cons a (.cons b .nil)))=(match evX σ a with | .error e => .error e | .ok V=>match evX σ b with | .error e => .error e | .ok U=>j7 σ.E n.op V U):=by
 rw [evX,if_neg (by omega),if_neg (by omega),if_neg (by omega),if_neg (by omega),if_neg (by omega)];simp only [evS];rcases evX σ a with e|V
 ·rfl
 ·simp only;rcases evX σ b with e|U
  ·rfl
  ·simp only [fh];rw [if_neg (by omega)]
theorem lu{w:World}{R:Nat}{k:Cx}(h:br w R k)(x:Nd)(hx:x.op=9\/x.op=10\/x.op=21\/x.op=22\/x.op=23\/x.op=24)(hs:x.s.size<=maxLen)(A:Option Addr)(n c:Nat)(V:List Nd)(hv:Ns w A n c V)(h0:0<V.length):
 Calls Tryz.prog 60 #[.pointer (some ⟨R,0,none⟩),ndV x,.slice A n c] w (zU w (ar k.E x V)):=by
 rcases hx with q|q|q|q|q|q
 ·exact xB h x q A n c V hv h0
 ·exact x9 h x q A n c V hv h0
 ·exact xR h x q A n c V hv h0
 ·exact wK h x q A n c V hv h0
 ·exact tB h x q hs A n c V hv h0
 ·exact Br h x q A n c V hv h0
theorem Au{w:World}{R:Nat}{k:Cx}(h:br w R k)(A B:Option Addr)(n m c d:Nat)(P Q:List Nd)(hP:Ns w A n c P)(h0:0<P.length)(hQ:Ns w B m d Q)(h1:0<Q.length)(vQ:zc Q=0):
 Calls Tryz.prog 61 #[.pointer (some ⟨R,0,none⟩),.int .i64 20,.slice A n c,.slice B m d] w (zU w (j7 k.E 20 P Q)):=by
 have K:=O (H8 h A B n m c d P Q hP h0 hQ h1 vQ);unfold nO at K;have HR:=O (show j7 k.E 20 P Q=(if zf P=4/\(jY Q).all (λt=>decide (zf t=4)) then .ok (zK ((jY Q).any λt=>inB k.E (jX P) (jX t))) else .error 2) by unfold j7;rw [if_neg (by decide),if_pos rfl];rfl);rw [HR.o];generalize ((jY Q).any λt=>inB k.E (jX P) (jX t))=b at *;clear h hP h0 hQ h1 vQ;by_cases g:zf P=4/\(jY Q).all (λt=>decide (zf t=4))=true
 ·rw [if_pos g];simp only [if_pos g] at K;clear g HR;go_enter Tryz.func61,Tryz.ntmps61;go_wp2_with fail;refine K.o.mono ?_;rintro e w1 ⟨b1,rfl⟩;have B1:=O b1;clear b1 K;go_wp2_with fail;refine(jz b w1).mono ?_;rintro e w2 hp;have HP:=O (hp.up B1.o);obtain⟨-,A2,n2,c2,rfl,-,-⟩:=hp;go_wp2_with fail;go_ret;exact HP.o
 ·rw [if_neg g];simp only [if_neg g] at K;clear g HR;go_enter Tryz.func61,Tryz.ntmps61;go_wp2_with fail;refine K.o.mono ?_;rintro e w1 ⟨b1,rfl⟩;have B1:=O b1;clear b1 K;go_wp2_with fail;exact⟨rfl,jx B1.o⟩
theorem kX{w:World}{R:Nat}{k:Cx}(h:br w R k)(op:Int)(A B:Option Addr)(n m c d:Nat)(P Q:List Nd)(hP:Ns w A n c P)(h0:0<P.length)(hQ:Ns w B m d Q)(h1:0<Q.length)(vQ:zc Q=0):
 Calls Tryz.prog 61 #[.pointer (some ⟨R,0,none⟩),.int .i64 op,.slice A n c,.slice B m d] w (zU w (j7 k.E op P Q)):=by
 by_cases q14:op=14
 ·subst q14;exact Cu h A B n m c d P Q hP hQ
 by_cases q20:op=20
 ·subst q20;exact Au h A B n m c d P Q hP h0 hQ h1 vQ
 by_cases q25:op=25
 ·subst q25;exact xf h A B n m c d P Q hP hQ
 by_cases q26:op=26
 ·subst q26;exact wi h A B n m c d P Q hP hQ
 by_cases q27:op=27
 ·subst q27;exact wl h A B n m c d P Q hP hQ
 by_cases g:zf P=2
 ·by_cases g2:zf Q=2
  ·by_cases q15:op=15
   ·subst q15;exact Cc h A B n m c d P Q hP h0 hQ h1 g g2
   by_cases q16:op=16
   ·subst q16;exact BI h A B n m c d P Q hP h0 hQ h1 g g2
   exact Bv h op ⟨q14,q20,q25,q26,q27⟩ ⟨q15,q16⟩ A B n m c d P Q hP h0 hQ h1 g g2
  ·exact wt h op ⟨q14,q20,q25,q26,q27⟩ A B n m c d P Q hP h0 hQ h1 g g2
 ·exact xe h op ⟨q14,q20,q25,q26,q27⟩ A B n m c d P Q hP h0 hQ h1 g
theorem vi{W:World}{R N:Nat}{k:Cx}(ih:eV W R k N){w:World}{p:Nat}(h:ja W w R k (p:Int))(n:Nd)(ps:Exs)(hx:XAt k.P p false (.node n ps))(hN:(Ex.node n ps).flat.length<=N+1)(hop:n.op=9\/n.op=10\/n.op=21\/n.op=22\/n.op=23\/n.op=24)(hp:zt n=1):
 Calls Tryz.prog 30 #[.pointer (some ⟨R,0,none⟩)] w (zZ W w R k ((p+(Ex.node n ps).flat.length:Nat):Int) (evX k.env (.node n ps))):=by
 obtain⟨b1,rfl,x1,kQ⟩:=hx.one hp (lY (by omega));have ways:=hop;have HR:=O (BU k.env (a:=b1) hop);have HF:=O (show((p+(Ex.node n (.cons b1 .nil)).flat.length:Nat):Int)=((p+1+b1.flat.length:Nat):Int) by rw [kQ];congr 1;omega);rw [HR.o,HF.o];obtain⟨rr,gY⟩:∃rr:Res,rr=(match evX k.env b1 with | .error e => .error e | .ok V=>ar k.env.E n V):=⟨_,rfl⟩
 obtain⟨Qp,ot⟩:∃Qp:Int,Qp=((p+1+b1.flat.length:Nat):Int):=⟨_,rfl⟩
 rw [<-gY,<-ot];have hZ:=O gY;have C7:=O ot;clear gY ot;have l1:b1.flat.length<=N:=by omega
 have X1:=O x1;have IH:=O ih;have MY:=O h.ok.ok;have B4:=O (I6 h n);obtain⟨a,ha,Gi,D,ho⟩:=h.node hx;obtain⟨o,v,s,t⟩:=n;obtain⟨d0,d1,d2,d3⟩:=D;dsimp only at d0 d1 d2 d3 ways;have hm:=h.cx.ns.max;unfold maxLen at hm;have c8:w.cell? ⟨R,8,none⟩=some (.slice (some a) k.n k.c):=by rw [<-ha];exact h.c8
 have c9:=h.c9;have z9:=h.z 9;have px:=h.lt;have HO:=O ho;have E1:=O (ax h (.cells #[.int .i64 o,.int .i64 v,.string s,.string t] 28)).1;have G1:=O (ax h (.cells #[.int .i64 o,.int .i64 v,.string s,.string t] 28)).2;have nw8:=World.new_ne w ⟨R,8,none⟩ c8;have nw9:=World.new_ne w ⟨R,9,none⟩ c9;have nd0:=World.new_ne w _ d0;have nd1:=World.new_ne w _ d1;have nd2:=World.new_ne w _ d2;have nd3:=World.new_ne w _ d3;have IK:(0:Int)<=(p:Int):=by omega
 generalize k.n=kn at *;have dK:(p:Int)<(kn:Int):=by omega
 clear ha ho hx h hp hop hN HR HF kQ x1 ih;go_enter Tryz.func30,Tryz.ntmps30;go_wp2_with fail;go_region_held3 (λw':World=>w'.cell? ⟨R,8,none⟩=some (.slice (some a) kn k.c)/\w'.cell? ⟨R,9,none⟩=some (.int .i64 p)/\w'.cell? (a.add (p*4))=some (.int .i64 o)/\w'.cell? ⟨(a.add (p*4)).block,(a.add (p*4)).off+1,none⟩=some (.int .i64 v)/\w'.cell? ⟨(a.add (p*4)).block,(a.add (p*4)).off+2,none⟩=some (.string s)/\w'.cell? ⟨(a.add (p*4)).block,(a.add (p*4)).off+3,none⟩=some (.string t)) (go_keep) (fail);have MW:w.heap.size≠R:=by omega
 have K1:=O (IH.o b1 (p+1) _ E1.o X1.o l1);rcases qa:evX k.env b1 with u|V
 ·obtain rfl:rr = .error u:=by rw [hZ.o,qa]
  rw [qa] at K1;unfold zZ at K1;clear qa;rcases ways with rfl|rfl|rfl|rfl|rfl|rfl
  all_goals
   go_wp2_with fail;refine K1.o.mono ?_;rintro e w2 ⟨g2,rfl⟩;have G2:=O (zg G1.o g2);clear g2;go_wp2_with fail;exact⟨rfl,G2.o,rfl⟩
 ·obtain⟨-,pV⟩:=fg MY.o X1.o qa;have hr3:ar k.E ⟨o,v,s,t⟩ V=rr:=by rw [hZ.o,qa];rfl
  rw [qa,<-C7.o] at K1;unfold zZ at K1;have KSF:=O (λ(q:Int) (w2:World) (E2:ja W w2 R k q) (A2:Option Addr) (n2 c2:Nat) (N2:Ns w2 A2 n2 c2 V)=>lu E2.y ⟨o,v,s,t⟩ ways HO.o.s A2 n2 c2 V N2 pV);clear qa hZ;rcases ways with rfl|rfl|rfl|rfl|rfl|rfl
  all_goals
   go_wp2_with fail;refine K1.o.mono ?_;rintro e w2 ⟨g2,⟨A2,n2,c2,rfl,N2,F2⟩,E2⟩;have G2:=O (zg G1.o g2);obtain⟨y0,y1,y2,y3⟩:=B4.o.but g2 MW;have KS:=O (KSF.o _ w2 E2 A2 n2 c2 N2);have aC:=O E2;clear g2 N2 F2 E2 K1;rw [hr3] at KS;unfold ndV at KS;dsimp only at KS y0 y1 y2 y3;clear hr3;rcases rr with u|U
   ·go_wp2_with fail;refine KS.o.mono ?_;rintro e w3 hp;have HP:=O (cP hp aC.o G2.o);obtain⟨-,rfl⟩:=hp;go_wp2_with fail;exact⟨rfl,HP.o⟩
   ·go_wp2_with fail;refine KS.o.mono ?_;rintro e w3 hp;have HP:=O (cP hp aC.o G2.o);obtain⟨-,A3,n3,c3,rfl,-,-⟩:=hp;go_wp2_with fail;go_ret;exact HP.o
noncomputable def Hg(E:List En)(op:Int)(x y:Res):Res:=match x with
 | .error e => .error e
 | .ok V=>match y with
  | .error e => .error e
  | .ok U=>j7 E op V U
theorem JE(σ:Env){n:Nd}{a b:Ex}(h:14<=n.op/\n.op<=20\/25<=n.op/\n.op<=27):evX σ (.node n (.cons a (.cons b .nil)))=Hg σ.E n.op (evX σ a) (evX σ b):=by
 rw [Ap σ h];unfold Hg;rcases evX σ a with e|V
 ·rfl
 ·rcases evX σ b with e|U <;> rfl
theorem uH{W:World}{R N:Nat}{k:Cx}(ih:eV W R k N){w:World}{p:Nat}(h:ja W w R k (p:Int))(n:Nd)(ps:Exs)(hx:XAt k.P p false (.node n ps))(hN:(Ex.node n ps).flat.length<=N+1)(hop:14<=n.op/\n.op<=20\/25<=n.op/\n.op<=27)(hp:zt n=2):
 Calls Tryz.prog 30 #[.pointer (some ⟨R,0,none⟩)] w (zZ W w R k ((p+(Ex.node n ps).flat.length:Nat):Int) (evX k.env (.node n ps))):=by
 obtain⟨b1,b2,rfl,x1,x2,kQ⟩:=hx.two hp (lY (by omega));have ways:=hop;have HR:=O (JE k.env (a:=b1) (b:=b2) hop);have HF:=O (show((p+(Ex.node n (.cons b1 (.cons b2 .nil))).flat.length:Nat):Int)=((p+1+b1.flat.length+b2.flat.length:Nat):Int) by rw [kQ];congr 1;omega);rw [HR.o,HF.o];obtain⟨rr,gY⟩:∃rr:Res,rr=Hg k.env.E n.op (evX k.env b1) (evX k.env b2):=⟨_,rfl⟩
 obtain⟨Qp,ot⟩:∃Qp:Int,Qp=((p+1+b1.flat.length+b2.flat.length:Nat):Int):=⟨_,rfl⟩
 rw [<-gY,<-ot];have hZ:=O gY;have C7:=O ot;clear gY ot;have l1:b1.flat.length<=N:=by omega
 have l2:b2.flat.length<=N:=by omega
 have X1:=O x1;have X2:=O x2;have IH:=O ih;have MY:=O h.ok.ok;have B4:=O (I6 h n);obtain⟨a,ha,Gi,D,ho⟩:=h.node hx;obtain⟨o,v,s,t⟩:=n;obtain⟨d0,d1,d2,d3⟩:=D;dsimp only at d0 d1 d2 d3 ways;have hm:=h.cx.ns.max;unfold maxLen at hm;have c8:w.cell? ⟨R,8,none⟩=some (.slice (some a) k.n k.c):=by rw [<-ha];exact h.c8
 have c9:=h.c9;have z9:=h.z 9;have px:=h.lt;have HO:=O ho;have E1:=O (ax h (.cells #[.int .i64 o,.int .i64 v,.string s,.string t] 28)).1;have G1:=O (ax h (.cells #[.int .i64 o,.int .i64 v,.string s,.string t] 28)).2;have nw8:=World.new_ne w ⟨R,8,none⟩ c8;have nw9:=World.new_ne w ⟨R,9,none⟩ c9;have nd0:=World.new_ne w _ d0;have nd1:=World.new_ne w _ d1;have nd2:=World.new_ne w _ d2;have nd3:=World.new_ne w _ d3;have IK:(0:Int)<=(p:Int):=by omega
 have f1:(o==1)=false:=beq_eq_false_iff_ne.2 (by omega);have f2:(o==2)=false:=beq_eq_false_iff_ne.2 (by omega);have f3:(o==3)=false:=beq_eq_false_iff_ne.2 (by omega);have f4:(o==4)=false:=beq_eq_false_iff_ne.2 (by omega);have f8:(o==8)=false:=beq_eq_false_iff_ne.2 (by omega);have f11:(o==11)=false:=beq_eq_false_iff_ne.2 (by omega);have f12:(o==12)=false:=beq_eq_false_iff_ne.2 (by omega);have f13:(o==13)=false:=beq_eq_false_iff_ne.2 (by omega);have f5:(o==5)=false:=beq_eq_false_iff_ne.2 (by omega);have f6:(o==6)=false:=beq_eq_false_iff_ne.2 (by omega);have f9:(o==9)=false:=beq_eq_false_iff_ne.2 (by omega);have f10:(o==10)=false:=beq_eq_false_iff_ne.2 (by omega);have f21:(o==21)=false:=beq_eq_false_iff_ne.2 (by omega);have f22:(o==22)=false:=beq_eq_false_iff_ne.2 (by omega);have f23:(o==23)=false:=beq_eq_false_iff_ne.2 (by omega);have f24:(o==24)=false:=beq_eq_false_iff_ne.2 (by omega);generalize k.n=kn at *;have dK:(p:Int)<(kn:Int):=by omega
 clear ha ho hx h hp hop hN HR HF kQ x1 x2 ih;go_enter Tryz.func30,Tryz.ntmps30;go_wp2_with fail;go_region_held3 (λw':World=>w'.cell? ⟨R,8,none⟩=some (.slice (some a) kn k.c)/\w'.cell? ⟨R,9,none⟩=some (.int .i64 p)/\w'.cell? (a.add (p*4))=some (.int .i64 o)/\w'.cell? ⟨(a.add (p*4)).block,(a.add (p*4)).off+1,none⟩=some (.int .i64 v)/\w'.cell? ⟨(a.add (p*4)).block,(a.add (p*4)).off+2,none⟩=some (.string s)/\w'.cell? ⟨(a.add (p*4)).block,(a.add (p*4)).off+3,none⟩=some (.string t)) (go_keep) (fail);have MW:w.heap.size≠R:=by omega
 have K1:=O (IH.o b1 (p+1) _ E1.o X1.o l1);rcases qa:evX k.env b1 with u|V
 ·obtain rfl:rr = .error u:=by rw [hZ.o,qa];rfl
  rw [qa] at K1;unfold zZ at K1;clear qa ways;go_wp2_with fail;refine K1.o.mono ?_;rintro e w2 ⟨g2,rfl⟩;have G2:=O (zg G1.o g2);clear g2;go_wp2_with fail;exact⟨rfl,G2.o,rfl⟩
 obtain⟨-,pV⟩:=fg MY.o X1.o qa;have PV:=O pV;rw [qa] at K1;unfold zZ at K1;have Le:=O (show rr=Hg k.E o (.ok V) (evX k.env b2) by rw [hZ.o,qa];rfl);clear qa ways hZ pV;go_wp2_with fail;refine K1.o.mono ?_;rintro e w2 ⟨g2,⟨A2,n2,c2,rfl,N2,F2⟩,E2⟩;have G2:=O (zg G1.o g2);obtain⟨y0,y1,y2,y3⟩:=B4.o.but g2 MW;dsimp only at y0 y1 y2 y3;have aC:=O E2;have vX:=O N2;clear g2 N2 F2 E2 K1;go_wp2_with fail;have HD2:=O (aC.o.keep (z6 w2));have GD2:=O (zg G2.o (zj (z6 w2) (some R)));have ND2:=O (vX.o.keep (z6 w2));have K2:=O (IH.o b2 (p+1+b1.flat.length) w2.drew HD2.o X2.o l2);refine aE (λ(w':World)=>w'.cell? ⟨w.heap.size,0,none⟩=some (.int .i64 o)) 7 (by kernel_rfl) (show w2.drew.cell? ⟨w.heap.size,0,none⟩=some (.int .i64 o) from y0) (λhHeld=>?_);refine zw 0 69 (.pointer (some ⟨R,0,none⟩)) rfl (λw' hSw=>?_) hHeld ?_
 ·go_simp
 simp only [Act.put,zA];refine zw 1 70 (.pointer (some ⟨w.heap.size,0,none⟩)) rfl (λw' hSw=>?_) hHeld ?_
 ·go_simp
 simp only [Act.put,zA];refine zw 2 71 (.int .i64 o) rfl (λw' hSw=>?_) hHeld ?_
 ·go_simp
 simp only [Act.put,zA];refine zw 3 72 (.slice A2 n2 c2) rfl (λw' hSw=>?_) hHeld ?_
 ·go_simp
 simp only [Act.put,zA];refine zw 4 73 (.pointer (some ⟨R,0,none⟩)) rfl (λw' hSw=>?_) hHeld ?_
 ·go_simp
 simp only [Act.put,zA];rcases qb:evX k.env b2 with u|U
 ·obtain rfl:rr = .error u:=by rw [Le.o,qb];rfl
  rw [qb] at K2;unfold zZ at K2;clear qb Le;refine zR (i:=5) (o:=⟨some 74,_,_,_,_,_⟩) (by kernel_rfl) rfl (λK' hK'=>?_);go_simp;go_at_call 30;refine K2.o.mono ?_;rintro e w3 ⟨g3,rfl⟩;have G3:=O (zg GD2.o g3);clear g3;go_wp2_with fail;exact⟨rfl,G3.o,rfl⟩
 obtain⟨vU,pU⟩:=fg MY.o X2.o qb;have hr3:j7 k.E o V U=rr:=by rw [Le.o,qb];rfl
 rw [qb,<-C7.o] at K2;unfold zZ at K2;clear qb Le;refine zR (i:=5) (o:=⟨some 74,_,_,_,_,_⟩) (by kernel_rfl) rfl (λK' hK'=>?_);go_simp;go_at_call 30;refine K2.o.mono ?_;rintro e w3 ⟨g3,⟨A3,n3,c3,rfl,N3,F3⟩,E3⟩;have G3:=O (zg GD2.o g3);have z0:=g3.cell hHeld (show some w.heap.size≠some R from λe=>MW (by injection e));have KD:=O (kX E3.y o A2 A3 n2 n3 c2 c3 V U (HD2.o.ns ND2.o g3) PV.o N3 pU vU);rw [hr3] at KD;have qm:=O E3;clear g3 N3 F3 E3 vU pU hr3 K2;go_wp2_with fail;refine hK'.out _ _ (λ_=>z0) ?_;clear hK' K' hHeld
 try simp only [Act.put,zA]
 refine zR (i:=6) (o:=⟨some 75,_,_,_,_,_⟩) (by kernel_rfl) rfl (λK' hK'=>?_);go_simp;go_at_call 61;rcases rr with u|T
 ·refine KD.o.mono ?_;rintro e w4 hp;have HP:=O (cP hp qm.o G3.o);obtain⟨-,rfl⟩:=hp;go_wp2_with fail;exact⟨rfl,HP.o⟩
 ·refine KD.o.mono ?_;rintro e w4 hp;have HP:=O (cP hp qm.o G3.o);obtain⟨b4,A4,n4,c4,rfl,-,-⟩:=hp;have z4:=za b4 z0;clear b4;go_wp2_with fail;refine hK'.out _ _ (λ_=>z4) ?_;clear hK' K'
  try simp only [Act.put,zA]
  refine zR (i:=7) (o:=⟨some 2,_,_,_,_,_⟩) (by kernel_rfl) rfl (λK' hK'=>?_);go_simp;refine hK'.out _ _ (λh=>absurd rfl h) ?_;refine aF (by kernel_rfl) ?_;clear hK' K';go_wp2_with fail;go_ret;exact HP.o
theorem pP{W:World}{R:Nat}{k:Cx}(bX:k.P.length<=200):∀N:Nat,eV W R k N
 | 0=>λx p w _ _ hl=>by have:=jh x;omega
 | N+1=>λx p w h hx hl=>by
  have ih:=pP (W:=W) (R:=R) bX N;obtain⟨n,ps⟩:=x;rcases hx.ways with ⟨g1,g2,hp⟩|⟨g,hp⟩|⟨g,hp⟩|⟨g,hp⟩|g|g|⟨g,hp⟩|⟨g,hp⟩
  ·exact Ax h n ps hx ⟨g1,g2⟩ hp
  ·exact Eu h n ps hx g hp
  ·exact uf ih h n ps hx hl g hp
  ·exact tJ ih h n ps hx hl g hp
  ·exact FA ih h n ps hx hl g bX
  ·exact Fo ih h n ps hx hl g bX
  ·exact vi ih h n ps hx hl g hp
  ·exact uH ih h n ps hx hl g hp
theorem xQ(p q:Addr)(w:World):
 CallsD Tryz.prog 28 #[.pointer (some p),.pointer (some q)] .returning w λe u' w'=>e = .returned (.tuple #[])/\u' = .returning/\w'=w:=by
 refine callsD_of_wpS Tryz.func28 rfl λc₀ cs hu=>?_;apply wpS_seq;apply wpS_region;simp [wpOpsS,go_sem,recoverD,hu,Tryz.ntmps28,Exit.thenS];refine wpS_of_wp ?_;go_wp2_with fail;cases c₀;simp_all [bodyPostS,results,Tryz.results28]
theorem sA(E F:Nat)(x:Int)(v0 v1:Value)(older:List PanicEntry)(w:World)(hE:w.cell? ⟨E,0,none⟩=some v0)(zE:w.frozen? ⟨E,0,none⟩=false)(hF:w.cell? ⟨F,0,none⟩=some v1)(zF:w.frozen? ⟨F,0,none⟩=false)(hne:E≠F):
 CallsD Tryz.prog 28 #[.pointer (some ⟨E,0,none⟩),.pointer (some ⟨F,0,none⟩)] (.panicking ({ v := .iface 41 (.int .i64 x),recovered:=false } :: older)) w λe u' w' =>
  e = .returned (.tuple #[])/\u' = .panicking ({ v := .iface 41 (.int .i64 x),recovered:=true } :: older)/\w'=((w.setCell ⟨E,0,none⟩ (.slice none 0 0)).setCell ⟨F,0,none⟩ (.iface 41 (.int .i64 x))):=by
 have hl:E<w.heap.size:=block_lt_of_cell hE;have hl2:F<w.heap.size:=block_lt_of_cell hF;have IZ:F≠E:=hne.symm;have hta:∀w,(Instr.typeAssert (.iface 41 (.int .i64 x)) 20 41 true).run Tryz.prog w = .ok (.tuple #[.int .i64 x,.bool true]) w:=λ_=>by kernel_rfl
 refine callsD_of_wpS Tryz.func28 rfl λc₀ cs hu=>?_;apply wpS_seq;apply wpS_region;simp [wpOpsS,go_sem,recoverD,hu,Tryz.ntmps28];refine wpS_of_wp ?_;go_wp2_with fail;cases c₀;simp [bodyPostS,results,Tryz.results28]
end Go.Proofs.YtokiogmfgpidmaaGreatDoor
namespace Go.Wk
section
variable {P Q:List Nd} (h:jT P Q=0)
include h
end
end Go.Wk
namespace Go.Proofs.YtokiogmfgpidmaaGreatDoor
open Go.RowKit Go.Wk
def setX(L:List Ex):Ex := .node ⟨5,L.length,emp,emp⟩ (match L with
 | [a,b] => .cons a (.cons b .nil)
 | [a,b,c] => .cons a (.cons b (.cons c .nil))
 | _ => .nil)
end Go.Proofs.YtokiogmfgpidmaaGreatDoor
