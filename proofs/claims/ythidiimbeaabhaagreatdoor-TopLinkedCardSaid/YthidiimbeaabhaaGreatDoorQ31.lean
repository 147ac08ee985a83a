/-
  eval.next: the node at hand; skip; a value of one node. (gen_evnx.py) ..
-/
import Derived.Test.YthidiimbeaabhaaGreatDoorQ13
import Derived.Test.YthidiimbeaabhaaGreatDoorQ30
set_option maxRecDepth 100000
set_option maxHeartbeats 8000000
namespace Go.Proofs.YthidiimbeaabhaaGreatDoor
open Go.RowKit Go.Wk Go.Sort
theorem z7.node{W w:World}{R:Nat}{k:Cx}{p:Nat}(h:z7 W w R k (p:Int)){n:Nd}{ps:Exs}{f:Bool}(hx:XAt k.P p f (.node n ps)):
 ∃a,k.A=some a/\p<k.n/\Nd4 w (a.add (p*4)) n/\fC n:=by
 have hh:=hx.head;have hl:p<k.P.length:=(List.getElem?_eq_some_iff.1 hh).1;have he:k.P[p]=n:=(List.getElem?_eq_some_iff.1 hh).2;obtain⟨a,ha,D⟩:=h.cx.ns.at_.nd hl;rw [he] at D;have ho:=h.cx.ns.ok.at hl;rw [he] at ho;exact⟨a,ha,by rw [h.cx.ns.len];exact hl,D,ho⟩
theorem nz{W w:World}{R:Nat}{k:Cx}{p:Int}(h:z7 W w R k p)(q:Int):z7 W (w.setCell ⟨R,9,none⟩ (.int .i64 q)) R k q/\w.grownBy (w.setCell ⟨R,9,none⟩ (.int .i64 q)) (some R):=⟨h.put q,zu w ⟨R,9,none⟩ _⟩
theorem au{W w:World}{R:Nat}{k:Cx}{p:Int}(h:z7 W w R k p)(o:Obj):z7 W ((w.setCell ⟨R,9,none⟩ (.int .i64 (p+1))).alloc o).drew R k (p+1)/\w.grownBy ((w.setCell ⟨R,9,none⟩ (.int .i64 (p+1))).alloc o).drew (some R):=by
 obtain⟨h1,g1⟩:=nz h (p+1);exact⟨(h1.keep (za _ o)).keep (zo _),zh (zh g1 (zj (za _ o) _)) (zj (zo _) _)⟩
theorem ef{W w:World}{R:Nat}{k:Cx}{p:Nat}(h:z7 W w R k (p:Int)){f:Bool}{x:Ex}(hx:XAt k.P p f x):
 Calls Tryz.prog 85 #[.pointer (some ⟨R,0,none⟩)] w λe w'=>e = .returned (.tuple #[])/\z7 W w' R k ((p+x.flat.length:Nat):Int)/\w.grownBy w' (some R):=by
 have E0:=O (h.keep (zo w));have K:=O (yg k.A k.n k.c k.P p f x w.drew (E0.o.cx.ns) hx);have S0:w.drew.cell? ⟨R,8,none⟩=some (.slice k.A k.n k.c)/\w.drew.cell? ⟨R,9,none⟩=some (.int .i64 p):=⟨h.c8,h.c9⟩
 generalize p+x.flat.length=q at *;clear h hx;go_enter Tryz.func85,Tryz.ntmps85;refine lz (λ(w':World)=>w'.cell? ⟨R,8,none⟩=some (.slice k.A k.n k.c)/\w'.cell? ⟨R,9,none⟩=some (.int .i64 p)) 12 (by kernel_rfl) S0 (λhHeld=>?_);refine jw 0 2 (.pointer (some ⟨R,0,none⟩)) rfl (λw' hSw=>?_) hHeld ?_
 ·obtain⟨a0,a1⟩:=hSw;go_simp
 simp only [Act.put,aH];refine jw 1 3 (.pointer (some ⟨R,0,none⟩)) rfl (λw' hSw=>?_) hHeld ?_
 ·obtain⟨a0,a1⟩:=hSw;go_simp
 simp only [Act.put,aH];refine jw 2 4 (.pointer (some ⟨R,0,none⟩)) rfl (λw' hSw=>?_) hHeld ?_
 ·obtain⟨a0,a1⟩:=hSw;go_simp
 simp only [Act.put,aH];refine jw 3 5 (.pointer (some ⟨R,8,none⟩)) rfl (λw' hSw=>?_) hHeld ?_
 ·obtain⟨a0,a1⟩:=hSw;go_simp
 simp only [Act.put,aH];refine jw 4 6 (.slice k.A k.n k.c) rfl (λw' hSw=>?_) hHeld ?_
 ·obtain⟨a0,a1⟩:=hSw;go_simp
 simp only [Act.put,aH];refine jw 5 7 (.pointer (some ⟨R,0,none⟩)) rfl (λw' hSw=>?_) hHeld ?_
 ·obtain⟨a0,a1⟩:=hSw;go_simp
 simp only [Act.put,aH];refine jw 6 8 (.pointer (some ⟨R,0,none⟩)) rfl (λw' hSw=>?_) hHeld ?_
 ·obtain⟨a0,a1⟩:=hSw;go_simp
 simp only [Act.put,aH];refine jw 7 9 (.pointer (some ⟨R,9,none⟩)) rfl (λw' hSw=>?_) hHeld ?_
 ·obtain⟨a0,a1⟩:=hSw;go_simp
 simp only [Act.put,aH];refine jw 8 10 (.int .i64 p) rfl (λw' hSw=>?_) hHeld ?_
 ·obtain⟨a0,a1⟩:=hSw;go_simp
 simp only [Act.put,aH];refine aX (i:=9) (o:=⟨some 11,_,_,_,_,_⟩) (by kernel_rfl) rfl (λK' hK'=>?_);go_simp;go_at_call 102;refine K.o.mono ?_;rintro e w1 ⟨rfl,b1⟩;have E1:=O (E0.o.keep b1);have G1:=O (zh (zj (zo w) (some R)) (zj b1 (some R)));clear b1;go_wp2_with fail;refine hK'.out _ _ (λ_=>⟨E1.o.c8,E1.o.c9⟩) ?_;clear hK' K' hHeld
 try simp only [Act.put,aH]
 refine aX (i:=10) (o:=⟨some 12,_,_,_,_,_⟩) (by kernel_rfl) rfl (λK' hK'=>?_);go_simp;refine hK'.out _ _ (λ_=>⟨E1.o.c8,E1.o.c9⟩) ?_;clear hK' K'
 try simp only [Act.put,aH]
 refine aX (i:=11) (o:=⟨some 13,_,_,_,_,_⟩) (by kernel_rfl) rfl (λK' hK'=>?_);go_simp;refine hK'.out _ _ (λ_=>⟨E1.o.c8,E1.o.c9⟩) ?_;clear hK' K'
 try simp only [Act.put,aH]
 have j9:=E1.o.c9;have z9:=E1.o.z 9;have pw:=E1.o.lt;refine aX (i:=12) (o:=⟨none,_,_,_,_,_⟩) (by kernel_rfl) rfl (λK' hK'=>?_);go_simp;refine hK'.out _ _ (λh=>absurd rfl h) ?_;refine ll (by kernel_rfl) ?_;clear hK' K';exact⟨rfl,.tuple #[],by simp [results,Tryz.results85,go_sem],rfl,(nz E1.o q).1,zh G1.o (nz E1.o q).2⟩
theorem FR{W w:World}{R:Nat}{k:Cx}{p:Int}(h:z7 W w R k p)(n:Nd)(ho:fC n):zU W w R k (p+1) (.ok [n]) (.returned (.slice (some ⟨w.heap.size+1,0,none⟩) 1 1))
 (((w.setCell ⟨R,9,none⟩ (.int .i64 (p+1))).alloc (.cells #[.int .i64 n.op,.int .i64 n.n,.string n.s,.string n.t] 47)).alloc (.cells #[.int .i64 n.op,.int .i64 n.n,.string n.s,.string n.t] 47)).drew:=by
 obtain⟨h1,g1⟩:=nz h (p+1);have hz:(((w.setCell ⟨R,9,none⟩ (.int .i64 (p+1))).alloc (.cells #[.int .i64 n.op,.int .i64 n.n,.string n.s,.string n.t] 47))).heap.size=w.heap.size+1:=by simp [World.setCell]
 have b1:=za (w.setCell ⟨R,9,none⟩ (.int .i64 (p+1))) (.cells #[.int .i64 n.op,.int .i64 n.n,.string n.s,.string n.t] 47);have b2:=za ((w.setCell ⟨R,9,none⟩ (.int .i64 (p+1))).alloc (.cells #[.int .i64 n.op,.int .i64 n.n,.string n.s,.string n.t] 47)) (.cells #[.int .i64 n.op,.int .i64 n.n,.string n.s,.string n.t] 47);have hN:=dS ((w.setCell ⟨R,9,none⟩ (.int .i64 (p+1))).alloc (.cells #[.int .i64 n.op,.int .i64 n.n,.string n.s,.string n.t] 47)) n ho;rw [hz] at hN;exact⟨zh (zh (zh g1 (zj b1 _)) (zj b2 _)) (zj (zo _) _),⟨_,_,_,rfl,hN.keep (zo _),λa e=>by injection e with e;subst e;exact .inr (Nat.le_succ _)⟩,((h1.keep b1).keep b2).keep (zo _)⟩
theorem yZ{W w:World}{R:Nat}{k:Cx}{p:Nat}(h:z7 W w R k (p:Int))(n:Nd)(ps:Exs)(hx:XAt k.P p false (.node n ps))(Ep:1<=n.op/\n.op<=4)(hp:zJ n=0):
 Calls Tryz.prog 34 #[.pointer (some ⟨R,0,none⟩)] w (zU W w R k ((p+(Ex.node n ps).flat.length:Nat):Int) (evX k.env (.node n ps))):=by
 have HR:=O (show evX k.env (.node n ps)= .ok [n] by rw [evX,if_pos Ep]);rw [HR.o,(hx.none hp).2];have ways:n.op=1\/n.op=2\/n.op=3\/n.op=4:=by omega
 obtain⟨a,ha,GN,D,ho⟩:=h.node hx;obtain⟨o,v,s,t⟩:=n;obtain⟨d0,d1,d2,d3⟩:=D;dsimp only at d0 d1 d2 d3 ways;have hm:=h.cx.ns.max;unfold maxLen at hm;have c8:w.cell? ⟨R,8,none⟩=some (.slice (some a) k.n k.c):=by rw [<-ha];exact h.c8
 have c9:=h.c9;have z9:=h.z 9;have pw:=h.lt;have HO:=O ho;have E1:=O (au h (.cells #[.int .i64 o,.int .i64 v,.string s,.string t] 47)).1;have G1:=O (au h (.cells #[.int .i64 o,.int .i64 v,.string s,.string t] 47)).2;have nw8:=World.new_ne w ⟨R,8,none⟩ c8;have nw9:=World.new_ne w ⟨R,9,none⟩ c9;have nd0:=World.new_ne w _ d0;have nd1:=World.new_ne w _ d1;have nd2:=World.new_ne w _ d2;have nd3:=World.new_ne w _ d3;have Gx:(0:Int)<=(p:Int):=by omega
 have ER:=O (FR h ⟨o,v,s,t⟩ ho);generalize k.n=kn at *;have eH:(p:Int)<(kn:Int):=by omega
 clear ha ho hx h hp Ep HR;go_enter Tryz.func34,Tryz.ntmps34;go_wp2_with fail;go_region_held3 (λw':World=>w'.cell? ⟨R,8,none⟩=some (.slice (some a) kn k.c)/\w'.cell? ⟨R,9,none⟩=some (.int .i64 p)/\w'.cell? (a.add (p*4))=some (.int .i64 o)/\w'.cell? ⟨(a.add (p*4)).block,(a.add (p*4)).off+1,none⟩=some (.int .i64 v)/\w'.cell? ⟨(a.add (p*4)).block,(a.add (p*4)).off+2,none⟩=some (.string s)/\w'.cell? ⟨(a.add (p*4)).block,(a.add (p*4)).off+3,none⟩=some (.string t)) (go_keep) (fail);rcases ways with rfl|rfl|rfl|rfl
 all_goals
  go_wp2_with fail;go_ret;exact ER.o
theorem fX{k:Cx}(ho:ee k.env){t:List Nd}{p:Nat}{x:Ex}(hx:XAt t p false x){V:List Nd}(h:evX k.env x = .ok V):zc V=0/\0<V.length :=
 have hv:=ir ho x false hx.valid V h
 ⟨hv,dd hv⟩
theorem yE{W:World}{R N:Nat}{k:Cx}(ih:fq W R k N){w:World}{p:Nat}(h:z7 W w R k (p:Int))(a b:Ex)(ha:XAt k.P p false a)(hb:XAt k.P (p+a.flat.length) false b)(la:a.flat.length<=N)(lb:b.flat.length<=N):
 Calls Tryz.prog 60 #[.pointer (some ⟨R,0,none⟩),.int .i64 11] w (zU W w R k ((p+a.flat.length+b.flat.length:Nat):Int) (zW k.env false (.cons a (.cons b .nil)))):=by
 have IA:=O (ih a p w h ha la);have IB:=O (λw' h'=>ih b (p+a.flat.length) w' h' hb lb);have HO:=O h.ok.ok;have HA:=O ha;have HB:=O hb;have H:=O h;clear h ih;rcases qa:evX k.env a with e|V
 ·have HR:=O (show zW k.env false (.cons a (.cons b .nil))= .error e by rw [zW,qa]);rw [HR.o];rw [qa] at IA;unfold zU at IA;clear qa ha hb la lb IB HA HB;go_enter Tryz.func60,Tryz.ntmps60;go_wp2_with fail;refine IA.o.mono ?_;rintro e w1 ⟨g1,rfl⟩;have G1:=O g1;clear g1;go_wp2_with fail;exact⟨rfl,G1.o,rfl⟩
 ·obtain⟨vV,pV⟩:=fX HO.o HA.o qa;rw [qa] at IA;unfold zU at IA;by_cases g1:zg V=1
  ·rcases gC vV g1 with rfl|rfl
   ·have K0:(1:Int)=1:=rfl;have HR:=O (show zW k.env false (.cons a (.cons b .nil))=aA k.env (.cons b .nil) by rw [zW,qa];rfl);rw [HR.o];have J3:=O (show((p+a.flat.length:Nat):Int)=((p+a.flat.length:Nat):Int) from rfl);clear qa ha hb la lb vV pV g1 K0;rcases qb:evX k.env b with u|U
    ·have uG:=O (show aA k.env (.cons b .nil)= .error u by rw [aA,qb]);rw [uG.o];rw [qb] at IB;unfold zU at IB;clear qb;go_enter Tryz.func60,Tryz.ntmps60;go_wp2_with fail;refine IA.o.mono ?_;rintro e w1 ⟨g2,⟨A1,n1,c1,rfl,N1,F1⟩,E1⟩;have G1:=O g2;have K:=O (zB A1 n1 c1 (zw true) 1 w1 N1 (by decide));rw [if_pos (show zg (zw true)=1 from rfl)] at K;have eG:=O N1;have fB:=O E1;clear g2 N1 F1 E1;go_wp2_with fail;refine K.o.mono ?_;rintro e w2 ⟨rfl,b2⟩;have aE:=O (fB.o.keep b2);have N2:=O (eG.o.keep b2);have G2:=O (zh G1.o (zj b2 _));obtain⟨a1,rfl,hn1,⟨-,d1,-,-⟩,-,-⟩:=jY N2.o (by decide);have hi:(0:Int)<(n1:Int):=by omega
     have d1':w2.cell? ⟨a1.block,a1.off+1,none⟩=some (.int .i64 1):=d1;clear b2 d1 K fB eG G1;go_wp2_with fail;refine(IB.o w2 aE.o).mono ?_;rintro e w3 ⟨g3,rfl⟩;have G3:=O (zh G2.o g3);clear g3;go_wp2_with fail;exact⟨rfl,G3.o,rfl⟩
    ·obtain⟨vU,pU⟩:=fX HO.o HB.o qb;have PU:=O pU;rw [qb] at IB;unfold zU at IB;clear vU pU;by_cases g3:zg U=1
     ·have uG:=O (show aA k.env (.cons b .nil)= .ok U by rw [aA,qb];simp only;rw [if_pos g3]);rw [uG.o];clear qb;go_enter Tryz.func60,Tryz.ntmps60;go_wp2_with fail;refine IA.o.mono ?_;rintro e w1 ⟨g2,⟨A1,n1,c1,rfl,N1,F1⟩,E1⟩;have G1:=O g2;have K:=O (zB A1 n1 c1 (zw true) 1 w1 N1 (by decide));rw [if_pos (show zg (zw true)=1 from rfl)] at K;have eG:=O N1;have fB:=O E1;clear g2 N1 F1 E1;go_wp2_with fail;refine K.o.mono ?_;rintro e w2 ⟨rfl,b2⟩;have aE:=O (fB.o.keep b2);have N2:=O (eG.o.keep b2);have G2:=O (zh G1.o (zj b2 _));obtain⟨a1,rfl,hn1,⟨-,d1,-,-⟩,-,-⟩:=jY N2.o (by decide);have hi:(0:Int)<(n1:Int):=by omega
      have d1':w2.cell? ⟨a1.block,a1.off+1,none⟩=some (.int .i64 1):=d1;clear b2 d1 K fB eG G1;go_wp2_with fail;refine(IB.o w2 aE.o).mono ?_;rintro e w3 ⟨g4,⟨A3,n3,c3,rfl,N3,F3⟩,E3⟩;have G3:=O (zh G2.o g4);have K3:=O (zB A3 n3 c3 U 1 w3 N3 PU.o);rw [if_pos g3] at K3;have G9:=O N3;have qi:=O E3;have JL:=O (λa' e'=>(F3 a' e').imp id (λq=>Nat.le_trans G2.o.size q));clear g4 N3 E3 F3;go_wp2_with fail;refine K3.o.mono ?_;rintro e w4 ⟨rfl,b4⟩;have Gz:=O (qi.o.keep b4);have N4:=O (G9.o.keep b4);have G4:=O (zh G3.o (zj b4 _));clear b4;go_wp2_with fail;go_ret;exact⟨G4.o,⟨A3,n3,c3,rfl,N4.o,JL.o⟩,Gz.o⟩
     ·have uG:=O (show aA k.env (.cons b .nil)= .error 2 by rw [aA,qb];simp only;rw [if_neg g3]);rw [uG.o];clear qb;go_enter Tryz.func60,Tryz.ntmps60;go_wp2_with fail;refine IA.o.mono ?_;rintro e w1 ⟨g2,⟨A1,n1,c1,rfl,N1,F1⟩,E1⟩;have G1:=O g2;have K:=O (zB A1 n1 c1 (zw true) 1 w1 N1 (by decide));rw [if_pos (show zg (zw true)=1 from rfl)] at K;have eG:=O N1;have fB:=O E1;clear g2 N1 F1 E1;go_wp2_with fail;refine K.o.mono ?_;rintro e w2 ⟨rfl,b2⟩;have aE:=O (fB.o.keep b2);have N2:=O (eG.o.keep b2);have G2:=O (zh G1.o (zj b2 _));obtain⟨a1,rfl,hn1,⟨-,d1,-,-⟩,-,-⟩:=jY N2.o (by decide);have hi:(0:Int)<(n1:Int):=by omega
      have d1':w2.cell? ⟨a1.block,a1.off+1,none⟩=some (.int .i64 1):=d1;clear b2 d1 K fB eG G1;go_wp2_with fail;refine(IB.o w2 aE.o).mono ?_;rintro e w3 ⟨g4,⟨A3,n3,c3,rfl,N3,F3⟩,E3⟩;have G3:=O (zh G2.o g4);have K3:=O (zB A3 n3 c3 U 1 w3 N3 PU.o);rw [if_neg g3] at K3;clear g4 N3 E3 F3;go_wp2_with fail;refine K3.o.mono ?_;rintro e w4 ⟨rfl,b4⟩;have G4:=O (zh G3.o (zj b4 _));clear b4;go_wp2_with fail;exact⟨rfl,G4.o,rfl⟩
   ·have K0:(1:Int)=1:=rfl;have HR:=O (show zW k.env false (.cons a (.cons b .nil))= .ok (zw false) by rw [zW,qa];rfl);rw [HR.o];clear qa ha hb la lb IB vV pV g1 K0;go_enter Tryz.func60,Tryz.ntmps60;go_wp2_with fail;refine IA.o.mono ?_;rintro e w1 ⟨g2,⟨A1,n1,c1,rfl,N1,F1⟩,E1⟩;have G1:=O g2;have K:=O (zB A1 n1 c1 (zw false) 1 w1 N1 (by decide));rw [if_pos (show zg (zw false)=1 from rfl)] at K;have eG:=O N1;have LX:=O F1;have fB:=O E1;clear g2 N1 F1 E1;go_wp2_with fail;refine K.o.mono ?_;rintro e w2 ⟨rfl,b2⟩;have aE:=O (fB.o.keep b2);have N2:=O (eG.o.keep b2);have G2:=O (zh G1.o (zj b2 _));obtain⟨a1,rfl,hn1,⟨-,d1,-,-⟩,-,-⟩:=jY N2.o (by decide);have hi:(0:Int)<(n1:Int):=by omega
    have d1':w2.cell? ⟨a1.block,a1.off+1,none⟩=some (.int .i64 0):=d1;have S:=O (ef aE.o HB.o);clear b2 d1 K fB eG G1;go_wp2_with fail;refine S.o.mono ?_;rintro e w3 ⟨rfl,E3,g3⟩;have N3:=O (aE.o.ns N2.o g3);have G3:=O (zh G2.o g3);have qi:=O E3;clear E3 g3 S aE N2 d1';go_wp2_with fail;go_ret;exact⟨G3.o,⟨some a1,n1,c1,rfl,N3.o,LX.o⟩,qi.o⟩
  ·have HR:=O (show zW k.env false (.cons a (.cons b .nil))= .error 2 by rw [zW,qa];simp only;rw [if_neg g1]);rw [HR.o];have PV:=O pV;clear qa ha hb la lb IB HA HB vV pV;go_enter Tryz.func60,Tryz.ntmps60;go_wp2_with fail;refine IA.o.mono ?_;rintro e w1 ⟨g2,⟨A1,n1,c1,rfl,N1,F1⟩,E1⟩;have G1:=O g2;have K:=O (zB A1 n1 c1 V 1 w1 N1 PV.o);rw [if_neg g1] at K;clear g2 N1 F1 E1 g1;go_wp2_with fail;refine K.o.mono ?_;rintro e w2 ⟨rfl,b2⟩;have G2:=O (zh G1.o (zj b2 _));clear b2;go_wp2_with fail;exact⟨rfl,G2.o,rfl⟩
theorem yM{W:World}{R N:Nat}{k:Cx}(ih:fq W R k N){w:World}{p:Nat}(h:z7 W w R k (p:Int))(a b:Ex)(ha:XAt k.P p false a)(hb:XAt k.P (p+a.flat.length) false b)(la:a.flat.length<=N)(lb:b.flat.length<=N):
 Calls Tryz.prog 60 #[.pointer (some ⟨R,0,none⟩),.int .i64 12] w (zU W w R k ((p+a.flat.length+b.flat.length:Nat):Int) (zW k.env true (.cons a (.cons b .nil)))):=by
 have IA:=O (ih a p w h ha la);have IB:=O (λw' h'=>ih b (p+a.flat.length) w' h' hb lb);have HO:=O h.ok.ok;have HA:=O ha;have HB:=O hb;have H:=O h;clear h ih;rcases qa:evX k.env a with e|V
 ·have HR:=O (show zW k.env true (.cons a (.cons b .nil))= .error e by rw [zW,qa]);rw [HR.o];rw [qa] at IA;unfold zU at IA;clear qa ha hb la lb IB HA HB;go_enter Tryz.func60,Tryz.ntmps60;go_wp2_with fail;refine IA.o.mono ?_;rintro e w1 ⟨g1,rfl⟩;have G1:=O g1;clear g1;go_wp2_with fail;exact⟨rfl,G1.o,rfl⟩
 ·obtain⟨vV,pV⟩:=fX HO.o HA.o qa;rw [qa] at IA;unfold zU at IA;by_cases g1:zg V=1
  ·rcases gC vV g1 with rfl|rfl
   ·have K0:(1:Int)=1:=rfl;have HR:=O (show zW k.env true (.cons a (.cons b .nil))= .ok (zw true) by rw [zW,qa];rfl);rw [HR.o];clear qa ha hb la lb IB vV pV g1 K0;go_enter Tryz.func60,Tryz.ntmps60;go_wp2_with fail;refine IA.o.mono ?_;rintro e w1 ⟨g2,⟨A1,n1,c1,rfl,N1,F1⟩,E1⟩;have G1:=O g2;have K:=O (zB A1 n1 c1 (zw true) 1 w1 N1 (by decide));rw [if_pos (show zg (zw true)=1 from rfl)] at K;have eG:=O N1;have LX:=O F1;have fB:=O E1;clear g2 N1 F1 E1;go_wp2_with fail;refine K.o.mono ?_;rintro e w2 ⟨rfl,b2⟩;have aE:=O (fB.o.keep b2);have N2:=O (eG.o.keep b2);have G2:=O (zh G1.o (zj b2 _));obtain⟨a1,rfl,hn1,⟨-,d1,-,-⟩,-,-⟩:=jY N2.o (by decide);have hi:(0:Int)<(n1:Int):=by omega
    have d1':w2.cell? ⟨a1.block,a1.off+1,none⟩=some (.int .i64 1):=d1;have S:=O (ef aE.o HB.o);clear b2 d1 K fB eG G1;go_wp2_with fail;refine S.o.mono ?_;rintro e w3 ⟨rfl,E3,g3⟩;have N3:=O (aE.o.ns N2.o g3);have G3:=O (zh G2.o g3);have qi:=O E3;clear E3 g3 S aE N2 d1';go_wp2_with fail;go_ret;exact⟨G3.o,⟨some a1,n1,c1,rfl,N3.o,LX.o⟩,qi.o⟩
   ·have K0:(1:Int)=1:=rfl;have HR:=O (show zW k.env true (.cons a (.cons b .nil))=aA k.env (.cons b .nil) by rw [zW,qa];rfl);rw [HR.o];have J3:=O (show((p+a.flat.length:Nat):Int)=((p+a.flat.length:Nat):Int) from rfl);clear qa ha hb la lb vV pV g1 K0;rcases qb:evX k.env b with u|U
    ·have uG:=O (show aA k.env (.cons b .nil)= .error u by rw [aA,qb]);rw [uG.o];rw [qb] at IB;unfold zU at IB;clear qb;go_enter Tryz.func60,Tryz.ntmps60;go_wp2_with fail;refine IA.o.mono ?_;rintro e w1 ⟨g2,⟨A1,n1,c1,rfl,N1,F1⟩,E1⟩;have G1:=O g2;have K:=O (zB A1 n1 c1 (zw false) 1 w1 N1 (by decide));rw [if_pos (show zg (zw false)=1 from rfl)] at K;have eG:=O N1;have fB:=O E1;clear g2 N1 F1 E1;go_wp2_with fail;refine K.o.mono ?_;rintro e w2 ⟨rfl,b2⟩;have aE:=O (fB.o.keep b2);have N2:=O (eG.o.keep b2);have G2:=O (zh G1.o (zj b2 _));obtain⟨a1,rfl,hn1,⟨-,d1,-,-⟩,-,-⟩:=jY N2.o (by decide);have hi:(0:Int)<(n1:Int):=by omega
     have d1':w2.cell? ⟨a1.block,a1.off+1,none⟩=some (.int .i64 0):=d1;clear b2 d1 K fB eG G1;go_wp2_with fail;refine(IB.o w2 aE.o).mono ?_;rintro e w3 ⟨g3,rfl⟩;have G3:=O (zh G2.o g3);clear g3;go_wp2_with fail;exact⟨rfl,G3.o,rfl⟩
    ·obtain⟨vU,pU⟩:=fX HO.o HB.o qb;have PU:=O pU;rw [qb] at IB;unfold zU at IB;clear vU pU;by_cases g3:zg U=1
     ·have uG:=O (show aA k.env (.cons b .nil)= .ok U by rw [aA,qb];simp only;rw [if_pos g3]);rw [uG.o];clear qb;go_enter Tryz.func60,Tryz.ntmps60;go_wp2_with fail;refine IA.o.mono ?_;rintro e w1 ⟨g2,⟨A1,n1,c1,rfl,N1,F1⟩,E1⟩;have G1:=O g2;have K:=O (zB A1 n1 c1 (zw false) 1 w1 N1 (by decide));rw [if_pos (show zg (zw false)=1 from rfl)] at K;have eG:=O N1;have fB:=O E1;clear g2 N1 F1 E1;go_wp2_with fail;refine K.o.mono ?_;rintro e w2 ⟨rfl,b2⟩;have aE:=O (fB.o.keep b2);have N2:=O (eG.o.keep b2);have G2:=O (zh G1.o (zj b2 _));obtain⟨a1,rfl,hn1,⟨-,d1,-,-⟩,-,-⟩:=jY N2.o (by decide);have hi:(0:Int)<(n1:Int):=by omega
      have d1':w2.cell? ⟨a1.block,a1.off+1,none⟩=some (.int .i64 0):=d1;clear b2 d1 K fB eG G1;go_wp2_with fail;refine(IB.o w2 aE.o).mono ?_;rintro e w3 ⟨g4,⟨A3,n3,c3,rfl,N3,F3⟩,E3⟩;have G3:=O (zh G2.o g4);have K3:=O (zB A3 n3 c3 U 1 w3 N3 PU.o);rw [if_pos g3] at K3;have G9:=O N3;have qi:=O E3;have JL:=O (λa' e'=>(F3 a' e').imp id (λq=>Nat.le_trans G2.o.size q));clear g4 N3 E3 F3;go_wp2_with fail;refine K3.o.mono ?_;rintro e w4 ⟨rfl,b4⟩;have Gz:=O (qi.o.keep b4);have N4:=O (G9.o.keep b4);have G4:=O (zh G3.o (zj b4 _));clear b4;go_wp2_with fail;go_ret;exact⟨G4.o,⟨A3,n3,c3,rfl,N4.o,JL.o⟩,Gz.o⟩
     ·have uG:=O (show aA k.env (.cons b .nil)= .error 2 by rw [aA,qb];simp only;rw [if_neg g3]);rw [uG.o];clear qb;go_enter Tryz.func60,Tryz.ntmps60;go_wp2_with fail;refine IA.o.mono ?_;rintro e w1 ⟨g2,⟨A1,n1,c1,rfl,N1,F1⟩,E1⟩;have G1:=O g2;have K:=O (zB A1 n1 c1 (zw false) 1 w1 N1 (by decide));rw [if_pos (show zg (zw false)=1 from rfl)] at K;have eG:=O N1;have fB:=O E1;clear g2 N1 F1 E1;go_wp2_with fail;refine K.o.mono ?_;rintro e w2 ⟨rfl,b2⟩;have aE:=O (fB.o.keep b2);have N2:=O (eG.o.keep b2);have G2:=O (zh G1.o (zj b2 _));obtain⟨a1,rfl,hn1,⟨-,d1,-,-⟩,-,-⟩:=jY N2.o (by decide);have hi:(0:Int)<(n1:Int):=by omega
      have d1':w2.cell? ⟨a1.block,a1.off+1,none⟩=some (.int .i64 0):=d1;clear b2 d1 K fB eG G1;go_wp2_with fail;refine(IB.o w2 aE.o).mono ?_;rintro e w3 ⟨g4,⟨A3,n3,c3,rfl,N3,F3⟩,E3⟩;have G3:=O (zh G2.o g4);have K3:=O (zB A3 n3 c3 U 1 w3 N3 PU.o);rw [if_neg g3] at K3;clear g4 N3 E3 F3;go_wp2_with fail;refine K3.o.mono ?_;rintro e w4 ⟨rfl,b4⟩;have G4:=O (zh G3.o (zj b4 _));clear b4;go_wp2_with fail;exact⟨rfl,G4.o,rfl⟩
  ·have HR:=O (show zW k.env true (.cons a (.cons b .nil))= .error 2 by rw [zW,qa];simp only;rw [if_neg g1]);rw [HR.o];have PV:=O pV;clear qa ha hb la lb IB HA HB vV pV;go_enter Tryz.func60,Tryz.ntmps60;go_wp2_with fail;refine IA.o.mono ?_;rintro e w1 ⟨g2,⟨A1,n1,c1,rfl,N1,F1⟩,E1⟩;have G1:=O g2;have K:=O (zB A1 n1 c1 V 1 w1 N1 PV.o);rw [if_neg g1] at K;clear g2 N1 F1 E1 g1;go_wp2_with fail;refine K.o.mono ?_;rintro e w2 ⟨rfl,b2⟩;have G2:=O (zh G1.o (zj b2 _));clear b2;go_wp2_with fail;exact⟨rfl,G2.o,rfl⟩
theorem uk{W:World}{R N:Nat}{k:Cx}(ih:fq W R k N){w:World}{p:Nat}(h:z7 W w R k (p:Int))(c a b:Ex)(hc:XAt k.P p false c)(ha:XAt k.P (p+c.flat.length) false a)(hb:XAt k.P (p+c.flat.length+a.flat.length) false b)(lc:c.flat.length<=N)(la:a.flat.length<=N)(lb:b.flat.length<=N):
 Calls Tryz.prog 61 #[.pointer (some ⟨R,0,none⟩)] w (zU W w R k ((p+c.flat.length+a.flat.length+b.flat.length:Nat):Int) (gI k.env (.cons c (.cons a (.cons b .nil))))):=by
 have IC:=O (ih c p w h hc lc);have IA:=O (λw' h'=>ih a (p+c.flat.length) w' h' ha la);have IB:=O (λw' h'=>ih b (p+c.flat.length+a.flat.length) w' h' hb lb);have HO:=O h.ok.ok;have HC:=O hc;have HA:=O ha;have HB:=O hb;clear h ih;rcases qc:evX k.env c with e|V
 ·have HR:=O (show gI k.env (.cons c (.cons a (.cons b .nil)))= .error e by rw [gI,qc]);rw [HR.o];rw [qc] at IC;unfold zU at IC;clear qc ha hb hc la lb lc IA IB HA HB HC;go_enter Tryz.func61,Tryz.ntmps61;go_wp2_with fail;refine IC.o.mono ?_;rintro e w1 ⟨g1,rfl⟩;have G1:=O g1;clear g1;go_wp2_with fail;exact⟨rfl,G1.o,rfl⟩
 obtain⟨vV,pV⟩:=fX HO.o HC.o qc;rw [qc] at IC;unfold zU at IC;by_cases g1:zg V=1
 case neg =>
  have HR:=O (show gI k.env (.cons c (.cons a (.cons b .nil)))= .error 2 by rw [gI,qc];simp only;rw [if_neg g1]);rw [HR.o];have PV:=O pV;clear qc ha hb hc la lb lc IA IB HA HB HC vV pV;go_enter Tryz.func61,Tryz.ntmps61;go_wp2_with fail;refine IC.o.mono ?_;rintro e w1 ⟨g2,⟨A1,n1,c1,rfl,N1,F1⟩,E1⟩;have G1:=O g2;have K:=O (zB A1 n1 c1 V 1 w1 N1 PV.o);rw [if_neg g1] at K;clear g2 N1 F1 E1 g1;go_wp2_with fail;refine K.o.mono ?_;rintro e w2 ⟨rfl,b2⟩;have G2:=O (zh G1.o (zj b2 _));clear b2;go_wp2_with fail;exact⟨rfl,G2.o,rfl⟩
 rcases gC vV g1 with rfl|rfl
 ·have HR:=O (show gI k.env (.cons c (.cons a (.cons b .nil)))=evX k.env a by rw [gI,qc];rfl);rw [HR.o];clear qc ha hb hc la lb lc vV pV g1 HC IB HO;rcases qa:evX k.env a with u|U
  ·rw [qa] at IA;unfold zU at IA;clear qa;go_enter Tryz.func61,Tryz.ntmps61;go_wp2_with fail;refine IC.o.mono ?_;rintro e w1 ⟨g2,⟨A1,n1,c1,rfl,N1,F1⟩,E1⟩;have G1:=O g2;have K:=O (zB A1 n1 c1 (zw true) 1 w1 N1 (by decide));rw [if_pos (show zg (zw true)=1 from rfl)] at K;have eG:=O N1;have fB:=O E1;clear g2 N1 F1 E1;go_wp2_with fail;refine K.o.mono ?_;rintro e w2 ⟨rfl,b2⟩;have aE:=O (fB.o.keep b2);have G2:=O (zh G1.o (zj b2 _));obtain⟨a1,rfl,hn1,⟨-,d1,-,-⟩,-,-⟩:=jY (eG.o.keep b2) (by decide);have hi:(0:Int)<(n1:Int):=by omega
   have d1':w2.cell? ⟨a1.block,a1.off+1,none⟩=some (.int .i64 1):=d1;clear b2 d1 K fB eG G1;go_wp2_with fail;refine(IA.o w2 aE.o).mono ?_;rintro e w3 ⟨g3,rfl⟩;have G3:=O (zh G2.o g3);clear g3;go_wp2_with fail;exact⟨rfl,G3.o,rfl⟩
  ·rw [qa] at IA;unfold zU at IA;clear qa;go_enter Tryz.func61,Tryz.ntmps61;go_wp2_with fail;refine IC.o.mono ?_;rintro e w1 ⟨g2,⟨A1,n1,c1,rfl,N1,F1⟩,E1⟩;have G1:=O g2;have K:=O (zB A1 n1 c1 (zw true) 1 w1 N1 (by decide));rw [if_pos (show zg (zw true)=1 from rfl)] at K;have eG:=O N1;have fB:=O E1;clear g2 N1 F1 E1;go_wp2_with fail;refine K.o.mono ?_;rintro e w2 ⟨rfl,b2⟩;have aE:=O (fB.o.keep b2);have G2:=O (zh G1.o (zj b2 _));obtain⟨a1,rfl,hn1,⟨-,d1,-,-⟩,-,-⟩:=jY (eG.o.keep b2) (by decide);have hi:(0:Int)<(n1:Int):=by omega
   have d1':w2.cell? ⟨a1.block,a1.off+1,none⟩=some (.int .i64 1):=d1;clear b2 d1 K fB eG G1;go_wp2_with fail;refine(IA.o w2 aE.o).mono ?_;rintro e w3 ⟨g3,⟨A3,n3,c3,rfl,N3,F3⟩,E3⟩;have G3:=O (zh G2.o g3);have S:=O (ef E3 HB.o);have G9:=O N3;have qi:=O E3;have JL:=O (λa' e'=>(F3 a' e').imp id (λq=>Nat.le_trans G2.o.size q));clear g3 N3 E3 F3;go_wp2_with fail;refine S.o.mono ?_;rintro e w4 ⟨rfl,E4,g4⟩;have N4:=O (qi.o.ns G9.o g4);have G4:=O (zh G3.o g4);have Gz:=O E4;clear E4 g4 S qi G9;go_wp2_with fail;go_ret;exact⟨G4.o,⟨A3,n3,c3,rfl,N4.o,JL.o⟩,Gz.o⟩
 ·have HR:=O (show gI k.env (.cons c (.cons a (.cons b .nil)))=evX k.env b by rw [gI,qc];rfl);rw [HR.o];clear qc ha hb hc la lb lc vV pV g1 HC IA HO;rcases qb:evX k.env b with u|U
  ·rw [qb] at IB;unfold zU at IB;clear qb;go_enter Tryz.func61,Tryz.ntmps61;go_wp2_with fail;refine IC.o.mono ?_;rintro e w1 ⟨g2,⟨A1,n1,c1,rfl,N1,F1⟩,E1⟩;have G1:=O g2;have K:=O (zB A1 n1 c1 (zw false) 1 w1 N1 (by decide));rw [if_pos (show zg (zw false)=1 from rfl)] at K;have eG:=O N1;have fB:=O E1;clear g2 N1 F1 E1;go_wp2_with fail;refine K.o.mono ?_;rintro e w2 ⟨rfl,b2⟩;have aE:=O (fB.o.keep b2);have G2:=O (zh G1.o (zj b2 _));obtain⟨a1,rfl,hn1,⟨-,d1,-,-⟩,-,-⟩:=jY (eG.o.keep b2) (by decide);have hi:(0:Int)<(n1:Int):=by omega
   have d1':w2.cell? ⟨a1.block,a1.off+1,none⟩=some (.int .i64 0):=d1;clear b2 d1 K fB eG G1;go_wp2_with fail;have S:=O (ef aE.o HA.o);refine S.o.mono ?_;rintro e w3 ⟨rfl,E3,g3⟩;have G3:=O (zh G2.o g3);have qi:=O E3;clear E3 g3 S aE;go_wp2_with fail;refine(IB.o w3 qi.o).mono ?_;rintro e w4 ⟨g4,rfl⟩;have G4:=O (zh G3.o g4);clear g4;go_wp2_with fail;exact⟨rfl,G4.o,rfl⟩
  ·rw [qb] at IB;unfold zU at IB;clear qb;go_enter Tryz.func61,Tryz.ntmps61;go_wp2_with fail;refine IC.o.mono ?_;rintro e w1 ⟨g2,⟨A1,n1,c1,rfl,N1,F1⟩,E1⟩;have G1:=O g2;have K:=O (zB A1 n1 c1 (zw false) 1 w1 N1 (by decide));rw [if_pos (show zg (zw false)=1 from rfl)] at K;have eG:=O N1;have fB:=O E1;clear g2 N1 F1 E1;go_wp2_with fail;refine K.o.mono ?_;rintro e w2 ⟨rfl,b2⟩;have aE:=O (fB.o.keep b2);have G2:=O (zh G1.o (zj b2 _));obtain⟨a1,rfl,hn1,⟨-,d1,-,-⟩,-,-⟩:=jY (eG.o.keep b2) (by decide);have hi:(0:Int)<(n1:Int):=by omega
   have d1':w2.cell? ⟨a1.block,a1.off+1,none⟩=some (.int .i64 0):=d1;clear b2 d1 K fB eG G1;go_wp2_with fail;have S:=O (ef aE.o HA.o);refine S.o.mono ?_;rintro e w3 ⟨rfl,E3,g3⟩;have G3:=O (zh G2.o g3);have qi:=O E3;clear E3 g3 S aE;go_wp2_with fail;refine(IB.o w3 qi.o).mono ?_;rintro e w4 ⟨g4,⟨A4,n4,c4,rfl,N4,F4⟩,E4⟩;have G4:=O (zh G3.o g4);have HN4:=O N4;have Gz:=O E4;have HF4:=O (λa' e'=>(F4 a' e').imp id (λq=>Nat.le_trans G3.o.size q));clear g4 N4 E4 F4;go_wp2_with fail;go_ret;exact⟨G4.o,⟨A4,n4,c4,rfl,HN4.o,HF4.o⟩,Gz.o⟩
def iO(w:World)(r:Except Int (Option (List Nd)))(e:Ending)(w':World):Prop :=
 Below w.heap.size w w'/\match r with
  | .error k=>e = .panicked (bz k)
  | .ok none=>e = .returned (.slice none 0 0)
  | .ok (some V)=>∃a n c,e = .returned (.slice (some a) n c)/\Ns w' (some a) n c V
theorem Al{E:List En}{u:Ud}{k:Nat}(h:k<E.length):((E.drop k).find? λx=>decide (x.u=u))=if E[k].u=u then some E[k] else(E.drop (k+1)).find? λx=>decide (x.u=u):=by
 rw [List.drop_eq_getElem_cons h,List.find?_cons];by_cases g:E[k].u=u
 ·simp [g]
 ·simp [g]
theorem Bu{w:World}{R:Nat}{k:Cx}(_h:bJ w R k)(A:Option Addr)(n c:Nat)(V:List Nd)(hv:Ns w A n c V)(h0:0<V.length)(h6:zg V=6):
 Calls Tryz.prog 92 #[.pointer (some ⟨R,0,none⟩),.slice A n c] w (iO w (dy k.E V)):=by
 have K:=O (dI A n c V 6 w hv h0);have f1:(zg V==6)=true:=beq_iff_eq.2 h6;rw [f1] at K;have HR:=O (show dy k.E V = .ok (some V) by unfold dy;rw [if_pos h6]);have HV:=O hv;obtain⟨a,rfl,-⟩:=jY hv h0;rw [HR.o];clear hv h0 h6 f1;go_enter Tryz.func92,Tryz.ntmps92;go_wp2_with fail;refine K.o.mono ?_;rintro e w1 ⟨rfl,b1⟩;have B1:=O b1;clear b1 K;go_wp2_with fail;go_ret;exact⟨B1.o,a,n,c,rfl,HV.o.keep B1.o⟩
theorem Fu{w:World}{R:Nat}{k:Cx}(_h:bJ w R k)(A:Option Addr)(n c:Nat)(V:List Nd)(hv:Ns w A n c V)(h0:0<V.length)(h6:zg V≠6)(h4:zg V≠4):
 Calls Tryz.prog 92 #[.pointer (some ⟨R,0,none⟩),.slice A n c] w (iO w (dy k.E V)):=by
 have K:=O (dI A n c V 6 w hv h0);have K2:=O (λw' hb=>dI A n c V 4 w' (hv.keep (w':=w') hb) h0);have f1:(zg V==6)=false:=beq_eq_false_iff_ne.2 h6;have f2:(zg V==4)=false:=beq_eq_false_iff_ne.2 h4;rw [f1] at K;rw [f2] at K2;have HR:=O (show dy k.E V = .error 2 by unfold dy;rw [if_neg h6,if_neg h4]);rw [HR.o];clear hv h0 h6 h4 f1 f2;go_enter Tryz.func92,Tryz.ntmps92;go_wp2_with fail;refine K.o.mono ?_;rintro e w1 ⟨rfl,b1⟩;have B1:=O b1;clear b1 K;go_wp2_with fail;refine(K2.o _ B1.o).mono ?_;rintro e w2 ⟨rfl,b2⟩;have B2:=bh B1 b2;clear b2 B1 K2;go_wp2_with fail;exact⟨rfl,B2.o,rfl⟩
theorem BI{w:World}{R:Nat}{k:Cx}(h:bJ w R k)(A:Option Addr)(n c:Nat)(V:List Nd)(hv:Ns w A n c V)(h0:0<V.length)(h4:zg V=4):
 Calls Tryz.prog 92 #[.pointer (some ⟨R,0,none⟩),.slice A n c] w (iO w (dy k.E V)):=by
 have K:=O (dI A n c V 6 w hv h0);have K2:=O (λw' hb=>dI A n c V 4 w' (hv.keep (w':=w') hb) h0);have KU:=O (λw' hb=>mX A n c V w' (hv.keep (w':=w') hb) h0);have f1:(zg V==6)=false:=by rw [h4];rfl
 have f2:(zg V==4)=true:=beq_iff_eq.2 h4;rw [f1] at K;rw [f2] at K2;have HR:=O (show dy k.E V = .ok ((k.E.find? λx=>decide (x.u=jV V)).map En.P) by unfold dy;rw [if_neg (by rw [h4];decide),if_pos h4]);rw [HR.o];have HE:=O h.es;have Md:=O (λx (hx:x∈k.E)=>dd (xf (gi.1 h.e).2.1 hx).1);have c0:=h.c0;have kX:=O HE.o.len;have hmx:=HE.o.max;unfold maxLen at hmx;unfold udV at KU;generalize jV V=u at *;clear hv h0 h4 f1 f2;go_enter Tryz.func92,Tryz.ntmps92;go_wp2_with fail;refine K.o.mono ?_;rintro e w1 ⟨rfl,b1⟩;have B1:=O b1;clear b1 K;go_wp2_with fail;refine(K2.o _ B1.o).mono ?_;rintro e w2 ⟨rfl,b2⟩;have B2:=bh B1 b2;replace c0:=zb B2.o c0;clear b2 B1 K2;go_wp2_with fail;go_loopw [21] (λi wr=>∃j:Nat,i = .int .i64 j/\j<=k.en/\Hid ((k.E.find? λx=>decide (x.u=u))=(k.E.drop j).find? λx=>decide (x.u=u))/\Hid (Below w.heap.size w wr)) (λi _=>k.en-(intOf i).toNat)
 case atStart=>exact⟨0,rfl,Nat.zero_le _,O rfl,B2⟩
 case round =>
  obtain⟨j,rfl,hj,hF,hB⟩:=hrel;by_cases hlt:j<k.en
  ·have GG:j<k.E.length:=by rw [<-kX.o];exact hlt
   obtain⟨a,hea,q0,q1,q2,q3,dY⟩:=(HE.o.keep hB.o).at_ j k.E[j] (List.getElem?_eq_getElem GG);rw [hea];have hF2:=hF.o.trans (Al GG);have HV:=O (Md.o k.E[j] (List.getElem_mem GG));generalize k.E[j]=x at *;have V0:=O (qI wr x 113);have B3:=bh hB (za wr (.cells #[.string x.u.1,.string x.u.2,.slice x.UA x.un x.uc,.slice x.NA x.nn x.nc] 113));have uK:=O (dY.keep (za wr (.cells #[.string x.u.1,.string x.u.2,.slice x.UA x.un x.uc,.slice x.NA x.nn x.nc] 113)));have HB3:=B3;obtain⟨w3,hw3⟩:∃w3,wr.alloc (.cells #[.string x.u.1,.string x.u.2,.slice x.UA x.un x.uc,.slice x.NA x.nn x.nc] 113)=w3:=⟨_,rfl⟩
   rw [hw3] at V0 B3 uK HB3;have R1:=rq (w:=w3) (λw' hb=>KU.o w' (B3.o.trans (hb.mono B3.o.size)));obtain⟨v0,v1,v2,v3⟩:=V0.o;have k0:=cell_regrown v0;have k1:=cell_regrown v1;by_cases he:x.u=u
   ·rw [if_pos he] at hF2;have HN:=O hF2;have hb1:(x.u.1.toList==u.1.toList)=true:=by rw [he];exact beq_self_eq_true _
    have hb2:(x.u.2.toList==u.2.toList)=true:=by rw [he];exact beq_self_eq_true _
    clear he hF hF2;go_wp2_with fail;refine wp_region_quiet_below (by kernel_rfl) (by kernel_rfl) ?_
    repeat (first|go_big_quiet_step (with_reducible exact R1 _ _)|quiet_step (with_reducible exact R1 _ _))
    refine wpQuiet_nil ?_;intro w4 hw';have b4:=O (show Below w3.heap.size w3 w4 by obtain⟨⟨d,os⟩,rfl⟩:=hw';exact below_regrown _ _ _);clear hw';have B4:=bh B3 b4.o;have V4:=O (V0.o.keep b4.o);have HO4:=O (uK.o.keep b4.o);clear k0 k1 v0 v1 v2 v3 V0 uK;obtain⟨v0,v1,v2,v3⟩:=V4.o;go_wp2_with fail;go_ret;rw [HN.o];obtain⟨a4,ha4,-⟩:=jY HO4.o.ns HV.o;refine⟨B4.o,a4,x.nn,x.nc,by rw [<-ha4];rfl,by rw [<-ha4];exact HO4.o.ns⟩
   ·rw [if_neg he] at hF2;have HN:=O hF2;have hne:(x.u.1.toList==u.1.toList)=false\/((x.u.1.toList==u.1.toList)=true/\(x.u.2.toList==u.2.toList)=false):=vN he;clear he hF hF2;rcases hne with h1|⟨h1,h2⟩
    all_goals
     go_wp2_with fail;refine wp_region_quiet_below (by kernel_rfl) (by kernel_rfl) ?_
     repeat (first|go_big_quiet_step (with_reducible exact R1 _ _)|quiet_step (with_reducible exact R1 _ _))
     refine wpQuiet_nil ?_;intro w4 hw';have b4:=O (show Below w3.heap.size w3 w4 by obtain⟨⟨d,os⟩,rfl⟩:=hw';exact below_regrown _ _ _);clear hw';have B4:=bh B3 b4.o;clear k0 k1 v0 v1 v2 v3 V0;go_wp2_with fail;go_roundw
     case rel=>exact⟨j+1,by go_num,by omega,HN,B4⟩
     case measure=>simp [intOf];omega
  ·have HN:=O (show(k.E.find? λx=>decide (x.u=u))=none by
    rw [hF.o,List.drop_of_length_le (by rw [<-kX.o];omega)];rfl)
   clear hF;go_wp2_with fail;go_ret;rw [HN.o];exact⟨hB.o,rfl⟩
theorem lv{w:World}{R:Nat}{k:Cx}(h:bJ w R k)(A:Option Addr)(n c:Nat)(V:List Nd)(hv:Ns w A n c V)(h0:0<V.length):
 Calls Tryz.prog 92 #[.pointer (some ⟨R,0,none⟩),.slice A n c] w (iO w (dy k.E V)):=by
 by_cases h6:zg V=6
 ·exact Bu h A n c V hv h0 h6
 by_cases h4:zg V=4
 ·exact BI h A n c V hv h0 h4
 ·exact Fu h A n c V hv h0 h6 h4
end Go.Proofs.YthidiimbeaabhaaGreatDoor
namespace Go.Proofs
end Go.Proofs
