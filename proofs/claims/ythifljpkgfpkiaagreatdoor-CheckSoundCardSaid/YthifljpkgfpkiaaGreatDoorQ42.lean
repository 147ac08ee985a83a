/-
  eval.next: the node at hand; skip; a value of one node. (gen_evnx.py) De ..
-/
import Derived.Test.YthifljpkgfpkiaaGreatDoorQ41
set_option maxRecDepth 100000
set_option maxHeartbeats 8000000
namespace Go.Proofs.YthifljpkgfpkiaaGreatDoor
open Go.RowKit Go.Wk Go.Sort
theorem zW.node{W w:World}{R:Nat}{k:Cx}{p:Nat}(h:zW W w R k (p:Int)){n:Nd}{ps:Exs}{f:Bool}(hx:XAt k.P p f (.node n ps)):
 ∃a,k.A=some a/\p<k.n/\Nd4 w (a.add (p*4)) n/\lk n:=by
 have hh:=hx.head;have hl:p<k.P.length:=(List.getElem?_eq_some_iff.1 hh).1;have he:k.P[p]=n:=(List.getElem?_eq_some_iff.1 hh).2;obtain⟨a,ha,D⟩:=h.cx.ns.at_.nd hl;rw [he] at D;have ho:=h.cx.ns.ok.at hl;rw [he] at ho;exact⟨a,ha,by rw [h.cx.ns.len];exact hl,D,ho⟩
theorem sZ{W w:World}{R:Nat}{k:Cx}{p:Int}(h:zW W w R k p)(q:Int):zW W (w.setCell ⟨R,9,none⟩ (.int .i64 q)) R k q/\w.grownBy (w.setCell ⟨R,9,none⟩ (.int .i64 q)) (some R):=⟨h.put q,zl w ⟨R,9,none⟩ _⟩
theorem br{W w:World}{R:Nat}{k:Cx}{p:Int}(h:zW W w R k p)(o:Obj):zW W ((w.setCell ⟨R,9,none⟩ (.int .i64 (p+1))).alloc o).drew R k (p+1)/\w.grownBy ((w.setCell ⟨R,9,none⟩ (.int .i64 (p+1))).alloc o).drew (some R):=by
 obtain⟨h1,g1⟩:=sZ h (p+1);exact⟨(h1.keep (za _ o)).keep (jh _),zf (zf g1 (zc (za _ o) _)) (zc (jh _) _)⟩
theorem iE{W w:World}{R:Nat}{k:Cx}{p:Nat}(h:zW W w R k (p:Int)){f:Bool}{x:Ex}(hx:XAt k.P p f x):
 Calls Tryz.prog 90 #[.pointer (some ⟨R,0,none⟩)] w λe w'=>e = .returned (.tuple #[])/\zW W w' R k ((p+x.flat.length:Nat):Int)/\w.grownBy w' (some R):=by
 have E0:=O (h.keep (jh w));have K:=O (ya k.A k.n k.c k.P p f x w.drew (E0.o.cx.ns) hx);have S0:w.drew.cell? ⟨R,8,none⟩=some (.slice k.A k.n k.c)/\w.drew.cell? ⟨R,9,none⟩=some (.int .i64 p):=⟨h.c8,h.c9⟩
 generalize p+x.flat.length=q at *;clear h hx;go_enter Tryz.func90,Tryz.ntmps90;refine a8 (λ(w':World)=>w'.cell? ⟨R,8,none⟩=some (.slice k.A k.n k.c)/\w'.cell? ⟨R,9,none⟩=some (.int .i64 p)) 12 (by kernel_rfl) S0 (λhHeld=>?_);refine zr 0 2 (.pointer (some ⟨R,0,none⟩)) rfl (λw' hSw=>?_) hHeld ?_
 ·obtain⟨a0,a1⟩:=hSw;go_simp
 simp only [Act.put,zL];refine zr 1 3 (.pointer (some ⟨R,0,none⟩)) rfl (λw' hSw=>?_) hHeld ?_
 ·obtain⟨a0,a1⟩:=hSw;go_simp
 simp only [Act.put,zL];refine zr 2 4 (.pointer (some ⟨R,0,none⟩)) rfl (λw' hSw=>?_) hHeld ?_
 ·obtain⟨a0,a1⟩:=hSw;go_simp
 simp only [Act.put,zL];refine zr 3 5 (.pointer (some ⟨R,8,none⟩)) rfl (λw' hSw=>?_) hHeld ?_
 ·obtain⟨a0,a1⟩:=hSw;go_simp
 simp only [Act.put,zL];refine zr 4 6 (.slice k.A k.n k.c) rfl (λw' hSw=>?_) hHeld ?_
 ·obtain⟨a0,a1⟩:=hSw;go_simp
 simp only [Act.put,zL];refine zr 5 7 (.pointer (some ⟨R,0,none⟩)) rfl (λw' hSw=>?_) hHeld ?_
 ·obtain⟨a0,a1⟩:=hSw;go_simp
 simp only [Act.put,zL];refine zr 6 8 (.pointer (some ⟨R,0,none⟩)) rfl (λw' hSw=>?_) hHeld ?_
 ·obtain⟨a0,a1⟩:=hSw;go_simp
 simp only [Act.put,zL];refine zr 7 9 (.pointer (some ⟨R,9,none⟩)) rfl (λw' hSw=>?_) hHeld ?_
 ·obtain⟨a0,a1⟩:=hSw;go_simp
 simp only [Act.put,zL];refine zr 8 10 (.int .i64 p) rfl (λw' hSw=>?_) hHeld ?_
 ·obtain⟨a0,a1⟩:=hSw;go_simp
 simp only [Act.put,zL];refine zA (i:=9) (o:=⟨some 11,_,_,_,_,_⟩) (by kernel_rfl) rfl (λK' hK'=>?_);go_simp;go_at_call 83;refine K.o.mono ?_;rintro e w1 ⟨rfl,b1⟩;have E1:=O (E0.o.keep b1);have G1:=O (zf (zc (jh w) (some R)) (zc b1 (some R)));clear b1;go_wp2_with fail;refine hK'.out _ _ (λ_=>⟨E1.o.c8,E1.o.c9⟩) ?_;clear hK' K' hHeld
 try simp only [Act.put,zL]
 refine zA (i:=10) (o:=⟨some 12,_,_,_,_,_⟩) (by kernel_rfl) rfl (λK' hK'=>?_);go_simp;refine hK'.out _ _ (λ_=>⟨E1.o.c8,E1.o.c9⟩) ?_;clear hK' K'
 try simp only [Act.put,zL]
 refine zA (i:=11) (o:=⟨some 13,_,_,_,_,_⟩) (by kernel_rfl) rfl (λK' hK'=>?_);go_simp;refine hK'.out _ _ (λ_=>⟨E1.o.c8,E1.o.c9⟩) ?_;clear hK' K'
 try simp only [Act.put,zL]
 have j9:=E1.o.c9;have z9:=E1.o.z 9;have xf:=E1.o.lt;refine zA (i:=12) (o:=⟨none,_,_,_,_,_⟩) (by kernel_rfl) rfl (λK' hK'=>?_);go_simp;refine hK'.out _ _ (λh=>absurd rfl h) ?_;refine jR (by kernel_rfl) ?_;clear hK' K';exact⟨rfl,.tuple #[],by simp [results,Tryz.results90,go_sem],rfl,(sZ E1.o q).1,zf G1.o (sZ E1.o q).2⟩
theorem TN{W w:World}{R:Nat}{k:Cx}{p:Int}(h:zW W w R k p)(n:Nd)(ho:lk n):jd W w R k (p+1) (.ok [n]) (.returned (.slice (some ⟨w.heap.size+1,0,none⟩) 1 1))
 (((w.setCell ⟨R,9,none⟩ (.int .i64 (p+1))).alloc (.cells #[.int .i64 n.op,.int .i64 n.n,.string n.s,.string n.t] 47)).alloc (.cells #[.int .i64 n.op,.int .i64 n.n,.string n.s,.string n.t] 47)).drew:=by
 obtain⟨h1,g1⟩:=sZ h (p+1);have hz:(((w.setCell ⟨R,9,none⟩ (.int .i64 (p+1))).alloc (.cells #[.int .i64 n.op,.int .i64 n.n,.string n.s,.string n.t] 47))).heap.size=w.heap.size+1:=by simp [World.setCell]
 have b1:=za (w.setCell ⟨R,9,none⟩ (.int .i64 (p+1))) (.cells #[.int .i64 n.op,.int .i64 n.n,.string n.s,.string n.t] 47);have b2:=za ((w.setCell ⟨R,9,none⟩ (.int .i64 (p+1))).alloc (.cells #[.int .i64 n.op,.int .i64 n.n,.string n.s,.string n.t] 47)) (.cells #[.int .i64 n.op,.int .i64 n.n,.string n.s,.string n.t] 47);have hN:=nT ((w.setCell ⟨R,9,none⟩ (.int .i64 (p+1))).alloc (.cells #[.int .i64 n.op,.int .i64 n.n,.string n.s,.string n.t] 47)) n ho;rw [hz] at hN;exact⟨zf (zf (zf g1 (zc b1 _)) (zc b2 _)) (zc (jh _) _),⟨_,_,_,rfl,hN.keep (jh _),λa e=>by injection e with e;subst e;exact .inr (Nat.le_succ _)⟩,((h1.keep b1).keep b2).keep (jh _)⟩
theorem Lz{W w:World}{R:Nat}{k:Cx}{p:Nat}(h:zW W w R k (p:Int))(n:Nd)(ps:Exs)(hx:XAt k.P p false (.node n ps))(h14:1<=n.op/\n.op<=4)(hp:zG n=0):
 Calls Tryz.prog 25 #[.pointer (some ⟨R,0,none⟩)] w (jd W w R k ((p+(Ex.node n ps).flat.length:Nat):Int) (evX k.env (.node n ps))):=by
 have HR:=O (show evX k.env (.node n ps)= .ok [n] by rw [evX,if_pos h14]);rw [HR.o,(hx.none hp).2];have ways:n.op=1\/n.op=2\/n.op=3\/n.op=4:=by omega
 obtain⟨a,ha,T',D,ho⟩:=h.node hx;obtain⟨o,v,s,t⟩:=n;obtain⟨d0,d1,d2,d3⟩:=D;dsimp only at d0 d1 d2 d3 ways;have hm:=h.cx.ns.max;unfold maxLen at hm;have c8:w.cell? ⟨R,8,none⟩=some (.slice (some a) k.n k.c):=by rw [<-ha];exact h.c8
 have c9:=h.c9;have z9:=h.z 9;have xf:=h.lt;have HO:=O ho;have E1:=O (br h (.cells #[.int .i64 o,.int .i64 v,.string s,.string t] 47)).1;have G1:=O (br h (.cells #[.int .i64 o,.int .i64 v,.string s,.string t] 47)).2;have nw8:=World.new_ne w ⟨R,8,none⟩ c8;have nw9:=World.new_ne w ⟨R,9,none⟩ c9;have nd0:=World.new_ne w _ d0;have nd1:=World.new_ne w _ d1;have nd2:=World.new_ne w _ d2;have nd3:=World.new_ne w _ d3;have mY:(0:Int)<=(p:Int):=by omega
 have ER:=O (TN h ⟨o,v,s,t⟩ ho);generalize k.n=kn at *;have eY:(p:Int)<(kn:Int):=by omega
 clear ha ho hx h hp h14 HR;go_enter Tryz.func25,Tryz.ntmps25;go_wp2_with fail;go_region_held3 (λw':World=>w'.cell? ⟨R,8,none⟩=some (.slice (some a) kn k.c)/\w'.cell? ⟨R,9,none⟩=some (.int .i64 p)/\w'.cell? (a.add (p*4))=some (.int .i64 o)/\w'.cell? ⟨(a.add (p*4)).block,(a.add (p*4)).off+1,none⟩=some (.int .i64 v)/\w'.cell? ⟨(a.add (p*4)).block,(a.add (p*4)).off+2,none⟩=some (.string s)/\w'.cell? ⟨(a.add (p*4)).block,(a.add (p*4)).off+3,none⟩=some (.string t)) (go_keep) (fail);rcases ways with rfl|rfl|rfl|rfl
 all_goals
  go_wp2_with fail;go_ret;exact ER.o
end Go.Proofs.YthifljpkgfpkiaaGreatDoor
namespace Go.Proofs.YthifljpkgfpkiaaGreatDoor
open Go.RowKit Go.Wk
def zad(o:Int):Nd:=⟨o,0,emp,emp⟩
def ex2(o:Int)(a b:Ex):Ex := .node (zad o) (.cons a (.cons b .nil))
theorem qJ{V:List Nd}(h:zh V=0)(h1:zg V=1):V=zS true\/V=zS false:=by
 obtain⟨hl,hv⟩:=zy.1 h;have cg:=hv.pos
 match V,cg with
 | x :: r,_ =>
  have hx:x.op=1:=h1
  unfold IsV at hv
  simp only [zq,List.getElem?_cons_zero] at hv
  by_cases hs:zC x=true
  ·rw [if_pos hs,if_neg (by omega),if_neg (by omega),if_neg (by omega)] at hv
   have hr:r = []:=by simpa using hv
   subst hr;unfold zC at hs;rw [if_pos hx] at hs;simp only [Bool.and_eq_true,Bool.or_eq_true,decide_eq_true_eq] at hs;obtain⟨⟨hn,h2⟩,h3⟩:=hs;rcases hn with hn|hn
   ·right;rw [show x=⟨1,0,emp,emp⟩ from Nd.ext4 hx hn (ia h2) (ia h3)];rfl
   ·left;rw [show x=⟨1,1,emp,emp⟩ from Nd.ext4 hx hn (ia h2) (ia h3)];rfl
  ·rw [if_neg hs] at hv;cases hv
end Go.Proofs.YthifljpkgfpkiaaGreatDoor
namespace Go.Proofs.YthifljpkgfpkiaaGreatDoor
open Go.RowKit Go.Wk Go.Sort
theorem lT{k:Cx}(ho:gQ k.env){t:List Nd}{p:Nat}{x:Ex}(hx:XAt t p false x){V:List Nd}(h:evX k.env x = .ok V):zh V=0/\0<V.length :=
 have hv:=eh ho x false hx.valid V h
 ⟨hv,fo hv⟩
theorem Lj{W:World}{R N:Nat}{k:Cx}(ih:kT W R k N){w:World}{p:Nat}(h:zW W w R k (p:Int))(a b:Ex)(ha:XAt k.P p false a)(hb:XAt k.P (p+a.flat.length) false b)(la:a.flat.length<=N)(lb:b.flat.length<=N):
 Calls Tryz.prog 60 #[.pointer (some ⟨R,0,none⟩),.int .i64 11] w (jd W w R k ((p+a.flat.length+b.flat.length:Nat):Int) (zZ k.env false (.cons a (.cons b .nil)))):=by
 have IA:=O (ih a p w h ha la);have IB:=O (λw' h'=>ih b (p+a.flat.length) w' h' hb lb);have HO:=O h.ok.ok;have HA:=O ha;have HB:=O hb;have H:=O h;clear h ih;rcases qa:evX k.env a with e|V
 ·have HR:=O (show zZ k.env false (.cons a (.cons b .nil))= .error e by rw [zZ,qa]);rw [HR.o];rw [qa] at IA;unfold jd at IA;clear qa ha hb la lb IB HA HB;go_enter Tryz.func60,Tryz.ntmps60;go_wp2_with fail;refine IA.o.mono ?_;rintro e w1 ⟨g1,rfl⟩;have G1:=O g1;clear g1;go_wp2_with fail;exact⟨rfl,G1.o,rfl⟩
 ·obtain⟨vV,pV⟩:=lT HO.o HA.o qa;rw [qa] at IA;unfold jd at IA;by_cases g1:zg V=1
  ·rcases qJ vV g1 with rfl|rfl
   ·have K0:(1:Int)=1:=rfl;have HR:=O (show zZ k.env false (.cons a (.cons b .nil))=aY k.env (.cons b .nil) by rw [zZ,qa];rfl);rw [HR.o];have ME:=O (show((p+a.flat.length:Nat):Int)=((p+a.flat.length:Nat):Int) from rfl);clear qa ha hb la lb vV pV g1 K0;rcases qb:evX k.env b with u|U
    ·have iY:=O (show aY k.env (.cons b .nil)= .error u by rw [aY,qb]);rw [iY.o];rw [qb] at IB;unfold jd at IB;clear qb;go_enter Tryz.func60,Tryz.ntmps60;go_wp2_with fail;refine IA.o.mono ?_;rintro e w1 ⟨g2,⟨A1,n1,c1,rfl,N1,F1⟩,E1⟩;have G1:=O g2;have K:=O (zH A1 n1 c1 (zS true) 1 w1 N1 (by decide));rw [if_pos (show zg (zS true)=1 from rfl)] at K;have fi:=O N1;have iW:=O E1;clear g2 N1 F1 E1;go_wp2_with fail;refine K.o.mono ?_;rintro e w2 ⟨rfl,b2⟩;have ay:=O (iW.o.keep b2);have N2:=O (fi.o.keep b2);have G2:=O (zf G1.o (zc b2 _));obtain⟨a1,rfl,hn1,⟨-,d1,-,-⟩,-,-⟩:=aX N2.o (by decide);have hi:(0:Int)<(n1:Int):=by omega
     have d1':w2.cell? ⟨a1.block,a1.off+1,none⟩=some (.int .i64 1):=d1;clear b2 d1 K iW fi G1;go_wp2_with fail;refine(IB.o w2 ay.o).mono ?_;rintro e w3 ⟨g3,rfl⟩;have G3:=O (zf G2.o g3);clear g3;go_wp2_with fail;exact⟨rfl,G3.o,rfl⟩
    ·obtain⟨vU,pU⟩:=lT HO.o HB.o qb;have PU:=O pU;rw [qb] at IB;unfold jd at IB;clear vU pU;by_cases g3:zg U=1
     ·have iY:=O (show aY k.env (.cons b .nil)= .ok U by rw [aY,qb];simp only;rw [if_pos g3]);rw [iY.o];clear qb;go_enter Tryz.func60,Tryz.ntmps60;go_wp2_with fail;refine IA.o.mono ?_;rintro e w1 ⟨g2,⟨A1,n1,c1,rfl,N1,F1⟩,E1⟩;have G1:=O g2;have K:=O (zH A1 n1 c1 (zS true) 1 w1 N1 (by decide));rw [if_pos (show zg (zS true)=1 from rfl)] at K;have fi:=O N1;have iW:=O E1;clear g2 N1 F1 E1;go_wp2_with fail;refine K.o.mono ?_;rintro e w2 ⟨rfl,b2⟩;have ay:=O (iW.o.keep b2);have N2:=O (fi.o.keep b2);have G2:=O (zf G1.o (zc b2 _));obtain⟨a1,rfl,hn1,⟨-,d1,-,-⟩,-,-⟩:=aX N2.o (by decide);have hi:(0:Int)<(n1:Int):=by omega
      have d1':w2.cell? ⟨a1.block,a1.off+1,none⟩=some (.int .i64 1):=d1;clear b2 d1 K iW fi G1;go_wp2_with fail;refine(IB.o w2 ay.o).mono ?_;rintro e w3 ⟨g4,⟨A3,n3,c3,rfl,N3,F3⟩,E3⟩;have G3:=O (zf G2.o g4);have K3:=O (zH A3 n3 c3 U 1 w3 N3 PU.o);rw [if_pos g3] at K3;have UF:=O N3;have yC:=O E3;have YH:=O (λa' e'=>(F3 a' e').imp id (λq=>Nat.le_trans G2.o.size q));clear g4 N3 E3 F3;go_wp2_with fail;refine K3.o.mono ?_;rintro e w4 ⟨rfl,b4⟩;have QX:=O (yC.o.keep b4);have N4:=O (UF.o.keep b4);have G4:=O (zf G3.o (zc b4 _));clear b4;go_wp2_with fail;go_ret;exact⟨G4.o,⟨A3,n3,c3,rfl,N4.o,YH.o⟩,QX.o⟩
     ·have iY:=O (show aY k.env (.cons b .nil)= .error 2 by rw [aY,qb];simp only;rw [if_neg g3]);rw [iY.o];clear qb;go_enter Tryz.func60,Tryz.ntmps60;go_wp2_with fail;refine IA.o.mono ?_;rintro e w1 ⟨g2,⟨A1,n1,c1,rfl,N1,F1⟩,E1⟩;have G1:=O g2;have K:=O (zH A1 n1 c1 (zS true) 1 w1 N1 (by decide));rw [if_pos (show zg (zS true)=1 from rfl)] at K;have fi:=O N1;have iW:=O E1;clear g2 N1 F1 E1;go_wp2_with fail;refine K.o.mono ?_;rintro e w2 ⟨rfl,b2⟩;have ay:=O (iW.o.keep b2);have N2:=O (fi.o.keep b2);have G2:=O (zf G1.o (zc b2 _));obtain⟨a1,rfl,hn1,⟨-,d1,-,-⟩,-,-⟩:=aX N2.o (by decide);have hi:(0:Int)<(n1:Int):=by omega
      have d1':w2.cell? ⟨a1.block,a1.off+1,none⟩=some (.int .i64 1):=d1;clear b2 d1 K iW fi G1;go_wp2_with fail;refine(IB.o w2 ay.o).mono ?_;rintro e w3 ⟨g4,⟨A3,n3,c3,rfl,N3,F3⟩,E3⟩;have G3:=O (zf G2.o g4);have K3:=O (zH A3 n3 c3 U 1 w3 N3 PU.o);rw [if_neg g3] at K3;clear g4 N3 E3 F3;go_wp2_with fail;refine K3.o.mono ?_;rintro e w4 ⟨rfl,b4⟩;have G4:=O (zf G3.o (zc b4 _));clear b4;go_wp2_with fail;exact⟨rfl,G4.o,rfl⟩
   ·have K0:(1:Int)=1:=rfl;have HR:=O (show zZ k.env false (.cons a (.cons b .nil))= .ok (zS false) by rw [zZ,qa];rfl);rw [HR.o];clear qa ha hb la lb IB vV pV g1 K0;go_enter Tryz.func60,Tryz.ntmps60;go_wp2_with fail;refine IA.o.mono ?_;rintro e w1 ⟨g2,⟨A1,n1,c1,rfl,N1,F1⟩,E1⟩;have G1:=O g2;have K:=O (zH A1 n1 c1 (zS false) 1 w1 N1 (by decide));rw [if_pos (show zg (zS false)=1 from rfl)] at K;have fi:=O N1;have Zu:=O F1;have iW:=O E1;clear g2 N1 F1 E1;go_wp2_with fail;refine K.o.mono ?_;rintro e w2 ⟨rfl,b2⟩;have ay:=O (iW.o.keep b2);have N2:=O (fi.o.keep b2);have G2:=O (zf G1.o (zc b2 _));obtain⟨a1,rfl,hn1,⟨-,d1,-,-⟩,-,-⟩:=aX N2.o (by decide);have hi:(0:Int)<(n1:Int):=by omega
    have d1':w2.cell? ⟨a1.block,a1.off+1,none⟩=some (.int .i64 0):=d1;have S:=O (iE ay.o HB.o);clear b2 d1 K iW fi G1;go_wp2_with fail;refine S.o.mono ?_;rintro e w3 ⟨rfl,E3,g3⟩;have N3:=O (ay.o.ns N2.o g3);have G3:=O (zf G2.o g3);have yC:=O E3;clear E3 g3 S ay N2 d1';go_wp2_with fail;go_ret;exact⟨G3.o,⟨some a1,n1,c1,rfl,N3.o,Zu.o⟩,yC.o⟩
  ·have HR:=O (show zZ k.env false (.cons a (.cons b .nil))= .error 2 by rw [zZ,qa];simp only;rw [if_neg g1]);rw [HR.o];have PV:=O pV;clear qa ha hb la lb IB HA HB vV pV;go_enter Tryz.func60,Tryz.ntmps60;go_wp2_with fail;refine IA.o.mono ?_;rintro e w1 ⟨g2,⟨A1,n1,c1,rfl,N1,F1⟩,E1⟩;have G1:=O g2;have K:=O (zH A1 n1 c1 V 1 w1 N1 PV.o);rw [if_neg g1] at K;clear g2 N1 F1 E1 g1;go_wp2_with fail;refine K.o.mono ?_;rintro e w2 ⟨rfl,b2⟩;have G2:=O (zf G1.o (zc b2 _));clear b2;go_wp2_with fail;exact⟨rfl,G2.o,rfl⟩
theorem Lx{W:World}{R N:Nat}{k:Cx}(ih:kT W R k N){w:World}{p:Nat}(h:zW W w R k (p:Int))(a b:Ex)(ha:XAt k.P p false a)(hb:XAt k.P (p+a.flat.length) false b)(la:a.flat.length<=N)(lb:b.flat.length<=N):
 Calls Tryz.prog 60 #[.pointer (some ⟨R,0,none⟩),.int .i64 12] w (jd W w R k ((p+a.flat.length+b.flat.length:Nat):Int) (zZ k.env true (.cons a (.cons b .nil)))):=by
 have IA:=O (ih a p w h ha la);have IB:=O (λw' h'=>ih b (p+a.flat.length) w' h' hb lb);have HO:=O h.ok.ok;have HA:=O ha;have HB:=O hb;have H:=O h;clear h ih;rcases qa:evX k.env a with e|V
 ·have HR:=O (show zZ k.env true (.cons a (.cons b .nil))= .error e by rw [zZ,qa]);rw [HR.o];rw [qa] at IA;unfold jd at IA;clear qa ha hb la lb IB HA HB;go_enter Tryz.func60,Tryz.ntmps60;go_wp2_with fail;refine IA.o.mono ?_;rintro e w1 ⟨g1,rfl⟩;have G1:=O g1;clear g1;go_wp2_with fail;exact⟨rfl,G1.o,rfl⟩
 ·obtain⟨vV,pV⟩:=lT HO.o HA.o qa;rw [qa] at IA;unfold jd at IA;by_cases g1:zg V=1
  ·rcases qJ vV g1 with rfl|rfl
   ·have K0:(1:Int)=1:=rfl;have HR:=O (show zZ k.env true (.cons a (.cons b .nil))= .ok (zS true) by rw [zZ,qa];rfl);rw [HR.o];clear qa ha hb la lb IB vV pV g1 K0;go_enter Tryz.func60,Tryz.ntmps60;go_wp2_with fail;refine IA.o.mono ?_;rintro e w1 ⟨g2,⟨A1,n1,c1,rfl,N1,F1⟩,E1⟩;have G1:=O g2;have K:=O (zH A1 n1 c1 (zS true) 1 w1 N1 (by decide));rw [if_pos (show zg (zS true)=1 from rfl)] at K;have fi:=O N1;have Zu:=O F1;have iW:=O E1;clear g2 N1 F1 E1;go_wp2_with fail;refine K.o.mono ?_;rintro e w2 ⟨rfl,b2⟩;have ay:=O (iW.o.keep b2);have N2:=O (fi.o.keep b2);have G2:=O (zf G1.o (zc b2 _));obtain⟨a1,rfl,hn1,⟨-,d1,-,-⟩,-,-⟩:=aX N2.o (by decide);have hi:(0:Int)<(n1:Int):=by omega
    have d1':w2.cell? ⟨a1.block,a1.off+1,none⟩=some (.int .i64 1):=d1;have S:=O (iE ay.o HB.o);clear b2 d1 K iW fi G1;go_wp2_with fail;refine S.o.mono ?_;rintro e w3 ⟨rfl,E3,g3⟩;have N3:=O (ay.o.ns N2.o g3);have G3:=O (zf G2.o g3);have yC:=O E3;clear E3 g3 S ay N2 d1';go_wp2_with fail;go_ret;exact⟨G3.o,⟨some a1,n1,c1,rfl,N3.o,Zu.o⟩,yC.o⟩
   ·have K0:(1:Int)=1:=rfl;have HR:=O (show zZ k.env true (.cons a (.cons b .nil))=aY k.env (.cons b .nil) by rw [zZ,qa];rfl);rw [HR.o];have ME:=O (show((p+a.flat.length:Nat):Int)=((p+a.flat.length:Nat):Int) from rfl);clear qa ha hb la lb vV pV g1 K0;rcases qb:evX k.env b with u|U
    ·have iY:=O (show aY k.env (.cons b .nil)= .error u by rw [aY,qb]);rw [iY.o];rw [qb] at IB;unfold jd at IB;clear qb;go_enter Tryz.func60,Tryz.ntmps60;go_wp2_with fail;refine IA.o.mono ?_;rintro e w1 ⟨g2,⟨A1,n1,c1,rfl,N1,F1⟩,E1⟩;have G1:=O g2;have K:=O (zH A1 n1 c1 (zS false) 1 w1 N1 (by decide));rw [if_pos (show zg (zS false)=1 from rfl)] at K;have fi:=O N1;have iW:=O E1;clear g2 N1 F1 E1;go_wp2_with fail;refine K.o.mono ?_;rintro e w2 ⟨rfl,b2⟩;have ay:=O (iW.o.keep b2);have N2:=O (fi.o.keep b2);have G2:=O (zf G1.o (zc b2 _));obtain⟨a1,rfl,hn1,⟨-,d1,-,-⟩,-,-⟩:=aX N2.o (by decide);have hi:(0:Int)<(n1:Int):=by omega
     have d1':w2.cell? ⟨a1.block,a1.off+1,none⟩=some (.int .i64 0):=d1;clear b2 d1 K iW fi G1;go_wp2_with fail;refine(IB.o w2 ay.o).mono ?_;rintro e w3 ⟨g3,rfl⟩;have G3:=O (zf G2.o g3);clear g3;go_wp2_with fail;exact⟨rfl,G3.o,rfl⟩
    ·obtain⟨vU,pU⟩:=lT HO.o HB.o qb;have PU:=O pU;rw [qb] at IB;unfold jd at IB;clear vU pU;by_cases g3:zg U=1
     ·have iY:=O (show aY k.env (.cons b .nil)= .ok U by rw [aY,qb];simp only;rw [if_pos g3]);rw [iY.o];clear qb;go_enter Tryz.func60,Tryz.ntmps60;go_wp2_with fail;refine IA.o.mono ?_;rintro e w1 ⟨g2,⟨A1,n1,c1,rfl,N1,F1⟩,E1⟩;have G1:=O g2;have K:=O (zH A1 n1 c1 (zS false) 1 w1 N1 (by decide));rw [if_pos (show zg (zS false)=1 from rfl)] at K;have fi:=O N1;have iW:=O E1;clear g2 N1 F1 E1;go_wp2_with fail;refine K.o.mono ?_;rintro e w2 ⟨rfl,b2⟩;have ay:=O (iW.o.keep b2);have N2:=O (fi.o.keep b2);have G2:=O (zf G1.o (zc b2 _));obtain⟨a1,rfl,hn1,⟨-,d1,-,-⟩,-,-⟩:=aX N2.o (by decide);have hi:(0:Int)<(n1:Int):=by omega
      have d1':w2.cell? ⟨a1.block,a1.off+1,none⟩=some (.int .i64 0):=d1;clear b2 d1 K iW fi G1;go_wp2_with fail;refine(IB.o w2 ay.o).mono ?_;rintro e w3 ⟨g4,⟨A3,n3,c3,rfl,N3,F3⟩,E3⟩;have G3:=O (zf G2.o g4);have K3:=O (zH A3 n3 c3 U 1 w3 N3 PU.o);rw [if_pos g3] at K3;have UF:=O N3;have yC:=O E3;have YH:=O (λa' e'=>(F3 a' e').imp id (λq=>Nat.le_trans G2.o.size q));clear g4 N3 E3 F3;go_wp2_with fail;refine K3.o.mono ?_;rintro e w4 ⟨rfl,b4⟩;have QX:=O (yC.o.keep b4);have N4:=O (UF.o.keep b4);have G4:=O (zf G3.o (zc b4 _));clear b4;go_wp2_with fail;go_ret;exact⟨G4.o,⟨A3,n3,c3,rfl,N4.o,YH.o⟩,QX.o⟩
     ·have iY:=O (show aY k.env (.cons b .nil)= .error 2 by rw [aY,qb];simp only;rw [if_neg g3]);rw [iY.o];clear qb;go_enter Tryz.func60,Tryz.ntmps60;go_wp2_with fail;refine IA.o.mono ?_;rintro e w1 ⟨g2,⟨A1,n1,c1,rfl,N1,F1⟩,E1⟩;have G1:=O g2;have K:=O (zH A1 n1 c1 (zS false) 1 w1 N1 (by decide));rw [if_pos (show zg (zS false)=1 from rfl)] at K;have fi:=O N1;have iW:=O E1;clear g2 N1 F1 E1;go_wp2_with fail;refine K.o.mono ?_;rintro e w2 ⟨rfl,b2⟩;have ay:=O (iW.o.keep b2);have N2:=O (fi.o.keep b2);have G2:=O (zf G1.o (zc b2 _));obtain⟨a1,rfl,hn1,⟨-,d1,-,-⟩,-,-⟩:=aX N2.o (by decide);have hi:(0:Int)<(n1:Int):=by omega
      have d1':w2.cell? ⟨a1.block,a1.off+1,none⟩=some (.int .i64 0):=d1;clear b2 d1 K iW fi G1;go_wp2_with fail;refine(IB.o w2 ay.o).mono ?_;rintro e w3 ⟨g4,⟨A3,n3,c3,rfl,N3,F3⟩,E3⟩;have G3:=O (zf G2.o g4);have K3:=O (zH A3 n3 c3 U 1 w3 N3 PU.o);rw [if_neg g3] at K3;clear g4 N3 E3 F3;go_wp2_with fail;refine K3.o.mono ?_;rintro e w4 ⟨rfl,b4⟩;have G4:=O (zf G3.o (zc b4 _));clear b4;go_wp2_with fail;exact⟨rfl,G4.o,rfl⟩
  ·have HR:=O (show zZ k.env true (.cons a (.cons b .nil))= .error 2 by rw [zZ,qa];simp only;rw [if_neg g1]);rw [HR.o];have PV:=O pV;clear qa ha hb la lb IB HA HB vV pV;go_enter Tryz.func60,Tryz.ntmps60;go_wp2_with fail;refine IA.o.mono ?_;rintro e w1 ⟨g2,⟨A1,n1,c1,rfl,N1,F1⟩,E1⟩;have G1:=O g2;have K:=O (zH A1 n1 c1 V 1 w1 N1 PV.o);rw [if_neg g1] at K;clear g2 N1 F1 E1 g1;go_wp2_with fail;refine K.o.mono ?_;rintro e w2 ⟨rfl,b2⟩;have G2:=O (zf G1.o (zc b2 _));clear b2;go_wp2_with fail;exact⟨rfl,G2.o,rfl⟩
theorem EW{W:World}{R N:Nat}{k:Cx}(ih:kT W R k N){w:World}{p:Nat}(h:zW W w R k (p:Int))(c a b:Ex)(hc:XAt k.P p false c)(ha:XAt k.P (p+c.flat.length) false a)(hb:XAt k.P (p+c.flat.length+a.flat.length) false b)(lc:c.flat.length<=N)(la:a.flat.length<=N)(lb:b.flat.length<=N):
 Calls Tryz.prog 61 #[.pointer (some ⟨R,0,none⟩)] w (jd W w R k ((p+c.flat.length+a.flat.length+b.flat.length:Nat):Int) (lj k.env (.cons c (.cons a (.cons b .nil))))):=by
 have IC:=O (ih c p w h hc lc);have IA:=O (λw' h'=>ih a (p+c.flat.length) w' h' ha la);have IB:=O (λw' h'=>ih b (p+c.flat.length+a.flat.length) w' h' hb lb);have HO:=O h.ok.ok;have HC:=O hc;have HA:=O ha;have HB:=O hb;clear h ih;rcases qc:evX k.env c with e|V
 ·have HR:=O (show lj k.env (.cons c (.cons a (.cons b .nil)))= .error e by rw [lj,qc]);rw [HR.o];rw [qc] at IC;unfold jd at IC;clear qc ha hb hc la lb lc IA IB HA HB HC;go_enter Tryz.func61,Tryz.ntmps61;go_wp2_with fail;refine IC.o.mono ?_;rintro e w1 ⟨g1,rfl⟩;have G1:=O g1;clear g1;go_wp2_with fail;exact⟨rfl,G1.o,rfl⟩
 obtain⟨vV,pV⟩:=lT HO.o HC.o qc;rw [qc] at IC;unfold jd at IC;by_cases g1:zg V=1
 case neg =>
  have HR:=O (show lj k.env (.cons c (.cons a (.cons b .nil)))= .error 2 by rw [lj,qc];simp only;rw [if_neg g1]);rw [HR.o];have PV:=O pV;clear qc ha hb hc la lb lc IA IB HA HB HC vV pV;go_enter Tryz.func61,Tryz.ntmps61;go_wp2_with fail;refine IC.o.mono ?_;rintro e w1 ⟨g2,⟨A1,n1,c1,rfl,N1,F1⟩,E1⟩;have G1:=O g2;have K:=O (zH A1 n1 c1 V 1 w1 N1 PV.o);rw [if_neg g1] at K;clear g2 N1 F1 E1 g1;go_wp2_with fail;refine K.o.mono ?_;rintro e w2 ⟨rfl,b2⟩;have G2:=O (zf G1.o (zc b2 _));clear b2;go_wp2_with fail;exact⟨rfl,G2.o,rfl⟩
 rcases qJ vV g1 with rfl|rfl
 ·have HR:=O (show lj k.env (.cons c (.cons a (.cons b .nil)))=evX k.env a by rw [lj,qc];rfl);rw [HR.o];clear qc ha hb hc la lb lc vV pV g1 HC IB HO;rcases qa:evX k.env a with u|U
  ·rw [qa] at IA;unfold jd at IA;clear qa;go_enter Tryz.func61,Tryz.ntmps61;go_wp2_with fail;refine IC.o.mono ?_;rintro e w1 ⟨g2,⟨A1,n1,c1,rfl,N1,F1⟩,E1⟩;have G1:=O g2;have K:=O (zH A1 n1 c1 (zS true) 1 w1 N1 (by decide));rw [if_pos (show zg (zS true)=1 from rfl)] at K;have fi:=O N1;have iW:=O E1;clear g2 N1 F1 E1;go_wp2_with fail;refine K.o.mono ?_;rintro e w2 ⟨rfl,b2⟩;have ay:=O (iW.o.keep b2);have G2:=O (zf G1.o (zc b2 _));obtain⟨a1,rfl,hn1,⟨-,d1,-,-⟩,-,-⟩:=aX (fi.o.keep b2) (by decide);have hi:(0:Int)<(n1:Int):=by omega
   have d1':w2.cell? ⟨a1.block,a1.off+1,none⟩=some (.int .i64 1):=d1;clear b2 d1 K iW fi G1;go_wp2_with fail;refine(IA.o w2 ay.o).mono ?_;rintro e w3 ⟨g3,rfl⟩;have G3:=O (zf G2.o g3);clear g3;go_wp2_with fail;exact⟨rfl,G3.o,rfl⟩
  ·rw [qa] at IA;unfold jd at IA;clear qa;go_enter Tryz.func61,Tryz.ntmps61;go_wp2_with fail;refine IC.o.mono ?_;rintro e w1 ⟨g2,⟨A1,n1,c1,rfl,N1,F1⟩,E1⟩;have G1:=O g2;have K:=O (zH A1 n1 c1 (zS true) 1 w1 N1 (by decide));rw [if_pos (show zg (zS true)=1 from rfl)] at K;have fi:=O N1;have iW:=O E1;clear g2 N1 F1 E1;go_wp2_with fail;refine K.o.mono ?_;rintro e w2 ⟨rfl,b2⟩;have ay:=O (iW.o.keep b2);have G2:=O (zf G1.o (zc b2 _));obtain⟨a1,rfl,hn1,⟨-,d1,-,-⟩,-,-⟩:=aX (fi.o.keep b2) (by decide);have hi:(0:Int)<(n1:Int):=by omega
   have d1':w2.cell? ⟨a1.block,a1.off+1,none⟩=some (.int .i64 1):=d1;clear b2 d1 K iW fi G1;go_wp2_with fail;refine(IA.o w2 ay.o).mono ?_;rintro e w3 ⟨g3,⟨A3,n3,c3,rfl,N3,F3⟩,E3⟩;have G3:=O (zf G2.o g3);have S:=O (iE E3 HB.o);have UF:=O N3;have yC:=O E3;have YH:=O (λa' e'=>(F3 a' e').imp id (λq=>Nat.le_trans G2.o.size q));clear g3 N3 E3 F3;go_wp2_with fail;refine S.o.mono ?_;rintro e w4 ⟨rfl,E4,g4⟩;have N4:=O (yC.o.ns UF.o g4);have G4:=O (zf G3.o g4);have QX:=O E4;clear E4 g4 S yC UF;go_wp2_with fail;go_ret;exact⟨G4.o,⟨A3,n3,c3,rfl,N4.o,YH.o⟩,QX.o⟩
 ·have HR:=O (show lj k.env (.cons c (.cons a (.cons b .nil)))=evX k.env b by rw [lj,qc];rfl);rw [HR.o];clear qc ha hb hc la lb lc vV pV g1 HC IA HO;rcases qb:evX k.env b with u|U
  ·rw [qb] at IB;unfold jd at IB;clear qb;go_enter Tryz.func61,Tryz.ntmps61;go_wp2_with fail;refine IC.o.mono ?_;rintro e w1 ⟨g2,⟨A1,n1,c1,rfl,N1,F1⟩,E1⟩;have G1:=O g2;have K:=O (zH A1 n1 c1 (zS false) 1 w1 N1 (by decide));rw [if_pos (show zg (zS false)=1 from rfl)] at K;have fi:=O N1;have iW:=O E1;clear g2 N1 F1 E1;go_wp2_with fail;refine K.o.mono ?_;rintro e w2 ⟨rfl,b2⟩;have ay:=O (iW.o.keep b2);have G2:=O (zf G1.o (zc b2 _));obtain⟨a1,rfl,hn1,⟨-,d1,-,-⟩,-,-⟩:=aX (fi.o.keep b2) (by decide);have hi:(0:Int)<(n1:Int):=by omega
   have d1':w2.cell? ⟨a1.block,a1.off+1,none⟩=some (.int .i64 0):=d1;clear b2 d1 K iW fi G1;go_wp2_with fail;have S:=O (iE ay.o HA.o);refine S.o.mono ?_;rintro e w3 ⟨rfl,E3,g3⟩;have G3:=O (zf G2.o g3);have yC:=O E3;clear E3 g3 S ay;go_wp2_with fail;refine(IB.o w3 yC.o).mono ?_;rintro e w4 ⟨g4,rfl⟩;have G4:=O (zf G3.o g4);clear g4;go_wp2_with fail;exact⟨rfl,G4.o,rfl⟩
  ·rw [qb] at IB;unfold jd at IB;clear qb;go_enter Tryz.func61,Tryz.ntmps61;go_wp2_with fail;refine IC.o.mono ?_;rintro e w1 ⟨g2,⟨A1,n1,c1,rfl,N1,F1⟩,E1⟩;have G1:=O g2;have K:=O (zH A1 n1 c1 (zS false) 1 w1 N1 (by decide));rw [if_pos (show zg (zS false)=1 from rfl)] at K;have fi:=O N1;have iW:=O E1;clear g2 N1 F1 E1;go_wp2_with fail;refine K.o.mono ?_;rintro e w2 ⟨rfl,b2⟩;have ay:=O (iW.o.keep b2);have G2:=O (zf G1.o (zc b2 _));obtain⟨a1,rfl,hn1,⟨-,d1,-,-⟩,-,-⟩:=aX (fi.o.keep b2) (by decide);have hi:(0:Int)<(n1:Int):=by omega
   have d1':w2.cell? ⟨a1.block,a1.off+1,none⟩=some (.int .i64 0):=d1;clear b2 d1 K iW fi G1;go_wp2_with fail;have S:=O (iE ay.o HA.o);refine S.o.mono ?_;rintro e w3 ⟨rfl,E3,g3⟩;have G3:=O (zf G2.o g3);have yC:=O E3;clear E3 g3 S ay;go_wp2_with fail;refine(IB.o w3 yC.o).mono ?_;rintro e w4 ⟨g4,⟨A4,n4,c4,rfl,N4,F4⟩,E4⟩;have G4:=O (zf G3.o g4);have Fx:=O N4;have QX:=O E4;have HF4:=O (λa' e'=>(F4 a' e').imp id (λq=>Nat.le_trans G3.o.size q));clear g4 N4 E4 F4;go_wp2_with fail;go_ret;exact⟨G4.o,⟨A4,n4,c4,rfl,Fx.o,HF4.o⟩,QX.o⟩
def pR(w:World)(r:Except Int (Option (List Nd)))(e:Ending)(w':World):Prop :=
 Below w.heap.size w w'/\match r with
  | .error k=>e = .panicked (cL k)
  | .ok none=>e = .returned (.slice none 0 0)
  | .ok (some V)=>∃a n c,e = .returned (.slice (some a) n c)/\Ns w' (some a) n c V
theorem Ma{E:List En}{u:Ud}{k:Nat}(h:k<E.length):((E.drop k).find? λx=>decide (x.u=u))=if E[k].u=u then some E[k] else(E.drop (k+1)).find? λx=>decide (x.u=u):=by
 rw [List.drop_eq_getElem_cons h,List.find?_cons];by_cases g:E[k].u=u
 ·simp [g]
 ·simp [g]
theorem NQ{W w:World}{R:Nat}{k:Cx}{p:Int}(_h:zW W w R k p)(A:Option Addr)(n c:Nat)(V:List Nd)(hv:Ns w A n c V)(h0:0<V.length)(h6:zg V=6):
 Calls Tryz.prog 97 #[.pointer (some ⟨R,0,none⟩),.slice A n c] w (pR w (cf k.E V)):=by
 have K:=O (gA A n c V 6 w hv h0);have f1:(zg V==6)=true:=beq_iff_eq.2 h6;rw [f1] at K;have HR:=O (show cf k.E V = .ok (some V) by unfold cf;rw [if_pos h6]);have HV:=O hv;obtain⟨a,rfl,-⟩:=aX hv h0;rw [HR.o];clear hv h0 h6 f1;go_enter Tryz.func97,Tryz.ntmps97;go_wp2_with fail;refine K.o.mono ?_;rintro e w1 ⟨rfl,b1⟩;have B1:=O b1;clear b1 K;go_wp2_with fail;go_ret;exact⟨B1.o,a,n,c,rfl,HV.o.keep B1.o⟩
theorem Ty{W w:World}{R:Nat}{k:Cx}{p:Int}(_h:zW W w R k p)(A:Option Addr)(n c:Nat)(V:List Nd)(hv:Ns w A n c V)(h0:0<V.length)(h6:zg V≠6)(h4:zg V≠4):
 Calls Tryz.prog 97 #[.pointer (some ⟨R,0,none⟩),.slice A n c] w (pR w (cf k.E V)):=by
 have K:=O (gA A n c V 6 w hv h0);have K2:=O (λw' hb=>gA A n c V 4 w' (hv.keep (w':=w') hb) h0);have f1:(zg V==6)=false:=beq_eq_false_iff_ne.2 h6;have f2:(zg V==4)=false:=beq_eq_false_iff_ne.2 h4;rw [f1] at K;rw [f2] at K2;have HR:=O (show cf k.E V = .error 2 by unfold cf;rw [if_neg h6,if_neg h4]);rw [HR.o];clear hv h0 h6 h4 f1 f2;go_enter Tryz.func97,Tryz.ntmps97;go_wp2_with fail;refine K.o.mono ?_;rintro e w1 ⟨rfl,b1⟩;have B1:=O b1;clear b1 K;go_wp2_with fail;refine(K2.o _ B1.o).mono ?_;rintro e w2 ⟨rfl,b2⟩;have B2:=bh B1 b2;clear b2 B1 K2;go_wp2_with fail;exact⟨rfl,B2.o,rfl⟩
theorem QH{W w:World}{R:Nat}{k:Cx}{p:Int}(h:zW W w R k p)(A:Option Addr)(n c:Nat)(V:List Nd)(hv:Ns w A n c V)(h0:0<V.length)(h4:zg V=4):
 Calls Tryz.prog 97 #[.pointer (some ⟨R,0,none⟩),.slice A n c] w (pR w (cf k.E V)):=by
 have K:=O (gA A n c V 6 w hv h0);have K2:=O (λw' hb=>gA A n c V 4 w' (hv.keep (w':=w') hb) h0);have KU:=O (λw' hb=>uI A n c V w' (hv.keep (w':=w') hb) h0);have f1:(zg V==6)=false:=by rw [h4];rfl
 have f2:(zg V==4)=true:=beq_iff_eq.2 h4;rw [f1] at K;rw [f2] at K2;have HR:=O (show cf k.E V = .ok ((k.E.find? λx=>decide (x.u=aF V)).map En.P) by unfold cf;rw [if_neg (by rw [h4];decide),if_pos h4]);rw [HR.o];have HE:=O h.cx.es;have FC:=O (λx (hx:x∈k.E)=>fo (sy (gJ.1 h.ok.ok.e).2.1 hx).1);have c0:=h.c0;have fm:=O HE.o.len;have hmx:=HE.o.max;unfold maxLen at hmx;unfold udV at KU;generalize aF V=u at *;clear hv h0 h4 f1 f2;go_enter Tryz.func97,Tryz.ntmps97;go_wp2_with fail;refine K.o.mono ?_;rintro e w1 ⟨rfl,b1⟩;have B1:=O b1;clear b1 K;go_wp2_with fail;refine(K2.o _ B1.o).mono ?_;rintro e w2 ⟨rfl,b2⟩;have B2:=bh B1 b2;replace c0:=zb B2.o c0;clear b2 B1 K2;go_wp2_with fail;go_loopw [21] (λi wr=>∃j:Nat,i = .int .i64 j/\j<=k.en/\Hid ((k.E.find? λx=>decide (x.u=u))=(k.E.drop j).find? λx=>decide (x.u=u))/\Hid (Below w.heap.size w wr)) (λi _=>k.en-(intOf i).toNat)
 case atStart=>exact⟨0,rfl,Nat.zero_le _,O rfl,B2⟩
 case round =>
  obtain⟨j,rfl,hj,hF,hB⟩:=hrel;by_cases hlt:j<k.en
  ·have sf:j<k.E.length:=by rw [<-fm.o];exact hlt
   obtain⟨a,hea,q0,q1,q2,q3,de⟩:=(HE.o.keep hB.o).at_ j k.E[j] (List.getElem?_eq_getElem sf);rw [hea];have hF2:=hF.o.trans (Ma sf);have HV:=O (FC.o k.E[j] (List.getElem_mem sf));generalize k.E[j]=x at *;have V0:=O (sF wr x 56);have B3:=bh hB (za wr (.cells #[.string x.u.1,.string x.u.2,.slice x.UA x.un x.uc,.slice x.NA x.nn x.nc] 56));have Ca:=O (de.keep (za wr (.cells #[.string x.u.1,.string x.u.2,.slice x.UA x.un x.uc,.slice x.NA x.nn x.nc] 56)));have HB3:=B3;obtain⟨w3,hw3⟩:∃w3,wr.alloc (.cells #[.string x.u.1,.string x.u.2,.slice x.UA x.un x.uc,.slice x.NA x.nn x.nc] 56)=w3:=⟨_,rfl⟩
   rw [hw3] at V0 B3 Ca HB3;have R1:=rq (w:=w3) (λw' hb=>KU.o w' (B3.o.trans (hb.mono B3.o.size)));obtain⟨v0,v1,v2,v3⟩:=V0.o;have k0:=cell_regrown v0;have k1:=cell_regrown v1;by_cases he:x.u=u
   ·rw [if_pos he] at hF2;have HN:=O hF2;have hb1:(x.u.1.toList==u.1.toList)=true:=by rw [he];exact beq_self_eq_true _
    have hb2:(x.u.2.toList==u.2.toList)=true:=by rw [he];exact beq_self_eq_true _
    clear he hF hF2;go_wp2_with fail;refine wp_region_quiet_below (by kernel_rfl) (by kernel_rfl) ?_
    repeat (first|go_big_quiet_step (with_reducible exact R1 _ _)|quiet_step (with_reducible exact R1 _ _))
    refine wpQuiet_nil ?_;intro w4 hw';have b4:=O (show Below w3.heap.size w3 w4 by obtain⟨⟨d,os⟩,rfl⟩:=hw';exact below_regrown _ _ _);clear hw';have B4:=bh B3 b4.o;have V4:=O (V0.o.keep b4.o);have Y0:=O (Ca.o.keep b4.o);clear k0 k1 v0 v1 v2 v3 V0 Ca;obtain⟨v0,v1,v2,v3⟩:=V4.o;go_wp2_with fail;go_ret;rw [HN.o];obtain⟨a4,ha4,-⟩:=aX Y0.o.ns HV.o;refine⟨B4.o,a4,x.nn,x.nc,by rw [<-ha4];rfl,by rw [<-ha4];exact Y0.o.ns⟩
   ·rw [if_neg he] at hF2;have HN:=O hF2;have hne:(x.u.1.toList==u.1.toList)=false\/((x.u.1.toList==u.1.toList)=true/\(x.u.2.toList==u.2.toList)=false):=Ih he;clear he hF hF2;rcases hne with h1|⟨h1,h2⟩
    all_goals
     go_wp2_with fail;refine wp_region_quiet_below (by kernel_rfl) (by kernel_rfl) ?_
     repeat (first|go_big_quiet_step (with_reducible exact R1 _ _)|quiet_step (with_reducible exact R1 _ _))
     refine wpQuiet_nil ?_;intro w4 hw';have b4:=O (show Below w3.heap.size w3 w4 by obtain⟨⟨d,os⟩,rfl⟩:=hw';exact below_regrown _ _ _);clear hw';have B4:=bh B3 b4.o;clear k0 k1 v0 v1 v2 v3 V0;go_wp2_with fail;go_roundw
     case rel=>exact⟨j+1,by go_num,by omega,HN,B4⟩
     case measure=>simp [intOf];omega
  ·have HN:=O (show(k.E.find? λx=>decide (x.u=u))=none by
    rw [hF.o,List.drop_of_length_le (by rw [<-fm.o];omega)];rfl)
   clear hF;go_wp2_with fail;go_ret;rw [HN.o];exact⟨hB.o,rfl⟩
theorem rh{W w:World}{R:Nat}{k:Cx}{p:Int}(h:zW W w R k p)(A:Option Addr)(n c:Nat)(V:List Nd)(hv:Ns w A n c V)(h0:0<V.length):
 Calls Tryz.prog 97 #[.pointer (some ⟨R,0,none⟩),.slice A n c] w (pR w (cf k.E V)):=by
 by_cases h6:zg V=6
 ·exact NQ h A n c V hv h0 h6
 by_cases h4:zg V=4
 ·exact QH h A n c V hv h0 h4
 ·exact Ty h A n c V hv h0 h6 h4
end Go.Proofs.YthifljpkgfpkiaaGreatDoor
namespace Go.Proofs
end Go.Proofs
