/-
  The document's KindAt of a record: its row of nodes, its row of Gots, and the variable out: what stays, what grows. The document's KindAt: records. ..
-/
import Derived.Deep.AppendLies
import Derived.Test.YtjcdeikbghjpkaaGreatDoorQ11
import Derived.Test.YtjcdeikbghjpkaaGreatDoorQ12
import Derived.Test.YtjcdeikbghjpkaaGreatDoorQ36
set_option maxRecDepth 100000
set_option maxHeartbeats 40000000
namespace Go.Proofs.YtjcdeikbghjpkaaGreatDoor
open Go.RowKit Go.Wk Go.Sort
def zd6(w w':World)(D:Nat→Prop):Prop:=w.heap.size≤w'.heap.size∧∀b,b<w.heap.size→¬D b→w'.heap[b]?=w.heap[b]?
theorem zd6.trans{w w' w'':World}{D:Nat→Prop}(h:zd6 w w' D)(k:zd6 w' w'' D):zd6 w w'' D :=
 ⟨Nat.le_trans h.1 k.1,fun b hb hD=>(k.2 b (Nat.lt_of_lt_of_le hb h.1) hD).trans (h.2 b hb hD)⟩
theorem zd6.imp{w w':World}{D E:Nat→Prop}(h:zd6 w w' D)(hE:∀b,b<w.heap.size→D b→E b):zd6 w w' E:=⟨h.1,fun b hb hn=>h.2 b hb fun hd=>hn (hE b hb hd)⟩
theorem zcg{w w':World}(h:Below w.heap.size w w')(D:Nat→Prop):zd6 w w' D:=⟨h.size,fun b hb _=>h.block b hb⟩
theorem zgo{w w':World}{g:Nat}(h:w.grownBy w' (some g)):zd6 w w' (·=g):=⟨h.size,fun b hb hn=>h.block b hb (fun e=>hn (by injection e))⟩
theorem Vr2.far{w w':World}{b:Nat}{x y:Value}{D:Nat→Prop}(h:Vr2 w b x y)(hf:zd6 w w' D)(hn:¬D b):Vr2 w' b x y:=by
 have hb:=hf.2 b (block_lt_of_cell h.c0) hn;exact⟨(World.cell?_of_block (a:=⟨b,0,none⟩) hb).trans h.c0,(World.cell?_of_block (a:=⟨b,1,none⟩) hb).trans h.c1,(World.frozen?_of_block (a:=⟨b,0,none⟩) hb).trans h.z0,(World.frozen?_of_block (a:=⟨b,1,none⟩) hb).trans h.z1⟩
theorem zc9{w w':World}{a:Addr}{u:Value}{D:Nat→Prop}(h:w.cell? a=some u)(hf:zd6 w w' D)(hn:¬D a.block):w'.cell? a=some u:=(World.cell?_of_block (hf.2 a.block (block_lt_of_cell h) hn)).trans h
theorem Ns.far{w w':World}{A:Option Addr}{n c:Nat}{P:List Nd}{D:Nat→Prop}(h:Ns w A n c P)(hf:zd6 w w' D)(hn:∀a,A=some a→¬D a.block):Ns w' A n c P:=by
 refine⟨h.len,h.cap,h.max,fun k x hx=>?_,h.ok⟩;obtain⟨a,e,d0,d1,d2,d3⟩:=h.at_ k x hx;have hb:(a.add (k*4)).block=a.block:=jx _ _;have hD:=hn a e;exact⟨a,e,zc9 d0 hf (by rw [hb];exact hD),zc9 d1 hf (by show¬D (a.add (k*4)).block;rw [hb];exact hD),zc9 d2 hf (by show¬D (a.add (k*4)).block;rw [hb];exact hD),zc9 d3 hf (by show¬D (a.add (k*4)).block;rw [hb];exact hD)⟩
theorem zbg{w w':World}{B n size:Nat}{e:TypeId}{v:Value}{xs:List Value}{D:Nat→Prop}(h:w.ownsRow B e size v n xs)(hf:zd6 w w' D)(hn:∀g,v.ownBlock=some g→¬D g):w'.ownsRow B e size v n xs:=by
 refine⟨h.1,h.2.imp id fun⟨g,cap,cur,e,hb,hh,r⟩=>⟨g,cap,cur,e,hb,?_,r⟩⟩;rw [hf.2 g (Array.getElem?_eq_some_iff.1 hh).1 (hn g (by rw [e];rfl))];exact hh
structure zdM(w:World)(B:Nat)(vks:Value)(j:Nat)(xs:List Value)(ob g no co:Nat)(P:List Nd):Prop where
 ks:w.ownsRow B 30 2 vks j xs
 len:P.length=no
 row:w.ownsRow B 41 4 (.slice (some ⟨g,0,none⟩) no co) no (zh P)
 box:Vr2 w ob (.slice (some ⟨g,0,none⟩) no co) (.int .i64 0)
 go:g≠ob
 kg:∀gk,vks.ownBlock=some gk→gk≠g∧gk≠ob
 bo:B≤ob
 nds:zaj P
theorem zdM.bg{w:World}{B:Nat}{vks:Value}{j:Nat}{xs:List Value}{ob g no co:Nat}{P:List Nd}(h:zdM w B vks j xs ob g no co P):B≤g∧g<w.heap.size:=zbt h.row g rfl
theorem zdM.keep{w w':World}{B:Nat}{vks:Value}{j:Nat}{xs:List Value}{ob g no co:Nat}{P:List Nd}(h:zdM w B vks j xs ob g no co P)(hb:Below w.heap.size w w'):zdM w' B vks j xs ob g no co P :=
 ⟨zbg h.ks (zcg hb fun _=>False) (fun _ _=>id),h.len,zbg h.row (zcg hb fun _=>False) (fun _ _=>id),h.box.keep hb,h.go,h.kg,h.bo,h.nds⟩
theorem zdM.grow{w w7:World}{B:Nat}{vks:Value}{j:Nat}{xs:List Value}{ob g no co g' cap m:Nat}{P Q:List Nd}(h:zdM w B vks j xs ob g no co P)(hQ:Q.length=m)(oQ:zaj Q)
 (hown:w7.ownsRow B 41 4 (.slice (some ⟨g',0,none⟩) (no+m) cap) (no+m) (zh P ++ zh Q)) (hg:w.grownBy w7 (some g)) (hat:(some g:Option Nat)=some g'∨g'=w.heap.size):
 w7.ownsRow B 41 4 (.slice (some ⟨g',0,none⟩) (no+m) cap) (no+m) (zh (P ++ Q))∧(P ++ Q).length=no+m∧zaj (P ++ Q)∧g'≠ob∧(∀gk,vks.ownBlock=some gk→gk≠g'∧gk≠ob)∧w7.ownsRow B 30 2 vks j xs∧Vr2 w7 ob (.slice (some ⟨g,0,none⟩) no co) (.int .i64 0)∧zd6 w w7 (·=g)∧g'<w7.heap.size∧B≤g':=by
 have hf:=zgo hg;have hob:=block_lt_of_cell h.box.c0;have hob:ob<w.heap.size:=hob;have hgn:g'=g∨g'=w.heap.size:=hat.imp (fun e=>(by injection e with e;exact e.symm)) id;refine⟨by rw [zK];exact hown,by rw [List.length_append,h.len,hQ],?_,?_,fun gk e=>⟨?_,(h.kg gk e).2⟩,zbg h.ks hf (fun gk e=>(h.kg gk e).1),h.box.far hf (fun e=>h.go e.symm),hf,zd9 hown g' rfl,zD hown g' rfl⟩
 ·intro x hx;exact(List.mem_append.1 hx).elim (h.nds x) (oQ x)
 ·rcases hgn with e|e
  ·rw [e];exact h.go
  ·omega
 ·rcases hgn with e'|e'
  ·rw [e'];exact(h.kg gk e).1
  ·have:=zd9 h.ks gk e;omega
theorem ziF(w:World)(b:Nat)(x y:Value):zd6 w ((w.setCell ⟨b,0,none⟩ x).setCell ⟨b,1,none⟩ y) (·=b):=zgo (jH w b x y)
theorem zhK(w:World)(b:Nat)(x:Value):zd6 w (w.setCell ⟨b,0,none⟩ x) (·=b):=zgo (zg w ⟨b,0,none⟩ x)
theorem Vr2.set1{w:World}{b:Nat}{x y:Value}(h:Vr2 w b x y)(x':Value):Vr2 (w.setCell ⟨b,0,none⟩ x') b x' y:=by
 refine⟨World.cell?_setCell_same w _ _ h.c0,(World.cell?_setCell_other w _ _ _ (by intro e;injection e with _ e;cases e)).trans h.c1,?_,?_⟩
 ·rw [World.frozen?_setCell];exact h.z0
 ·rw [World.frozen?_setCell];exact h.z1
theorem zdM.put{w:World}{B:Nat}{vks:Value}{j:Nat}{xs:List Value}{ob g g0 no co n0 c0:Nat}{P:List Nd}{u:Value}(hks:w.ownsRow B 30 2 vks j xs)(hl:P.length=no)(hrow:w.ownsRow B 41 4 (.slice (some ⟨g,0,none⟩) no co) no (zh P))(hbox:Vr2 w ob (.slice (some ⟨g0,0,none⟩) n0 c0) u)(hgo:g≠ob)(hkg:∀gk,vks.ownBlock=some gk→gk≠g∧gk≠ob)(hbo:B≤ob)(hn:zaj P):
 (u = .int .i64 0→zdM (w.setCell ⟨ob,0,none⟩ (.slice (some ⟨g,0,none⟩) no co)) B vks j xs ob g no co P)∧zdM ((w.setCell ⟨ob,0,none⟩ (.slice (some ⟨g,0,none⟩) no co)).setCell ⟨ob,1,none⟩ (.int .i64 0)) B vks j xs ob g no co P :=
 ⟨fun e=>by subst e;exact⟨zbg hks (zhK w ob _) (fun gk e=>(hkg gk e).2),hl,zbg hrow (zhK w ob _) (fun gk e=>by injection e with e;subst e;exact hgo),hbox.set1 _,hgo,hkg,hbo,hn⟩,
  ⟨zbg hks (ziF w ob _ _) (fun gk e=>(hkg gk e).2),hl,zbg hrow (ziF w ob _ _) (fun gk e=>by injection e with e;subst e;exact hgo),hbox.set _ _,hgo,hkg,hbo,hn⟩⟩
theorem zdM.next{w w':World}{B:Nat}{vks v':Value}{j j':Nat}{xs xs':List Value}{ob g no co:Nat}{P:List Nd}{o:Obj}(h:zdM w B vks j xs ob g no co P)(hown:w'.ownsRow B 30 2 v' j' xs')(hg:(w.alloc o).grownBy w' vks.ownBlock)(hat:v'.ownBlock=vks.ownBlock∨v'.ownBlock=some (w.alloc o).heap.size):zdM w' B v' j' xs' ob g no co P:=by
 have hba:Below w.heap.size w (w.alloc o):=za w o;have h1:=h.keep hba;have hf:zd6 (w.alloc o) w' (fun b=>vks.ownBlock=some b):=⟨hg.size,fun b hb hn=>hg.block b hb (fun e=>hn e.symm)⟩
 have hgl:=h1.bg;have hol:ob<(w.alloc o).heap.size:=block_lt_of_cell h1.box.c0;refine⟨hown,h.len,zbg h1.row hf (fun gk e=>by injection e with e;subst e;exact fun q=>(h.kg g q).1 rfl),h1.box.far hf (fun q=>(h.kg ob q).2 rfl),h.go,fun gk e=>?_,h.bo,h.nds⟩;rcases hat with e'|e'
 ·exact h.kg gk (by rw [←e'];exact e)
 ·rw [e'] at e;injection e with e;omega
theorem zdM.ns{w:World}{B:Nat}{vks:Value}{j:Nat}{xs:List Value}{ob g no co:Nat}{P:List Nd}(h:zdM w B vks j xs ob g no co P)(hl:no≤1000):Ns w (some ⟨g,0,none⟩) no co P:=by
 have hr:zdi w B (.slice (some ⟨g,0,none⟩) no co) P:=⟨by rw [h.len];exact h.row⟩
 obtain⟨A,n,c,e,hN⟩:=hr.ns (by rw [h.len];exact hl) h.nds;injection e with e1 e2 e3;subst e1;subst e2;subst e3;exact hN
theorem zit{c:Bool}{y:Ex}:∀ {ps:Exs},(∃s,ps.valid c s)→y∈ps.list→y.valid c
 | .nil,_,h=>by cases h
 | .cons x r,⟨s,v⟩,h=>by
  rcases List.mem_cons.1 h with rfl|h
  ·exact v.2.1
  ·exact zit ⟨_,v.2.2⟩ h
theorem zjn(A:Option Addr)(n c:Nat)(w:World)(h2:200<n):
 Calls Tryz.prog 30 #[.slice A n c] w fun e w'=>e = .returned (.agg #[.slice none 0 0,.int .i64 4])∧Below w.heap.size w w':=by
 have R0:=hi9 (zQ w (.slice none 0 0) (.int .i64 0) 30);have B0:=hi9 (za w (.cells #[.slice none 0 0,.int .i64 0] 30));go_enter Tryz.func30,Tryz.ntmps30;go_wp2_with fail;refine(zH _ _).mono ?_;rintro e w1 ⟨rfl,b1⟩;have B1:=bh B0 b1;have R1:=hi9 (R0.out.keep b1);clear b1 B0 R0;have RS:=R1.out.set (.slice none 0 0) (.int .i64 4);obtain⟨s0,s1,-,-⟩:=RS;have BF:=hi9 (jy B1.out (Nat.le_refl _) (.slice none 0 0) (.int .i64 4));obtain⟨r0,r1,z0,z1⟩:=R1.out;go_wp2_with fail;exact bodyPost_ret (v := .agg #[.slice none 0 0,.int .i64 4]) (by simp [results,Tryz.results30,go_sem,s0,s1]) rfl ⟨rfl,BF.out⟩
theorem zk1(A:Option Addr)(n c:Nat)(w:World)(h2:¬200<n):
 Calls Tryz.prog 30 #[.slice A n c] w fun e w'=>e = .returned (.agg #[.slice A n c,.int .i64 0])∧Below w.heap.size w w':=by
 have R0:=hi9 (zQ w (.slice none 0 0) (.int .i64 0) 30);have B0:=hi9 (za w (.cells #[.slice none 0 0,.int .i64 0] 30));go_enter Tryz.func30,Tryz.ntmps30;go_wp2_with fail;refine(jV _ _ _ _).mono ?_;rintro e w1 ⟨rfl,b1⟩;have B1:=bh B0 b1;have R1:=hi9 (R0.out.keep b1);clear b1 B0 R0;have RS:=R1.out.set (.slice A n c) (.int .i64 0);obtain⟨s0,s1,-,-⟩:=RS;have BF:=hi9 (jy B1.out (Nat.le_refl _) (.slice A n c) (.int .i64 0));obtain⟨r0,r1,z0,z1⟩:=R1.out;go_wp2_with fail;exact bodyPost_ret (v := .agg #[.slice A n c,.int .i64 0]) (by simp [results,Tryz.results30,go_sem,s0,s1]) rfl ⟨rfl,BF.out⟩
theorem zsH(W:World)(k:Kx)(N:Nat)(hW:KaC W k N)(n:Nd)(ps:Exs)(p:Nat)(FA:Option Addr)(fn fc:Nat)(L:List Ft)(w:World)(hCW:zfD W k)(h:zfD w k)(hb:Below W.heap.size W w)(hk:k.n≤4000)(hx:XAt k.P p false (.node n ps))(hN:ps.flat.length≤N)(hF:zdg W w FA fn fc L (ps.flat.length+1))(h6:n.op=6):
 Calls Tryz.prog 15 #[k.x.v,.slice k.A k.n k.c,.int .i64 p,.slice FA fn fc] w (zR (fun b=>b<W.heap.size) w (tyX k.x.t (.node n ps) (ftK L))):=by
 obtain⟨i0,hi,hz0',hz1',hz2'⟩:=info_parts zkB;obtain⟨iN,hiN,hN0,hN1,hN2⟩:=info_parts zc5;have KPo:=hi9 (fun w' (hb':Below w.heap.size w w')=>zbA k.A k.n k.c k.P p false (.node n ps) w' (h.ns.keep hb') hk hx);have HSW:=hi9 hb.size;have HCX:=hi9 (fun w' (hb':Below w.heap.size w w')=>h.keep hb');have HFA:=hi9 (fun w' (hb':Below w.heap.size w w')=>hF.keep hb');have HBW:=hi9 (fun w' (hb':Below w.heap.size w w')=>hb.trans (hb'.mono hb.size));have HST0:=hi9 h.rs.ok;have HHX:=hi9 (show zad false n=true from hx.valid.1);have HNO:=hi9 (show(-9223372036854775808≤n.n)∧n.n≤9223372036854775807 from by
  have h1:=h.ns.ok _ (List.mem_of_getElem? hx.head)
  exact⟨h1.lo,h1.hi⟩)
 have HPN:=hi9 (show(ps.len:Int)=zp n from hx.valid.2.1);have HPA:=hi9 (show zcB k.P (p+1) (zA n) ps from hx.parts);have HPF:=hi9 hF.len;have HCT:=hi9 (show∀a,k.x.a.NA=some a→a.block<W.heap.size from fun a e=>Nat.lt_of_lt_of_le (hCW.rs.ctx a e) hCW.rs.d);have HKB:=hi9 (show∀y∈k.x.s.K,∀a,y.NA=some a→a.block<W.heap.size from fun y hy a e=>Nat.lt_of_lt_of_le (hCW.rs.kds y hy a e) hCW.rs.d);have HLE:=hi9 (show p+1+ps.flat.length≤k.n from by
  have h1:=hx.le
  have h3:(Ex.node n ps).flat.length=ps.flat.length+1:=by simp [Ex.flat]
  rw [h.ns.len];omega)
 have HNS:=hi9 (show n.s.size≤maxLen from(h.ns.ok _ (List.mem_of_getElem? hx.head)).s);have hps:ps.len≤4000:=by
  have h2:=zam ps;have h1:=HLE.out;omega
 obtain⟨FL,hFL⟩:∃FL:List Ex,FL=ps.list:=⟨_,rfl⟩
 have HLL0:=hi9 (show FL.length=ps.len from by rw [hFL,zch]);obtain⟨PL,hPL⟩:∃PL:List Ex,PL=FL:=⟨_,rfl⟩
 have HLL:=hi9 (show PL.length=ps.len from by rw [hPL];exact HLL0.out);have hr:zA n=true:=decide_eq_true h6;have HPT:=hi9 (show∀(j:Nat) (hj:j<FL.length),∃q r,r=q+1∧(zaK (zA n) (p+1) ps)[j]?=some r∧XAt k.P r false (zba true FL[j])∧(zba true FL[j]).flat.length≤N∧k.P[q]?=some FL[j].head∧FL[j].valid true∧(zba true FL[j]).flat.length≤ps.flat.length+1 from by
  intro j hj
  have hp:zcB k.P (p+1) (zA n) ps:=hx.parts
  rw [hr] at hp ⊢
  subst hFL
  obtain⟨q,e1,e2,e3,-⟩:=hp.at j _ (List.getElem?_eq_getElem hj)
  obtain⟨h0,h1⟩:=e3 rfl
  have hl:=ziH true ps.list[j]
  have hl2:=zgj (List.getElem_mem hj)
  obtain⟨q',rfl⟩:∃q',q=q'+1:=⟨q-1,by omega⟩
  have hv:ps.list[j].valid true:=zit hp.valid (List.getElem_mem hj)
  exact⟨q',_,rfl,e1,e2,by omega,h1,hv,by omega⟩)
 have KW:=hi9 (fun(x:Ex) (q:Nat) (FA':Option Addr) (fn' fc':Nat) (L':List Ft) (e:XAt k.P q false x) (l:x.flat.length≤N) w' (hb':Below w.heap.size w w') (hf:zdg W w' FA' fn' fc' L' x.flat.length)=>hW x q FA' fn' fc' L' w' (h.keep hb') (hb.trans (hb'.mono hb.size)) e l hf);unfold zR Rs.v at KW;obtain⟨a,ea,d0,d1,d2,d3⟩:=h.ns.at_ p n hx.head;have hpn:p<k.n:=by rw [h.ns.len];exact(List.getElem?_eq_some_iff.1 hx.head).1
 have hok:zcP n:=h.ns.ok _ (List.mem_of_getElem? hx.head);have B1':Below w.heap.size w (w.alloc (.cells #[.slice k.x.s.KA k.x.s.kn k.x.s.kc,.slice k.x.s.AA k.x.s.an k.x.s.ac,.string k.x.who,.string k.x.what,.int .i64 k.x.i] 52)):=za w _;have B2':Below w.heap.size w ((w.alloc (.cells #[.slice k.x.s.KA k.x.s.kn k.x.s.kc,.slice k.x.s.AA k.x.s.an k.x.s.ac,.string k.x.who,.string k.x.what,.int .i64 k.x.i] 52)).alloc (.cells #[.slice none 0 0,.int .i64 0] 30)):=B1'.trans ((za (w.alloc (.cells #[.slice k.x.s.KA k.x.s.kn k.x.s.kc,.slice k.x.s.AA k.x.s.an k.x.s.ac,.string k.x.who,.string k.x.what,.int .i64 k.x.i] 52)) _).mono B1'.size);have B0:=hi9 (show Below w.heap.size w (((w.alloc (.cells #[.slice k.x.s.KA k.x.s.kn k.x.s.kc,.slice k.x.s.AA k.x.s.an k.x.s.ac,.string k.x.who,.string k.x.what,.int .i64 k.x.i] 52)).alloc (.cells #[.slice none 0 0,.int .i64 0] 30)).alloc (.cells #[.int .i64 n.op,.int .i64 n.n,.string n.s,.string n.t] 41)) from B2'.trans ((za ((w.alloc (.cells #[.slice k.x.s.KA k.x.s.kn k.x.s.kc,.slice k.x.s.AA k.x.s.an k.x.s.ac,.string k.x.who,.string k.x.what,.int .i64 k.x.i] 52)).alloc (.cells #[.slice none 0 0,.int .i64 0] 30)) _).mono B2'.size));have hz2:((w.alloc (.cells #[.slice k.x.s.KA k.x.s.kn k.x.s.kc,.slice k.x.s.AA k.x.s.an k.x.s.ac,.string k.x.who,.string k.x.what,.int .i64 k.x.i] 52)).alloc (.cells #[.slice none 0 0,.int .i64 0] 30)).heap.size=w.heap.size+1+1:=by simp [go_sem]
 have V0:=hi9 (((zbf w k.x).keep (za _ (.cells #[.slice none 0 0,.int .i64 0] 30))).keep (za _ (.cells #[.int .i64 n.op,.int .i64 n.n,.string n.s,.string n.t] 41)));have X0:=zfj ((w.alloc (.cells #[.slice k.x.s.KA k.x.s.kn k.x.s.kc,.slice k.x.s.AA k.x.s.an k.x.s.ac,.string k.x.who,.string k.x.what,.int .i64 k.x.i] 52)).alloc (.cells #[.slice none 0 0,.int .i64 0] 30)) n 41;rw [hz2] at X0;have HX0:=hi9 X0;have R0:=hi9 ((zeH w (.cells #[.slice k.x.s.KA k.x.s.kn k.x.s.kc,.slice k.x.s.AA k.x.s.an k.x.s.ac,.string k.x.who,.string k.x.what,.int .i64 k.x.i] 52) 30).keep (za ((w.alloc (.cells #[.slice k.x.s.KA k.x.s.kn k.x.s.kc,.slice k.x.s.AA k.x.s.an k.x.s.ac,.string k.x.who,.string k.x.what,.int .i64 k.x.i] 52)).alloc (.cells #[.slice none 0 0,.int .i64 0] 30)) (.cells #[.int .i64 n.op,.int .i64 n.n,.string n.s,.string n.t] 41)));replace d0:=zb B2' d0;replace d1:=zb B2' d1;replace d2:=zb B2' d2;replace d3:=zb B2' d3;obtain⟨rr,hrr⟩:∃rr,rr=tyX k.x.t (.node n ps) (ftK L):=⟨_,rfl⟩
 have HEV:=hi9 (show rr=fsR (zdN [] (zd5 k.x.t (ftK L) (FL.drop 0) 1)) from by rw [hrr,znO h6,zlj,←hFL,zk9];rfl);have g6:(n.op==6)=true:=beq_iff_eq.2 h6;have H6:=hi9 h6;have g11:(n.op==11)=false:=beq_eq_false_iff_ne.2 (by omega);have g13:(n.op==13)=false:=beq_eq_false_iff_ne.2 (by omega);rw [←hrr];rw [ea] at KPo KW;rw [ea];have HEA:=hi9 ea;unfold Rs.v;unfold Rs.o at V0;dsimp only [Ex.parts,Ex.head] at KPo;clear h hx hok hrr hb hW X0 hN hCW hF B1' B2' hz2;clear h6 hr hFL hPL;go_enter Tryz.func15,Tryz.ntmps15;go_wp2_with fail;refine(KPo.out _ B0.out).mono ?_;rintro e w1 ⟨A',c',rfl,hc',hI,hIF,b1⟩;have B1:=bh B0 b1;have V1:=hi9 (V0.out.keep b1);have R1:=hi9 (R0.out.keep b1);have X1:=hi9 (HX0.out.keep b1);have HI1:=hi9 hI;have HIF:=hi9 (show∀a,A'=some a→w.heap.size+1<a.block from fun a e=>by
  have h1:=hIF a e
  have h2:w.heap.size+1<(((w.alloc (.cells #[.slice k.x.s.KA k.x.s.kn k.x.s.kc,.slice k.x.s.AA k.x.s.an k.x.s.ac,.string k.x.who,.string k.x.what,.int .i64 k.x.i] 52)).alloc (.cells #[.slice none 0 0,.int .i64 0] 30)).alloc (.cells #[.int .i64 n.op,.int .i64 n.n,.string n.s,.string n.t] 41)).heap.size:=block_lt_of_cell R0.out.c0
  omega)
 clear hI hIF b1 B0 V0 R0 HX0 KPo d0 d1 d2 d3;obtain⟨x0,x1,x2,x3⟩:=X1.out;obtain⟨pl,hpl⟩:∃pl,pl=ps.len:=⟨_,rfl⟩
 obtain⟨m,hm⟩:∃m,m=pl+1:=⟨_,rfl⟩
 have HPL:=hi9 hpl;rw [←hpl] at hps hc' ⊢;rw [←hm] at hc' ⊢;have HCM:=hi9 hc';have hmm:(m:Int)-1=(pl:Int):=by omega
 have hm4:m≤4001:=by omega
 have HM:=hi9 hm;have HLL2:=hi9 (show FL.length=pl by rw [hpl];exact HLL0.out);clear hpl hm HLL0 HLL hc';have hz1:w1.heap.size<(w1.alloc (.cells #[.int .i64 46,.int .i64 n.n,.string ⟨#[]⟩,.string ⟨#[]⟩] 41)).heap.size:=by simp
 go_wp2_with fail;refine(jV _ _ _ _).mono ?_;rintro e w2 ⟨rfl,b2⟩;have bl:=za w1 (.cells #[.int .i64 46,.int .i64 n.n,.string ⟨#[]⟩,.string ⟨#[]⟩] 41);have b12:=bl.trans (b2.mono bl.size);have bs:=b12.trans ((za w2 (.cells #[.slice (some ⟨w1.heap.size,0,none⟩) 1 1,.int .i64 0] 30)).mono b12.size);have ST0:=hi9 (show zdM (w2.alloc (.cells #[.slice (some ⟨w1.heap.size,0,none⟩) 1 1,.int .i64 0] 30)) w1.heap.size (.slice none 0 0) 0 [] w2.heap.size w1.heap.size 1 1 (zb7 n.n []) from
  ⟨⟨rfl,.inl ⟨rfl,rfl⟩⟩,rfl,zbg (zbg (zdi.one w1 ⟨46,n.n,emp,emp⟩).own (zcg b2 fun _=>False) (fun _ _=>id)) (zcg (za w2 _) fun _=>False) (fun _ _=>id),zQ w2 _ _ _,by have:=b2.size;omega,fun gk e=>(by cases e),b12.size,fun x hx=>(by
   have hx':x∈ [(⟨46,n.n,emp,emp⟩:Nd)]:=hx
   rw [List.mem_singleton.1 hx'];exact⟨Nat.zero_le _,Nat.zero_le _,HNO.out.1,HNO.out.2⟩)⟩)
 have BS:=hi9 bs;have HOB:=hi9 (show w1.heap.size≤w2.heap.size from b12.size);clear bl b12 b2 bs hz1 x0 x1 x2 x3;obtain⟨x0,x1,x2,x3⟩:=X1.out.keep BS.out;go_wp2_with fail;obtain⟨ws,hws⟩:∃ws,w2.alloc (.cells #[.slice (some ⟨w1.heap.size,0,none⟩) 1 1,.int .i64 0] 30)=ws:=⟨_,rfl⟩
 rw [hws] at ST0 BS x0 x1 x2 x3 ⊢;obtain⟨ob,hob⟩:∃ob,w2.heap.size=ob:=⟨_,rfl⟩
 rw [hob] at ST0 HOB ⊢;clear hws hob;have HRb:=hi9 (show w.heap.size+1<w1.heap.size from block_lt_of_cell R1.out.c0);have HWW:=hi9 (show w.heap.size≤w1.heap.size from B1.out.size);go_loopw [11,13] (fun v i wr=>∃(j:Nat) (Lj:List (ByteArray × Kd)) (xs:List Value) (A8:Option Addr) (c8 g no co:Nat),i = .int .i64 j∧j≤pl∧v = .slice A8 j c8∧Hid (Lj.length=j)∧Hid (rr=fsR (zdN Lj (zd5 k.x.t (ftK L) (FL.drop j) no)))∧Hid (zdM wr w1.heap.size v j xs ob g no co (zb7 n.n Lj))∧Hid (no≤200)∧Hid (Below w1.heap.size w1 wr)) (fun _ i _=>pl-(intOf i).toNat)
 case atStart=>exact⟨0,[],[],none,0,w1.heap.size,1,1,rfl,Nat.zero_le _,rfl,hi9 rfl,HEV,ST0,hi9 (by decide),BS⟩
 case round =>
  clear ST0 BS HEV;obtain⟨j,Lj,xs,A8,c8,g,no,co,rfl,hj,rfl,hLj,hE,hST,hNO,hB⟩:=hrel;obtain⟨w3,rfl⟩:∃w3:World,w3=wr:=⟨_,rfl⟩
  have B3:=bh B1 hB.out;have R3:=hi9 (R1.out.keep hB.out);have X3:=hi9 (X1.out.keep hB.out);clear x0 x1 x2 x3;obtain⟨x0,x1,x2,x3⟩:=X3.out;by_cases hlt:j<pl
  ·have hjl:j<FL.length:=by rw [HLL2.out];exact hlt
   obtain⟨q,r,hrq,e1,hqx,hql,hhd,hvt,hqn'⟩:=HPT.out j hjl;have HRQ:=hi9 hrq;obtain⟨a',ea',qc⟩:=(HI1.out.keep hB.out) j r e1;have V3:=hi9 (⟨V1.out.keep hB.out,qc⟩:Vxi w3 w.heap.size k.x (a'.add j) (r:Int));have HPB:=hi9 (show a'.block<w1.heap.size from by
    obtain⟨a2,e2,q2⟩:=HI1.out j r e1
    obtain rfl:=Option.some.inj (ea'.symm.trans e2)
    have:=block_lt_of_cell q2
    rwa [jx] at this)
   have KX:=hi9 (fun w' (hb':Below w3.heap.size w3 w')=>KW.out (zba true FL[j]) r FA fn fc L hqx hql w' (bh B3 hb').out ((HFA.out w' (bh B3 hb').out).less hqn'));have HDR:=hi9 (hE.out.trans (congrArg (fun l=>fsR (zdN Lj (zd5 k.x.t (ftK L) l no))) (List.drop_eq_getElem_cons hjl)));have HTP:=hi9 (zne k.x.t FL[j] (ftK L) hvt);have HHD:=hi9 hhd;obtain⟨nm,hnm⟩:∃nm,nm=FL[j].head.s:=⟨_,rfl⟩
   have HFX:=hi9 (show(tyE (tyX k.x.t (zba true FL[j]) (ftK L))≠0→rr=tyX k.x.t (zba true FL[j]) (ftK L))∧(tyE (tyX k.x.t (zba true FL[j]) (ftK L))=0→∃kk,tyX k.x.t (zba true FL[j]) (ftK L)= .ok kk∧KOk kk∧((200<no+1+kk.sz→rr = .error 4)∧(¬200<no+1+kk.sz→rr=fsR (zdN (Lj ++ [(nm,kk)]) (zd5 k.x.t (ftK L) (FL.drop (j+1)) (no+1+kk.sz)))))) from by
    have h1:=zdW k.x.t (zba true FL[j]) false (ftK L) hqx.valid
    have h2:=zc2 HST0.out (zba true FL[j]) false (ftK L) hqx.valid
    have h3:=HTP.out
    rcases qx:tyX k.x.t (zba true FL[j]) (ftK L) with u|kk
    ·rw [qx] at h3
     exact⟨fun _=>by rw [HDR.out,zoj h3];rfl,fun h0=>absurd (by rw [qx];exact congrArg Except.error h0) h1⟩
    ·rw [qx] at h2 h3
     exact⟨fun h0=>absurd rfl h0,fun _=>⟨kk,rfl,h2,fun hb=>by rw [HDR.out,zoI h3 hb];rfl,fun hb=>by rw [HDR.out,zqt h3 hb,hnm]⟩⟩)
   generalize tyX k.x.t (zba true FL[j]) (ftK L)=rx at *;have hjm:(j:Int)<(m:Int):=by omega
   have hjm':j<m:=by have:=HM.out;omega
   obtain⟨hdn,hhdn⟩:∃hdn,hdn=FL[j].head:=⟨_,rfl⟩
   rw [←hhdn] at HHD hnm;obtain⟨o',n',s',t'⟩:=hdn;dsimp only at hnm;subst hnm;clear e1 hqx hql hhd hvt hqn' qc HTP HDR hhdn hrq;subst ea';have hj1:((j:Int)==1)=true∨((j:Int)==1)=false:=by cases ((j:Int)==1)<;> simp
   rcases hj1 with hj1|hj1
   all_goals
    go_wp2_with fail;have bd:=zU w3;have bx:RowKit.Below w3.heap.size w3 (w3.alloc (.cells #[.slice none 0 0,.int .i64 0] 30)).drew:=(za w3 _).trans ((zU _).mono (za w3 _).size);have Vd:=hi9 (V3.out.keep bd);have Vx:=hi9 (V3.out.keep bx);have Bd:=bh B3 bd;have Bx:=bh B3 bx;have Qd:=hi9 bd;have Qx:=hi9 bx;have Rd:=hi9 (R3.out.keep bd);have Rx:=hi9 (R3.out.keep bx);have Cx:=hi9 ((zQ w3 (.slice none 0 0) (.int .i64 0) 30).keep (zU _));have K0:=hi9 (KX.out w3.drew Qd.out);have K1:=hi9 (KX.out (w3.alloc (.cells #[.slice none 0 0,.int .i64 0] 30)).drew Qx.out);have hzx:(w3.alloc (.cells #[.slice none 0 0,.int .i64 0] 30)).drew.heap.size=w3.heap.size+1:=by simp [go_sem]
    have HZX:=hi9 hzx;have hrb:w.heap.size+1<w3.heap.size:=block_lt_of_cell R3.out.c0;have HRB3:=hi9 hrb;have hpb:((a'.add j):Addr).block<w3.heap.size:=block_lt_of_cell V3.out.i;have hn1:w.heap.size≠w3.heap.size:=by omega
    have hn2:((a'.add j):Addr).block≠w3.heap.size:=Nat.ne_of_lt hpb;clear bd bx hzx;go_region_held3 (fun w':World=>w'.cell? ⟨w.heap.size,0,none⟩=some (.slice k.x.s.KA k.x.s.kn k.x.s.kc)∧w'.cell? ⟨w.heap.size,1,none⟩=some (.slice k.x.s.AA k.x.s.an k.x.s.ac)∧w'.cell? ⟨w.heap.size,2,none⟩=some (.string k.x.who)∧w'.cell? ⟨w.heap.size,3,none⟩=some (.string k.x.what)∧w'.cell? ⟨w.heap.size,4,none⟩=some (.int .i64 k.x.i)∧w'.cell? (a'.add j)=some (.int .i64 (r:Int))) (first|(with_reducible exact zL Vs.out)|(with_reducible exact zL Vz.out)|(with_reducible exact zL Vy.out)|(with_reducible exact zL V4.out)|(with_reducible exact zL Vx.out)|(with_reducible exact zL Vd.out)|(with_reducible exact zL V3.out)) (first
     |(go_at_call 15;(with_reducible refine K1.out.mono ?_);rintro e w4 ⟨A5,n5,c5,rfl,hN,hf,b4⟩;have N4:=hi9 hN;have F4:=hi9 hf;have B4:=bh Bx b4;have Q4:=bh Qx b4;have V4:=hi9 (Vx.out.keep b4);have R4:=hi9 (Rx.out.keep b4);have C4:=hi9 (Cx.out.keep b4);have Vs:=hi9 (V4.out.but (jH w4 w3.heap.size (.slice A5 n5 c5) (.int .i64 (tyE rx))) hn1 hn2);obtain⟨y0,y1,y2,y3⟩:=C4.out)
     |(go_at_call 15;(with_reducible refine K0.out.mono ?_);rintro e w4 ⟨A5,n5,c5,rfl,hN,hf,b4⟩;have N4:=hi9 hN;have F4:=hi9 hf;have B4:=bh Bd b4;have Q4:=bh Qd b4;have V4:=hi9 (Vd.out.keep b4);have R4:=hi9 (Rd.out.keep b4);have Vy:=hi9 (V4.out.keep (za w4 (.cells #[.slice none 0 0,.int .i64 0] 30)));have Vz:=hi9 (V4.out.keep (za w4 (.cells #[.slice A5 n5 c5,.int .i64 (tyE rx)] 30)))))
    focus
     have bz:=za w4 (.cells #[.slice A5 n5 c5,.int .i64 (tyE rx)] 30);have B5:=bh B4 bz;have V5:=hi9 (V4.out.keep bz);have R5:=hi9 (R4.out.keep bz);have C5:=hi9 (zQ w4 (.slice A5 n5 c5) (.int .i64 (tyE rx)) 30);have N5:=hi9 (N4.out.keep bz);have hwj:w3.heap.size≤w4.heap.size:=Q4.out.size;have HC5:=hi9 (show w3.heap.size≤w4.heap.size from hwj);have F5:=hi9 (show∀a,A5=some a→(a.block<W.heap.size∨w3.heap.size≤a.block) from fun a e=>(F4.out a e).imp id (fun q=>by simpa [go_sem] using q));have Q5:=bh Q4 bz;obtain⟨cb5,hcb⟩:∃cb,w4.heap.size=cb:=⟨_,rfl⟩
     obtain⟨w5,hw5⟩:∃w2,(w4.alloc (.cells #[.slice A5 n5 c5,.int .i64 (tyE rx)] 30))=w2:=⟨_,rfl⟩
     rw [hw5] at B5 V5 R5 C5 N5 Q5 ⊢;rw [hcb] at C5 HC5 ⊢;clear bz hw5 hcb hwj Vy Vz
    rotate_left
    focus
     have hg:=jH w4 w3.heap.size (.slice A5 n5 c5) (.int .i64 (tyE rx));have hsz0:w.heap.size≤w3.heap.size:=B3.out.size;have B5:=hi9 (jy B4.out hsz0 (.slice A5 n5 c5) (.int .i64 (tyE rx)));have V5:=Vs;have R5:=hi9 (R4.out.but hg (fun e=>by injection e with e;omega));have C5:=hi9 (C4.out.set (.slice A5 n5 c5) (.int .i64 (tyE rx)));have HC5:=hi9 (Nat.le_refl w3.heap.size);have N5:=hi9 (N4.out.but hg (fun _ a e q=>by rcases F4.out a e with h1|h1 <;>(have:=HSW.out;have:=HZX.out;omega)));have F5:=hi9 (show∀a,A5=some a→(a.block<W.heap.size∨w3.heap.size≤a.block) from fun a e=>(F4.out a e).imp id (fun q=>by have:=HZX.out;omega));have Q5:=hi9 (jy Q4.out (Nat.le_refl _) (.slice A5 n5 c5) (.int .i64 (tyE rx)));obtain⟨cb5,hcb⟩:∃cb,w3.heap.size=cb:=⟨_,rfl⟩
     obtain⟨w5,hw5⟩:∃w2,((w4.setCell ⟨w3.heap.size,0,none⟩ (.slice A5 n5 c5)).setCell ⟨w3.heap.size,1,none⟩ (.int .i64 (tyE rx)))=w2:=⟨_,rfl⟩
     rw [hw5] at B5 V5 R5 C5 N5 Q5 ⊢;rw [hcb] at C5 ⊢;replace HC5:=hi9 (show w3.heap.size≤cb5 from Nat.le_of_eq hcb);clear hg hw5 hcb hsz0 Vs y0 y1 y2 y3 C4
    rotate_left
    all_goals
     clear V4 B4 R4 N4 F4 Q4 Vd Vx Bd Bx Rd Rx Cx K0 K1 HZX hrb hpb hn1 hn2 b4 hN hf V3 B3 R3 Qd Qx;by_cases hu:tyE rx=0
     case neg =>
      have hf:(tyE rx != 0)=true:=by simpa using hu
      obtain⟨y0,y1,y2,y3⟩:=C5.out;have FX:=hi9 (show∀a,A5=some a→(a.block<W.heap.size∨w.heap.size≤a.block)∧a.block≠w.heap.size+1 from fun a e=>by
       have h2:w.heap.size+1<w3.heap.size:=HRB3.out
       have h3:=HSW.out
       rcases F5.out a e with h1|h1
       ·exact⟨.inl h1,by omega⟩
       ·exact⟨.inr (by omega),by omega⟩)
      have RS:=R5.out.set (.slice A5 n5 c5) (.int .i64 (tyE rx));obtain⟨s0,s1,-,-⟩:=RS;have GF:=hi9 (zq (S:=fun b=>b<W.heap.size) (r:=rx) N5.out FX.out B5.out (show w.heap.size≤w.heap.size+1 by omega));obtain⟨r0,r1,z0,z1⟩:=R5.out;go_wp2_with fail;exact bodyPost_ret (v := .agg #[.slice A5 n5 c5,.int .i64 (tyE rx)]) (by simp [results,Tryz.results15,go_sem,s0,s1]) rfl (by rw [HFX.out.1 hu];exact GF.out)
     obtain⟨kk,rfl,hkk,hst⟩:=HFX.out.2 hu;have HKK:=hi9 hkk;have HE6:=hi9 hst;have HST2:=HE6;replace C5:=hi9 (show Vr2 w5 cb5 (.slice A5 n5 c5) (.int .i64 0) from C5.out);replace N5:=hi9 (show Ns w5 A5 n5 c5 kk.flat from N5.out);have HFKK:=hi9 (show n5=kk.sz from by rw [(show Ns w5 A5 n5 c5 kk.flat from N5.out).len];exact jd kk);clear hu hkk hst HFX x0 x1 x2 x3;obtain⟨x0,x1,x2,x3⟩:=X3.out.keep Q5.out;obtain⟨y0,y1,y2,y3⟩:=C5.out;have ST5:=hi9 (hST.out.keep Q5.out);have hST5:=ST5.out;have hge:=hST.out.bg;have hob3:ob<w3.heap.size:=block_lt_of_cell hST.out.box.c0;have hcb3:=HC5.out;have hcb5:cb5<w5.heap.size:=block_lt_of_cell C5.out.c0;have hbo:=hST.out.bo;have HBO:=hi9 hbo;have hapos:=jL kk;obtain⟨a5,rfl⟩:=zmv N5.out (by intro e;rw [e] at hapos;simp at hapos);have ha5:=zbv N5.out (by intro e;rw [e] at hapos;simp at hapos);have hF5:=F5.out a5 rfl;have hn5:n5=kk.flat.length:=N5.out.len;have HNK:=hi9 hn5;have hkk2:=HKK.out.2;have hfl:=jd kk;have hn5s:n5≤200:=by omega
     have hn50:0<n5:=by omega
     clear hn5 hfl hapos;have hno:=hNO.out;have hsw1:W.heap.size≤w1.heap.size:=Nat.le_trans HSW.out HWW.out;have hcx:=(HCX.out _ B5.out).ns;obtain⟨an,ean,-,-,nd2,-⟩:=hcx.at_ q _ HHD.out;rw [HEA.out] at ean;obtain rfl:=Option.some.inj ean;have hqn:q<k.n:=by rw [hcx.len];exact(List.getElem?_eq_some_iff.1 HHD.out).1
     have hqi:(q:Int)<(k.n:Int):=by omega
     have HNM:=hi9 (show nm.size≤maxLen from(hcx.ok _ (List.mem_of_getElem? HHD.out)).s);have hqm:(r:Int)-1=(q:Int):=by have:=HRQ.out;omega
     have c0:=hST5.box.c0;have i0':=V5.out.i;have hpb:(a'.add j).block<w1.heap.size:=by rw [jx];exact HPB.out
     have hab:(a.add (q*4)).block<w1.heap.size:=by
      have h1:=(HCX.out _ B1.out).ns;obtain⟨a2,e2,d0,-⟩:=h1.at_ q _ HHD.out;rw [HEA.out] at e2;obtain rfl:=Option.some.inj e2;exact block_lt_of_cell d0
     go_wp2_with fail;clear y0 y1 y2 y3;have hd5:=zU w5;refine wp_region_noPanic ?_;refine zbq (fun(w':World)=>w'.cell? ⟨ob,0,none⟩=some (.slice (some ⟨g,0,none⟩) no co)∧w'.cell? (a'.add j)=some (.int .i64 (r:Int))∧w'.cell? ⟨(a.add (q*4)).block,(a.add (q*4)).off+2,none⟩=some (.string nm)) 15 (by kernel_rfl) ⟨zb hd5 c0,zb hd5 i0',zb hd5 nd2⟩ (fun hHeld=>?_);refine zl (i:=0) (oi:=⟨some 74,_,_,_,_,_⟩) (v := .pointer (some ⟨ob,0,none⟩)) rfl (by kernel_rfl) (by kernel_rfl) (by kernel_rfl) (by kernel_rfl) (fun _ _ _ h=>h) (.inl ⟨by rfl,fun w' hSw=>?_⟩) hHeld ?_
     ·obtain⟨q0,q1,q2⟩:=hSw;go_simp
     simp only [Act.put,List.setIfInBounds_toArray,List.set_cons_zero,List.set_cons_succ];refine zl (i:=1) (oi:=⟨some 75,_,_,_,_,_⟩) (v := .slice (some ⟨g,0,none⟩) no co) rfl (by kernel_rfl) (by kernel_rfl) (by kernel_rfl) (by kernel_rfl) (fun _ _ _ h=>h) (.inl ⟨by rfl,fun w' hSw=>?_⟩) hHeld ?_
     ·obtain⟨q0,q1,q2⟩:=hSw;go_simp
     simp only [Act.put,List.setIfInBounds_toArray,List.set_cons_zero,List.set_cons_succ];refine zl (i:=2) (oi:=⟨some 76,_,_,_,_,_⟩) (v := .slice (some a) k.n k.c) rfl (by kernel_rfl) (by kernel_rfl) (by kernel_rfl) (by kernel_rfl) (fun _ _ _ h=>h) (.inl ⟨by rfl,fun w' hSw=>?_⟩) hHeld ?_
     ·obtain⟨q0,q1,q2⟩:=hSw;go_simp
     simp only [Act.put,List.setIfInBounds_toArray,List.set_cons_zero,List.set_cons_succ];refine zl (i:=3) (oi:=⟨some 77,_,_,_,_,_⟩) (v:=(.slice (some a') m c')) rfl (by kernel_rfl) (by kernel_rfl) (by kernel_rfl) (by kernel_rfl) (fun _ _ _ h=>h) (.inl ⟨by rfl,fun w' hSw=>?_⟩) hHeld ?_
     ·obtain⟨q0,q1,q2⟩:=hSw;go_simp
     simp only [Act.put,List.setIfInBounds_toArray,List.set_cons_zero,List.set_cons_succ];refine zl (i:=4) (oi:=⟨some 78,_,_,_,_,_⟩) (v := .int .i64 (j:Int)) rfl (by kernel_rfl) (by kernel_rfl) (by kernel_rfl) (by kernel_rfl) (fun _ _ _ h=>h) (.inl ⟨by rfl,fun w' hSw=>?_⟩) hHeld ?_
     ·obtain⟨q0,q1,q2⟩:=hSw;go_simp
     simp only [Act.put,List.setIfInBounds_toArray,List.set_cons_zero,List.set_cons_succ];refine zl (i:=5) (oi:=⟨some 79,_,_,_,_,_⟩) (v:=(.pointer (some (a'.add j)))) rfl (by kernel_rfl) (by kernel_rfl) (by kernel_rfl) (by kernel_rfl) (fun _ _ _ h=>h) (.inl ⟨by rfl,fun w' hSw=>?_⟩) hHeld ?_
     ·obtain⟨q0,q1,q2⟩:=hSw;go_simp
     simp only [Act.put,List.setIfInBounds_toArray,List.set_cons_zero,List.set_cons_succ];refine zl (i:=6) (oi:=⟨some 80,_,_,_,_,_⟩) (v := .int .i64 (r:Int)) rfl (by kernel_rfl) (by kernel_rfl) (by kernel_rfl) (by kernel_rfl) (fun _ _ _ h=>h) (.inl ⟨by rfl,fun w' hSw=>?_⟩) hHeld ?_
     ·obtain⟨q0,q1,q2⟩:=hSw;go_simp
     simp only [Act.put,List.setIfInBounds_toArray,List.set_cons_zero,List.set_cons_succ];refine zl (i:=7) (oi:=⟨some 81,_,_,_,_,_⟩) (v := .int .i64 (q:Int)) rfl (by kernel_rfl) (by kernel_rfl) (by kernel_rfl) (by kernel_rfl) (fun _ _ _ h=>h) (.inl ⟨by rfl,fun w' hSw=>?_⟩) hHeld ?_
     ·obtain⟨q0,q1,q2⟩:=hSw;go_simp;exact Go.IntWalk.i64_in _ (by omega)
     simp only [Act.put,List.setIfInBounds_toArray,List.set_cons_zero,List.set_cons_succ];refine zl (i:=8) (oi:=⟨some 82,_,_,_,_,_⟩) (v := .pointer (some (a.add (q*4)))) rfl (by kernel_rfl) (by kernel_rfl) (by kernel_rfl) (by kernel_rfl) (fun _ _ _ h=>h) (.inl ⟨by rfl,fun w' hSw=>?_⟩) hHeld ?_
     ·obtain⟨q0,q1,q2⟩:=hSw;go_simp
     simp only [Act.put,List.setIfInBounds_toArray,List.set_cons_zero,List.set_cons_succ];refine zl (i:=9) (oi:=⟨some 83,_,_,_,_,_⟩) (v := .pointer (some ⟨(a.add (q*4)).block,(a.add (q*4)).off+2,none⟩)) rfl (by kernel_rfl) (by kernel_rfl) (by kernel_rfl) (by kernel_rfl) (fun _ _ _ h=>h) (.inl ⟨by rfl,fun w' hSw=>?_⟩) hHeld ?_
     ·obtain⟨q0,q1,q2⟩:=hSw;go_simp
     simp only [Act.put,List.setIfInBounds_toArray,List.set_cons_zero,List.set_cons_succ];refine zl (i:=10) (oi:=⟨some 84,_,_,_,_,_⟩) (v := .string nm) rfl (by kernel_rfl) (by kernel_rfl) (by kernel_rfl) (by kernel_rfl) (fun _ _ _ h=>h) (.inl ⟨by rfl,fun w' hSw=>?_⟩) hHeld ?_
     ·obtain⟨q0,q1,q2⟩:=hSw;go_simp
     simp only [Act.put,List.setIfInBounds_toArray,List.set_cons_zero,List.set_cons_succ];refine zl (i:=11) (oi:=⟨some 85,_,_,_,_,_⟩) (v := .agg #[.int .i64 47,.int .i64 1,.string nm,.string ⟨#[]⟩]) rfl (by kernel_rfl) (by kernel_rfl) (by kernel_rfl) (by kernel_rfl) (fun _ _ _ h=>h) (.inl ⟨by rfl,fun w' hSw=>?_⟩) hHeld ?_
     ·obtain⟨q0,q1,q2⟩:=hSw;go_simp
     simp only [Act.put,List.setIfInBounds_toArray,List.set_cons_zero,List.set_cons_succ];have ba:=za w5 (.cells #[.int .i64 47,.int .i64 1,.string nm,.string ⟨#[]⟩] 41);have bad':=ba.trans ((zU _).mono ba.size);refine zN (i:=12) (o:=⟨some 86,_,_,_,_,_⟩) (by kernel_rfl) rfl (fun K' hK'=>?_);go_simp;refine hK'.out _ _ (fun _=>⟨zb bad' c0,zb bad' i0',zb bad' nd2⟩) ?_;clear hK' K' hHeld
     try simp only [Act.put,List.setIfInBounds_toArray,List.set_cons_zero,List.set_cons_succ]
     have ST6:=hi9 (hST5.keep bad');have c6:=zb bad' c0;have i6:=zb bad' i0';have d6:=zb bad' nd2;have hz6:w5.heap.size≤((w5.alloc (.cells #[.int .i64 47,.int .i64 1,.string nm,.string ⟨#[]⟩] 41)).drew).heap.size:=bad'.size;have hnew:∀j u,(zh [⟨47,1,nm,emp⟩])[j]?=some u→((w5.alloc (.cells #[.int .i64 47,.int .i64 1,.string nm,.string ⟨#[]⟩] 41)).drew).cell? ((⟨w5.heap.size,0,none⟩:Addr).add j)=some u:=zV w5 (zh [⟨47,1,nm,emp⟩]) _;have BA6:=hi9 bad';obtain⟨w6,hw6⟩:∃w6,(w5.alloc (.cells #[.int .i64 47,.int .i64 1,.string nm,.string ⟨#[]⟩] 41)).drew=w6:=⟨_,rfl⟩
     rw [hw6] at ST6 c6 i6 d6 hz6 hnew BA6 ⊢;clear hw6 ba bad';have hb16:w1.heap.size≤w6.heap.size:=Nat.le_trans (Nat.le_of_lt (Nat.lt_of_le_of_lt hge.1 hge.2)) (Nat.le_trans Q5.out.size hz6);refine zN (i:=13) (o:=⟨some 87,_,_,_,_,_⟩) (by kernel_rfl) rfl (fun K' hK'=>?_);refine step_append_lies w6 rfl (.tmp 75) (.tmp 86) 26 rfl w1.heap.size 41 iN _ 4 48 Tryz.underlying26 hiN hN0 hN1 hN2 rfl (by decide) (.slice (some ⟨g,0,none⟩) no co) no (zh (zb7 n.n Lj)) rfl ST6.out.row ⟨w5.heap.size,0,none⟩ 1 1 (zh [⟨47,1,nm,emp⟩]) rfl rfl hnew (je _) (by decide) (by unfold maxLen;omega) (by omega) hb16 _ rfl ?_;intro g' cap w7 hown hgrow hat hlt7;have GR:=ST6.out.grow (m:=1) (Q := [⟨47,1,nm,emp⟩]) rfl (fun z hz=>by rw [List.mem_singleton.1 hz];exact⟨HNM.out,Nat.zero_le _,by show _≤(1:Int);decide,by show(1:Int)≤_;decide⟩) hown hgrow hat;obtain⟨e1,e2,e3,e4,e5,e6,e7,e8,e9,e10⟩:=GR;have S7:w7.cell? ⟨ob,0,none⟩=some (.slice (some ⟨g,0,none⟩) no co)∧w7.cell? (a'.add j)=some (.int .i64 (r:Int))∧w7.cell? ⟨(a.add (q*4)).block,(a.add (q*4)).off+2,none⟩=some (.string nm):=⟨e7.c0,zc9 i6 e8 (fun q=>by have:=hge.1;omega),zc9 d6 e8 (fun q=>by have:=hge.1;simp only at q;omega)⟩
     have ob0:=e7.c0;have oz0:=e7.z0;refine hK'.out _ _ (fun _=>S7) ?_;clear hK' K'
     try simp only [Act.put,List.setIfInBounds_toArray,List.set_cons_zero,List.set_cons_succ]
     refine zl (i:=14) (oi:=⟨some 88,_,_,_,_,_⟩) (v := .pointer (some ⟨ob,0,none⟩)) rfl (by kernel_rfl) (by kernel_rfl) (by kernel_rfl) (by kernel_rfl) (fun _ _ _ h=>h) (.inl ⟨by rfl,fun w' hSw=>?_⟩) S7 ?_
     ·obtain⟨q0,q1,q2⟩:=hSw;go_simp
     simp only [Act.put,List.setIfInBounds_toArray,List.set_cons_zero,List.set_cons_succ];refine zN (i:=15) (o:=⟨none,_,_,_,_,_⟩) (by kernel_rfl) rfl (fun K' hK'=>?_);go_simp;refine hK'.out _ _ (fun h=>absurd rfl h) ?_;refine j8 (by kernel_rfl) ?_;refine NoPanic.normal ?_;clear hK' K';have ST8:=hi9 ((zdM.put e6 e2 e1 e7 e4 e5 HBO.out e3).1 rfl);have FA8:=hi9 (show zd6 w5 (w7.setCell ⟨ob,0,none⟩ (.slice (some ⟨g',0,none⟩) (no+1) cap)) (fun b=>b=g∨b=ob) from
      (zcg BA6.out _).trans ((e8.imp (fun _ _ h => .inl h)).trans ((zhK w7 ob _).imp (fun _ _ h => .inr h))))
     have hB5:=hi9 (hB.out.trans (Q5.out.mono hB.out.size));have HB8:=hi9 (((hB5.out.trans (BA6.out.mono hB5.out.size)).grown hgrow hb16 (fun g0 e=>by injection e with e;subst e;exact hge.1)).setCell (p:=⟨ob,0,none⟩) HBO.out (.slice (some ⟨g',0,none⟩) (no+1) cap));have hg7:g'<(w7.setCell ⟨ob,0,none⟩ (.slice (some ⟨g',0,none⟩) (no+1) cap)).heap.size:=by simpa [World.setCell] using e9
     have hg8:g'=g∨w5.heap.size≤g':=hat.imp (fun e=>(by injection e with e;exact e.symm)) (fun e=>by rw [e];exact hz6);have FG8:=hi9 hg8;obtain⟨w8,hw8⟩:∃w8,w7.setCell ⟨ob,0,none⟩ (.slice (some ⟨g',0,none⟩) (no+1) cap)=w8:=⟨_,rfl⟩
     rw [hw8] at ST8 FA8 HB8 hg7 ⊢;have C8:=hi9 (C5.out.far FA8.out (fun q=>by rcases q with q|q <;> omega));have N8:=hi9 (N5.out.far FA8.out (fun a e q=>by
      injection e with e
      subst e
      have:=hge.1
      rcases hF5 with h|h <;> rcases q with q|q <;> omega))
     have HZ8:=hi9 (show w5.heap.size≤w8.heap.size from FA8.out.1);have hb18:w1.heap.size≤w8.heap.size:=Nat.le_trans hb16 (Nat.le_trans hgrow.size (by rw [←hw8];simp [World.setCell]));clear hw8 e1 e2 e3 e4 e5 e6 e7 e8 e9 e10 S7 ob0 oz0 hown hgrow hat hlt7 c0 i0' nd2 c6 i6 d6 hnew hST5;obtain⟨o0,o1,oz0,oz1⟩:=ST8.out.box;obtain⟨y0,y1,y2,y3⟩:=C8.out;have hHC:=N8.out.at_.cells;go_wp2_with (at_builtin;go_loud (refine wpList_append_lies w8 rfl _ _ 26 rfl w1.heap.size 41 iN _ 4 48 Tryz.underlying26 hiN hN0 hN1 hN2 rfl (by decide) (.slice (some ⟨g',0,none⟩) (no+1) cap) (no+1) (zh (zb7 n.n Lj ++ [⟨47,1,nm,emp⟩])) rfl ST8.out.row a5 n5 c5 (zh kk.flat) rfl ?l1 hHC (je _) ?l2 ?l3 ?l4 hb18 _ rfl ?_))
     case l1=>rw [jm,←HNK.out]
     case l2=>exact hn50
     case l3=>unfold maxLen;omega
     case l4=>omega
     intro g2 cap2 w9 hown hgrow hat hlt9;have GR:=ST8.out.grow (m:=n5) (Q:=kk.flat) HNK.out.symm N8.out.ok hown hgrow hat;obtain⟨e1,e2,e3,e4,e5,e6,e7,e8,e9,e10⟩:=GR;have C9:=hi9 (C8.out.far e8 (fun q=>by rcases FG8.out with h|h <;> omega));have HB9:=hi9 (HB8.out.grown hgrow hb18 (fun g0 e=>by injection e with e;subst e;exact ST8.out.bg.1));have hob8:ob<w8.heap.size:=block_lt_of_cell o0;have hg29:g2≠ob:=e4;have HG2:=hi9 (show(g2=g'∨g2=w8.heap.size) from hat.imp (fun e=>(by injection e with e;exact e.symm)) id);have E1:=hi9 e1;have E2:=hi9 e2;have E3:=hi9 e3;have E5:=hi9 e5;have E6:=hi9 e6;have E7:=hi9 e7;clear hown hgrow hat hlt9 e1 e2 e3 e5 e6 e7 e8 e9 e10 o0 o1 oz0 oz1 y0 y1 y2 y3 hHC e4;by_cases hbig:200<no+1+n5
     ·have HRE:=hi9 (show rr = .error 4 from HE6.out.1 (by rw [←HFKK.out];omega));go_wp2_with fail;refine(zjn _ _ _ _ hbig).mono ?_;rintro e w10 ⟨rfl,b10⟩;have O10:=hi9 (E7.out.keep b10);obtain⟨o0,o1,oz0,oz1⟩:=O10.out;have B10:=hi9 (HB9.out.trans (b10.mono HB9.out.size));have B11:=hi9 (jy B10.out HBO.out (.slice none 0 0) (.int .i64 4));have O11:=hi9 (O10.out.set (.slice none 0 0) (.int .i64 4));obtain⟨p0,p1,pz0,pz1⟩:=O11.out;have R12:=hi9 (R1.out.belowK B11.out HRb.out);have B12:=hi9 (B1.out.trans (B11.out.mono B1.out.size));have B12:=B12;have RS:=R12.out.set (.slice none 0 0) (.int .i64 4);obtain⟨s0,s1,-,-⟩:=RS;have GF:=hi9 (zq (S:=fun b=>b<W.heap.size) (r := .error 4) (zY _) (zI (S:=fun b=>b<W.heap.size)) B12.out (show w.heap.size≤w.heap.size+1 by omega));obtain⟨r0,r1,z0,z1⟩:=R12.out;go_wp2_with fail;exact bodyPost_ret (v := .agg #[.slice none 0 0,.int .i64 4]) (by simp [results,Tryz.results15,go_sem,s0,s1]) rfl (by rw [HRE.out];exact GF.out)
     ·have HRN:=hi9 (HE6.out.2 (by rw [←HFKK.out];exact hbig));go_wp2_with fail;refine(zk1 _ _ _ _ hbig).mono ?_;rintro e w10 ⟨rfl,b10⟩;have O10:=hi9 (E7.out.keep b10);obtain⟨o0,o1,oz0,oz1⟩:=O10.out;have B10:=hi9 (HB9.out.trans (b10.mono HB9.out.size));have B11:=hi9 (jy B10.out HBO.out (.slice (some ⟨g2,0,none⟩) (no+1+n5) cap2) (.int .i64 0));have FZ:=zcg b10 (fun _=>False);have ST11:=hi9 ((zdM.put (zbg E6.out FZ (fun _ _=>id)) E2.out (zbg E1.out FZ (fun _ _=>id)) O10.out hg29 E5.out HBO.out E3.out).2);have C11:=hi9 ((C9.out.keep b10).far (ziF w10 ob (.slice (some ⟨g2,0,none⟩) (no+1+n5) cap2) (.int .i64 0)) (fun q=>by omega));obtain⟨p0,p1,pz0,pz1⟩:=ST11.out.box;have hn1:no+1+n5≤200:=by omega
      obtain⟨y0,y1,y2,y3⟩:=C11.out;obtain⟨u0,u1,u2,u3⟩:=C9.out.keep b10;have hne1:cb5≠ob:=by omega
      have hne2:ob≠cb5:=by omega
      have hB11:=B11.out.size;have hj4:j<4001:=by omega
      have HNW:=hi9 (show∀(i:Nat) (u:Value),[Value.slice (some a5) n5 c5,.int .i64 0][i]?=some u→(((w10.setCell ⟨ob,0,none⟩ (.slice (some ⟨g2,0,none⟩) (no+1+n5) cap2)).setCell ⟨ob,1,none⟩ (.int .i64 0)).alloc (.cells #[.slice (some a5) n5 c5,.int .i64 0] 30)).cell? ((⟨w10.heap.size,0,none⟩:Addr).add i)=some u from by
       have h0:=zV ((w10.setCell ⟨ob,0,none⟩ (.slice (some ⟨g2,0,none⟩) (no+1+n5) cap2)).setCell ⟨ob,1,none⟩ (.int .i64 0)) [Value.slice (some a5) n5 c5,.int .i64 0] 30
       rw [show((w10.setCell ⟨ob,0,none⟩ (.slice (some ⟨g2,0,none⟩) (no+1+n5) cap2)).setCell ⟨ob,1,none⟩ (.int .i64 0)).heap.size=w10.heap.size from by simp [World.setCell]] at h0
       exact h0)
      go_wp2_with (at_builtin;go_loud (refine wpList_append_own_at _ rfl _ _ 69 rfl w1.heap.size 30 i0 _ 2 32 Tryz.underlying69 hi hz0' hz1' hz2' rfl (by decide) (.slice A8 j c8) j xs rfl (ST11.out.ks.alloc _) ⟨_,0,none⟩ 1 1 [.slice (some a5) n5 c5,.int .i64 0] rfl rfl HNW.out (by intro u hu;simp only [List.mem_cons,List.not_mem_nil,or_false] at hu;rcases hu with rfl|rfl <;> rfl) ?c1 ?c2 ?c3 ?_))
      case c1=>unfold maxLen;omega
      case c2=>omega
      case c3=>exact Nat.le_trans hB11 (za _ _).size
      intro v1 w12 hown hgrow _ hat;have ST12:=ST11.out.next hown hgrow (by simpa using hat);rw [←zgD] at ST12;have ST13:=hi9 ST12;have B12:=hi9 ((B11.out.alloc hB11 _).grown hgrow (Nat.le_trans hB11 (za _ _).size) (zD ST11.out.ks));obtain⟨gk,ck,rfl,-,-⟩:=World.ownsRow.form hown (Nat.succ_pos _);have HLJ2:=hi9 (show(Lj ++ [(nm,kk)]).length=j+1 from by rw [List.length_append,hLj.out];rfl);have HRN2:=hi9 (show rr=fsR (zdN (Lj ++ [(nm,kk)]) (zd5 k.x.t (ftK L) (FL.drop (j+1)) (no+1+n5))) from by rw [HFKK.out];exact HRN.out);have HN1:=hi9 hn1;clear hown hgrow hat ST12 ST11 C11 O10 B10 B11 u0 u1 u2 u3 hne1 hne2 p0 p1 pz0 pz1 y0 y1 y2 y3 o0 o1 oz0 oz1 hB11 hn1 HRN;go_wp2_with fail;go_roundw
      case rel=>exact⟨j+1,Lj ++ [(nm,kk)],_,some ⟨gk,0,none⟩,ck,g2,no+1+n5,cap2,by go_num,by omega,rfl,HLJ2,HRN2,ST13,HN1,B12⟩
      case measure=>simp [intOf];omega
  ·have hjp:j=pl:=by omega
   have hnn:n.n=(Lj.length:Int):=by
    have h1:=HPN.out;unfold zp at h1;simp [H6.out] at h1;rw [hLj.out,hjp,HPL.out];omega
   have HRF:=hi9 (show rr = .ok (.fs (zcm Lj .nil)) from by
    rw [hE.out,List.drop_of_length_le (by rw [HLL2.out];omega)]
    simp [zd5,zdN,fsR])
   have N3:=hi9 (show Ns w3 (some ⟨g,0,none⟩) no co (Kd.fs (zcm Lj .nil)).flat from by
    rw [←zlq hnn]
    exact hST.out.ns (by have:=hNO.out;omega))
   have FX:=hi9 (show∀a,some (⟨g,0,none⟩:Addr)=some a→(a.block<W.heap.size∨w.heap.size≤a.block)∧a.block≠w.heap.size+1 from fun a e=>by
    injection e with e
    subst e
    have h1:=hST.out.bg.1
    have h2:=HRb.out
    exact⟨.inr (show w.heap.size≤g by omega),show g≠w.heap.size+1 by omega⟩)
   obtain⟨p0,p1,pz0,pz1⟩:=hST.out.box;clear hnn hjp;have RS:=R3.out.set (.slice (some ⟨g,0,none⟩) no co) (.int .i64 0);obtain⟨s0,s1,-,-⟩:=RS;have GF:=hi9 (zq (S:=fun b=>b<W.heap.size) (r := .ok (.fs (zcm Lj .nil))) N3.out FX.out B3.out (show w.heap.size≤w.heap.size+1 by omega));obtain⟨r0,r1,z0,z1⟩:=R3.out;go_wp2_with fail;exact bodyPost_ret (v := .agg #[.slice (some ⟨g,0,none⟩) no co,.int .i64 0]) (by simp [results,Tryz.results15,go_sem,s0,s1]) rfl (by rw [HRF.out];exact GF.out)
end Go.Proofs.YtjcdeikbghjpkaaGreatDoor
