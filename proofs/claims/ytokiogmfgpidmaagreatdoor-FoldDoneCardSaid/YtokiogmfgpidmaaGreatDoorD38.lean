/-
  What stands for a value is it: an expression with another one at the place of a ..
-/
import Derived.Test.YtokiogmfgpidmaaGreatDoorD37
set_option maxRecDepth 100000
set_option maxHeartbeats 4000000
namespace Go.Proofs.YtokiogmfgpidmaaGreatDoor
open Go.RowKit Go.Wk
end Go.Proofs.YtokiogmfgpidmaaGreatDoor
namespace Go.Proofs.YtokiogmfgpidmaaGreatDoor
open Go.RowKit Go.Wk Go.Sort
def OB(w:World)(r:Res)(e:Ending)(w':World):Prop:=∃A n c,e = .returned (.tuple #[.slice A n c,fa (z7 r)])/\Ns w' A n c (zh6 r)/\Below w.heap.size w w'
theorem X7{w w':World}{k:Int}(hb:Below w.heap.size w w'):OB w (.error k) (.returned (.tuple #[.slice none 0 0,fa k])) w':=⟨none,0,0,rfl,jM w',hb⟩
structure Va(w:World)(s:Nat)(x:Nd):Prop where
 c0:w.cell? ⟨s,0,none⟩=some (.int .i64 x.op)
 c1:w.cell? ⟨s,1,none⟩=some (.int .i64 x.n)
 c2:w.cell? ⟨s,2,none⟩=some (.string x.s)
 c3:w.cell? ⟨s,3,none⟩=some (.string x.t)
 cv:w.cell? ⟨s+1,0,none⟩=some (.slice none 0 0)
 ce:w.cell? ⟨s+1+1,0,none⟩=some .nilIface
 zv:w.frozen? ⟨s+1,0,none⟩=false
 ze:w.frozen? ⟨s+1+1,0,none⟩=false
theorem Va.keep{w w':World}{s:Nat}{x:Nd}(h:Va w s x)(hb:Below w.heap.size w w'):Va w' s x :=
 ⟨za hb h.c0,za hb h.c1,za hb h.c2,za hb h.c3,za hb h.cv,za hb h.ce,(hb.frozen (p:=⟨s+1,0,none⟩) (block_lt_of_cell h.cv)).trans h.zv,(hb.frozen (p:=⟨s+1+1,0,none⟩) (block_lt_of_cell h.ce)).trans h.ze⟩
theorem RB{w:World}{s:Nat}{q:Nd}(h:Va w s q)(x y:Value):((w.setCell ⟨s+1,0,none⟩ x).setCell ⟨s+1+1,0,none⟩ y).cell? ⟨s+1,0,none⟩=some x/\((w.setCell ⟨s+1,0,none⟩ x).setCell ⟨s+1+1,0,none⟩ y).cell? ⟨s+1+1,0,none⟩=some y :=
 ⟨(World.cell?_setCell_other _ _ _ _ (by intro e;injection e with e;omega)).trans (World.cell?_setCell_same w _ _ h.cv),World.cell?_setCell_same _ _ _ ((World.cell?_setCell_other w _ _ _ (by intro e;injection e with e;omega)).trans h.ce)⟩
def PT(w:World)(x:Nd):World:=((w.alloc (.cells #[.int .i64 x.op,.int .i64 x.n,.string x.s,.string x.t] 28)).alloc (.cells #[.slice none 0 0] 22)).alloc (.cells #[.nilIface] 24)
def evZ:Obj := .cells #[.slice none 0 0,.string ⟨#[]⟩,.string ⟨#[]⟩,.string ⟨#[]⟩,.string ⟨#[]⟩,.string ⟨#[]⟩,.string ⟨#[]⟩,.slice none 0 0,.slice none 0 0,.int .i64 0] 69
theorem IV(w:World)(x:Nd):Below w.heap.size w (PT w x):=
 (zb w _).trans (((zb _ _).mono (by simp)).trans ((zb _ _).mono (by simp;omega)))
theorem zgp(w:World)(x:Nd):(PT w x).heap.size=w.heap.size+1+1+1:=by unfold PT;simp
theorem Vk(w:World)(x:Nd):Va (PT w x) w.heap.size x:=by
 have b1:=zb (w.alloc (.cells #[.int .i64 x.op,.int .i64 x.n,.string x.s,.string x.t] 28)) (.cells #[.slice none 0 0] 22);have b2:=zb ((w.alloc (.cells #[.int .i64 x.op,.int .i64 x.n,.string x.s,.string x.t] 28)).alloc (.cells #[.slice none 0 0] 22)) (.cells #[.nilIface] 24);have b:=b1.trans (b2.mono b1.size);have n:=Qo w x 28;refine⟨za b n.c0,za b n.c1,za b n.c2,za b n.c3,?_,?_,?_,?_⟩
 ·have:=za (zb _ (.cells #[.nilIface] 24)) (jk (heap_alloc_last (w.alloc (.cells #[.int .i64 x.op,.int .i64 x.n,.string x.s,.string x.t] 28)) (.cells #[.slice none 0 0] 22)) (k:=0) (u := .slice none 0 0) rfl);rw [World.size_alloc] at this;exact this
 ·have:=jk (heap_alloc_last ((w.alloc (.cells #[.int .i64 x.op,.int .i64 x.n,.string x.s,.string x.t] 28)).alloc (.cells #[.slice none 0 0] 22)) (.cells #[.nilIface] 24)) (k:=0) (u := .nilIface) rfl;rw [World.size_alloc,World.size_alloc] at this;exact this
 ·have ha:(w.alloc (.cells #[.int .i64 x.op,.int .i64 x.n,.string x.s,.string x.t] 28)).heap.size=w.heap.size+1:=by simp
  exact((zb _ _).frozen (p:=⟨w.heap.size+1,0,none⟩) (by simp)).trans (World.frozen?_alloc_at _ _ _ _ ha.symm)
 ·have ha:((w.alloc (.cells #[.int .i64 x.op,.int .i64 x.n,.string x.s,.string x.t] 28)).alloc (.cells #[.slice none 0 0] 22)).heap.size=w.heap.size+1+1:=by simp
  exact World.frozen?_alloc_at _ _ _ _ ha.symm
theorem UK(x:Nd)(hx:x.op=5\/x.op=6)(nv vv:Value)(r:Res)(hr:r≠ .error 0)(w:World)
 (KC:∀w',Below w.heap.size w w'->Calls Tryz.prog 98 #[.int .i64 x.op,nv,vv] w' (jl w' r)):
 Calls Tryz.prog 68 #[.slice none 0 0,ndV x,nv,vv] w (OB w r):=by
 have K:=O KC;have V0:=O ((Vk w x).keep (zb _ evZ));have B0:=O ((IV w x).trans ((zb _ evZ).mono (IV w x).size));have HR:=O hr;have hmf:∀(fn:Fn) (first cap:Array Value) (w:World),(Instr.makeFunc fn first cap).run Tryz.prog w = .ok (.func fn first cap) w:=λ_ _ _ _=>rfl;unfold PT evZ at V0 B0;clear KC hr;obtain⟨xo,xn,xs,xt⟩:=x;unfold ndV;dsimp only at hx K V0 B0 ⊢;rcases hx with rfl|rfl
 all_goals
  go_enter_defers Tryz.func68,Tryz.ntmps68;go_wp2_with fail;refine(K.o _ B0.o).mono ?_;rintro e w4 hT;rcases r with u|V
  ·obtain⟨b4,rfl⟩:=hT;have V4:=O (V0.o.keep b4);have B4:=O (B0.o.trans (b4.mono B0.o.size));have hu0:u≠0:=λz=>HR.o (by rw [z]);clear b4 K V0 B0;obtain⟨-,-,-,-,cv,ce,zv,ze⟩:=V4.o;have hl1:=block_lt_of_cell cv;have hl2:=block_lt_of_cell ce;go_wp2_with fail;refine leaves_cons (f:=116) (args:=#[.pointer (some ⟨w.heap.size+1,0,none⟩),.pointer (some ⟨w.heap.size+1+1,0,none⟩)]) (by simp) (by simp [go_sem]) ?_;refine(MG (w.heap.size+1) (w.heap.size+1+1) u _ _ [] w4 cv zv ce ze (by omega)).mono ?_;rintro e u' w5 ⟨rfl,rfl,rfl⟩;obtain⟨p1,p2⟩:=RB V4.o (.slice none 0 0) (.iface 41 (.int .i64 u));have BB:=(B4.o.setCell (p:=⟨w.heap.size+1,0,none⟩) (Nat.le_succ _) (.slice none 0 0)).setCell (p:=⟨w.heap.size+1+1,0,none⟩) (Nat.le_succ_of_le (Nat.le_succ _)) (.iface 41 (.int .i64 u));have HT:=X7 (k:=u) BB;rw [zy hu0] at HT;simp [Leaves,settle,results,Tryz.results68,go_sem,p1,p2];exact HT
  ·obtain⟨b4,A4,n4,c4,rfl,N4,F4⟩:=hT;have V4:=O (V0.o.keep b4);have B4:=O (B0.o.trans (b4.mono B0.o.size));have HN4:=O N4;have HF4:=O (show∀a,A4=some a->w.heap.size+1+1<a.block from λa e=>by have h1:=F4 a e;simp at h1;omega);clear b4 K V0 B0 N4 F4;obtain⟨-,-,-,-,cv,ce,zv,ze⟩:=V4.o;have hl1:=block_lt_of_cell cv;have hl2:=block_lt_of_cell ce;obtain⟨p1,p2⟩:=RB V4.o (.slice A4 n4 c4) .nilIface;have N6:=O ((HN4.o.but (zr w4 ⟨w.heap.size+1,0,none⟩ (.slice A4 n4 c4)) (λ_ a e=>by have:=HF4.o a e;show a.block≠w.heap.size+1;omega)).but (zr _ ⟨w.heap.size+1+1,0,none⟩ .nilIface) (λ_ a e=>by have:=HF4.o a e;show a.block≠w.heap.size+1+1;omega));have BB:=O ((B4.o.setCell (p:=⟨w.heap.size+1,0,none⟩) (Nat.le_succ _) (.slice A4 n4 c4)).setCell (p:=⟨w.heap.size+1+1,0,none⟩) (Nat.le_succ_of_le (Nat.le_succ _)) .nilIface);go_wp2_with fail;refine leaves_cons (f:=116) (args:=#[.pointer (some ⟨w.heap.size+1,0,none⟩),.pointer (some ⟨w.heap.size+1+1,0,none⟩)]) (by simp) (by simp [go_sem]) ?_;refine(Pk ⟨w.heap.size+1,0,none⟩ ⟨w.heap.size+1+1,0,none⟩ _).mono ?_;rintro e u' w6 ⟨rfl,rfl,rfl⟩;simp [Leaves,settle,results,Tryz.results68,go_sem,p1,p2];exact⟨A4,n4,c4,rfl,N6.o,BB.o⟩
theorem Nq{P:Program}{fn:Func}{t t':Array Value}{R:Ending->World->Prop}(h:results fn t=results fn t'):∀(ds:List Deferred) (u:FrameMode) (w:World),Leaves P fn t R ds u w->Leaves P fn t' R ds u w
 | [],.returning,w,k=>by
  unfold Leaves at k ⊢;rw [<-h];exact k
 | [],.panicking _,w,k=>k
 | [],.run,w,k=>k
 | d :: ds,u,w,k=>by
  unfold Leaves at k ⊢;obtain⟨h1,fv,cap,f,args,h2,h3,h4⟩:=k;refine⟨h1,fv,cap,f,args,h2,h3,h4.mono λe u' w' hk=>?_⟩
  cases e with
  | returned v=>exact Nq h ds _ _ hk
  | panicked c=>exact Nq h ds _ _ hk
  | outgrown=>exact hk
theorem zgJ(t:Nat)(v:Value)(ht:9<t)(a:Act):results Tryz.f68 (a.put (some t) v).tmps=results Tryz.f68 a.tmps:=by
 have h8:(a.put (some t) v).tmps[8]?=a.tmps[8]?:=by
  simp only [Act.put];rw [Array.getElem?_setIfInBounds_ne (by omega)]
 have h9:(a.put (some t) v).tmps[9]?=a.tmps[9]?:=by
  simp only [Act.put];rw [Array.getElem?_setIfInBounds_ne (by omega)]
 simp [results,Tryz.results68,h8,h9]
theorem sK{R:Ending->World->Prop}(t:Nat)(v:Value)(ht:9<t)(c:List PanicEntry)(a:Act)(w:World)(h:bodyPostD Tryz.prog Tryz.f68 R (.panic c) (a.put (some t) v) w):bodyPostD Tryz.prog Tryz.f68 R (.panic c) a w:=by
 unfold bodyPostD at h ⊢;exact Nq (zgJ t v ht a) _ _ _ h
theorem C9(w:World):Below w.heap.size w w.drew:=⟨rfl,rfl,rfl,Nat.le_refl _,λ_ _=>rfl⟩
theorem zgT(x:Nd)(hx:x.op≠5)(hx6:x.op≠6)(nv:Value)(a:Addr)(c:Nat)(A:Option Addr)(n c':Nat)(r:Res)(hr:r≠ .error 0)(w:World)(ha:w.cell? a=some (.slice A n c'))(hal:a.block<w.heap.size)
 (KC:∀w',Below w.heap.size w w'->Below ((PT w x).alloc evZ).heap.size ((PT w x).alloc evZ) w'->Calls Tryz.prog 60 #[.pointer (some ⟨w.heap.size+1+1+1,0,none⟩),ndV x,.slice A n c'] w' (jl w' r)):
 Calls Tryz.prog 68 #[.slice none 0 0,ndV x,nv,.slice (some a) 1 c] w (OB w r):=by
 have K:=O KC;have V0:=O ((Vk w x).keep (zb _ evZ));have B0:=O ((IV w x).trans ((zb _ evZ).mono (IV w x).size));have HR:=O hr;have RE:=O hal;have hmf:∀(fn:Fn) (first cap:Array Value) (w:World),(Instr.makeFunc fn first cap).run Tryz.prog w = .ok (.func fn first cap) w:=λ_ _ _ _=>rfl;have HA0:=O (za B0.o ha);unfold PT evZ at V0 B0 HA0 K;clear KC hr ha;obtain⟨xo,xn,xs,xt⟩:=x;unfold ndV at K ⊢;dsimp only at hx hx6 K V0 B0 HA0 ⊢;have e5:(xo==5)=false:=by simp [hx]
 have e6:(xo==6)=false:=by simp [hx6]
 go_enter_defers Tryz.func68,Tryz.ntmps68;go_wp2_with fail;obtain⟨c0,c1,c2,c3,-,-,-,-⟩:=V0.o.keep (show Below _ _ _ from⟨rfl,rfl,rfl,Nat.le_refl _,λ_ _=>rfl⟩);refine Gw (λ(w':World)=>w'.cell? ⟨w.heap.size,0,none⟩=some (.int .i64 xo)/\w'.cell? ⟨w.heap.size,1,none⟩=some (.int .i64 xn)/\w'.cell? ⟨w.heap.size,2,none⟩=some (.string xs)/\w'.cell? ⟨w.heap.size,3,none⟩=some (.string xt)/\w'.cell? a=some (Value.slice A n c')) 7 (by kernel_rfl) ⟨c0,c1,c2,c3,HA0.o⟩ (λhHeld=>?_);refine jF (i:=0) (oi:=⟨some 33,_,_,_,_,_⟩) (v := .pointer (some ⟨w.heap.size+1+1+1,0,none⟩)) rfl (by kernel_rfl) (by kernel_rfl) (by kernel_rfl) (by kernel_rfl) (λc a w h=>sK 33 _ (by decide) c a w h) (.inl ⟨by rfl,λw' hSw=>?_⟩) hHeld ?_
 ·obtain⟨a0,a1,a2,a3,a4⟩:=hSw;go_simp
 simp only [Act.put,zS];refine jF (i:=1) (oi:=⟨some 34,_,_,_,_,_⟩) (v := .agg #[.int .i64 xo,.int .i64 xn,.string xs,.string xt]) rfl (by kernel_rfl) (by kernel_rfl) (by kernel_rfl) (by kernel_rfl) (λc a w h=>sK 34 _ (by decide) c a w h) (.inl ⟨by rfl,λw' hSw=>?_⟩) hHeld ?_
 ·obtain⟨a0,a1,a2,a3,a4⟩:=hSw;go_simp
 simp only [Act.put,zS];refine jF (i:=2) (oi:=⟨some 35,_,_,_,_,_⟩) (v := .slice (some a) 1 c) rfl (by kernel_rfl) (by kernel_rfl) (by kernel_rfl) (by kernel_rfl) (λc a w h=>sK 35 _ (by decide) c a w h) (.inl ⟨by rfl,λw' hSw=>?_⟩) hHeld ?_
 ·obtain⟨a0,a1,a2,a3,a4⟩:=hSw;go_simp
 simp only [Act.put,zS];refine jF (i:=3) (oi:=⟨some 36,_,_,_,_,_⟩) (v := .pointer (some a)) rfl (by kernel_rfl) (by kernel_rfl) (by kernel_rfl) (by kernel_rfl) (λc a w h=>sK 36 _ (by decide) c a w h) (.inl ⟨by rfl,λw' hSw=>?_⟩) hHeld ?_
 ·obtain⟨a0,a1,a2,a3,a4⟩:=hSw;go_simp
 simp only [Act.put,zS];refine jF (i:=4) (oi:=⟨some 37,_,_,_,_,_⟩) (v := .slice A n c') rfl (by kernel_rfl) (by kernel_rfl) (by kernel_rfl) (by kernel_rfl) (λc a w h=>sK 37 _ (by decide) c a w h) (.inl ⟨by rfl,λw' hSw=>?_⟩) hHeld ?_
 ·obtain⟨a0,a1,a2,a3,a4⟩:=hSw;go_simp
 simp only [Act.put,zS];refine jy (i:=5) (o:=⟨some 38,_,_,_,_,_⟩) (by kernel_rfl) rfl (λK' hK'=>?_);go_simp;go_at_call 60;have BD:=B0.o.trans ((C9 _).mono B0.o.size);have VD:=V0.o.keep (C9 _);have K1:=O (K.o _ BD (C9 _));clear B0 V0 K;have B0:=O BD;have V0:=O VD;have HA1:=O (za (C9 _) HA0.o);clear BD VD c0 c1 c2 c3 HA0;refine K1.o.mono ?_;rintro e w4 hT;have K:=O (show True from trivial);rcases r with u|V
 ·obtain⟨b4,rfl⟩:=hT;have V4:=O (V0.o.keep b4);have B4:=O (B0.o.trans (b4.mono B0.o.size));have hu0:u≠0:=λz=>HR.o (by rw [z]);clear b4 K V0 B0;obtain⟨-,-,-,-,cv,ce,zv,ze⟩:=V4.o;have hl1:=block_lt_of_cell cv;have hl2:=block_lt_of_cell ce;go_wp2_with fail;refine leaves_cons (f:=116) (args:=#[.pointer (some ⟨w.heap.size+1,0,none⟩),.pointer (some ⟨w.heap.size+1+1,0,none⟩)]) (by simp) (by simp [go_sem]) ?_;refine(MG (w.heap.size+1) (w.heap.size+1+1) u _ _ [] w4 cv zv ce ze (by omega)).mono ?_;rintro e u' w5 ⟨rfl,rfl,rfl⟩;obtain⟨p1,p2⟩:=RB V4.o (.slice none 0 0) (.iface 41 (.int .i64 u));have BB:=(B4.o.setCell (p:=⟨w.heap.size+1,0,none⟩) (Nat.le_succ _) (.slice none 0 0)).setCell (p:=⟨w.heap.size+1+1,0,none⟩) (Nat.le_succ_of_le (Nat.le_succ _)) (.iface 41 (.int .i64 u));have HT:=X7 (k:=u) BB;rw [zy hu0] at HT;simp [Leaves,settle,results,Tryz.results68,go_sem,p1,p2];exact HT
 ·obtain⟨b4,A4,n4,c4,rfl,N4,F4⟩:=hT;have V4:=O (V0.o.keep b4);have B4:=O (B0.o.trans (b4.mono B0.o.size));have HN4:=O N4;have HA4:=O (za b4 HA1.o);have HF4:=O (show∀a,A4=some a->w.heap.size+1+1<a.block from λa e=>by have h1:=F4 a e;simp at h1;omega);clear b4 K V0 B0 N4 F4;obtain⟨-,-,-,-,cv,ce,zv,ze⟩:=V4.o;have hl1:=block_lt_of_cell cv;have hl2:=block_lt_of_cell ce;obtain⟨p1,p2⟩:=RB V4.o (.slice A4 n4 c4) .nilIface;have N6:=O ((HN4.o.but (zr w4 ⟨w.heap.size+1,0,none⟩ (.slice A4 n4 c4)) (λ_ a e=>by have:=HF4.o a e;show a.block≠w.heap.size+1;omega)).but (zr _ ⟨w.heap.size+1+1,0,none⟩ .nilIface) (λ_ a e=>by have:=HF4.o a e;show a.block≠w.heap.size+1+1;omega));have BB:=O ((B4.o.setCell (p:=⟨w.heap.size+1,0,none⟩) (Nat.le_succ _) (.slice A4 n4 c4)).setCell (p:=⟨w.heap.size+1+1,0,none⟩) (Nat.le_succ_of_le (Nat.le_succ _)) .nilIface);go_wp2_with fail;have g1:=zr w4 ⟨w.heap.size+1,0,none⟩ (.slice A4 n4 c4);have hna:some a.block≠some (w.heap.size+1):=λe=>by injection e with e;have:=RE.o;omega
  have hn0:some w.heap.size≠some (w.heap.size+1):=λe=>by injection e with e;omega
  refine hK'.out _ _ (λ_=>⟨V4.o.c0,V4.o.c1,V4.o.c2,V4.o.c3,HA4.o⟩) ?_;clear hK' K'
  try simp only [Act.put,zS]
  refine jy (i:=6) (o:=⟨none,_,_,_,_,_⟩) (by kernel_rfl) rfl (λK' hK'=>?_);go_simp;refine hK'.out _ _ (λ_=>⟨g1.cell V4.o.c0 hn0,g1.cell V4.o.c1 hn0,g1.cell V4.o.c2 hn0,g1.cell V4.o.c3 hn0,g1.cell HA4.o hna⟩) ?_;clear hK' K'
  try simp only [Act.put,zS]
  refine jy (i:=7) (o:=⟨none,_,_,_,_,_⟩) (by kernel_rfl) rfl (λK' hK'=>?_);go_simp;refine hK'.out _ _ (λh=>absurd rfl h) ?_;clear hK' K' g1 hna hn0;refine Gs (by kernel_rfl) ?_
  try simp only [Act.put,zS]
  go_wp2_with fail;refine leaves_cons (f:=116) (args:=#[.pointer (some ⟨w.heap.size+1,0,none⟩),.pointer (some ⟨w.heap.size+1+1,0,none⟩)]) (by simp) (by simp [go_sem]) ?_;refine(Pk ⟨w.heap.size+1,0,none⟩ ⟨w.heap.size+1+1,0,none⟩ _).mono ?_;rintro e u' w6 ⟨rfl,rfl,rfl⟩;simp [Leaves,settle,results,Tryz.results68,go_sem,p1,p2];exact⟨A4,n4,c4,rfl,N6.o,BB.o⟩
theorem zgb(x:Nd)(hx:x.op≠5)(hx6:x.op≠6)(nv:Value)(a:Addr)(c:Nat)(A:Option Addr)(n c':Nat)(A':Option Addr)(n' d':Nat)(r:Res)(hr:r≠ .error 0)(w:World)(ha:w.cell? a=some (.slice A n c'))(hb:w.cell? (a.add 1)=some (.slice A' n' d'))(hal:a.block<w.heap.size)
 (KC:∀w',Below w.heap.size w w'->Below ((PT w x).alloc evZ).heap.size ((PT w x).alloc evZ) w'->Calls Tryz.prog 61 #[.pointer (some ⟨w.heap.size+1+1+1,0,none⟩),.int .i64 x.op,.slice A n c',.slice A' n' d'] w' (jl w' r)):
 Calls Tryz.prog 68 #[.slice none 0 0,ndV x,nv,.slice (some a) 2 c] w (OB w r):=by
 have K:=O KC;have V0:=O ((Vk w x).keep (zb _ evZ));have B0:=O ((IV w x).trans ((zb _ evZ).mono (IV w x).size));have HR:=O hr;have RE:=O hal;have hmf:∀(fn:Fn) (first cap:Array Value) (w:World),(Instr.makeFunc fn first cap).run Tryz.prog w = .ok (.func fn first cap) w:=λ_ _ _ _=>rfl;have HA0:=O (za B0.o ha);have hb':w.cell? ⟨a.block,a.off+1,none⟩=some (.slice A' n' d'):=hb;have HB0:=O (za B0.o hb');unfold PT evZ at V0 B0 HA0 HB0 K;clear KC hr ha hb hb';obtain⟨xo,xn,xs,xt⟩:=x;unfold ndV;dsimp only at hx hx6 K V0 B0 HA0 HB0 ⊢;have e5:(xo==5)=false:=by simp [hx]
 have e6:(xo==6)=false:=by simp [hx6]
 go_enter_defers Tryz.func68,Tryz.ntmps68;go_wp2_with fail;obtain⟨c0,c1,c2,c3,-,-,-,-⟩:=V0.o.keep (show Below _ _ _ from⟨rfl,rfl,rfl,Nat.le_refl _,λ_ _=>rfl⟩);refine Gw (λ(w':World)=>w'.cell? ⟨w.heap.size,0,none⟩=some (.int .i64 xo)/\w'.cell? a=some (Value.slice A n c')/\w'.cell? ⟨a.block,a.off+1,none⟩=some (Value.slice A' n' d')) 11 (by kernel_rfl) ⟨c0,HA0.o,HB0.o⟩ (λhHeld=>?_);refine jF (i:=0) (oi:=⟨some 39,_,_,_,_,_⟩) (v := .pointer (some ⟨w.heap.size+1+1+1,0,none⟩)) rfl (by kernel_rfl) (by kernel_rfl) (by kernel_rfl) (by kernel_rfl) (λc a w h=>sK 39 _ (by decide) c a w h) (.inl ⟨by rfl,λw' hSw=>?_⟩) hHeld ?_
 ·obtain⟨a0,a1,a2⟩:=hSw;go_simp
 simp only [Act.put,zS];refine jF (i:=1) (oi:=⟨some 40,_,_,_,_,_⟩) (v := .pointer (some ⟨w.heap.size,0,none⟩)) rfl (by kernel_rfl) (by kernel_rfl) (by kernel_rfl) (by kernel_rfl) (λc a w h=>sK 40 _ (by decide) c a w h) (.inl ⟨by rfl,λw' hSw=>?_⟩) hHeld ?_
 ·obtain⟨a0,a1,a2⟩:=hSw;go_simp
 simp only [Act.put,zS];refine jF (i:=2) (oi:=⟨some 41,_,_,_,_,_⟩) (v := .int .i64 xo) rfl (by kernel_rfl) (by kernel_rfl) (by kernel_rfl) (by kernel_rfl) (λc a w h=>sK 41 _ (by decide) c a w h) (.inl ⟨by rfl,λw' hSw=>?_⟩) hHeld ?_
 ·obtain⟨a0,a1,a2⟩:=hSw;go_simp
 simp only [Act.put,zS];refine jF (i:=3) (oi:=⟨some 42,_,_,_,_,_⟩) (v := .slice (some a) 2 c) rfl (by kernel_rfl) (by kernel_rfl) (by kernel_rfl) (by kernel_rfl) (λc a w h=>sK 42 _ (by decide) c a w h) (.inl ⟨by rfl,λw' hSw=>?_⟩) hHeld ?_
 ·obtain⟨a0,a1,a2⟩:=hSw;go_simp
 simp only [Act.put,zS];refine jF (i:=4) (oi:=⟨some 43,_,_,_,_,_⟩) (v := .pointer (some a)) rfl (by kernel_rfl) (by kernel_rfl) (by kernel_rfl) (by kernel_rfl) (λc a w h=>sK 43 _ (by decide) c a w h) (.inl ⟨by rfl,λw' hSw=>?_⟩) hHeld ?_
 ·obtain⟨a0,a1,a2⟩:=hSw;go_simp
 simp only [Act.put,zS];refine jF (i:=5) (oi:=⟨some 44,_,_,_,_,_⟩) (v := .slice A n c') rfl (by kernel_rfl) (by kernel_rfl) (by kernel_rfl) (by kernel_rfl) (λc a w h=>sK 44 _ (by decide) c a w h) (.inl ⟨by rfl,λw' hSw=>?_⟩) hHeld ?_
 ·obtain⟨a0,a1,a2⟩:=hSw;go_simp
 simp only [Act.put,zS];refine jF (i:=6) (oi:=⟨some 45,_,_,_,_,_⟩) (v := .slice (some a) 2 c) rfl (by kernel_rfl) (by kernel_rfl) (by kernel_rfl) (by kernel_rfl) (λc a w h=>sK 45 _ (by decide) c a w h) (.inl ⟨by rfl,λw' hSw=>?_⟩) hHeld ?_
 ·obtain⟨a0,a1,a2⟩:=hSw;go_simp
 simp only [Act.put,zS];refine jF (i:=7) (oi:=⟨some 46,_,_,_,_,_⟩) (v := .pointer (some ⟨a.block,a.off+1,none⟩)) rfl (by kernel_rfl) (by kernel_rfl) (by kernel_rfl) (by kernel_rfl) (λc a w h=>sK 46 _ (by decide) c a w h) (.inl ⟨by rfl,λw' hSw=>?_⟩) hHeld ?_
 ·obtain⟨a0,a1,a2⟩:=hSw;go_simp
 simp only [Act.put,zS];refine jF (i:=8) (oi:=⟨some 47,_,_,_,_,_⟩) (v := .slice A' n' d') rfl (by kernel_rfl) (by kernel_rfl) (by kernel_rfl) (by kernel_rfl) (λc a w h=>sK 47 _ (by decide) c a w h) (.inl ⟨by rfl,λw' hSw=>?_⟩) hHeld ?_
 ·obtain⟨a0,a1,a2⟩:=hSw;go_simp
 simp only [Act.put,zS];refine jy (i:=9) (o:=⟨some 48,_,_,_,_,_⟩) (by kernel_rfl) rfl (λK' hK'=>?_);go_simp;go_at_call 61;have BD:=B0.o.trans ((C9 _).mono B0.o.size);have VD:=V0.o.keep (C9 _);have K1:=O (K.o _ BD (C9 _));clear B0 V0 K;have B0:=O BD;have V0:=O VD;have HA1:=O (za (C9 _) HA0.o);have HB1:=O (za (C9 _) HB0.o);clear BD VD c0 c1 c2 c3 HA0 HB0;refine K1.o.mono ?_;rintro e w4 hT;have K:=O (show True from trivial);rcases r with u|V
 ·obtain⟨b4,rfl⟩:=hT;have V4:=O (V0.o.keep b4);have B4:=O (B0.o.trans (b4.mono B0.o.size));have hu0:u≠0:=λz=>HR.o (by rw [z]);clear b4 K V0 B0;obtain⟨-,-,-,-,cv,ce,zv,ze⟩:=V4.o;have hl1:=block_lt_of_cell cv;have hl2:=block_lt_of_cell ce;go_wp2_with fail;refine leaves_cons (f:=116) (args:=#[.pointer (some ⟨w.heap.size+1,0,none⟩),.pointer (some ⟨w.heap.size+1+1,0,none⟩)]) (by simp) (by simp [go_sem]) ?_;refine(MG (w.heap.size+1) (w.heap.size+1+1) u _ _ [] w4 cv zv ce ze (by omega)).mono ?_;rintro e u' w5 ⟨rfl,rfl,rfl⟩;obtain⟨p1,p2⟩:=RB V4.o (.slice none 0 0) (.iface 41 (.int .i64 u));have BB:=(B4.o.setCell (p:=⟨w.heap.size+1,0,none⟩) (Nat.le_succ _) (.slice none 0 0)).setCell (p:=⟨w.heap.size+1+1,0,none⟩) (Nat.le_succ_of_le (Nat.le_succ _)) (.iface 41 (.int .i64 u));have HT:=X7 (k:=u) BB;rw [zy hu0] at HT;simp [Leaves,settle,results,Tryz.results68,go_sem,p1,p2];exact HT
 ·obtain⟨b4,A4,n4,c4,rfl,N4,F4⟩:=hT;have V4:=O (V0.o.keep b4);have B4:=O (B0.o.trans (b4.mono B0.o.size));have HN4:=O N4;have HA4:=O (za b4 HA1.o);have HB4:=O (za b4 HB1.o);have HF4:=O (show∀a,A4=some a->w.heap.size+1+1<a.block from λa e=>by have h1:=F4 a e;simp at h1;omega);clear b4 K V0 B0 N4 F4;obtain⟨-,-,-,-,cv,ce,zv,ze⟩:=V4.o;have hl1:=block_lt_of_cell cv;have hl2:=block_lt_of_cell ce;obtain⟨p1,p2⟩:=RB V4.o (.slice A4 n4 c4) .nilIface;have N6:=O ((HN4.o.but (zr w4 ⟨w.heap.size+1,0,none⟩ (.slice A4 n4 c4)) (λ_ a e=>by have:=HF4.o a e;show a.block≠w.heap.size+1;omega)).but (zr _ ⟨w.heap.size+1+1,0,none⟩ .nilIface) (λ_ a e=>by have:=HF4.o a e;show a.block≠w.heap.size+1+1;omega));have BB:=O ((B4.o.setCell (p:=⟨w.heap.size+1,0,none⟩) (Nat.le_succ _) (.slice A4 n4 c4)).setCell (p:=⟨w.heap.size+1+1,0,none⟩) (Nat.le_succ_of_le (Nat.le_succ _)) .nilIface);go_wp2_with fail;have g1:=zr w4 ⟨w.heap.size+1,0,none⟩ (.slice A4 n4 c4);have hna:some a.block≠some (w.heap.size+1):=λe=>by injection e with e;have:=RE.o;omega
  have hn0:some w.heap.size≠some (w.heap.size+1):=λe=>by injection e with e;omega
  refine hK'.out _ _ (λ_=>⟨V4.o.c0,HA4.o,HB4.o⟩) ?_;clear hK' K'
  try simp only [Act.put,zS]
  refine jy (i:=10) (o:=⟨none,_,_,_,_,_⟩) (by kernel_rfl) rfl (λK' hK'=>?_);go_simp;refine hK'.out _ _ (λ_=>⟨g1.cell V4.o.c0 hn0,g1.cell HA4.o hna,g1.cell HB4.o hna⟩) ?_;clear hK' K'
  try simp only [Act.put,zS]
  refine jy (i:=11) (o:=⟨none,_,_,_,_,_⟩) (by kernel_rfl) rfl (λK' hK'=>?_);go_simp;refine hK'.out _ _ (λh=>absurd rfl h) ?_;clear hK' K' g1 hna hn0;refine Gs (by kernel_rfl) ?_
  try simp only [Act.put,zS]
  go_wp2_with fail;refine leaves_cons (f:=116) (args:=#[.pointer (some ⟨w.heap.size+1,0,none⟩),.pointer (some ⟨w.heap.size+1+1,0,none⟩)]) (by simp) (by simp [go_sem]) ?_;refine(Pk ⟨w.heap.size+1,0,none⟩ ⟨w.heap.size+1+1,0,none⟩ _).mono ?_;rintro e u' w6 ⟨rfl,rfl,rfl⟩;simp [Leaves,settle,results,Tryz.results68,go_sem,p1,p2];exact⟨A4,n4,c4,rfl,N6.o,BB.o⟩
def cxZ:Cx:=⟨none,0,0,[],⟨(emp,emp),(emp,emp),(emp,emp),none,0,0,[]⟩,none,0,0,[]⟩
theorem zeK{w w':World}{x:Nd}(hb:Below ((PT w x).alloc evZ).heap.size ((PT w x).alloc evZ) w')(hd:CQ w'):Gh w' (w.heap.size+1+1+1) cxZ:=by
 refine⟨?_,⟨rfl,Nat.le_refl _,Nat.zero_le _,λk x hx=>by simp [cxZ] at hx⟩,hd,?_⟩
 ·have h:=jk (heap_alloc_last (PT w x) evZ) (k:=0) (u := .slice none 0 0) rfl;rw [zgp] at h;exact za hb h
 ·show jW []=0;unfold jW;simp [aR]
theorem zeg(n:Nd)(hs:n.s.size<=maxLen)(L:Nat)(hsh:(n.op=5\/n.op=6)\/(n.op≠5/\n.op≠6/\L=1/\(n.op=9\/n.op=10\/n.op=21\/n.op=22\/n.op=23\/n.op=24))\/(n.op≠5/\n.op≠6/\L=2))
 (N:List ByteArray) (A2:Option Addr) (n2 c2:Nat) (hn:n2=N.length) (hn2:n2<=1000) (hz:∀x∈N,x.size<=maxLen) (w:World) (hT:Sy w A2 N)
 (A:Option Addr) (c:Nat) (V:List Sl) (hL:V.length=L) (hL2:L<=1000) (hV:ou w A V) (hval:∀r∈V,zc r.P=0) (hd:CQ w) (hr:Gc [] n N (V.map Sl.P)≠ .error 0):
 Calls Tryz.prog 68 #[.slice none 0 0,ndV n,.slice A2 n2 c2,.slice A L c] w (OB w (Gc [] n N (V.map Sl.P))):=by
 have hpos:∀r∈V,0<r.P.length:=λr h=>(zH.1 (hval r h)).2.pos;rcases hsh with (h|h)|⟨h5,h6',h1,ho⟩|⟨h5,h6',h2⟩
 ·have e:Gc [] n N (V.map Sl.P)=z6 (Wk.setE (V.map Sl.P)) (setV (V.map Sl.P)):=by
   unfold Gc;rw [if_neg (by omega),if_pos h]
  rw [e] at hr ⊢;exact UK n (.inl h) _ _ _ hr w (λw' hb=>by rw [h];exact zis A L c V _ w' hL.symm hL2 (hV.keep hb) (hd.keep hb))
 ·have e:Gc [] n N (V.map Sl.P)=z6 (oC N (V.map Sl.P)) (Ki N (V.map Sl.P)):=by
   unfold Gc;rw [if_pos h]
  rw [e] at hr ⊢;exact UK n (.inr h) _ _ _ hr w (λw' hb=>by rw [h];exact ziC A2 n2 c2 N A L c V w' hn hn2 (hT.keep hb) hz hL.symm hL2 (hV.keep hb) (hd.keep hb))
 ·subst h1
  match V,hL with
  | [r],_ =>
   have e:Gc [] n N ([r].map Sl.P)=jv [] n r.P:=by
    unfold Gc;rw [if_neg h6',if_neg h5];rfl
   rw [e] at hr ⊢
   obtain⟨a,rfl,ha,Gy⟩:=hV 0 r rfl
   rw [show a.add 0=a from rfl] at ha
   exact zgT n h5 h6' _ a c r.A r.n r.c _ hr w ha (block_lt_of_cell ha) (λw' hb hb2=>Z' (zeK hb2 (hd.keep hb)) n ho hs r.A r.n r.c r.P (Gy.keep hb) (hpos r (by simp)))
 ·subst h2
  match V,hL with
  | [r,q],_ =>
   have e:Gc [] n N ([r,q].map Sl.P)=jO [] n.op r.P q.P:=by
    unfold Gc;rw [if_neg h6',if_neg h5];rfl
   rw [e] at hr ⊢
   obtain⟨a,rfl,ha,Gy⟩:=hV 0 r rfl
   obtain⟨a',ea,hb',hns'⟩:=hV 1 q rfl
   injection ea with ea
   subst ea
   rw [show a.add 0=a from rfl] at ha
   exact zgb n h5 h6' _ a c r.A r.n r.c q.A q.n q.c _ hr w ha hb' (block_lt_of_cell ha) (λw' hb hb2=>Z6 (zeK hb2 (hd.keep hb)) n.op r.A q.A r.n q.n r.c q.c r.P q.P (Gy.keep hb) (hpos r (by simp)) (hns'.keep hb) (hpos q (by simp)) (hval q (by simp)))
end Go.Proofs.YtokiogmfgpidmaaGreatDoor
