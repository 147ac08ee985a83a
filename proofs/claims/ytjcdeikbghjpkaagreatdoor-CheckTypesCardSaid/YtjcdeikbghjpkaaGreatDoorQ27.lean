/-
  Entities in a row of the call's own: their cells. What is known, as the document lists it: facts in a row of the call's own: their cells. Rows of facts of the ..
-/
import Derived.Laws.AppendOwnNone
import Derived.Deep.RegionHeld3
import Derived.Deep.RegionLawGrows
import Derived.Test.YtjcdeikbghjpkaaGreatDoorQ2
import Derived.Test.YtjcdeikbghjpkaaGreatDoorQ3
import Derived.Test.YtjcdeikbghjpkaaGreatDoorQ5
import Derived.Test.YtjcdeikbghjpkaaGreatDoorQ9
import Derived.Test.YtjcdeikbghjpkaaGreatDoorQ17
import Derived.Test.YtjcdeikbghjpkaaGreatDoorQ18
import Derived.Test.YtjcdeikbghjpkaaGreatDoorQ19
import Derived.Test.YtjcdeikbghjpkaaGreatDoorQ22
import Derived.Test.YtjcdeikbghjpkaaGreatDoorQ26
set_option maxRecDepth 100000
set_option maxHeartbeats 8000000
namespace Go.Proofs.YtjcdeikbghjpkaaGreatDoor
open Go.RowKit Go.Wk
def zdP:List En→List Value
 | [] => []
 | x :: E => .string x.u.1 :: .string x.u.2 :: .slice x.UA x.un x.uc :: .slice x.NA x.nn x.nc :: zdP E
@[simp] theorem enCells_length (E:List En):(zdP E).length=E.length*4:=by
 induction E with
 | nil=>rfl
 | cons x E ih=>simp only [zdP,List.length_cons,ih];omega
theorem enCells_append(U V:List En):zdP (U ++ V)=zdP U ++ zdP V:=by
 induction U with
 | nil=>rfl
 | cons u U ih=>simp only [List.cons_append,zdP,ih]
theorem zqK(a:Addr)(x d:Nat)(hd:0<d):(⟨(a.add x).block,(a.add x).off+d,none⟩:Addr)=a.add (x+d):=by
 unfold Addr.add;by_cases hx:x=0
 ·subst hx;simp;omega
 ·simp [hx,Nat.add_assoc]
structure Ft where
 P:List Nd
 s:ByteArray
 A:Option Addr
 n:Nat
 c:Nat
structure zhi(w:World)(x:Ft):Prop where
 ns:Ns w x.A x.n x.c x.P
 s:x.s.size≤maxLen
theorem zhi.keep{w w':World}{x:Ft}(h:zhi w x)(hb:Below w.heap.size w w'):zhi w' x:=⟨h.ns.keep hb,h.s⟩
def zf9(w:World)(A:Option Addr)(L:List Ft):Prop:=∀(k:Nat) (x:Ft),L[k]?=some x→∃a,A=some a∧w.cell? (a.add (k*2))=some (.slice x.A x.n x.c)∧w.cell? ⟨(a.add (k*2)).block,(a.add (k*2)).off+1,none⟩=some (.string x.s)∧zhi w x
theorem zf9.keep{w w':World}{A:Option Addr}{L:List Ft}(h:zf9 w A L)(hb:Below w.heap.size w w'):zf9 w' A L :=
 fun k x hk=>let ⟨a,h1,h2,h3,h4⟩:=h k x hk;⟨a,h1,zb hb h2,zb hb h3,h4.keep hb⟩
structure Fts(w:World)(A:Option Addr)(n c:Nat)(L:List Ft):Prop where
 len:n=L.length
 cap:n≤c
 max:n≤maxLen
 at_:zf9 w A L
theorem Fts.keep{w w':World}{A:Option Addr}{n c:Nat}{L:List Ft}(h:Fts w A n c L)(hb:Below w.heap.size w w'):Fts w' A n c L:=⟨h.len,h.cap,h.max,h.at_.keep hb⟩
def ftK(L:List Ft):zy:=L.map fun x=>(x.P,x.s)
def jW:List Ft→List Value
 | [] => []
 | x :: E => .slice x.A x.n x.c :: .string x.s :: jW E
@[simp] theorem zcy (E:List Ft):(jW E).length=E.length*2:=by
 induction E with
 | nil=>rfl
 | cons x E ih=>simp only [jW,List.length_cons,ih];omega
theorem ziL(U V:List Ft):jW (U ++ V)=jW U ++ jW V:=by
 induction U with
 | nil=>rfl
 | cons u U ih=>simp only [List.cons_append,jW,ih]
theorem zgX(E:List Ft):∀v∈jW E,v.oneCell'=true:=by
 induction E with
 | nil=>intro v hv;cases hv
 | cons u U ih =>
  intro v hv
  simp only [jW,List.mem_cons] at hv
  rcases hv with rfl|rfl|hv
  ·rfl
  ·rfl
  ·exact ih v hv
theorem ze6:∀(E:List Ft) (k:Nat) (x:Ft),E[k]?=some x→(jW E)[k*2]?=some (.slice x.A x.n x.c)∧(jW E)[k*2+1]?=some (.string x.s)
 | [],k,x,h=>by simp at h
 | y :: E,0,x,h=>by
  simp at h;subst h;exact⟨rfl,rfl⟩
 | y :: E,k+1,x,h=>by
  have:=ze6 E k x (by simpa using h);rw [show(k+1)*2=k*2+1+1 by omega];simpa [jW] using this
theorem zf9.cells{w:World}{a:Addr}{E:List Ft}(h:zf9 w (some a) E):∀j u,(jW E)[j]?=some u→w.cell? (a.add j)=some u:=by
 intro j u hu;have hl:=zcy E;have hj:j<(jW E).length:=(List.getElem?_eq_some_iff.1 hu).1;have hk:j / 2<E.length:=by omega
 obtain⟨h1,h2⟩:=ze6 E (j / 2) E[j / 2] (List.getElem?_eq_getElem hk);obtain⟨b,e,q1,q2,-⟩:=h (j / 2) E[j / 2] (List.getElem?_eq_getElem hk);injection e with e;subst e;have hr:j % 2=0∨j % 2=1:=by omega
 rcases hr with hr|hr
 ·have e:j=j / 2*2:=by omega
  rw [←e] at h1 q1;rw [hu] at h1;rw [h1];exact q1
 ·have e:j=j / 2*2+1:=by omega
  rw [zqK _ _ _ (by omega),←e] at q2;rw [←e] at h2;rw [hu] at h2;rw [h2];exact q2
theorem zku{w:World}{a:Addr}{E:List Ft}(h:∀j u,(jW E)[j]?=some u→w.cell? (a.add j)=some u)(hE:∀x∈E,zhi w x):zf9 w (some a) E:=by
 intro k x hx;obtain⟨h1,h2⟩:=ze6 E k x hx;refine⟨a,rfl,h _ _ h1,?_,hE x (List.mem_of_getElem? hx)⟩;rw [zqK _ _ _ (by omega)];exact h _ _ h2
theorem zqd:(Tryz.prog.info? 111).map (fun i=>(i.zero,i.size,i.bytes))=some (some (.agg #[.slice none 0 0,.string ⟨#[]⟩]),2,40):=by kernel_rfl
theorem zmH{w:World}{B n:Nat}{v:Value}{E:List Ft}(h:w.ownsRow B 111 2 v n (jW E))(hn:n=E.length)(hE:∀x∈E,zhi w x)(hl:n≤maxLen):∃A c,v = .slice A n c∧Fts w A n c E:=by
 rcases h.2 with ⟨rfl,h0⟩|⟨g,cap,cur,rfl,hB,_,hc,_⟩
 ·have:E = []:=List.eq_nil_of_length_eq_zero (by omega);subst this;subst h0;exact⟨none,0,rfl,rfl,Nat.le_refl _,Nat.zero_le _,fun k x hx=>by simp at hx⟩
 ·exact⟨some ⟨g,0,none⟩,cap,rfl,hn,hc,hl,zku (h.cells (g:=g) rfl) hE⟩
def FR(w:World)(B:Nat)(v:Value)(U:List Ft):Prop:=(U = []∧∃g:Addr,v = .slice (some g) 0 0)∨w.ownsRow B 111 2 v U.length (jW U)
theorem FR.emp(w:World)(B:Nat)(g:Addr):FR w B (.slice (some g) 0 0) [] := .inl ⟨rfl,g,rfl⟩
theorem FR.keep{w w':World}{B:Nat}{v:Value}{U:List Ft}(h:FR w B v U)(hb:Below w.heap.size w w'):FR w' B v U :=
 h.imp id fun h=>h.kept (zc hb none) (by cases hv:v.ownBlock <;> simp)
theorem FR.mono{w:World}{B B':Nat}{v:Value}{U:List Ft}(h:FR w B v U)(hb:B'≤B):FR w B' v U :=
 h.imp id fun h=>⟨h.1,h.2.imp id fun⟨g,cap,cur,h1,h2,h3⟩=>⟨g,cap,cur,h1,Nat.le_trans hb h2,h3⟩⟩
theorem FR.fts{w:World}{B:Nat}{v:Value}{U:List Ft}(h:FR w B v U)(hE:∀x∈U,zhi w x)(hl:U.length≤maxLen):∃A n c,v = .slice A n c∧Fts w A n c U∧(A=none→n=0∧c=0):=by
 rcases h with ⟨rfl,g,rfl⟩|h
 ·exact⟨some g,0,0,rfl,⟨rfl,Nat.le_refl _,Nat.zero_le _,fun k x hx=>by simp at hx⟩,fun e=>by cases e⟩
 ·obtain⟨A,c,rfl,hF⟩:=zmH h rfl hE hl;refine⟨A,_,c,rfl,hF,fun e=>?_⟩;subst e;rcases h.2 with ⟨e,h0⟩|⟨g,cap,cur,e,_⟩
  ·injection e with e1 e2 e3;exact⟨h0,e3⟩
  ·injection e with e1;cases e1
theorem zbn{n:Nat}{w0 w:World}(_:Hid (Below n w0 w))(o:Obj):Below w.heap.size w (w.alloc o):=za w o
theorem bhA{w0 w:World}(h:Hid (Below w0.heap.size w0 w))(o:Obj):Hid (Below w0.heap.size w0 (w.alloc o)):=hi9 (h.out.alloc h.out.size o)
theorem zbJ{ops:Array Oper}{o:Oper}{a:Act}{w:World}{K:Act→World→Prop}{Q:Exit→Act→World→Prop}{E':Prop}(hgd:o.guard=none)(s x:Operand)
 (ho:o.op = .call { callee := .builtin .append,args:=#[s,x],argTypes:=#[66,66] })
 (B:Nat) (g:Addr) (A:Option Addr) (m c:Nat) (L:List Ft) (hs:a.eval s = .slice (some g) 0 0) (hx:a.eval x = .slice A m c) (hE:Fts w A m c L) (hnil:A=none→m=0∧c=0) (hsz:m*40≤140737488351232) (hB:B≤w.heap.size)
 (h:∀v' w',FR w' B v' L→Below w.heap.size w w'→K (a.put o.dst v') w'):if Region.wanted o (yielded ops a.tmps)=true then Oper.wp Tryz.prog o a w K Q else E':=by
 have hw:Region.wanted o (yielded ops a.tmps)=true:=by simp [Region.wanted,hgd]
 obtain⟨i0,hi,hz0,hz1,hz2⟩:=info_parts zqd;have hl:=hE.len;by_cases hm:m=0
 ·subst hm;have:L = []:=List.eq_nil_of_length_eq_zero hl.symm;subst this;rw [if_pos hw];rcases A with _|ad
  ·obtain⟨-,rfl⟩:=hnil rfl;have hrun:(Builtin.append_ #[66,66] o.type #[.slice (some g) 0 0,.slice none 0 0]).run Tryz.prog w = .ok (.slice (some g) 0 0) w:=by
    simp [Builtin.append_,run_underlying Tryz.underlying66,sizeOf,typeInfo,hi,Builtin.lenOf,Builtin.firstCells,storeCells]
   unfold Oper.wp;simp [execOp,ho,resolve,invoke,builtin,hs,hx,hrun,Result.andThen];exact h _ w (FR.emp w B g) (Below.refl _ _)
  ·have hrun:(Builtin.append_ #[66,66] o.type #[.slice (some g) 0 0,.slice (some ad) 0 c]).run Tryz.prog w = .ok (.slice (some g) 0 0) w:=by
    simp [Builtin.append_,run_underlying Tryz.underlying66,sizeOf,typeInfo,hi,Builtin.lenOf,Builtin.firstCells,loadCells,loadCellsFrom,storeCells]
   unfold Oper.wp
   simp [execOp,ho,resolve,invoke,builtin,hs,hx,hrun,Result.andThen]
   exact h _ w (FR.emp w B g) (Below.refl _ _)
 ·rcases A with _|ad
  ·exact absurd (hnil rfl).1 hm
  ·refine step_append_grows hgd s x 66 ho 111 i0 _ 2 40 Tryz.underlying66 hi hz0 hz1 hz2 rfl (by decide) (some g) 0 0 [] hs (fun e=>by cases e) rfl (fun b _ j u hj=>by simp at hj) ad m c (jW L) hx (by rw [zcy,hl]) (zf9.cells hE.at_) (zgX L) (by omega) ?_ ?_ ?_
   ·unfold maxLen;omega
   ·omega
   ·intro v' w' h1 h2;refine h v' w' ?_ ((Below.refl w.heap.size w).grown h2 (Nat.le_refl _) (fun g hg=>by cases hg));rw [Nat.zero_add,hl] at h1;exact FR.mono (.inr h1) hB
theorem zkN{ops:Array Oper}{o:Oper}{a:Act}{w:World}{K:Act→World→Prop}{Q:Exit→Act→World→Prop}{E':Prop}(hgd:o.guard=none)(s x:Operand)
 (ho:o.op = .call { callee := .builtin .append,args:=#[s,x],argTypes:=#[66,66] })
 (B:Nat) (v:Value) (U:List Ft) (A:Option Addr) (m c:Nat) (L:List Ft) (hs:a.eval s=v) (hx:a.eval x = .slice A m c) (hown:FR w B v U) (hE:Fts w A m c L) (hnil:A=none→m=0∧c=0) (hsz:(U.length+m)*40≤140737488351232) (hB:B≤w.heap.size)
 (h:∀v' w',FR w' B v' (U ++ L)→Below B w w'→K (a.put o.dst v') w'):if Region.wanted o (yielded ops a.tmps)=true then Oper.wp Tryz.prog o a w K Q else E':=by
 rcases hown with ⟨rfl,g,rfl⟩|hown
 ·exact zbJ hgd s x ho B g A m c L hs hx hE hnil (by simpa using hsz) hB fun v' w' h1 h2=>h v' w' h1 (h2.mono hB)
 have hw:Region.wanted o (yielded ops a.tmps)=true:=by simp [Region.wanted,hgd]
 rw [if_pos hw];obtain⟨i0,hi,hz0,hz1,hz2⟩:=info_parts zqd;have hl:=hE.len;rcases A with _|ad
 ·obtain⟨rfl,rfl⟩:=hnil rfl;have:L = []:=List.eq_nil_of_length_eq_zero hl.symm;subst this;have hrun:=run_append_owned_none (P:=Tryz.prog) (w:=w) B 66 o.type _ i0 2 Tryz.underlying66 hi v U.length _ hown;unfold Oper.wp;simp [execOp,ho,resolve,invoke,builtin,hs,hx,hrun,Result.andThen];exact h v w (by rw [List.append_nil];exact .inr hown) (Below.refl _ _)
 ·refine wp_append_own w s x _ ho B 111 i0 _ 2 40 Tryz.underlying66 hi hz0 hz1 hz2 rfl (by decide) v U.length (jW U) hs hown ad m c (jW L) hx (by rw [zcy,hl]) (zf9.cells hE.at_) (zgX L) ?_ ?_ hB ?_
  ·unfold maxLen;omega
  ·omega
  ·intro v' w' h1 h2 _;refine h v' w' (.inr ?_) ((Below.refl B w).grown h2 hB (zD hown));rw [ziL,List.length_append,←hl];exact h1
end Go.Proofs.YtjcdeikbghjpkaaGreatDoor
namespace Go.Proofs.YtjcdeikbghjpkaaGreatDoor
open Go.RowKit Go.Wk Go.Sort
theorem jU(w:World):Below w.heap.size w w.drew:=⟨rfl,rfl,rfl,Nat.le_refl _,fun _ _=>rfl⟩
theorem zj2(a:Addr):a.add 0=a:=rfl
def ztq(W w:World)(x:Ex)(e:Ending)(w':World):Prop:=∃A n c L,e = .returned (.slice A n c)∧Fts w' A n c L∧(∀y∈L,zhi W y)∧ftK L=zeO x∧L.length≤x.flat.length∧(A=none→n=0∧c=0)∧Below w.heap.size w w'
theorem zlh(w:World):Fts w none 0 0 []:=⟨rfl,Nat.le_refl _,Nat.zero_le _,fun k x hx=>by simp at hx⟩
theorem zbr{w:World}{A:Option Addr}{n c m:Nat}{L:List Ft}(F:Fts w A n c L)(l:L.length≤m)(h:m≤8000):n*40≤140737488351232:=by
 have:=F.len;omega
theorem zbj{w:World}{A:Option Addr}{n c m k:Nat}{L M:List Ft}(F:Fts w A n c L)(l:L.length≤m)(lM:M.length≤k)(h:m≤8000)(hk:k≤8000):(M.length+n)*40≤140737488351232:=by
 have:=F.len;omega
theorem zfe(W:World)(A:Option Addr)(n c:Nat)(P:List Nd)(hn:n≤4000)(hW:Ns W A n c P):∀(N:Nat) (x:Ex) (p:Nat) (w:World),Below W.heap.size W w→XAt P p false x→x.flat.length≤N→
 Calls Tryz.prog 29 #[.slice A n c,.int .i64 p] w (ztq W w x)
 | 0,x,p,w,_,_,hl=>absurd (zZ x) (by omega)
 | N+1,x,p,w,hbW,hx,hl=>by
  have IH:=hi9 (zfe W A n c P hn hW N);have h:=hW.keep hbW;have HBW:=hi9 hbW;have HNW:=hi9 hW;have KP:=hi9 (fun w' (hb:Below w.heap.size w w')=>zlT A n c P p false x w' (h.keep hb) hn hx);obtain⟨a,rfl,d0,d1,d2,d3⟩:=h.at_ p _ hx.head;have HLn:=hi9 h.len;have hpn:p<n:=by rw [h.len];exact(List.getElem?_eq_some_iff.1 hx.head).1
  have HX:=hi9 hx;have HN:=hi9 h;have HL:=hi9 hl;have Hn:=hi9 hn;obtain⟨y,ps⟩:=x;simp only [Ex.head,Ex.parts] at d0 d1 d2 d3 KP;clear h hx hl hn hbW hW;by_cases h21:y.op=21
  ·rw [h21] at d0;obtain⟨a0,hps,hx0,hl0⟩:=HX.out.one (by unfold zp;simp [h21]) (by unfold zA;simp [h21]);have hrec:zA y=false:=by unfold zA;simp [h21]
   have hle:=hx0.le;rw [←HLn.out] at hle;have hcap:=HN.out.cap;have HSG:=hi9 (fun w' (hb:Below W.heap.size W w')=>show Ns w' (some (a.add ((p+1)*4))) a0.flat.length (c-(p+1)) a0.flat by
    have h0:=zgw (HNW.out.keep hb) (i:=p+1) (j:=p+1+a0.flat.length) (by omega) hle
    rw [hx0.seg,show p+1+a0.flat.length-(p+1)=a0.flat.length by omega] at h0
    exact h0)
   have HBL:=hi9 (show zeO (.node y ps)= [(a0.flat,y.s)] by rw [hps];unfold zeO;rw [if_pos h21];rfl);have hys:y.s.size≤maxLen:=(HN.out.ok y (List.mem_of_getElem? HX.out.head)).s;rw [hps,hrec] at KP;simp only [Exs.len,zaK] at KP;have hp0:=zZ a0;clear hx0 hl0 hps h21 hrec IH HL HX;generalize a0.flat=Q at *;obtain⟨q,hq⟩:∃q,q=Q.length:=⟨_,rfl⟩
   rw [←hq] at hle KP hp0;have HQ:=hi9 hq;clear hq;have b0:=hi9 (za w (.cells #[.int .i64 21,.int .i64 y.n,.string y.s,.string y.t] 41));have vn:=zbe w (.int .i64 21) (.int .i64 y.n) (.string y.s) (.string y.t) 41;go_enter Tryz.func29,Tryz.ntmps29;go_wp2_with fail;refine(KP.out _ b0.out).mono ?_;rintro e w1 ⟨A',c',rfl,hc,hI,b1⟩;have B1:=bh b0 b1;obtain⟨a1,rfl,i0⟩:=hI 0 (p+1) rfl;obtain⟨a2,e2,i1⟩:=hI 1 (p+1+q) rfl;injection e2 with e2;subst e2;have h2:0+1+1≤c':=hc;obtain⟨y0,y1,y2,y3,-,-,-,-⟩:=vn.keep b1;clear b1 KP b0 hI vn hc d0 d1 d2 d3 hpn;obtain⟨s0,hs0⟩:∃s0,s0=p+1:=⟨_,rfl⟩
   obtain⟨e0,he0⟩:∃e0,e0=s0+q:=⟨_,rfl⟩
   rw [←hs0,←he0] at i1;rw [←hs0,zj2] at i0;rw [←hs0,←he0] at hle;rw [←hs0] at HSG;have g1:s0≤e0:=by omega
   have g2:e0≤c:=Nat.le_trans hle hcap;have g3:¬c=s0:=by omega
   have HE:=hi9 (show e0-s0=q by omega);clear hs0 he0 hle hcap hp0;have x0:=zb (jU w1) i0;have x1:w1.drew.cell? ⟨a1.block,a1.off+1,none⟩=some (.int .i64 ((e0:Nat):Int)):=zb (jU w1) i1;have x2:=zb (jU w1) y2;have z0:=zb (jU _) (zb (za w1 (.cells #[.slice (some (a.add (s0*4))) (e0-s0) (c-s0),.string y.s] 111)) i0);have z1:(w1.alloc (.cells #[.slice (some (a.add (s0*4))) (e0-s0) (c-s0),.string y.s] 111)).drew.cell? ⟨a1.block,a1.off+1,none⟩=some (.int .i64 ((e0:Nat):Int)):=zb (jU _) (zb (za w1 (.cells #[.slice (some (a.add (s0*4))) (e0-s0) (c-s0),.string y.s] 111)) i1);have z2:=zb (jU _) (zb (za w1 (.cells #[.slice (some (a.add (s0*4))) (e0-s0) (c-s0),.string y.s] 111)) y2);have bx:=za w1 (.cells #[.slice (some (a.add (s0*4))) (e0-s0) (c-s0),.string y.s] 111);have B2:=bh B1 (bx.trans ((jU _).mono bx.size));clear bx;go_wp2_with fail;go_region_held3 (fun w':World=>w'.cell? a1=some (.int .i64 ((s0:Nat):Int))∧w'.cell? ⟨a1.block,a1.off+1,none⟩=some (.int .i64 ((e0:Nat):Int))∧w'.cell? ⟨w.heap.size,2,none⟩=some (.string y.s)) (first|(with_reducible exact⟨z0,z1,z2⟩)|(with_reducible exact⟨x0,x1,x2⟩)) (fail);go_wp2_with fail;go_ret;have hc0:=zb (jU _) (zx (heap_alloc_last w1 (.cells #[.slice (some (a.add (s0*4))) (e0-s0) (c-s0),.string y.s] 111)) (k:=0) rfl);have hc1:=zb (jU _) (zx (heap_alloc_last w1 (.cells #[.slice (some (a.add (s0*4))) (e0-s0) (c-s0),.string y.s] 111)) (k:=1) rfl);have hsW:=fun w' hb=>(show Ns w' (some (a.add (s0*4))) (e0-s0) (c-s0) Q by have h0:=HSG.out w' hb;rw [←HQ.out,←HE.out] at h0;exact h0)
   refine⟨_,_,_,[⟨Q,y.s,some (a.add (s0*4)),e0-s0,c-s0⟩],rfl,⟨rfl,Nat.le_refl _,by unfold maxLen;omega,fun k x hx=>?_⟩,fun x hx=>by simp only [List.mem_cons,List.not_mem_nil,or_false] at hx;subst hx;exact⟨hsW _ (Below.refl _ _),hys⟩,by rw [HBL.out];rfl,zZ _,fun e=>(by cases e),B2.out⟩
   match k,hx with
   | 0,hx =>
    injection hx with hx
    subst hx
    exact⟨_,rfl,hc0,hc1,hsW _ (bh HBW B2.out).out,hys⟩
  by_cases h11:y.op=11
  ·rw [h11] at d0;obtain⟨a0,a1,hps,hx0,hx1,hl0⟩:=HX.out.two (by unfold zp;simp [h11]) (by unfold zA;simp [h11]);have hrec:zA y=false:=by unfold zA;simp [h11]
   have HBL:=hi9 (show zeO (.node y ps)=zeO a0 ++ zeO a1 by rw [hps,zeO,if_neg h21,if_pos h11,zg1,zg1,zg1,List.append_nil]);have hle:=hx1.le;rw [←HLn.out] at hle;have hlN:=HL.out;have HLL:=hi9 hl0;have hnn:=Hn.out;have HB0:=hi9 (show a0.flat.length≤8000 by have:=HN.out.len;omega);have HB1:=hi9 (show a1.flat.length≤8000 by have:=HN.out.len;omega);have IH0:=hi9 (fun w' (hb:Below w.heap.size w w')=>IH.out a0 (p+1) w' (bh HBW hb).out hx0 (by omega));have IH1:=hi9 (fun w' (hb:Below w.heap.size w w')=>IH.out a1 (p+1+a0.flat.length) w' (bh HBW hb).out hx1 (by omega));rw [hps,hrec] at KP;simp only [Exs.len,zaK] at KP;clear hx0 hx1 hl0 hps h21 hrec IH HL HX hlN;have b0:=hi9 (za w (.cells #[.int .i64 11,.int .i64 y.n,.string y.s,.string y.t] 41));have vn:=zbe w (.int .i64 11) (.int .i64 y.n) (.string y.s) (.string y.t) 41;go_enter Tryz.func29,Tryz.ntmps29;go_wp2_with fail;refine(KP.out _ b0.out).mono ?_;rintro e w1 ⟨A',c',rfl,hc,hI,b1⟩;have B1:=bh b0 b1;obtain⟨q1,rfl,i0⟩:=hI 0 (p+1) rfl;obtain⟨q2,e2,i1⟩:=hI 1 (p+1+a0.flat.length) rfl;injection e2 with e2;subst e2;have h2:0+1+1+1≤c':=hc;obtain⟨y0,y1,y2,y3,-,-,-,-⟩:=vn.keep b1;clear b1 KP b0 hI vn hc d0 d1 d2 d3;obtain⟨s0,hs0⟩:∃s0,s0=p+1:=⟨_,rfl⟩
   obtain⟨s1,hs1⟩:∃s1,s1=p+1+a0.flat.length:=⟨_,rfl⟩
   rw [←hs1] at i1 IH1;rw [←hs0] at i0 IH0;rw [zj2] at i0;have KK:∀w':World,Below w1.heap.size w1 w'→w'.cell? q1=some (.int .i64 ((s0:Nat):Int))∧w'.cell? ⟨q1.block,q1.off+1,none⟩=some (.int .i64 ((s1:Nat):Int)):=fun w' hb=>⟨zb hb i0,zb hb i1⟩
   have I0:=hi9 (fun w' (hb:Below w1.heap.size w1 w')=>IH0.out w' (bh B1 hb).out);have I1:=hi9 (fun w' (hb:Below w1.heap.size w1 w')=>IH1.out w' (bh B1 hb).out);have PX:=hi9 (jU w1);have PY:=hi9 (show Below w1.heap.size w1 (w1.alloc (.cells #[] 111)).drew from(za w1 _).trans ((jU _).mono (za w1 _).size));have hc0:(0:Int)<((0+1+1+1:Nat):Int):=by decide
   have hc1:(1:Int)<((0+1+1+1:Nat):Int):=by decide
   clear IH0 IH1 hs0 hs1;go_wp2_with fail;go_region_held3 (fun w':World=>w'.cell? q1=some (.int .i64 ((s0:Nat):Int))∧w'.cell? ⟨q1.block,q1.off+1,none⟩=some (.int .i64 ((s1:Nat):Int))) (first|(with_reducible exact KK _ PX.out)|(with_reducible exact KK _ (bhA PX (.cells #[] 111)).out)|(with_reducible exact KK _ PY.out)) (first
    |(go_at_call 29;(with_reducible refine(I0.out _ PX.out).mono ?_);rintro e w5 ⟨A5,n5,c5,L5,rfl,F5,W5,K5,l5,z5,b5⟩;have hs5:=zbr F5 l5 HB0.out;have PX:=bh PX b5;(try have F9:=F9.keep b5))
    |(go_at_call 29;(with_reducible refine(I0.out _ (bhA PX (.cells #[] 111)).out).mono ?_);rintro e w5 ⟨A5,n5,c5,L5,rfl,F5,W5,K5,l5,z5,b5⟩;have hs5:=zbr F5 l5 HB0.out;(try have F9:=(F9.keep (zbn PX (.cells #[] 111))).keep b5);have PX:=bh (bhA PX (.cells #[] 111)) b5)
    |(go_at_call 29;(with_reducible refine(I0.out _ PY.out).mono ?_);rintro e w5 ⟨A5,n5,c5,L5,rfl,F5,W5,K5,l5,z5,b5⟩;have hs5:=zbr F5 l5 HB0.out;have PX:=bh PY b5)
    |(go_at_call 29;(with_reducible refine(I1.out _ PX.out).mono ?_);rintro e w9 ⟨A9,n9,c9,L9,rfl,F9,W9,K9,l9,z9,b9⟩;have hs9:=zbr F9 l9 HB1.out;have PX:=bh PX b9;(try have F5:=F5.keep b9);(try have O6:=O6.keep b9))
    |(go_at_call 29;(with_reducible refine(I1.out _ (bhA PX (.cells #[] 111)).out).mono ?_);rintro e w9 ⟨A9,n9,c9,L9,rfl,F9,W9,K9,l9,z9,b9⟩;have hs9:=zbr F9 l9 HB1.out;(try have F5:=(F5.keep (zbn PX (.cells #[] 111))).keep b9);(try have O6:=(O6.keep (zbn PX (.cells #[] 111))).keep b9);have PX:=bh (bhA PX (.cells #[] 111)) b9)
    |(go_at_call 29;(with_reducible refine(I1.out _ PY.out).mono ?_);rintro e w9 ⟨A9,n9,c9,L9,rfl,F9,W9,K9,l9,z9,b9⟩;have hs9:=zbr F9 l9 HB1.out;have PX:=bh PY b9)
    |((with_reducible refine zkN rfl (.tmp 38) (.tmp 43) ?_ w1.heap.size _ L5 A9 n9 c9 L9 ?_ ?_ O6 F9 z9 (zbj F9 l9 l5 HB1.out HB0.out) PX.out.size ?_);(all_goals try rfl);intro v12 w12 O12 b12;have PX:=hi9 (PX.out.trans b12))
    |((with_reducible refine zbJ rfl (.tmp 32) (.tmp 37) ?_ w1.heap.size ?_ A5 n5 c5 L5 ?_ ?_ F5 z5 hs5 PX.out.size ?_);(all_goals try rfl);intro v6 w6 O6 b6;(try have F9:=F9.keep b6);have PX:=bh PX b6)
    |((with_reducible refine zbJ rfl (.tmp 32) (.tmp 37) ?_ w1.heap.size ?_ A5 n5 c5 L5 ?_ ?_ (F5.keep (zbn PX (.cells #[] 111))) z5 hs5 (bhA PX (.cells #[] 111)).out.size ?_);(all_goals try rfl);intro v6 w6 O6 b6;(try have F9:=(F9.keep (zbn PX (.cells #[] 111))).keep b6);have PX:=bh (bhA PX (.cells #[] 111)) b6)
    | fail)
   all_goals
    have B12:=bh B1 PX.out;have hW12:∀y∈L5 ++ L9,zhi W y:=fun y hy=>(List.mem_append.1 hy).elim (W5 y) (W9 y);have h0:=HLL.out;obtain⟨A,n',c'',rfl,hF,hz⟩:=O12.fts (fun y hy=>(hW12 y hy).keep (bh HBW B12.out).out) (by have:=HB0.out;have:=HB1.out;rw [List.length_append];unfold maxLen;omega);go_wp2_with fail;go_ret;exact⟨A,n',c'',L5 ++ L9,rfl,hF,hW12,by rw [HBL.out,←K5,←K9];unfold ftK;rw [List.map_append],by rw [List.length_append];omega,hz,B12.out⟩
  ·have f1:(y.op==21)=false:=beq_eq_false_iff_ne.2 h21;have f2:(y.op==11)=false:=beq_eq_false_iff_ne.2 h11;have HBL:=hi9 (show zeO (.node y ps)= [] by unfold zeO;rw [if_neg h21,if_neg h11]);have b0:=hi9 (za w (.cells #[.int .i64 y.op,.int .i64 y.n,.string y.s,.string y.t] 41));have vn:=zbe w (.int .i64 y.op) (.int .i64 y.n) (.string y.s) (.string y.t) 41;clear IH HL HX;go_enter Tryz.func29,Tryz.ntmps29;go_wp2_with fail;refine(KP.out _ b0.out).mono ?_;rintro e w1 ⟨A',c',rfl,-,-,b1⟩;have B1:=bh b0 b1;obtain⟨y0,y1,y2,y3,-,-,-,-⟩:=vn.keep b1;clear b1 KP b0 vn d0 d1 d2 d3;go_wp2_with fail;go_ret;exact⟨none,0,0,[],rfl,zlh w1,fun _ h=>(by cases h),by rw [HBL.out];rfl,Nat.zero_le _,fun _=>⟨rfl,rfl⟩,B1.out⟩
theorem zbC{w:World}{B:Nat→Prop}{k:Kd}{v:List Value}(h:KAt w B k v):∃(o n:Int) (s t:ByteArray) (p:Option Addr) (A:Option Addr) (m c:Nat),v = [.int .i64 o,.int .i64 n,.string s,.string t,.pointer p,.slice A m c]:=by
 cases k with
 | base x=>obtain⟨_,rfl⟩:=h;exact⟨_,_,_,_,_,_,_,_,rfl⟩
 | ent s=>obtain⟨_,rfl⟩:=h;exact⟨_,_,_,_,_,_,_,_,rfl⟩
 | set q=>obtain⟨_,_,_,rfl,_⟩:=h;exact⟨_,_,_,_,_,_,_,_,rfl⟩
 | fs f=>obtain⟨_,_,_,rfl,_⟩:=h;exact⟨_,_,_,_,_,_,_,_,rfl⟩
structure zsm(w:World)(B:Nat→Prop)(a:Addr)(y:Kfd):Prop where
 b:B a.block
 r:∃u,ziS w a (.string y.1 :: .bool y.2.1 :: u)∧KAt w B y.2.2 u
theorem FAt.at{w:World}{B:Nat→Prop}{A:Option Addr}{f:Fl}:∀ {i0:Nat},FAt w B A i0 f→∀(i:Nat) (y:Kfd),f.list[i]?=some y→∃a,A=some a∧zsm w B (a.add ((i0+i)*8)) y:=by
 induction f using Fl.rec (motive_1:=fun _=>True) with
 | nil=>intro i0 _ i y h;simp [Fl.list] at h
 | cons s m k r _ ih =>
  intro i0 h i y hy
  obtain⟨⟨a,u,e,h1,h2,h3⟩,h4⟩:=h
  cases i with
  | zero =>
   simp only [Fl.list,List.getElem?_cons_zero,Option.some.injEq] at hy
   subst hy
   exact⟨a,e,by rw [jx];exact h1,u,h2,h3⟩
  | succ i =>
   obtain⟨b,e2,h5⟩:=ih h4 i y (by simpa [Fl.list] using hy)
   exact⟨b,e2,by rw [show i0+(i+1)=i0+1+i by omega];exact h5⟩
 | _=>trivial
theorem nxa(a:Addr)(x d:Nat)(hd:0<d):(⟨(a.add x).block,(a.add x).off+d,none⟩:Addr)=(a.add x).add d:=by
 unfold Addr.add;by_cases hx:x=0
 ·subst hx;simp;omega
 ·simp [hx];omega
theorem zsm.cells{w:World}{B:Nat→Prop}{a:Addr}{x:Nat}{y:Kfd}(h:zsm w B (a.add x) y):∃(o n:Int) (s0 t0:ByteArray) (p A:Option Addr) (m c:Nat),KAt w B y.2.2 [.int .i64 o,.int .i64 n,.string s0,.string t0,.pointer p,.slice A m c]∧
 w.cell? (a.add x)=some (.string y.1)∧w.cell? ⟨(a.add x).block,(a.add x).off+1,none⟩=some (.bool y.2.1)∧w.cell? ⟨(a.add x).block,(a.add x).off+2,none⟩=some (.int .i64 o)∧w.cell? ⟨(a.add x).block,(a.add x).off+3,none⟩=some (.int .i64 n)∧
 w.cell? ⟨(a.add x).block,(a.add x).off+4,none⟩=some (.string s0)∧w.cell? ⟨(a.add x).block,(a.add x).off+5,none⟩=some (.string t0)∧w.cell? ⟨(a.add x).block,(a.add x).off+6,none⟩=some (.pointer p)∧w.cell? ⟨(a.add x).block,(a.add x).off+7,none⟩=some (.slice A m c):=by
 obtain⟨-,u,hr,hk⟩:=h;obtain⟨o,n,s0,t0,p,A,m,c,rfl⟩:=zbC hk;refine⟨o,n,s0,t0,p,A,m,c,hk,?_,?_,?_,?_,?_,?_,?_,?_⟩
 ·have:=hr 0 _ rfl;rwa [show(a.add x).add 0=a.add x from rfl] at this
 all_goals rw [nxa _ _ _ (by omega)];exact hr _ _ rfl
theorem zmf(nm:ByteArray)(b:Bool)(o n:Int)(s0 t0:ByteArray)(p A:Option Addr)(m c:Nat)(s:ByteArray)(w:World):
 Calls Tryz.prog 134 #[.agg #[.string nm,.bool b,.int .i64 o,.int .i64 n,.string s0,.string t0,.pointer p,.slice A m c],.string s] w fun e w'=>e = .returned (.int .i64 (zO nm s))∧Below w.heap.size w w':=by
 have B0:=hi9 (za w (.cells #[.string nm,.bool b,.int .i64 o,.int .i64 n,.string s0,.string t0,.pointer p,.slice A m c] 207));go_enter Tryz.func134,Tryz.ntmps134;go_wp2_with fail;refine(strings_Compare nm s _).mono ?_;rintro e w1 ⟨rfl,rfl⟩;go_wp2_with fail;go_ret;exact⟨rfl,B0.out⟩
def zrG(w:World)(L:List Kfd)(s:ByteArray)(e:Ending)(w':World):Prop :=
 ∃(i:Nat) (h:Bool),e = .returned (.tuple #[.int .i64 i,.bool h])∧(h=true→∃hi:i<L.length,L[i].1=s)∧(h=false→∀y∈L,y.1≠s)∧Below w.heap.size w w'
theorem zlF(A:Option Addr)(n c:Nat)(f:Fl)(B:Nat→Prop)(s:ByteArray)(w:World)(hf:FAt w B A 0 f)(hn:n=f.list.length)(hl:n≤100000)(_:n≤c)(ha:f.asc)(hb:∀b,B b→b<w.heap.size):
 Calls Tryz.prog 133 #[.slice A n c,.string s,.func (.func 134) #[] #[]] w (zrG w f.list s):=by
 have eg:∀args w,(callFunc 134 args).run Tryz.prog w = .ok (.enter 134 args) w:=enters_of Tryz.func134 (by kernel_rfl) rfl;have HF:=hi9 (fun w' (h:Below w.heap.size w w')=>(hf.cong (w':=w') (fun b hB=>h.block b (hb b hB))).at);have HP:=hi9 (zfu ha);have HN:=hi9 hn;have HS:=hi9 (show zgB f.list s 0 n from hn ▸ zgB.start f.list s);clear hf hn ha hb;generalize f.list=L at *;go_enter Tryz.func133,Tryz.ntmps133;go_wp2_with fail;go_loopw [9,10] (fun i j wr=>∃lo hi:Nat,hi≤n∧i = .int .i64 lo∧j = .int .i64 hi∧lo≤hi∧Hid (zgB L s lo hi)∧Hid (Below w.heap.size w wr)) (fun i j _=>(intOf j).toNat-(intOf i).toNat)
 case atStart=>exact⟨0,n,Nat.le_refl _,rfl,rfl,Nat.zero_le _,HS,Below.refl _ _⟩
 case round =>
  clear HS;obtain⟨lo,hi,hhi,rfl,rfl,hle,hH,hB⟩:=hrel;by_cases hlt:lo<hi
  ·obtain⟨m,hmid,hm1,hm2⟩:∃m:Nat,((lo:Int)+(hi:Int))/ 2=(m:Int)∧lo≤m∧m<hi:=⟨(lo+hi)/ 2,by omega,by omega,by omega⟩
   have hmn:m<n:=by omega
   have hml:m<L.length:=by rw [←HN.out];exact hmn
   obtain⟨a,rfl,hfd⟩:=HF.out wr hB.out m _ (List.getElem?_eq_getElem hml);rw [Nat.zero_add] at hfd;have HUP:=hi9 (fun hc=>hH.out.up HP.out hm1 hm2 hml hc);have HDN:=hi9 (fun hc=>hH.out.down HP.out hm1 hm2 hml hc);generalize L[m]=y at *;obtain⟨o,nn,s0,t0,p,A',m',c',-,q0,q1,q2,q3,q4,q5,q6,q7⟩:=hfd.cells;have KC:=hi9 (zmf y.1 y.2.1 o nn s0 t0 p A' m' c' s wr);clear hfd;by_cases hc:zO y.1 s<0
   ·have H2:=hi9 (HUP.out hc);generalize zO y.1 s=cu at *;clear HUP HDN hH;go_wp2_with (go_at_fn 134;refine KC.out.mono ?_;rintro e w1 ⟨rfl,b1⟩);have B1:=bh hB b1;clear q0 q1 q2 q3 q4 q5 q6 q7 hB b1 KC;go_wp2_with fail;go_roundw
    case rel=>exact⟨m+1,hi,hhi,by go_num,rfl,by omega,H2,B1⟩
    case measure=>simp [intOf];omega
   ·have H2:=hi9 (HDN.out hc);generalize zO y.1 s=cu at *;clear HUP HDN hH;go_wp2_with (go_at_fn 134;refine KC.out.mono ?_;rintro e w1 ⟨rfl,b1⟩);have B1:=bh hB b1;clear q0 q1 q2 q3 q4 q5 q6 q7 hB b1 KC;go_wp2_with fail;go_roundw
    case rel=>exact⟨lo,m,by omega,rfl,rfl,by omega,H2,B1⟩
    case measure=>simp [intOf];omega
  ·obtain rfl:lo=hi:=by omega
   have HFD:=hi9 (hH.out.found HP.out);by_cases hln:lo<n
   ·have hml:lo<L.length:=by rw [←HN.out];exact hln
    obtain⟨a,rfl,hfd⟩:=HF.out wr hB.out lo _ (List.getElem?_eq_getElem hml);rw [Nat.zero_add] at hfd;obtain⟨y,hy⟩:∃y,y=L[lo]:=⟨_,rfl⟩
    have HY:=hi9 hy;rw [←hy] at hfd;clear hy;obtain⟨o,nn,s0,t0,p,A',m',c',-,q0,q1,q2,q3,q4,q5,q6,q7⟩:=hfd.cells;have KC:=hi9 (zmf y.1 y.2.1 o nn s0 t0 p A' m' c' s wr);clear hfd;go_wp2_with fail;refine KC.out.mono ?_;rintro e w1 ⟨rfl,b1⟩;have B1:=bh hB b1;clear q0 q1 q2 q3 q4 q5 q6 q7 b1 KC;by_cases hc:zO y.1 s=0
    ·have H2:=hi9 (show∃hi:lo<L.length,L[lo].1=s from⟨hml,by rw [←HY.out];exact(zt.zero _ _).1 hc⟩);rw [hc];clear hc;go_wp2_with fail;go_ret2;exact⟨lo,true,rfl,fun _=>H2.out,fun h=>(nomatch h),B1.out⟩
    ·have H2:=hi9 (HFD.out.2 (fun hl e=>hc (by rw [HY.out,e];exact zt.self s)));have h0:(zO y.1 s==0)=false:=by simpa using hc
     generalize zO y.1 s=cu at *;clear hc;go_wp2_with fail;go_ret2;exact⟨lo,false,rfl,fun h=>(nomatch h),fun _=>H2.out,B1.out⟩
   ·have HNO:=hi9 (HFD.out.2 (fun hl=>absurd (by rw [HN.out];exact hl) hln));go_wp2_with fail;go_ret2;exact⟨lo,false,rfl,fun h=>(nomatch h),fun _=>HNO.out,hB.out⟩
def zn2(w:World)(B:Nat→Prop)(f:Fl)(s:ByteArray)(e:Ending)(w':World):Prop :=
 Below w.heap.size w w'∧match f.find s with
 | none=>e = .returned (.tuple #[.agg #[.string ⟨#[]⟩,.bool false,.int .i64 0,.int .i64 0,.string ⟨#[]⟩,.string ⟨#[]⟩,.pointer none,.slice none 0 0],.bool false])
 | some (m,k)=>∃u:List Value,e = .returned (.tuple #[.agg (.string s :: .bool m :: u).toArray,.bool true])∧KAt w' B k u
theorem zka(A:Option Addr)(n c:Nat)(f:Fl)(B:Nat→Prop)(o nn:Int)(s0 t0:ByteArray)(p:Option Addr)(s:ByteArray)(w:World)(hf:FAt w B A 0 f)(hn:n=f.list.length)(hl:n≤100000)(hc:n≤c)(ha:f.asc)(hb:∀b,B b→b<w.heap.size):
 Calls Tryz.prog 119 #[.agg #[.int .i64 o,.int .i64 nn,.string s0,.string t0,.pointer p,.slice A n c],.string s] w (zn2 w B f s):=by
 have hmf:∀(fn:Fn) (first cap:Array Value) (w:World),(Instr.makeFunc fn first cap).run Tryz.prog w = .ok (.func fn first cap) w:=fun _ _ _ _=>rfl;have HS:=hi9 (fun w' (h:Below w.heap.size w w')=>zlF A n c f B s w' (hf.cong (fun b hB=>h.block b (hb b hB))) hn hl hc ha (fun b hB=>Nat.lt_of_lt_of_le (hb b hB) h.size));have HF:=hi9 (fun w' (h:Below w.heap.size w w')=>(hf.cong (w':=w') (fun b hB=>h.block b (hb b hB))).at);have HN:=hi9 hn;have HA:=hi9 ha;have HBB:=hi9 hb;clear hf hn ha hb;go_enter Tryz.func119,Tryz.ntmps119;have X1:=hi9 (jE w (.int .i64 o) (.int .i64 nn) (.string s0) (.string t0) (.pointer p) (.slice A n c) 149);have B1:=hi9 (za w (.cells #[.int .i64 o,.int .i64 nn,.string s0,.string t0,.pointer p,.slice A n c] 149));go_wp2_with fail;have hsz:(w.alloc (.cells #[.int .i64 o,.int .i64 nn,.string s0,.string t0,.pointer p,.slice A n c] 149)).heap.size=w.heap.size+1:=by simp
 obtain⟨w1,hw1⟩:∃w1,w.alloc (.cells #[.int .i64 o,.int .i64 nn,.string s0,.string t0,.pointer p,.slice A n c] 149)=w1:=⟨_,rfl⟩
 rw [hw1] at X1 B1 hsz ⊢;rw [←hsz];clear hw1 hsz;have X2:=hi9 (X1.out.keep (za w1 (.cells #[.string ⟨#[]⟩,.bool false,.int .i64 0,.int .i64 0,.string ⟨#[]⟩,.string ⟨#[]⟩,.pointer none,.slice none 0 0] 207)));have Y2:=hi9 (zdA w1 (.string ⟨#[]⟩) (.bool false) (.int .i64 0) (.int .i64 0) (.string ⟨#[]⟩) (.string ⟨#[]⟩) (.pointer none) (.slice none 0 0) 207);have B2:=bh B1 (za w1 (.cells #[.string ⟨#[]⟩,.bool false,.int .i64 0,.int .i64 0,.string ⟨#[]⟩,.string ⟨#[]⟩,.pointer none,.slice none 0 0] 207));obtain⟨w2,hw2⟩:∃w2,w1.alloc (.cells #[.string ⟨#[]⟩,.bool false,.int .i64 0,.int .i64 0,.string ⟨#[]⟩,.string ⟨#[]⟩,.pointer none,.slice none 0 0] 207)=w2:=⟨_,rfl⟩
 rw [hw2] at X2 Y2 B2 ⊢;clear hw2 X1;have HW:=hi9 B1.out.size;clear B1;refine(HS.out w2 B2.out).mono ?_;rintro e w3 ⟨i,hh,rfl,h1,h2,b3⟩;have X3:=hi9 (X2.out.keep b3);have Y3:=hi9 (Y2.out.keep b3);have B3:=bh B2 b3;clear X2 Y2 B2 b3 HS;obtain⟨c0,c1,c2,c3,c4,c5,-,-,-,-,-,-⟩:=X3.out;obtain⟨d0,d1,d2,d3,d4,d5,d6,d7,z0,z1,z2,z3,z4,z5,z6,z7⟩:=Y3.out
 cases hh with
 | false =>
  have HNF:=hi9 (zeu.2 (h2 rfl))
  clear h1 h2
  have Y4:=Y3.out.set (.string ⟨#[]⟩) (.bool false) (.int .i64 0) (.int .i64 0) (.string ⟨#[]⟩) (.string ⟨#[]⟩) (.pointer none) (.slice none 0 0)
  obtain⟨g0,g1,g2,g3,g4,g5,g6,g7,-,-,-,-,-,-,-,-⟩:=Y4
  go_wp2_with fail
  refine bodyPost_ret (v := .tuple #[.agg #[.string ⟨#[]⟩,.bool false,.int .i64 0,.int .i64 0,.string ⟨#[]⟩,.string ⟨#[]⟩,.pointer none,.slice none 0 0],.bool false]) (by simp [results,Tryz.results119,go_sem,g0,g1,g2,g3,g4,g5,g6,g7]) rfl ⟨?_,by rw [HNF.out]⟩
  exact zdR B3.out HW.out _ _ _ _ _ _ _ _
 | true =>
  obtain⟨hi,hs⟩:=h1 rfl
  clear h1 h2
  have hin:i<n:=by rw [HN.out];exact hi
  obtain⟨a,rfl,hfd⟩:=HF.out w3 B3.out i _ (List.getElem?_eq_getElem hi)
  rw [Nat.zero_add] at hfd
  have HFF:=hi9 (show f.find s=some (f.list[i].2.1,f.list[i].2.2) from(zaX HA.out).2 (by rw [←hs];exact List.getElem_mem hi))
  obtain⟨y,hy⟩:∃y,y=f.list[i]:=⟨_,rfl⟩
  rw [←hy] at hfd HFF hs
  clear hy
  obtain⟨o',n',s',t',p',A',m',c',hk,q0,q1,q2,q3,q4,q5,q6,q7⟩:=hfd.cells
  have HK:=hi9 hk
  rw [hs] at q0
  clear hk hfd hs
  have Y4:=Y3.out.set (.string s) (.bool y.2.1) (.int .i64 o') (.int .i64 n') (.string s') (.string t') (.pointer p') (.slice A' m' c')
  obtain⟨g0,g1,g2,g3,g4,g5,g6,g7,-,-,-,-,-,-,-,-⟩:=Y4
  go_wp2_with fail
  refine bodyPost_ret (v := .tuple #[.agg #[.string s,.bool y.2.1,.int .i64 o',.int .i64 n',.string s',.string t',.pointer p',.slice A' m' c'],.bool true]) (by simp [results,Tryz.results119,go_sem,g0,g1,g2,g3,g4,g5,g6,g7]) rfl ?_
  have BF:∀w',Below w.heap.size w w'→zn2 w B f s (.returned (.tuple #[.agg #[.string s,.bool y.2.1,.int .i64 o',.int .i64 n',.string s',.string t',.pointer p',.slice A' m' c'],.bool true])) w':=fun w' hb=>by
   refine⟨hb,?_⟩;rw [HFF.out];exact⟨_,rfl,HK.out.cong fun b hB=>(hb.block b (HBB.out b hB)).trans (B3.out.block b (HBB.out b hB)).symm⟩
  refine BF _ ?_
  exact zdR B3.out HW.out _ _ _ _ _ _ _ _
theorem zet(f:Fl):f.len=f.list.length:=by
 induction f using Fl.rec (motive_1:=fun _=>True) with
 | nil=>rfl
 | cons s m k r _ ih=>simp [Fl.len,Fl.list,ih]
 | _=>trivial
theorem zmI(f:Fl):f.len≤f.sz:=by
 induction f using Fl.rec (motive_1:=fun _=>True) with
 | nil=>exact Nat.le_refl _
 | cons s m k r _ ih=>simp only [Fl.len,Fl.sz];omega
 | _=>trivial
def opN:Kd→Int
 | .base x=>x
 | .ent _=>44
 | .set _=>45
 | .fs _=>46
def nmN:Kd→ByteArray
 | .ent s=>s
 | _=>emp
theorem zlP{w:World}{B:Nat→Prop}{k:Kd}{v:List Value}(h:KAt w B k v):∃(n:Int) (p:Option Addr) (A:Option Addr) (m c:Nat),v = [.int .i64 (opN k),.int .i64 n,.string (nmN k),.string emp,.pointer p,.slice A m c]:=by
 cases k with
 | base x=>obtain⟨_,rfl⟩:=h;exact⟨_,_,_,_,_,rfl⟩
 | ent s=>obtain⟨_,rfl⟩:=h;exact⟨_,_,_,_,_,rfl⟩
 | set q=>obtain⟨_,_,_,rfl,_⟩:=h;exact⟨_,_,_,_,_,rfl⟩
 | fs f=>obtain⟨_,_,_,rfl,_⟩:=h;exact⟨_,_,_,_,_,rfl⟩
theorem zds{x:Int}(h:(Kd.base x).valid):x=41∨x=42∨x=43∨x=48∨x=49:=h
theorem zjD{a b:Kd}(ha:a.valid)(hb:b.valid)(h1:opN a=opN b)(h2:nmN a=nmN b):
 (∃x,a = .base x∧b = .base x)∨(∃s,a = .ent s∧b = .ent s)∨(∃p q,a = .set p∧b = .set q)∨∃f g,a = .fs f∧b = .fs g:=by
 cases a with
 | base x =>
  have:=zds ha
  cases b with
  | base y=>simp only [opN] at h1;exact .inl ⟨x,rfl,by rw [h1]⟩
  | ent s=>simp only [opN] at h1;omega
  | set q=>simp only [opN] at h1;omega
  | fs g=>simp only [opN] at h1;omega
 | ent s =>
  cases b with
  | base y=>have:=zds hb;simp only [opN] at h1;omega
  | ent t=>simp only [nmN] at h2;exact .inr (.inl ⟨s,rfl,by rw [h2]⟩)
  | set q=>simp [opN] at h1
  | fs g=>simp [opN] at h1
 | set p =>
  cases b with
  | base y=>have:=zds hb;simp only [opN] at h1;omega
  | ent t=>simp [opN] at h1
  | set q=>exact .inr (.inr (.inl ⟨p,q,rfl,rfl⟩))
  | fs g=>simp [opN] at h1
 | fs f =>
  cases b with
  | base y=>have:=zds hb;simp only [opN] at h1;omega
  | ent t=>simp [opN] at h1
  | set q=>simp [opN] at h1
  | fs g=>exact .inr (.inr (.inr ⟨f,g,rfl,rfl⟩))
theorem zht{a:Kd}(ha:a.valid)(h:opN a=49):a = .base 49:=by
 cases a with
 | base x=>simp only [opN] at h;rw [h]
 | _=>simp [opN] at h
theorem zk0{a:Kd}(ha:a.valid)(h:opN a=48):a = .base 48:=by
 cases a with
 | base x=>simp only [opN] at h;rw [h]
 | _=>simp [opN] at h
theorem zoL(k:Kd):∃(x:Int) (r:List Nd),k.flat=⟨opN k,x,nmN k,emp⟩:: r:=by
 cases k with
 | base x=>exact⟨_,_,rfl⟩
 | ent s=>exact⟨_,_,rfl⟩
 | set q=>exact⟨_,_,rfl⟩
 | fs f=>exact⟨_,_,rfl⟩
theorem zaI{w:World}{A:Option Addr}{n c:Nat}{k:Kd}(h:Ns w A n c k.flat):∃a,A=some a∧1≤n∧w.cell? a=some (.int .i64 (opN k))∧w.cell? ⟨a.block,a.off+2,none⟩=some (.string (nmN k)):=by
 obtain⟨x,r,e⟩:=zoL k;obtain⟨a,ea,d0,d1,d2,d3⟩:=h.at_ 0 ⟨opN k,x,nmN k,emp⟩ (by rw [e];rfl);exact⟨a,ea,by rw [h.len];exact jL k,d0,d2⟩
theorem zgR(g:Fl):g.len≤g.flat.length:=by
 induction g using Fl.rec (motive_1:=fun _=>True) with
 | nil=>exact Nat.zero_le _
 | cons s m k r _ ih=>simp only [Fl.len,Fl.flat,List.length_cons,List.length_append];omega
 | _=>trivial
theorem zhq(w:World)(x:Nd):(w.alloc (.cells #[.int .i64 x.op,.int .i64 x.n,.string x.s,.string x.t] 41)).ownsRow w.heap.size 41 4 (.slice (some ⟨w.heap.size,0,none⟩) 1 1) 1 (zh [x]):=
 ⟨rfl,.inr ⟨_,1,_,rfl,Nat.le_refl _,heap_alloc_new w _,Nat.le_refl _,by unfold maxLen;omega,rfl,rfl⟩⟩
end Go.Proofs.YtjcdeikbghjpkaaGreatDoor
