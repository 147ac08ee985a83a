/-
  An evaluation: its ten cells, what they lead to. eval's small functions: the kind of a value, what must be, what is told without an error, what a name stands ..
-/
import Derived.Deep.RegionHeld3
import Derived.Test.YtkfgabdnppmglaaGreatDoorQ12
import Derived.Test.YtkfgabdnppmglaaGreatDoorQ13
import Derived.Test.YtkfgabdnppmglaaGreatDoorQ23
import Derived.Test.YtkfgabdnppmglaaGreatDoorQ28
import Derived.Test.YtkfgabdnppmglaaGreatDoorQ30
import Derived.Test.YtkfgabdnppmglaaGreatDoorQ31
import Derived.Test.YtkfgabdnppmglaaGreatDoorQ32
set_option maxRecDepth 100000
set_option maxHeartbeats 8000000
namespace Go.Proofs.YtkfgabdnppmglaaGreatDoor
open Go.RowKit Go.Wk Go.Sort
structure Cx where
 EA:Option Addr
 en:Nat
 ec:Nat
 E:List En
 q:Rq
 A:Option Addr
 n:Nat
 c:Nat
 P:List Nd
def Cx.env(k:Cx):Env:=⟨k.E,k.q.who,k.q.act,k.q.what,k.q.P⟩
structure zdK(w:World)(k:Cx):Prop where
 es:Es w k.EA k.en k.ec k.E
 rq:zfV w k.q
 ns:Ns w k.A k.n k.c k.P
 door:zbC w
 ok:zcj k.env
theorem zdK.keep{w w':World}{k:Cx}(h:zdK w k)(hb:Below w.heap.size w w'):zdK w' k:=⟨h.es.keep hb,h.rq.keep hb,h.ns.keep hb,h.door.keep hb,h.ok⟩
def Cx.row(k:Cx)(p:Int):Array Value:=#[.slice k.EA k.en k.ec,.string k.q.who.1,.string k.q.who.2,.string k.q.act.1,.string k.q.act.2,.string k.q.what.1,.string k.q.what.2,.slice k.q.NA k.q.nn k.q.nc,.slice k.A k.n k.c,.int .i64 p]
structure jb(W w:World)(R:Nat)(k:Cx)(p:Int):Prop where
 base:Below W.heap.size W w
 hi:W.heap.size≤R
 ok:zdK W k
 row:∃t,w.heap[R]?=some (.cells (k.row p) t (0,0))
section
variable {W w w':World} {R:Nat} {k:Cx} {p:Int}
theorem jb.cx(h:jb W w R k p):zdK w k:=h.ok.keep h.base
theorem jb.cell(h:jb W w R k p){j:Nat}{v:Value}(hj:(k.row p)[j]?=some v):w.cell? ⟨R,j,none⟩=some v:=by
 obtain⟨t,e⟩:=h.row;exact jf e hj
theorem jb.c0(h:jb W w R k p):w.cell? ⟨R,0,none⟩=some (.slice k.EA k.en k.ec):=h.cell rfl
theorem jb.c1(h:jb W w R k p):w.cell? ⟨R,1,none⟩=some (.string k.q.who.1):=h.cell rfl
theorem jb.c2(h:jb W w R k p):w.cell? ⟨R,2,none⟩=some (.string k.q.who.2):=h.cell rfl
theorem jb.c3(h:jb W w R k p):w.cell? ⟨R,3,none⟩=some (.string k.q.act.1):=h.cell rfl
theorem jb.c4(h:jb W w R k p):w.cell? ⟨R,4,none⟩=some (.string k.q.act.2):=h.cell rfl
theorem jb.c5(h:jb W w R k p):w.cell? ⟨R,5,none⟩=some (.string k.q.what.1):=h.cell rfl
theorem jb.c6(h:jb W w R k p):w.cell? ⟨R,6,none⟩=some (.string k.q.what.2):=h.cell rfl
theorem jb.c7(h:jb W w R k p):w.cell? ⟨R,7,none⟩=some (.slice k.q.NA k.q.nn k.q.nc):=h.cell rfl
theorem jb.c8(h:jb W w R k p):w.cell? ⟨R,8,none⟩=some (.slice k.A k.n k.c):=h.cell rfl
theorem jb.c9(h:jb W w R k p):w.cell? ⟨R,9,none⟩=some (.int .i64 p):=h.cell rfl
theorem jb.lt(h:jb W w R k p):R<w.heap.size:=block_lt_of_cell h.c9
theorem jb.z(h:jb W w R k p)(j:Nat):w.frozen? ⟨R,j,none⟩=false:=by
 obtain⟨t,e⟩:=h.row;unfold World.frozen?;rw [e];simp
theorem jb.keep(h:jb W w R k p)(hb:Below w.heap.size w w'):jb W w' R k p:=by
 obtain⟨t,e⟩:=h.row;exact⟨h.base.trans (hb.mono h.base.size),h.hi,h.ok,t,(hb.block R h.lt).trans e⟩
theorem jb.put(h:jb W w R k p)(q:Int):jb W (w.setCell ⟨R,9,none⟩ (.int .i64 q)) R k q:=by
 obtain⟨b,hi,ok,t,e⟩:=h;refine⟨b.setCell (p:=⟨R,9,none⟩) hi _,hi,ok,t,?_⟩;simp only [World.setCell];rw [Array.getElem?_modify];simp [e,Cx.row]
theorem jb.fork(h:jb W w R k p){A:Option Addr}{n c:Nat}{V:List Nd}(hv:Ns w A n c V)(h0:0<V.length):∀a,A=some a→a.block≠R:=by
 intro a ha hR;subst ha;obtain⟨b,hb,q1,q2,-,-⟩:=hv.at_ 0 V[0] (List.getElem?_eq_getElem h0);injection hb with hb;subst hb;rw [show a.add (0*4)=a from rfl] at q1 q2;obtain⟨t,e⟩:=h.row;obtain⟨blk,off,spot⟩:=a;simp only at hR;subst hR;unfold World.cell? at q1 q2;simp only [e] at q1 q2;split at q1
 ·cases q1
 ·unfold Cx.row at q1 q2;rcases off with _|_|_|_|_|_|_|_|_|_|off <;> simp at q1 q2
theorem jb.ns(h:jb W w R k p){A:Option Addr}{n c:Nat}{V:List Nd}(hv:Ns w A n c V)(hg:w.grownBy w' (some R)):Ns w' A n c V:=hv.but hg fun h0 a e=>h.fork hv h0 a e
end
abbrev zbh (k:Int):List PanicEntry := [{ v := .iface 28 (.int .i64 k),recovered:=false }]
def je(w:World)(r:Res)(e:Ending)(w':World):Prop :=
 Below w.heap.size w w'∧match r with
  | .error x=>e = .panicked (zbh x)
  | .ok V=>∃A n c,e = .returned (.slice A n c)∧Ns w' A n c V∧(∀a,A=some a→w.heap.size≤a.block)
def jh(W w:World)(R:Nat)(k:Cx)(q:Int)(r:Res)(e:Ending)(w':World):Prop :=
 w.grownBy w' (some R)∧match r with
  | .error x=>e = .panicked (zbh x)
  | .ok V=>(∃A n c,e = .returned (.slice A n c)∧Ns w' A n c V∧(∀a,A=some a→a.block<W.heap.size∨w.heap.size≤a.block))∧jb W w' R k q
def zdC(W:World)(R:Nat)(k:Cx)(N:Nat):Prop :=
 ∀(x:Ex) (p:Nat) (w:World),jb W w R k (p:Int)→XAt k.P p false x→x.flat.length≤N→
  Calls Tryz.prog 18 #[.pointer (some ⟨R,0,none⟩)] w (jh W w R k ((p+x.flat.length:Nat):Int) (evX k.env x))
theorem jm{w:World}{A:Option Addr}{n c:Nat}{V:List Nd}(h:Ns w A n c V)(h0:0<V.length):∃a,A=some a∧1≤n∧Nd4 w a (hdN V)∧zcw (hdN V)∧zf V=(hdN V).op:=by
 obtain⟨a,ha,D⟩:=h.at_.nd h0;rw [show a.add (0*4)=a from rfl] at D;have e:hdN V=V[0]:=by
  cases V with
  | nil=>simp at h0
  | cons x r=>rfl
 refine⟨a,ha,by rw [h.len];exact h0,by rw [e];exact D,by rw [e];exact h.ok.at h0,?_⟩;rw [e];exact jO h0
theorem zcI(A:Option Addr)(n c:Nat)(V:List Nd)(o:Int)(w:World)(h:Ns w A n c V)(h0:0<V.length):
 Calls Tryz.prog 118 #[.slice A n c,.int .i64 o] w fun e w'=>e = .returned (.bool (zf V==o))∧Below w.heap.size w w':=by
 obtain⟨a,rfl,hn1,D,-,e⟩:=jm h h0;have d0:=D.c0;rw [e];have hn:(0:Int)<(n:Int):=by omega
 generalize hdN V=x at *;clear h D e;go_enter Tryz.func118,Tryz.ntmps118;go_wp2_with fail;go_ret;exact⟨rfl,Below.refl _ _⟩
theorem zN(A:Option Addr)(n c:Nat)(V:List Nd)(o:Int)(w:World)(h:Ns w A n c V)(h0:0<V.length):
 Calls Tryz.prog 76 #[.slice A n c,.int .i64 o] w fun e w'=>e=(if zf V=o then .returned (.slice A n c) else .panicked (zbh 2))∧Below w.heap.size w w':=by
 have K:=hi9 (zcI A n c V o w h h0);clear h h0;by_cases g:zf V=o
 ·rw [if_pos g];have f1:(zf V==o)=true:=beq_iff_eq.2 g;rw [f1] at K;clear f1 g;go_enter Tryz.func76,Tryz.ntmps76;go_wp2_with fail;refine K.out.mono ?_;rintro e w1 ⟨rfl,b1⟩;have B1:=hi9 b1;clear b1 K;go_wp2_with fail;go_ret;exact⟨rfl,B1.out⟩
 ·rw [if_neg g];have f1:(zf V==o)=false:=beq_eq_false_iff_ne.2 g;rw [f1] at K;clear f1 g;go_enter Tryz.func76,Tryz.ntmps76;go_wp2_with fail;refine K.out.mono ?_;rintro e w1 ⟨rfl,b1⟩;have B1:=hi9 b1;clear b1 K;go_wp2_with fail;exact⟨rfl,rfl,B1.out⟩
theorem je.up{w w1 w2:World}{r:Res}{e:Ending}(h:je w1 r e w2)(hb:Below w.heap.size w w1):je w r e w2:=by
 refine⟨hb.trans (h.1.mono hb.size),?_⟩
 cases r with
 | error x=>exact h.2
 | ok V =>
  obtain⟨A,n,c,he,hN,hF⟩:=h.2
  exact⟨A,n,c,he,hN,fun a ha=>Nat.le_trans hb.size (hF a ha)⟩
theorem jT{w w1:World}{k:Int}(hb:Below w.heap.size w w1):je w (.error k) (.panicked (zbh k)) w1:=⟨hb,rfl⟩
theorem zm{V:List Nd}(h:zc V=0):0<V.length:=(zP.1 h).2.pos
theorem zfF(w:World)(x:Nd)(hx:zcw x):je w (.ok [x]) (.returned (.slice (some ⟨w.heap.size,0,none⟩) 1 1)) (w.alloc (.cells #[.int .i64 x.op,.int .i64 x.n,.string x.s,.string x.t] 53)):=
 ⟨zb w _,some ⟨w.heap.size,0,none⟩,1,1,rfl,zdB w x hx,fun a e=>by injection e with e;subst e;exact Nat.le_refl _⟩
theorem zff(op a b:Int):I64 (zaE op a b):=by
 unfold zaE;split
 ·split
  ·rename_i h;unfold zak at h;simpa [I64] using h
  ·unfold I64;omega
 ·unfold I64;omega
theorem zht(o n:Int)(h:I64 n):zcw ⟨o,n,emp,emp⟩:=⟨Nat.zero_le _,Nat.zero_le _,h.1,h.2⟩
theorem jR(b:Bool)(w:World):Calls Tryz.prog 79 #[.bool b] w (je w (.ok (zt b))):=by
 have T:=hi9 (zfF w ⟨1,if b then 1 else 0,emp,emp⟩ (zht _ _ (by cases b <;>(unfold I64;decide))));rcases b with _|_
 ·go_enter Tryz.func79,Tryz.ntmps79;go_wp2_with fail;go_ret;exact T.out
 ·go_enter Tryz.func79,Tryz.ntmps79;go_wp2_with fail;go_ret;exact T.out
theorem zdL(u:Ud)(w:World)(h1:u.1.size≤maxLen)(h2:u.2.size≤maxLen):Calls Tryz.prog 75 #[.agg #[.string u.1,.string u.2]] w (je w (.ok (zeH u))):=by
 obtain⟨s,t⟩:=u;have T:=hi9 ((zfF (w.alloc (.cells #[.string s,.string t] 24)) ⟨4,0,s,t⟩ ⟨h1,h2,(show -9223372036854775808≤(0:Int) by decide),(show(0:Int)≤9223372036854775807 by decide)⟩).up (zb w _));rw [World.size_alloc] at T;clear h1 h2;go_enter Tryz.func75,Tryz.ntmps75;go_wp2_with fail;go_ret;exact T.out
theorem ziy(A:Option Addr)(n c:Nat)(V:List Nd)(w:World)(h:Ns w A n c V)(h0:0<V.length):
 Calls Tryz.prog 124 #[.slice A n c] w fun e w'=>e = .returned (udV (jd V))∧Below w.heap.size w w':=by
 obtain⟨a,rfl,hn1,⟨d0,d1,d2,d3⟩,-,e⟩:=jm h h0;have hn:(0:Int)<(n:Int):=by omega
 unfold jd udV;generalize hdN V=x at *;clear h e;have B0:=zb w (.cells #[.string ⟨#[]⟩,.string ⟨#[]⟩] 24);have hn0:0<n:=hn1;obtain⟨w0,hw0⟩:∃w0,w.alloc (.cells #[.string ⟨#[]⟩,.string ⟨#[]⟩] 24)=w0:=⟨_,rfl⟩
 have V0:=j8 w (.string ⟨#[]⟩) (.string ⟨#[]⟩) 24;rw [hw0] at B0 V0;have e2:(⟨w0.heap,w0.tape,w0.drawn+1,w0.os,w0.output⟩:World).cell? ⟨a.block,a.off+2,none⟩=some (.string x.s):=za B0 d2;have e3:(⟨w0.heap,w0.tape,w0.drawn+1,w0.os,w0.output⟩:World).cell? ⟨a.block,a.off+3,none⟩=some (.string x.t):=za B0 d3;go_enter Tryz.func124,Tryz.ntmps124;go_wp2_with fail;have g2:=za B0 d2;have g3:=za B0 d3;clear e2 e3;obtain⟨v0,v1,z0,z1⟩:=V0;have hl:w.heap.size<w0.heap.size:=block_lt_of_cell v0;have hab:a.block<w.heap.size:=block_lt_of_cell d0;have k2:((w0.setCell ⟨w.heap.size,0,none⟩ (.string x.s)).setCell ⟨w.heap.size,1,none⟩ (.string x.t)).drew.cell? ⟨a.block,a.off+2,none⟩=some (.string x.s):=
  (World.cell?_setCell_other _ _ _ _ (by intro e;injection e with e;omega)).trans ((World.cell?_setCell_other _ _ _ _ (by intro e;injection e with e;omega)).trans g2)
 have k3:((w0.setCell ⟨w.heap.size,0,none⟩ (.string x.s)).setCell ⟨w.heap.size,1,none⟩ (.string x.t)).drew.cell? ⟨a.block,a.off+3,none⟩=some (.string x.t):=
  (World.cell?_setCell_other _ _ _ _ (by intro e;injection e with e;omega)).trans ((World.cell?_setCell_other _ _ _ _ (by intro e;injection e with e;omega)).trans g3)
 go_region_held3 (fun w':World=>w'.cell? ⟨a.block,a.off+2,none⟩=some (.string x.s)∧w'.cell? ⟨a.block,a.off+3,none⟩=some (.string x.t)) (first|exact⟨g2,g3⟩|exact⟨k2,k3⟩) (fail);have u1:((w0.setCell ⟨w.heap.size,0,none⟩ (.string x.s)).setCell ⟨w.heap.size,1,none⟩ (.string x.t)).drew.cell? ⟨w.heap.size,1,none⟩=some (.string x.t):=
  World.cell?_setCell_same _ _ _ ((World.cell?_setCell_other w0 ⟨w.heap.size,0,none⟩ ⟨w.heap.size,1,none⟩ _ (by intro e;injection e with _ e;cases e)).trans v1)
 have u0:((w0.setCell ⟨w.heap.size,0,none⟩ (.string x.s)).setCell ⟨w.heap.size,1,none⟩ (.string x.t)).drew.cell? ⟨w.heap.size,0,none⟩=some (.string x.s):=
  (World.cell?_setCell_other _ _ _ _ (by intro e;injection e with _ e;cases e)).trans (World.cell?_setCell_same w0 _ _ v0)
 have B1:Below w.heap.size w ((w0.setCell ⟨w.heap.size,0,none⟩ (.string x.s)).setCell ⟨w.heap.size,1,none⟩ (.string x.t)).drew:=((B0.setCell (p:=⟨w.heap.size,0,none⟩) (Nat.le_refl _) _).setCell (p:=⟨w.heap.size,1,none⟩) (Nat.le_refl _) _).drew;generalize ((w0.setCell ⟨w.heap.size,0,none⟩ (.string x.s)).setCell ⟨w.heap.size,1,none⟩ (.string x.t)).drew=w2 at *;go_wp2_with fail;exact⟨rfl,.agg #[.string x.s,.string x.t],by simp [results,Tryz.results124,go_sem,u0,u1],rfl,B1⟩
theorem zkp(v:Value)(w:World):Calls Tryz.prog 48 #[.nilIface,v] w fun e w'=>e = .returned (.bool false)∧w'=w:=by
 go_enter Tryz.func48,Tryz.ntmps48;go_wp2_with fail;go_ret;exact⟨rfl,rfl⟩
theorem zgE(v:Value)(n:Int)(w:World)(hg:zbC w):Calls Tryz.prog 80 #[v,.iface 28 (.int .i64 n)] w fun e w'=>e = .panicked (zbh n)∧Below w.heap.size w w':=by
 have h1:=hg.alloc (.cells #[.int .i64 0] 28);have c1:=zkO n ⟨w.heap.size,0,none⟩ (.int .i64 0) (w.alloc (.cells #[.int .i64 0] 28)) h1 (by simp) (by simp);have C1:=hi9 c1;clear c1 h1;go_enter Tryz.func80,Tryz.ntmps80;go_wp2_with (go_at_call 48;refine C1.out.mono ?_;rintro e w' ⟨rfl,rfl⟩);exact⟨rfl,rfl,(by(repeat' (first|exact Below.refl _ _|refine Below.alloc ?_ ?_ _|refine Below.setCell ?_ ?_ _|refine Below.drew ?_|refine Below.drewN ?_ _))<;>(try simp)<;> omega)⟩
theorem zgI(v:Value)(w:World):Calls Tryz.prog 80 #[v,.nilIface] w fun e w'=>e = .returned v∧Below w.heap.size w w':=by
 have C1:=hi9 (fun x w=>zkp x w);go_enter Tryz.func80,Tryz.ntmps80;go_wp2_with (go_at_call 48;refine(C1.out _ _).mono ?_;rintro e w' ⟨rfl,rfl⟩);go_ret;exact⟨rfl,zb _ _⟩
theorem zcd(v:Value)(n:Int)(w:World)(hg:zbC w):Calls Tryz.prog 82 #[v,.iface 28 (.int .i64 n)] w fun e w'=>e = .panicked (zbh n)∧Below w.heap.size w w':=by
 have h1:=hg.alloc (.cells #[.int .i64 0] 28);have c1:=zkO n ⟨w.heap.size,0,none⟩ (.int .i64 0) (w.alloc (.cells #[.int .i64 0] 28)) h1 (by simp) (by simp);have C1:=hi9 c1;clear c1 h1;go_enter Tryz.func82,Tryz.ntmps82;go_wp2_with (go_at_call 48;refine C1.out.mono ?_;rintro e w' ⟨rfl,rfl⟩);exact⟨rfl,rfl,(by(repeat' (first|exact Below.refl _ _|refine Below.alloc ?_ ?_ _|refine Below.setCell ?_ ?_ _|refine Below.drew ?_|refine Below.drewN ?_ _))<;>(try simp)<;> omega)⟩
theorem zbF(v:Value)(w:World):Calls Tryz.prog 82 #[v,.nilIface] w fun e w'=>e = .returned v∧Below w.heap.size w w':=by
 have C1:=hi9 (fun x w=>zkp x w);go_enter Tryz.func82,Tryz.ntmps82;go_wp2_with (go_at_call 48;refine(C1.out _ _).mono ?_;rintro e w' ⟨rfl,rfl⟩);go_ret;exact⟨rfl,zb _ _⟩
theorem zdY(v:Value)(n:Int)(w:World)(hg:zbC w):Calls Tryz.prog 86 #[v,.iface 28 (.int .i64 n)] w fun e w'=>e = .panicked (zbh n)∧Below w.heap.size w w':=by
 have h1:=hg.alloc (.cells #[.int .i64 0] 28);have c1:=zkO n ⟨w.heap.size,0,none⟩ (.int .i64 0) (w.alloc (.cells #[.int .i64 0] 28)) h1 (by simp) (by simp);have C1:=hi9 c1;clear c1 h1;go_enter Tryz.func86,Tryz.ntmps86;go_wp2_with (go_at_call 48;refine C1.out.mono ?_;rintro e w' ⟨rfl,rfl⟩);exact⟨rfl,rfl,(by(repeat' (first|exact Below.refl _ _|refine Below.alloc ?_ ?_ _|refine Below.setCell ?_ ?_ _|refine Below.drew ?_|refine Below.drewN ?_ _))<;>(try simp)<;> omega)⟩
theorem zd0(v:Value)(w:World):Calls Tryz.prog 86 #[v,.nilIface] w fun e w'=>e = .returned v∧Below w.heap.size w w':=by
 have C1:=hi9 (fun x w=>zkp x w);go_enter Tryz.func86,Tryz.ntmps86;go_wp2_with (go_at_call 48;refine(C1.out _ _).mono ?_;rintro e w' ⟨rfl,rfl⟩);go_ret;exact⟨rfl,zb _ _⟩
theorem zmt(v:Value)(w:World):Calls Tryz.prog 127 #[v,.nilIface] w fun e w'=>e = .returned v∧Below w.heap.size w w':=by
 have C1:=hi9 (fun x w=>zkp x w);go_enter Tryz.func127,Tryz.ntmps127;go_wp2_with (go_at_call 48;refine(C1.out _ _).mono ?_;rintro e w' ⟨rfl,rfl⟩);go_ret;exact⟨rfl,zb _ _⟩
theorem jb.node{W w:World}{R:Nat}{k:Cx}{p:Nat}(h:jb W w R k (p:Int)){n:Nd}{ps:Exs}{f:Bool}(hx:XAt k.P p f (.node n ps)):
 ∃a,k.A=some a∧p<k.n∧Nd4 w (a.add (p*4)) n∧zcw n:=by
 have hh:=hx.head;have hl:p<k.P.length:=(List.getElem?_eq_some_iff.1 hh).1;have he:k.P[p]=n:=(List.getElem?_eq_some_iff.1 hh).2;obtain⟨a,ha,D⟩:=h.cx.ns.at_.nd hl;rw [he] at D;have ho:=h.cx.ns.ok.at hl;rw [he] at ho;exact⟨a,ha,by rw [h.cx.ns.len];exact hl,D,ho⟩
theorem zhZ{W w:World}{R:Nat}{k:Cx}{p:Int}(h:jb W w R k p)(q:Int):jb W (w.setCell ⟨R,9,none⟩ (.int .i64 q)) R k q∧w.grownBy (w.setCell ⟨R,9,none⟩ (.int .i64 q)) (some R):=⟨h.put q,zJ w ⟨R,9,none⟩ _⟩
theorem zaF{W w:World}{R:Nat}{k:Cx}{p:Int}(h:jb W w R k p)(o:Obj):jb W ((w.setCell ⟨R,9,none⟩ (.int .i64 (p+1))).alloc o).drew R k (p+1)∧w.grownBy ((w.setCell ⟨R,9,none⟩ (.int .i64 (p+1))).alloc o).drew (some R):=by
 obtain⟨h1,g1⟩:=zhZ h (p+1);exact⟨(h1.keep (zb _ o)).keep (zG _),zk (zk g1 (zh (zb _ o) _)) (zh (zG _) _)⟩
theorem zc8{W w:World}{R:Nat}{k:Cx}{p:Nat}(h:jb W w R k (p:Int)){f:Bool}{x:Ex}(hx:XAt k.P p f x):
 Calls Tryz.prog 77 #[.pointer (some ⟨R,0,none⟩)] w fun e w'=>e = .returned (.tuple #[])∧jb W w' R k ((p+x.flat.length:Nat):Int)∧w.grownBy w' (some R):=by
 have E0:=hi9 (h.keep (zG w));have K:=hi9 (zpn k.A k.n k.c k.P p f x w.drew (E0.out.cx.ns) hx);have S0:w.drew.cell? ⟨R,8,none⟩=some (.slice k.A k.n k.c)∧w.drew.cell? ⟨R,9,none⟩=some (.int .i64 p):=⟨h.c8,h.c9⟩
 generalize p+x.flat.length=q at *;clear h hx;go_enter Tryz.func77,Tryz.ntmps77;refine zgA (fun(w':World)=>w'.cell? ⟨R,8,none⟩=some (.slice k.A k.n k.c)∧w'.cell? ⟨R,9,none⟩=some (.int .i64 p)) 12 (by kernel_rfl) S0 (fun hHeld=>?_);refine jI (i:=0) (oi:=⟨some 2,_,_,_,_,_⟩) (v := .pointer (some ⟨R,0,none⟩)) rfl (by kernel_rfl) (by kernel_rfl) (by kernel_rfl) (by kernel_rfl) (fun _ _ _ h=>h) (.inl ⟨by rfl,fun w' hSw=>?_⟩) hHeld ?_
 ·obtain⟨a0,a1⟩:=hSw;go_simp
 simp only [Act.put,List.setIfInBounds_toArray,List.set_cons_zero,List.set_cons_succ];refine jI (i:=1) (oi:=⟨some 3,_,_,_,_,_⟩) (v := .pointer (some ⟨R,0,none⟩)) rfl (by kernel_rfl) (by kernel_rfl) (by kernel_rfl) (by kernel_rfl) (fun _ _ _ h=>h) (.inl ⟨by rfl,fun w' hSw=>?_⟩) hHeld ?_
 ·obtain⟨a0,a1⟩:=hSw;go_simp
 simp only [Act.put,List.setIfInBounds_toArray,List.set_cons_zero,List.set_cons_succ];refine jI (i:=2) (oi:=⟨some 4,_,_,_,_,_⟩) (v := .pointer (some ⟨R,0,none⟩)) rfl (by kernel_rfl) (by kernel_rfl) (by kernel_rfl) (by kernel_rfl) (fun _ _ _ h=>h) (.inl ⟨by rfl,fun w' hSw=>?_⟩) hHeld ?_
 ·obtain⟨a0,a1⟩:=hSw;go_simp
 simp only [Act.put,List.setIfInBounds_toArray,List.set_cons_zero,List.set_cons_succ];refine jI (i:=3) (oi:=⟨some 5,_,_,_,_,_⟩) (v := .pointer (some ⟨R,8,none⟩)) rfl (by kernel_rfl) (by kernel_rfl) (by kernel_rfl) (by kernel_rfl) (fun _ _ _ h=>h) (.inl ⟨by rfl,fun w' hSw=>?_⟩) hHeld ?_
 ·obtain⟨a0,a1⟩:=hSw;go_simp
 simp only [Act.put,List.setIfInBounds_toArray,List.set_cons_zero,List.set_cons_succ];refine jI (i:=4) (oi:=⟨some 6,_,_,_,_,_⟩) (v := .slice k.A k.n k.c) rfl (by kernel_rfl) (by kernel_rfl) (by kernel_rfl) (by kernel_rfl) (fun _ _ _ h=>h) (.inl ⟨by rfl,fun w' hSw=>?_⟩) hHeld ?_
 ·obtain⟨a0,a1⟩:=hSw;go_simp
 simp only [Act.put,List.setIfInBounds_toArray,List.set_cons_zero,List.set_cons_succ];refine jI (i:=5) (oi:=⟨some 7,_,_,_,_,_⟩) (v := .pointer (some ⟨R,0,none⟩)) rfl (by kernel_rfl) (by kernel_rfl) (by kernel_rfl) (by kernel_rfl) (fun _ _ _ h=>h) (.inl ⟨by rfl,fun w' hSw=>?_⟩) hHeld ?_
 ·obtain⟨a0,a1⟩:=hSw;go_simp
 simp only [Act.put,List.setIfInBounds_toArray,List.set_cons_zero,List.set_cons_succ];refine jI (i:=6) (oi:=⟨some 8,_,_,_,_,_⟩) (v := .pointer (some ⟨R,0,none⟩)) rfl (by kernel_rfl) (by kernel_rfl) (by kernel_rfl) (by kernel_rfl) (fun _ _ _ h=>h) (.inl ⟨by rfl,fun w' hSw=>?_⟩) hHeld ?_
 ·obtain⟨a0,a1⟩:=hSw;go_simp
 simp only [Act.put,List.setIfInBounds_toArray,List.set_cons_zero,List.set_cons_succ];refine jI (i:=7) (oi:=⟨some 9,_,_,_,_,_⟩) (v := .pointer (some ⟨R,9,none⟩)) rfl (by kernel_rfl) (by kernel_rfl) (by kernel_rfl) (by kernel_rfl) (fun _ _ _ h=>h) (.inl ⟨by rfl,fun w' hSw=>?_⟩) hHeld ?_
 ·obtain⟨a0,a1⟩:=hSw;go_simp
 simp only [Act.put,List.setIfInBounds_toArray,List.set_cons_zero,List.set_cons_succ];refine jI (i:=8) (oi:=⟨some 10,_,_,_,_,_⟩) (v := .int .i64 p) rfl (by kernel_rfl) (by kernel_rfl) (by kernel_rfl) (by kernel_rfl) (fun _ _ _ h=>h) (.inl ⟨by rfl,fun w' hSw=>?_⟩) hHeld ?_
 ·obtain⟨a0,a1⟩:=hSw;go_simp
 simp only [Act.put,List.setIfInBounds_toArray,List.set_cons_zero,List.set_cons_succ];refine za7 (i:=9) (o:=⟨some 11,_,_,_,_,_⟩) (by kernel_rfl) rfl (fun K' hK'=>?_);go_simp;go_at_call 119;refine K.out.mono ?_;rintro e w1 ⟨rfl,b1⟩;have E1:=hi9 (E0.out.keep b1);have G1:=hi9 (zk (zh (zG w) (some R)) (zh b1 (some R)));clear b1;go_wp2_with fail;refine hK'.out _ _ (fun _=>⟨E1.out.c8,E1.out.c9⟩) ?_;clear hK' K' hHeld
 try simp only [Act.put,List.setIfInBounds_toArray,List.set_cons_zero,List.set_cons_succ]
 refine za7 (i:=10) (o:=⟨some 12,_,_,_,_,_⟩) (by kernel_rfl) rfl (fun K' hK'=>?_);go_simp;refine hK'.out _ _ (fun _=>⟨E1.out.c8,E1.out.c9⟩) ?_;clear hK' K'
 try simp only [Act.put,List.setIfInBounds_toArray,List.set_cons_zero,List.set_cons_succ]
 refine za7 (i:=11) (o:=⟨some 13,_,_,_,_,_⟩) (by kernel_rfl) rfl (fun K' hK'=>?_);go_simp;refine hK'.out _ _ (fun _=>⟨E1.out.c8,E1.out.c9⟩) ?_;clear hK' K'
 try simp only [Act.put,List.setIfInBounds_toArray,List.set_cons_zero,List.set_cons_succ]
 have j9:=E1.out.c9;have z9:=E1.out.z 9;have hRl:=E1.out.lt;refine za7 (i:=12) (o:=⟨none,_,_,_,_,_⟩) (by kernel_rfl) rfl (fun K' hK'=>?_);go_simp;refine hK'.out _ _ (fun h=>absurd rfl h) ?_;refine zgK (by kernel_rfl) ?_;clear hK' K';exact⟨rfl,.tuple #[],by simp [results,Tryz.results77,go_sem],rfl,(zhZ E1.out q).1,zk G1.out (zhZ E1.out q).2⟩
theorem zsZ{W w:World}{R:Nat}{k:Cx}{p:Int}(h:jb W w R k p)(n:Nd)(ho:zcw n):jh W w R k (p+1) (.ok [n]) (.returned (.slice (some ⟨w.heap.size+1,0,none⟩) 1 1))
 (((w.setCell ⟨R,9,none⟩ (.int .i64 (p+1))).alloc (.cells #[.int .i64 n.op,.int .i64 n.n,.string n.s,.string n.t] 53)).alloc (.cells #[.int .i64 n.op,.int .i64 n.n,.string n.s,.string n.t] 53)).drew:=by
 obtain⟨h1,g1⟩:=zhZ h (p+1);have hz:(((w.setCell ⟨R,9,none⟩ (.int .i64 (p+1))).alloc (.cells #[.int .i64 n.op,.int .i64 n.n,.string n.s,.string n.t] 53))).heap.size=w.heap.size+1:=by simp [World.setCell]
 have b1:=zb (w.setCell ⟨R,9,none⟩ (.int .i64 (p+1))) (.cells #[.int .i64 n.op,.int .i64 n.n,.string n.s,.string n.t] 53);have b2:=zb ((w.setCell ⟨R,9,none⟩ (.int .i64 (p+1))).alloc (.cells #[.int .i64 n.op,.int .i64 n.n,.string n.s,.string n.t] 53)) (.cells #[.int .i64 n.op,.int .i64 n.n,.string n.s,.string n.t] 53);have hN:=zdB ((w.setCell ⟨R,9,none⟩ (.int .i64 (p+1))).alloc (.cells #[.int .i64 n.op,.int .i64 n.n,.string n.s,.string n.t] 53)) n ho;rw [hz] at hN;exact⟨zk (zk (zk g1 (zh b1 _)) (zh b2 _)) (zh (zG _) _),⟨_,_,_,rfl,hN.keep (zG _),fun a e=>by injection e with e;subst e;exact .inr (Nat.le_succ _)⟩,((h1.keep b1).keep b2).keep (zG _)⟩
theorem zqA{W w:World}{R:Nat}{k:Cx}{p:Nat}(h:jb W w R k (p:Int))(n:Nd)(ps:Exs)(hx:XAt k.P p false (.node n ps))(h14:1≤n.op∧n.op≤4)(hp:zH n=0):
 Calls Tryz.prog 18 #[.pointer (some ⟨R,0,none⟩)] w (jh W w R k ((p+(Ex.node n ps).flat.length:Nat):Int) (evX k.env (.node n ps))):=by
 have HR:=hi9 (show evX k.env (.node n ps)= .ok [n] by rw [evX,if_pos h14]);rw [HR.out,(hx.none hp).2];have ways:n.op=1∨n.op=2∨n.op=3∨n.op=4:=by omega
 obtain⟨a,ha,hpn,D,ho⟩:=h.node hx;obtain⟨o,v,s,t⟩:=n;obtain⟨d0,d1,d2,d3⟩:=D;dsimp only at d0 d1 d2 d3 ways;have hm:=h.cx.ns.max;unfold maxLen at hm;have c8:w.cell? ⟨R,8,none⟩=some (.slice (some a) k.n k.c):=by rw [←ha];exact h.c8
 have c9:=h.c9;have z9:=h.z 9;have hRl:=h.lt;have HO:=hi9 ho;have E1:=hi9 (zaF h (.cells #[.int .i64 o,.int .i64 v,.string s,.string t] 53)).1;have G1:=hi9 (zaF h (.cells #[.int .i64 o,.int .i64 v,.string s,.string t] 53)).2;have nw8:=World.new_ne w ⟨R,8,none⟩ c8;have nw9:=World.new_ne w ⟨R,9,none⟩ c9;have nd0:=World.new_ne w _ d0;have nd1:=World.new_ne w _ d1;have nd2:=World.new_ne w _ d2;have nd3:=World.new_ne w _ d3;have hp0:(0:Int)≤(p:Int):=by omega
 have ER:=hi9 (zsZ h ⟨o,v,s,t⟩ ho);generalize k.n=kn at *;have hp1:(p:Int)<(kn:Int):=by omega
 clear ha ho hx h hp h14 HR;go_enter Tryz.func18,Tryz.ntmps18;go_wp2_with fail;go_region_held3 (fun w':World=>w'.cell? ⟨R,8,none⟩=some (.slice (some a) kn k.c)∧w'.cell? ⟨R,9,none⟩=some (.int .i64 p)∧w'.cell? (a.add (p*4))=some (.int .i64 o)∧w'.cell? ⟨(a.add (p*4)).block,(a.add (p*4)).off+1,none⟩=some (.int .i64 v)∧w'.cell? ⟨(a.add (p*4)).block,(a.add (p*4)).off+2,none⟩=some (.string s)∧w'.cell? ⟨(a.add (p*4)).block,(a.add (p*4)).off+3,none⟩=some (.string t)) (go_keep) (fail);rcases ways with rfl|rfl|rfl|rfl
 all_goals
  go_wp2_with fail;go_ret;exact ER.out
theorem zdO{k:Cx}(ho:zcj k.env){t:List Nd}{p:Nat}{x:Ex}(hx:XAt t p false x){V:List Nd}(h:evX k.env x = .ok V):zc V=0∧0<V.length :=
 have hv:=zdU ho x false hx.valid V h
 ⟨hv,zm hv⟩
theorem zqJ{W:World}{R N:Nat}{k:Cx}(ih:zdC W R k N){w:World}{p:Nat}(h:jb W w R k (p:Int))(a b:Ex)(ha:XAt k.P p false a)(hb:XAt k.P (p+a.flat.length) false b)(la:a.flat.length≤N)(lb:b.flat.length≤N):
 Calls Tryz.prog 43 #[.pointer (some ⟨R,0,none⟩),.int .i64 11] w (jh W w R k ((p+a.flat.length+b.flat.length:Nat):Int) (ja k.env false (.cons a (.cons b .nil)))):=by
 have IA:=hi9 (ih a p w h ha la);have IB:=hi9 (fun w' h'=>ih b (p+a.flat.length) w' h' hb lb);have HO:=hi9 h.ok.ok;have HA:=hi9 ha;have HB:=hi9 hb;have H:=hi9 h;clear h ih;rcases qa:evX k.env a with e|V
 ·have HR:=hi9 (show ja k.env false (.cons a (.cons b .nil))= .error e by rw [ja,qa]);rw [HR.out];rw [qa] at IA;unfold jh at IA;clear qa ha hb la lb IB HA HB;go_enter Tryz.func43,Tryz.ntmps43;go_wp2_with fail;refine IA.out.mono ?_;rintro e w1 ⟨g1,rfl⟩;have G1:=hi9 g1;clear g1;go_wp2_with fail;exact⟨rfl,G1.out,rfl⟩
 ·obtain⟨vV,pV⟩:=zdO HO.out HA.out qa;rw [qa] at IA;unfold jh at IA;by_cases g1:zf V=1
  ·rcases zc1 vV g1 with rfl|rfl
   ·have K0:(1:Int)=1:=rfl;have HR:=hi9 (show ja k.env false (.cons a (.cons b .nil))=zaz k.env (.cons b .nil) by rw [ja,qa];rfl);rw [HR.out];have HAL:=hi9 (show((p+a.flat.length:Nat):Int)=((p+a.flat.length:Nat):Int) from rfl);clear qa ha hb la lb vV pV g1 K0;rcases qb:evX k.env b with u|U
    ·have HR2:=hi9 (show zaz k.env (.cons b .nil)= .error u by rw [zaz,qb]);rw [HR2.out];rw [qb] at IB;unfold jh at IB;clear qb;go_enter Tryz.func43,Tryz.ntmps43;go_wp2_with fail;refine IA.out.mono ?_;rintro e w1 ⟨g2,⟨A1,n1,c1,rfl,N1,F1⟩,E1⟩;have G1:=hi9 g2;have K:=hi9 (zN A1 n1 c1 (zt true) 1 w1 N1 (by decide));rw [if_pos (show zf (zt true)=1 from rfl)] at K;have HN1:=hi9 N1;have HE1:=hi9 E1;clear g2 N1 F1 E1;go_wp2_with fail;refine K.out.mono ?_;rintro e w2 ⟨rfl,b2⟩;have HE2:=hi9 (HE1.out.keep b2);have N2:=hi9 (HN1.out.keep b2);have G2:=hi9 (zk G1.out (zh b2 _));obtain⟨a1,rfl,hn1,⟨-,d1,-,-⟩,-,-⟩:=jm N2.out (by decide);have hi:(0:Int)<(n1:Int):=by omega
     have d1':w2.cell? ⟨a1.block,a1.off+1,none⟩=some (.int .i64 1):=d1;clear b2 d1 K HE1 HN1 G1;go_wp2_with fail;refine(IB.out w2 HE2.out).mono ?_;rintro e w3 ⟨g3,rfl⟩;have G3:=hi9 (zk G2.out g3);clear g3;go_wp2_with fail;exact⟨rfl,G3.out,rfl⟩
    ·obtain⟨vU,pU⟩:=zdO HO.out HB.out qb;have PU:=hi9 pU;rw [qb] at IB;unfold jh at IB;clear vU pU;by_cases g3:zf U=1
     ·have HR2:=hi9 (show zaz k.env (.cons b .nil)= .ok U by rw [zaz,qb];simp only;rw [if_pos g3]);rw [HR2.out];clear qb;go_enter Tryz.func43,Tryz.ntmps43;go_wp2_with fail;refine IA.out.mono ?_;rintro e w1 ⟨g2,⟨A1,n1,c1,rfl,N1,F1⟩,E1⟩;have G1:=hi9 g2;have K:=hi9 (zN A1 n1 c1 (zt true) 1 w1 N1 (by decide));rw [if_pos (show zf (zt true)=1 from rfl)] at K;have HN1:=hi9 N1;have HE1:=hi9 E1;clear g2 N1 F1 E1;go_wp2_with fail;refine K.out.mono ?_;rintro e w2 ⟨rfl,b2⟩;have HE2:=hi9 (HE1.out.keep b2);have N2:=hi9 (HN1.out.keep b2);have G2:=hi9 (zk G1.out (zh b2 _));obtain⟨a1,rfl,hn1,⟨-,d1,-,-⟩,-,-⟩:=jm N2.out (by decide);have hi:(0:Int)<(n1:Int):=by omega
      have d1':w2.cell? ⟨a1.block,a1.off+1,none⟩=some (.int .i64 1):=d1;clear b2 d1 K HE1 HN1 G1;go_wp2_with fail;refine(IB.out w2 HE2.out).mono ?_;rintro e w3 ⟨g4,⟨A3,n3,c3,rfl,N3,F3⟩,E3⟩;have G3:=hi9 (zk G2.out g4);have K3:=hi9 (zN A3 n3 c3 U 1 w3 N3 PU.out);rw [if_pos g3] at K3;have HN3:=hi9 N3;have HE3:=hi9 E3;have HF3:=hi9 (fun a' e'=>(F3 a' e').imp id (fun q=>Nat.le_trans G2.out.size q));clear g4 N3 E3 F3;go_wp2_with fail;refine K3.out.mono ?_;rintro e w4 ⟨rfl,b4⟩;have HE4:=hi9 (HE3.out.keep b4);have N4:=hi9 (HN3.out.keep b4);have G4:=hi9 (zk G3.out (zh b4 _));clear b4;go_wp2_with fail;go_ret;exact⟨G4.out,⟨A3,n3,c3,rfl,N4.out,HF3.out⟩,HE4.out⟩
     ·have HR2:=hi9 (show zaz k.env (.cons b .nil)= .error 2 by rw [zaz,qb];simp only;rw [if_neg g3]);rw [HR2.out];clear qb;go_enter Tryz.func43,Tryz.ntmps43;go_wp2_with fail;refine IA.out.mono ?_;rintro e w1 ⟨g2,⟨A1,n1,c1,rfl,N1,F1⟩,E1⟩;have G1:=hi9 g2;have K:=hi9 (zN A1 n1 c1 (zt true) 1 w1 N1 (by decide));rw [if_pos (show zf (zt true)=1 from rfl)] at K;have HN1:=hi9 N1;have HE1:=hi9 E1;clear g2 N1 F1 E1;go_wp2_with fail;refine K.out.mono ?_;rintro e w2 ⟨rfl,b2⟩;have HE2:=hi9 (HE1.out.keep b2);have N2:=hi9 (HN1.out.keep b2);have G2:=hi9 (zk G1.out (zh b2 _));obtain⟨a1,rfl,hn1,⟨-,d1,-,-⟩,-,-⟩:=jm N2.out (by decide);have hi:(0:Int)<(n1:Int):=by omega
      have d1':w2.cell? ⟨a1.block,a1.off+1,none⟩=some (.int .i64 1):=d1;clear b2 d1 K HE1 HN1 G1;go_wp2_with fail;refine(IB.out w2 HE2.out).mono ?_;rintro e w3 ⟨g4,⟨A3,n3,c3,rfl,N3,F3⟩,E3⟩;have G3:=hi9 (zk G2.out g4);have K3:=hi9 (zN A3 n3 c3 U 1 w3 N3 PU.out);rw [if_neg g3] at K3;clear g4 N3 E3 F3;go_wp2_with fail;refine K3.out.mono ?_;rintro e w4 ⟨rfl,b4⟩;have G4:=hi9 (zk G3.out (zh b4 _));clear b4;go_wp2_with fail;exact⟨rfl,G4.out,rfl⟩
   ·have K0:(1:Int)=1:=rfl;have HR:=hi9 (show ja k.env false (.cons a (.cons b .nil))= .ok (zt false) by rw [ja,qa];rfl);rw [HR.out];clear qa ha hb la lb IB vV pV g1 K0;go_enter Tryz.func43,Tryz.ntmps43;go_wp2_with fail;refine IA.out.mono ?_;rintro e w1 ⟨g2,⟨A1,n1,c1,rfl,N1,F1⟩,E1⟩;have G1:=hi9 g2;have K:=hi9 (zN A1 n1 c1 (zt false) 1 w1 N1 (by decide));rw [if_pos (show zf (zt false)=1 from rfl)] at K;have HN1:=hi9 N1;have HF1:=hi9 F1;have HE1:=hi9 E1;clear g2 N1 F1 E1;go_wp2_with fail;refine K.out.mono ?_;rintro e w2 ⟨rfl,b2⟩;have HE2:=hi9 (HE1.out.keep b2);have N2:=hi9 (HN1.out.keep b2);have G2:=hi9 (zk G1.out (zh b2 _));obtain⟨a1,rfl,hn1,⟨-,d1,-,-⟩,-,-⟩:=jm N2.out (by decide);have hi:(0:Int)<(n1:Int):=by omega
    have d1':w2.cell? ⟨a1.block,a1.off+1,none⟩=some (.int .i64 0):=d1;have S:=hi9 (zc8 HE2.out HB.out);clear b2 d1 K HE1 HN1 G1;go_wp2_with fail;refine S.out.mono ?_;rintro e w3 ⟨rfl,E3,g3⟩;have N3:=hi9 (HE2.out.ns N2.out g3);have G3:=hi9 (zk G2.out g3);have HE3:=hi9 E3;clear E3 g3 S HE2 N2 d1';go_wp2_with fail;go_ret;exact⟨G3.out,⟨some a1,n1,c1,rfl,N3.out,HF1.out⟩,HE3.out⟩
  ·have HR:=hi9 (show ja k.env false (.cons a (.cons b .nil))= .error 2 by rw [ja,qa];simp only;rw [if_neg g1]);rw [HR.out];have PV:=hi9 pV;clear qa ha hb la lb IB HA HB vV pV;go_enter Tryz.func43,Tryz.ntmps43;go_wp2_with fail;refine IA.out.mono ?_;rintro e w1 ⟨g2,⟨A1,n1,c1,rfl,N1,F1⟩,E1⟩;have G1:=hi9 g2;have K:=hi9 (zN A1 n1 c1 V 1 w1 N1 PV.out);rw [if_neg g1] at K;clear g2 N1 F1 E1 g1;go_wp2_with fail;refine K.out.mono ?_;rintro e w2 ⟨rfl,b2⟩;have G2:=hi9 (zk G1.out (zh b2 _));clear b2;go_wp2_with fail;exact⟨rfl,G2.out,rfl⟩
theorem zpT{W:World}{R N:Nat}{k:Cx}(ih:zdC W R k N){w:World}{p:Nat}(h:jb W w R k (p:Int))(a b:Ex)(ha:XAt k.P p false a)(hb:XAt k.P (p+a.flat.length) false b)(la:a.flat.length≤N)(lb:b.flat.length≤N):
 Calls Tryz.prog 43 #[.pointer (some ⟨R,0,none⟩),.int .i64 12] w (jh W w R k ((p+a.flat.length+b.flat.length:Nat):Int) (ja k.env true (.cons a (.cons b .nil)))):=by
 have IA:=hi9 (ih a p w h ha la);have IB:=hi9 (fun w' h'=>ih b (p+a.flat.length) w' h' hb lb);have HO:=hi9 h.ok.ok;have HA:=hi9 ha;have HB:=hi9 hb;have H:=hi9 h;clear h ih;rcases qa:evX k.env a with e|V
 ·have HR:=hi9 (show ja k.env true (.cons a (.cons b .nil))= .error e by rw [ja,qa]);rw [HR.out];rw [qa] at IA;unfold jh at IA;clear qa ha hb la lb IB HA HB;go_enter Tryz.func43,Tryz.ntmps43;go_wp2_with fail;refine IA.out.mono ?_;rintro e w1 ⟨g1,rfl⟩;have G1:=hi9 g1;clear g1;go_wp2_with fail;exact⟨rfl,G1.out,rfl⟩
 ·obtain⟨vV,pV⟩:=zdO HO.out HA.out qa;rw [qa] at IA;unfold jh at IA;by_cases g1:zf V=1
  ·rcases zc1 vV g1 with rfl|rfl
   ·have K0:(1:Int)=1:=rfl;have HR:=hi9 (show ja k.env true (.cons a (.cons b .nil))= .ok (zt true) by rw [ja,qa];rfl);rw [HR.out];clear qa ha hb la lb IB vV pV g1 K0;go_enter Tryz.func43,Tryz.ntmps43;go_wp2_with fail;refine IA.out.mono ?_;rintro e w1 ⟨g2,⟨A1,n1,c1,rfl,N1,F1⟩,E1⟩;have G1:=hi9 g2;have K:=hi9 (zN A1 n1 c1 (zt true) 1 w1 N1 (by decide));rw [if_pos (show zf (zt true)=1 from rfl)] at K;have HN1:=hi9 N1;have HF1:=hi9 F1;have HE1:=hi9 E1;clear g2 N1 F1 E1;go_wp2_with fail;refine K.out.mono ?_;rintro e w2 ⟨rfl,b2⟩;have HE2:=hi9 (HE1.out.keep b2);have N2:=hi9 (HN1.out.keep b2);have G2:=hi9 (zk G1.out (zh b2 _));obtain⟨a1,rfl,hn1,⟨-,d1,-,-⟩,-,-⟩:=jm N2.out (by decide);have hi:(0:Int)<(n1:Int):=by omega
    have d1':w2.cell? ⟨a1.block,a1.off+1,none⟩=some (.int .i64 1):=d1;have S:=hi9 (zc8 HE2.out HB.out);clear b2 d1 K HE1 HN1 G1;go_wp2_with fail;refine S.out.mono ?_;rintro e w3 ⟨rfl,E3,g3⟩;have N3:=hi9 (HE2.out.ns N2.out g3);have G3:=hi9 (zk G2.out g3);have HE3:=hi9 E3;clear E3 g3 S HE2 N2 d1';go_wp2_with fail;go_ret;exact⟨G3.out,⟨some a1,n1,c1,rfl,N3.out,HF1.out⟩,HE3.out⟩
   ·have K0:(1:Int)=1:=rfl;have HR:=hi9 (show ja k.env true (.cons a (.cons b .nil))=zaz k.env (.cons b .nil) by rw [ja,qa];rfl);rw [HR.out];have HAL:=hi9 (show((p+a.flat.length:Nat):Int)=((p+a.flat.length:Nat):Int) from rfl);clear qa ha hb la lb vV pV g1 K0;rcases qb:evX k.env b with u|U
    ·have HR2:=hi9 (show zaz k.env (.cons b .nil)= .error u by rw [zaz,qb]);rw [HR2.out];rw [qb] at IB;unfold jh at IB;clear qb;go_enter Tryz.func43,Tryz.ntmps43;go_wp2_with fail;refine IA.out.mono ?_;rintro e w1 ⟨g2,⟨A1,n1,c1,rfl,N1,F1⟩,E1⟩;have G1:=hi9 g2;have K:=hi9 (zN A1 n1 c1 (zt false) 1 w1 N1 (by decide));rw [if_pos (show zf (zt false)=1 from rfl)] at K;have HN1:=hi9 N1;have HE1:=hi9 E1;clear g2 N1 F1 E1;go_wp2_with fail;refine K.out.mono ?_;rintro e w2 ⟨rfl,b2⟩;have HE2:=hi9 (HE1.out.keep b2);have N2:=hi9 (HN1.out.keep b2);have G2:=hi9 (zk G1.out (zh b2 _));obtain⟨a1,rfl,hn1,⟨-,d1,-,-⟩,-,-⟩:=jm N2.out (by decide);have hi:(0:Int)<(n1:Int):=by omega
     have d1':w2.cell? ⟨a1.block,a1.off+1,none⟩=some (.int .i64 0):=d1;clear b2 d1 K HE1 HN1 G1;go_wp2_with fail;refine(IB.out w2 HE2.out).mono ?_;rintro e w3 ⟨g3,rfl⟩;have G3:=hi9 (zk G2.out g3);clear g3;go_wp2_with fail;exact⟨rfl,G3.out,rfl⟩
    ·obtain⟨vU,pU⟩:=zdO HO.out HB.out qb;have PU:=hi9 pU;rw [qb] at IB;unfold jh at IB;clear vU pU;by_cases g3:zf U=1
     ·have HR2:=hi9 (show zaz k.env (.cons b .nil)= .ok U by rw [zaz,qb];simp only;rw [if_pos g3]);rw [HR2.out];clear qb;go_enter Tryz.func43,Tryz.ntmps43;go_wp2_with fail;refine IA.out.mono ?_;rintro e w1 ⟨g2,⟨A1,n1,c1,rfl,N1,F1⟩,E1⟩;have G1:=hi9 g2;have K:=hi9 (zN A1 n1 c1 (zt false) 1 w1 N1 (by decide));rw [if_pos (show zf (zt false)=1 from rfl)] at K;have HN1:=hi9 N1;have HE1:=hi9 E1;clear g2 N1 F1 E1;go_wp2_with fail;refine K.out.mono ?_;rintro e w2 ⟨rfl,b2⟩;have HE2:=hi9 (HE1.out.keep b2);have N2:=hi9 (HN1.out.keep b2);have G2:=hi9 (zk G1.out (zh b2 _));obtain⟨a1,rfl,hn1,⟨-,d1,-,-⟩,-,-⟩:=jm N2.out (by decide);have hi:(0:Int)<(n1:Int):=by omega
      have d1':w2.cell? ⟨a1.block,a1.off+1,none⟩=some (.int .i64 0):=d1;clear b2 d1 K HE1 HN1 G1;go_wp2_with fail;refine(IB.out w2 HE2.out).mono ?_;rintro e w3 ⟨g4,⟨A3,n3,c3,rfl,N3,F3⟩,E3⟩;have G3:=hi9 (zk G2.out g4);have K3:=hi9 (zN A3 n3 c3 U 1 w3 N3 PU.out);rw [if_pos g3] at K3;have HN3:=hi9 N3;have HE3:=hi9 E3;have HF3:=hi9 (fun a' e'=>(F3 a' e').imp id (fun q=>Nat.le_trans G2.out.size q));clear g4 N3 E3 F3;go_wp2_with fail;refine K3.out.mono ?_;rintro e w4 ⟨rfl,b4⟩;have HE4:=hi9 (HE3.out.keep b4);have N4:=hi9 (HN3.out.keep b4);have G4:=hi9 (zk G3.out (zh b4 _));clear b4;go_wp2_with fail;go_ret;exact⟨G4.out,⟨A3,n3,c3,rfl,N4.out,HF3.out⟩,HE4.out⟩
     ·have HR2:=hi9 (show zaz k.env (.cons b .nil)= .error 2 by rw [zaz,qb];simp only;rw [if_neg g3]);rw [HR2.out];clear qb;go_enter Tryz.func43,Tryz.ntmps43;go_wp2_with fail;refine IA.out.mono ?_;rintro e w1 ⟨g2,⟨A1,n1,c1,rfl,N1,F1⟩,E1⟩;have G1:=hi9 g2;have K:=hi9 (zN A1 n1 c1 (zt false) 1 w1 N1 (by decide));rw [if_pos (show zf (zt false)=1 from rfl)] at K;have HN1:=hi9 N1;have HE1:=hi9 E1;clear g2 N1 F1 E1;go_wp2_with fail;refine K.out.mono ?_;rintro e w2 ⟨rfl,b2⟩;have HE2:=hi9 (HE1.out.keep b2);have N2:=hi9 (HN1.out.keep b2);have G2:=hi9 (zk G1.out (zh b2 _));obtain⟨a1,rfl,hn1,⟨-,d1,-,-⟩,-,-⟩:=jm N2.out (by decide);have hi:(0:Int)<(n1:Int):=by omega
      have d1':w2.cell? ⟨a1.block,a1.off+1,none⟩=some (.int .i64 0):=d1;clear b2 d1 K HE1 HN1 G1;go_wp2_with fail;refine(IB.out w2 HE2.out).mono ?_;rintro e w3 ⟨g4,⟨A3,n3,c3,rfl,N3,F3⟩,E3⟩;have G3:=hi9 (zk G2.out g4);have K3:=hi9 (zN A3 n3 c3 U 1 w3 N3 PU.out);rw [if_neg g3] at K3;clear g4 N3 E3 F3;go_wp2_with fail;refine K3.out.mono ?_;rintro e w4 ⟨rfl,b4⟩;have G4:=hi9 (zk G3.out (zh b4 _));clear b4;go_wp2_with fail;exact⟨rfl,G4.out,rfl⟩
  ·have HR:=hi9 (show ja k.env true (.cons a (.cons b .nil))= .error 2 by rw [ja,qa];simp only;rw [if_neg g1]);rw [HR.out];have PV:=hi9 pV;clear qa ha hb la lb IB HA HB vV pV;go_enter Tryz.func43,Tryz.ntmps43;go_wp2_with fail;refine IA.out.mono ?_;rintro e w1 ⟨g2,⟨A1,n1,c1,rfl,N1,F1⟩,E1⟩;have G1:=hi9 g2;have K:=hi9 (zN A1 n1 c1 V 1 w1 N1 PV.out);rw [if_neg g1] at K;clear g2 N1 F1 E1 g1;go_wp2_with fail;refine K.out.mono ?_;rintro e w2 ⟨rfl,b2⟩;have G2:=hi9 (zk G1.out (zh b2 _));clear b2;go_wp2_with fail;exact⟨rfl,G2.out,rfl⟩
theorem zln{W:World}{R N:Nat}{k:Cx}(ih:zdC W R k N){w:World}{p:Nat}(h:jb W w R k (p:Int))(c a b:Ex)(hc:XAt k.P p false c)(ha:XAt k.P (p+c.flat.length) false a)(hb:XAt k.P (p+c.flat.length+a.flat.length) false b)(lc:c.flat.length≤N)(la:a.flat.length≤N)(lb:b.flat.length≤N):
 Calls Tryz.prog 44 #[.pointer (some ⟨R,0,none⟩)] w (jh W w R k ((p+c.flat.length+a.flat.length+b.flat.length:Nat):Int) (zcb k.env (.cons c (.cons a (.cons b .nil))))):=by
 have IC:=hi9 (ih c p w h hc lc);have IA:=hi9 (fun w' h'=>ih a (p+c.flat.length) w' h' ha la);have IB:=hi9 (fun w' h'=>ih b (p+c.flat.length+a.flat.length) w' h' hb lb);have HO:=hi9 h.ok.ok;have HC:=hi9 hc;have HA:=hi9 ha;have HB:=hi9 hb;clear h ih;rcases qc:evX k.env c with e|V
 ·have HR:=hi9 (show zcb k.env (.cons c (.cons a (.cons b .nil)))= .error e by rw [zcb,qc]);rw [HR.out];rw [qc] at IC;unfold jh at IC;clear qc ha hb hc la lb lc IA IB HA HB HC;go_enter Tryz.func44,Tryz.ntmps44;go_wp2_with fail;refine IC.out.mono ?_;rintro e w1 ⟨g1,rfl⟩;have G1:=hi9 g1;clear g1;go_wp2_with fail;exact⟨rfl,G1.out,rfl⟩
 obtain⟨vV,pV⟩:=zdO HO.out HC.out qc;rw [qc] at IC;unfold jh at IC;by_cases g1:zf V=1
 case neg =>
  have HR:=hi9 (show zcb k.env (.cons c (.cons a (.cons b .nil)))= .error 2 by rw [zcb,qc];simp only;rw [if_neg g1]);rw [HR.out];have PV:=hi9 pV;clear qc ha hb hc la lb lc IA IB HA HB HC vV pV;go_enter Tryz.func44,Tryz.ntmps44;go_wp2_with fail;refine IC.out.mono ?_;rintro e w1 ⟨g2,⟨A1,n1,c1,rfl,N1,F1⟩,E1⟩;have G1:=hi9 g2;have K:=hi9 (zN A1 n1 c1 V 1 w1 N1 PV.out);rw [if_neg g1] at K;clear g2 N1 F1 E1 g1;go_wp2_with fail;refine K.out.mono ?_;rintro e w2 ⟨rfl,b2⟩;have G2:=hi9 (zk G1.out (zh b2 _));clear b2;go_wp2_with fail;exact⟨rfl,G2.out,rfl⟩
 rcases zc1 vV g1 with rfl|rfl
 ·have HR:=hi9 (show zcb k.env (.cons c (.cons a (.cons b .nil)))=evX k.env a by rw [zcb,qc];rfl);rw [HR.out];clear qc ha hb hc la lb lc vV pV g1 HC IB HO;rcases qa:evX k.env a with u|U
  ·rw [qa] at IA;unfold jh at IA;clear qa;go_enter Tryz.func44,Tryz.ntmps44;go_wp2_with fail;refine IC.out.mono ?_;rintro e w1 ⟨g2,⟨A1,n1,c1,rfl,N1,F1⟩,E1⟩;have G1:=hi9 g2;have K:=hi9 (zN A1 n1 c1 (zt true) 1 w1 N1 (by decide));rw [if_pos (show zf (zt true)=1 from rfl)] at K;have HN1:=hi9 N1;have HE1:=hi9 E1;clear g2 N1 F1 E1;go_wp2_with fail;refine K.out.mono ?_;rintro e w2 ⟨rfl,b2⟩;have HE2:=hi9 (HE1.out.keep b2);have G2:=hi9 (zk G1.out (zh b2 _));obtain⟨a1,rfl,hn1,⟨-,d1,-,-⟩,-,-⟩:=jm (HN1.out.keep b2) (by decide);have hi:(0:Int)<(n1:Int):=by omega
   have d1':w2.cell? ⟨a1.block,a1.off+1,none⟩=some (.int .i64 1):=d1;clear b2 d1 K HE1 HN1 G1;go_wp2_with fail;refine(IA.out w2 HE2.out).mono ?_;rintro e w3 ⟨g3,rfl⟩;have G3:=hi9 (zk G2.out g3);clear g3;go_wp2_with fail;exact⟨rfl,G3.out,rfl⟩
  ·rw [qa] at IA;unfold jh at IA;clear qa;go_enter Tryz.func44,Tryz.ntmps44;go_wp2_with fail;refine IC.out.mono ?_;rintro e w1 ⟨g2,⟨A1,n1,c1,rfl,N1,F1⟩,E1⟩;have G1:=hi9 g2;have K:=hi9 (zN A1 n1 c1 (zt true) 1 w1 N1 (by decide));rw [if_pos (show zf (zt true)=1 from rfl)] at K;have HN1:=hi9 N1;have HE1:=hi9 E1;clear g2 N1 F1 E1;go_wp2_with fail;refine K.out.mono ?_;rintro e w2 ⟨rfl,b2⟩;have HE2:=hi9 (HE1.out.keep b2);have G2:=hi9 (zk G1.out (zh b2 _));obtain⟨a1,rfl,hn1,⟨-,d1,-,-⟩,-,-⟩:=jm (HN1.out.keep b2) (by decide);have hi:(0:Int)<(n1:Int):=by omega
   have d1':w2.cell? ⟨a1.block,a1.off+1,none⟩=some (.int .i64 1):=d1;clear b2 d1 K HE1 HN1 G1;go_wp2_with fail;refine(IA.out w2 HE2.out).mono ?_;rintro e w3 ⟨g3,⟨A3,n3,c3,rfl,N3,F3⟩,E3⟩;have G3:=hi9 (zk G2.out g3);have S:=hi9 (zc8 E3 HB.out);have HN3:=hi9 N3;have HE3:=hi9 E3;have HF3:=hi9 (fun a' e'=>(F3 a' e').imp id (fun q=>Nat.le_trans G2.out.size q));clear g3 N3 E3 F3;go_wp2_with fail;refine S.out.mono ?_;rintro e w4 ⟨rfl,E4,g4⟩;have N4:=hi9 (HE3.out.ns HN3.out g4);have G4:=hi9 (zk G3.out g4);have HE4:=hi9 E4;clear E4 g4 S HE3 HN3;go_wp2_with fail;go_ret;exact⟨G4.out,⟨A3,n3,c3,rfl,N4.out,HF3.out⟩,HE4.out⟩
 ·have HR:=hi9 (show zcb k.env (.cons c (.cons a (.cons b .nil)))=evX k.env b by rw [zcb,qc];rfl);rw [HR.out];clear qc ha hb hc la lb lc vV pV g1 HC IA HO;rcases qb:evX k.env b with u|U
  ·rw [qb] at IB;unfold jh at IB;clear qb;go_enter Tryz.func44,Tryz.ntmps44;go_wp2_with fail;refine IC.out.mono ?_;rintro e w1 ⟨g2,⟨A1,n1,c1,rfl,N1,F1⟩,E1⟩;have G1:=hi9 g2;have K:=hi9 (zN A1 n1 c1 (zt false) 1 w1 N1 (by decide));rw [if_pos (show zf (zt false)=1 from rfl)] at K;have HN1:=hi9 N1;have HE1:=hi9 E1;clear g2 N1 F1 E1;go_wp2_with fail;refine K.out.mono ?_;rintro e w2 ⟨rfl,b2⟩;have HE2:=hi9 (HE1.out.keep b2);have G2:=hi9 (zk G1.out (zh b2 _));obtain⟨a1,rfl,hn1,⟨-,d1,-,-⟩,-,-⟩:=jm (HN1.out.keep b2) (by decide);have hi:(0:Int)<(n1:Int):=by omega
   have d1':w2.cell? ⟨a1.block,a1.off+1,none⟩=some (.int .i64 0):=d1;clear b2 d1 K HE1 HN1 G1;go_wp2_with fail;have S:=hi9 (zc8 HE2.out HA.out);refine S.out.mono ?_;rintro e w3 ⟨rfl,E3,g3⟩;have G3:=hi9 (zk G2.out g3);have HE3:=hi9 E3;clear E3 g3 S HE2;go_wp2_with fail;refine(IB.out w3 HE3.out).mono ?_;rintro e w4 ⟨g4,rfl⟩;have G4:=hi9 (zk G3.out g4);clear g4;go_wp2_with fail;exact⟨rfl,G4.out,rfl⟩
  ·rw [qb] at IB;unfold jh at IB;clear qb;go_enter Tryz.func44,Tryz.ntmps44;go_wp2_with fail;refine IC.out.mono ?_;rintro e w1 ⟨g2,⟨A1,n1,c1,rfl,N1,F1⟩,E1⟩;have G1:=hi9 g2;have K:=hi9 (zN A1 n1 c1 (zt false) 1 w1 N1 (by decide));rw [if_pos (show zf (zt false)=1 from rfl)] at K;have HN1:=hi9 N1;have HE1:=hi9 E1;clear g2 N1 F1 E1;go_wp2_with fail;refine K.out.mono ?_;rintro e w2 ⟨rfl,b2⟩;have HE2:=hi9 (HE1.out.keep b2);have G2:=hi9 (zk G1.out (zh b2 _));obtain⟨a1,rfl,hn1,⟨-,d1,-,-⟩,-,-⟩:=jm (HN1.out.keep b2) (by decide);have hi:(0:Int)<(n1:Int):=by omega
   have d1':w2.cell? ⟨a1.block,a1.off+1,none⟩=some (.int .i64 0):=d1;clear b2 d1 K HE1 HN1 G1;go_wp2_with fail;have S:=hi9 (zc8 HE2.out HA.out);refine S.out.mono ?_;rintro e w3 ⟨rfl,E3,g3⟩;have G3:=hi9 (zk G2.out g3);have HE3:=hi9 E3;clear E3 g3 S HE2;go_wp2_with fail;refine(IB.out w3 HE3.out).mono ?_;rintro e w4 ⟨g4,⟨A4,n4,c4,rfl,N4,F4⟩,E4⟩;have G4:=hi9 (zk G3.out g4);have HN4:=hi9 N4;have HE4:=hi9 E4;have HF4:=hi9 (fun a' e'=>(F4 a' e').imp id (fun q=>Nat.le_trans G3.out.size q));clear g4 N4 E4 F4;go_wp2_with fail;go_ret;exact⟨G4.out,⟨A4,n4,c4,rfl,HN4.out,HF4.out⟩,HE4.out⟩
end Go.Proofs.YtkfgabdnppmglaaGreatDoor
