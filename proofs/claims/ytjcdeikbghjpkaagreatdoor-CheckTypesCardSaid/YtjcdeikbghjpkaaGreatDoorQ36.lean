/-
  The document's KindAt: what its walk stands on. (gen_reftyk.py) The document's KindAt: all but And, If and records. (gen_reftyk.py)
-/
import Derived.Deep.RegionHeld3
import Derived.Test.YtjcdeikbghjpkaaGreatDoorQ12
import Derived.Test.YtjcdeikbghjpkaaGreatDoorQ24
import Derived.Test.YtjcdeikbghjpkaaGreatDoorQ29
import Derived.Test.YtjcdeikbghjpkaaGreatDoorQ35
set_option maxRecDepth 100000
set_option maxHeartbeats 40000000
namespace Go.Proofs.YtjcdeikbghjpkaaGreatDoor
open Go.RowKit Go.Wk Go.Sort
theorem zgj{y:Ex}{ps:Exs}(h:y∈ps.list):y.flat.length≤ps.flat.length:=by
 induction ps using Exs.rec (motive_1:=fun _=>True) with
 | node _ _ _=>trivial
 | nil=>cases h
 | cons x r _ ih =>
  simp only [Exs.flat,List.length_append]
  rcases List.mem_cons.1 h with rfl|h
  ·omega
  ·have:=ih h;omega
theorem ziH(c:Bool)(x:Ex):(zba c x).flat.length≤x.flat.length:=by
 unfold zba;split
 ·simp only [Ex.flat,Exs.flat,List.length_cons,List.length_append];omega
 ·exact Nat.le_refl _
theorem ziW{t:List Nd}{p N:Nat}{c:Bool}{ps:Exs}(h:zcB t p c ps)(hN:ps.flat.length≤N){j:Nat}{x:Ex}(hx:(ps.list.map (zba c))[j]?=some x):
 ∃q:Nat,(zaK c p ps)[j]?=some q∧XAt t q false x∧x.flat.length≤N:=by
 rw [List.getElem?_map,Option.map_eq_some_iff] at hx;obtain⟨y,hy,rfl⟩:=hx;obtain⟨q,e1,e2,-⟩:=h.at j y hy;exact⟨q,e1,e2,Nat.le_trans (ziH c y) (Nat.le_trans (zgj (List.mem_of_getElem? hy)) hN)⟩
theorem ze7(x:Ex):zba false x=x:=by cases x;rfl
theorem zbt{w:World}{B n:Nat}{e:TypeId}{size:Nat}{v:Value}{xs:List Value}(h:w.ownsRow B e size v n xs):∀g,v.ownBlock=some g→B≤g∧g<w.heap.size:=fun g hg=>⟨zD h g hg,zd9 h g hg⟩
theorem zU(w:World):Below w.heap.size w w.drew:=⟨rfl,rfl,rfl,Nat.le_refl _,fun _ _=>rfl⟩
theorem jH(w:World)(g:Nat)(x y:Value):w.grownBy ((w.setCell ⟨g,0,none⟩ x).setCell ⟨g,1,none⟩ y) (some g):=by
 have h1:=zg w ⟨g,0,none⟩ x;have h2:=zg (w.setCell ⟨g,0,none⟩ x) ⟨g,1,none⟩ y;exact⟨h2.os.trans h1.os,h2.tape.trans h1.tape,h2.output.trans h1.output,Nat.le_trans h1.size h2.size,fun i hi hn=>(h2.block i (Nat.lt_of_lt_of_le hi h1.size) hn).trans (h1.block i hi hn)⟩
theorem jy{w w':World}{B g:Nat}(h:Below B w w')(hg:B≤g)(x y:Value):Below B w ((w'.setCell ⟨g,0,none⟩ x).setCell ⟨g,1,none⟩ y):=(h.setCell (p:=⟨g,0,none⟩) hg x).setCell (p:=⟨g,1,none⟩) hg y
structure Vxi(w:World)(b:Nat)(x:Rs)(p:Addr)(i:Int):Prop where
 q:Vrs w b x
 i:w.cell? p=some (.int .i64 i)
theorem Vxi.keep{w w':World}{b:Nat}{x:Rs}{p:Addr}{i:Int}(h:Vxi w b x p i)(hb:Below w.heap.size w w'):Vxi w' b x p i:=⟨h.q.keep hb,zb hb h.i⟩
theorem Vrs.but{w w':World}{b:Nat}{x:Rs}{g:Nat}(h:Vrs w b x)(hg:w.grownBy w' (some g))(h1:b≠g):Vrs w' b x:=by
 have e1:some b≠some g:=fun e=>by injection e with e;exact h1 e
 exact⟨hg.cell h.c0 e1,hg.cell h.c1 e1,hg.cell h.c2 e1,hg.cell h.c3 e1,hg.cell h.c4 e1⟩
theorem Vxi.but{w w':World}{b:Nat}{x:Rs}{p:Addr}{i:Int}{g:Nat}(h:Vxi w b x p i)(hg:w.grownBy w' (some g))(h1:b≠g)(h2:p.block≠g):Vxi w' b x p i:=by
 have e2:some p.block≠some g:=fun e=>by injection e with e;exact h2 e
 exact⟨h.q.but hg h1,hg.cell h.i e2⟩
theorem zL{w:World}{b:Nat}{x:Rs}{p:Addr}{i:Int}(h:Vxi w b x p i):w.cell? ⟨b,0,none⟩=some (.slice x.s.KA x.s.kn x.s.kc)∧w.cell? ⟨b,1,none⟩=some (.slice x.s.AA x.s.an x.s.ac)∧w.cell? ⟨b,2,none⟩=some (.string x.who)∧w.cell? ⟨b,3,none⟩=some (.string x.what)∧w.cell? ⟨b,4,none⟩=some (.int .i64 x.i)∧w.cell? p=some (.int .i64 i):=
 ⟨h.q.c0,h.q.c1,h.q.c2,h.q.c3,h.q.c4,h.i⟩
theorem Vr2.belowK{w w':World}{b B:Nat}{x y:Value}(h:Vr2 w b x y)(hb:Below B w w')(hlt:b<B):Vr2 w' b x y :=
 ⟨(hb.cell (p:=⟨b,0,none⟩) hlt).trans h.c0,(hb.cell (p:=⟨b,1,none⟩) hlt).trans h.c1,(hb.frozen (p:=⟨b,0,none⟩) hlt).trans h.z0,(hb.frozen (p:=⟨b,1,none⟩) hlt).trans h.z1⟩
structure Kx where
 x:Rs
 A:Option Addr
 n:Nat
 c:Nat
 P:List Nd
structure zfD(w:World)(k:Kx):Prop where
 rs:zna w k.x
 ns:Ns w k.A k.n k.c k.P
theorem zfD.keep{w w':World}{k:Kx}(h:zfD w k)(hb:Below w.heap.size w w'):zfD w' k:=⟨h.rs.keep hb,h.ns.keep hb⟩
structure zdg(W w:World)(A:Option Addr)(n c:Nat)(L:List Ft)(l:Nat):Prop where
 at_:Fts w A n c L
 nil:A=none→n=0∧c=0
 len:L.length+l≤4000
 ok:∀y∈L,zhi W y
theorem zdg.keep{W w w':World}{A:Option Addr}{n c l:Nat}{L:List Ft}(h:zdg W w A n c L l)(hb:Below w.heap.size w w'):zdg W w' A n c L l:=⟨h.at_.keep hb,h.nil,h.len,h.ok⟩
theorem zdg.less{W w:World}{A:Option Addr}{n c l m:Nat}{L:List Ft}(h:zdg W w A n c L l)(hm:m≤l):zdg W w A n c L m:=⟨h.at_,h.nil,by have:=h.len;omega,h.ok⟩
def KaC(W:World)(k:Kx)(N:Nat):Prop:=∀(x:Ex) (p:Nat) (FA:Option Addr) (fn fc:Nat) (L:List Ft) (w:World),zfD w k→Below W.heap.size W w→XAt k.P p false x→x.flat.length≤N→zdg W w FA fn fc L x.flat.length→
 Calls Tryz.prog 15 #[k.x.v,.slice k.A k.n k.c,.int .i64 p,.slice FA fn fc] w (zR (fun b=>b<W.heap.size) w (tyX k.x.t x (ftK L)))
theorem zgv:jX [] []:=⟨rfl,fun _ h=>by cases h⟩
theorem jX.snoc{V:List Sl}{L:List Kd}{r:Sl}{k:Kd}(h:jX V L)(e:r.P=k.flat)(hv:k.valid):jX (V ++ [r]) (L ++ [k]):=
 ⟨by rw [List.map_append,List.map_append,h.1];simp [e],fun y hy=>(List.mem_append.1 hy).elim (h.2 y) (fun q=>by rw [List.mem_singleton.1 q];exact hv)⟩
theorem zjw(S:Nat→Prop)(n:Nd)(A:Option Addr)(m c:Nat)(V:List Sl)(L:List Kd)(w:World)(hV:V.length=m)(hm:m≤4000)(hA:zb6 w A V)(hK:jX V L)(hx:zad false n=true)(hp:(L.length:Int)=zp n)(h4:n.op≠4)(h5:n.op≠5)(h6:n.op≠6)(h8:n.op≠8)(h13:n.op≠13)(h22:n.op≠22):
 Calls Tryz.prog 35 #[.int .i64 n.op,.slice A m c] w (zR S w (zC n.op L)):=by
 obtain⟨o,on,os,ot⟩:=n;dsimp only at *;by_cases h1:o=1
 ·subst h1;exact zrq S A m c V L w hV hA hK
 by_cases h2:o=2
 ·subst h2;exact zsr S A m c V L w hV hA hK
 by_cases h3:o=3
 ·subst h3;exact zrF S A m c V L w hV hA hK
 by_cases h11:o=11
 ·subst h11;exact zmO S A m c V L w hV hA hK hm
 have hw:=zl7 (l:=L.length) hx hp h1 h2 h3 h4 h5 h6 h8 h11 h13;dsimp only at hw;rcases hw with ⟨ho,hl⟩|⟨ho,hl⟩
 ·have hL:∃k,L = [k]:=by
   match L,hl with
   | [k],_=>exact⟨k,rfl⟩
  have:o=9∨o=10∨o=21∨o=23∨o=24:=by omega
  rcases this with rfl|rfl|rfl|rfl|rfl
  ·exact zoW S A m c V L w hV hA hK hm
  ·exact zoB S A m c V L w hV hA hK hm
  ·exact zsG S A m c V L w hV hA hK hL
  ·exact zrK S A m c V L w hV hA hK hL
  ·exact ztf S A m c V L w hV hA hK hL
 ·have hL:∃k k2,L = [k,k2]:=by
   match L,hl with
   | [k,k2],_=>exact⟨k,k2,rfl⟩
  have:o=12∨o=14∨o=15∨o=16∨o=17∨o=18∨o=19∨o=20∨o=25∨o=26∨o=27:=by omega
  rcases this with rfl|rfl|rfl|rfl|rfl|rfl|rfl|rfl|rfl|rfl|rfl
  ·exact znJ S A m c V L w hV hA hK hm
  ·exact zta S A m c V L w hV hA hK
  ·exact zow S A m c V L w hV hA hK hm
  ·exact zo0 S A m c V L w hV hA hK hm
  ·exact zoz S A m c V L w hV hA hK hm
  ·exact zoH S A m c V L w hV hA hK hm
  ·exact zov S A m c V L w hV hA hK hm
  ·exact zti S A m c V L w hV hA hK hL
  ·exact zsz S A m c V L w hV hA hK hL
  ·exact zpJ S A m c V L w hV hA hK hL
  ·exact zpR S A m c V L w hV hA hK hL
theorem zq8(S:Nat→Prop)(x:Rs)(k0:Kd)(s:ByteArray)(A:Option Addr)(n c:Nat)(EA:Option Addr)(en ec:Nat)(P:List Nd)(FA:Option Addr)(fn fc:Nat)(L:List Ft)(w:World)(h:zna w x)(hs:s.size≤maxLen)(hA:∀a,A=some a→S a.block)(hB:∀y∈x.s.K,∀a,y.NA=some a→S a.block)(hk:KOk k0)(k:Ns w A n c k0.flat)(hE:Ns w EA en ec P)(hF:Fts w FA fn fc L):
 Calls Tryz.prog 34 #[x.v,.agg #[.slice A n c,.int .i64 0],.string s,.slice EA en ec,.slice FA fn fc] w (zR S w (zca x.t k0 s (jp (ftK L) P s))):=by
 cases k0 with
 | base o =>
  by_cases h9:o=49
  ·subst h9
   exact zrX S x s A n c EA en ec FA fn fc w hA k
  ·have hb:jq o:=hk.1
   have hg:zca x.t (.base o) s (jp (ftK L) P s)= .error 2:=by simp only [zca];exact if_neg h9
   rw [hg];refine zpT S x (.base o) s A n c EA en ec FA fn fc w k h9 ?_ ?_
   ·unfold jq at hb;show o≠44;omega
   ·unfold jq at hb;show o≠46;omega
 | ent u=>exact zsF S x u s A n c EA en ec P FA fn fc L w h hs hB k hE hF
 | set p=>exact zpT S x (.set p) s A n c EA en ec FA fn fc w k (by show(45:Int)≠49;decide) (by show(45:Int)≠44;decide) (by show(45:Int)≠46;decide)
 | fs g=>exact zsl S x g s A n c EA en ec P FA fn fc L w hs hk hA k hE hF
theorem zjT(A1 A2:Option Addr)(n1 c1 n2 c2:Nat)(a b:Kd)(w:World)(ha:KOk a)(hb:KOk b)(h:Ns w A1 n1 c1 a.flat)(k:Ns w A2 n2 c2 b.flat):
 Calls Tryz.prog 32 #[.slice A1 n1 c1,.slice A2 n2 c2] w (JnR w (zm a b) fun g=>InB A1 g∨InB A2 g):=
 zhB _ a b (Nat.le_refl _) (by have:=ha.2;have:=hb.2;omega) ha.1 hb.1 A1 A2 n1 c1 n2 c2 w h k
theorem zq2(W:World)(k:Kx)(N:Nat)(hW:KaC W k N)(n:Nd)(ps:Exs)(p:Nat)(FA:Option Addr)(fn fc:Nat)(L:List Ft)(w:World)(hCW:zfD W k)(h:zfD w k)(hb:Below W.heap.size W w)(hk:k.n≤4000)(hx:XAt k.P p false (.node n ps))(hN:ps.flat.length≤N)(hF:zdg W w FA fn fc L (ps.flat.length+1))(h6:n.op≠6)(h11:n.op≠11)(h13:n.op≠13):
 Calls Tryz.prog 15 #[k.x.v,.slice k.A k.n k.c,.int .i64 p,.slice FA fn fc] w (zR (fun b=>b<W.heap.size) w (tyX k.x.t (.node n ps) (ftK L))):=by
 obtain⟨i0,hi,hz0',hz1,hz2'⟩:=info_parts zkB;have KPo:=hi9 (fun w' (hb':Below w.heap.size w w')=>zbA k.A k.n k.c k.P p false (.node n ps) w' (h.ns.keep hb') hk hx);have HSW:=hi9 hb.size;have HCX:=hi9 (fun w' (hb':Below w.heap.size w w')=>h.keep hb');have HFA:=hi9 (fun w' (hb':Below w.heap.size w w')=>hF.keep hb');have HBW:=hi9 (fun w' (hb':Below w.heap.size w w')=>hb.trans (hb'.mono hb.size));have HST0:=hi9 h.rs.ok;have HHX:=hi9 (show zad false n=true from hx.valid.1);have HPN:=hi9 (show(ps.len:Int)=zp n from hx.valid.2.1);have HPA:=hi9 (show zcB k.P (p+1) (zA n) ps from hx.parts);have HPF:=hi9 hF.len;have HCT:=hi9 (show∀a,k.x.a.NA=some a→a.block<W.heap.size from fun a e=>Nat.lt_of_lt_of_le (hCW.rs.ctx a e) hCW.rs.d);have HKB:=hi9 (show∀y∈k.x.s.K,∀a,y.NA=some a→a.block<W.heap.size from fun y hy a e=>Nat.lt_of_lt_of_le (hCW.rs.kds y hy a e) hCW.rs.d);have HLE:=hi9 (show p+1+ps.flat.length≤k.n from by
  have h1:=hx.le
  have h3:(Ex.node n ps).flat.length=ps.flat.length+1:=by simp [Ex.flat]
  rw [h.ns.len];omega)
 have HNS:=hi9 (show n.s.size≤maxLen from(h.ns.ok _ (List.mem_of_getElem? hx.head)).s);have hps:ps.len≤4000:=by
  have h2:=zam ps;have h1:=HLE.out;omega
 obtain⟨PL,hPL⟩:∃PL:List (Ex × zy),PL=ps.list.map (fun x=>(x,ftK L)):=⟨_,rfl⟩
 have HLL:=hi9 (show PL.length=ps.len from by rw [hPL,List.length_map,zch]);have HXX:=hi9 hx;have hr:zA n=false:=decide_eq_false h6;have HPT:=hi9 (show∀(j:Nat) (hj:j<PL.length),∃q,(zaK (zA n) (p+1) ps)[j]?=some q∧XAt k.P q false PL[j].1∧PL[j].1.flat.length≤N∧PL[j].2=ftK L∧PL[j].1.flat.length≤ps.flat.length+1 from by
  intro j hj
  have hp:zcB k.P (p+1) (zA n) ps:=hx.parts
  rw [hr] at hp ⊢
  have hjl:j<ps.list.length:=by rw [hPL,List.length_map] at hj;exact hj
  obtain⟨q,z,xa,la⟩:=ziW hp hN (j:=j) (x:=ps.list[j]) (by rw [List.getElem?_map,List.getElem?_eq_getElem hjl];exact congrArg some (ze7 _))
  subst hPL
  simp only [List.getElem_map]
  exact⟨q,z,xa,la,trivial,Nat.le_succ_of_le (zgj (List.getElem_mem hjl))⟩)
 have HVA:=hi9 (show∀y∈PL,y.1.valid false from by
  intro y hy
  obtain⟨j,hj,rfl⟩:=List.getElem_of_mem hy
  obtain⟨q,-,xa,-⟩:=HPT.out j hj
  exact xa.valid)
 have KW:=hi9 (fun(x:Ex) (q:Nat) (FA':Option Addr) (fn' fc':Nat) (L':List Ft) (e:XAt k.P q false x) (l:x.flat.length≤N) w' (hb':Below w.heap.size w w') (hf:zdg W w' FA' fn' fc' L' x.flat.length)=>hW x q FA' fn' fc' L' w' (h.keep hb') (hb.trans (hb'.mono hb.size)) e l hf);unfold zR Rs.v at KW;obtain⟨a,ea,d0,d1,d2,d3⟩:=h.ns.at_ p n hx.head;have hpn:p<k.n:=by rw [h.ns.len];exact(List.getElem?_eq_some_iff.1 hx.head).1
 have hok:zcP n:=h.ns.ok _ (List.mem_of_getElem? hx.head);have B1':Below w.heap.size w (w.alloc (.cells #[.slice k.x.s.KA k.x.s.kn k.x.s.kc,.slice k.x.s.AA k.x.s.an k.x.s.ac,.string k.x.who,.string k.x.what,.int .i64 k.x.i] 52)):=za w _;have B2':Below w.heap.size w ((w.alloc (.cells #[.slice k.x.s.KA k.x.s.kn k.x.s.kc,.slice k.x.s.AA k.x.s.an k.x.s.ac,.string k.x.who,.string k.x.what,.int .i64 k.x.i] 52)).alloc (.cells #[.slice none 0 0,.int .i64 0] 30)):=B1'.trans ((za (w.alloc (.cells #[.slice k.x.s.KA k.x.s.kn k.x.s.kc,.slice k.x.s.AA k.x.s.an k.x.s.ac,.string k.x.who,.string k.x.what,.int .i64 k.x.i] 52)) _).mono B1'.size);have B0:=hi9 (show Below w.heap.size w (((w.alloc (.cells #[.slice k.x.s.KA k.x.s.kn k.x.s.kc,.slice k.x.s.AA k.x.s.an k.x.s.ac,.string k.x.who,.string k.x.what,.int .i64 k.x.i] 52)).alloc (.cells #[.slice none 0 0,.int .i64 0] 30)).alloc (.cells #[.int .i64 n.op,.int .i64 n.n,.string n.s,.string n.t] 41)) from B2'.trans ((za ((w.alloc (.cells #[.slice k.x.s.KA k.x.s.kn k.x.s.kc,.slice k.x.s.AA k.x.s.an k.x.s.ac,.string k.x.who,.string k.x.what,.int .i64 k.x.i] 52)).alloc (.cells #[.slice none 0 0,.int .i64 0] 30)) _).mono B2'.size));have hz2:((w.alloc (.cells #[.slice k.x.s.KA k.x.s.kn k.x.s.kc,.slice k.x.s.AA k.x.s.an k.x.s.ac,.string k.x.who,.string k.x.what,.int .i64 k.x.i] 52)).alloc (.cells #[.slice none 0 0,.int .i64 0] 30)).heap.size=w.heap.size+1+1:=by simp [go_sem]
 have V0:=hi9 (((zbf w k.x).keep (za _ (.cells #[.slice none 0 0,.int .i64 0] 30))).keep (za _ (.cells #[.int .i64 n.op,.int .i64 n.n,.string n.s,.string n.t] 41)));have X0:=zfj ((w.alloc (.cells #[.slice k.x.s.KA k.x.s.kn k.x.s.kc,.slice k.x.s.AA k.x.s.an k.x.s.ac,.string k.x.who,.string k.x.what,.int .i64 k.x.i] 52)).alloc (.cells #[.slice none 0 0,.int .i64 0] 30)) n 41;rw [hz2] at X0;have HX0:=hi9 X0;have R0:=hi9 ((zeH w (.cells #[.slice k.x.s.KA k.x.s.kn k.x.s.kc,.slice k.x.s.AA k.x.s.an k.x.s.ac,.string k.x.who,.string k.x.what,.int .i64 k.x.i] 52) 30).keep (za ((w.alloc (.cells #[.slice k.x.s.KA k.x.s.kn k.x.s.kc,.slice k.x.s.AA k.x.s.an k.x.s.ac,.string k.x.who,.string k.x.what,.int .i64 k.x.i] 52)).alloc (.cells #[.slice none 0 0,.int .i64 0] 30)) (.cells #[.int .i64 n.op,.int .i64 n.n,.string n.s,.string n.t] 41)));replace d0:=zb B2' d0;replace d1:=zb B2' d1;replace d2:=zb B2' d2;replace d3:=zb B2' d3;obtain⟨rr,hrr⟩:∃rr,rr=tyX k.x.t (.node n ps) (ftK L):=⟨_,rfl⟩
 have HEV:=hi9 (show tyX k.x.t (.node n ps) (ftK L)=(match tyM k.x.t PL with
  | .error e => .error e
  | .ok M=>zb2 k.x.t n ps (ftK L) M) from by rw [hPL];exact zop h11 h13 h6)
 rw [←hrr] at HEV ⊢;rw [ea] at KPo KW;rw [ea];have HEA:=hi9 ea;unfold Rs.v;unfold Rs.o at V0;dsimp only [Ex.parts,Ex.head] at KPo;clear h hx hok hrr hb hW X0 hN hCW hF B1' B2' hz2;go_enter Tryz.func15,Tryz.ntmps15;go_wp2_with fail;refine(KPo.out _ B0.out).mono ?_;rintro e w1 ⟨A',c',rfl,hc',hI,hIF,b1⟩;have B1:=bh B0 b1;have V1:=hi9 (V0.out.keep b1);have R1:=hi9 (R0.out.keep b1);have X1:=hi9 (HX0.out.keep b1);have HI1:=hi9 hI;have HIF:=hi9 (show∀a,A'=some a→w.heap.size+1<a.block from fun a e=>by
  have h1:=hIF a e
  have h2:w.heap.size+1<(((w.alloc (.cells #[.slice k.x.s.KA k.x.s.kn k.x.s.kc,.slice k.x.s.AA k.x.s.an k.x.s.ac,.string k.x.who,.string k.x.what,.int .i64 k.x.i] 52)).alloc (.cells #[.slice none 0 0,.int .i64 0] 30)).alloc (.cells #[.int .i64 n.op,.int .i64 n.n,.string n.s,.string n.t] 41)).heap.size:=block_lt_of_cell R0.out.c0
  omega)
 clear hI hIF b1 B0 V0 R0 HX0 KPo d0 d1 d2 d3;obtain⟨x0,x1,x2,x3⟩:=X1.out;obtain⟨pl,hpl⟩:∃pl,pl=ps.len:=⟨_,rfl⟩
 obtain⟨m,hm⟩:∃m,m=pl+1:=⟨_,rfl⟩
 have HPL:=hi9 hpl;rw [←hpl] at hps hc' ⊢;rw [←hm] at hc' ⊢;have HCM:=hi9 hc';have hmm:(m:Int)-1=(pl:Int):=by omega
 have hm4:m≤4001:=by omega
 have HM:=hi9 hm;have HLL2:=hi9 (show PL.length=pl by rw [hpl];exact HLL.out);clear hpl hm HLL hc';go_wp2_with fail;refine(jV _ _ _ _).mono ?_;rintro e w2 ⟨rfl,b2⟩;have bl:=za w1 (.cells #[.int .i64 46,.int .i64 n.n,.string ⟨#[]⟩,.string ⟨#[]⟩] 41);have b12:=bl.trans (b2.mono bl.size);have B2:=bh B1 b12;have V2:=hi9 (V1.out.keep b12);have R2:=hi9 (R1.out.keep b12);have X2:=hi9 (X1.out.keep b12);have HI2:=hi9 (HI1.out.keep b12);clear bl b12 b2 B1 V1 R1 X1 HI1 x0 x1 x2 x3;obtain⟨x0,x1,x2,x3⟩:=X2.out;go_wp2_with fail;have bo:=za w2 (.cells #[.slice (some ⟨w1.heap.size,0,none⟩) 1 1,.int .i64 0] 30);have Bb:=bh B2 bo;have Vb:=hi9 (V2.out.keep bo);have Rb:=hi9 (R2.out.keep bo);have Xb:=hi9 (X2.out.keep bo);have HI:=hi9 (HI2.out.keep bo);obtain⟨wb,hwb⟩:∃wb,w2.alloc (.cells #[.slice (some ⟨w1.heap.size,0,none⟩) 1 1,.int .i64 0] 30)=wb:=⟨_,rfl⟩
 rw [hwb] at Bb Vb Rb Xb HI ⊢;clear bo hwb B2 V2 R2 X2 HI2 x0 x1 x2 x3;obtain⟨x0,x1,x2,x3⟩:=Xb.out;have G0:=hi9 (zbI.nil wb wb.heap.size);have HRb:=hi9 (show w.heap.size+1<wb.heap.size from block_lt_of_cell Rb.out.c0);have g6:(n.op==6)=false:=beq_eq_false_iff_ne.2 h6;have g11:(n.op==11)=false:=beq_eq_false_iff_ne.2 h11;have g13:(n.op==13)=false:=beq_eq_false_iff_ne.2 h13;have HWW:=hi9 (show w.heap.size≤wb.heap.size from Bb.out.size);go_loopw [11,13] (fun v i wr=>∃(j:Nat) (Vs:List Sl) (Ks:List Kd) (A8:Option Addr) (c8:Nat),i = .int .i64 j∧j≤pl∧v = .slice A8 j c8∧Vs.length=j∧Hid (tyM k.x.t (PL.take j)= .ok Ks)∧Hid (jX Vs Ks)∧Hid (zbI wr wb.heap.size v Vs)∧Hid (∀r∈Vs,∀a,r.A=some a→a.block<W.heap.size∨wb.heap.size≤a.block)∧Hid (Below wb.heap.size wb wr)) (fun _ i _=>pl-(intOf i).toNat)
 case atStart=>exact⟨0,[],[],none,0,rfl,Nat.zero_le _,rfl,rfl,hi9 rfl,hi9 zgv,G0,hi9 (by intro r hr;cases hr),hi9 (Below.refl _ _)⟩
 case round =>
  clear G0;obtain⟨j,Vs,Ks,A8,c8,rfl,hj,rfl,hVl,hE,hKA,hG,hF,hB⟩:=hrel;obtain⟨w3,rfl⟩:∃w3:World,w3=wr:=⟨_,rfl⟩
  have B3:=bh Bb hB.out;have R3:=hi9 (Rb.out.keep hB.out);have X3:=hi9 (Xb.out.keep hB.out);clear x0 x1 x2 x3;obtain⟨x0,x1,x2,x3⟩:=X3.out;by_cases hlt:j<pl
  ·have hjl:j<PL.length:=by rw [HLL2.out];exact hlt
   obtain⟨q,e1,hqx,hql,hq2,hqn⟩:=HPT.out j hjl;obtain⟨a',ea',qc⟩:=(HI.out.keep hB.out) j q e1;have HST:=zfz hjl hE.out;rw [hq2] at HST;have V3:=hi9 (⟨Vb.out.keep hB.out,qc⟩:Vxi w3 w.heap.size k.x (a'.add j) (q:Int));have KX:=hi9 (fun w' (hb':Below w3.heap.size w3 w')=>KW.out PL[j].1 q FA fn fc L hqx hql w' (bh B3 hb').out ((HFA.out w' (bh B3 hb').out).less hqn));have HFX:=hi9 (show(tyE (tyX k.x.t PL[j].1 (ftK L))≠0→rr=tyX k.x.t PL[j].1 (ftK L))∧(tyE (tyX k.x.t PL[j].1 (ftK L))=0→∃kk,tyX k.x.t PL[j].1 (ftK L)= .ok kk∧KOk kk∧tyM k.x.t (PL.take (j+1))= .ok (Ks ++ [kk])) from by
    have h1:=zdW k.x.t PL[j].1 false (ftK L) hqx.valid
    have h2:=zc2 HST0.out PL[j].1 false (ftK L) hqx.valid
    rcases qx:tyX k.x.t PL[j].1 (ftK L) with u|kk
    ·exact⟨fun _=>by rw [HEV.out,HST.2 u qx],fun h0=>absurd (by rw [qx];exact congrArg Except.error h0) h1⟩
    ·rw [qx] at h2
     exact⟨fun h0=>absurd rfl h0,fun _=>⟨kk,rfl,h2,HST.1 kk qx⟩⟩)
   generalize tyX k.x.t PL[j].1 (ftK L)=rx at *;have hjm:(j:Int)<(m:Int):=by omega
   have hjm':j<m:=by have:=HM.out;omega
   clear HST e1 hqx hql hq2 hqn qc;subst ea';have hj1:((j:Int)==1)=true∨((j:Int)==1)=false:=by cases ((j:Int)==1)<;> simp
   rcases hj1 with hj1|hj1
   all_goals
    go_wp2_with fail;have bd:=zU w3;have bx:RowKit.Below w3.heap.size w3 (w3.alloc (.cells #[.slice none 0 0,.int .i64 0] 30)).drew:=(za w3 _).trans ((zU _).mono (za w3 _).size);have Vd:=hi9 (V3.out.keep bd);have Vx:=hi9 (V3.out.keep bx);have Bd:=bh B3 bd;have Bx:=bh B3 bx;have Qd:=hi9 bd;have Qx:=hi9 bx;have Rd:=hi9 (R3.out.keep bd);have Rx:=hi9 (R3.out.keep bx);have Cx:=hi9 ((zQ w3 (.slice none 0 0) (.int .i64 0) 30).keep (zU _));have K0:=hi9 (KX.out w3.drew Qd.out);have K1:=hi9 (KX.out (w3.alloc (.cells #[.slice none 0 0,.int .i64 0] 30)).drew Qx.out);have hzx:(w3.alloc (.cells #[.slice none 0 0,.int .i64 0] 30)).drew.heap.size=w3.heap.size+1:=by simp [go_sem]
    have HZX:=hi9 hzx;have hrb:w.heap.size+1<w3.heap.size:=block_lt_of_cell R3.out.c0;have HRB3:=hi9 hrb;have hpb:((a'.add j):Addr).block<w3.heap.size:=block_lt_of_cell V3.out.i;have hn1:w.heap.size≠w3.heap.size:=by omega
    have hn2:((a'.add j):Addr).block≠w3.heap.size:=Nat.ne_of_lt hpb;clear bd bx hzx;go_region_held3 (fun w':World=>w'.cell? ⟨w.heap.size,0,none⟩=some (.slice k.x.s.KA k.x.s.kn k.x.s.kc)∧w'.cell? ⟨w.heap.size,1,none⟩=some (.slice k.x.s.AA k.x.s.an k.x.s.ac)∧w'.cell? ⟨w.heap.size,2,none⟩=some (.string k.x.who)∧w'.cell? ⟨w.heap.size,3,none⟩=some (.string k.x.what)∧w'.cell? ⟨w.heap.size,4,none⟩=some (.int .i64 k.x.i)∧w'.cell? (a'.add j)=some (.int .i64 (q:Int))) (first|(with_reducible exact zL Vs.out)|(with_reducible exact zL Vz.out)|(with_reducible exact zL Vy.out)|(with_reducible exact zL V4.out)|(with_reducible exact zL Vx.out)|(with_reducible exact zL Vd.out)|(with_reducible exact zL V3.out)) (first
     |(go_at_call 15;(with_reducible refine K1.out.mono ?_);rintro e w4 ⟨A5,n5,c5,rfl,hN,hf,b4⟩;have N4:=hi9 hN;have F4:=hi9 hf;have B4:=bh Bx b4;have Q4:=bh Qx b4;have V4:=hi9 (Vx.out.keep b4);have R4:=hi9 (Rx.out.keep b4);have C4:=hi9 (Cx.out.keep b4);have Vs:=hi9 (V4.out.but (jH w4 w3.heap.size (.slice A5 n5 c5) (.int .i64 (tyE rx))) hn1 hn2);obtain⟨y0,y1,y2,y3⟩:=C4.out)
     |(go_at_call 15;(with_reducible refine K0.out.mono ?_);rintro e w4 ⟨A5,n5,c5,rfl,hN,hf,b4⟩;have N4:=hi9 hN;have F4:=hi9 hf;have B4:=bh Bd b4;have Q4:=bh Qd b4;have V4:=hi9 (Vd.out.keep b4);have R4:=hi9 (Rd.out.keep b4);have Vy:=hi9 (V4.out.keep (za w4 (.cells #[.slice none 0 0,.int .i64 0] 30)));have Vz:=hi9 (V4.out.keep (za w4 (.cells #[.slice A5 n5 c5,.int .i64 (tyE rx)] 30)))))
    focus
     have bz:=za w4 (.cells #[.slice A5 n5 c5,.int .i64 (tyE rx)] 30);have B5:=bh B4 bz;have V5:=hi9 (V4.out.keep bz);have R5:=hi9 (R4.out.keep bz);have C5:=hi9 (zQ w4 (.slice A5 n5 c5) (.int .i64 (tyE rx)) 30);have N5:=hi9 (N4.out.keep bz);have hwj:w3.heap.size≤w4.heap.size:=Q4.out.size;have HC5:=hi9 (show w3.heap.size≤w4.heap.size from hwj);have F5:=hi9 (show∀a,A5=some a→(a.block<W.heap.size∨w3.heap.size≤a.block) from fun a e=>(F4.out a e).imp id (fun q=>by simpa [go_sem] using q));have Q5:=bh Q4 bz;obtain⟨cb5,hcb⟩:∃cb,w4.heap.size=cb:=⟨_,rfl⟩
     obtain⟨w5,hw5⟩:∃w2,(w4.alloc (.cells #[.slice A5 n5 c5,.int .i64 (tyE rx)] 30))=w2:=⟨_,rfl⟩
     rw [hw5] at B5 V5 R5 C5 N5 Q5 ⊢;rw [hcb] at C5 HC5 ⊢;clear bz hw5 hcb hwj Vy Vz
    rotate_left
    focus
     have hg:=jH w4 w3.heap.size (.slice A5 n5 c5) (.int .i64 (tyE rx));have hsz0:w.heap.size≤w3.heap.size:=B3.out.size;have B5:=hi9 (jy B4.out hsz0 (.slice A5 n5 c5) (.int .i64 (tyE rx)));have V5:=Vs;have R5:=hi9 (R4.out.but hg (fun e=>by injection e with e;omega));have C5:=hi9 (C4.out.set (.slice A5 n5 c5) (.int .i64 (tyE rx)));have HC5:=hi9 (Nat.le_refl w3.heap.size);have N5:=hi9 (N4.out.but hg (fun _ a e q=>by rcases F4.out a e with h1|h1 <;>(have:=HSW.out;have:=HZX.out;omega)));have F5:=hi9 (show∀a,A5=some a→(a.block<W.heap.size∨w3.heap.size≤a.block) from fun a e=>(F4.out a e).imp id (fun q=>by have:=HZX.out;omega));have Q5:=hi9 (jy Q4.out (Nat.le_refl _) (.slice A5 n5 c5) (.int .i64 (tyE rx)));obtain⟨cb5,hcb⟩:∃cb,w3.heap.size=cb:=⟨_,rfl⟩
     obtain⟨w5,hw5⟩:∃w2,((w4.setCell ⟨w3.heap.size,0,none⟩ (.slice A5 n5 c5)).setCell ⟨w3.heap.size,1,none⟩ (.int .i64 (tyE rx)))=w2:=⟨_,rfl⟩
     rw [hw5] at B5 V5 R5 C5 N5 Q5 ⊢;rw [hcb] at C5 ⊢;replace HC5:=hi9 (show w3.heap.size≤cb5 from Nat.le_of_eq hcb);clear hg hw5 hcb hsz0 Vs y0 y1 y2 y3 C4
    rotate_left
    all_goals
     clear V4 B4 R4 N4 F4 Q4 Vd Vx Bd Bx Rd Rx Cx K0 K1 HZX hrb hpb hn1 hn2 b4 hN hf V3 B3 R3 Qd Qx;by_cases hu:tyE rx=0
     case neg =>
      have hf:(tyE rx != 0)=true:=by simpa using hu
      obtain⟨y0,y1,y2,y3⟩:=C5.out;have FX:=hi9 (show∀a,A5=some a→(a.block<W.heap.size∨w.heap.size≤a.block)∧a.block≠w.heap.size+1 from fun a e=>by
       have h2:w.heap.size+1<w3.heap.size:=HRB3.out
       have h3:=HSW.out
       rcases F5.out a e with h1|h1
       ·exact⟨.inl h1,by omega⟩
       ·exact⟨.inr (by omega),by omega⟩)
      have RS:=R5.out.set (.slice A5 n5 c5) (.int .i64 (tyE rx));obtain⟨s0,s1,-,-⟩:=RS;have GF:=hi9 (zq (S:=fun b=>b<W.heap.size) (r:=rx) N5.out FX.out B5.out (show w.heap.size≤w.heap.size+1 by omega));obtain⟨r0,r1,z0,z1⟩:=R5.out;go_wp2_with fail;exact bodyPost_ret (v := .agg #[.slice A5 n5 c5,.int .i64 (tyE rx)]) (by simp [results,Tryz.results15,go_sem,s0,s1]) rfl (by rw [HFX.out.1 hu];exact GF.out)
     obtain⟨kk,rfl,hkk,hst⟩:=HFX.out.2 hu;have HKK:=hi9 hkk;have HE6:=hi9 hst;have HST2:=HE6;replace C5:=hi9 (show Vr2 w5 cb5 (.slice A5 n5 c5) (.int .i64 0) from C5.out);replace N5:=hi9 (show Ns w5 A5 n5 c5 kk.flat from N5.out);clear hu hkk hst HFX x0 x1 x2 x3;obtain⟨x0,x1,x2,x3⟩:=X3.out.keep Q5.out;obtain⟨y0,y1,y2,y3⟩:=C5.out;have hgl:∀g,(Value.slice A8 j c8).ownBlock=some g→wb.heap.size≤g∧g<w3.heap.size:=zbt hG.out.own;have G5:=hi9 (hG.out.keep Q5.out);have AP:=hi9 (show za3 ⟨A5,n5,c5,kk.flat⟩ (Value.slice A8 j c8).ownBlock from fun _ a e q=>by
      have h1:=hgl _ q
      have h2:=HRb.out
      have h3:=HSW.out
      have h4:=HWW.out
      rcases F5.out a e with h4|h4 <;> omega)
     have FN:=hi9 (show∀a,A5=some a→a.block<W.heap.size∨wb.heap.size≤a.block from fun a e=>(F5.out a e).imp id (fun q=>Nat.le_trans hB.out.size q));have HB5:=hi9 (hB.out.trans (Q5.out.mono hB.out.size));have hsz5:=HB5.out.size;have hvl4:Vs.length≤4000:=by omega
     clear hgl;go_wp2_with (at_builtin;go_loud (refine wpList_append_own_at _ rfl _ _ 69 rfl wb.heap.size 30 i0 _ 2 32 Tryz.underlying69 hi hz0' hz1 hz2' rfl (by decide) (.slice A8 j c8) Vs.length (zaw Vs) rfl (G5.out.own.alloc _) ⟨_,0,none⟩ 1 1 [.slice A5 n5 c5,.int .i64 0] rfl rfl (zV _ _ _) (by intro u hu;simp only [List.mem_cons,List.not_mem_nil,or_false] at hu;rcases hu with rfl|rfl <;> rfl) ?c1 ?c2 ?c3 ?_))
     case c1=>unfold maxLen;omega
     case c2=>omega
     case c3=>simp;omega
     intro v1 w6 hown hgrow _ hat;have G6:=hi9 (G5.out.snoc (r:=⟨A5,n5,c5,kk.flat⟩) N5.out AP.out (by rw [hVl];exact hown) hgrow (by simpa using hat));have HB6:=hi9 ((HB5.out.alloc HB5.out.size _).grown hgrow (by simp;omega) (zD G5.out.own));obtain⟨A9,c9,e9,-⟩:=G6.out.at
     subst e9;have hl9:(Vs ++ [(⟨A5,n5,c5,kk.flat⟩:Sl)]).length=j+1:=by simp [hVl]
     have KA6:=hi9 (hKA.out.snoc (r:=⟨A5,n5,c5,kk.flat⟩) (k:=kk) rfl HKK.out.1);have HF6:=hi9 (show∀r∈Vs ++ [(⟨A5,n5,c5,kk.flat⟩:Sl)],∀a,r.A=some a→a.block<W.heap.size∨wb.heap.size≤a.block from fun r hr=>by
      rcases List.mem_append.1 hr with h1|h1
      ·exact hF.out r h1
      ·simp only [List.mem_cons,List.not_mem_nil,or_false] at h1
       subst h1
       exact FN.out)
     rw [hl9] at G6 ⊢;clear hown hgrow hat AP FN hG hF hE hB HB5 G5 N5 C5 y0 y1 y2 y3 B5 V5 R5 F5 HC5 Q5 HST2 KX hsz5 hKA;go_wp2_with fail;go_roundw
     case rel=>exact⟨j+1,_,Ks ++ [kk],A9,c9,by go_num,by omega,rfl,hl9,HE6,KA6,G6,HF6,HB6⟩
     case measure=>simp [intOf];omega
  ·have hjp:j=pl:=by omega
   subst hjp;have HAL:=hi9 (show PL.take j=PL from List.take_of_length_le (by rw [HLL2.out];exact Nat.le_refl _));have hE2:=hE.out;rw [HAL.out] at hE2;have HRR:=HEV.out;rw [hE2] at HRR;simp only at HRR;have HRX:=hi9 HRR;have HOK:=hi9 (zkm HST0.out HVA.out hE2);obtain⟨A9,c9,e9,hGs⟩:=hG.out.at
   injection e9 with e91 e92 e93;subst e91;subst e93;have HGs:=hi9 hGs;have V3:=hi9 (Vb.out.keep hB.out);have HRB3:=hi9 (show w.heap.size+1<w3.heap.size from block_lt_of_cell R3.out.c0);have HWB:=hi9 (show wb.heap.size≤w3.heap.size from hB.out.size);have HKN:=hi9 (show(Ks.length:Int)=zp n from by rw [←hKA.out.len,hVl,HPL.out];exact HPN.out);have hj4:j≤4000:=hps;have HGB:=hi9 (show∀ga,A8=some ga→wb.heap.size≤ga.block from fun ga e=>(zbt hG.out.own ga.block (by rw [e];rfl)).1);clear e92 hGs hE2 HRR HEV hE HAL hG;by_cases h8:n.op=8
   ·have HR8:=hi9 (show rr=jF k.x.t n.s from by rw [HRX.out];unfold zb2;rw [if_neg (by omega),if_neg (by omega),if_neg (by omega),if_neg (by omega),if_pos h8]);have KN:=hi9 (fun w' (hb':Below w.heap.size w w')=>zmL (fun b=>b<W.heap.size) k.x n.s w' ((HCX.out w' hb').rs) (fun a e=>⟨HCT.out a e,Nat.lt_of_lt_of_le (HCT.out a e) (Nat.le_trans HSW.out hb'.size)⟩));rw [←HR8.out] at KN;unfold zR Rs.v at KN;have g8:(n.op==8)=true:=beq_iff_eq.2 h8;have g6:(n.op==6)=false:=beq_eq_false_iff_ne.2 h6;obtain⟨v0,v1,v2,v3,v4⟩:=V3.out;clear HR8 HRX hF hKA HGs;go_wp2_with fail;refine(KN.out _ B3.out).mono ?_;rintro e w5 ⟨A5,n5,c5,rfl,hN5,hf5,b5⟩;have B5:=bh B3 b5;have R5:=hi9 (R3.out.keep b5);have N5:=hi9 hN5;have F5:=hi9 (show∀a,A5=some a→a.block<W.heap.size∨w3.heap.size≤a.block from fun a e=>hf5 a e);clear b5 hN5 hf5;have FX:=hi9 (show∀a,A5=some a→(a.block<W.heap.size∨w.heap.size≤a.block)∧a.block≠w.heap.size+1 from fun a e=>by
     have h2:w.heap.size+1<w3.heap.size:=HRB3.out
     have h3:=HSW.out
     rcases F5.out a e with h1|h1
     ·exact⟨.inl h1,by omega⟩
     ·exact⟨.inr (by omega),by omega⟩)
    have RS:=R5.out.set (.slice A5 n5 c5) (.int .i64 (tyE rr));obtain⟨s0,s1,-,-⟩:=RS;have GF:=hi9 (zq (S:=fun b=>b<W.heap.size) (r:=rr) N5.out FX.out B5.out (show w.heap.size≤w.heap.size+1 by omega));obtain⟨r0,r1,z0,z1⟩:=R5.out;go_wp2_with fail;exact bodyPost_ret (v := .agg #[.slice A5 n5 c5,.int .i64 (tyE rr)]) (by simp [results,Tryz.results15,go_sem,s0,s1]) rfl GF.out
   by_cases h4:n.op=4
   ·have HR4:=hi9 (show rr = .ok (.ent n.s) from by rw [HRX.out];unfold zb2;rw [if_neg (by omega),if_neg (by omega),if_neg (by omega),if_pos h4]);have g4:(n.op==4)=true:=beq_iff_eq.2 h4;have g6:(n.op==6)=false:=beq_eq_false_iff_ne.2 h6;have g8:(n.op==8)=false:=beq_eq_false_iff_ne.2 h8;have NL:=hi9 (zcN w3 ⟨44,0,n.s,emp⟩ ⟨HNS.out,Nat.zero_le _,by show _≤(0:Int);decide,by show(0:Int)≤_;decide⟩);have bl:=za w3 (.cells #[.int .i64 44,.int .i64 0,.string n.s,.string ⟨#[]⟩] 41);have B4:=bh B3 bl;have R4:=hi9 (R3.out.keep bl);clear HRX hF hKA HGs bl;go_wp2_with fail;refine(jV _ _ _ _).mono ?_;rintro e w5 ⟨rfl,b5⟩;have B5:=bh B4 b5;have R5:=hi9 (R4.out.keep b5);have N5:=hi9 (NL.out.keep b5);have F5:=hi9 (show∀a,some (⟨w3.heap.size,0,none⟩:Addr)=some a→a.block<W.heap.size∨w3.heap.size≤a.block from fun a e => .inr (by injection e with e;subst e;exact Nat.le_refl _));clear b5;have FX:=hi9 (show∀a,some (⟨w3.heap.size,0,none⟩:Addr)=some a→(a.block<W.heap.size∨w.heap.size≤a.block)∧a.block≠w.heap.size+1 from fun a e=>by
     have h2:w.heap.size+1<w3.heap.size:=HRB3.out
     have h3:=HSW.out
     rcases F5.out a e with h1|h1
     ·exact⟨.inl h1,by omega⟩
     ·exact⟨.inr (by omega),by omega⟩)
    have RS:=R5.out.set (.slice (some ⟨w3.heap.size,0,none⟩) 1 1) (.int .i64 0);obtain⟨s0,s1,-,-⟩:=RS;have GF:=hi9 (zq (S:=fun b=>b<W.heap.size) (r := .ok (.ent n.s)) N5.out FX.out B5.out (show w.heap.size≤w.heap.size+1 by omega));obtain⟨r0,r1,z0,z1⟩:=R5.out;go_wp2_with fail;exact bodyPost_ret (v := .agg #[.slice (some ⟨w3.heap.size,0,none⟩) 1 1,.int .i64 0]) (by simp [results,Tryz.results15,go_sem,s0,s1]) rfl (by rw [HR4.out];exact GF.out)
   by_cases h5:n.op=5
   ·have HR5:=hi9 (show rr=zaF (.base 49) Ks from by rw [HRX.out];unfold zb2;rw [if_neg (by omega),if_neg (by omega),if_neg (by omega),if_neg h4,if_neg h8,if_pos h5]);have g5:(n.op==5)=true:=beq_iff_eq.2 h5;clear h5;have g6:(n.op==6)=false:=beq_eq_false_iff_ne.2 h6;have g8:(n.op==8)=false:=beq_eq_false_iff_ne.2 h8;have g4:(n.op==4)=false:=beq_eq_false_iff_ne.2 h4;have bl:=za w3 (.cells #[.int .i64 49,.int .i64 0,.string ⟨#[]⟩,.string ⟨#[]⟩] 41);have B4:=bh B3 bl;have R4:=hi9 (R3.out.keep bl);have G4:=hi9 (HGs.out.keep bl);have N0:=hi9 (show Ns (w3.alloc (.cells #[.int .i64 49,.int .i64 0,.string ⟨#[]⟩,.string ⟨#[]⟩] 41)) (some ⟨w3.heap.size,0,none⟩) 1 1 (Kd.base 49).flat from zcN w3 ⟨49,0,emp,emp⟩ (znH 49));have HQ4:=hi9 (show w3.heap.size≤(w3.alloc (.cells #[.int .i64 49,.int .i64 0,.string ⟨#[]⟩,.string ⟨#[]⟩] 41)).heap.size from bl.size);clear HRX hF HGs;go_wp2_with fail;clear hlt hj;obtain⟨w4,hw4⟩:∃w4,w3.alloc (.cells #[.int .i64 49,.int .i64 0,.string ⟨#[]⟩,.string ⟨#[]⟩] 41)=w4:=⟨_,rfl⟩
    rw [hw4] at B4 R4 G4 N0 HQ4 ⊢;clear hw4 bl;go_loopw [16,17] (fun v i wr=>∃(t:Nat) (kk:Kd) (A0:Option Addr) (n0 d0:Nat),i = .int .i64 t∧t≤j∧v = .slice A0 n0 d0∧Hid (Ns wr A0 n0 d0 kk.flat)∧Hid (KOk kk)∧Hid (rr=zaF kk (Ks.drop t))∧Hid (Below w4.heap.size w4 wr)) (fun _ i _=>j-(intOf i).toNat)
    case atStart=>exact⟨0,.base 49,_,1,1,rfl,Nat.zero_le _,rfl,N0,hi9 (zcc (by decide)),HR5,hi9 (Below.refl _ _)⟩
    case round =>
     clear N0 HR5;obtain⟨t,kk,A0,n0,d0,rfl,ht,rfl,hN,hKK,hJ,hB4⟩:=hrel;obtain⟨w5,rfl⟩:∃w5:World,w5=wr:=⟨_,rfl⟩
     have B5:=bh B4 hB4.out;have R5:=hi9 (R4.out.keep hB4.out);by_cases hlt2:t<j
     ·obtain⟨ga,rfl,u0,u1,hl,hv,hNt,-⟩:=jo (G4.out.keep hB4.out) hKA.out (show t<Vs.length by omega);have KJ:=hi9 (zjT A0 Vs[t].A n0 d0 Vs[t].n Vs[t].c kk Ks[t] w5 hKK.out (HOK.out _ (List.getElem_mem hl)) hN.out hNt);have HKO:=hi9 (HOK.out _ (List.getElem_mem hl));have HD:=hi9 (hJ.out.trans (congrArg (zaF kk) (List.drop_eq_getElem_cons hl)));have htj:(t:Int)<(j:Int):=by omega
      unfold JnR at KJ;generalize Ks[t]=k2 at *;generalize Vs[t]=y at *;have HFL:=hi9 (jd (zm kk k2));have HJV:=hi9 (zay _ kk k2 (Nat.le_refl _) hKK.out.1 HKO.out.1);obtain⟨ln,hln⟩:∃ln,ln=(zm kk k2).flat.length:=⟨_,rfl⟩
      rw [←hln] at KJ HFL;clear hl hv hNt hln;go_wp2_with fail;refine KJ.out.mono ?_;rintro e w6 ⟨A6,c6,rfl,hN6,b6,-⟩;have B6:=bh B5 b6;have R6:=hi9 (R5.out.keep b6);have N6:=hi9 hN6;have BB6:=bh hB4 b6;clear b6 hN6 KJ u0 u1 B5 R5;by_cases hbig:200<ln
      ·have HRE:=hi9 (show rr = .error 4 from by rw [HD.out,zaF,if_pos (by rw [←HFL.out];exact hbig)]);go_wp2_with fail;refine(zH _ _).mono ?_;rintro e w7 ⟨rfl,b7⟩;have B7:=bh B6 b7;have R7:=hi9 (R6.out.keep b7);clear b7;have RS:=R7.out.set (.slice none 0 0) (.int .i64 4);obtain⟨s0,s1,-,-⟩:=RS;have GF:=hi9 (zq (S:=fun b=>b<W.heap.size) (r := .error 4) (zY _) (zI (S:=fun b=>b<W.heap.size)) B7.out (show w.heap.size≤w.heap.size+1 by omega));obtain⟨r0,r1,z0,z1⟩:=R7.out;go_wp2_with fail;exact bodyPost_ret (v := .agg #[.slice none 0 0,.int .i64 4]) (by simp [results,Tryz.results15,go_sem,s0,s1]) rfl (by rw [HRE.out];exact GF.out)
      ·have HRN:=hi9 (show rr=zaF (zm kk k2) (Ks.drop (t+1)) from by rw [HD.out,zaF,if_neg (by rw [←HFL.out];exact hbig)]);have HKN2:=hi9 (show KOk (zm kk k2) from⟨HJV.out,by rw [←HFL.out];omega⟩);go_wp2_with fail;go_roundw
       case rel=>exact⟨t+1,zm kk k2,A6,ln,c6,by go_num,by omega,rfl,N6,HKN2,HRN,BB6⟩
       case measure=>simp [intOf];omega
     ·have htj:t=j:=by omega
      subst htj;have HRF:=hi9 (show rr=za6 (.set kk) from by
       have hkl:Ks.length=t:=by rw [←hKA.out.len,hVl]
       rw [hJ.out,List.drop_of_length_le (by omega)];rfl)
      have N5:=hN;have hle5:=hKK.out.2;have hn5:n0=kk.flat.length:=N5.out.len;have HFK:=hi9 (jd kk);have hk0:=jL kk;have NR:=hi9 (zdi.one w5 ⟨45,0,emp,emp⟩);have bl2:=za w5 (.cells #[.int .i64 45,.int .i64 0,.string ⟨#[]⟩,.string ⟨#[]⟩] 41);have N5b:=hi9 (N5.out.keep bl2);have hl1 : [(⟨45,0,emp,emp⟩:Nd)].length+kk.flat.length≤1000:=by have:=HFK.out;simp only [List.length_cons,List.length_nil];omega
      have hz5:w5.heap.size≤(w5.alloc (.cells #[.int .i64 45,.int .i64 0,.string ⟨#[]⟩,.string ⟨#[]⟩] 41)).heap.size:=bl2.size;have B6:=bh B5 bl2;have R6:=hi9 (R5.out.keep bl2);have HKS:=hi9 (show(Kd.set kk).flat=⟨45,0,emp,emp⟩:: kk.flat from rfl);have HNK:=hi9 (show zaj kk.flat from N5.out.ok);have HS5:=hi9 (show w3.heap.size≤w5.heap.size from Nat.le_trans HQ4.out hB4.out.size);clear bl2 hJ hn5 B5 R5 G4;go_wp2_with (at_builtin;refine zgA rfl _ _ rfl w5.heap.size _ [⟨45,0,emp,emp⟩] rfl NR.out A0 n0 d0 kk.flat rfl N5b.out hk0 hl1 hz5 ?_);intro v7 w7 hR7 b7;have h7:Below w.heap.size w w7:=B6.out.trans (b7.mono (Nat.le_trans B3.out.size HS5.out));have R7:=hi9 (show Vr2 w7 (w.heap.size+1) (.slice none 0 0) (.int .i64 0) from R6.out.belowK b7 (by have:=HRB3.out;have:=HS5.out;omega));obtain⟨A7,n7,c7,rfl,N7⟩:=hR7.ns (by have:=hl1;simp only [List.length_cons,List.length_nil] at this ⊢;omega) (fun z hz=>by
       rcases List.mem_cons.1 hz with rfl|hz
       ·exact znH 45
       ·exact HNK.out z hz)
      have hfr7:∀a,A7=some a→w5.heap.size≤a.block:=fun a e=>zD hR7.own a.block (by rw [e];rfl);have KS:=hi9 (zjX (fun b=>w5.heap.size≤b) A7 n7 c7 (.set kk) w7 (by rw [HKS.out];exact N7) (fun a e=>⟨hfr7 a e,zbv (by rw [←e];exact N7) (by simp)⟩));rw [←HRF.out] at KS;unfold zR at KS;have B7:=hi9 h7;have HS7:=hi9 (show w5.heap.size≤w7.heap.size from Nat.le_trans hz5 b7.size);clear hR7 b7 h7 hfr7 N7 B6 R6;go_wp2_with fail;refine KS.out.mono ?_;rintro e w8 ⟨A8',n8,c8',rfl,hN8,hf8,b8⟩;have B8:=bh B7 b8;have R8:=hi9 (R7.out.keep b8);have N8:=hi9 hN8;have FX:=hi9 (show∀a,A8'=some a→(a.block<W.heap.size∨w.heap.size≤a.block)∧a.block≠w.heap.size+1 from fun a e=>by
       have h1:=HRB3.out
       have h2:=HS5.out
       have h3:=HS7.out
       rcases hf8 a e with h|h
       ·exact⟨.inr (by omega),by omega⟩
       ·exact⟨.inr (by omega),by omega⟩)
      clear b8 hN8 hf8;have RS:=R8.out.set (.slice A8' n8 c8') (.int .i64 (tyE rr));obtain⟨s0,s1,-,-⟩:=RS;have GF:=hi9 (zq (S:=fun b=>b<W.heap.size) (r:=rr) N8.out FX.out B8.out (show w.heap.size≤w.heap.size+1 by omega));obtain⟨r0,r1,z0,z1⟩:=R8.out;go_wp2_with fail;exact bodyPost_ret (v := .agg #[.slice A8' n8 c8',.int .i64 (tyE rr)]) (by simp [results,Tryz.results15,go_sem,s0,s1]) rfl GF.out
   by_cases h22:n.op=22
   ·have hpl1:ps.len=1:=by
     have h1:=HPN.out;unfold zp at h1;rw [if_neg (by omega),if_neg (by omega),if_pos (by omega)] at h1;omega
    have hj1:j=1:=by rw [HPL.out];exact hpl1
    subst hj1
    obtain⟨x0',hps0,hx0,hl0⟩:=HXX.out.one (by unfold zp;simp [h22]) (by unfold zA;simp [h22])
    obtain⟨r,rfl⟩:∃r,Vs = [r]:=by
     match Vs,hVl with
     | [r],_=>exact⟨r,rfl⟩
    obtain⟨k0,rfl⟩:∃k0,Ks = [k0]:=by
     have h1:=hKA.out.len
     match Ks,h1 with
     | [k0],_=>exact⟨k0,rfl⟩
    have HRG:=hi9 (show rr=zca k.x.t k0 n.s (jp (ftK L) x0'.flat n.s) from by rw [HRX.out,show ps = .cons x0' .nil from hps0];unfold zb2;rw [if_neg (by omega),if_neg (by omega),if_neg (by omega),if_neg h4,if_neg h8,if_neg h5,if_pos h22];rfl)
    have g22:(n.op==22)=true:=beq_iff_eq.2 h22
    have g6:(n.op==6)=false:=beq_eq_false_iff_ne.2 h6
    have g8:(n.op==8)=false:=beq_eq_false_iff_ne.2 h8
    have g4:(n.op==4)=false:=beq_eq_false_iff_ne.2 h4
    have g5:(n.op==5)=false:=beq_eq_false_iff_ne.2 h5
    have g13:(n.op==13)=false:=beq_eq_false_iff_ne.2 h13
    obtain⟨ga,rfl,u0,u1,hl,hv,hNr,-⟩:=jo HGs.out hKA.out (show 0 < [r].length by simp)
    simp only [List.getElem_cons_zero] at u0 u1 hNr hv
    rw [show ga.add (0*2)=ga from rfl] at u0 u1
    have HKO:=hi9 (HOK.out k0 (by simp))
    have HFR:=hi9 (hF.out r (by simp))
    have hr0:zA n=false:=decide_eq_false h6
    have hpos:zaK (zA n) (p+1) ps = [p+1,p+1+x0'.flat.length]:=by rw [hr0,show ps = .cons x0' .nil from hps0];rfl
    have hII:=HI.out.keep hB.out
    rw [hpos] at hII
    obtain⟨pa,rfl,i0'⟩:=hII 0 (p+1) rfl
    obtain⟨pa',e2,i1'⟩:=hII 1 (p+1+x0'.flat.length) rfl
    obtain rfl:=Option.some.inj e2
    rw [show pa.add 0=pa from rfl] at i0'
    rw [show pa.add 1=⟨pa.block,pa.off+1,none⟩ from rfl] at i1'
    have hcx:=(HCX.out _ B3.out).ns
    have hle:p+1+x0'.flat.length≤k.n:=by
     have h1:=hx0.le;rw [←hcx.len] at h1;exact h1
    have hcap:=hcx.cap
    have HSG:=hi9 (fun w' (hb':Below w.heap.size w w')=>show Ns w' (some (a.add ((p+1)*4))) x0'.flat.length (k.c-(p+1)) x0'.flat by
     have h0:=(HCX.out w' hb').ns
     rw [HEA.out] at h0
     have h1:=zgw h0 (i:=p+1) (j:=p+1+x0'.flat.length) (by omega) hle
     rw [hx0.seg,show p+1+x0'.flat.length-(p+1)=x0'.flat.length by omega] at h1
     exact h1)
    have hp0:=zZ x0'
    have HR':=HRG
    generalize x0'.flat=Q at *
    obtain⟨s0,hs0⟩:∃s0,s0=p+1:=⟨_,rfl⟩
    obtain⟨e0,he0⟩:∃e0,e0=s0+Q.length:=⟨_,rfl⟩
    rw [←hs0] at i0' i1' hle HSG
    rw [←he0] at i1' hle
    have HE:=hi9 (show e0-s0=Q.length by omega)
    have q1:s0≤e0:=by omega
    have q2:e0≤k.c:=Nat.le_trans hle hcap
    have q3:¬k.c=s0:=by omega
    have KG:=hi9 (fun w' (hb':Below w3.heap.size w3 w')=>zq8 (fun b=>b<W.heap.size∨wb.heap.size≤b) k.x k0 n.s r.A r.n r.c (some (a.add (s0*4))) Q.length (k.c-s0) Q FA fn fc L w' ((HCX.out w' (bh B3 hb').out).rs) HNS.out (fun a e=>HFR.out a e) (fun y hy a e => .inl (HKB.out y hy a e)) HKO.out (hNr.keep hb') (HSG.out w' (bh B3 hb').out) ((HFA.out w' (bh B3 hb').out).at_))
    rw [←HRG.out,←HE.out] at KG
    unfold zR Rs.v at KG
    have hm2:m=2:=HM.out
    have hmi0:(0:Int)<(m:Int):=by omega
    have hmi1:(1:Int)<(m:Int):=by omega
    have hmi2:0<m:=by omega
    have hmi3:1<m:=by omega
    clear hcx hs0 he0 hle hcap hp0 HR' HRG HRX HGs hKA hII hpos e2 hps0 hx0 hl0 hl hv hm2 hF
    obtain⟨v0,v1,v2,v3,v4⟩:=V3.out
    have hgb:w.heap.size+1<ga.block:=by
     have h1:=HGB.out ga rfl;have h2:=HRb.out;omega
    have hpb:=HIF.out pa rfl
    have KK:∀w':World,Below w3.heap.size w3 w'→w'.cell? ⟨w.heap.size,0,none⟩=some (.slice k.x.s.KA k.x.s.kn k.x.s.kc)∧w'.cell? ⟨w.heap.size,1,none⟩=some (.slice k.x.s.AA k.x.s.an k.x.s.ac)∧w'.cell? ⟨w.heap.size,2,none⟩=some (.string k.x.who)∧w'.cell? ⟨w.heap.size,3,none⟩=some (.string k.x.what)∧w'.cell? ⟨w.heap.size,4,none⟩=some (.int .i64 k.x.i)∧w'.cell? ga=some (.slice r.A r.n r.c)∧w'.cell? ⟨ga.block,ga.off+1,none⟩=some (.int .i64 0)∧w'.cell? ⟨w.heap.size+1+1,2,none⟩=some (.string n.s)∧w'.cell? pa=some (.int .i64 (s0:Int))∧w'.cell? ⟨pa.block,pa.off+1,none⟩=some (.int .i64 (e0:Int)):=fun w' hb'=>⟨zb hb' v0,zb hb' v1,zb hb' v2,zb hb' v3,zb hb' v4,zb hb' u0,zb hb' u1,zb hb' x2,zb hb' i0',zb hb' i1'⟩
    have KSt:∀(w'':World) (y z:Value),Below w3.heap.size w3 w''→(fun w':World=>w'.cell? ⟨w.heap.size,0,none⟩=some (.slice k.x.s.KA k.x.s.kn k.x.s.kc)∧w'.cell? ⟨w.heap.size,1,none⟩=some (.slice k.x.s.AA k.x.s.an k.x.s.ac)∧w'.cell? ⟨w.heap.size,2,none⟩=some (.string k.x.who)∧w'.cell? ⟨w.heap.size,3,none⟩=some (.string k.x.what)∧w'.cell? ⟨w.heap.size,4,none⟩=some (.int .i64 k.x.i)∧w'.cell? ga=some (.slice r.A r.n r.c)∧w'.cell? ⟨ga.block,ga.off+1,none⟩=some (.int .i64 0)∧w'.cell? ⟨w.heap.size+1+1,2,none⟩=some (.string n.s)∧w'.cell? pa=some (.int .i64 (s0:Int))∧w'.cell? ⟨pa.block,pa.off+1,none⟩=some (.int .i64 (e0:Int))) ((w''.setCell ⟨w.heap.size+1,0,none⟩ y).setCell ⟨w.heap.size+1,1,none⟩ z):=fun w'' y z hb'=>by
     have hg:=jH w'' (w.heap.size+1) y z;have n1:some w.heap.size≠some (w.heap.size+1):=fun e=>by injection e with e;omega
     have n2:some (w.heap.size+1+1)≠some (w.heap.size+1):=fun e=>by injection e with e;omega
     have n3:some ga.block≠some (w.heap.size+1):=fun e=>by injection e with e;omega
     have n4:some pa.block≠some (w.heap.size+1):=fun e=>by injection e with e;omega
     exact⟨hg.cell (zb hb' v0) n1,hg.cell (zb hb' v1) n1,hg.cell (zb hb' v2) n1,hg.cell (zb hb' v3) n1,hg.cell (zb hb' v4) n1,hg.cell (zb hb' u0) n3,hg.cell (zb hb' u1) n3,hg.cell (zb hb' x2) n2,hg.cell (zb hb' i0') n4,hg.cell (zb hb' i1') n4⟩
    have PX:=hi9 (zU w3)
    have R4:=hi9 (R3.out.keep PX.out)
    go_wp2_with fail
    go_region_held3 (fun w':World=>w'.cell? ⟨w.heap.size,0,none⟩=some (.slice k.x.s.KA k.x.s.kn k.x.s.kc)∧w'.cell? ⟨w.heap.size,1,none⟩=some (.slice k.x.s.AA k.x.s.an k.x.s.ac)∧w'.cell? ⟨w.heap.size,2,none⟩=some (.string k.x.who)∧w'.cell? ⟨w.heap.size,3,none⟩=some (.string k.x.what)∧w'.cell? ⟨w.heap.size,4,none⟩=some (.int .i64 k.x.i)∧w'.cell? ga=some (.slice r.A r.n r.c)∧w'.cell? ⟨ga.block,ga.off+1,none⟩=some (.int .i64 0)∧w'.cell? ⟨w.heap.size+1+1,2,none⟩=some (.string n.s)∧w'.cell? pa=some (.int .i64 (s0:Int))∧w'.cell? ⟨pa.block,pa.off+1,none⟩=some (.int .i64 (e0:Int))) (first|(with_reducible exact KK _ PX.out)|(with_reducible exact KSt _ _ _ PX.out)) (first|(go_at_call 34;(with_reducible refine(KG.out _ PX.out).mono ?_);rintro e w5 ⟨A5,n5,c5,rfl,hN5,hf5,b5⟩;have PX:=bh PX b5;have R5:=hi9 (R4.out.keep b5);obtain⟨r0,r1,z0,z1⟩:=R5.out)|fail)
    have B5:=bh B3 PX.out
    have N5:=hi9 hN5
    have F5:=hi9 (show∀a,A5=some a→a.block<W.heap.size∨wb.heap.size≤a.block from fun a e=>by
     have h1:w3.heap.size≤w3.drew.heap.size:=Nat.le_refl _
     have h2:=HWB.out
     rcases hf5 a e with (h|h)|h
     ·exact .inl h
     ·exact .inr h
     ·exact .inr (by omega))
    have FX:=hi9 (show∀a,A5=some a→(a.block<W.heap.size∨w.heap.size≤a.block)∧a.block≠w.heap.size+1 from fun a e=>by
     have h2:=HRb.out
     have h3:=HSW.out
     rcases F5.out a e with h1|h1
     ·exact⟨.inl h1,by omega⟩
     ·exact⟨.inr (by omega),by omega⟩)
    have RS:=R5.out.set (.slice A5 n5 c5) (.int .i64 (tyE rr))
    obtain⟨s0,s1,-,-⟩:=RS
    have GF:=hi9 (zq (S:=fun b=>b<W.heap.size) (r:=rr) N5.out FX.out B5.out (show w.heap.size≤w.heap.size+1 by omega))
    obtain⟨r0,r1,z0,z1⟩:=R5.out
    go_wp2_with fail
    exact bodyPost_ret (v := .agg #[.slice A5 n5 c5,.int .i64 (tyE rr)]) (by simp [results,Tryz.results15,go_sem,s0,s1]) rfl GF.out
   have HRT:=hi9 (show rr=zC n.op Ks from by
    rw [HRX.out]
    unfold zb2 zC
    by_cases h1:n.op=1
    ·rw [if_pos h1,if_neg (by omega),if_neg (by omega),if_neg (by omega),h1]
     unfold zG j9
     simp
    rw [if_neg h1]
    by_cases h2:n.op=2
    ·rw [if_pos h2,if_pos h2]
    rw [if_neg h2,if_neg h2]
    by_cases h3:n.op=3
    ·rw [if_pos h3,if_pos h3]
    rw [if_neg h3,if_neg h3,if_neg h4,if_neg h8,if_neg h5,if_neg h22,if_neg h11])
   have KT:=hi9 (zjw (fun _=>False) n A8 j c8 Vs Ks w3 hVl hj4 HGs.out hKA.out HHX.out HKN.out h4 h5 h6 h8 h13 h22);rw [←HRT.out] at KT;unfold zR at KT;have g6:(n.op==6)=false:=beq_eq_false_iff_ne.2 h6;have g8:(n.op==8)=false:=beq_eq_false_iff_ne.2 h8;have g4:(n.op==4)=false:=beq_eq_false_iff_ne.2 h4;have g5:(n.op==5)=false:=beq_eq_false_iff_ne.2 h5;have g13:(n.op==13)=false:=beq_eq_false_iff_ne.2 h13;have g22:(n.op==22)=false:=beq_eq_false_iff_ne.2 h22;clear HRT HRX hF hKA HGs;go_wp2_with fail;refine(KT.out).mono ?_;rintro e w5 ⟨A5,n5,c5,rfl,hN5,hf5,b5⟩;have B5:=bh B3 b5;have R5:=hi9 (R3.out.keep b5);have N5:=hi9 hN5;have F5:=hi9 (show∀a,A5=some a→a.block<W.heap.size∨w3.heap.size≤a.block from fun a e=>(hf5 a e).elim False.elim .inr);clear b5 hN5 hf5;have FX:=hi9 (show∀a,A5=some a→(a.block<W.heap.size∨w.heap.size≤a.block)∧a.block≠w.heap.size+1 from fun a e=>by
    have h2:w.heap.size+1<w3.heap.size:=HRB3.out
    have h3:=HSW.out
    rcases F5.out a e with h1|h1
    ·exact⟨.inl h1,by omega⟩
    ·exact⟨.inr (by omega),by omega⟩)
   have RS:=R5.out.set (.slice A5 n5 c5) (.int .i64 (tyE rr));obtain⟨s0,s1,-,-⟩:=RS;have GF:=hi9 (zq (S:=fun b=>b<W.heap.size) (r:=rr) N5.out FX.out B5.out (show w.heap.size≤w.heap.size+1 by omega));obtain⟨r0,r1,z0,z1⟩:=R5.out;go_wp2_with fail;exact bodyPost_ret (v := .agg #[.slice A5 n5 c5,.int .i64 (tyE rr)]) (by simp [results,Tryz.results15,go_sem,s0,s1]) rfl GF.out
end Go.Proofs.YtjcdeikbghjpkaaGreatDoor
