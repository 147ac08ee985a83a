/-
  The document's Worth, over the parts. (gen_refwo.py) The document's Worth, over the parts. (gen_refwo2.py) The document's Worth, of And, Or and If; of all. ..
-/
import Derived.Test.YtkfgabdnppmglaaGreatDoorQ32
import Derived.Test.YtkfgabdnppmglaaGreatDoorQ39
import Derived.Test.YtkfgabdnppmglaaGreatDoorQ41
import Derived.Test.YtkfgabdnppmglaaGreatDoorQ47
set_option maxRecDepth 100000
set_option maxHeartbeats 16000000
namespace Go.Proofs.YtkfgabdnppmglaaGreatDoor
open Go.RowKit Go.Wk Go.Sort
theorem zrk{y:Ex}{ps:Exs}(h:y∈ps.list):y.flat.length≤ps.flat.length:=by
 induction ps using Exs.rec (motive_1:=fun _=>True) with
 | node _ _ _=>trivial
 | nil=>cases h
 | cons x r _ ih =>
  simp only [Exs.flat,List.length_append]
  rcases List.mem_cons.1 h with rfl|h
  ·omega
  ·have:=ih h;omega
theorem zpS(c:Bool)(x:Ex):(zbt c x).flat.length≤x.flat.length:=by
 unfold zbt;split
 ·simp only [Ex.flat,Exs.flat,List.length_cons,List.length_append];omega
 ·exact Nat.le_refl _
theorem zpm{t:List Nd}{p N:Nat}{c:Bool}{ps:Exs}(h:zcS t p c ps)(hN:ps.flat.length≤N){j:Nat}{x:Ex}(hx:(ps.list.map (zbt c))[j]?=some x):
 ∃q:Nat,(za6 c p ps)[j]?=some q∧XAt t q false x∧x.flat.length≤N:=by
 rw [List.getElem?_map,Option.map_eq_some_iff] at hx;obtain⟨y,hy,rfl⟩:=hx;obtain⟨q,e1,e2,-⟩:=h.at j y hy;exact⟨q,e1,e2,Nat.le_trans (zpS c y) (Nat.le_trans (zrk (List.mem_of_getElem? hy)) hN)⟩
theorem ziB{w:World}{B n:Nat}{e:TypeId}{size:Nat}{v:Value}{xs:List Value}(h:w.ownsRow B e size v n xs):∀g,v.ownBlock=some g→B≤g∧g<w.heap.size:=by
 intro g hg;rcases h.2 with ⟨rfl,_⟩|⟨g',cap,cur,rfl,hb,hc,_⟩
 ·simp [Value.ownBlock] at hg
 ·simp [Value.ownBlock] at hg;subst hg;exact⟨hb,(Array.getElem?_eq_some_iff.1 hc).1⟩
theorem zoU(c:Bool):∀(r:Exs) (p:Nat),∀q∈za6 c p r,p≤q
 | .nil,p,q,h=>by simp [za6] at h;omega
 | .cons x r,p,q,h=>by
  simp only [za6,List.mem_cons] at h;rcases h with rfl|h
  ·split <;> omega
  ·have:=zoU c r _ q h;omega
def zct(t:List Nd)(c:Bool)(p:Nat)(ps:Exs):List ByteArray:=((za6 c p ps).take ps.len).map fun q=>((t[q-1]?).getD ⟨0,0,emp,emp⟩).s
theorem ziz(t:List Nd)(c:Bool)(p:Nat)(ps:Exs):(zct t c p ps).length=ps.len:=by
 unfold zct;rw [List.length_map,List.length_take,zmc];omega
theorem zoy{t:List Nd}{p:Nat}{ps:Exs}(h:zcS t p true ps):zct t true p ps=ps.list.map fun x=>x.head.s:=by
 apply List.ext_getElem?;intro j;by_cases hj:j<ps.len
 ·have hjl:j<ps.list.length:=by rw [zcY];exact hj
  obtain⟨q,e1,-,e3,-⟩:=h.at j _ (List.getElem?_eq_getElem hjl);obtain⟨-,e4⟩:=e3 rfl;unfold zct;rw [List.getElem?_map,List.getElem?_take,if_pos hj,e1,List.getElem?_map,List.getElem?_eq_getElem hjl];simp [e4]
 ·rw [List.getElem?_eq_none (by rw [ziz];omega),List.getElem?_eq_none (by rw [List.length_map,zcY];omega)]
theorem zqI{t:List Nd}{c:Bool}{p:Nat}{ps:Exs}{j q:Nat}(hj:j<ps.len)(e:(za6 c p ps)[j]?=some q)(x:Nd)(hx:t[q-1]?=some x):(zct t c p ps)[j]?=some x.s:=by
 unfold zct;rw [List.getElem?_map,List.getElem?_take,if_pos hj,e];simp [hx]
structure Vn1(w:World)(b:Nat)(x:Nd)(g:Addr)(A:Option Addr)(n c:Nat):Prop where
 x:Vn w b x
 g0:w.cell? g=some (.slice A n c)
 g1:w.cell? ⟨g.block,g.off+1,none⟩=some (.int .i64 0)
theorem Vn1.keep{w w':World}{b:Nat}{x:Nd}{g:Addr}{A:Option Addr}{n c:Nat}(h:Vn1 w b x g A n c)(hb:Below w.heap.size w w'):Vn1 w' b x g A n c:=⟨h.x.keep hb,za hb h.g0,za hb h.g1⟩
theorem Vn1.but{w w':World}{b:Nat}{x:Nd}{g:Addr}{A:Option Addr}{n c t:Nat}(h:Vn1 w b x g A n c)(hg:w.grownBy w' (some t))(h1:b≠t)(h2:g.block≠t):Vn1 w' b x g A n c:=by
 have e1:some b≠some t:=fun e=>by injection e with e;exact h1 e
 have e2:some g.block≠some t:=fun e=>by injection e with e;exact h2 e
 exact⟨⟨hg.cell h.x.c0 e1,hg.cell h.x.c1 e1,hg.cell h.x.c2 e1,hg.cell h.x.c3 e1⟩,hg.cell h.g0 e2,hg.cell h.g1 e2⟩
theorem zhh{w:World}{b:Nat}{x:Nd}{g:Addr}{A:Option Addr}{n c:Nat}(h:Vn1 w b x g A n c):w.cell? ⟨b,0,none⟩=some (.int .i64 x.op)∧w.cell? ⟨b,1,none⟩=some (.int .i64 x.n)∧w.cell? ⟨b,2,none⟩=some (.string x.s)∧w.cell? ⟨b,3,none⟩=some (.string x.t)∧w.cell? g=some (.slice A n c)∧w.cell? ⟨g.block,g.off+1,none⟩=some (.int .i64 0):=
 ⟨h.x.c0,h.x.c1,h.x.c2,h.x.c3,h.g0,h.g1⟩
structure Vn2(w:World)(b:Nat)(x:Nd)(g:Addr)(A B:Option Addr)(n c m d:Nat):Prop where
 p:Vn1 w b x g A n c
 g2:w.cell? ⟨g.block,g.off+2,none⟩=some (.slice B m d)
 g3:w.cell? ⟨g.block,g.off+2+1,none⟩=some (.int .i64 0)
theorem Vn2.keep{w w':World}{b:Nat}{x:Nd}{g:Addr}{A B:Option Addr}{n c m d:Nat}(h:Vn2 w b x g A B n c m d)(hb:Below w.heap.size w w'):Vn2 w' b x g A B n c m d:=⟨h.p.keep hb,za hb h.g2,za hb h.g3⟩
theorem Vn2.but{w w':World}{b:Nat}{x:Nd}{g:Addr}{A B:Option Addr}{n c m d t:Nat}(h:Vn2 w b x g A B n c m d)(hg:w.grownBy w' (some t))(h1:b≠t)(h2:g.block≠t):Vn2 w' b x g A B n c m d:=by
 have e2:some g.block≠some t:=fun e=>by injection e with e;exact h2 e
 exact⟨h.p.but hg h1 h2,hg.cell h.g2 e2,hg.cell h.g3 e2⟩
theorem zg8{w:World}{b:Nat}{x:Nd}{g:Addr}{A B:Option Addr}{n c m d:Nat}(h:Vn2 w b x g A B n c m d):w.cell? ⟨b,0,none⟩=some (.int .i64 x.op)∧w.cell? g=some (.slice A n c)∧w.cell? ⟨g.block,g.off+1,none⟩=some (.int .i64 0)∧w.cell? ⟨g.block,g.off+2,none⟩=some (.slice B m d)∧w.cell? ⟨g.block,g.off+2+1,none⟩=some (.int .i64 0):=
 ⟨h.p.x.c0,h.p.g0,h.p.g1,h.g2,h.g3⟩
def ze8(w:World)(rr:Res)(e:Ending)(w':World):Prop :=
 ∃(A:Option Addr) (n c:Nat),e = .returned (.tuple #[.slice A n c,.int .i64 (zZ rr)])∧Ns w' A n c (zju rr)∧Below w.heap.size w w'∧∀a,A=some a→w.heap.size≤a.block
theorem zlI{u:Int}{V:List Nd}(h:u≠0→V = []):zZ (z8 u V)=u∧zju (z8 u V)=V:=by
 unfold z8;split
 ·next h0=>exact⟨h0.symm,rfl⟩
 ·next h0=>exact⟨rfl,(h h0).symm⟩
theorem zrv{w w':World}{rr:Res}{L:List (List Nd)}{e:Ending}(h:rr=z8 (Wk.setE L) (Wk.setV L))(q:zlk w L e w'):ze8 w rr e w':=by
 subst h;obtain⟨h1,h2⟩:=zlI (fun q=>zdM (L:=L) q);unfold ze8;rw [h1,h2];exact q
theorem zq2{w w':World}{rr:Res}{N:List ByteArray}{L:List (List Nd)}{e:Ending}(h:rr=z8 (zam N L) (zcz N L))(q:zf8 w N L e w'):ze8 w rr e w':=by
 subst h;obtain⟨h1,h2⟩:=zlI (fun q=>zhl (N:=N) (L:=L) q);unfold ze8;rw [h1,h2];exact q
theorem zsG(W:World)(k:Cx)(N:Nat)(hW:zf2 W k N)(n:Nd)(ps:Exs)(p:Nat)(w:World)(hCW:zdK W k)(h:zdK w k)(hb:Below W.heap.size W w)(hk:k.n≤4000)(hx:XAt k.P p false (.node n ps))(hN:ps.flat.length≤N)(h5:5≤n.op)(h8:n.op≠8)(h11:n.op≠11)(h12:n.op≠12)(h13:n.op≠13):
 Calls Tryz.prog 12 #[.slice k.EA k.en k.ec,k.q.v,.slice k.A k.n k.c,.int .i64 p] w (zD (fun b=>b<W.heap.size) w (evX k.env (.node n ps))):=by
 obtain⟨i0,hi,hz0',hz1,hz2'⟩:=info_parts zu9;have KPo:=hi9 (fun w' (hb':Below w.heap.size w w')=>zgx k.A k.n k.c k.P p false (.node n ps) w' (h.ns.keep hb') hk hx);have HPT:=hi9 (fun(j:Nat) (x:Ex) (e:(ps.list.map (zbt (z6 n)))[j]?=some x)=>zpm hx.parts hN e);obtain⟨L,hL⟩:∃L,L=ps.list.map (zbt (z6 n)):=⟨_,rfl⟩
 have HLL:=hi9 (show L.length=ps.len from by rw [hL,List.length_map,zcY]);have HEV:=hi9 (show evX k.env (.node n ps)=(match evL k.env L with
  | .error e => .error e
  | .ok V=>if n.op=6 then z8 (zam (ps.list.map fun x=>x.head.s) V) (zcz (ps.list.map fun x=>x.head.s) V) else if n.op=5 then z8 (Wk.setE V) (Wk.setV V) else zeD k.env.E n V) from by
  rw [hL];exact zpt k.env n ps _ hx.valid.2.2 (by omega) h8 (by omega) h13)
 have HOKV:=hi9 (fun(x:Ex) (q:Nat) (e:XAt k.P q false x) (V:List Nd) (z:evX k.env x = .ok V)=>zdU h.ok x false e.valid V z);have HNZ:=hi9 (fun(x:Ex) (q:Nat) (e:XAt k.P q false x) (u:Int) (z:evX k.env x = .error u)=>fun(h0:u=0)=>zdT x e.valid (z.trans (by rw [h0])));rw [←hL] at HPT;have KW:=hi9 (fun(x:Ex) (q:Nat) (e:XAt k.P q false x) (l:x.flat.length≤N) w' (hb':Below w.heap.size w w')=>hW x q w' (h.keep hb') (hb.trans (hb'.mono hb.size)) e l);have HCX:=hi9 (fun w' (hb':Below w.heap.size w w')=>h.keep hb');have HSW:=hi9 hb.size;have HPN:=hi9 (show(ps.len:Int)=zH n from hx.valid.2.1);have HFD:=hi9 (show jz n=true∧n.op≠7 from by
  have h1:=hx.valid.1
  unfold zba at h1
  rw [Bool.and_eq_true] at h1
  exact⟨h1.1,by simpa using h1.2⟩)
 have HES:=hi9 hCW.ok.e;have HEA:=hi9 (show∀y∈k.E,∀a,y.NA=some a→a.block<W.heap.size from fun y hy a e=>by
  obtain⟨t,ht,rfl⟩:=List.getElem_of_mem hy
  obtain⟨-,-,-,-,-,-,hok⟩:=hCW.es.at_ t _ (List.getElem?_eq_getElem ht)
  exact hok.ns.at_.lt (zm (ze5 (zat.1 hCW.ok.e).2.1 hy).1) a e)
 have HNA:=hi9 (show∀(t q:Nat),t<ps.len→(za6 (z6 n) (p+1) ps)[t]?=some q→∃x:Nd,k.P[q-1]?=some x∧(zct k.P (z6 n) (p+1) ps)[t]?=some x.s∧1≤q from fun t q ht e=>by
  have hyl:t<ps.list.length:=by rw [zcY];exact ht
  obtain⟨q',e1,e2,-⟩:=hx.parts.at t _ (List.getElem?_eq_getElem hyl)
  have e1':(za6 (z6 n) (p+1) ps)[t]?=some q':=e1
  rw [e] at e1'
  injection e1' with e1'
  subst e1'
  have h1:=e2.le
  have h2:=zaY (zbt (z6 (Ex.node n ps).head) ps.list[t])
  have hge:p+1≤q:=zoU _ _ _ _ (List.mem_of_getElem? e)
  have hlt:q-1<k.P.length:=by omega
  exact⟨k.P[q-1],List.getElem?_eq_getElem hlt,zqI ht e _ (List.getElem?_eq_getElem hlt),by omega⟩)
 have HNK:=hi9 (show∀x∈zct k.P (z6 n) (p+1) ps,x.size≤maxLen from fun x hx'=>by
  unfold zct at hx'
  obtain⟨q,-,rfl⟩:=List.mem_map.1 hx'
  rcases hq:k.P[q-1]? with _|z
  ·exact Nat.zero_le _
  ·exact(h.ns.ok z (List.mem_of_getElem? hq)).s)
 have HNR:=hi9 (show n.op=6→(ps.list.map fun x=>x.head.s)=zct k.P (z6 n) (p+1) ps from fun h6=>by
  have hr:z6 n=true:=decide_eq_true h6
  have hp:=hx.parts
  rw [show(Ex.node n ps).head=n from rfl,hr] at hp
  rw [hr]
  exact(zoy hp).symm)
 have HNL:=hi9 (ziz k.P (z6 n) (p+1) ps);obtain⟨NM,hNM⟩:∃NM,NM=zct k.P (z6 n) (p+1) ps:=⟨_,rfl⟩
 rw [←hNM] at HNA HNK HNR HNL;clear hNM;obtain⟨i1,hi1,hjz0,hjz1,hjz2⟩:=info_parts zcP;obtain⟨i2,hi2,hkz0,hkz1,hkz2⟩:=info_parts zdk;have hps:ps.len≤4000:=by
  have h1:=hx.le;have h2:=za2 ps;have h3:(Ex.node n ps).flat.length=ps.flat.length+1:=by simp [Ex.flat]
  rw [←h.ns.len] at h1;omega
 have HLE:=hi9 hL;unfold zD Rq.v at KW;obtain⟨a0,ea,d0,d1,d2,d3⟩:=h.ns.at_ p n hx.head;have hpn:p<k.n:=by rw [h.ns.len];exact(List.getElem?_eq_some_iff.1 hx.head).1
 have hok:zcw n:=h.ns.ok _ (List.mem_of_getElem? hx.head);have HH:=hi9 h;rw [ea];have HRN:=hi9 (show z6 n=z6 n from rfl);generalize n=y at *;have B1:Below w.heap.size w (w.alloc (.cells #[.string k.q.who.1,.string k.q.who.2,.string k.q.act.1,.string k.q.act.2,.string k.q.what.1,.string k.q.what.2,.slice k.q.NA k.q.nn k.q.nc] 27)):=zb w _;have B2:Below w.heap.size w ((w.alloc (.cells #[.string k.q.who.1,.string k.q.who.2,.string k.q.act.1,.string k.q.act.2,.string k.q.what.1,.string k.q.what.2,.slice k.q.NA k.q.nn k.q.nc] 27)).alloc (.cells #[.slice none 0 0,.int .i64 0] 30)):=B1.trans ((zb (w.alloc (.cells #[.string k.q.who.1,.string k.q.who.2,.string k.q.act.1,.string k.q.act.2,.string k.q.what.1,.string k.q.what.2,.slice k.q.NA k.q.nn k.q.nc] 27)) _).mono B1.size);have B0:=hi9 (show Below w.heap.size w (((w.alloc (.cells #[.string k.q.who.1,.string k.q.who.2,.string k.q.act.1,.string k.q.act.2,.string k.q.what.1,.string k.q.what.2,.slice k.q.NA k.q.nn k.q.nc] 27)).alloc (.cells #[.slice none 0 0,.int .i64 0] 30)).alloc (.cells #[.int .i64 y.op,.int .i64 y.n,.string y.s,.string y.t] 53)) from B2.trans ((zb ((w.alloc (.cells #[.string k.q.who.1,.string k.q.who.2,.string k.q.act.1,.string k.q.act.2,.string k.q.what.1,.string k.q.what.2,.slice k.q.NA k.q.nn k.q.nc] 27)).alloc (.cells #[.slice none 0 0,.int .i64 0] 30)) _).mono B2.size));have hz2:((w.alloc (.cells #[.string k.q.who.1,.string k.q.who.2,.string k.q.act.1,.string k.q.act.2,.string k.q.what.1,.string k.q.what.2,.slice k.q.NA k.q.nn k.q.nc] 27)).alloc (.cells #[.slice none 0 0,.int .i64 0] 30)).heap.size=w.heap.size+1+1:=by simp [go_sem]
 have hz0:(((w.alloc (.cells #[.string k.q.who.1,.string k.q.who.2,.string k.q.act.1,.string k.q.act.2,.string k.q.what.1,.string k.q.what.2,.slice k.q.NA k.q.nn k.q.nc] 27)).alloc (.cells #[.slice none 0 0,.int .i64 0] 30)).alloc (.cells #[.int .i64 y.op,.int .i64 y.n,.string y.s,.string y.t] 53)).heap.size=w.heap.size+1+1+1:=by simp [go_sem]
 have W0:=hi9 (((zb1 w k.q 27).keep (zb (w.alloc (.cells #[.string k.q.who.1,.string k.q.who.2,.string k.q.act.1,.string k.q.act.2,.string k.q.what.1,.string k.q.what.2,.slice k.q.NA k.q.nn k.q.nc] 27)) (.cells #[.slice none 0 0,.int .i64 0] 30))).keep (zb ((w.alloc (.cells #[.string k.q.who.1,.string k.q.who.2,.string k.q.act.1,.string k.q.act.2,.string k.q.what.1,.string k.q.what.2,.slice k.q.NA k.q.nn k.q.nc] 27)).alloc (.cells #[.slice none 0 0,.int .i64 0] 30)) (.cells #[.int .i64 y.op,.int .i64 y.n,.string y.s,.string y.t] 53)));have X0:=zdr ((w.alloc (.cells #[.string k.q.who.1,.string k.q.who.2,.string k.q.act.1,.string k.q.act.2,.string k.q.what.1,.string k.q.what.2,.slice k.q.NA k.q.nn k.q.nc] 27)).alloc (.cells #[.slice none 0 0,.int .i64 0] 30)) y 53;rw [hz2] at X0;have R0:=hi9 ((zcC w (.cells #[.string k.q.who.1,.string k.q.who.2,.string k.q.act.1,.string k.q.act.2,.string k.q.what.1,.string k.q.what.2,.slice k.q.NA k.q.nn k.q.nc] 27) 30).keep (zb ((w.alloc (.cells #[.string k.q.who.1,.string k.q.who.2,.string k.q.act.1,.string k.q.act.2,.string k.q.what.1,.string k.q.what.2,.slice k.q.NA k.q.nn k.q.nc] 27)).alloc (.cells #[.slice none 0 0,.int .i64 0] 30)) (.cells #[.int .i64 y.op,.int .i64 y.n,.string y.s,.string y.t] 53)));replace d0:=za B2 d0;replace d1:=za B2 d1;replace d2:=za B2 d2;replace d3:=za B2 d3;clear B1 B2 hz2;have f1:(1:Int)≤y.op:=by omega
 have f2:¬y.op≤(4:Int):=by omega
 have g8:(y.op==8)=false:=beq_eq_false_iff_ne.2 h8;have g11:(y.op==11)=false:=beq_eq_false_iff_ne.2 h11;have g12:(y.op==12)=false:=beq_eq_false_iff_ne.2 h12;have g13:(y.op==13)=false:=beq_eq_false_iff_ne.2 h13;obtain⟨x0,x1,x2,x3⟩:=X0;have X0:Vn (((w.alloc (.cells #[.string k.q.who.1,.string k.q.who.2,.string k.q.act.1,.string k.q.act.2,.string k.q.what.1,.string k.q.what.2,.slice k.q.NA k.q.nn k.q.nc] 27)).alloc (.cells #[.slice none 0 0,.int .i64 0] 30)).alloc (.cells #[.int .i64 y.op,.int .i64 y.n,.string y.s,.string y.t] 53)) (w.heap.size+1+1) y:=⟨x0,x1,x2,x3⟩
 have HX0:=hi9 X0;obtain⟨rr,hrr⟩:∃rr,rr=evX k.env (.node y ps):=⟨_,rfl⟩
 rw [←hrr] at HEV ⊢;rw [ea] at KPo KW;unfold Rq.v;dsimp only [Ex.parts,Ex.head] at KPo;clear h hx hok hz0 hrr hb hW X0 HRN hL hN hCW;go_enter Tryz.func12,Tryz.ntmps12;go_wp2_with fail;refine(KPo.out _ B0.out).mono ?_;rintro e w2 ⟨A',c',rfl,hc',hI,b2⟩;have B2:=bh B0 b2;have W2:=hi9 (W0.out.keep b2);have R2:=hi9 (R0.out.keep b2);have X2:=hi9 (HX0.out.keep b2);have HI:=hi9 hI;clear hI b2 B0 W0 R0 HX0 KPo x0 x1 x2 x3 d0 d1 d2 d3;obtain⟨x0,x1,x2,x3⟩:=X2.out;have hc4:=hps;obtain⟨pl,hpl⟩:∃pl,pl=ps.len:=⟨_,rfl⟩
 obtain⟨m,hm⟩:∃m,m=pl+1:=⟨_,rfl⟩
 have HPL:=hi9 hpl;rw [←hpl] at hc4 ⊢;rw [←hm];have hmm:(m:Int)-1=(pl:Int):=by omega
 have hm4:m≤4001:=by omega
 have HLL2:=hi9 (show L.length=pl by rw [hpl];exact HLL.out);clear hpl hm hps HLL;go_wp2_with fail;have G0:=hi9 (zcn.nil w2 w2.heap.size);go_loopw [11,12] (fun v i wr=>∃(j:Nat) (Vs:List Sl) (A8:Option Addr) (c8:Nat),i = .int .i64 j∧j≤pl∧v = .slice A8 j c8∧Vs.length=j∧Hid (evL k.env (L.take j)= .ok (Vs.map Sl.P))∧Hid (zcn wr w2.heap.size v Vs)∧Hid (∀r∈Vs,(∀a,r.A=some a→a.block<W.heap.size∨w2.heap.size≤a.block)∧zc r.P=0)∧Hid (Below w2.heap.size w2 wr)) (fun _ i _=>pl-(intOf i).toNat)
 case atStart=>exact⟨0,[],none,0,rfl,Nat.zero_le _,rfl,rfl,hi9 rfl,G0,hi9 (by intro r hr;cases hr),hi9 (Below.refl _ _)⟩
 case round =>
  clear G0;obtain⟨j,Vs,A8,c8,rfl,hj,rfl,hVl,hE,hG,hF,hB⟩:=hrel;obtain⟨w3,rfl⟩:∃w3:World,w3=wr:=⟨_,rfl⟩
  have B3:=bh B2 hB.out;have R3:=hi9 (R2.out.keep hB.out);have X3:=hi9 (X2.out.keep hB.out);by_cases hlt:j<pl
  ·have hjl:j<L.length:=by rw [HLL2.out];exact hlt
   obtain⟨q,e1,hqx,hql⟩:=HPT.out j L[j] (List.getElem?_eq_getElem hjl);obtain⟨a',rfl,qc⟩:=(HI.out.keep hB.out) j q e1;have HST:=hi9 (zsj hjl hE.out);have V3:=hi9 (⟨W2.out.keep hB.out,qc⟩:Vqi w3 w.heap.size k.q (a'.add j) (q:Int));have KX:=hi9 (KW.out L[j] q hqx hql);have HOX:=hi9 (HOKV.out L[j] q hqx);have HZX2:=hi9 (HNZ.out L[j] q hqx);generalize L[j]=x at *;have hjm:(j:Int)<(m:Int):=by omega
   clear e1 hqx hql qc;go_wp2_with fail;have HFX:=hi9 (show(zZ (evX k.env x)≠0→rr=evX k.env x)∧(zZ (evX k.env x)=0→∃V,evX k.env x = .ok V∧zc V=0∧evL k.env (L.take (j+1))= .ok (Vs.map Sl.P ++ [V])) from by
    rcases qx:evX k.env x with u|V
    ·exact⟨fun _=>by rw [HEV.out,HST.out.2 u qx],fun h=>absurd h (HZX2.out u qx)⟩
    ·exact⟨fun h=>absurd rfl h,fun _=>⟨V,rfl,HOX.out V qx,HST.out.1 V qx⟩⟩)
   generalize evX k.env x=rx at *;clear HST HOX HZX2;have bd:=zG w3;have bx:RowKit.Below w3.heap.size w3 (w3.alloc (.cells #[.slice none 0 0,.int .i64 0] 30)).drew:=(zb w3 _).trans ((zG _).mono (zb w3 _).size);have Vd:=hi9 (V3.out.keep bd);have Vx:=hi9 (V3.out.keep bx);have Bd:=bh B3 bd;have Bx:=bh B3 bx;have Qd:=hi9 bd;have Qx:=hi9 bx;have Rd:=hi9 (R3.out.keep bd);have Rx:=hi9 (R3.out.keep bx);have Cx:=hi9 ((j8 w3 (.slice none 0 0) (.int .i64 0) 30).keep (zG _));have K0:=hi9 (KX.out w3.drew Bd.out);have K1:=hi9 (KX.out (w3.alloc (.cells #[.slice none 0 0,.int .i64 0] 30)).drew Bx.out);have hzx:(w3.alloc (.cells #[.slice none 0 0,.int .i64 0] 30)).drew.heap.size=w3.heap.size+1:=by simp [go_sem]
   have HZX:=hi9 hzx;have hrb:w.heap.size+1<w3.heap.size:=block_lt_of_cell R3.out.c0;have hpb:((a'.add j):Addr).block<w3.heap.size:=block_lt_of_cell V3.out.i;have HRB3:=hi9 hrb;have hn1:w.heap.size≠w3.heap.size:=by omega
   have hn2:((a'.add j):Addr).block≠w3.heap.size:=Nat.ne_of_lt hpb;clear bd bx hzx;go_region_held3 (fun w':World=>w'.cell? ⟨w.heap.size,0,none⟩=some (.string k.q.who.1)∧w'.cell? ⟨w.heap.size,1,none⟩=some (.string k.q.who.2)∧w'.cell? ⟨w.heap.size,2,none⟩=some (.string k.q.act.1)∧w'.cell? ⟨w.heap.size,3,none⟩=some (.string k.q.act.2)∧w'.cell? ⟨w.heap.size,4,none⟩=some (.string k.q.what.1)∧w'.cell? ⟨w.heap.size,5,none⟩=some (.string k.q.what.2)∧w'.cell? ⟨w.heap.size,6,none⟩=some (.slice k.q.NA k.q.nn k.q.nc)∧w'.cell? (a'.add j)=some (.int .i64 ((q:Int):Int))) (first|(with_reducible exact jg Vs.out)|(with_reducible exact jg Vz.out)|(with_reducible exact jg Vy.out)|(with_reducible exact jg V4.out)|(with_reducible exact jg Vx.out)|(with_reducible exact jg Vd.out)|(with_reducible exact jg V3.out)) (first
    |(go_at_call 12;(with_reducible refine K1.out.mono ?_);rintro e w4 ⟨A5,n5,c5,rfl,hN,hf,b4⟩;have N4:=hi9 hN;have F4:=hi9 hf;have B4:=bh Bx b4;have Q4:=bh Qx b4;have V4:=hi9 (Vx.out.keep b4);have R4:=hi9 (Rx.out.keep b4);have C4:=hi9 (Cx.out.keep b4);have Vs:=hi9 (V4.out.but (jN w4 w3.heap.size (.slice A5 n5 c5) (.int .i64 (zZ rx))) hn1 hn2);obtain⟨y0,y1,y2,y3⟩:=C4.out)
    |(go_at_call 12;(with_reducible refine K0.out.mono ?_);rintro e w4 ⟨A5,n5,c5,rfl,hN,hf,b4⟩;have N4:=hi9 hN;have F4:=hi9 hf;have B4:=bh Bd b4;have Q4:=bh Qd b4;have V4:=hi9 (Vd.out.keep b4);have R4:=hi9 (Rd.out.keep b4);have Vy:=hi9 (V4.out.keep (zb w4 (.cells #[.slice none 0 0,.int .i64 0] 30)));have Vz:=hi9 (V4.out.keep (zb w4 (.cells #[.slice A5 n5 c5,.int .i64 (zZ rx)] 30)))))
   focus
    have bz:=zb w4 (.cells #[.slice A5 n5 c5,.int .i64 (zZ rx)] 30);have B5:=bh B4 bz;have V5:=hi9 (V4.out.keep bz);have R5:=hi9 (R4.out.keep bz);have C5:=hi9 (j8 w4 (.slice A5 n5 c5) (.int .i64 (zZ rx)) 30);have N5:=hi9 (N4.out.keep bz);have hwj:w3.heap.size≤w4.heap.size:=Q4.out.size;have HC5:=hi9 (show w3.heap.size≤w4.heap.size from hwj);have F5:=hi9 (show∀a,A5=some a→(a.block<W.heap.size∨w3.heap.size≤a.block) from fun a e=>(F4.out a e).imp id (fun q=>by simpa [go_sem] using q));have Q5:=bh Q4 bz;obtain⟨cb5,hcb⟩:∃cb,w4.heap.size=cb:=⟨_,rfl⟩
    obtain⟨w5,hw5⟩:∃w2,(w4.alloc (.cells #[.slice A5 n5 c5,.int .i64 (zZ rx)] 30))=w2:=⟨_,rfl⟩
    rw [hw5] at B5 V5 R5 C5 N5 Q5 ⊢;rw [hcb] at C5 HC5 ⊢;clear bz hw5 hcb hwj Vy Vz
   rotate_left
   focus
    have hg:=jN w4 w3.heap.size (.slice A5 n5 c5) (.int .i64 (zZ rx));have hsz0:w.heap.size≤w3.heap.size:=B3.out.size;have B5:=hi9 (zaN B4.out hsz0 (.slice A5 n5 c5) (.int .i64 (zZ rx)));have V5:=Vs;have R5:=hi9 (R4.out.but hg (fun e=>by injection e with e;omega));have C5:=hi9 (C4.out.set (.slice A5 n5 c5) (.int .i64 (zZ rx)));have HC5:=hi9 (Nat.le_refl w3.heap.size);have N5:=hi9 (N4.out.but hg (fun _ a e q=>by rcases F4.out a e with h1|h1 <;>(have:=HSW.out;have:=HZX.out;omega)));have F5:=hi9 (show∀a,A5=some a→(a.block<W.heap.size∨w3.heap.size≤a.block) from fun a e=>(F4.out a e).imp id (fun q=>by have:=HZX.out;omega));have Q5:=hi9 (zaN Q4.out (Nat.le_refl _) (.slice A5 n5 c5) (.int .i64 (zZ rx)));obtain⟨cb5,hcb⟩:∃cb,w3.heap.size=cb:=⟨_,rfl⟩
    obtain⟨w5,hw5⟩:∃w2,((w4.setCell ⟨w3.heap.size,0,none⟩ (.slice A5 n5 c5)).setCell ⟨w3.heap.size,1,none⟩ (.int .i64 (zZ rx)))=w2:=⟨_,rfl⟩
    rw [hw5] at B5 V5 R5 C5 N5 Q5 ⊢;rw [hcb] at C5 ⊢;replace HC5:=hi9 (show w3.heap.size≤cb5 from Nat.le_of_eq hcb);clear hg hw5 hcb hsz0 Vs y0 y1 y2 y3 C4
   rotate_left
   all_goals
    clear V4 B4 R4 N4 F4 Q4 Vd Vx Bd Bx Rd Rx Cx K0 K1 HZX hrb hpb hn1 hn2 b4 hN hf V3 B3 R3 Qd Qx;by_cases hu:zZ rx=0
    case neg =>
     have hf:(zZ rx != 0)=true:=by simpa using hu
     obtain⟨y0,y1,y2,y3⟩:=C5.out;have FX:=hi9 (show∀a,A5=some a→(a.block<W.heap.size∨w.heap.size≤a.block)∧a.block≠w.heap.size+1 from fun a e=>by
      have h2:w.heap.size+1<w3.heap.size:=HRB3.out
      have h3:=HSW.out
      rcases F5.out a e with h1|h1
      ·exact⟨.inl h1,by omega⟩
      ·exact⟨.inr (by omega),by omega⟩)
     have RS:=R5.out.set (.slice A5 n5 c5) (.int .i64 (zZ rx));obtain⟨s0,s1,-,-⟩:=RS;have GF:=hi9 (zA (S:=fun b=>b<W.heap.size) (r:=rx) N5.out FX.out B5.out (show w.heap.size≤w.heap.size+1 by omega));obtain⟨r0,r1,z0,z1⟩:=R5.out;go_wp2_with fail;exact bodyPost_ret (v := .agg #[.slice A5 n5 c5,.int .i64 (zZ rx)]) (by simp [results,Tryz.results12,go_sem,s0,s1]) rfl (by rw [HFX.out.1 hu];exact GF.out)
    obtain⟨Vx,rfl,hvx,hst⟩:=HFX.out.2 hu;have HVX:=hi9 hvx;have HST2:=hi9 hst;replace C5:=hi9 (show Vr2 w5 cb5 (.slice A5 n5 c5) (.int .i64 0) from C5.out);replace N5:=hi9 (show Ns w5 A5 n5 c5 Vx from N5.out);clear hu hvx hst HFX;obtain⟨y0,y1,y2,y3⟩:=C5.out;have hgl:∀g,(Value.slice A8 j c8).ownBlock=some g→w2.heap.size≤g∧g<w3.heap.size:=ziB hG.out.own;have G5:=hi9 (hG.out.keep Q5.out);have AP:=hi9 (show zaC ⟨A5,n5,c5,Vx⟩ (Value.slice A8 j c8).ownBlock from fun _ a e q=>by
     have h1:=hgl _ q
     have h2:w.heap.size≤w2.heap.size:=B2.out.size
     have h3:=HSW.out
     rcases F5.out a e with h4|h4 <;> omega)
    have FN:=hi9 (show∀a,A5=some a→a.block<W.heap.size∨w2.heap.size≤a.block from fun a e=>(F5.out a e).imp id (fun q=>Nat.le_trans hB.out.size q));have HB5:=hi9 (hB.out.trans (Q5.out.mono hB.out.size));have hsz5:=HB5.out.size;have hvl4:Vs.length≤4000:=by omega
    clear hgl;go_wp2_with (at_builtin;go_loud (refine wpList_append_own_at _ rfl _ _ 68 rfl w2.heap.size 30 i0 _ 2 32 Tryz.underlying68 hi hz0' hz1 hz2' rfl (by decide) (.slice A8 j c8) Vs.length (zcs Vs) rfl (G5.out.own.alloc _) ⟨_,0,none⟩ 1 1 [.slice A5 n5 c5,.int .i64 0] rfl rfl (jW _ _ _) (by intro u hu;simp only [List.mem_cons,List.not_mem_nil,or_false] at hu;rcases hu with rfl|rfl <;> rfl) ?c1 ?c2 ?c3 ?_))
    case c1=>unfold maxLen;omega
    case c2=>omega
    case c3=>simp;omega
    intro v1 w6 hown hgrow _ hat;have G6:=hi9 (G5.out.snoc (r:=⟨A5,n5,c5,Vx⟩) N5.out AP.out (by rw [hVl];exact hown) hgrow (by simpa using hat));have HB6:=hi9 ((HB5.out.alloc HB5.out.size _).grown hgrow (by simp;omega) (zW G5.out.own));obtain⟨A9,c9,e9,-⟩:=G6.out.at
    subst e9;have hl9:(Vs ++ [(⟨A5,n5,c5,Vx⟩:Sl)]).length=j+1:=by simp [hVl]
    have HE6:=hi9 (show evL k.env (L.take (j+1))= .ok ((Vs ++ [(⟨A5,n5,c5,Vx⟩:Sl)]).map Sl.P) from by rw [HST2.out,List.map_append];rfl);have HF6:=hi9 (show∀r∈Vs ++ [(⟨A5,n5,c5,Vx⟩:Sl)],(∀a,r.A=some a→a.block<W.heap.size∨w2.heap.size≤a.block)∧zc r.P=0 from fun r hr=>by
     rcases List.mem_append.1 hr with h1|h1
     ·exact hF.out r h1
     ·simp only [List.mem_cons,List.not_mem_nil,or_false] at h1
      subst h1
      exact⟨FN.out,HVX.out⟩)
    rw [hl9] at G6 ⊢;clear hown hgrow hat AP FN hG hF hE hB HB5 G5 N5 C5 y0 y1 y2 y3 B5 V5 R5 F5 HC5 Q5 HST2 HVX KX hsz5;go_wp2_with fail;go_roundw
    case rel=>exact⟨j+1,_,A9,c9,by go_num,by omega,rfl,hl9,HE6,G6,HF6,HB6⟩
    case measure=>simp [intOf];omega
  ·have hjp:j=pl:=by omega
   subst hjp;have HAL:=hi9 (show L.take j=L from List.take_of_length_le (by rw [HLL2.out];exact Nat.le_refl _));have hE2:=hE.out;rw [HAL.out] at hE2;have HRR:=HEV.out;rw [hE2] at HRR;simp only at HRR;have HRX:=hi9 HRR;obtain⟨A9,c9,e9,hGs⟩:=hG.out.at
   injection e9 with e91 e92 e93;subst e91;subst e93;have HGs:=hi9 hGs;have B3S:w2.heap.size≤w3.heap.size:=hB.out.size;have V3:=hi9 (W2.out.keep hB.out);clear e92 hGs hE2 HRR HEV hE HAL;by_cases h56:y.op=5∨y.op=6
   ·have HG5:∃b:Bool,(y.op==5)=b∧(y.op==6)= !b∧Hid (rr=if b=true then z8 (Wk.setE (Vs.map Sl.P)) (Wk.setV (Vs.map Sl.P)) else z8 (zam NM (Vs.map Sl.P)) (zcz NM (Vs.map Sl.P))):=by
     rcases h56 with h56|h56
     ·exact⟨true,beq_iff_eq.2 h56,beq_eq_false_iff_ne.2 (by omega),hi9 (by rw [HRX.out,if_neg (show¬y.op=6 by omega),if_pos h56,if_pos (rfl:true=true)])⟩
     ·exact⟨false,beq_eq_false_iff_ne.2 (by omega),beq_iff_eq.2 h56,hi9 (by rw [HRX.out,if_pos h56,HNR.out h56,if_neg (show¬false=true by decide)])⟩
    obtain⟨b,g5,g6,HRY⟩:=HG5
    have HP2:=hi9 (fun(t:Nat) (ht:t<j)=>HPT.out t (L[t]'(by rw [HLL2.out];exact ht)) (List.getElem?_eq_getElem _))
    have T0:=hi9 (⟨zT.nil w3 w3.heap.size,World.ownsRow_nil w3 w3.heap.size 9 1,.inl rfl,(by intro r hr;cases hr)⟩:jl w3 w3.heap.size (.slice none 0 0) (.slice none 0 0) (Vs.take 0) (NM.take 0))
    obtain⟨x0,x1,x2,x3⟩:=X3.out
    clear HRX h56 HPT hF
    cases b
    all_goals
     simp only [Bool.not_true,Bool.not_false] at g6;go_wp2_with fail;go_loopw [14,15,16] (fun vL vN i wr=>∃(t:Nat),i = .int .i64 t∧t≤j∧Hid (jl wr w3.heap.size vL vN (Vs.take t) (NM.take t))∧Hid (Below w3.heap.size w3 wr)) (fun _ _ i _=>j-(intOf i).toNat)
     case atStart=>exact⟨0,rfl,Nat.zero_le _,T0,hi9 (Below.refl _ _)⟩
     case round =>
      clear T0;obtain⟨t,rfl,ht,hT,hBt⟩:=hrel;obtain⟨w4,rfl⟩:∃w4:World,w4=wr:=⟨_,rfl⟩
      have B4:=bh B3 hBt.out;have X4:=hi9 (X3.out.keep hBt.out);have R4:=hi9 (R3.out.keep hBt.out);by_cases hlt:t<j
      ·have htV:t<Vs.length:=by omega
       have hsz4:=hBt.out.size;have hNl:NM.length=j:=HNL.out.trans HPL.out.symm;obtain⟨ga,rfl,z0,z1,hNr⟩:=HGs.out t Vs[t] (List.getElem?_eq_getElem htV);have z0:=za hBt.out z0;have z1:=za hBt.out z1;have hVs:=hi9 (List.take_append_getElem htV);have HNr:=hi9 hNr;generalize hrr:Vs[t]=r at *;obtain⟨VT,hVT⟩:∃VT,VT=Vs.take t:=⟨_,rfl⟩
       obtain⟨NT,hNT⟩:∃NT,NT=NM.take t:=⟨_,rfl⟩
       have hlT:VT.length=t:=by rw [hVT,List.length_take];omega
       have hlN:NT.length=t:=by rw [hNT,List.length_take];omega
       rw [←hVT,←hNT] at hT;rw [←hVT] at hVs;have A1:=hi9 (zcg (r:=r) hT.out.a.own HNr.out (Nat.le_refl _));have A2:=hi9 (zcg (r:=r) hT.out.b HNr.out (Nat.le_refl _));clear hNr hVT x0 x1 x2 x3;go_wp2_with (at_builtin;refine wpList_append_own_at _ rfl _ _ 69 rfl w3.heap.size 25 i1 _ 1 24 Tryz.underlying69 hi1 hjz0 hjz1 hjz2 rfl (by decide) _ VT.length (VT.map Sl.v) rfl (hT.out.a.own.alloc _) ⟨_,0,none⟩ 1 1 [.slice r.A r.n r.c] rfl rfl (cell_one_new _ _ _) (by intro u hu;simp only [List.mem_cons,List.not_mem_nil,or_false] at hu;subst hu;rfl) ?c1 ?c2 ?c3 ?_)
       case c1=>unfold maxLen;omega
       case c2=>omega
       case c3=>simp;omega
       intro v1 w5 hown hgrow _ hat;have T5:=hi9 (hT.out.part (r:=r) (HNr.out.keep hBt.out) A1.out A2.out (by rw [hlT];exact hown) hgrow (by simpa using hat));have B5:=hi9 ((hBt.out.alloc hsz4 _).grown hgrow (by simp;omega) (zW hT.out.a.own));have hsz5:=B5.out.size;clear hown hgrow hat A1 A2 hT B4 z0 z1;obtain⟨q,e1,-,-⟩:=HP2.out t hlt;obtain⟨a',rfl,qc⟩:=(HI.out.keep (hB.out.trans (B5.out.mono B3S))) t q e1;obtain⟨nd,hnd,hnm,hq1⟩:=HNA.out t q (by have:=HPL.out;omega) e1;have htN:t<NM.length:=by omega
       have hNMt:NM[t]=nd.s:=by
        rw [List.getElem?_eq_getElem htN] at hnm;injection hnm
       have hNs:=hi9 (List.take_append_getElem htN);rw [hNMt] at hNs;clear hnm hNMt;have hcx:=(HCX.out _ (bh B3 B5.out)).ns;obtain⟨a1,ea1,d0,d1,d2,d3⟩:=hcx.at_ (q-1) nd hnd;rw [ea] at ea1;injection ea1 with ea1;subst ea1;have hqn:q-1<k.n:=by
        rw [hcx.len];exact(List.getElem?_eq_some_iff.1 hnd).1
       obtain⟨q',rfl⟩:∃q',q=q'+1:=⟨q-1,by omega⟩
       rw [show q'+1-1=q' from rfl] at d2 hqn;have hqm:((q'+1:Nat):Int)-1=(q':Int):=by omega
       rw [←hNT] at hNs;obtain⟨nms,hnms⟩:∃s,s=nd.s:=⟨_,rfl⟩
       rw [←hnms] at d2 hNs;clear d0 d1 d3 hnd hcx e1 hNT hnms;go_wp2_with (at_builtin;refine wpList_append_own_at _ rfl _ _ 70 rfl w3.heap.size 9 i2 _ 1 16 Tryz.underlying70 hi2 hkz0 hkz1 hkz2 rfl (by decide) _ NT.length (NT.map Value.string) rfl (T5.out.b.alloc _) ⟨_,0,none⟩ 1 1 [.string nms] rfl rfl (cell_one_new _ _ _) (by intro u hu;simp only [List.mem_cons,List.not_mem_nil,or_false] at hu;subst hu;rfl) ?d1 ?d2 ?d3 ?_)
       case d1=>unfold maxLen;omega
       case d2=>omega
       case d3=>simp;omega
       intro v2 w6 hown hgrow _ hat;have T6:=hi9 (show jl w6 w3.heap.size v1 v2 (Vs.take (t+1)) (NM.take (t+1)) by
        rw [←hVs.out,←hNs.out]
        exact T5.out.name (s:=nms) (by simpa [hlN] using hown) hgrow (by simpa using hat))
       have B6:=hi9 ((B5.out.alloc hsz5 _).grown hgrow (by simp;omega) (zW T5.out.b));clear hown hgrow hat T5 B5 hVs hNs d2 qc;go_wp2_with fail;go_roundw
       case rel=>exact⟨t+1,by go_num,by omega,T6,B6⟩
       case measure=>simp [intOf];omega
      have e1:Vs.take t=Vs:=List.take_of_length_le (by omega);have e2:NM.take t=NM:=List.take_of_length_le (by have:=HNL.out;have:=HPL.out;omega);rw [e1,e2] at hT;obtain⟨A10,c10,e10,-,hSl⟩:=hT.out.a.at
      obtain⟨A11,c11,e11,hTx⟩:=zmO hT.out.b;rw [hVl] at e10;subst e10;subst e11;have KC:Hid (_∧_):=hi9 ⟨zqe A10 j c10 Vs w4 hVl.symm (by omega) hSl,znL A11 NM.length c11 NM A10 j c10 Vs w4 rfl (by have:=HNL.out;have:=HPL.out;omega) hTx HNK.out hVl.symm (by omega) hSl⟩;clear hSl hTx e1 e2;clear x0 x1 x2 x3;obtain⟨x0,x1,x2,x3⟩:=X4.out;go_wp2_with fail
      first
       | with_reducible refine KC.out.1.mono ?_
       | with_reducible refine KC.out.2.mono ?_
      rintro e w5 h5
      first
       | have h5:=zq2 (N:=NM) (L:=Vs.map Sl.P) HRY.out h5
       | have h5:=zrv (L:=Vs.map Sl.P) HRY.out h5
      obtain⟨A5,n5,c5,rfl,hN,b5,hf⟩:=h5;have N5:=hi9 hN;have F5:=hi9 hf;have B5:=bh B4 b5;have R5:=hi9 (R4.out.keep b5);clear hN hf b5 KC HRY;go_wp2_with fail;refine(zsp A5 n5 c5 (zZ rr) w5).mono ?_;rintro e w6 ⟨rfl,b6⟩;have B6:=bh B5 b6;have R6:=hi9 (R5.out.keep b6);obtain⟨r0,r1,z0,z1⟩:=R6.out;have RS:=R6.out.set (.slice A5 n5 c5) (.int .i64 (zZ rr));obtain⟨s0,s1,-,-⟩:=RS;have GF:=hi9 (zA (S:=fun b=>b<W.heap.size) (r:=rr) (N5.out.keep b6) (j5 (S:=fun b=>b<W.heap.size) B4.out R4.out F5.out) B6.out (show w.heap.size≤w.heap.size+1 by omega));go_wp2_with fail;exact bodyPost_ret (v := .agg #[.slice A5 n5 c5,.int .i64 (zZ rr)]) (by simp [results,Tryz.results12,go_sem,s0,s1]) rfl GF.out
   have g5:(y.op==5)=false:=beq_eq_false_iff_ne.2 (fun q=>h56 (.inl q));have g6:(y.op==6)=false:=beq_eq_false_iff_ne.2 (fun q=>h56 (.inr q));have HRY:=hi9 (show rr=zeD k.env.E y (Vs.map Sl.P) from by rw [HRX.out,if_neg (fun q=>h56 (.inr q)),if_neg (fun q=>h56 (.inl q))]);obtain⟨x0,x1,x2,x3⟩:=X3.out;by_cases hp1:y.op=9∨y.op=10∨21≤y.op∧y.op≤24
   ·have hj1:j=1:=by
     have:=HPN.out;rw [←HPL.out] at this;unfold zH at this;rw [if_neg h56,if_neg (by omega),if_pos (by omega)] at this;omega
    subst hj1
    obtain⟨r,rfl⟩:∃r,Vs = [r]:=by
     match Vs,hVl with
     | [r],_=>exact⟨r,rfl⟩
    obtain⟨ga,rfl,q0,q1,hNr⟩:=HGs.out 0 r rfl
    rw [show ga.add (0*2)=ga from rfl] at q0 q1
    obtain⟨hFr,hvr⟩:=hF.out r (by simp)
    have K1:=hi9 (fun w' (hb':Below w3.heap.size w3 w')=>ztV (fun b=>b<W.heap.size∨w2.heap.size≤b) k.EA k.en k.ec k.E y hp1 (fun q=>by
     have h1:=HFD.out.1
     unfold jz at h1
     rw [if_neg (by omega)] at h1
     by_cases c:zH y<0∨y.n≠0∨y.t≠emp
     ·rw [if_pos c] at h1
      cases h1
     ·rw [if_neg c,if_neg (by omega),if_neg (by omega),if_pos q] at h1
      simpa using h1) r.A r.n r.c r.P w' ((HCX.out _ (bh B3 hb').out).es) HES.out (hNr.keep hb') hvr hFr (fun z hz a e => .inl (HEA.out z hz a e)))
    rw [show jE k.E y r.P=rr from by rw [HRY.out];rfl] at K1
    unfold zD ndV at K1
    clear HRY HRX hF hNr hFr hvr HGs
    go_wp2_with fail
    have hgb:w2.heap.size≤ga.block:=(ziB hG.out.own _ rfl).1
    have hr2:w.heap.size+1<w2.heap.size:=block_lt_of_cell R2.out.c0
    have bd:=zG w3
    have Y3:=hi9 (⟨⟨x0,x1,x2,x3⟩,q0,q1⟩:Vn1 w3 (w.heap.size+1+1) y ga r.A r.n r.c)
    have Yd:=hi9 (Y3.out.keep bd)
    have Bd:=bh B3 bd
    have Rd:=hi9 (R3.out.keep bd)
    have K0:=hi9 (K1.out w3.drew bd)
    have hn1:w.heap.size+1+1≠w.heap.size+1:=by omega
    have hn2:ga.block≠w.heap.size+1:=by omega
    clear bd
    go_region_held3 (fun w':World=>w'.cell? ⟨w.heap.size+1+1,0,none⟩=some (.int .i64 y.op)∧w'.cell? ⟨w.heap.size+1+1,1,none⟩=some (.int .i64 y.n)∧w'.cell? ⟨w.heap.size+1+1,2,none⟩=some (.string y.s)∧w'.cell? ⟨w.heap.size+1+1,3,none⟩=some (.string y.t)∧w'.cell? ga=some (.slice r.A r.n r.c)∧w'.cell? ⟨ga.block,ga.off+1,none⟩=some (.int .i64 0)) (first|(with_reducible exact zhh Ys.out)|(with_reducible exact zhh Y4.out)|(with_reducible exact zhh Yd.out)|(with_reducible exact zhh Y3.out)) (first
     |(go_at_call 32;(with_reducible refine K0.out.mono ?_);rintro e w4 ⟨A4,n4,c4,rfl,hN,hf,b4⟩;have N4:=hi9 hN;have F4:=hi9 hf;have B4:=bh Bd b4;have R4:=hi9 (Rd.out.keep b4);have Y4:=hi9 (Yd.out.keep b4);have Ys:=hi9 (Y4.out.but (jN w4 (w.heap.size+1) (.slice A4 n4 c4) (.int .i64 (zZ rr))) hn1 hn2);obtain⟨r0,r1,z0,z1⟩:=R4.out))
    have RS:=R4.out.set (.slice A4 n4 c4) (.int .i64 (zZ rr))
    obtain⟨s0,s1,-,-⟩:=RS
    have FX:∀a,A4=some a→(a.block<W.heap.size∨w.heap.size≤a.block)∧a.block≠w.heap.size+1:=fun a e=>by
     have h3:=HSW.out;have h4:w2.heap.size≤w3.drew.heap.size:=B3S;rcases F4.out a e with (h1|h1)|h1
     ·exact⟨.inl h1,by omega⟩
     ·exact⟨.inr (by omega),by omega⟩
     ·exact⟨.inr (by omega),by omega⟩
    have GF:=hi9 (zA (S:=fun b=>b<W.heap.size) (r:=rr) N4.out FX B4.out (show w.heap.size≤w.heap.size+1 by omega))
    go_wp2_with fail
    exact bodyPost_ret (v := .agg #[.slice A4 n4 c4,.int .i64 (zZ rr)]) (by simp [results,Tryz.results12,go_sem,s0,s1]) rfl GF.out
   have hpl2:j=2∧(14≤y.op∧y.op≤20∨25≤y.op∧y.op≤27):=by
    have h1:=HPN.out;have h7:=HFD.out.2;rw [←HPL.out] at h1;unfold zH at h1;rw [if_neg h56] at h1
    repeat' split at h1
    all_goals omega
   obtain⟨hj2,hop2⟩:=hpl2;subst hj2;obtain⟨r,s,rfl⟩:∃r s,Vs = [r,s]:=by
    match Vs,hVl with
    | [r,s],_=>exact⟨r,s,rfl⟩
   ·obtain⟨ga,rfl,q0,q1,hNr⟩:=HGs.out 0 r rfl;obtain⟨ga',ega,q2,q3,hNs⟩:=HGs.out 1 s rfl;injection ega with ega;subst ega;rw [show ga.add (0*2)=ga from rfl] at q0 q1;rw [show ga.add (1*2)=⟨ga.block,ga.off+2,none⟩ from rfl] at q2 q3;obtain⟨hFr,hvr⟩:=hF.out r (by simp);obtain⟨hFs,hvs⟩:=hF.out s (by simp);have K1:=hi9 (fun w' (hb':Below w3.heap.size w3 w')=>ztH (fun b=>b<W.heap.size∨w2.heap.size≤b) y.op hop2 k.EA k.en k.ec k.E r.A s.A r.n s.n r.c s.c r.P s.P w' (hNr.keep hb') (hNs.keep hb') hvr hvs ((HCX.out _ (bh B3 hb').out).es) HES.out);rw [show jQ k.E y.op r.P s.P=rr from by rw [HRY.out];rfl] at K1;unfold zD at K1;clear HRY HRX hF hNr hFr hvr hNs hFs hvs HGs;go_wp2_with fail;have hgb:w2.heap.size≤ga.block:=(ziB hG.out.own _ rfl).1;have hr2:w.heap.size+1<w2.heap.size:=block_lt_of_cell R2.out.c0;have bd:=zG w3;have Y3:=hi9 (⟨⟨⟨x0,x1,x2,x3⟩,q0,q1⟩,q2,q3⟩:Vn2 w3 (w.heap.size+1+1) y ga r.A s.A r.n r.c s.n s.c);have Yd:=hi9 (Y3.out.keep bd);have Bd:=bh B3 bd;have Rd:=hi9 (R3.out.keep bd);have K0:=hi9 (K1.out w3.drew bd);have hn1:w.heap.size+1+1≠w.heap.size+1:=by omega
    have hn2:ga.block≠w.heap.size+1:=by omega
    clear bd;go_region_held3 (fun w':World=>w'.cell? ⟨w.heap.size+1+1,0,none⟩=some (.int .i64 y.op)∧w'.cell? ga=some (.slice r.A r.n r.c)∧w'.cell? ⟨ga.block,ga.off+1,none⟩=some (.int .i64 0)∧w'.cell? ⟨ga.block,ga.off+2,none⟩=some (.slice s.A s.n s.c)∧w'.cell? ⟨ga.block,ga.off+2+1,none⟩=some (.int .i64 0)) (first|(with_reducible exact zg8 Ys.out)|(with_reducible exact zg8 Y4.out)|(with_reducible exact zg8 Yd.out)|(with_reducible exact zg8 Y3.out)) (first
     |(go_at_call 33;(with_reducible refine K0.out.mono ?_);rintro e w4 ⟨A4,n4,c4,rfl,hN,hf,b4⟩;have N4:=hi9 hN;have F4:=hi9 hf;have B4:=bh Bd b4;have R4:=hi9 (Rd.out.keep b4);have Y4:=hi9 (Yd.out.keep b4);have Ys:=hi9 (Y4.out.but (jN w4 (w.heap.size+1) (.slice A4 n4 c4) (.int .i64 (zZ rr))) hn1 hn2);obtain⟨r0,r1,z0,z1⟩:=R4.out))
    have RS:=R4.out.set (.slice A4 n4 c4) (.int .i64 (zZ rr));obtain⟨s0,s1,-,-⟩:=RS;have FX:∀a,A4=some a→(a.block<W.heap.size∨w.heap.size≤a.block)∧a.block≠w.heap.size+1:=fun a e=>by
     have h3:=HSW.out;have h4:w2.heap.size≤w3.drew.heap.size:=B3S;rcases F4.out a e with (h1|h1)|h1
     ·exact⟨.inl h1,by omega⟩
     ·exact⟨.inr (by omega),by omega⟩
     ·exact⟨.inr (by omega),by omega⟩
    have GF:=hi9 (zA (S:=fun b=>b<W.heap.size) (r:=rr) N4.out FX B4.out (show w.heap.size≤w.heap.size+1 by omega));go_wp2_with fail;exact bodyPost_ret (v := .agg #[.slice A4 n4 c4,.int .i64 (zZ rr)]) (by simp [results,Tryz.results12,go_sem,s0,s1]) rfl GF.out
theorem zqG{ps:Exs}(h:ps.len=2):∃a b,ps = .cons a (.cons b .nil):=by
 match ps,h with
 | .cons a (.cons b .nil),_=>exact⟨a,b,rfl⟩
theorem zl3{ps:Exs}(h:ps.len=3):∃a b c,ps = .cons a (.cons b (.cons c .nil)):=by
 match ps,h with
 | .cons a (.cons b (.cons c .nil)),_=>exact⟨a,b,c,rfl⟩
theorem zqq(x:Ex):zbt false x=x:=by cases x;rfl
theorem zta(W:World)(k:Cx)(N:Nat)(hW:zf2 W k N)(n:Nd)(ps:Exs)(p:Nat)(w:World)(h:zdK w k)(hb:Below W.heap.size W w)(hx:XAt k.P p false (.node n ps))(hN:ps.flat.length≤N)(h4:ps.len+1≤4000)(h3:n.op=11∨n.op=12∨n.op=13)(A':Option Addr)(c':Nat)(hI:zeB w A' (za6 (z6 n) (p+1) ps)):
 Calls Tryz.prog 28 #[.slice k.EA k.en k.ec,k.q.v,.slice k.A k.n k.c,.int .i64 n.op,.slice A' (ps.len+1) c'] w (zD (fun b=>b<W.heap.size) w (evX k.env (.node n ps))):=by
 have hr:z6 n=false:=decide_eq_false (by omega);have hp:zcS k.P (p+1) (z6 n) ps:=hx.parts;rw [hr] at hp;rw [hr] at hI;have hl:(ps.len:Int)=zH n:=hx.valid.2.1;have hc:∀(j:Nat) (x:Ex),ps.list[j]?=some x→∃q:Nat,(∃a,A'=some a∧w.cell? (a.add j)=some (.int .i64 (q:Int)))∧XAt k.P q false x∧x.flat.length≤N:=fun j x e=>by
  obtain⟨q,z,xa,la⟩:=zpm hp hN (j:=j) (x:=x) (by rw [List.getElem?_map,e];exact congrArg some (zqq x));exact⟨q,hI j q z,xa,la⟩
 have hE:∀o:Bool,n.op=(if o then 12 else 11)→evX k.env (.node n ps)=ja k.env o ps:=fun o e=>by
  rw [evX];cases o
  ·rw [if_neg (by simp at e;omega),if_neg (by simp at e;omega),if_pos (by simp at e;omega),decide_eq_false (by simp at e;omega)]
  ·rw [if_neg (by simp at e;omega),if_neg (by simp at e;omega),if_pos (by simp at e;omega),decide_eq_true (by simp at e;omega)]
 by_cases h13:n.op=13
 ·have hl3:ps.len=3:=by
   unfold zH at hl
   repeat' split at hl
   all_goals omega
  obtain⟨a,b,c,rfl⟩:=zl3 hl3
  obtain⟨q0,⟨a',rfl,c0⟩,xa,la⟩:=hc 0 a rfl
  obtain⟨q1,⟨a1,e1,c1⟩,xb,lb⟩:=hc 1 b rfl
  obtain⟨q2,⟨a2,e2,c2⟩,xc,lc⟩:=hc 2 c rfl
  injection e1 with e1
  subst e1
  injection e2 with e2
  subst e2
  have K:=zp3 W k N hW a b c a' 4 c' q0 q1 q2 w h hb (by omega) (by omega) c0 c1 c2 xa xb xc la lb lc
  rw [show evX k.env (.node n (.cons a (.cons b (.cons c .nil))))=zcb k.env (.cons a (.cons b (.cons c .nil))) by
   rw [evX,if_neg (by omega),if_neg (by omega),if_neg (by omega),if_pos h13],h13]
  exact K
 ·obtain⟨o,ho⟩:∃o:Bool,n.op=(if o then 12 else 11):=by
   rcases h3 with e|e|e
   ·exact⟨false,e⟩
   ·exact⟨true,e⟩
   ·exact absurd e h13
  have hl2:ps.len=2:=by
   unfold zH at hl
   repeat' split at hl
   all_goals omega
  obtain⟨a,b,rfl⟩:=zqG hl2
  obtain⟨q0,⟨a',rfl,c0⟩,xa,la⟩:=hc 0 a rfl
  obtain⟨q1,⟨a1,e1,c1⟩,xb,lb⟩:=hc 1 b rfl
  injection e1 with e1
  subst e1
  have K:=zpB W k N hW o a b a' 3 c' q0 q1 w h hb (by omega) (by omega) c0 c1 xa xb la lb
  rw [hE o ho,ho]
  exact K
theorem zt5(W:World)(k:Cx)(N:Nat)(hW:zf2 W k N)(n:Nd)(ps:Exs)(p:Nat)(w:World)(h:zdK w k)(hb:Below W.heap.size W w)(hk:k.n≤4000)(hx:XAt k.P p false (.node n ps))(hN:ps.flat.length≤N)(h3:n.op=11∨n.op=12∨n.op=13):
 Calls Tryz.prog 12 #[.slice k.EA k.en k.ec,k.q.v,.slice k.A k.n k.c,.int .i64 p] w (zD (fun b=>b<W.heap.size) w (evX k.env (.node n ps))):=by
 have hps:ps.len+1≤4000:=by
  have h1:=hx.le;have h2:=za2 ps;have h3:(Ex.node n ps).flat.length=ps.flat.length+1:=by simp [Ex.flat]
  rw [←h.ns.len] at h1;omega
 have KPo:=hi9 (fun w' (hb':Below w.heap.size w w')=>zgx k.A k.n k.c k.P p false (.node n ps) w' (h.ns.keep hb') hk hx);have KL:=hi9 (fun(A':Option Addr) (c':Nat) w' (hb':Below w.heap.size w w') (hI:zeB w' A' (za6 (z6 n) (p+1) ps))=>zta W k N hW n ps p w' (h.keep hb') (hb.trans (hb'.mono hb.size)) hx hN hps h3 A' c' hI);have HSW:=hi9 hb.size;obtain⟨a0,ea,d0,d1,d2,d3⟩:=h.ns.at_ p n hx.head;have hpn:p<k.n:=by rw [h.ns.len];exact(List.getElem?_eq_some_iff.1 hx.head).1
 have hok:zcw n:=h.ns.ok _ (List.mem_of_getElem? hx.head);have HH:=hi9 h;rw [ea];generalize n=y at *;have B1:Below w.heap.size w (w.alloc (.cells #[.string k.q.who.1,.string k.q.who.2,.string k.q.act.1,.string k.q.act.2,.string k.q.what.1,.string k.q.what.2,.slice k.q.NA k.q.nn k.q.nc] 27)):=zb w _;have B2:Below w.heap.size w ((w.alloc (.cells #[.string k.q.who.1,.string k.q.who.2,.string k.q.act.1,.string k.q.act.2,.string k.q.what.1,.string k.q.what.2,.slice k.q.NA k.q.nn k.q.nc] 27)).alloc (.cells #[.slice none 0 0,.int .i64 0] 30)):=B1.trans ((zb (w.alloc (.cells #[.string k.q.who.1,.string k.q.who.2,.string k.q.act.1,.string k.q.act.2,.string k.q.what.1,.string k.q.what.2,.slice k.q.NA k.q.nn k.q.nc] 27)) _).mono B1.size);have B0:=hi9 (show Below w.heap.size w (((w.alloc (.cells #[.string k.q.who.1,.string k.q.who.2,.string k.q.act.1,.string k.q.act.2,.string k.q.what.1,.string k.q.what.2,.slice k.q.NA k.q.nn k.q.nc] 27)).alloc (.cells #[.slice none 0 0,.int .i64 0] 30)).alloc (.cells #[.int .i64 y.op,.int .i64 y.n,.string y.s,.string y.t] 53)) from B2.trans ((zb ((w.alloc (.cells #[.string k.q.who.1,.string k.q.who.2,.string k.q.act.1,.string k.q.act.2,.string k.q.what.1,.string k.q.what.2,.slice k.q.NA k.q.nn k.q.nc] 27)).alloc (.cells #[.slice none 0 0,.int .i64 0] 30)) _).mono B2.size));have hz2:((w.alloc (.cells #[.string k.q.who.1,.string k.q.who.2,.string k.q.act.1,.string k.q.act.2,.string k.q.what.1,.string k.q.what.2,.slice k.q.NA k.q.nn k.q.nc] 27)).alloc (.cells #[.slice none 0 0,.int .i64 0] 30)).heap.size=w.heap.size+1+1:=by simp [go_sem]
 have hz0:(((w.alloc (.cells #[.string k.q.who.1,.string k.q.who.2,.string k.q.act.1,.string k.q.act.2,.string k.q.what.1,.string k.q.what.2,.slice k.q.NA k.q.nn k.q.nc] 27)).alloc (.cells #[.slice none 0 0,.int .i64 0] 30)).alloc (.cells #[.int .i64 y.op,.int .i64 y.n,.string y.s,.string y.t] 53)).heap.size=w.heap.size+1+1+1:=by simp [go_sem]
 have W0:=hi9 (((zb1 w k.q 27).keep (zb (w.alloc (.cells #[.string k.q.who.1,.string k.q.who.2,.string k.q.act.1,.string k.q.act.2,.string k.q.what.1,.string k.q.what.2,.slice k.q.NA k.q.nn k.q.nc] 27)) (.cells #[.slice none 0 0,.int .i64 0] 30))).keep (zb ((w.alloc (.cells #[.string k.q.who.1,.string k.q.who.2,.string k.q.act.1,.string k.q.act.2,.string k.q.what.1,.string k.q.what.2,.slice k.q.NA k.q.nn k.q.nc] 27)).alloc (.cells #[.slice none 0 0,.int .i64 0] 30)) (.cells #[.int .i64 y.op,.int .i64 y.n,.string y.s,.string y.t] 53)));have X0:=zdr ((w.alloc (.cells #[.string k.q.who.1,.string k.q.who.2,.string k.q.act.1,.string k.q.act.2,.string k.q.what.1,.string k.q.what.2,.slice k.q.NA k.q.nn k.q.nc] 27)).alloc (.cells #[.slice none 0 0,.int .i64 0] 30)) y 53;rw [hz2] at X0;have R0:=hi9 ((zcC w (.cells #[.string k.q.who.1,.string k.q.who.2,.string k.q.act.1,.string k.q.act.2,.string k.q.what.1,.string k.q.what.2,.slice k.q.NA k.q.nn k.q.nc] 27) 30).keep (zb ((w.alloc (.cells #[.string k.q.who.1,.string k.q.who.2,.string k.q.act.1,.string k.q.act.2,.string k.q.what.1,.string k.q.what.2,.slice k.q.NA k.q.nn k.q.nc] 27)).alloc (.cells #[.slice none 0 0,.int .i64 0] 30)) (.cells #[.int .i64 y.op,.int .i64 y.n,.string y.s,.string y.t] 53)));replace d0:=za B2 d0;replace d1:=za B2 d1;replace d2:=za B2 d2;replace d3:=za B2 d3;clear B1 B2 hz2;have f1:(1:Int)≤y.op:=by omega
 have f2:¬y.op≤(4:Int):=by omega
 have g8:(y.op==8)=false:=beq_eq_false_iff_ne.2 (by omega);obtain⟨x0,x1,x2,x3⟩:=X0;have X0:Vn (((w.alloc (.cells #[.string k.q.who.1,.string k.q.who.2,.string k.q.act.1,.string k.q.act.2,.string k.q.what.1,.string k.q.what.2,.slice k.q.NA k.q.nn k.q.nc] 27)).alloc (.cells #[.slice none 0 0,.int .i64 0] 30)).alloc (.cells #[.int .i64 y.op,.int .i64 y.n,.string y.s,.string y.t] 53)) (w.heap.size+1+1) y:=⟨x0,x1,x2,x3⟩
 have HX0:=hi9 X0;obtain⟨rr,hrr⟩:∃rr,rr=evX k.env (.node y ps):=⟨_,rfl⟩
 rw [←hrr] at KL ⊢;rw [ea] at KPo KL;unfold zD Rq.v at KL;unfold Rq.v;dsimp only [Ex.parts,Ex.head] at KPo;obtain⟨m,hm⟩:∃m,m=ps.len+1:=⟨_,rfl⟩
 rw [←hm] at KPo KL hps;have H3:=hi9 h3;clear h hx hok hz0 hrr hb hW X0 hN hm h3;go_enter Tryz.func12,Tryz.ntmps12;go_wp2_with fail;refine(KPo.out _ B0.out).mono ?_;rintro e w2 ⟨A',c',rfl,hc',hI,b2⟩;have B2:=bh B0 b2;have W2:=hi9 (W0.out.keep b2);have R2:=hi9 (R0.out.keep b2);have X2:=hi9 (HX0.out.keep b2);have K1:=hi9 (KL.out A' c' _ B2.out hI);clear hI b2 B0 W0 R0 HX0 KPo KL x0 x1 x2 x3 d0 d1 d2 d3;obtain⟨x0,x1,x2,x3⟩:=X2.out;obtain⟨k0,k1,k2,k3,k4,k5,k6⟩:=W2.out;rcases H3.out with h3|h3|h3
 all_goals
  first
   | have g11:(y.op==11)=true:=by rw [h3];rfl
   | have g11:(y.op==11)=false:=by rw [h3];rfl
  first
   | have g12:(y.op==12)=true:=by rw [h3];rfl
   | have g12:(y.op==12)=false:=by rw [h3];rfl
  first
   | have g13:(y.op==13)=true:=by rw [h3];rfl
   | have g13:(y.op==13)=false:=by rw [h3];rfl
  clear h3;go_wp2_with fail;refine K1.out.mono ?_;rintro e w4 ⟨A4,n4,c4,rfl,hN,hf,b4⟩;have B4:=bh B2 b4;have N4:=hi9 hN;have FX:=hi9 (show∀a,A4=some a→(a.block<W.heap.size∨w.heap.size≤a.block)∧a.block≠w.heap.size+1 from fun a e=>by
   have h1:=HSW.out
   have h2:w.heap.size+1<w2.heap.size:=block_lt_of_cell R2.out.c0
   rcases hf a e with h|h
   ·exact⟨.inl h,by omega⟩
   ·exact⟨.inr (by omega),by omega⟩)
  have R4:=hi9 (R2.out.keep b4);clear b4 hN hf;have RS:=R4.out.set (.slice A4 n4 c4) (.int .i64 (zZ rr));obtain⟨s0,s1,-,-⟩:=RS;have GF:=hi9 (zA (S:=fun b=>b<W.heap.size) (r:=rr) N4.out FX.out B4.out (show w.heap.size≤w.heap.size+1 by omega));obtain⟨r0,r1,z0,z1⟩:=R4.out;go_wp2_with fail;exact bodyPost_ret (v := .agg #[.slice A4 n4 c4,.int .i64 (zZ rr)]) (by simp [results,Tryz.results12,go_sem,s0,s1]) rfl GF.out
theorem zjZ(W:World)(k:Cx)(hCW:zdK W k)(hk:k.n≤4000):∀N,zf2 W k N
 | 0=>fun x p w h hb hx hN=>by
  obtain⟨n,ps⟩:=x;simp [Ex.flat] at hN
 | N+1=>fun x p w h hb hx hN=>by
  have IH:=zjZ W k hCW hk N;obtain⟨n,ps⟩:=x;have hN':ps.flat.length≤N:=by simpa [Ex.flat] using hN
  have hop:1≤n.op:=by
   have hl:(ps.len:Int)=zH n:=hx.valid.2.1;unfold zH at hl
   repeat' split at hl
   all_goals omega
  by_cases h4:n.op≤4
  ·rw [show evX k.env (.node n ps)= .ok [n] by rw [evX,if_pos ⟨hop,h4⟩]];exact ztU _ k (.node n ps) p w h hx ⟨hop,h4⟩
  by_cases h8:n.op=8
  ·rw [show evX k.env (.node n ps)=jF k.env n.s by rw [evX,if_neg (by omega),if_pos h8]];have hq:∀a,k.q.NA=some a→a.block<W.heap.size:=fun a e=>hCW.rq.ns.at_.lt (zm hCW.ok.ctx.1) a e;exact zuJ _ k (.node n ps) p w h hx h8 hq (fun a e=>Nat.lt_of_lt_of_le (hq a e) hb.size)
  by_cases h3:n.op=11∨n.op=12∨n.op=13
  ·exact zt5 W k N IH n ps p w h hb hk hx hN' h3
  ·exact zsG W k N IH n ps p w hCW h hb hk hx hN' (by omega) h8 (by omega) (by omega) (by omega)
end Go.Proofs.YtkfgabdnppmglaaGreatDoor
