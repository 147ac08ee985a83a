/-
  Maps by uids, made by the call: what they hold, by the list of what was put. ent.stored: the store by uid. Slices of entities that come in. What slices of ..
-/
import Derived.DeepKeys4
import Derived.Maps.Own
import Derived.Maps.OwnOps
import Derived.Maps.OwnSet
import Derived.Maps.Views
import Derived.SizedLaws
import Derived.Test.YtkfgabdnppmglaaGreatDoorQ3
import Derived.Test.YtkfgabdnppmglaaGreatDoorQ8
import Derived.Test.YtkfgabdnppmglaaGreatDoorQ19
import Derived.Test.YtkfgabdnppmglaaGreatDoorQ22
import Derived.Test.YtkfgabdnppmglaaGreatDoorQ25
set_option maxRecDepth 100000
set_option maxHeartbeats 8000000
namespace Go.Proofs.YtkfgabdnppmglaaGreatDoor
open Go.RowKit Go.Wk Go.Maps
def udV(u:Ud):Value := .agg #[.string u.1,.string u.2]
def UOk(u:Ud):Prop:=u.1.size≤maxLen∧u.2.size≤maxLen
def zb9(u:Ud):Lit := .string (keyBytes [.string u.1.data.toList,.string u.2.data.toList])
theorem zau:Keyed Tryz.prog 24 :=
 Keyed.of_law (deep_law_laid zo6 (m:=4) (by decide) (of_decide_eq_true (by kernel_rfl)) (by kernel_rfl) (by kernel_rfl))
theorem znM(D:Nat)(u:Ud)(h:UOk u):Tryz.prog.keyLits (D+2) 24 (udV u).cells.toList=some [.string u.1.data.toList,.string u.2.data.toList]:=by
 obtain⟨h1,h2⟩:=h;simp [udV,Value.cells,Program.keyLits,Tryz.underlying24,Tryz.underlying9,zbv,zbA,h1,h2]
theorem zqv:0<Tryz.prog.types.size:=of_decide_eq_true (by kernel_rfl)
theorem zbE(u:Ud)(h:UOk u):keyOf Tryz.prog 24 (udV u)=some (zb9 u):=by
 have hk:Tryz.prog.keyType 24=true:=by kernel_rfl
 have hf:(udV u).formed Tryz.prog 24=true:=by
  unfold udV Value.formed;rw [Tryz.underlying24,zbv];rfl
 obtain⟨D,hD⟩:∃D,Tryz.prog.types.size+1=D+2:=⟨Tryz.prog.types.size-1,by have:=zqv;omega⟩
 unfold keyOf;rw [Tryz.underlying24,hk,hf,hD,znM D u h];rfl
theorem zlZ{u v:Ud}(hu:UOk u)(hv:UOk v)(h:zb9 u=zb9 v):u=v:=by
 have:=zau.inj (zbE u hu) (h ▸ zbE v hv);unfold udV at this;injection this with this;have h1:=congrArg (fun a:Array Value=>a.toList) this;simp only [List.cons.injEq,Value.string.injEq,and_true] at h1;exact Prod.ext h1.1 h1.2
theorem znb(u:Ud):WideAt.IsKeyLit (zb9 u):=trivial
def zbR(L:List (Ud × Value)):DataW Value:=L.foldl (fun D p=>D.put (zb9 p.1) (.held p.2)) (.map [])
theorem zc2(L:List (Ud × Value))(p:Ud × Value):zbR (L ++ [p])=(zbR L).put (zb9 p.1) (.held p.2):=by simp [zbR]
theorem zh0(L:List (Ud × Value)):IsMap (zbR L):=by
 refine zc3 (C:=fun L=>IsMap (zbR L)) isMap_empty (fun L p ih=>?_) L;rw [zc2];exact ih.put _ _
def zcK:List (Ud × Value)→Ud→Option Value
 | [],_=>none
 | x :: r,p=>match zcK r p with
  | some v=>some v
  | none=>if x.1=p then some x.2 else none
theorem zno(L:List (Ud × Value))(x:Ud × Value)(p:Ud):zcK (L ++ [x]) p=if x.1=p then some x.2 else zcK L p:=by
 induction L with
 | nil=>rfl
 | cons y r ih =>
  simp only [List.cons_append,zcK,ih]
  by_cases h:x.1=p
  ·rw [if_pos h,if_pos h]
  ·rw [if_neg h,if_neg h]
theorem zeR(L:List (Ud × Value))(p:Ud)(hp:UOk p)(z:Value)(hL:∀x∈L,UOk x.1):(zbR L).atKey (zb9 p) (.held z)= .held ((zcK L p).getD z):=by
 revert hL;refine zc3 (C:=fun L=>(∀x∈L,UOk x.1)→(zbR L).atKey (zb9 p) (.held z)= .held ((zcK L p).getD z)) (fun _=>rfl) (fun L x ih hL=>?_) L;rw [zc2,zno];by_cases h:x.1=p
 ·subst h;rw [if_pos rfl,atKey_put_same (zh0 L) (znb _)];rfl
 ·rw [if_neg h,atKey_put_other (fun e=>h (zlZ (hL x (by simp)) hp e.symm))];exact ih (fun y hy=>hL y (by simp [hy]))
theorem zii{L:List (Ud × Value)}{p:Ud}(h:∀x∈L,x.1≠p):zcK L p=none:=by
 induction L with
 | nil=>rfl
 | cons y r ih=>simp only [zcK];rw [ih (fun x hx=>h x (by simp [hx]))];exact if_neg (h y (by simp))
theorem zom{L:List (Ud × Value)}(hn:(L.map (·.1)).Nodup){x:Ud × Value}(hx:x∈L):zcK L x.1=some x.2:=by
 induction L with
 | nil=>cases hx
 | cons y r ih =>
  rw [List.map_cons,List.nodup_cons] at hn
  simp only [zcK]
  rcases List.mem_cons.1 hx with rfl|hx
  ·rw [zii (fun z hz e=>hn.1 (List.mem_map.2 ⟨z,hz,e⟩))];exact if_pos rfl
  ·rw [ih hn.2 hx]
theorem zjo{H:Type}{P:Program}{k:TypeId}{R:Value→Option (DataW H × List MemPlace)}{w w':World}{b n:Nat}{D:DataW H}(h:w.ownsMap P k R b n D)(hb:w'.heap[b]?=w.heap[b]?):w'.ownsMap P k R b n D :=
 let ⟨es,clock,h1,r⟩:=h
 ⟨es,clock,hb.trans h1,r⟩
theorem jX{P:Program}(w:World){ops:Array Oper}{rest:List Oper}{o:Oper}{a:Act}{Q:Exit→Act→World→Prop}
 (hg:o.guard=none) (m x:Operand) (t:TypeId) (hop:o.op=Op.lookup t m x false)
 (k e:TypeId) (K:Keyed P k) (ht:P.underlying t=some (.map k e)) {z:Value} (hz:(zeroValue e).run P w = .ok z w) (b n:Nat) (D:DataW Value)
 (hm:a.eval m = .map (some b)) (hown:w.ownsMap P k zbg b n D) (key:Value) (kl:Lit) (hx:a.eval x=key) (hkey:keyOf P k key=some kl) (u:Value) (hu:D.atKey kl (.held z)= .held u)
 (hK:wpList P ops Q rest (a.put o.dst u) w):
 wpList P ops Q (o :: rest) a w:=by
 refine wpList_plain hg fun K' hK'=>?_;obtain⟨v,ps,hrun,hv⟩:=hown.lookup K ht hz (zd := .held z) (zp := []) rfl hkey;have:v=u:=by
  unfold zbg at hv;rw [hu] at hv;simp at hv;exact hv.1
 subst this;unfold Oper.wp;simp [execOp,hop,hm,hx,hrun,Result.andThen];exact hK' _ _ hK
def zoR(w:World)(A:Option Addr)(E:List En):Prop:=∀(k:Nat) (x:En),E[k]?=some x→∃a,A=some a∧
 w.cell? (a.add (k*4))=some (.string x.u.1)∧w.cell? ⟨(a.add (k*4)).block,(a.add (k*4)).off+1,none⟩=some (.string x.u.2)∧
 w.cell? ⟨(a.add (k*4)).block,(a.add (k*4)).off+2,none⟩=some (.slice x.UA x.un x.uc)∧w.cell? ⟨(a.add (k*4)).block,(a.add (k*4)).off+3,none⟩=some (.slice x.NA x.nn x.nc)∧zkw w x
theorem zoR.keep{w w':World}{A:Option Addr}{E:List En}(h:zoR w A E)(hb:Below w.heap.size w w'):zoR w' A E :=
 fun k x hx=>let ⟨a,h1,h2,h3,h4,h5,h6⟩:=h k x hx;⟨a,h1,za hb h2,za hb h3,za hb h4,za hb h5,h6.keep hb⟩
structure Es(w:World)(A:Option Addr)(n c:Nat)(E:List En):Prop where
 len:n=E.length
 cap:n≤c
 max:n≤maxLen
 at_:zoR w A E
theorem Es.keep{w w':World}{A:Option Addr}{n c:Nat}{E:List En}(h:Es w A n c E)(hb:Below w.heap.size w w'):Es w' A n c E:=⟨h.len,h.cap,h.max,h.at_.keep hb⟩
theorem Es.uok{w:World}{A:Option Addr}{n c:Nat}{E:List En}(h:Es w A n c E):∀x∈E,UOk x.u:=fun x hx=>by
 obtain⟨k,hk,rfl⟩:=List.getElem_of_mem hx;obtain⟨_,_,_,_,_,_,h6⟩:=h.at_ k _ (List.getElem?_eq_getElem hk);exact⟨h6.t,h6.i⟩
def za0(E:List En):List (Ud × Value):=E.map fun x=>(x.u,x.v)
theorem zmC{E:List En}(h:∀x∈E,UOk x.u):∀y∈za0 E,UOk y.1:=fun y hy=>by
 obtain⟨x,hx,rfl⟩:=List.mem_map.1 hy;exact h x hx
def zud:Value := .agg #[.string ⟨#[]⟩,.string ⟨#[]⟩,.slice none 0 0,.slice none 0 0]
theorem zrs(w:World):(zeroValue 59).run Tryz.prog w = .ok zud w:=by kernel_rfl
theorem zoH{E:List En}{k:Nat}(h:k<E.length):za0 (E.take (k+1))=za0 (E.take k)++ [(E[k].u,E[k].v)]:=by
 unfold za0;rw [List.take_succ_eq_append_getElem h,List.map_append];rfl
theorem ziF(A:Option Addr)(n c:Nat)(E:List En)(w:World)(h:Es w A n c E)(hn:n≤1000000):
 Calls Tryz.prog 38 #[.slice A n c] w fun e w'=>∃b,e = .returned (.map (some b))∧w.heap.size≤b∧w'.ownsMap Tryz.prog 24 zbg b n (zbR (za0 E))∧Below w.heap.size w w':=by
 have hmm:=@run_makeMap Tryz.prog;have HE:=hi9 h.at_;have HL:=hi9 h.len;have HUO:=hi9 h.uok;clear h;go_enter Tryz.func38,Tryz.ntmps38;go_wp2_with fail;go_loopw [5,9] (fun _ i wr=>∃k:Nat,k≤n∧i = .int .i64 k∧Hid (wr.ownsMap Tryz.prog 24 zbg w.heap.size k (zbR (za0 (E.take k))))∧Hid (Below w.heap.size w wr)) (fun _ i _=>n-(intOf i).toNat)
 case atStart=>exact⟨0,Nat.zero_le _,rfl,hi9 (World.ownsMap_made _ _ _ _),hi9 ((Below.refl _ _).alloc (Nat.le_refl _) _)⟩
 case round =>
  obtain⟨k,hk,rfl,hO,hB⟩:=hrel;by_cases hlt:k<n
  ·have hlt':k<E.length:=by rw [←HL.out];exact hlt
   obtain⟨a,rfl,q0,q1,q2,q3,-⟩:=(HE.out.keep hB.out) k _ (List.getElem?_eq_getElem hlt');have HK:=hi9 (zbE E[k].u (HUO.out _ (List.getElem_mem hlt')));have HP:=hi9 (zoH hlt');generalize E[k]=x at *;have O1:=hi9 (zay hO.out (zb wr (.cells #[.string x.u.1,.string x.u.2,.slice x.UA x.un x.uc,.slice x.NA x.nn x.nc] 59)));have B1:=bh hB (zb wr (.cells #[.string x.u.1,.string x.u.2,.slice x.UA x.un x.uc,.slice x.NA x.nn x.nc] 59));go_wp2_with (at_mapUpdate;refine wpList_mapUpdate_own _ rfl _ _ _ 83 rfl 24 59 zau Tryz.underlying83 zbg w.heap.size k _ rfl O1.out (by unfold maxLen;omega) _ _ _ rfl rfl HK.out _ [] rfl ?_);intro w4 hown hgrow;have O4:=hi9 (show w4.ownsMap Tryz.prog 24 zbg w.heap.size (k+1) (zbR (za0 (E.take (k+1)))) by
    rw [HP.out,zc2];exact hown)
   have B4:=hi9 (B1.out.grown hgrow B1.out.size (fun g hg=>by cases hg;exact Nat.le_refl _));clear hown hgrow O1 B1 hO hB q0 q1 q2 q3;go_wp2_with fail;go_roundw
   case rel=>exact⟨k+1,by omega,by go_num,O4,B4⟩
   case measure=>simp [intOf];omega
  ·have HP:=hi9 (show za0 E=za0 (E.take k) by rw [List.take_of_length_le (by rw [←HL.out];omega)]);have hkn:k=n:=by omega
   subst hkn;go_wp2_with fail;go_ret;exact⟨w.heap.size,rfl,Nat.le_refl _,by rw [HP.out];exact hO.out,hB.out⟩
end Go.Proofs.YtkfgabdnppmglaaGreatDoor
namespace Go.Proofs.YtkfgabdnppmglaaGreatDoor
open Go.Wk Go.ChangeShapes Go.WideShapes Go.RowKit
theorem zj4:Tryz.prog.cellsOf 59=4:=by kernel_rfl
theorem zpQ:Tryz.prog.cellsOf 57=1:=by kernel_rfl
theorem zfw:Tryz.prog.cellsOf 25=1:=by kernel_rfl
theorem zuH{w:World}{cs:List Value}(h:Rd Tryz.prog w 57 cs):∃(A:Option Addr) (n c:Nat) (P:List Ud),cs = [.slice A n c]∧Us w A n c P:=by
 obtain⟨A,n,c,rfl,h1,h2,h3⟩:=zhj Tryz.underlying57 h;rw [zbv] at h3;obtain⟨P,hl,hr⟩:=zkv n (fun k (x:Ud)=>(∃a,A=some a∧w.cell? (a.add (k*2))=some (.string x.1)∧w.cell? (a.add (k*2+1))=some (.string x.2))∧x.1.size≤maxLen∧x.2.size≤maxLen) (fun i hi=>by
  obtain⟨a,rfl,cs',hl,hc,hr⟩:=h3 i hi
  obtain⟨s,t,rfl,q1,q2⟩:=zh1 hr
  exact⟨(s,t),⟨a,rfl,hc 0 (by omega),hc 1 (by omega)⟩,q1,q2⟩)
 refine⟨A,n,c,P,rfl,hl.symm,h1,by omega,fun k x hx=>?_,fun x hx=>?_⟩
 ·obtain⟨⟨a,e,q1,q2⟩,-⟩:=hr k x hx;refine⟨a,e,q1,?_⟩;rw [←add_add] at q2;unfold Addr.add at q2 ⊢;simpa using q2
 ·obtain⟨k,hk,rfl⟩:=List.getElem_of_mem hx;exact(hr k _ (List.getElem?_eq_getElem hk)).2
theorem zuB{w:World}{cs:List Value}(h:Rd Tryz.prog w 59 cs):∃x:En,cs = [.string x.u.1,.string x.u.2,.slice x.UA x.un x.uc,.slice x.NA x.nn x.nc]∧zkw w x:=by
 have hl:=(zc9 Tryz.underlying59 h).1;rw [zj4] at hl
 match cs,hl with
 | [c0,c1,c2,c3],_ =>
  have h0:Rd Tryz.prog w 24 [c0,c1]:=zaI Tryz.underlying59 h 0 24 0 2 rfl zbv
  have h2:Rd Tryz.prog w 57 [c2]:=zaI Tryz.underlying59 h 1 57 2 1 rfl zpQ
  have h3:Rd Tryz.prog w 25 [c3]:=zaI Tryz.underlying59 h 2 25 3 1 rfl zfw
  obtain⟨s,t,e0,s1,s2⟩:=zh1 h0
  obtain⟨UA,un,uc,ups,e2,hu⟩:=zuH h2
  obtain⟨NA,nn,nc,P,e3,n1,n2,n3,n4,n5⟩:=zhL h3
  simp only [List.cons.injEq,and_true] at e0 e2 e3
  exact⟨⟨(s,t),UA,un,uc,ups,NA,nn,nc,P⟩,by rw [e0.1,e0.2,e2,e3],s1,s2,hu,n1,n2,n3,n4,n5⟩
theorem zpM{H:Type}{enc:TypeId × Value→H}{w:World}{b b0:Nat}{sp:Nat→Bool}{hd:Bool}{v:Value}{d:DataW H}{ps:List MemPlace}{r:Reach}
 (hv:Value.okWide Tryz.prog w r b0 22 v) (h:DataW.Trod enc Tryz.prog w b sp hd 22 v d ps):
 ∃(A:Option Addr) (n c:Nat) (E:List En),v = .slice A n c∧Es w A n c E:=by
 obtain⟨A',n',c',rfl⟩:=okWide_slice Tryz.underlying22 hv;obtain⟨A,n,c,e,h1,h2,h3⟩:=zhj Tryz.underlying22 (zeK h);rw [zj4] at h3;have e':(Value.slice A' n' c')= .slice A n c:=by simpa [Value.cells] using e
 obtain⟨E,hl,hr⟩:=zkv n (fun k (x:En)=>(∃a,A=some a∧w.cell? (a.add (k*4))=some (.string x.u.1)∧w.cell? (a.add (k*4+1))=some (.string x.u.2)∧w.cell? (a.add (k*4+2))=some (.slice x.UA x.un x.uc)∧w.cell? (a.add (k*4+3))=some (.slice x.NA x.nn x.nc))∧zkw w x) (fun i hi=>by
  obtain⟨a,rfl,cs',hl,hc,hr⟩:=h3 i hi
  obtain⟨x,rfl,hx⟩:=zuB hr
  exact⟨x,⟨a,rfl,hc 0 (by omega),hc 1 (by omega),hc 2 (by omega),hc 3 (by omega)⟩,hx⟩)
 refine⟨A,n,c,E,e',hl.symm,h1,by omega,fun k x hx=>?_⟩;obtain⟨⟨a,e,q1,q2,q3,q4⟩,hx⟩:=hr k x hx;refine⟨a,e,q1,?_,?_,?_,hx⟩
 all_goals
  rw [←add_add] at q2 q3 q4;unfold Addr.add at q2 q3 q4 ⊢
  first|(simpa using q2)|(simpa using q3)|(simpa using q4)
end Go.Proofs.YtkfgabdnppmglaaGreatDoor
namespace Go.Wk
open Go.ChangeShapes Go.WideShapes Go.RowKit Go.Deep
section
variable {P:Program} {w:World} {t e:TypeId}
end
end Go.Wk
namespace Go.Proofs.YtkfgabdnppmglaaGreatDoor
open Go.Wk Go.ChangeShapes Go.WideShapes Go.RowKit
def ziU(w:World)(A:Option Addr)(N:List ByteArray):Prop:=∀(k:Nat) (x:ByteArray),N[k]?=some x→∃a,A=some a∧w.cell? (a.add k)=some (.string x)
theorem ziU.keep{w w':World}{A:Option Addr}{N:List ByteArray}(h:ziU w A N)(hb:Below w.heap.size w w'):ziU w' A N :=
 fun k x hk=>let ⟨a,h1,h2⟩:=h k x hk;⟨a,h1,za hb h2⟩
structure Txs(w:World)(A:Option Addr)(n c:Nat)(N:List ByteArray):Prop where
 len:n=N.length
 cap:n≤c
 max:n≤maxLen
 at_:ziU w A N
 ok:∀x∈N,x.size≤maxLen
theorem Txs.keep{w w':World}{A:Option Addr}{n c:Nat}{N:List ByteArray}(h:Txs w A n c N)(hb:Below w.heap.size w w'):Txs w' A n c N:=⟨h.len,h.cap,h.max,h.at_.keep hb,h.ok⟩
structure An where
 d:AD
 WA:Option Addr
 wn:Nat
 wc:Nat
 TA:Option Addr
 tn:Nat
 tc:Nat
 NA:Option Addr
 nn:Nat
 nc:Nat
def An.cs(x:An):List Value := [.string x.d.id,.slice x.WA x.wn x.wc,.slice x.TA x.tn x.tc,.slice x.NA x.nn x.nc]
def An.v(x:An):Value := .agg #[.string x.d.id,.slice x.WA x.wn x.wc,.slice x.TA x.tn x.tc,.slice x.NA x.nn x.nc]
structure zs8(w:World)(x:An):Prop where
 s:x.d.id.size≤maxLen
 ws:Txs w x.WA x.wn x.wc x.d.who
 ts:Txs w x.TA x.tn x.tc x.d.what
 ns:Ns w x.NA x.nn x.nc x.d.P
theorem zs8.keep{w w':World}{x:An}(h:zs8 w x)(hb:Below w.heap.size w w'):zs8 w' x:=⟨h.s,h.ws.keep hb,h.ts.keep hb,h.ns.keep hb⟩
structure As(w:World)(A:Option Addr)(n c:Nat)(L:List An):Prop where
 len:n=L.length
 cap:n≤c
 max:n≤maxLen
 at_:∀(k:Nat) (x:An),L[k]?=some x→∃a,A=some a∧w.cell? (a.add (k*4))=some (.string x.d.id)∧w.cell? ⟨(a.add (k*4)).block,(a.add (k*4)).off+1,none⟩=some (.slice x.WA x.wn x.wc)∧
  w.cell? ⟨(a.add (k*4)).block,(a.add (k*4)).off+2,none⟩=some (.slice x.TA x.tn x.tc)∧w.cell? ⟨(a.add (k*4)).block,(a.add (k*4)).off+3,none⟩=some (.slice x.NA x.nn x.nc)∧zs8 w x
theorem As.keep{w w':World}{A:Option Addr}{n c:Nat}{L:List An}(h:As w A n c L)(hb:Below w.heap.size w w'):As w' A n c L :=
 ⟨h.len,h.cap,h.max,fun k x hx=>let ⟨a,h1,h2,h3,h4,h5,h6⟩:=h.at_ k x hx;⟨a,h1,za hb h2,za hb h3,za hb h4,za hb h5,h6.keep hb⟩⟩
structure Rq where
 who:Ud
 act:Ud
 what:Ud
 NA:Option Addr
 nn:Nat
 nc:Nat
 P:List Nd
def Rq.v(q:Rq):Value := .agg #[.string q.who.1,.string q.who.2,.string q.act.1,.string q.act.2,.string q.what.1,.string q.what.2,.slice q.NA q.nn q.nc]
structure zfV(w:World)(q:Rq):Prop where
 w1:q.who.1.size≤maxLen
 w2:q.who.2.size≤maxLen
 a1:q.act.1.size≤maxLen
 a2:q.act.2.size≤maxLen
 t1:q.what.1.size≤maxLen
 t2:q.what.2.size≤maxLen
 ns:Ns w q.NA q.nn q.nc q.P
theorem zfV.keep{w w':World}{q:Rq}(h:zfV w q)(hb:Below w.heap.size w w'):zfV w' q:=⟨h.w1,h.w2,h.a1,h.a2,h.t1,h.t2,h.ns.keep hb⟩
theorem zjx:Tryz.prog.cellsOf 27=7:=by kernel_rfl
theorem zkZ{H:Type}{enc:TypeId × Value→H}{w:World}{b b0:Nat}{sp:Nat→Bool}{hd:Bool}{v:Value}{d:DataW H}{ps:List MemPlace}{r:Reach}
 (hv:Value.okWide Tryz.prog w r b0 27 v) (h:DataW.Trod enc Tryz.prog w b sp hd 27 v d ps):∃x:Rq,v=x.v∧zfV w x:=by
 obtain⟨cs,rfl,_⟩:=okWide_struct Tryz.underlying27 hv;have hr:=zeK h;have hl:=(zc9 Tryz.underlying27 hr).1;rw [zjx] at hl;obtain⟨l⟩:=cs;simp only [Value.cells] at hl hr
 match l,hl with
 | [c0,c1,c2,c3,c4,c5,c6],_ =>
  have h0:Rd Tryz.prog w 24 [c0,c1]:=zaI Tryz.underlying27 hr 0 24 0 2 rfl zbv
  have h1:Rd Tryz.prog w 24 [c2,c3]:=zaI Tryz.underlying27 hr 1 24 2 2 rfl zbv
  have h2:Rd Tryz.prog w 24 [c4,c5]:=zaI Tryz.underlying27 hr 2 24 4 2 rfl zbv
  have h3:Rd Tryz.prog w 25 [c6]:=zaI Tryz.underlying27 hr 3 25 6 1 rfl zfw
  obtain⟨s1,t1,e0,p1,p2⟩:=zh1 h0
  obtain⟨s2,t2,e1,p3,p4⟩:=zh1 h1
  obtain⟨s3,t3,e2,p5,p6⟩:=zh1 h2
  obtain⟨NA,nn,nc,P,e3,n1,n2,n3,n4,n5⟩:=zhL h3
  simp only [List.cons.injEq,and_true] at e0 e1 e2 e3
  exact⟨⟨(s1,t1),(s2,t2),(s3,t3),NA,nn,nc,P⟩,by rw [e0.1,e0.2,e1.1,e1.2,e2.1,e2.2,e3];rfl,p1,p2,p3,p4,p5,p6,n1,n2,n3,n4,n5⟩
end Go.Proofs.YtkfgabdnppmglaaGreatDoor
namespace Go.Proofs.YtkfgabdnppmglaaGreatDoor
open Go.RowKit Go.Wk Go.Sort
structure Vq(w:World)(b:Nat)(q:Rq):Prop where
 c0:w.cell? ⟨b,0,none⟩=some (.string q.who.1)
 c1:w.cell? ⟨b,1,none⟩=some (.string q.who.2)
 c2:w.cell? ⟨b,2,none⟩=some (.string q.act.1)
 c3:w.cell? ⟨b,3,none⟩=some (.string q.act.2)
 c4:w.cell? ⟨b,4,none⟩=some (.string q.what.1)
 c5:w.cell? ⟨b,5,none⟩=some (.string q.what.2)
 c6:w.cell? ⟨b,6,none⟩=some (.slice q.NA q.nn q.nc)
theorem Vq.keep{w w':World}{b:Nat}{x:Rq}(h:Vq w b x)(hb:Below w.heap.size w w'):Vq w' b x:=⟨za hb h.c0,za hb h.c1,za hb h.c2,za hb h.c3,za hb h.c4,za hb h.c5,za hb h.c6⟩
theorem zb1(w:World)(q:Rq)(t:TypeId):Vq (w.alloc (.cells #[.string q.who.1,.string q.who.2,.string q.act.1,.string q.act.2,.string q.what.1,.string q.what.2,.slice q.NA q.nn q.nc] t)) w.heap.size q :=
 ⟨jf (heap_alloc_last w _) rfl,jf (heap_alloc_last w _) rfl,jf (heap_alloc_last w _) rfl,jf (heap_alloc_last w _) rfl,jf (heap_alloc_last w _) rfl,jf (heap_alloc_last w _) rfl,jf (heap_alloc_last w _) rfl⟩
theorem zoP(o:Int):(o=1∨o=2∨o=3∨o=4∨o=5∨o=6∨o=7∨o=8∨o=9∨o=10∨o=11∨o=12∨o=13∨o=14∨o=15∨o=16∨o=17∨o=18∨o=19∨o=20∨o=21∨o=22∨o=23∨o=24∨o=25∨o=26∨o=27)∨o≤0∨28≤o:=by omega
theorem zog{o:Int}(h:o≤0∨28≤o):(o==1)=false∧(o==2)=false∧(o==3)=false∧(o==4)=false∧(o==5)=false∧(o==6)=false∧(o==7)=false∧(o==8)=false∧(o==9)=false∧(o==10)=false∧(o==11)=false∧(o==12)=false∧(o==13)=false∧(o==14)=false∧(o==15)=false∧(o==16)=false∧(o==17)=false∧(o==18)=false∧(o==19)=false∧(o==20)=false∧(o==21)=false∧(o==22)=false∧(o==23)=false∧(o==24)=false∧(o==25)=false∧(o==26)=false∧(o==27)=false:=by
 refine⟨?_,?_,?_,?_,?_,?_,?_,?_,?_,?_,?_,?_,?_,?_,?_,?_,?_,?_,?_,?_,?_,?_,?_,?_,?_,?_,?_⟩<;>(rw [beq_eq_false_iff_ne];omega)
theorem zcv{o:Int}(h:o≤0∨28≤o)(n:Int)(s t:ByteArray):zH ⟨o,n,s,t⟩= -1:=by
 unfold zH;dsimp only;rw [if_neg (by omega),if_neg (by omega),if_neg (by omega),if_neg (by omega),if_neg (by omega)]
theorem zda(x:Nd)(w:World):Calls Tryz.prog 74 #[ndV x] w fun e w'=>e = .returned (.int .i64 (zH x))∧Below w.heap.size w w':=by
 obtain⟨o,n,s,t⟩:=x;unfold ndV;dsimp only;rcases zoP o with (rfl|rfl|rfl|rfl|rfl|rfl|rfl|rfl|rfl|rfl|rfl|rfl|rfl|rfl|rfl|rfl|rfl|rfl|rfl|rfl|rfl|rfl|rfl|rfl|rfl|rfl|rfl)|h
 all_goals try
  go_enter Tryz.func74,Tryz.ntmps74
  go_wp2_with fail
  go_ret
  exact⟨by rfl,zb _ _⟩
 have hp:=hi9 (zcv h n s t);obtain⟨g1,g2,g3,g4,g5,g6,g7,g8,g9,g10,g11,g12,g13,g14,g15,g16,g17,g18,g19,g20,g21,g22,g23,g24,g25,g26,g27⟩:=zog h;rcases h with h|h
 all_goals
  go_enter Tryz.func74,Tryz.ntmps74;go_wp2_with fail;go_ret;exact⟨by rw [hp.out];rfl,zb _ _⟩
theorem zbm(x:Nd)(w:World):Calls Tryz.prog 54 #[ndV x] w fun e w'=>e = .returned (.int .i64 (zH x))∧Below w.heap.size w w':=by
 obtain⟨o,n,s,t⟩:=x;unfold ndV;dsimp only;rcases zoP o with (rfl|rfl|rfl|rfl|rfl|rfl|rfl|rfl|rfl|rfl|rfl|rfl|rfl|rfl|rfl|rfl|rfl|rfl|rfl|rfl|rfl|rfl|rfl|rfl|rfl|rfl|rfl)|h
 all_goals try
  go_enter Tryz.func54,Tryz.ntmps54
  go_wp2_with fail
  go_ret
  exact⟨by rfl,zb _ _⟩
 have hp:=hi9 (zcv h n s t);obtain⟨g1,g2,g3,g4,g5,g6,g7,g8,g9,g10,g11,g12,g13,g14,g15,g16,g17,g18,g19,g20,g21,g22,g23,g24,g25,g26,g27⟩:=zog h;rcases h with h|h
 all_goals
  go_enter Tryz.func54,Tryz.ntmps54;go_wp2_with fail;go_ret;exact⟨by rw [hp.out];rfl,zb _ _⟩
theorem zi7(s:ByteArray)(w:World):Calls Tryz.prog 145 #[.string s] w fun e w'=>e = .returned (.bool (zL s))∧w=w':=by
 by_cases h0:s.toList = [105,102]
 ·have HR:=hi9 (show zL s=true by rw [ByteArray.toList_eq] at h0;unfold zL;rw [h0];rfl);have f0:(s.toList == [105,102])=true:=beq_iff_eq.2 h0;clear h0;go_enter Tryz.func145,Tryz.ntmps145;go_wp2_with fail;go_ret;exact⟨by rw [HR.out];rfl,rfl⟩
 have f0:(s.toList == [105,102])=false:=beq_eq_false_iff_ne.2 h0;by_cases h1:s.toList = [116,104,101,110]
 ·have HR:=hi9 (show zL s=true by rw [ByteArray.toList_eq] at h1;unfold zL;rw [h1];rfl);have f1:(s.toList == [116,104,101,110])=true:=beq_iff_eq.2 h1;clear h1 h0;go_enter Tryz.func145,Tryz.ntmps145;go_wp2_with fail;go_ret;exact⟨by rw [HR.out];rfl,rfl⟩
 have f1:(s.toList == [116,104,101,110])=false:=beq_eq_false_iff_ne.2 h1;by_cases h2:s.toList = [101,108,115,101]
 ·have HR:=hi9 (show zL s=true by rw [ByteArray.toList_eq] at h2;unfold zL;rw [h2];rfl);have f2:(s.toList == [101,108,115,101])=true:=beq_iff_eq.2 h2;clear h2 h0 h1;go_enter Tryz.func145,Tryz.ntmps145;go_wp2_with fail;go_ret;exact⟨by rw [HR.out];rfl,rfl⟩
 have f2:(s.toList == [101,108,115,101])=false:=beq_eq_false_iff_ne.2 h2;by_cases h3:s.toList = [116,114,117,101]
 ·have HR:=hi9 (show zL s=true by rw [ByteArray.toList_eq] at h3;unfold zL;rw [h3];rfl);have f3:(s.toList == [116,114,117,101])=true:=beq_iff_eq.2 h3;clear h3 h0 h1 h2;go_enter Tryz.func145,Tryz.ntmps145;go_wp2_with fail;go_ret;exact⟨by rw [HR.out];rfl,rfl⟩
 have f3:(s.toList == [116,114,117,101])=false:=beq_eq_false_iff_ne.2 h3;by_cases h4:s.toList = [102,97,108,115,101]
 ·have HR:=hi9 (show zL s=true by rw [ByteArray.toList_eq] at h4;unfold zL;rw [h4];rfl);have f4:(s.toList == [102,97,108,115,101])=true:=beq_iff_eq.2 h4;clear h4 h0 h1 h2 h3;go_enter Tryz.func145,Tryz.ntmps145;go_wp2_with fail;go_ret;exact⟨by rw [HR.out];rfl,rfl⟩
 have f4:(s.toList == [102,97,108,115,101])=false:=beq_eq_false_iff_ne.2 h4;by_cases h5:s.toList = [105,110]
 ·have HR:=hi9 (show zL s=true by rw [ByteArray.toList_eq] at h5;unfold zL;rw [h5];rfl);have f5:(s.toList == [105,110])=true:=beq_iff_eq.2 h5;clear h5 h0 h1 h2 h3 h4;go_enter Tryz.func145,Tryz.ntmps145;go_wp2_with fail;go_ret;exact⟨by rw [HR.out];rfl,rfl⟩
 have f5:(s.toList == [105,110])=false:=beq_eq_false_iff_ne.2 h5;by_cases h6:s.toList = [104,97,115]
 ·have HR:=hi9 (show zL s=true by rw [ByteArray.toList_eq] at h6;unfold zL;rw [h6];rfl);have f6:(s.toList == [104,97,115])=true:=beq_iff_eq.2 h6;clear h6 h0 h1 h2 h3 h4 h5;go_enter Tryz.func145,Tryz.ntmps145;go_wp2_with fail;go_ret;exact⟨by rw [HR.out];rfl,rfl⟩
 have f6:(s.toList == [104,97,115])=false:=beq_eq_false_iff_ne.2 h6;by_cases h7:s.toList = [108,105,107,101]
 ·have HR:=hi9 (show zL s=true by rw [ByteArray.toList_eq] at h7;unfold zL;rw [h7];rfl);have f7:(s.toList == [108,105,107,101])=true:=beq_iff_eq.2 h7;clear h7 h0 h1 h2 h3 h4 h5 h6;go_enter Tryz.func145,Tryz.ntmps145;go_wp2_with fail;go_ret;exact⟨by rw [HR.out];rfl,rfl⟩
 have f7:(s.toList == [108,105,107,101])=false:=beq_eq_false_iff_ne.2 h7;by_cases h8:s.toList = [105,115]
 ·have HR:=hi9 (show zL s=true by rw [ByteArray.toList_eq] at h8;unfold zL;rw [h8];rfl);have f8:(s.toList == [105,115])=true:=beq_iff_eq.2 h8;clear h8 h0 h1 h2 h3 h4 h5 h6 h7;go_enter Tryz.func145,Tryz.ntmps145;go_wp2_with fail;go_ret;exact⟨by rw [HR.out];rfl,rfl⟩
 have f8:(s.toList == [105,115])=false:=beq_eq_false_iff_ne.2 h8;have HR:=hi9 (show zL s=false by
  rw [ByteArray.toList_eq] at h0 h1 h2 h3 h4 h5 h6 h7 h8
  unfold zL zut
  simp only [List.contains_cons,List.contains_nil,Bool.or_false,Bool.or_eq_false_iff,beq_eq_false_iff_ne]
  exact⟨h0,h1,h2,h3,h4,h5,h6,h7,h8⟩)
 clear h0 h1 h2 h3 h4 h5 h6 h7 h8;go_enter Tryz.func145,Tryz.ntmps145;go_wp2_with fail;go_ret;exact⟨by rw [HR.out];rfl,rfl⟩
theorem zkJ(s:ByteArray)(w:World):Calls Tryz.prog 101 #[.string s] w fun e w'=>e = .returned (.bool (zL s))∧w=w':=by
 by_cases h0:s.toList = [105,102]
 ·have HR:=hi9 (show zL s=true by rw [ByteArray.toList_eq] at h0;unfold zL;rw [h0];rfl);have f0:(s.toList == [105,102])=true:=beq_iff_eq.2 h0;clear h0;go_enter Tryz.func101,Tryz.ntmps101;go_wp2_with fail;go_ret;exact⟨by rw [HR.out];rfl,rfl⟩
 have f0:(s.toList == [105,102])=false:=beq_eq_false_iff_ne.2 h0;by_cases h1:s.toList = [116,104,101,110]
 ·have HR:=hi9 (show zL s=true by rw [ByteArray.toList_eq] at h1;unfold zL;rw [h1];rfl);have f1:(s.toList == [116,104,101,110])=true:=beq_iff_eq.2 h1;clear h1 h0;go_enter Tryz.func101,Tryz.ntmps101;go_wp2_with fail;go_ret;exact⟨by rw [HR.out];rfl,rfl⟩
 have f1:(s.toList == [116,104,101,110])=false:=beq_eq_false_iff_ne.2 h1;by_cases h2:s.toList = [101,108,115,101]
 ·have HR:=hi9 (show zL s=true by rw [ByteArray.toList_eq] at h2;unfold zL;rw [h2];rfl);have f2:(s.toList == [101,108,115,101])=true:=beq_iff_eq.2 h2;clear h2 h0 h1;go_enter Tryz.func101,Tryz.ntmps101;go_wp2_with fail;go_ret;exact⟨by rw [HR.out];rfl,rfl⟩
 have f2:(s.toList == [101,108,115,101])=false:=beq_eq_false_iff_ne.2 h2;by_cases h3:s.toList = [116,114,117,101]
 ·have HR:=hi9 (show zL s=true by rw [ByteArray.toList_eq] at h3;unfold zL;rw [h3];rfl);have f3:(s.toList == [116,114,117,101])=true:=beq_iff_eq.2 h3;clear h3 h0 h1 h2;go_enter Tryz.func101,Tryz.ntmps101;go_wp2_with fail;go_ret;exact⟨by rw [HR.out];rfl,rfl⟩
 have f3:(s.toList == [116,114,117,101])=false:=beq_eq_false_iff_ne.2 h3;by_cases h4:s.toList = [102,97,108,115,101]
 ·have HR:=hi9 (show zL s=true by rw [ByteArray.toList_eq] at h4;unfold zL;rw [h4];rfl);have f4:(s.toList == [102,97,108,115,101])=true:=beq_iff_eq.2 h4;clear h4 h0 h1 h2 h3;go_enter Tryz.func101,Tryz.ntmps101;go_wp2_with fail;go_ret;exact⟨by rw [HR.out];rfl,rfl⟩
 have f4:(s.toList == [102,97,108,115,101])=false:=beq_eq_false_iff_ne.2 h4;by_cases h5:s.toList = [105,110]
 ·have HR:=hi9 (show zL s=true by rw [ByteArray.toList_eq] at h5;unfold zL;rw [h5];rfl);have f5:(s.toList == [105,110])=true:=beq_iff_eq.2 h5;clear h5 h0 h1 h2 h3 h4;go_enter Tryz.func101,Tryz.ntmps101;go_wp2_with fail;go_ret;exact⟨by rw [HR.out];rfl,rfl⟩
 have f5:(s.toList == [105,110])=false:=beq_eq_false_iff_ne.2 h5;by_cases h6:s.toList = [104,97,115]
 ·have HR:=hi9 (show zL s=true by rw [ByteArray.toList_eq] at h6;unfold zL;rw [h6];rfl);have f6:(s.toList == [104,97,115])=true:=beq_iff_eq.2 h6;clear h6 h0 h1 h2 h3 h4 h5;go_enter Tryz.func101,Tryz.ntmps101;go_wp2_with fail;go_ret;exact⟨by rw [HR.out];rfl,rfl⟩
 have f6:(s.toList == [104,97,115])=false:=beq_eq_false_iff_ne.2 h6;by_cases h7:s.toList = [108,105,107,101]
 ·have HR:=hi9 (show zL s=true by rw [ByteArray.toList_eq] at h7;unfold zL;rw [h7];rfl);have f7:(s.toList == [108,105,107,101])=true:=beq_iff_eq.2 h7;clear h7 h0 h1 h2 h3 h4 h5 h6;go_enter Tryz.func101,Tryz.ntmps101;go_wp2_with fail;go_ret;exact⟨by rw [HR.out];rfl,rfl⟩
 have f7:(s.toList == [108,105,107,101])=false:=beq_eq_false_iff_ne.2 h7;by_cases h8:s.toList = [105,115]
 ·have HR:=hi9 (show zL s=true by rw [ByteArray.toList_eq] at h8;unfold zL;rw [h8];rfl);have f8:(s.toList == [105,115])=true:=beq_iff_eq.2 h8;clear h8 h0 h1 h2 h3 h4 h5 h6 h7;go_enter Tryz.func101,Tryz.ntmps101;go_wp2_with fail;go_ret;exact⟨by rw [HR.out];rfl,rfl⟩
 have f8:(s.toList == [105,115])=false:=beq_eq_false_iff_ne.2 h8;have HR:=hi9 (show zL s=false by
  rw [ByteArray.toList_eq] at h0 h1 h2 h3 h4 h5 h6 h7 h8
  unfold zL zut
  simp only [List.contains_cons,List.contains_nil,Bool.or_false,Bool.or_eq_false_iff,beq_eq_false_iff_ne]
  exact⟨h0,h1,h2,h3,h4,h5,h6,h7,h8⟩)
 clear h0 h1 h2 h3 h4 h5 h6 h7 h8;go_enter Tryz.func101,Tryz.ntmps101;go_wp2_with fail;go_ret;exact⟨by rw [HR.out];rfl,rfl⟩
end Go.Proofs.YtkfgabdnppmglaaGreatDoor
