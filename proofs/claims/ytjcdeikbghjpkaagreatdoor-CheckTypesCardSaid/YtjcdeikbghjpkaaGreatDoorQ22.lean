/-
  Schemas and requests that come in. A row of nodes of the call's own; nodes behind it. tree.variable, tree.shaped; the reference's Fields: may a node of an ..
-/
import Derived.Test.YtjcdeikbghjpkaaGreatDoorQ4
import Derived.Test.YtjcdeikbghjpkaaGreatDoorQ18
import Derived.Test.YtjcdeikbghjpkaaGreatDoorQ21
set_option maxRecDepth 100000
set_option maxHeartbeats 8000000
namespace Go.Proofs.YtjcdeikbghjpkaaGreatDoor
open Go.Wk Go.ChangeShapes Go.WideShapes Go.RowKit
structure Txs(w:World)(A:Option Addr)(n c:Nat)(N:List ByteArray):Prop where
 len:n=N.length
 cap:n≤c
 max:n≤maxLen
 at_:zo5 w A N
 ok:∀x∈N,x.size≤maxLen
theorem Txs.keep{w w':World}{A:Option Addr}{n c:Nat}{N:List ByteArray}(h:Txs w A n c N)(hb:Below w.heap.size w w'):Txs w' A n c N:=⟨h.len,h.cap,h.max,h.at_.keep hb,h.ok⟩
structure Kn where
 d:KD
 UA:Option Addr
 un:Nat
 uc:Nat
 NA:Option Addr
 nn:Nat
 nc:Nat
def Kn.cs(x:Kn):List Value := [.string x.d.nm,.slice x.UA x.un x.uc,.slice x.NA x.nn x.nc]
structure zmM(w:World)(x:Kn):Prop where
 s:x.d.nm.size≤maxLen
 us:Txs w x.UA x.un x.uc x.d.up
 ns:Ns w x.NA x.nn x.nc x.d.P
theorem zmM.keep{w w':World}{x:Kn}(h:zmM w x)(hb:Below w.heap.size w w'):zmM w' x:=⟨h.s,h.us.keep hb,h.ns.keep hb⟩
structure An where
 d:AD
 WA:Option Addr
 wn:Nat
 wc:Nat
 TA:Option Addr
 tn:Nat
 tc:Nat
 NA:Option Addr
 nn:Nat
 nc:Nat
def An.cs(x:An):List Value := [.string x.d.id,.slice x.WA x.wn x.wc,.slice x.TA x.tn x.tc,.slice x.NA x.nn x.nc]
def An.v(x:An):Value := .agg #[.string x.d.id,.slice x.WA x.wn x.wc,.slice x.TA x.tn x.tc,.slice x.NA x.nn x.nc]
structure zmB(w:World)(x:An):Prop where
 s:x.d.id.size≤maxLen
 ws:Txs w x.WA x.wn x.wc x.d.who
 ts:Txs w x.TA x.tn x.tc x.d.what
 ns:Ns w x.NA x.nn x.nc x.d.P
theorem zmB.keep{w w':World}{x:An}(h:zmB w x)(hb:Below w.heap.size w w'):zmB w' x:=⟨h.s,h.ws.keep hb,h.ts.keep hb,h.ns.keep hb⟩
structure Ks(w:World)(A:Option Addr)(n c:Nat)(K:List Kn):Prop where
 len:n=K.length
 cap:n≤c
 max:n≤maxLen
 at_:∀(k:Nat) (x:Kn),K[k]?=some x→∃a,A=some a∧w.cell? (a.add (k*3))=some (.string x.d.nm)∧w.cell? ⟨(a.add (k*3)).block,(a.add (k*3)).off+1,none⟩=some (.slice x.UA x.un x.uc)∧
  w.cell? ⟨(a.add (k*3)).block,(a.add (k*3)).off+2,none⟩=some (.slice x.NA x.nn x.nc)∧zmM w x
theorem Ks.keep{w w':World}{A:Option Addr}{n c:Nat}{K:List Kn}(h:Ks w A n c K)(hb:Below w.heap.size w w'):Ks w' A n c K :=
 ⟨h.len,h.cap,h.max,fun k x hx=>let ⟨a,h1,h2,h3,h4,h5⟩:=h.at_ k x hx;⟨a,h1,zb hb h2,zb hb h3,zb hb h4,h5.keep hb⟩⟩
structure As(w:World)(A:Option Addr)(n c:Nat)(L:List An):Prop where
 len:n=L.length
 cap:n≤c
 max:n≤maxLen
 at_:∀(k:Nat) (x:An),L[k]?=some x→∃a,A=some a∧w.cell? (a.add (k*4))=some (.string x.d.id)∧w.cell? ⟨(a.add (k*4)).block,(a.add (k*4)).off+1,none⟩=some (.slice x.WA x.wn x.wc)∧
  w.cell? ⟨(a.add (k*4)).block,(a.add (k*4)).off+2,none⟩=some (.slice x.TA x.tn x.tc)∧w.cell? ⟨(a.add (k*4)).block,(a.add (k*4)).off+3,none⟩=some (.slice x.NA x.nn x.nc)∧zmB w x
theorem As.keep{w w':World}{A:Option Addr}{n c:Nat}{L:List An}(h:As w A n c L)(hb:Below w.heap.size w w'):As w' A n c L :=
 ⟨h.len,h.cap,h.max,fun k x hx=>let ⟨a,h1,h2,h3,h4,h5,h6⟩:=h.at_ k x hx;⟨a,h1,zb hb h2,zb hb h3,zb hb h4,zb hb h5,h6.keep hb⟩⟩
structure Sc where
 KA:Option Addr
 kn:Nat
 kc:Nat
 K:List Kn
 AA:Option Addr
 an:Nat
 ac:Nat
 L:List An
def Sc.v(s:Sc):Value := .agg #[.slice s.KA s.kn s.kc,.slice s.AA s.an s.ac]
def Sc.k(s:Sc):List KD:=s.K.map Kn.d
def Sc.a(s:Sc):List AD:=s.L.map An.d
structure zcO(w:World)(s:Sc):Prop where
 k:Ks w s.KA s.kn s.kc s.K
 a:As w s.AA s.an s.ac s.L
theorem zcO.keep{w w':World}{s:Sc}(h:zcO w s)(hb:Below w.heap.size w w'):zcO w' s:=⟨h.k.keep hb,h.a.keep hb⟩
theorem zhM:Tryz.prog.cellsOf 79=3:=by kernel_rfl
theorem zj8:Tryz.prog.cellsOf 43=4:=by kernel_rfl
theorem zfi:Tryz.prog.cellsOf 39=1:=by kernel_rfl
theorem zlV:Tryz.prog.cellsOf 22=1:=by kernel_rfl
theorem zm1:Tryz.prog.cellsOf 23=1:=by kernel_rfl
theorem zkh:Tryz.prog.cellsOf 25=2:=by kernel_rfl
theorem znq{w:World}{cs:List Value}(h:Rd Tryz.prog w 39 cs):∃(A:Option Addr) (n c:Nat) (N:List ByteArray),cs = [.slice A n c]∧Txs w A n c N:=by
 obtain⟨A,n,c,rfl,h1,h2,h3⟩:=zfX Tryz.underlying39 h;rw [zbz] at h3;obtain⟨N,hl,hr⟩:=zhv n (fun k (x:ByteArray)=>(∃a,A=some a∧w.cell? (a.add k)=some (.string x))∧x.size≤maxLen) (fun i hi=>by
  obtain⟨a,rfl,cs',hl,hc,hr⟩:=h3 i hi
  obtain⟨x,rfl,q1⟩:=zdc Tryz.underlying9 hr
  have:=hc 0 (by omega)
  exact⟨x,⟨a,rfl,by simpa using this⟩,q1⟩)
 refine⟨A,n,c,N,rfl,hl.symm,h1,by omega,fun k x hk=>(hr k x hk).1,fun x hx=>?_⟩;obtain⟨k,hk,rfl⟩:=List.getElem_of_mem hx;exact(hr k _ (List.getElem?_eq_getElem hk)).2
theorem zr1{w:World}{cs:List Value}(h:Rd Tryz.prog w 79 cs):∃x:Kn,cs=x.cs∧zmM w x:=by
 have hl:=(zdt Tryz.underlying79 h).1;rw [zhM] at hl
 match cs,hl with
 | [c0,c1,c2],_ =>
  have h0:Rd Tryz.prog w 9 [c0]:=zas Tryz.underlying79 h 0 9 0 1 rfl zbz
  have h2:Rd Tryz.prog w 39 [c1]:=zas Tryz.underlying79 h 1 39 1 1 rfl zfi
  have h3:Rd Tryz.prog w 26 [c2]:=zas Tryz.underlying79 h 2 26 2 1 rfl zfY
  obtain⟨s,e0,s1⟩:=zdc Tryz.underlying9 h0
  obtain⟨UA,un,uc,up,e2,hu⟩:=znq h2
  obtain⟨NA,nn,nc,P,e3,n1,n2,n3,n4,n5⟩:=ziv h3
  simp only [List.cons.injEq,and_true] at e0 e2 e3
  exact⟨⟨⟨s,up,P⟩,UA,un,uc,NA,nn,nc⟩,by rw [e0,e2,e3];rfl,s1,hu,n1,n2,n3,n4,n5⟩
theorem zsS{w:World}{cs:List Value}(h:Rd Tryz.prog w 43 cs):∃x:An,cs=x.cs∧zmB w x:=by
 have hl:=(zdt Tryz.underlying43 h).1;rw [zj8] at hl
 match cs,hl with
 | [c0,c1,c2,c3],_ =>
  have h0:Rd Tryz.prog w 9 [c0]:=zas Tryz.underlying43 h 0 9 0 1 rfl zbz
  have h1:Rd Tryz.prog w 39 [c1]:=zas Tryz.underlying43 h 1 39 1 1 rfl zfi
  have h2:Rd Tryz.prog w 39 [c2]:=zas Tryz.underlying43 h 2 39 2 1 rfl zfi
  have h3:Rd Tryz.prog w 26 [c3]:=zas Tryz.underlying43 h 3 26 3 1 rfl zfY
  obtain⟨s,e0,s1⟩:=zdc Tryz.underlying9 h0
  obtain⟨WA,wn,wc,who,e1,hw⟩:=znq h1
  obtain⟨TA,tn,tc,what,e2,ht⟩:=znq h2
  obtain⟨NA,nn,nc,P,e3,n1,n2,n3,n4,n5⟩:=ziv h3
  simp only [List.cons.injEq,and_true] at e0 e1 e2 e3
  exact⟨⟨⟨s,who,what,P⟩,WA,wn,wc,TA,tn,tc,NA,nn,nc⟩,by rw [e0,e1,e2,e3];rfl,s1,hw,ht,n1,n2,n3,n4,n5⟩
theorem zqJ{w:World}{cs:List Value}(h:Rd Tryz.prog w 22 cs):∃(A:Option Addr) (n c:Nat) (K:List Kn),cs = [.slice A n c]∧Ks w A n c K:=by
 obtain⟨A,n,c,rfl,h1,h2,h3⟩:=zfX Tryz.underlying22 h;rw [zhM] at h3;obtain⟨K,hl,hr⟩:=zhv n (fun k (x:Kn)=>(∃a,A=some a∧w.cell? (a.add (k*3))=some (.string x.d.nm)∧w.cell? (a.add (k*3+1))=some (.slice x.UA x.un x.uc)∧w.cell? (a.add (k*3+2))=some (.slice x.NA x.nn x.nc))∧zmM w x) (fun i hi=>by
  obtain⟨a,rfl,cs',hl,hc,hr⟩:=h3 i hi
  obtain⟨x,rfl,hx⟩:=zr1 hr
  exact⟨x,⟨a,rfl,hc 0 (by omega),hc 1 (by omega),hc 2 (by omega)⟩,hx⟩)
 refine⟨A,n,c,K,rfl,hl.symm,h1,by omega,fun k x hx=>?_⟩;obtain⟨⟨a,e,q1,q2,q3⟩,hx⟩:=hr k x hx;refine⟨a,e,q1,?_,?_,hx⟩
 all_goals
  rw [←add_add] at q2 q3;unfold Addr.add at q2 q3 ⊢
  first|(simpa using q2)|(simpa using q3)
theorem zrn{w:World}{cs:List Value}(h:Rd Tryz.prog w 23 cs):∃(A:Option Addr) (n c:Nat) (L:List An),cs = [.slice A n c]∧As w A n c L:=by
 obtain⟨A,n,c,rfl,h1,h2,h3⟩:=zfX Tryz.underlying23 h;rw [zj8] at h3;obtain⟨K,hl,hr⟩:=zhv n (fun k (x:An)=>(∃a,A=some a∧w.cell? (a.add (k*4))=some (.string x.d.id)∧w.cell? (a.add (k*4+1))=some (.slice x.WA x.wn x.wc)∧w.cell? (a.add (k*4+2))=some (.slice x.TA x.tn x.tc)∧w.cell? (a.add (k*4+3))=some (.slice x.NA x.nn x.nc))∧zmB w x) (fun i hi=>by
  obtain⟨a,rfl,cs',hl,hc,hr⟩:=h3 i hi
  obtain⟨x,rfl,hx⟩:=zsS hr
  exact⟨x,⟨a,rfl,hc 0 (by omega),hc 1 (by omega),hc 2 (by omega),hc 3 (by omega)⟩,hx⟩)
 refine⟨A,n,c,K,rfl,hl.symm,h1,by omega,fun k x hx=>?_⟩;obtain⟨⟨a,e,q1,q2,q3,q4⟩,hx⟩:=hr k x hx;refine⟨a,e,q1,?_,?_,?_,hx⟩
 all_goals
  rw [←add_add] at q2 q3 q4;unfold Addr.add at q2 q3 q4 ⊢
  first|(simpa using q2)|(simpa using q3)|(simpa using q4)
theorem zmc{H:Type}{enc:TypeId × Value→H}{w:World}{b b0:Nat}{sp:Nat→Bool}{hd:Bool}{v:Value}{d:DataW H}{ps:List MemPlace}{r:Reach}
 (hv:Value.okWide Tryz.prog w r b0 25 v) (h:DataW.Trod enc Tryz.prog w b sp hd 25 v d ps):∃x:Sc,v=x.v∧zcO w x:=by
 obtain⟨cs,rfl,_⟩:=okWide_struct Tryz.underlying25 hv;have hr:=zhP h;have hl:=(zdt Tryz.underlying25 hr).1;rw [zkh] at hl;obtain⟨l⟩:=cs;simp only [Value.cells] at hl hr
 match l,hl with
 | [c0,c1],_ =>
  have h0:Rd Tryz.prog w 22 [c0]:=zas Tryz.underlying25 hr 0 22 0 1 rfl zlV
  have h1:Rd Tryz.prog w 23 [c1]:=zas Tryz.underlying25 hr 1 23 1 1 rfl zm1
  obtain⟨KA,kn,kc,K,e0,hk⟩:=zqJ h0
  obtain⟨AA,an,ac,L,e1,ha⟩:=zrn h1
  simp only [List.cons.injEq,and_true] at e0 e1
  exact⟨⟨KA,kn,kc,K,AA,an,ac,L⟩,by rw [e0,e1];rfl,hk,ha⟩
end Go.Proofs.YtjcdeikbghjpkaaGreatDoor
namespace Go.Proofs.YtjcdeikbghjpkaaGreatDoor
open Go.RowKit Go.Wk Go.Sort
structure zdi(w:World)(base:Nat)(v:Value)(P:List Nd):Prop where
 own:w.ownsRow base 41 4 v P.length (zh P)
theorem zdi.keep{w w':World}{base:Nat}{v:Value}{P:List Nd}(h:zdi w base v P)(hb:Below w.heap.size w w'):zdi w' base v P:=⟨h.own.kept (zc hb none) (by cases hv:v.ownBlock <;> simp)⟩
theorem zdi.one(w:World)(x:Nd):zdi (w.alloc (.cells #[.int .i64 x.op,.int .i64 x.n,.string x.s,.string x.t] 41)) w.heap.size (.slice (some ⟨w.heap.size,0,none⟩) 1 1) [x] :=
 ⟨⟨rfl,.inr ⟨_,1,_,rfl,Nat.le_refl _,heap_alloc_new w _,Nat.le_refl _,by unfold maxLen;omega,rfl,rfl⟩⟩⟩
theorem zdi.ns{w:World}{base:Nat}{v:Value}{P:List Nd}(h:zdi w base v P)(hl:P.length≤1000)(ho:zaj P):∃A n c,v = .slice A n c∧Ns w A n c P:=by
 obtain⟨A,c,rfl,hc,hA,-⟩:=ji h.own;exact⟨A,_,c,rfl,rfl,hc,by unfold maxLen;omega,hA,ho⟩
theorem zgA{ops:Array Oper}{rest:List Oper}{o:Oper}{a:Act}{w:World}{Q:Exit→Act→World→Prop}(hgd:o.guard=none)(s x:Operand)
 (ho:o.op = .call { callee := .builtin .append,args:=#[s,x],argTypes:=#[26,26] })
 (base:Nat) (v:Value) (L:List Nd) (hs:a.eval s=v) (hrow:zdi w base v L) (A:Option Addr) (n c:Nat) (P:List Nd) (hx:a.eval x = .slice A n c) (hP:Ns w A n c P) (h0:0<P.length)
 (hl:L.length+P.length≤1000) (hbase:base≤w.heap.size)
 (h:∀v' w',zdi w' base v' (L ++ P)→Below base w w'→wpList Tryz.prog ops Q rest (a.put o.dst v') w'):wpList Tryz.prog ops Q (o :: rest) a w:=by
 have hi:=zc5
 cases hq:Tryz.prog.info? 41 with
 | none=>rw [hq] at hi;cases hi
 | some i0 =>
  rw [hq] at hi
  simp only [Option.map_some,Option.some.injEq,Prod.mk.injEq] at hi
  obtain⟨a2,rfl,-⟩:=hP.at_.nd h0
  have HC:∀j u,(zh P)[j]?=some u→w.cell? (a2.add j)=some u:=hP.at_.cells
  have hn:=hP.len
  refine wpList_append_own w hgd s x _ ho base _ i0 _ 4 48 Tryz.underlying26 hq hi.1 hi.2.1 hi.2.2 (by decide) (by decide) v L.length (zh L) hs hrow.own a2 n c (zh P) hx (by rw [jm,hn]) HC (je _) (by unfold maxLen;omega) (by omega) hbase ?_
  intro v' w' h1 h2 _
  rw [hn,←zK,←List.length_append] at h1
  exact h v' w' ⟨h1⟩ ((Below.refl base w).grown h2 hbase (zD hrow.own))
theorem zjQ{s:ByteArray}(h:0<s.size):s.data.toList.head?=some s[0]:=by
 have h':0<s.data.toList.length:=by rw [Array.length_toList];exact h
 rw [List.head?_eq_getElem?,List.getElem?_eq_getElem h'];rfl
theorem zob{s:ByteArray}(h:0<s.size)(hq:(s[0].toNat:Int)=63):zcs s=decide (zd (s.extract 1 s.size)=0):=by
 unfold zcs;rw [zjQ h,if_pos];have:s[0].toNat=63:=by omega
 exact congrArg some (UInt8.toNat_inj.1 this)
theorem znM{s:ByteArray}(h:0<s.size)(hq:¬(s[0].toNat:Int)=63):zcs s=(decide (zd s=0)&& !zu s):=by
 unfold zcs;rw [zjQ h,if_neg];intro e;injection e with e;exact hq (by rw [e];rfl)
theorem znR:zcs ⟨#[]⟩=false:=by decide
theorem zmn(s:ByteArray):(s.extract 1 s.size).size≤s.size:=by simp
theorem zoc{s:ByteArray}(h:0<s.size):s.toList.isEmpty=false∧¬s.toList = []:=⟨by rw [List.isEmpty_eq_false_iff];exact fun q=>(zbs h).1 q,fun q=>(zbs h).1 q⟩
theorem zbu{w:World}{b k:Nat}{arr:Array Value}{t:TypeId}{fz:Nat × Nat}{u:Value}(h:w.heap[b]?=some (.cells arr t fz))(hu:arr[k]?=some u):w.cell? ⟨b,k,none⟩=some u:=by
 simp [World.cell?,h,hu]
structure Vnx(w:World)(b:Nat)(x:Nd):Prop where
 c0:w.cell? ⟨b,0,none⟩=some (.int .i64 x.op)
 c1:w.cell? ⟨b,1,none⟩=some (.int .i64 x.n)
 c2:w.cell? ⟨b,2,none⟩=some (.string x.s)
 c3:w.cell? ⟨b,3,none⟩=some (.string x.t)
theorem Vnx.keep{w w':World}{b:Nat}{x:Nd}(h:Vnx w b x)(hb:Below w.heap.size w w'):Vnx w' b x:=⟨zb hb h.c0,zb hb h.c1,zb hb h.c2,zb hb h.c3⟩
theorem zax(w:World)(x:Nd)(t:TypeId):Vnx (w.alloc (.cells #[.int .i64 x.op,.int .i64 x.n,.string x.s,.string x.t] t)) w.heap.size x :=
 ⟨zbu (heap_alloc_new w _) rfl,zbu (heap_alloc_new w _) rfl,zbu (heap_alloc_new w _) rfl,zbu (heap_alloc_new w _) rfl⟩
theorem zi3(s:ByteArray)(w:World)(hs:s.size≤maxLen):Calls Tryz.prog 99 #[.string s] w fun e w'=>e = .returned (.bool (zcs s))∧Below w.heap.size w w':=by
 have PR:=hi9 (fun w=>zjd s w);have PN:=hi9 (fun w=>zaB s w hs);have PS:=hi9 (fun w=>zaB (s.extract 1 s.size) w (Nat.le_trans (zmn s) hs));unfold maxLen at hs;by_cases h:0<s.size
 ·obtain⟨he,he2⟩:=zoc h;by_cases hq:(s[0].toNat:Int)=63
  ·have HV:=hi9 (zob h hq);have f1:((s[0].toNat:Int)==63)=true:=beq_iff_eq.2 hq;clear hq;by_cases h1:zd (s.extract 1 s.size)=0
   ·have HR:=hi9 (show zcs s=true by rw [HV.out,h1];rfl);rw [h1,zM] at PS;clear h1;go_enter Tryz.func99,Tryz.ntmps99;go_wp2_with fail;refine(PS.out _).mono ?_;rintro e w1 ⟨rfl,hb⟩;go_wp2_with fail;go_ret;exact⟨by rw [HR.out];rfl,hb⟩
   ·have HR:=hi9 (show zcs s=false by rw [HV.out,decide_eq_false h1]);rw [jc h1] at PS;clear HV h1;generalize zd (s.extract 1 s.size)=f at *;go_enter Tryz.func99,Tryz.ntmps99;go_wp2_with fail;refine(PS.out _).mono ?_;rintro e w1 ⟨rfl,hb⟩;go_wp2_with fail;go_ret;exact⟨by rw [HR.out];rfl,hb⟩
  ·have HV:=hi9 (znM h hq);have f1:((s[0].toNat:Int)==63)=false:=beq_eq_false_iff_ne.2 hq;clear hq;by_cases h1:zd s=0
   ·have HR:=hi9 (show zcs s = !zu s by rw [HV.out,h1];rfl);rw [h1,zM] at PN;clear h1;generalize zu s=r at *;go_enter Tryz.func99,Tryz.ntmps99;go_wp2_with fail;refine(PN.out _).mono ?_;rintro e w1 ⟨rfl,hb⟩;go_wp2_with fail;refine(PR.out _).mono ?_;rintro e w2 ⟨rfl,rfl⟩;go_wp2_with fail;go_ret;exact⟨by rw [HR.out];rfl,hb⟩
   ·have HR:=hi9 (show zcs s=false by rw [HV.out,decide_eq_false h1];rfl);rw [jc h1] at PN;clear HV h1;generalize zd s=f at *;go_enter Tryz.func99,Tryz.ntmps99;go_wp2_with fail;refine(PN.out _).mono ?_;rintro e w1 ⟨rfl,hb⟩;go_wp2_with fail;go_ret;exact⟨by rw [HR.out];rfl,hb⟩
 ·have e:s=⟨#[]⟩:=zaD (List.eq_nil_of_length_eq_zero (by rw [Array.length_toList];show s.size=0;omega));subst e;have HR:=hi9 znR;rw [show zd ⟨#[]⟩=1 by decide,jc (by decide)] at PN;clear h;go_enter Tryz.func99,Tryz.ntmps99;go_wp2_with fail;refine(PN.out _).mono ?_;rintro e w1 ⟨rfl,hb⟩;go_wp2_with fail;go_ret;exact⟨by rw [HR.out];rfl,hb⟩
theorem zcN(w:World)(x:Nd)(hx:zcP x):Ns (w.alloc (.cells #[.int .i64 x.op,.int .i64 x.n,.string x.s,.string x.t] 41)) (some ⟨w.heap.size,0,none⟩) 1 1 [x] :=
 ⟨rfl,Nat.le_refl _,by unfold maxLen;omega,znQ w [x] _,fun y hy=>by
  simp only [List.mem_cons,List.not_mem_nil,or_false] at hy;subst hy;exact hx⟩
theorem zqA(x:Nd)(h:1≤x.op∧x.op≤4):jT [x]=if ja x=true then 0 else 1:=by
 unfold jT;rw [if_neg (by simp)];simp only [List.length_singleton];by_cases hs:ja x=true
 ·rw [if_pos hs,if_pos];have h5:x.op≠5:=by omega
  have h6:x.op≠6:=by omega
  have h7:x.op≠7:=by omega
  simp [ju,hs,h5,h6,h7]
 ·rw [if_neg hs,if_neg];simp [ju,hs]
theorem zmd(o n:Int)(s t:ByteArray)(w:World)(ho:o=1∨o=2∨o=3∨o=4)(hx:zcP ⟨o,n,s,t⟩):
 Calls Tryz.prog 75 #[.agg #[.int .i64 o,.int .i64 n,.string s,.string t]] w fun e w'=>e = .returned (.bool (ja ⟨o,n,s,t⟩))∧Below w.heap.size w w':=by
 have b0:=za w (.cells #[.int .i64 o,.int .i64 n,.string s,.string t] 41);have N1:=zcN (w.alloc (.cells #[.int .i64 o,.int .i64 n,.string s,.string t] 41)) ⟨o,n,s,t⟩ hx;have B1:=hi9 (b0.trans ((za (w.alloc (.cells #[.int .i64 o,.int .i64 n,.string s,.string t] 41)) (.cells #[.int .i64 o,.int .i64 n,.string s,.string t] 41)).mono b0.size));have hz:(w.alloc (.cells #[.int .i64 o,.int .i64 n,.string s,.string t] 41)).heap.size=w.heap.size+1:=by simp
 rw [hz] at N1;have C:=hi9 (zk2 N1);rw [zqA ⟨o,n,s,t⟩ (by dsimp only;omega)] at C;dsimp only at C;clear b0 N1 hz hx;generalize ja ⟨o,n,s,t⟩=r at *;cases r
 ·rw [if_neg (by decide),jc (by decide)] at C;rcases ho with rfl|rfl|rfl|rfl
  all_goals
   go_enter Tryz.func75,Tryz.ntmps75;go_wp2_with fail;refine C.out.mono ?_;rintro e w1 ⟨rfl,b1⟩;have B2:=hi9 (B1.out.trans (b1.mono B1.out.size));clear b1 C;go_wp2_with fail;go_ret;exact⟨rfl,B2.out⟩
 ·rw [if_pos rfl,zM] at C;rcases ho with rfl|rfl|rfl|rfl
  all_goals
   go_enter Tryz.func75,Tryz.ntmps75;go_wp2_with fail;refine C.out.mono ?_;rintro e w1 ⟨rfl,b1⟩;have B2:=hi9 (B1.out.trans (b1.mono B1.out.size));clear b1 C;go_wp2_with fail;go_ret;exact⟨rfl,B2.out⟩
theorem zkZ(o n:Int)(s t:ByteArray)(ho:o=5∨o=6)(w:World):
 Calls Tryz.prog 75 #[.agg #[.int .i64 o,.int .i64 n,.string s,.string t]] w fun e w'=>e = .returned (.bool (decide (0≤n)&& noB s && noB t))∧Below w.heap.size w w':=by
 by_cases h0:0≤n
 ·rcases ho with rfl|rfl <;> rcases zn s with rfl|⟨s1,s2,s3⟩<;> rcases zn t with rfl|⟨t1,t2,t3⟩
  all_goals
   go_enter Tryz.func75,Tryz.ntmps75;go_wp2;go_ret;exact⟨zi (by simp [*,jw]),za _ _⟩
 ·rcases ho with rfl|rfl <;> rcases zn s with rfl|⟨s1,s2,s3⟩<;> rcases zn t with rfl|⟨t1,t2,t3⟩
  all_goals
   go_enter Tryz.func75,Tryz.ntmps75;go_wp2;go_ret;exact⟨zi (by first|rfl|(rw [decide_eq_false (show¬0≤n by omega)];rfl)),za _ _⟩
theorem zeU(o n:Int)(s t:ByteArray)(w:World)(ho:o=7∨o=21∨o=22∨o=24)(hs:s.size≤maxLen):
 Calls Tryz.prog 75 #[.agg #[.int .i64 o,.int .i64 n,.string s,.string t]] w fun e w'=>e = .returned (.bool (decide (n=0)&& noB t && decide (zd s=0)))∧Below w.heap.size w w':=by
 have P:=hi9 (fun w=>zaB s w hs);by_cases h0:n=0
 ·subst h0;rcases zn t with rfl|⟨t1,t2,t3⟩
  ·by_cases h1:zd s=0
   ·have HR:=hi9 (show(decide ((0:Int)=0)&& noB ⟨#[]⟩&& decide (zd s=0))=true by rw [h1];rfl);rw [h1,zM] at P;clear h1;rcases ho with rfl|rfl|rfl|rfl
    all_goals
     go_enter Tryz.func75,Tryz.ntmps75;go_wp2_with fail;refine(P.out _).mono ?_;rintro e w1 ⟨rfl,hb⟩;go_wp2_with fail;go_ret;exact⟨by rw [HR.out];rfl,zr hb⟩
   ·have HR:=hi9 (show(decide ((0:Int)=0)&& noB ⟨#[]⟩&& decide (zd s=0))=false by rw [decide_eq_false h1];rfl);rw [jc h1] at P;clear h1;generalize zd s=f at *;rcases ho with rfl|rfl|rfl|rfl
    all_goals
     go_enter Tryz.func75,Tryz.ntmps75;go_wp2_with fail;refine(P.out _).mono ?_;rintro e w1 ⟨rfl,hb⟩;go_wp2_with fail;go_ret;exact⟨by rw [HR.out];rfl,zr hb⟩
  ·rcases ho with rfl|rfl|rfl|rfl
   all_goals
    go_enter Tryz.func75,Tryz.ntmps75;go_wp2_with fail;go_ret;exact⟨zi (by simp [t3]),za _ _⟩
 ·have e0:(n != 0)=true:=by rw [bne_iff_ne];exact h0
  have e1:(n==0)=false:=beq_eq_false_iff_ne.2 h0;rcases zn t with rfl|⟨t1,t2,t3⟩<;> rcases ho with rfl|rfl|rfl|rfl
  all_goals
   go_enter Tryz.func75,Tryz.ntmps75;go_wp2_with fail;go_ret;exact⟨zi (by simp [h0]),za _ _⟩
theorem zkd(o n:Int)(s t:ByteArray)(w:World)(ho:o=23)(hs:s.size≤maxLen):
 Calls Tryz.prog 75 #[.agg #[.int .i64 o,.int .i64 n,.string s,.string t]] w fun e w'=>e = .returned (.bool (decide (n=0)&& noB t && decide (zk s=0)))∧Below w.heap.size w w':=by
 have P:=hi9 (fun w=>zdE s w hs);by_cases h0:n=0
 ·subst h0;rcases zn t with rfl|⟨t1,t2,t3⟩
  ·by_cases h1:zk s=0
   ·have HR:=hi9 (show(decide ((0:Int)=0)&& noB ⟨#[]⟩&& decide (zk s=0))=true by rw [h1];rfl);rw [h1,zM] at P;clear h1;rcases ho with rfl
    all_goals
     go_enter Tryz.func75,Tryz.ntmps75;go_wp2_with fail;refine(P.out _).mono ?_;rintro e w1 ⟨rfl,hb⟩;go_wp2_with fail;go_ret;exact⟨by rw [HR.out];rfl,zr hb⟩
   ·have HR:=hi9 (show(decide ((0:Int)=0)&& noB ⟨#[]⟩&& decide (zk s=0))=false by rw [decide_eq_false h1];rfl);rw [jc h1] at P;clear h1;generalize zk s=f at *;rcases ho with rfl
    all_goals
     go_enter Tryz.func75,Tryz.ntmps75;go_wp2_with fail;refine(P.out _).mono ?_;rintro e w1 ⟨rfl,hb⟩;go_wp2_with fail;go_ret;exact⟨by rw [HR.out];rfl,zr hb⟩
  ·rcases ho with rfl
   all_goals
    go_enter Tryz.func75,Tryz.ntmps75;go_wp2_with fail;go_ret;exact⟨zi (by simp [t3]),za _ _⟩
 ·have e0:(n != 0)=true:=by rw [bne_iff_ne];exact h0
  have e1:(n==0)=false:=beq_eq_false_iff_ne.2 h0;rcases zn t with rfl|⟨t1,t2,t3⟩<;> rcases ho with rfl
  all_goals
   go_enter Tryz.func75,Tryz.ntmps75;go_wp2_with fail;go_ret;exact⟨zi (by simp [h0]),za _ _⟩
theorem zlc(n:Int)(s t:ByteArray)(w:World)(hs:s.size≤maxLen):
 Calls Tryz.prog 75 #[.agg #[.int .i64 8,.int .i64 n,.string s,.string t]] w fun e w'=>e = .returned (.bool (decide (n=0)&& noB t && zcs s))∧Below w.heap.size w w':=by
 have P:=hi9 (fun w=>zi3 s w hs);by_cases h0:n=0
 ·subst h0;rcases zn t with rfl|⟨t1,t2,t3⟩
  ·go_enter Tryz.func75,Tryz.ntmps75;go_wp2_with fail;refine(P.out _).mono ?_;rintro e w1 ⟨rfl,hb⟩;go_wp2_with fail;go_ret;exact⟨zi (by simp [jw]),zr hb⟩
  ·go_enter Tryz.func75,Tryz.ntmps75;go_wp2_with fail;go_ret;exact⟨zi (by simp [t3]),za _ _⟩
 ·have e0:(n != 0)=true:=by rw [bne_iff_ne];exact h0
  have e1:(n==0)=false:=beq_eq_false_iff_ne.2 h0;rcases zn t with rfl|⟨t1,t2,t3⟩
  all_goals
   go_enter Tryz.func75,Tryz.ntmps75;go_wp2_with fail;go_ret;exact⟨zi (by simp [h0]),za _ _⟩
theorem znb{o:Int}(ho:o=9∨o=10∨o=11∨o=12∨o=13∨o=14∨o=15∨o=16∨o=17∨o=18∨o=19∨o=20∨o=25∨o=26∨o=27)(n:Int)(s t:ByteArray):0<zp ⟨o,n,s,t⟩:=by
 rcases ho with rfl|rfl|rfl|rfl|rfl|rfl|rfl|rfl|rfl|rfl|rfl|rfl|rfl|rfl|rfl <;> first|exact(show(0:Int)<1 by decide)|exact(show(0:Int)<2 by decide)|exact(show(0:Int)<3 by decide)
theorem zqC{o:Int}(ho:o=9∨o=10∨o=11∨o=12∨o=13∨o=14∨o=15∨o=16∨o=17∨o=18∨o=19∨o=20∨o=25∨o=26∨o=27):(o==1)=false∧(o==2)=false∧(o==3)=false∧(o==4)=false∧(o==5)=false∧(o==6)=false∧(o==7)=false∧(o==8)=false∧(o==21)=false∧(o==22)=false∧(o==23)=false∧(o==24)=false:=by
 refine⟨?_,?_,?_,?_,?_,?_,?_,?_,?_,?_,?_,?_⟩<;>(rw [beq_eq_false_iff_ne];omega)
theorem zkJ(o n:Int)(s t:ByteArray)(w:World)(ho:o=9∨o=10∨o=11∨o=12∨o=13∨o=14∨o=15∨o=16∨o=17∨o=18∨o=19∨o=20∨o=25∨o=26∨o=27):
 Calls Tryz.prog 75 #[.agg #[.int .i64 o,.int .i64 n,.string s,.string t]] w fun e w'=>e = .returned (.bool (decide (n=0)&& noB t && noB s))∧Below w.heap.size w w':=by
 have P:=hi9 (fun w=>zdH ⟨o,n,s,t⟩ w);unfold ndV at P;dsimp only at P;have hp:=znb ho n s t;obtain⟨g1,g2,g3,g4,g5,g6,g7,g8,g21,g22,g23,g24⟩:=zqC ho;generalize zp ⟨o,n,s,t⟩=m at *;have f1:decide (0<m)=true:=decide_eq_true hp;clear ho;by_cases h0:n=0
 ·subst h0;obtain⟨s',hs'⟩:∃s',s'=s:=⟨_,rfl⟩
  obtain⟨t',ht'⟩:∃t',t'=t:=⟨_,rfl⟩
  have V0:=zax w ⟨o,0,s,t⟩ 41;dsimp only at V0;clear hs' ht' s' t';rcases zn s with rfl|⟨s1,s2,s3⟩<;> rcases zn t with rfl|⟨t1,t2,t3⟩
  all_goals
   go_enter Tryz.func75,Tryz.ntmps75;go_wp2_with fail;refine(P.out _).mono ?_;rintro e w1 ⟨rfl,hb⟩;have B1:=hi9 (zr hb);have hw:w.heap.size<w1.heap.size:=Nat.lt_of_lt_of_le (by simp) hb.size;obtain⟨c0,c1,c2,c3⟩:=V0.keep hb;dsimp only at c0 c1 c2 c3;clear hb;go_wp2_with fail;go_ret;exact⟨zi (by simp [*,jw]),B1.out⟩
 ·have e0:(n != 0)=true:=by rw [bne_iff_ne];exact h0
  have e1:(n==0)=false:=beq_eq_false_iff_ne.2 h0;go_enter Tryz.func75,Tryz.ntmps75;go_wp2_with fail;refine(P.out _).mono ?_;rintro e w1 ⟨rfl,hb⟩;have B1:=hi9 (zr hb);have hw:w.heap.size<w1.heap.size:=Nat.lt_of_lt_of_le (by simp) hb.size;obtain⟨c0,c1,c2,c3⟩:=(zax w ⟨o,n,s,t⟩ 41).keep hb;dsimp only at c0 c1 c2 c3;clear hb;go_wp2_with fail;go_ret;exact⟨zi (by simp [h0]),B1.out⟩
theorem zl1(o n:Int)(s t:ByteArray)(w:World)(ho:o≤0∨28≤o):
 Calls Tryz.prog 75 #[.agg #[.int .i64 o,.int .i64 n,.string s,.string t]] w fun e w'=>e = .returned (.bool false)∧Below w.heap.size w w':=by
 have P:=hi9 (fun w=>zdH ⟨o,n,s,t⟩ w);unfold ndV at P;dsimp only at P;rw [zcq ho n s t] at P;obtain⟨g1,g2,g3,g4,g5,g6,g7,g8,g9,g10,g11,g12,g13,g14,g15,g16,g17,g18,g19,g20,g21,g22,g23,g24,g25,g26,g27⟩:=znn ho;clear ho;go_enter Tryz.func75,Tryz.ntmps75;go_wp2_with fail;refine(P.out _).mono ?_;rintro e w1 ⟨rfl,hb⟩;go_wp2_with fail;go_ret;exact⟨rfl,zr hb⟩
theorem znV(s:ByteArray):noB s=decide (s=emp):=by
 rcases h:noB s with _|_
 ·symm;rw [decide_eq_false_iff_not];rintro rfl;cases h
 ·symm;rw [decide_eq_true_iff];exact zsX h
theorem zdT{x:Nd}(h:1≤x.op∧x.op≤7):jv x=ja x:=by unfold jv;rw [if_pos h]
theorem zgY{x:Nd}(h:8≤x.op∧x.op≤27):jv x=(decide (x.n=0)&& noB x.t &&(if x.op=8 then zcs x.s else if x.op=21∨x.op=22∨x.op=24 then decide (zd x.s=0) else if x.op=23 then decide (zk x.s=0) else noB x.s)):=by
 have hp:¬zp x<0:=by
  unfold zp;rw [if_neg (by omega)];split
  ·omega
  ·split
   ·omega
   ·split
    ·omega
    ·rw [if_pos (by omega)];omega
 unfold jv;rw [if_neg (by omega),znV,znV];by_cases h0:x.n=0
 ·by_cases ht:x.t=emp
  ·rw [if_neg (by intro q;rcases q with q|q|q <;> contradiction),decide_eq_true h0,decide_eq_true ht];rfl
  ·rw [if_pos (.inr (.inr ht)),decide_eq_false ht,Bool.and_false,Bool.false_and]
 ·rw [if_pos (.inr (.inl h0)),decide_eq_false h0,Bool.false_and,Bool.false_and]
theorem ziV{x:Nd}(h:x.op≤0∨28≤x.op):jv x=false:=by
 unfold jv;rw [if_neg (by omega),if_pos];left;obtain⟨o,n,s,t⟩:=x;rw [zcq h];decide
theorem zmp(x:Nd)(w:World)(hx:zcP x):
 Calls Tryz.prog 75 #[ndV x] w fun e w'=>e = .returned (.bool (jv x))∧Below w.heap.size w w':=by
 obtain⟨o,n,s,t⟩:=x;have hs:s.size≤maxLen:=hx.s;unfold ndV;dsimp only;by_cases h1:1≤o∧o≤4
 ·rw [zdT (by dsimp only;omega)];exact zmd o n s t w (by omega) hx
 by_cases h5:o=5∨o=6
 ·rw [zdT (by dsimp only;omega)];have:=zkZ o n s t h5 w;unfold ja;dsimp only;rwa [if_neg (by omega),if_neg (by omega),if_neg (by omega),if_neg (by omega),if_pos h5]
 by_cases h7:o=7
 ·rw [zdT (by dsimp only;omega)];have:=zeU o n s t w (by omega) hs;unfold ja;dsimp only;rwa [if_neg (by omega),if_neg (by omega),if_neg (by omega),if_neg (by omega),if_neg (by omega),if_pos h7]
 by_cases h8:8≤o∧o≤27
 ·rw [zgY h8];dsimp only;by_cases h8':o=8
  ·subst h8';rw [if_pos rfl];exact zlc n s t w hs
  rw [if_neg h8'];by_cases h21:o=21∨o=22∨o=24
  ·rw [if_pos h21];exact zeU o n s t w (by omega) hs
  rw [if_neg h21];by_cases h23:o=23
  ·rw [if_pos h23];exact zkd o n s t w h23 hs
  rw [if_neg h23];exact zkJ o n s t w (by omega)
 ·rw [ziV (by dsimp only;omega)];exact zl1 o n s t w (by omega)
theorem zdV{o:Int}(n:Int)(s t:ByteArray)(h:8≤o∧o≤27):¬zp ⟨o,n,s,t⟩<0:=by
 unfold zp;dsimp only;rw [if_neg (by omega)];split
 ·omega
 ·split
  ·omega
  ·split
   ·omega
   ·rw [if_pos (by omega)];omega
theorem zlX(o n:Int)(s t:ByteArray)(w:World)(ho:1≤o∧o≤7)(hx:zcP ⟨o,n,s,t⟩):
 Calls Tryz.prog 60 #[.agg #[.int .i64 o,.int .i64 n,.string s,.string t]] w fun e w'=>e = .returned (.bool (ja ⟨o,n,s,t⟩))∧Below w.heap.size w w':=by
 have P:=hi9 (fun w=>zi7 ⟨o,n,s,t⟩ w hx.s hx.t);unfold ndV at P;dsimp only at P;have k1:decide (o≤7)=true:=decide_eq_true (by omega);have k2:decide (1≤o)=true:=decide_eq_true (by omega);generalize ja ⟨o,n,s,t⟩=r at *;clear ho hx;go_enter Tryz.func60,Tryz.ntmps60;go_wp2_with fail;refine(P.out _).mono ?_;rintro e w1 ⟨rfl,hb⟩;go_wp2_with fail;go_ret;exact⟨rfl,zr hb⟩
theorem zma(o n:Int)(s t:ByteArray)(w:World)(ho:o≤0∨28≤o):
 Calls Tryz.prog 60 #[.agg #[.int .i64 o,.int .i64 n,.string s,.string t]] w fun e w'=>e = .returned (.bool false)∧Below w.heap.size w w':=by
 have P:=hi9 (fun w=>zbk ⟨o,n,s,t⟩ w);unfold ndV at P;dsimp only at P;rw [zcq ho n s t] at P;rcases ho with ho|ho
 ·have k2:decide (1≤o)=false:=decide_eq_false (by omega);go_enter Tryz.func60,Tryz.ntmps60;go_wp2_with fail;refine(P.out _).mono ?_;rintro e w1 ⟨rfl,hb⟩;go_wp2_with fail;go_ret;exact⟨rfl,zr hb⟩
 ·have k2:decide (1≤o)=true:=decide_eq_true (by omega);have k1:decide (o≤7)=false:=decide_eq_false (by omega);go_enter Tryz.func60,Tryz.ntmps60;go_wp2_with fail;refine(P.out _).mono ?_;rintro e w1 ⟨rfl,hb⟩;go_wp2_with fail;go_ret;exact⟨rfl,zr hb⟩
theorem zja(o n:Int)(s t:ByteArray)(w:World)(ho:o=21∨o=22∨o=24)(hs:s.size≤maxLen):
 Calls Tryz.prog 60 #[.agg #[.int .i64 o,.int .i64 n,.string s,.string t]] w fun e w'=>e = .returned (.bool (decide (n=0)&& noB t && decide (zd s=0)))∧Below w.heap.size w w':=by
 have P:=hi9 (fun w=>zbk ⟨o,n,s,t⟩ w);unfold ndV at P;dsimp only at P;have hp:¬zp ⟨o,n,s,t⟩<0:=zdV n s t (by omega);have k1:decide (o≤7)=false:=decide_eq_false (by omega);have k2:decide (1≤o)=true:=decide_eq_true (by omega);generalize zp ⟨o,n,s,t⟩=m at *;have f1:decide (m<0)=false:=decide_eq_false hp;have C:=hi9 (fun w=>jR s w hs);have g8:(o==8)=false:=by rw [beq_eq_false_iff_ne];omega
 have hor:((o==21)=true)∨((o==21)=false∧(o==22)=true)∨((o==21)=false∧(o==22)=false∧(o==24)=true):=by simp only [beq_iff_eq,beq_eq_false_iff_ne];omega
 clear ho;by_cases h0:n=0
 ·subst h0;rcases zn t with rfl|⟨t1,t2,t3⟩
  ·rcases hor with q1|⟨q1,q2⟩|⟨q1,q2,q3⟩
   all_goals
    go_enter Tryz.func60,Tryz.ntmps60;go_wp2_with fail;refine(P.out _).mono ?_;rintro e w1 ⟨rfl,hb⟩;have B1:=hi9 (zr hb);have hw:w.heap.size<w1.heap.size:=Nat.lt_of_lt_of_le (by simp) hb.size;have V1:=(zax w ⟨o,0,s,⟨#[]⟩⟩ 41).keep hb;obtain⟨c0,c1,c2,c3⟩:=V1;dsimp only at c0 c1 c2 c3;clear hb;go_wp2_with fail;refine(C.out _).mono ?_;rintro e w2 ⟨rfl,rfl⟩;have B2:=B1;go_wp2_with fail;go_ret;exact⟨zi (by simp [jw];rfl),B2.out⟩
  ·have V0:=zax w ⟨o,0,s,t⟩ 41;dsimp only at V0;go_enter Tryz.func60,Tryz.ntmps60;go_wp2_with fail;refine(P.out _).mono ?_;rintro e w1 ⟨rfl,hb⟩;have B1:=hi9 (zr hb);have hw:w.heap.size<w1.heap.size:=Nat.lt_of_lt_of_le (by simp) hb.size;obtain⟨c0,c1,c2,c3⟩:=V0.keep hb;dsimp only at c0 c1 c2 c3;clear hb;go_wp2_with fail;go_ret;exact⟨zi (by simp [t3]),B1.out⟩
 ·have e0:(n != 0)=true:=by rw [bne_iff_ne];exact h0
  have e1:(n==0)=false:=beq_eq_false_iff_ne.2 h0;have V0:=zax w ⟨o,n,s,t⟩ 41;dsimp only at V0;go_enter Tryz.func60,Tryz.ntmps60;go_wp2_with fail;refine(P.out _).mono ?_;rintro e w1 ⟨rfl,hb⟩;have B1:=hi9 (zr hb);have hw:w.heap.size<w1.heap.size:=Nat.lt_of_lt_of_le (by simp) hb.size;obtain⟨c0,c1,c2,c3⟩:=V0.keep hb;dsimp only at c0 c1 c2 c3;clear hb;go_wp2_with fail;go_ret;exact⟨zi (by simp [h0]),B1.out⟩
theorem zkX(o n:Int)(s t:ByteArray)(w:World)(ho:o=23)(hs:s.size≤maxLen):
 Calls Tryz.prog 60 #[.agg #[.int .i64 o,.int .i64 n,.string s,.string t]] w fun e w'=>e = .returned (.bool (decide (n=0)&& noB t && decide (zk s=0)))∧Below w.heap.size w w':=by
 have P:=hi9 (fun w=>zbk ⟨o,n,s,t⟩ w);unfold ndV at P;dsimp only at P;have hp:¬zp ⟨o,n,s,t⟩<0:=zdV n s t (by omega);have k1:decide (o≤7)=false:=decide_eq_false (by omega);have k2:decide (1≤o)=true:=decide_eq_true (by omega);generalize zp ⟨o,n,s,t⟩=m at *;have f1:decide (m<0)=false:=decide_eq_false hp;have C:=hi9 (fun w=>zbZ s w hs);have g8:(o==8)=false:=by rw [beq_eq_false_iff_ne];omega
 have g21:(o==21)=false:=by rw [beq_eq_false_iff_ne];omega
 have g22:(o==22)=false:=by rw [beq_eq_false_iff_ne];omega
 have g24:(o==24)=false:=by rw [beq_eq_false_iff_ne];omega
 have g23:(o==23)=true:=by rw [beq_iff_eq];omega
 clear ho;by_cases h0:n=0
 ·subst h0;rcases zn t with rfl|⟨t1,t2,t3⟩
  ·go_enter Tryz.func60,Tryz.ntmps60;go_wp2_with fail;refine(P.out _).mono ?_;rintro e w1 ⟨rfl,hb⟩;have B1:=hi9 (zr hb);have hw:w.heap.size<w1.heap.size:=Nat.lt_of_lt_of_le (by simp) hb.size;have V1:=(zax w ⟨o,0,s,⟨#[]⟩⟩ 41).keep hb;obtain⟨c0,c1,c2,c3⟩:=V1;dsimp only at c0 c1 c2 c3;clear hb;go_wp2_with fail;refine(C.out _).mono ?_;rintro e w2 ⟨rfl,b2⟩;have B2:=hi9 (B1.out.trans (b2.mono B1.out.size));go_wp2_with fail;go_ret;exact⟨zi (by simp [jw];rfl),B2.out⟩
  ·have V0:=zax w ⟨o,0,s,t⟩ 41;dsimp only at V0;go_enter Tryz.func60,Tryz.ntmps60;go_wp2_with fail;refine(P.out _).mono ?_;rintro e w1 ⟨rfl,hb⟩;have B1:=hi9 (zr hb);have hw:w.heap.size<w1.heap.size:=Nat.lt_of_lt_of_le (by simp) hb.size;obtain⟨c0,c1,c2,c3⟩:=V0.keep hb;dsimp only at c0 c1 c2 c3;clear hb;go_wp2_with fail;go_ret;exact⟨zi (by simp [t3]),B1.out⟩
 ·have e0:(n != 0)=true:=by rw [bne_iff_ne];exact h0
  have e1:(n==0)=false:=beq_eq_false_iff_ne.2 h0;have V0:=zax w ⟨o,n,s,t⟩ 41;dsimp only at V0;go_enter Tryz.func60,Tryz.ntmps60;go_wp2_with fail;refine(P.out _).mono ?_;rintro e w1 ⟨rfl,hb⟩;have B1:=hi9 (zr hb);have hw:w.heap.size<w1.heap.size:=Nat.lt_of_lt_of_le (by simp) hb.size;obtain⟨c0,c1,c2,c3⟩:=V0.keep hb;dsimp only at c0 c1 c2 c3;clear hb;go_wp2_with fail;go_ret;exact⟨zi (by simp [h0]),B1.out⟩
theorem zkV(o n:Int)(s t:ByteArray)(w:World)(ho:9≤o∧o≤20∨25≤o∧o≤27):
 Calls Tryz.prog 60 #[.agg #[.int .i64 o,.int .i64 n,.string s,.string t]] w fun e w'=>e = .returned (.bool (decide (n=0)&& noB t && noB s))∧Below w.heap.size w w':=by
 have P:=hi9 (fun w=>zbk ⟨o,n,s,t⟩ w);unfold ndV at P;dsimp only at P;have hp:¬zp ⟨o,n,s,t⟩<0:=zdV n s t (by omega);have k1:decide (o≤7)=false:=decide_eq_false (by omega);have k2:decide (1≤o)=true:=decide_eq_true (by omega);generalize zp ⟨o,n,s,t⟩=m at *;have f1:decide (m<0)=false:=decide_eq_false hp;have g8:(o==8)=false:=by rw [beq_eq_false_iff_ne];omega
 have g21:(o==21)=false:=by rw [beq_eq_false_iff_ne];omega
 have g22:(o==22)=false:=by rw [beq_eq_false_iff_ne];omega
 have g24:(o==24)=false:=by rw [beq_eq_false_iff_ne];omega
 have g23:(o==23)=false:=by rw [beq_eq_false_iff_ne];omega
 clear ho;by_cases h0:n=0
 ·subst h0;rcases zn t with rfl|⟨t1,t2,t3⟩
  ·have V0:=zax w ⟨o,0,s,⟨#[]⟩⟩ 41;dsimp only at V0;rcases zn s with rfl|⟨s1,s2,s3⟩
   all_goals
    go_enter Tryz.func60,Tryz.ntmps60;go_wp2_with fail;refine(P.out _).mono ?_;rintro e w1 ⟨rfl,hb⟩;have hw:w.heap.size<w1.heap.size:=Nat.lt_of_lt_of_le (by simp) hb.size;have B1:=hi9 (zr hb);obtain⟨c0,c1,c2,c3⟩:=V0.keep hb;dsimp only at c0 c1 c2 c3;clear hb;go_wp2_with fail;go_ret;exact⟨zi (by simp [*,jw]),B1.out⟩
  ·have V0:=zax w ⟨o,0,s,t⟩ 41;dsimp only at V0;go_enter Tryz.func60,Tryz.ntmps60;go_wp2_with fail;refine(P.out _).mono ?_;rintro e w1 ⟨rfl,hb⟩;have B1:=hi9 (zr hb);have hw:w.heap.size<w1.heap.size:=Nat.lt_of_lt_of_le (by simp) hb.size;obtain⟨c0,c1,c2,c3⟩:=V0.keep hb;dsimp only at c0 c1 c2 c3;clear hb;go_wp2_with fail;go_ret;exact⟨zi (by simp [t3]),B1.out⟩
 ·have e0:(n != 0)=true:=by rw [bne_iff_ne];exact h0
  have e1:(n==0)=false:=beq_eq_false_iff_ne.2 h0;have V0:=zax w ⟨o,n,s,t⟩ 41;dsimp only at V0;go_enter Tryz.func60,Tryz.ntmps60;go_wp2_with fail;refine(P.out _).mono ?_;rintro e w1 ⟨rfl,hb⟩;have B1:=hi9 (zr hb);have hw:w.heap.size<w1.heap.size:=Nat.lt_of_lt_of_le (by simp) hb.size;obtain⟨c0,c1,c2,c3⟩:=V0.keep hb;dsimp only at c0 c1 c2 c3;clear hb;go_wp2_with fail;go_ret;exact⟨zi (by simp [h0]),B1.out⟩
theorem zmt(o n:Int)(s t:ByteArray)(w:World)(ho:o=8)(hs:s.size≤maxLen):
 Calls Tryz.prog 60 #[.agg #[.int .i64 o,.int .i64 n,.string s,.string t]] w fun e w'=>e = .returned (.bool (decide (n=0)&& noB t && zcs s))∧Below w.heap.size w w':=by
 have P:=hi9 (fun w=>zbk ⟨o,n,s,t⟩ w);unfold ndV at P;dsimp only at P;have hp:¬zp ⟨o,n,s,t⟩<0:=zdV n s t (by omega);have k1:decide (o≤7)=false:=decide_eq_false (by omega);have k2:decide (1≤o)=true:=decide_eq_true (by omega);generalize zp ⟨o,n,s,t⟩=m at *;have f1:decide (m<0)=false:=decide_eq_false hp;have C:=hi9 (fun w=>jR s w hs);have C2:=hi9 (fun w=>jR (s.extract 1 s.size) w (Nat.le_trans (zmn s) hs));have C3:=hi9 (fun w=>zkL s w);unfold maxLen at hs;have g8:(o==8)=true:=by rw [beq_iff_eq];omega
 clear ho;by_cases h0:n=0
 ·subst h0;rcases zn t with rfl|⟨t1,t2,t3⟩
  ·obtain hsz|hsz:=Nat.eq_zero_or_pos s.size
   ·have es:s=⟨#[]⟩:=zaD (List.eq_nil_of_length_eq_zero (by rw [Array.length_toList];exact hsz));subst es;have HR:=hi9 znR;rw [show zd ⟨#[]⟩=1 by decide] at C;clear hsz;have V0:=zax w ⟨o,0,⟨#[]⟩,⟨#[]⟩⟩ 41;dsimp only at V0;go_enter Tryz.func60,Tryz.ntmps60;go_wp2_with fail;refine(P.out _).mono ?_;rintro e w1 ⟨rfl,hb⟩;have B1:=hi9 (zr hb);have hw:w.heap.size<w1.heap.size:=Nat.lt_of_lt_of_le (by simp) hb.size;obtain⟨c0,c1,c2,c3⟩:=V0.keep hb;dsimp only at c0 c1 c2 c3;clear hb;go_wp2_with fail;refine(C.out _).mono ?_;rintro e w2 ⟨rfl,rfl⟩;go_wp2_with fail;go_ret;exact⟨zi (by rw [HR.out];rfl),B1.out⟩
   ·obtain⟨he,he2⟩:=zoc hsz;have V0:=zax w ⟨o,0,s,⟨#[]⟩⟩ 41;by_cases hq:(s[0].toNat:Int)=63
    ·have HV:=hi9 (zob hsz hq);have f2:((s[0].toNat:Int)==63)=true:=beq_iff_eq.2 hq;clear hq;go_enter Tryz.func60,Tryz.ntmps60;go_wp2_with fail;refine(P.out _).mono ?_;rintro e w1 ⟨rfl,hb⟩;have B1:=hi9 (zr hb);have hw:w.heap.size<w1.heap.size:=Nat.lt_of_lt_of_le (by simp) hb.size;obtain⟨c0,c1,c2,c3⟩:=V0.keep hb;dsimp only at c0 c1 c2 c3;clear hb V0;go_wp2_with fail;refine(C2.out _).mono ?_;rintro e w2 ⟨rfl,rfl⟩;go_wp2_with fail;go_ret;exact⟨zi (by rw [HV.out];simp [jw];rfl),B1.out⟩
    ·have HV:=hi9 (znM hsz hq);have f2:((s[0].toNat:Int)==63)=false:=beq_eq_false_iff_ne.2 hq;clear hq;by_cases h1:zd s=0
     ·rw [h1] at C HV;clear h1;go_enter Tryz.func60,Tryz.ntmps60;go_wp2_with fail;refine(P.out _).mono ?_;rintro e w1 ⟨rfl,hb⟩;have B1:=hi9 (zr hb);have hw:w.heap.size<w1.heap.size:=Nat.lt_of_lt_of_le (by simp) hb.size;obtain⟨c0,c1,c2,c3⟩:=V0.keep hb;dsimp only at c0 c1 c2 c3;clear hb V0;go_wp2_with fail;refine(C.out _).mono ?_;rintro e w2 ⟨rfl,rfl⟩;go_wp2_with fail;refine(C3.out _).mono ?_;rintro e w2 ⟨rfl,rfl⟩;go_wp2_with fail;go_ret;exact⟨zi (by rw [HV.out];simp [jw]),B1.out⟩
     ·have f3:(zd s==0)=false:=beq_eq_false_iff_ne.2 h1;have HV2:=hi9 (show zcs s=false by rw [HV.out,decide_eq_false h1];rfl);clear h1 HV;generalize zd s=nf at *;go_enter Tryz.func60,Tryz.ntmps60;go_wp2_with fail;refine(P.out _).mono ?_;rintro e w1 ⟨rfl,hb⟩;have B1:=hi9 (zr hb);have hw:w.heap.size<w1.heap.size:=Nat.lt_of_lt_of_le (by simp) hb.size;obtain⟨c0,c1,c2,c3⟩:=V0.keep hb;dsimp only at c0 c1 c2 c3;clear hb V0;go_wp2_with fail;refine(C.out _).mono ?_;rintro e w2 ⟨rfl,rfl⟩;go_wp2_with fail;go_ret;exact⟨zi (by rw [HV2.out];simp),B1.out⟩
  ·have V0:=zax w ⟨o,0,s,t⟩ 41;dsimp only at V0;go_enter Tryz.func60,Tryz.ntmps60;go_wp2_with fail;refine(P.out _).mono ?_;rintro e w1 ⟨rfl,hb⟩;have B1:=hi9 (zr hb);have hw:w.heap.size<w1.heap.size:=Nat.lt_of_lt_of_le (by simp) hb.size;obtain⟨c0,c1,c2,c3⟩:=V0.keep hb;dsimp only at c0 c1 c2 c3;clear hb;go_wp2_with fail;go_ret;exact⟨zi (by simp [t3]),B1.out⟩
 ·have e0:(n != 0)=true:=by rw [bne_iff_ne];exact h0
  have e1:(n==0)=false:=beq_eq_false_iff_ne.2 h0;have V0:=zax w ⟨o,n,s,t⟩ 41;dsimp only at V0;go_enter Tryz.func60,Tryz.ntmps60;go_wp2_with fail;refine(P.out _).mono ?_;rintro e w1 ⟨rfl,hb⟩;have B1:=hi9 (zr hb);have hw:w.heap.size<w1.heap.size:=Nat.lt_of_lt_of_le (by simp) hb.size;obtain⟨c0,c1,c2,c3⟩:=V0.keep hb;dsimp only at c0 c1 c2 c3;clear hb;go_wp2_with fail;go_ret;exact⟨zi (by simp [h0]),B1.out⟩
theorem zhA(x:Nd)(w:World)(hx:zcP x):
 Calls Tryz.prog 60 #[ndV x] w fun e w'=>e = .returned (.bool (jv x))∧Below w.heap.size w w':=by
 obtain⟨o,n,s,t⟩:=x;have hs:s.size≤maxLen:=hx.s;unfold ndV;dsimp only;by_cases h1:1≤o∧o≤7
 ·rw [zdT h1];exact zlX o n s t w h1 hx
 by_cases h8:8≤o∧o≤27
 ·rw [zgY h8];dsimp only;by_cases h8':o=8
  ·rw [if_pos h8'];exact zmt o n s t w h8' hs
  rw [if_neg h8'];by_cases h21:o=21∨o=22∨o=24
  ·rw [if_pos h21];exact zja o n s t w h21 hs
  rw [if_neg h21];by_cases h23:o=23
  ·rw [if_pos h23];exact zkX o n s t w h23 hs
  rw [if_neg h23];exact zkV o n s t w (by omega)
 ·rw [ziV (by dsimp only;omega)];exact zma o n s t w (by omega)
end Go.Proofs.YtjcdeikbghjpkaaGreatDoor
