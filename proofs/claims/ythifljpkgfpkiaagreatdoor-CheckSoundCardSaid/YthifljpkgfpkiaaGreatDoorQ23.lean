/-
  Schemas and requests that come in. The contracts of the reference's checks of ..
-/
import Derived.Test.YthifljpkgfpkiaaGreatDoorQ7
import Derived.Test.YthifljpkgfpkiaaGreatDoorQ22
set_option maxRecDepth 100000
set_option maxHeartbeats 4000000
namespace Go.Proofs.YthifljpkgfpkiaaGreatDoor
open Go.Wk Go.ChangeShapes Go.WideShapes Go.RowKit
structure Txs(w:World)(A:Option Addr)(n c:Nat)(N:List ByteArray):Prop where
 len:n=N.length
 cap:n<=c
 max:n<=maxLen
 at_:rK w A N
 ok:∀x∈N,x.size<=maxLen
theorem Txs.keep{w w':World}{A:Option Addr}{n c:Nat}{N:List ByteArray}(h:Txs w A n c N)(hb:Below w.heap.size w w'):Txs w' A n c N:=⟨h.len,h.cap,h.max,h.at_.keep hb,h.ok⟩
structure Kn where
 d:KD
 UA:Option Addr
 un:Nat
 uc:Nat
 NA:Option Addr
 nn:Nat
 nc:Nat
def Kn.cs(x:Kn):List Value := [.string x.d.nm,.slice x.UA x.un x.uc,.slice x.NA x.nn x.nc]
structure D2(w:World)(x:Kn):Prop where
 s:x.d.nm.size<=maxLen
 us:Txs w x.UA x.un x.uc x.d.up
 ns:Ns w x.NA x.nn x.nc x.d.P
theorem D2.keep{w w':World}{x:Kn}(h:D2 w x)(hb:Below w.heap.size w w'):D2 w' x:=⟨h.s,h.us.keep hb,h.ns.keep hb⟩
structure An where
 d:AD
 WA:Option Addr
 wn:Nat
 wc:Nat
 TA:Option Addr
 tn:Nat
 tc:Nat
 NA:Option Addr
 nn:Nat
 nc:Nat
def An.cs(x:An):List Value := [.string x.d.id,.slice x.WA x.wn x.wc,.slice x.TA x.tn x.tc,.slice x.NA x.nn x.nc]
def An.v(x:An):Value := .agg #[.string x.d.id,.slice x.WA x.wn x.wc,.slice x.TA x.tn x.tc,.slice x.NA x.nn x.nc]
structure BC(w:World)(x:An):Prop where
 s:x.d.id.size<=maxLen
 ws:Txs w x.WA x.wn x.wc x.d.who
 ts:Txs w x.TA x.tn x.tc x.d.what
 ns:Ns w x.NA x.nn x.nc x.d.P
theorem BC.keep{w w':World}{x:An}(h:BC w x)(hb:Below w.heap.size w w'):BC w' x:=⟨h.s,h.ws.keep hb,h.ts.keep hb,h.ns.keep hb⟩
structure Ks(w:World)(A:Option Addr)(n c:Nat)(K:List Kn):Prop where
 len:n=K.length
 cap:n<=c
 max:n<=maxLen
 at_:∀(k:Nat) (x:Kn),K[k]?=some x->∃a,A=some a/\w.cell? (a.add (k*3))=some (.string x.d.nm)/\w.cell? ⟨(a.add (k*3)).block,(a.add (k*3)).off+1,none⟩=some (.slice x.UA x.un x.uc)/\
  w.cell? ⟨(a.add (k*3)).block,(a.add (k*3)).off+2,none⟩=some (.slice x.NA x.nn x.nc)/\D2 w x
theorem Ks.keep{w w':World}{A:Option Addr}{n c:Nat}{K:List Kn}(h:Ks w A n c K)(hb:Below w.heap.size w w'):Ks w' A n c K :=
 ⟨h.len,h.cap,h.max,λk x hx=>let ⟨a,h1,h2,h3,h4,h5⟩:=h.at_ k x hx;⟨a,h1,zb hb h2,zb hb h3,zb hb h4,h5.keep hb⟩⟩
structure As(w:World)(A:Option Addr)(n c:Nat)(L:List An):Prop where
 len:n=L.length
 cap:n<=c
 max:n<=maxLen
 at_:∀(k:Nat) (x:An),L[k]?=some x->∃a,A=some a/\w.cell? (a.add (k*4))=some (.string x.d.id)/\w.cell? ⟨(a.add (k*4)).block,(a.add (k*4)).off+1,none⟩=some (.slice x.WA x.wn x.wc)/\
  w.cell? ⟨(a.add (k*4)).block,(a.add (k*4)).off+2,none⟩=some (.slice x.TA x.tn x.tc)/\w.cell? ⟨(a.add (k*4)).block,(a.add (k*4)).off+3,none⟩=some (.slice x.NA x.nn x.nc)/\BC w x
theorem As.keep{w w':World}{A:Option Addr}{n c:Nat}{L:List An}(h:As w A n c L)(hb:Below w.heap.size w w'):As w' A n c L :=
 ⟨h.len,h.cap,h.max,λk x hx=>let ⟨a,h1,h2,h3,h4,h5,h6⟩:=h.at_ k x hx;⟨a,h1,zb hb h2,zb hb h3,zb hb h4,zb hb h5,h6.keep hb⟩⟩
structure Sc where
 KA:Option Addr
 kn:Nat
 kc:Nat
 K:List Kn
 AA:Option Addr
 an:Nat
 ac:Nat
 L:List An
def Sc.v(s:Sc):Value := .agg #[.slice s.KA s.kn s.kc,.slice s.AA s.an s.ac]
def Sc.k(s:Sc):List KD:=s.K.map Kn.d
def Sc.a(s:Sc):List AD:=s.L.map An.d
structure lK(w:World)(s:Sc):Prop where
 k:Ks w s.KA s.kn s.kc s.K
 a:As w s.AA s.an s.ac s.L
theorem lK.keep{w w':World}{s:Sc}(h:lK w s)(hb:Below w.heap.size w w'):lK w' s:=⟨h.k.keep hb,h.a.keep hb⟩
structure Rq where
 who:Ud
 act:Ud
 what:Ud
 NA:Option Addr
 nn:Nat
 nc:Nat
 P:List Nd
def Rq.v(q:Rq):Value := .agg #[.string q.who.1,.string q.who.2,.string q.act.1,.string q.act.2,.string q.what.1,.string q.what.2,.slice q.NA q.nn q.nc]
structure tr(w:World)(q:Rq):Prop where
 w1:q.who.1.size<=maxLen
 w2:q.who.2.size<=maxLen
 a1:q.act.1.size<=maxLen
 a2:q.act.2.size<=maxLen
 t1:q.what.1.size<=maxLen
 t2:q.what.2.size<=maxLen
 ns:Ns w q.NA q.nn q.nc q.P
theorem tr.keep{w w':World}{q:Rq}(h:tr w q)(hb:Below w.heap.size w w'):tr w' q:=⟨h.w1,h.w2,h.a1,h.a2,h.t1,h.t2,h.ns.keep hb⟩
theorem uY:Tryz.prog.cellsOf 58=3:=by kernel_rfl
theorem xj:Tryz.prog.cellsOf 49=4:=by kernel_rfl
theorem nY:Tryz.prog.cellsOf 45=1:=by kernel_rfl
theorem E8:Tryz.prog.cellsOf 22=1:=by kernel_rfl
theorem Hw:Tryz.prog.cellsOf 23=1:=by kernel_rfl
theorem AM:Tryz.prog.cellsOf 25=2:=by kernel_rfl
theorem wY:Tryz.prog.cellsOf 31=7:=by kernel_rfl
theorem Hu{w:World}{cs:List Value}(h:Rd Tryz.prog w 45 cs):∃(A:Option Addr) (n c:Nat) (N:List ByteArray),cs = [.slice A n c]/\Txs w A n c N:=by
 obtain⟨A,n,c,rfl,h1,h2,h3⟩:=il Tryz.underlying45 h;rw [bf] at h3;obtain⟨N,hl,hr⟩:=mF n (λk (x:ByteArray)=>(∃a,A=some a/\w.cell? (a.add k)=some (.string x))/\x.size<=maxLen) (λi hi=>by
  obtain⟨a,rfl,cs',hl,hc,hr⟩:=h3 i hi
  obtain⟨x,rfl,q1⟩:=eA Tryz.underlying9 hr
  have:=hc 0 (by omega)
  exact⟨x,⟨a,rfl,by simpa using this⟩,q1⟩)
 refine⟨A,n,c,N,rfl,hl.symm,h1,by omega,λk x hk=>(hr k x hk).1,λx hx=>?_⟩;obtain⟨k,hk,rfl⟩:=List.getElem_of_mem hx;exact(hr k _ (List.getElem?_eq_getElem hk)).2
theorem TV{w:World}{cs:List Value}(h:Rd Tryz.prog w 58 cs):∃x:Kn,cs=x.cs/\D2 w x:=by
 have hl:=(dt Tryz.underlying58 h).1;rw [uY] at hl
 match cs,hl with
 | [c0,c1,c2],_ =>
  have h0:Rd Tryz.prog w 9 [c0]:=jH Tryz.underlying58 h 0 9 0 1 rfl bf
  have h2:Rd Tryz.prog w 45 [c1]:=jH Tryz.underlying58 h 1 45 1 1 rfl nY
  have h3:Rd Tryz.prog w 29 [c2]:=jH Tryz.underlying58 h 2 29 2 1 rfl fw
  obtain⟨s,e0,s1⟩:=eA Tryz.underlying9 h0
  obtain⟨UA,un,uc,up,e2,hu⟩:=Hu h2
  obtain⟨NA,nn,nc,P,e3,n1,n2,n3,n4,n5⟩:=lq h3
  simp only [List.cons.injEq,and_true] at e0 e2 e3
  exact⟨⟨⟨s,up,P⟩,UA,un,uc,NA,nn,nc⟩,by rw [e0,e2,e3];rfl,s1,hu,n1,n2,n3,n4,n5⟩
theorem Vl{w:World}{cs:List Value}(h:Rd Tryz.prog w 49 cs):∃x:An,cs=x.cs/\BC w x:=by
 have hl:=(dt Tryz.underlying49 h).1;rw [xj] at hl
 match cs,hl with
 | [c0,c1,c2,c3],_ =>
  have h0:Rd Tryz.prog w 9 [c0]:=jH Tryz.underlying49 h 0 9 0 1 rfl bf
  have h1:Rd Tryz.prog w 45 [c1]:=jH Tryz.underlying49 h 1 45 1 1 rfl nY
  have h2:Rd Tryz.prog w 45 [c2]:=jH Tryz.underlying49 h 2 45 2 1 rfl nY
  have h3:Rd Tryz.prog w 29 [c3]:=jH Tryz.underlying49 h 3 29 3 1 rfl fw
  obtain⟨s,e0,s1⟩:=eA Tryz.underlying9 h0
  obtain⟨WA,wn,wc,who,e1,hw⟩:=Hu h1
  obtain⟨TA,tn,tc,what,e2,ht⟩:=Hu h2
  obtain⟨NA,nn,nc,P,e3,n1,n2,n3,n4,n5⟩:=lq h3
  simp only [List.cons.injEq,and_true] at e0 e1 e2 e3
  exact⟨⟨⟨s,who,what,P⟩,WA,wn,wc,TA,tn,tc,NA,nn,nc⟩,by rw [e0,e1,e2,e3];rfl,s1,hw,ht,n1,n2,n3,n4,n5⟩
theorem Ol{w:World}{cs:List Value}(h:Rd Tryz.prog w 22 cs):∃(A:Option Addr) (n c:Nat) (K:List Kn),cs = [.slice A n c]/\Ks w A n c K:=by
 obtain⟨A,n,c,rfl,h1,h2,h3⟩:=il Tryz.underlying22 h;rw [uY] at h3;obtain⟨K,hl,hr⟩:=mF n (λk (x:Kn)=>(∃a,A=some a/\w.cell? (a.add (k*3))=some (.string x.d.nm)/\w.cell? (a.add (k*3+1))=some (.slice x.UA x.un x.uc)/\w.cell? (a.add (k*3+2))=some (.slice x.NA x.nn x.nc))/\D2 w x) (λi hi=>by
  obtain⟨a,rfl,cs',hl,hc,hr⟩:=h3 i hi
  obtain⟨x,rfl,hx⟩:=TV hr
  exact⟨x,⟨a,rfl,hc 0 (by omega),hc 1 (by omega),hc 2 (by omega)⟩,hx⟩)
 refine⟨A,n,c,K,rfl,hl.symm,h1,by omega,λk x hx=>?_⟩;obtain⟨⟨a,e,q1,q2,q3⟩,hx⟩:=hr k x hx;refine⟨a,e,q1,?_,?_,hx⟩
 all_goals
  rw [<-add_add] at q2 q3;unfold Addr.add at q2 q3 ⊢
  first|(simpa using q2)|(simpa using q3)
theorem SG{w:World}{cs:List Value}(h:Rd Tryz.prog w 23 cs):∃(A:Option Addr) (n c:Nat) (L:List An),cs = [.slice A n c]/\As w A n c L:=by
 obtain⟨A,n,c,rfl,h1,h2,h3⟩:=il Tryz.underlying23 h;rw [xj] at h3;obtain⟨K,hl,hr⟩:=mF n (λk (x:An)=>(∃a,A=some a/\w.cell? (a.add (k*4))=some (.string x.d.id)/\w.cell? (a.add (k*4+1))=some (.slice x.WA x.wn x.wc)/\w.cell? (a.add (k*4+2))=some (.slice x.TA x.tn x.tc)/\w.cell? (a.add (k*4+3))=some (.slice x.NA x.nn x.nc))/\BC w x) (λi hi=>by
  obtain⟨a,rfl,cs',hl,hc,hr⟩:=h3 i hi
  obtain⟨x,rfl,hx⟩:=Vl hr
  exact⟨x,⟨a,rfl,hc 0 (by omega),hc 1 (by omega),hc 2 (by omega),hc 3 (by omega)⟩,hx⟩)
 refine⟨A,n,c,K,rfl,hl.symm,h1,by omega,λk x hx=>?_⟩;obtain⟨⟨a,e,q1,q2,q3,q4⟩,hx⟩:=hr k x hx;refine⟨a,e,q1,?_,?_,?_,hx⟩
 all_goals
  rw [<-add_add] at q2 q3 q4;unfold Addr.add at q2 q3 q4 ⊢
  first|(simpa using q2)|(simpa using q3)|(simpa using q4)
theorem Ef{H:Type}{enc:TypeId × Value->H}{w:World}{b b0:Nat}{sp:Nat->Bool}{hd:Bool}{v:Value}{d:DataW H}{ps:List MemPlace}{r:Reach}
 (hv:Value.okWide Tryz.prog w r b0 25 v) (h:DataW.Trod enc Tryz.prog w b sp hd 25 v d ps):∃x:Sc,v=x.v/\lK w x:=by
 obtain⟨cs,rfl,_⟩:=okWide_struct Tryz.underlying25 hv;have hr:=kC h;have hl:=(dt Tryz.underlying25 hr).1;rw [AM] at hl;obtain⟨l⟩:=cs;simp only [Value.cells] at hl hr
 match l,hl with
 | [c0,c1],_ =>
  have h0:Rd Tryz.prog w 22 [c0]:=jH Tryz.underlying25 hr 0 22 0 1 rfl E8
  have h1:Rd Tryz.prog w 23 [c1]:=jH Tryz.underlying25 hr 1 23 1 1 rfl Hw
  obtain⟨KA,kn,kc,K,e0,hk⟩:=Ol h0
  obtain⟨AA,an,ac,L,e1,ha⟩:=SG h1
  simp only [List.cons.injEq,and_true] at e0 e1
  exact⟨⟨KA,kn,kc,K,AA,an,ac,L⟩,by rw [e0,e1];rfl,hk,ha⟩
theorem yG{H:Type}{enc:TypeId × Value->H}{w:World}{b b0:Nat}{sp:Nat->Bool}{hd:Bool}{v:Value}{d:DataW H}{ps:List MemPlace}{r:Reach}
 (hv:Value.okWide Tryz.prog w r b0 31 v) (h:DataW.Trod enc Tryz.prog w b sp hd 31 v d ps):∃x:Rq,v=x.v/\tr w x:=by
 obtain⟨cs,rfl,_⟩:=okWide_struct Tryz.underlying31 hv;have hr:=kC h;have hl:=(dt Tryz.underlying31 hr).1;rw [wY] at hl;obtain⟨l⟩:=cs;simp only [Value.cells] at hl hr
 match l,hl with
 | [c0,c1,c2,c3,c4,c5,c6],_ =>
  have h0:Rd Tryz.prog w 28 [c0,c1]:=jH Tryz.underlying31 hr 0 28 0 2 rfl dy
  have h1:Rd Tryz.prog w 28 [c2,c3]:=jH Tryz.underlying31 hr 1 28 2 2 rfl dy
  have h2:Rd Tryz.prog w 28 [c4,c5]:=jH Tryz.underlying31 hr 2 28 4 2 rfl dy
  have h3:Rd Tryz.prog w 29 [c6]:=jH Tryz.underlying31 hr 3 29 6 1 rfl fw
  obtain⟨s1,t1,e0,p1,p2⟩:=ub h0
  obtain⟨s2,t2,e1,p3,p4⟩:=ub h1
  obtain⟨s3,t3,e2,p5,p6⟩:=ub h2
  obtain⟨NA,nn,nc,P,e3,n1,n2,n3,n4,n5⟩:=lq h3
  simp only [List.cons.injEq,and_true] at e0 e1 e2 e3
  exact⟨⟨(s1,t1),(s2,t2),(s3,t3),NA,nn,nc,P⟩,by rw [e0.1,e0.2,e1.1,e1.2,e2.1,e2.2,e3];rfl,p1,p2,p3,p4,p5,p6,n1,n2,n3,n4,n5⟩
end Go.Proofs.YthifljpkgfpkiaaGreatDoor
namespace Go.Proofs.YthifljpkgfpkiaaGreatDoor
open Go.RowKit Go.Wk
end Go.Proofs.YthifljpkgfpkiaaGreatDoor
namespace Go.Proofs.YthifljpkgfpkiaaGreatDoor
open Go.RowKit Go.Wk Go.Sort
section
variable (a:Addr) (n c q:Nat) (xo xn:Int) (xs xt:ByteArray) (w:World) (hm:n<=maxLen) (hq:q<n) (d0:w.cell? (a.add (q*4))=some (.int .i64 xo)) (d1:w.cell? ⟨(a.add (q*4)).block,(a.add (q*4)).off+1,none⟩=some (.int .i64 xn)) (d2:w.cell? ⟨(a.add (q*4)).block,(a.add (q*4)).off+2,none⟩=some (.string xs)) (d3:w.cell? ⟨(a.add (q*4)).block,(a.add (q*4)).off+3,none⟩=some (.string xt))
include hm hq d0 d1 d2 d3
end
def uK(w:World)(a:Addr)(u:List Value):Prop:=∀(j:Nat) (x:Value),u[j]?=some x->w.cell? (a.add j)=some x
mutual
def KAt(w:World)(B:Nat->Prop):Kd->List Value->Prop
 | .base x,v=>∃n:Int,v = [.int .i64 x,.int .i64 n,.string emp,.string emp,.pointer none,.slice none 0 0]
 | .ent s,v=>∃n:Int,v = [.int .i64 44,.int .i64 n,.string s,.string emp,.pointer none,.slice none 0 0]
 | .set q,v=>∃(n:Int) (b:Nat) (u:List Value),v = [.int .i64 45,.int .i64 n,.string emp,.string emp,.pointer (some ⟨b,0,none⟩),.slice none 0 0]/\B b/\uK w ⟨b,0,none⟩ u/\KAt w B q u
 | .fs f,v=>∃(n:Int) (A:Option Addr) (c:Nat),v = [.int .i64 46,.int .i64 n,.string emp,.string emp,.pointer none,.slice A f.len c]/\f.len<=c/\c<=maxLen/\FAt w B A 0 f
def FAt(w:World)(B:Nat->Prop):Option Addr->Nat->Fl->Prop
 | _,_,.nil=>True
 | A,i,.cons s m k r=>(∃(a:Addr) (u:List Value),A=some a/\B a.block/\uK w (a.add (i*8)) (.string s :: .bool m :: u)/\KAt w B k u)/\FAt w B A (i+1) r
end
theorem uK.cong{w w':World}{a:Addr}{u:List Value}(h:uK w a u)(hb:w'.heap[a.block]?=w.heap[a.block]?):uK w' a u:=λj x hx=>by
 have:=h j x hx;rw [<-this];exact World.cell?_of_block (by rw [ax];exact hb)
theorem vG{w w':World}{B:Nat->Prop}(hB:∀b,B b->w'.heap[b]?=w.heap[b]?):∀(n:Nat),(∀k v,k.sz<=n->KAt w B k v->KAt w' B k v)/\(∀f A i,f.sz<=n->FAt w B A i f->FAt w' B A i f)
 | 0=>by
  refine⟨λk v h=>by cases k <;> simp [Kd.sz] at h,λf A i h hf=>?_⟩
  cases f with
  | nil=>trivial
  | cons s m k r=>simp [Fl.sz] at h
 | n+1=>by
  obtain⟨ihK,ihF⟩:=vG hB n;refine⟨λk v h hk=>?_,λf A i h hf=>?_⟩
  ·cases k with
   | base x=>exact hk
   | ent s=>exact hk
   | set q =>
    simp only [Kd.sz] at h
    obtain⟨m,b,u,e,h1,h2,h3⟩:=hk
    exact⟨m,b,u,e,h1,h2.cong (hB b h1),ihK q u (by omega) h3⟩
   | fs f =>
    simp only [Kd.sz] at h
    obtain⟨m,A,c,e,h1,h2,h3⟩:=hk
    exact⟨m,A,c,e,h1,h2,ihF f A 0 (by omega) h3⟩
  ·cases f with
   | nil=>trivial
   | cons s m k r =>
    simp only [Fl.sz] at h
    obtain⟨⟨a,u,e,h1,h2,h3⟩,h4⟩:=hf
    exact⟨⟨a,u,e,h1,h2.cong (by rw [ax];exact hB _ h1),ihK k u (by omega) h3⟩,ihF r A (i+1) (by omega) h4⟩
theorem cX{w:World}{B B':Nat->Prop}(hB:∀b,B b->b<w.heap.size->B' b):∀(n:Nat),(∀k v,k.sz<=n->KAt w B k v->KAt w B' k v)/\(∀f A i,f.sz<=n->FAt w B A i f->FAt w B' A i f)
 | 0=>by
  refine⟨λk v h=>by cases k <;> simp [Kd.sz] at h,λf A i h hf=>?_⟩
  cases f with
  | nil=>trivial
  | cons s m k r=>simp [Fl.sz] at h
 | n+1=>by
  obtain⟨ihK,ihF⟩:=cX hB n;refine⟨λk v h hk=>?_,λf A i h hf=>?_⟩
  ·cases k with
   | base x=>exact hk
   | ent s=>exact hk
   | set q =>
    simp only [Kd.sz] at h
    obtain⟨m,b,u,e,h1,h2,h3⟩:=hk
    have hlt:b<w.heap.size:=by
     have hu:∃x,u[0]?=some x:=by
      cases q with
      | base x=>obtain⟨_,rfl⟩:=h3;exact⟨_,rfl⟩
      | ent s=>obtain⟨_,rfl⟩:=h3;exact⟨_,rfl⟩
      | set q=>obtain⟨_,_,_,rfl,_⟩:=h3;exact⟨_,rfl⟩
      | fs f=>obtain⟨_,_,_,rfl,_⟩:=h3;exact⟨_,rfl⟩
     obtain⟨x,hx⟩:=hu;exact block_lt_of_cell (h2 0 x hx)
    exact⟨m,b,u,e,hB b h1 hlt,h2,ihK q u (by omega) h3⟩
   | fs f =>
    simp only [Kd.sz] at h
    obtain⟨m,A,c,e,h1,h2,h3⟩:=hk
    exact⟨m,A,c,e,h1,h2,ihF f A 0 (by omega) h3⟩
  ·cases f with
   | nil=>trivial
   | cons s m k r =>
    simp only [Fl.sz] at h
    obtain⟨⟨a,u,e,h1,h2,h3⟩,h4⟩:=hf
    have hlt:a.block<w.heap.size:=by
     have:=block_lt_of_cell (h2 0 _ rfl);rwa [ax,ax] at this
    exact⟨⟨a,u,e,hB _ h1 hlt,h2,ihK k u (by omega) h3⟩,ihF r A (i+1) (by omega) h4⟩
theorem KAt.cong{w w':World}{B:Nat->Prop}{k:Kd}{v:List Value}(h:KAt w B k v)(hB:∀b,B b->w'.heap[b]?=w.heap[b]?):KAt w' B k v:=(vG hB _).1 k v (Nat.le_refl _) h
theorem KAt.mono{w:World}{B B':Nat->Prop}{k:Kd}{v:List Value}(h:KAt w B k v)(hB:∀b,B b->b<w.heap.size->B' b):KAt w B' k v:=(cX hB _).1 k v (Nat.le_refl _) h
theorem FAt.cong{w w':World}{B:Nat->Prop}{A:Option Addr}{i:Nat}{f:Fl}(h:FAt w B A i f)(hB:∀b,B b->w'.heap[b]?=w.heap[b]?):FAt w' B A i f:=(vG hB _).2 f A i (Nat.le_refl _) h
theorem FAt.mono{w:World}{B B':Nat->Prop}{A:Option Addr}{i:Nat}{f:Fl}(h:FAt w B A i f)(hB:∀b,B b->b<w.heap.size->B' b):FAt w B' A i f:=(cX hB _).2 f A i (Nat.le_refl _) h
structure RdK(w:World)(R:Nat)(Q:List Nd):Prop where
 c0:∃(A:Option Addr) (n c:Nat),w.cell? ⟨R,0,none⟩=some (.slice A n c)/\Ns w A n c Q/\(0<Q.length->∀a,A=some a->a.block<R)
 f0:w.frozen? ⟨R,0,none⟩=false
theorem RdK.keep{w w':World}{R:Nat}{Q:List Nd}(h:RdK w R Q)(hb:Below w.heap.size w w'):RdK w' R Q:=by
 obtain⟨⟨A,n,c,h1,h2,h3⟩,h4⟩:=h;exact⟨⟨A,n,c,zb hb h1,h2.keep hb,h3⟩,(hb.frozen (p:=⟨R,0,none⟩) (block_lt_of_cell h1)).trans h4⟩
abbrev tY:List PanicEntry := [{ v := .iface 131 (.agg #[]),recovered:=false }]
def OH(w:World)(R:Nat):List Nd->Ending->World->Prop
 | [],e,w'=>e = .panicked tY/\w.grownBy w' (some R)
 | x :: r,e,w'=>e = .returned (ndV x)/\RdK w' R r/\w.grownBy w' (some R)
theorem yL{w:World}{a:Addr}{n c:Nat}{x:Nd}{r:List Nd}(h:Ns w (some a) n c (x :: r)):Ns w (some (a.add 4)) (n-1) (c-1) r:=by
 have hl:=h.len;have hc:=h.cap;have hm:=h.max;rw [List.length_cons] at hl;refine⟨by omega,by omega,by omega,λk y hy=>?_,λy hy=>h.ok y (by simp [hy])⟩;obtain⟨b,e,q0,q1,q2,q3⟩:=h.at_ (k+1) y (by simpa using hy);injection e with e;subst e;refine⟨_,rfl,?_⟩;rw [add_add,show 4+k*4=(k+1)*4 by omega];exact⟨q0,q1,q2,q3⟩
theorem dY(R:Nat)(Q:List Nd)(w:World)(h:RdK w R Q):
 Calls Tryz.prog 110 #[.pointer (some ⟨R,0,none⟩)] w (OH w R Q):=by
 obtain⟨⟨A,n,c,e0,Uh,hap⟩,g0⟩:=h;have hlt:R<w.heap.size:=block_lt_of_cell e0;have hb:=za w (.cells #[.int .i64 0,.int .i64 0,.string ⟨#[]⟩,.string ⟨#[]⟩] 47);have c0:=zb hb e0;have f0:=(hb.frozen (p:=⟨R,0,none⟩) hlt).trans g0;have df:=Uh.keep hb;have hne:R≠w.heap.size:=by omega
 have hne2:w.heap.size≠R:=by omega
 clear hb
 cases Q with
 | nil =>
  have hn:n=0:=df.len
  subst hn
  clear df Uh hap
  go_enter Tryz.func110,Tryz.ntmps110
  go_wp2_with fail
  exact⟨rfl,rfl,zc (za w _) _⟩
 | cons x r =>
  have HN:=O df.len
  have hc:=df.cap
  have hm:=df.max
  unfold maxLen at hm
  have hn1:1<=n:=by rw [df.len,List.length_cons];omega
  obtain⟨a,rfl,q0,q1,q2,q3⟩:=df.at_ 0 x rfl
  rw [show a.add (0*4)=a from rfl] at q0 q1 q2 q3
  have HNS0:=O Uh
  have ME:=O (hap (by simp) a rfl)
  have HAP:=O (Nat.ne_of_lt ME.o)
  clear df Uh hap
  go_enter Tryz.func110,Tryz.ntmps110
  go_wp2_with fail
  all_goals
   rename_i h1;have hg:∀v o1 o2,w.grownBy (((w.setCell ⟨R,0,none⟩ v).alloc o1).alloc o2) (some R):=λv o1 o2=>lC (lC (zl w ⟨R,0,none⟩ v) o1) o2;have hc0:∀v o1 o2,(((w.setCell ⟨R,0,none⟩ v).alloc o1).alloc o2).cell? ⟨R,0,none⟩=some v:=λv o1 o2=>zb (za _ _) (zb (za _ _) (World.cell?_setCell_same _ _ _ e0));have Zr:∀v o1 o2,(((w.setCell ⟨R,0,none⟩ v).alloc o1).alloc o2).frozen? ⟨R,0,none⟩=false:=λv o1 o2=>by
    rw [((za _ _).frozen (p:=⟨R,0,none⟩) (by simp [World.setCell];omega)),((za _ _).frozen (p:=⟨R,0,none⟩) (by simp [World.setCell];omega)),World.frozen?_setCell];exact g0
  ·have hr0:r = []:=List.eq_nil_of_length_eq_zero (by have:=HN.o;rw [List.length_cons] at this;omega)
   subst hr0;refine bodyPost_ret (v:=ndV x) (by simp [results,Tryz.results110,go_sem,ndV]) rfl ⟨rfl,⟨⟨_,_,_,hc0 _ _ _,⟨by have:=HN.o;simp at this;simp;omega,by omega,by unfold maxLen;omega,(λk x hx=>by simp at hx),(λx hx=>nomatch hx)⟩,λh=>absurd h (by simp)⟩,Zr _ _ _⟩,hg _ _ _⟩
  ·refine bodyPost_ret (v:=ndV x) (by simp [results,Tryz.results110,go_sem,ndV]) rfl ⟨rfl,⟨⟨_,_,_,hc0 _ _ _,by simpa [Addr.add] using(yL HNS0.o).but (hg _ _ _) (λ_ b e=>by injection e with e;subst e;exact HAP.o),λ_ b e=>by injection e with e;subst e;exact ME.o⟩,Zr _ _ _⟩,hg _ _ _⟩
theorem jo(w:World)(cs:Array Value)(t:TypeId)(j:Nat){v:Value}(h:cs[j]?=some v):(w.alloc (.cells cs t)).cell? ⟨w.heap.size,j,none⟩=some v:=by
 rw [World.cell?_alloc_at _ _ _ _ rfl];exact h
structure Bx4(w:World)(b:Nat)(x0 x1 x2 x3:Value):Prop where
 c0:w.cell? ⟨b,0,none⟩=some x0
 c1:w.cell? ⟨b,1,none⟩=some x1
 c2:w.cell? ⟨b,2,none⟩=some x2
 c3:w.cell? ⟨b,3,none⟩=some x3
 z0:w.frozen? ⟨b,0,none⟩=false
 z1:w.frozen? ⟨b,1,none⟩=false
 z2:w.frozen? ⟨b,2,none⟩=false
 z3:w.frozen? ⟨b,3,none⟩=false
theorem fq(w:World)(x0 x1 x2 x3:Value)(t:TypeId):Bx4 (w.alloc (.cells #[x0,x1,x2,x3] t)) w.heap.size x0 x1 x2 x3 :=
 ⟨jo w _ _ _ rfl,jo w _ _ _ rfl,jo w _ _ _ rfl,jo w _ _ _ rfl,by simp,by simp,by simp,by simp⟩
theorem Bx4.keep{w w':World}{b:Nat}{x0 x1 x2 x3:Value}(h:Bx4 w b x0 x1 x2 x3)(hb:Below w.heap.size w w'):Bx4 w' b x0 x1 x2 x3 :=
 have hl:=block_lt_of_cell h.c0
 ⟨zb hb h.c0,zb hb h.c1,zb hb h.c2,zb hb h.c3,by rw [(bv hb).2 b 0 hl];exact h.z0,by rw [(bv hb).2 b 1 hl];exact h.z1,by rw [(bv hb).2 b 2 hl];exact h.z2,by rw [(bv hb).2 b 3 hl];exact h.z3⟩
theorem Bx4.but{w w':World}{b:Nat}{x0 x1 x2 x3:Value}{g:Option Nat}(h:Bx4 w b x0 x1 x2 x3)(hg:w.grownBy w' g)(hn:some b≠g):Bx4 w' b x0 x1 x2 x3 :=
 have hb:=hg.block b (block_lt_of_cell h.c0) hn
 ⟨(World.cell?_of_block (a:=⟨b,0,none⟩) hb).trans h.c0,(World.cell?_of_block (a:=⟨b,1,none⟩) hb).trans h.c1,(World.cell?_of_block (a:=⟨b,2,none⟩) hb).trans h.c2,(World.cell?_of_block (a:=⟨b,3,none⟩) hb).trans h.c3,(World.frozen?_of_block (a:=⟨b,0,none⟩) hb).trans h.z0,(World.frozen?_of_block (a:=⟨b,1,none⟩) hb).trans h.z1,(World.frozen?_of_block (a:=⟨b,2,none⟩) hb).trans h.z2,(World.frozen?_of_block (a:=⟨b,3,none⟩) hb).trans h.z3⟩
structure Bx6(w:World)(b:Nat)(x0 x1 x2 x3 x4 x5:Value):Prop where
 c0:w.cell? ⟨b,0,none⟩=some x0
 c1:w.cell? ⟨b,1,none⟩=some x1
 c2:w.cell? ⟨b,2,none⟩=some x2
 c3:w.cell? ⟨b,3,none⟩=some x3
 c4:w.cell? ⟨b,4,none⟩=some x4
 c5:w.cell? ⟨b,5,none⟩=some x5
 z0:w.frozen? ⟨b,0,none⟩=false
 z1:w.frozen? ⟨b,1,none⟩=false
 z2:w.frozen? ⟨b,2,none⟩=false
 z3:w.frozen? ⟨b,3,none⟩=false
 z4:w.frozen? ⟨b,4,none⟩=false
 z5:w.frozen? ⟨b,5,none⟩=false
theorem jf(w:World)(x0 x1 x2 x3 x4 x5:Value)(t:TypeId):Bx6 (w.alloc (.cells #[x0,x1,x2,x3,x4,x5] t)) w.heap.size x0 x1 x2 x3 x4 x5 :=
 ⟨jo w _ _ _ rfl,jo w _ _ _ rfl,jo w _ _ _ rfl,jo w _ _ _ rfl,jo w _ _ _ rfl,jo w _ _ _ rfl,by simp,by simp,by simp,by simp,by simp,by simp⟩
theorem Bx6.keep{w w':World}{b:Nat}{x0 x1 x2 x3 x4 x5:Value}(h:Bx6 w b x0 x1 x2 x3 x4 x5)(hb:Below w.heap.size w w'):Bx6 w' b x0 x1 x2 x3 x4 x5 :=
 have hl:=block_lt_of_cell h.c0
 ⟨zb hb h.c0,zb hb h.c1,zb hb h.c2,zb hb h.c3,zb hb h.c4,zb hb h.c5,by rw [(bv hb).2 b 0 hl];exact h.z0,by rw [(bv hb).2 b 1 hl];exact h.z1,by rw [(bv hb).2 b 2 hl];exact h.z2,by rw [(bv hb).2 b 3 hl];exact h.z3,by rw [(bv hb).2 b 4 hl];exact h.z4,by rw [(bv hb).2 b 5 hl];exact h.z5⟩
theorem Bx6.but{w w':World}{b:Nat}{x0 x1 x2 x3 x4 x5:Value}{g:Option Nat}(h:Bx6 w b x0 x1 x2 x3 x4 x5)(hg:w.grownBy w' g)(hn:some b≠g):Bx6 w' b x0 x1 x2 x3 x4 x5 :=
 have hb:=hg.block b (block_lt_of_cell h.c0) hn
 ⟨(World.cell?_of_block (a:=⟨b,0,none⟩) hb).trans h.c0,(World.cell?_of_block (a:=⟨b,1,none⟩) hb).trans h.c1,(World.cell?_of_block (a:=⟨b,2,none⟩) hb).trans h.c2,(World.cell?_of_block (a:=⟨b,3,none⟩) hb).trans h.c3,(World.cell?_of_block (a:=⟨b,4,none⟩) hb).trans h.c4,(World.cell?_of_block (a:=⟨b,5,none⟩) hb).trans h.c5,(World.frozen?_of_block (a:=⟨b,0,none⟩) hb).trans h.z0,(World.frozen?_of_block (a:=⟨b,1,none⟩) hb).trans h.z1,(World.frozen?_of_block (a:=⟨b,2,none⟩) hb).trans h.z2,(World.frozen?_of_block (a:=⟨b,3,none⟩) hb).trans h.z3,(World.frozen?_of_block (a:=⟨b,4,none⟩) hb).trans h.z4,(World.frozen?_of_block (a:=⟨b,5,none⟩) hb).trans h.z5⟩
structure Bx8(w:World)(b:Nat)(x0 x1 x2 x3 x4 x5 x6 x7:Value):Prop where
 c0:w.cell? ⟨b,0,none⟩=some x0
 c1:w.cell? ⟨b,1,none⟩=some x1
 c2:w.cell? ⟨b,2,none⟩=some x2
 c3:w.cell? ⟨b,3,none⟩=some x3
 c4:w.cell? ⟨b,4,none⟩=some x4
 c5:w.cell? ⟨b,5,none⟩=some x5
 c6:w.cell? ⟨b,6,none⟩=some x6
 c7:w.cell? ⟨b,7,none⟩=some x7
 z0:w.frozen? ⟨b,0,none⟩=false
 z1:w.frozen? ⟨b,1,none⟩=false
 z2:w.frozen? ⟨b,2,none⟩=false
 z3:w.frozen? ⟨b,3,none⟩=false
 z4:w.frozen? ⟨b,4,none⟩=false
 z5:w.frozen? ⟨b,5,none⟩=false
 z6:w.frozen? ⟨b,6,none⟩=false
 z7:w.frozen? ⟨b,7,none⟩=false
theorem ft(w:World)(x0 x1 x2 x3 x4 x5 x6 x7:Value)(t:TypeId):Bx8 (w.alloc (.cells #[x0,x1,x2,x3,x4,x5,x6,x7] t)) w.heap.size x0 x1 x2 x3 x4 x5 x6 x7 :=
 ⟨jo w _ _ _ rfl,jo w _ _ _ rfl,jo w _ _ _ rfl,jo w _ _ _ rfl,jo w _ _ _ rfl,jo w _ _ _ rfl,jo w _ _ _ rfl,jo w _ _ _ rfl,by simp,by simp,by simp,by simp,by simp,by simp,by simp,by simp⟩
theorem Bx8.keep{w w':World}{b:Nat}{x0 x1 x2 x3 x4 x5 x6 x7:Value}(h:Bx8 w b x0 x1 x2 x3 x4 x5 x6 x7)(hb:Below w.heap.size w w'):Bx8 w' b x0 x1 x2 x3 x4 x5 x6 x7 :=
 have hl:=block_lt_of_cell h.c0
 ⟨zb hb h.c0,zb hb h.c1,zb hb h.c2,zb hb h.c3,zb hb h.c4,zb hb h.c5,zb hb h.c6,zb hb h.c7,by rw [(bv hb).2 b 0 hl];exact h.z0,by rw [(bv hb).2 b 1 hl];exact h.z1,by rw [(bv hb).2 b 2 hl];exact h.z2,by rw [(bv hb).2 b 3 hl];exact h.z3,by rw [(bv hb).2 b 4 hl];exact h.z4,by rw [(bv hb).2 b 5 hl];exact h.z5,by rw [(bv hb).2 b 6 hl];exact h.z6,by rw [(bv hb).2 b 7 hl];exact h.z7⟩
theorem Bx8.but{w w':World}{b:Nat}{x0 x1 x2 x3 x4 x5 x6 x7:Value}{g:Option Nat}(h:Bx8 w b x0 x1 x2 x3 x4 x5 x6 x7)(hg:w.grownBy w' g)(hn:some b≠g):Bx8 w' b x0 x1 x2 x3 x4 x5 x6 x7 :=
 have hb:=hg.block b (block_lt_of_cell h.c0) hn
 ⟨(World.cell?_of_block (a:=⟨b,0,none⟩) hb).trans h.c0,(World.cell?_of_block (a:=⟨b,1,none⟩) hb).trans h.c1,(World.cell?_of_block (a:=⟨b,2,none⟩) hb).trans h.c2,(World.cell?_of_block (a:=⟨b,3,none⟩) hb).trans h.c3,(World.cell?_of_block (a:=⟨b,4,none⟩) hb).trans h.c4,(World.cell?_of_block (a:=⟨b,5,none⟩) hb).trans h.c5,(World.cell?_of_block (a:=⟨b,6,none⟩) hb).trans h.c6,(World.cell?_of_block (a:=⟨b,7,none⟩) hb).trans h.c7,(World.frozen?_of_block (a:=⟨b,0,none⟩) hb).trans h.z0,(World.frozen?_of_block (a:=⟨b,1,none⟩) hb).trans h.z1,(World.frozen?_of_block (a:=⟨b,2,none⟩) hb).trans h.z2,(World.frozen?_of_block (a:=⟨b,3,none⟩) hb).trans h.z3,(World.frozen?_of_block (a:=⟨b,4,none⟩) hb).trans h.z4,(World.frozen?_of_block (a:=⟨b,5,none⟩) hb).trans h.z5,(World.frozen?_of_block (a:=⟨b,6,none⟩) hb).trans h.z6,(World.frozen?_of_block (a:=⟨b,7,none⟩) hb).trans h.z7⟩
theorem Bx4.set{w:World}{b:Nat}{x0 x1 x2 x3:Value}(h:Bx4 w b x0 x1 x2 x3)(y0 y1 y2 y3:Value):Bx4 ((((w.setCell ⟨b,0,none⟩ y0).setCell ⟨b,1,none⟩ y1).setCell ⟨b,2,none⟩ y2).setCell ⟨b,3,none⟩ y3) b y0 y1 y2 y3:=by
 obtain⟨c0,c1,c2,c3,z0,z1,z2,z3⟩:=h;refine⟨?_,?_,?_,?_,?_,?_,?_,?_⟩
 all_goals go_simp
theorem Bx6.set{w:World}{b:Nat}{x0 x1 x2 x3 x4 x5:Value}(h:Bx6 w b x0 x1 x2 x3 x4 x5)(y0 y1 y2 y3 y4 y5:Value):Bx6 ((((((w.setCell ⟨b,0,none⟩ y0).setCell ⟨b,1,none⟩ y1).setCell ⟨b,2,none⟩ y2).setCell ⟨b,3,none⟩ y3).setCell ⟨b,4,none⟩ y4).setCell ⟨b,5,none⟩ y5) b y0 y1 y2 y3 y4 y5:=by
 obtain⟨c0,c1,c2,c3,c4,c5,z0,z1,z2,z3,z4,z5⟩:=h;refine⟨?_,?_,?_,?_,?_,?_,?_,?_,?_,?_,?_,?_⟩
 all_goals go_simp
theorem Bx8.set{w:World}{b:Nat}{x0 x1 x2 x3 x4 x5 x6 x7:Value}(h:Bx8 w b x0 x1 x2 x3 x4 x5 x6 x7)(y0 y1 y2 y3 y4 y5 y6 y7:Value):Bx8 ((((((((w.setCell ⟨b,0,none⟩ y0).setCell ⟨b,1,none⟩ y1).setCell ⟨b,2,none⟩ y2).setCell ⟨b,3,none⟩ y3).setCell ⟨b,4,none⟩ y4).setCell ⟨b,5,none⟩ y5).setCell ⟨b,6,none⟩ y6).setCell ⟨b,7,none⟩ y7) b y0 y1 y2 y3 y4 y5 y6 y7:=by
 obtain⟨c0,c1,c2,c3,c4,c5,c6,c7,z0,z1,z2,z3,z4,z5,z6,z7⟩:=h;refine⟨?_,?_,?_,?_,?_,?_,?_,?_,?_,?_,?_,?_,?_,?_,?_,?_⟩
 all_goals go_simp
theorem nH{B b:Nat}{a w:World}(h:Below B a w)(hb:B<=b)(y0 y1 y2 y3:Value):Below B a ((((w.setCell ⟨b,0,none⟩ y0).setCell ⟨b,1,none⟩ y1).setCell ⟨b,2,none⟩ y2).setCell ⟨b,3,none⟩ y3):=((((h.setCell (p:=⟨b,0,none⟩) hb y0).setCell (p:=⟨b,1,none⟩) hb y1).setCell (p:=⟨b,2,none⟩) hb y2).setCell (p:=⟨b,3,none⟩) hb y3)
theorem jY{B b:Nat}{a w:World}(h:Below B a w)(hb:B<=b)(y0 y1 y2 y3 y4 y5:Value):Below B a ((((((w.setCell ⟨b,0,none⟩ y0).setCell ⟨b,1,none⟩ y1).setCell ⟨b,2,none⟩ y2).setCell ⟨b,3,none⟩ y3).setCell ⟨b,4,none⟩ y4).setCell ⟨b,5,none⟩ y5):=((((((h.setCell (p:=⟨b,0,none⟩) hb y0).setCell (p:=⟨b,1,none⟩) hb y1).setCell (p:=⟨b,2,none⟩) hb y2).setCell (p:=⟨b,3,none⟩) hb y3).setCell (p:=⟨b,4,none⟩) hb y4).setCell (p:=⟨b,5,none⟩) hb y5)
theorem i7{B b:Nat}{a w:World}(h:Below B a w)(hb:B<=b)(y0 y1 y2 y3 y4 y5 y6 y7:Value):Below B a ((((((((w.setCell ⟨b,0,none⟩ y0).setCell ⟨b,1,none⟩ y1).setCell ⟨b,2,none⟩ y2).setCell ⟨b,3,none⟩ y3).setCell ⟨b,4,none⟩ y4).setCell ⟨b,5,none⟩ y5).setCell ⟨b,6,none⟩ y6).setCell ⟨b,7,none⟩ y7):=((((((((h.setCell (p:=⟨b,0,none⟩) hb y0).setCell (p:=⟨b,1,none⟩) hb y1).setCell (p:=⟨b,2,none⟩) hb y2).setCell (p:=⟨b,3,none⟩) hb y3).setCell (p:=⟨b,4,none⟩) hb y4).setCell (p:=⟨b,5,none⟩) hb y5).setCell (p:=⟨b,6,none⟩) hb y6).setCell (p:=⟨b,7,none⟩) hb y7)
theorem aG{w:World}{B:Nat->Prop}{k:Kd}{v:List Value}(h:KAt w B k v):∃(o n:Int) (s t:ByteArray) (p:Option Addr) (A:Option Addr) (m c:Nat),v = [.int .i64 o,.int .i64 n,.string s,.string t,.pointer p,.slice A m c]:=by
 cases k with
 | base x=>obtain⟨_,rfl⟩:=h;exact⟨_,_,_,_,_,_,_,_,rfl⟩
 | ent s=>obtain⟨_,rfl⟩:=h;exact⟨_,_,_,_,_,_,_,_,rfl⟩
 | set q=>obtain⟨_,_,_,rfl,_⟩:=h;exact⟨_,_,_,_,_,_,_,_,rfl⟩
 | fs f=>obtain⟨_,_,_,rfl,_⟩:=h;exact⟨_,_,_,_,_,_,_,_,rfl⟩
structure Vg(w:World)(B:Nat->Prop)(a:Addr)(y:Kfd):Prop where
 b:B a.block
 r:∃u,uK w a (.string y.1 :: .bool y.2.1 :: u)/\KAt w B y.2.2 u
theorem FAt.at{w:World}{B:Nat->Prop}{A:Option Addr}{f:Fl}:∀ {i0:Nat},FAt w B A i0 f->∀(i:Nat) (y:Kfd),f.list[i]?=some y->∃a,A=some a/\Vg w B (a.add ((i0+i)*8)) y:=by
 induction f using Fl.rec (motive_1:=λ_=>True) with
 | nil=>intro i0 _ i y h;simp [Fl.list] at h
 | cons s m k r _ ih =>
  intro i0 h i y hy
  obtain⟨⟨a,u,e,h1,h2,h3⟩,h4⟩:=h
  cases i with
  | zero =>
   simp only [Fl.list,List.getElem?_cons_zero,Option.some.injEq] at hy
   subst hy
   exact⟨a,e,by rw [ax];exact h1,u,h2,h3⟩
  | succ i =>
   obtain⟨b,e2,h5⟩:=ih h4 i y (by simpa [Fl.list] using hy)
   exact⟨b,e2,by rw [show i0+(i+1)=i0+1+i by omega];exact h5⟩
 | _=>trivial
theorem nxa(a:Addr)(x d:Nat)(hd:0<d):(⟨(a.add x).block,(a.add x).off+d,none⟩:Addr)=(a.add x).add d:=by
 unfold Addr.add;by_cases hx:x=0
 ·subst hx;simp;omega
 ·simp [hx];omega
theorem Vg.cells{w:World}{B:Nat->Prop}{a:Addr}{x:Nat}{y:Kfd}(h:Vg w B (a.add x) y):∃(o n:Int) (s0 t0:ByteArray) (p A:Option Addr) (m c:Nat),KAt w B y.2.2 [.int .i64 o,.int .i64 n,.string s0,.string t0,.pointer p,.slice A m c]/\
 w.cell? (a.add x)=some (.string y.1)/\w.cell? ⟨(a.add x).block,(a.add x).off+1,none⟩=some (.bool y.2.1)/\w.cell? ⟨(a.add x).block,(a.add x).off+2,none⟩=some (.int .i64 o)/\w.cell? ⟨(a.add x).block,(a.add x).off+3,none⟩=some (.int .i64 n)/\
 w.cell? ⟨(a.add x).block,(a.add x).off+4,none⟩=some (.string s0)/\w.cell? ⟨(a.add x).block,(a.add x).off+5,none⟩=some (.string t0)/\w.cell? ⟨(a.add x).block,(a.add x).off+6,none⟩=some (.pointer p)/\w.cell? ⟨(a.add x).block,(a.add x).off+7,none⟩=some (.slice A m c):=by
 obtain⟨-,u,hr,hk⟩:=h;obtain⟨o,n,s0,t0,p,A,m,c,rfl⟩:=aG hk;refine⟨o,n,s0,t0,p,A,m,c,hk,?_,?_,?_,?_,?_,?_,?_,?_⟩
 ·have:=hr 0 _ rfl;rwa [show(a.add x).add 0=a.add x from rfl] at this
 all_goals rw [nxa _ _ _ (by omega)];exact hr _ _ rfl
theorem Ej(nm:ByteArray)(b:Bool)(o n:Int)(s0 t0:ByteArray)(p A:Option Addr)(m c:Nat)(s:ByteArray)(w:World):
 Calls Tryz.prog 115 #[.agg #[.string nm,.bool b,.int .i64 o,.int .i64 n,.string s0,.string t0,.pointer p,.slice A m c],.string s] w λe w'=>e = .returned (.int .i64 (js nm s))/\Below w.heap.size w w':=by
 have B0:=O (za w (.cells #[.string nm,.bool b,.int .i64 o,.int .i64 n,.string s0,.string t0,.pointer p,.slice A m c] 143));go_enter Tryz.func115,Tryz.ntmps115;go_wp2_with fail;refine(strings_Compare nm s _).mono ?_;rintro e w1 ⟨rfl,rfl⟩;go_wp2_with fail;go_ret;exact⟨rfl,B0.o⟩
def Tw(w:World)(L:List Kfd)(s:ByteArray)(e:Ending)(w':World):Prop :=
 ∃(i:Nat) (h:Bool),e = .returned (.tuple #[.int .i64 i,.bool h])/\(h=true->∃hi:i<L.length,L[i].1=s)/\(h=false->∀y∈L,y.1≠s)/\Below w.heap.size w w'
theorem D4(A:Option Addr)(n c:Nat)(f:Fl)(B:Nat->Prop)(s:ByteArray)(w:World)(hf:FAt w B A 0 f)(hn:n=f.list.length)(hl:n<=100000)(_:n<=c)(ha:f.asc)(hb:∀b,B b->b<w.heap.size):
 Calls Tryz.prog 114 #[.slice A n c,.string s,.func (.func 115) #[] #[]] w (Tw w f.list s):=by
 have eg:∀args w,(callFunc 115 args).run Tryz.prog w = .ok (.enter 115 args) w:=enters_of Tryz.func115 (by kernel_rfl) rfl;have HF:=O (λw' (h:Below w.heap.size w w')=>(hf.cong (w':=w') (λb hB=>h.block b (hb b hB))).at);have HP:=O (ud ha);have HN:=O hn;have HS:=O (show qF f.list s 0 n from hn ▸ qF.start f.list s);clear hf hn ha hb;generalize f.list=L at *;go_enter Tryz.func114,Tryz.ntmps114;go_wp2_with fail;go_loopw [9,10] (λi j wr=>∃lo hi:Nat,hi<=n/\i = .int .i64 lo/\j = .int .i64 hi/\lo<=hi/\Hid (qF L s lo hi)/\Hid (Below w.heap.size w wr)) (λi j _=>(intOf j).toNat-(intOf i).toNat)
 case atStart=>exact⟨0,n,Nat.le_refl _,rfl,rfl,Nat.zero_le _,HS,Below.refl _ _⟩
 case round =>
  clear HS;obtain⟨lo,hi,XS,rfl,rfl,hle,hH,hB⟩:=hrel;by_cases hlt:lo<hi
  ·obtain⟨m,hmid,UJ,sN⟩:∃m:Nat,((lo:Int)+(hi:Int))/ 2=(m:Int)/\lo<=m/\m<hi:=⟨(lo+hi)/ 2,by omega,by omega,by omega⟩
   have hmn:m<n:=by omega
   have IM:m<L.length:=by rw [<-HN.o];exact hmn
   obtain⟨a,rfl,li⟩:=HF.o wr hB.o m _ (List.getElem?_eq_getElem IM);rw [Nat.zero_add] at li;have Z1:=O (λhc=>hH.o.up HP.o UJ sN IM hc);have ZD:=O (λhc=>hH.o.down HP.o UJ sN IM hc);generalize L[m]=y at *;obtain⟨o,nn,s0,t0,p,A',m',c',-,q0,q1,q2,q3,q4,q5,q6,q7⟩:=li.cells;have KC:=O (Ej y.1 y.2.1 o nn s0 t0 p A' m' c' s wr);clear li;by_cases hc:js y.1 s<0
   ·have H2:=O (Z1.o hc);generalize js y.1 s=cu at *;clear Z1 ZD hH;go_wp2_with (go_at_fn 115;refine KC.o.mono ?_;rintro e w1 ⟨rfl,b1⟩);have B1:=bh hB b1;clear q0 q1 q2 q3 q4 q5 q6 q7 hB b1 KC;go_wp2_with fail;go_roundw
    case rel=>exact⟨m+1,hi,XS,by go_num,rfl,by omega,H2,B1⟩
    case measure=>simp [intOf];omega
   ·have H2:=O (ZD.o hc);generalize js y.1 s=cu at *;clear Z1 ZD hH;go_wp2_with (go_at_fn 115;refine KC.o.mono ?_;rintro e w1 ⟨rfl,b1⟩);have B1:=bh hB b1;clear q0 q1 q2 q3 q4 q5 q6 q7 hB b1 KC;go_wp2_with fail;go_roundw
    case rel=>exact⟨lo,m,by omega,rfl,rfl,by omega,H2,B1⟩
    case measure=>simp [intOf];omega
  ·obtain rfl:lo=hi:=by omega
   have oH:=O (hH.o.found HP.o);by_cases hln:lo<n
   ·have IM:lo<L.length:=by rw [<-HN.o];exact hln
    obtain⟨a,rfl,li⟩:=HF.o wr hB.o lo _ (List.getElem?_eq_getElem IM);rw [Nat.zero_add] at li;obtain⟨y,hy⟩:∃y,y=L[lo]:=⟨_,rfl⟩
    have HY:=O hy;rw [<-hy] at li;clear hy;obtain⟨o,nn,s0,t0,p,A',m',c',-,q0,q1,q2,q3,q4,q5,q6,q7⟩:=li.cells;have KC:=O (Ej y.1 y.2.1 o nn s0 t0 p A' m' c' s wr);clear li;go_wp2_with fail;refine KC.o.mono ?_;rintro e w1 ⟨rfl,b1⟩;have B1:=bh hB b1;clear q0 q1 q2 q3 q4 q5 q6 q7 b1 KC;by_cases hc:js y.1 s=0
    ·have H2:=O (show∃hi:lo<L.length,L[lo].1=s from⟨IM,by rw [<-HY.o];exact(zw.zero _ _).1 hc⟩);rw [hc];clear hc;go_wp2_with fail;go_ret2;exact⟨lo,true,rfl,λ_=>H2.o,λh=>(nomatch h),B1.o⟩
    ·have H2:=O (oH.o.2 (λhl e=>hc (by rw [HY.o,e];exact zw.self s)));have h0:(js y.1 s==0)=false:=by simpa using hc
     generalize js y.1 s=cu at *;clear hc;go_wp2_with fail;go_ret2;exact⟨lo,false,rfl,λh=>(nomatch h),λ_=>H2.o,B1.o⟩
   ·have HNO:=O (oH.o.2 (λhl=>absurd (by rw [HN.o];exact hl) hln));go_wp2_with fail;go_ret2;exact⟨lo,false,rfl,λh=>(nomatch h),λ_=>HNO.o,hB.o⟩
def Ju(w:World)(B:Nat->Prop)(f:Fl)(s:ByteArray)(e:Ending)(w':World):Prop :=
 Below w.heap.size w w'/\match f.find s with
 | none=>e = .returned (.tuple #[.agg #[.string ⟨#[]⟩,.bool false,.int .i64 0,.int .i64 0,.string ⟨#[]⟩,.string ⟨#[]⟩,.pointer none,.slice none 0 0],.bool false])
 | some (m,k)=>∃u:List Value,e = .returned (.tuple #[.agg (.string s :: .bool m :: u).toArray,.bool true])/\KAt w' B k u
theorem my(A:Option Addr)(n c:Nat)(f:Fl)(B:Nat->Prop)(o nn:Int)(s0 t0:ByteArray)(p:Option Addr)(s:ByteArray)(w:World)(hf:FAt w B A 0 f)(hn:n=f.list.length)(hl:n<=100000)(hc:n<=c)(ha:f.asc)(hb:∀b,B b->b<w.heap.size):
 Calls Tryz.prog 70 #[.agg #[.int .i64 o,.int .i64 nn,.string s0,.string t0,.pointer p,.slice A n c],.string s] w (Ju w B f s):=by
 have hmf:∀(fn:Fn) (first cap:Array Value) (w:World),(Instr.makeFunc fn first cap).run Tryz.prog w = .ok (.func fn first cap) w:=λ_ _ _ _=>rfl;have HS:=O (λw' (h:Below w.heap.size w w')=>D4 A n c f B s w' (hf.cong (λb hB=>h.block b (hb b hB))) hn hl hc ha (λb hB=>Nat.lt_of_lt_of_le (hb b hB) h.size));have HF:=O (λw' (h:Below w.heap.size w w')=>(hf.cong (w':=w') (λb hB=>h.block b (hb b hB))).at);have HN:=O hn;have HA:=O ha;have FO:=O hb;clear hf hn ha hb;go_enter Tryz.func70,Tryz.ntmps70;have X1:=O (jf w (.int .i64 o) (.int .i64 nn) (.string s0) (.string t0) (.pointer p) (.slice A n c) 81);have B1:=O (za w (.cells #[.int .i64 o,.int .i64 nn,.string s0,.string t0,.pointer p,.slice A n c] 81));go_wp2_with fail;have hsz:(w.alloc (.cells #[.int .i64 o,.int .i64 nn,.string s0,.string t0,.pointer p,.slice A n c] 81)).heap.size=w.heap.size+1:=by simp
 obtain⟨w1,si⟩:∃w1,w.alloc (.cells #[.int .i64 o,.int .i64 nn,.string s0,.string t0,.pointer p,.slice A n c] 81)=w1:=⟨_,rfl⟩
 rw [si] at X1 B1 hsz ⊢;rw [<-hsz];clear si hsz;have X2:=O (X1.o.keep (za w1 (.cells #[.string ⟨#[]⟩,.bool false,.int .i64 0,.int .i64 0,.string ⟨#[]⟩,.string ⟨#[]⟩,.pointer none,.slice none 0 0] 143)));have Y2:=O (ft w1 (.string ⟨#[]⟩) (.bool false) (.int .i64 0) (.int .i64 0) (.string ⟨#[]⟩) (.string ⟨#[]⟩) (.pointer none) (.slice none 0 0) 143);have B2:=bh B1 (za w1 (.cells #[.string ⟨#[]⟩,.bool false,.int .i64 0,.int .i64 0,.string ⟨#[]⟩,.string ⟨#[]⟩,.pointer none,.slice none 0 0] 143));obtain⟨w2,hw2⟩:∃w2,w1.alloc (.cells #[.string ⟨#[]⟩,.bool false,.int .i64 0,.int .i64 0,.string ⟨#[]⟩,.string ⟨#[]⟩,.pointer none,.slice none 0 0] 143)=w2:=⟨_,rfl⟩
 rw [hw2] at X2 Y2 B2 ⊢;clear hw2 X1;have HW:=O B1.o.size;clear B1;refine(HS.o w2 B2.o).mono ?_;rintro e w3 ⟨i,hh,rfl,h1,h2,b3⟩;have X3:=O (X2.o.keep b3);have Y3:=O (Y2.o.keep b3);have B3:=bh B2 b3;clear X2 Y2 B2 b3 HS;obtain⟨c0,c1,c2,c3,c4,c5,-,-,-,-,-,-⟩:=X3.o;obtain⟨d0,d1,d2,d3,d4,d5,d6,d7,z0,z1,z2,z3,z4,z5,z6,z7⟩:=Y3.o
 cases hh with
 | false =>
  have Yz:=O (yv.2 (h2 rfl))
  clear h1 h2
  have Y4:=Y3.o.set (.string ⟨#[]⟩) (.bool false) (.int .i64 0) (.int .i64 0) (.string ⟨#[]⟩) (.string ⟨#[]⟩) (.pointer none) (.slice none 0 0)
  obtain⟨g0,g1,g2,g3,g4,g5,g6,g7,-,-,-,-,-,-,-,-⟩:=Y4
  go_wp2_with fail
  refine bodyPost_ret (v := .tuple #[.agg #[.string ⟨#[]⟩,.bool false,.int .i64 0,.int .i64 0,.string ⟨#[]⟩,.string ⟨#[]⟩,.pointer none,.slice none 0 0],.bool false]) (by simp [results,Tryz.results70,go_sem,g0,g1,g2,g3,g4,g5,g6,g7]) rfl ⟨?_,by rw [Yz.o]⟩
  exact i7 B3.o HW.o _ _ _ _ _ _ _ _
 | true =>
  obtain⟨hi,hs⟩:=h1 rfl
  clear h1 h2
  have Rz:i<n:=by rw [HN.o];exact hi
  obtain⟨a,rfl,li⟩:=HF.o w3 B3.o i _ (List.getElem?_eq_getElem hi)
  rw [Nat.zero_add] at li
  have RA:=O (show f.find s=some (f.list[i].2.1,f.list[i].2.2) from(bY HA.o).2 (by rw [<-hs];exact List.getElem_mem hi))
  obtain⟨y,hy⟩:∃y,y=f.list[i]:=⟨_,rfl⟩
  rw [<-hy] at li RA hs
  clear hy
  obtain⟨o',n',s',t',p',A',m',c',hk,q0,q1,q2,q3,q4,q5,q6,q7⟩:=li.cells
  have HK:=O hk
  rw [hs] at q0
  clear hk li hs
  have Y4:=Y3.o.set (.string s) (.bool y.2.1) (.int .i64 o') (.int .i64 n') (.string s') (.string t') (.pointer p') (.slice A' m' c')
  obtain⟨g0,g1,g2,g3,g4,g5,g6,g7,-,-,-,-,-,-,-,-⟩:=Y4
  go_wp2_with fail
  refine bodyPost_ret (v := .tuple #[.agg #[.string s,.bool y.2.1,.int .i64 o',.int .i64 n',.string s',.string t',.pointer p',.slice A' m' c'],.bool true]) (by simp [results,Tryz.results70,go_sem,g0,g1,g2,g3,g4,g5,g6,g7]) rfl ?_
  have BF:∀w',Below w.heap.size w w'->Ju w B f s (.returned (.tuple #[.agg #[.string s,.bool y.2.1,.int .i64 o',.int .i64 n',.string s',.string t',.pointer p',.slice A' m' c'],.bool true])) w':=λw' hb=>by
   refine⟨hb,?_⟩;rw [RA.o];exact⟨_,rfl,HK.o.cong λb hB=>(hb.block b (FO.o b hB)).trans (B3.o.block b (FO.o b hB)).symm⟩
  refine BF _ ?_
  exact i7 B3.o HW.o _ _ _ _ _ _ _ _
theorem fV(f:Fl):f.len=f.list.length:=by
 induction f using Fl.rec (motive_1:=λ_=>True) with
 | nil=>rfl
 | cons s m k r _ ih=>simp [Fl.len,Fl.list,ih]
 | _=>trivial
theorem tm(f:Fl):f.len<=f.sz:=by
 induction f using Fl.rec (motive_1:=λ_=>True) with
 | nil=>exact Nat.le_refl _
 | cons s m k r _ ih=>simp only [Fl.len,Fl.sz];omega
 | _=>trivial
def U2(N:Nat):Prop:=∀(a b:Kd) (va vb:List Value) (w:World) (B:Nat->Prop),a.sz<=N->a.sz<=90000->b.sz<=90000->KAt w B a va->KAt w B b vb->a.valid->b.valid->(∀b,B b->b<w.heap.size)->
 Calls Tryz.prog 30 #[.agg va.toArray,.agg vb.toArray] w λe w'=>e = .returned (.bool (zO a b))/\Below w.heap.size w w'
def opN:Kd->Int
 | .base x=>x
 | .ent _=>44
 | .set _=>45
 | .fs _=>46
def nmN:Kd->ByteArray
 | .ent s=>s
 | _=>emp
theorem po{w:World}{B:Nat->Prop}{k:Kd}{v:List Value}(h:KAt w B k v):∃(n:Int) (p:Option Addr) (A:Option Addr) (m c:Nat),v = [.int .i64 (opN k),.int .i64 n,.string (nmN k),.string emp,.pointer p,.slice A m c]:=by
 cases k with
 | base x=>obtain⟨_,rfl⟩:=h;exact⟨_,_,_,_,_,rfl⟩
 | ent s=>obtain⟨_,rfl⟩:=h;exact⟨_,_,_,_,_,rfl⟩
 | set q=>obtain⟨_,_,_,rfl,_⟩:=h;exact⟨_,_,_,_,_,rfl⟩
 | fs f=>obtain⟨_,_,_,rfl,_⟩:=h;exact⟨_,_,_,_,_,rfl⟩
theorem JS(o1 o2 n1 n2:Int)(s1 s2 t1 t2:ByteArray)(p1 p2 A1 A2:Option Addr)(m1 c1 m2 c2:Nat)(w:World)(h:o1=49\/o2=48):
 Calls Tryz.prog 30 #[.agg #[.int .i64 o1,.int .i64 n1,.string s1,.string t1,.pointer p1,.slice A1 m1 c1],.agg #[.int .i64 o2,.int .i64 n2,.string s2,.string t2,.pointer p2,.slice A2 m2 c2]] w λe w'=>e = .returned (.bool true)/\Below w.heap.size w w':=by
 have HB:=O ((za w (.cells #[.int .i64 o1,.int .i64 n1,.string s1,.string t1,.pointer p1,.slice A1 m1 c1] 81)).trans ((za _ (.cells #[.int .i64 o2,.int .i64 n2,.string s2,.string t2,.pointer p2,.slice A2 m2 c2] 81)).mono (by simp)));by_cases h1:o1=49
 ·subst h1;clear h;go_enter Tryz.func30,Tryz.ntmps30;go_wp2_with fail;go_ret;exact⟨rfl,HB.o⟩
 ·have h2:=h.resolve_left h1;have h3:(o1==49)=false:=beq_eq_false_iff_ne.2 h1;subst h2;clear h h1;go_enter Tryz.func30,Tryz.ntmps30;go_wp2_with fail;go_ret;exact⟨rfl,HB.o⟩
theorem yV(o1 o2 n1 n2:Int)(s1 s2 t1 t2:ByteArray)(p1 p2 A1 A2:Option Addr)(m1 c1 m2 c2:Nat)(w:World)(h1:o1≠49)(h2:o2≠48)(h:o1≠o2\/s1≠s2):
 Calls Tryz.prog 30 #[.agg #[.int .i64 o1,.int .i64 n1,.string s1,.string t1,.pointer p1,.slice A1 m1 c1],.agg #[.int .i64 o2,.int .i64 n2,.string s2,.string t2,.pointer p2,.slice A2 m2 c2]] w λe w'=>e = .returned (.bool false)/\Below w.heap.size w w':=by
 have HB:=O ((za w (.cells #[.int .i64 o1,.int .i64 n1,.string s1,.string t1,.pointer p1,.slice A1 m1 c1] 81)).trans ((za _ (.cells #[.int .i64 o2,.int .i64 n2,.string s2,.string t2,.pointer p2,.slice A2 m2 c2] 81)).mono (by simp)));have e1:(o1==49)=false:=beq_eq_false_iff_ne.2 h1;have e2:(o2==48)=false:=beq_eq_false_iff_ne.2 h2;by_cases ho:o1=o2
 ·have hs:=h.resolve_left (λq=>q ho);have e3:(s1.toList==s2.toList)=false:=beq_eq_false_iff_ne.2 (λq=>hs (toList_inj q));subst ho;clear h hs h1 h2;go_enter Tryz.func30,Tryz.ntmps30;go_wp2_with fail;go_ret;exact⟨rfl,HB.o⟩
 ·have e3:(o1==o2)=false:=beq_eq_false_iff_ne.2 ho;have e4:(o1 != o2)=true:=by rw [bne_iff_ne];exact ho
  clear h h1 h2 ho;go_enter Tryz.func30,Tryz.ntmps30;go_wp2_with fail;go_ret;exact⟨rfl,HB.o⟩
theorem tl(o n1 n2:Int)(s1 t1 t2:ByteArray)(p1 p2:Option Addr)(w:World)(h1:o≠49)(h2:o≠48)(h3:o≠45):
 Calls Tryz.prog 30 #[.agg #[.int .i64 o,.int .i64 n1,.string s1,.string t1,.pointer p1,.slice none 0 0],.agg #[.int .i64 o,.int .i64 n2,.string s1,.string t2,.pointer p2,.slice none 0 0]] w λe w'=>e = .returned (.bool true)/\Below w.heap.size w w':=by
 have HB:=O ((za w (.cells #[.int .i64 o,.int .i64 n1,.string s1,.string t1,.pointer p1,.slice none 0 0] 81)).trans ((za _ (.cells #[.int .i64 o,.int .i64 n2,.string s1,.string t2,.pointer p2,.slice none 0 0] 81)).mono (by simp)));have e1:(o==49)=false:=beq_eq_false_iff_ne.2 h1;have e2:(o==48)=false:=beq_eq_false_iff_ne.2 h2;have e3:(o==45)=false:=beq_eq_false_iff_ne.2 h3;clear h1 h2 h3;go_enter Tryz.func30,Tryz.ntmps30;go_wp2_with fail;go_loopw [58] (λi wr=>i = .int .i64 0/\Hid (wr=((w.alloc (.cells #[.int .i64 o,.int .i64 n1,.string s1,.string t1,.pointer p1,.slice none 0 0] 81)).alloc (.cells #[.int .i64 o,.int .i64 n2,.string s1,.string t2,.pointer p2,.slice none 0 0] 81)))) (λ_ _=>0)
 case atStart=>exact⟨rfl,O rfl⟩
 case round =>
  obtain⟨rfl,hw⟩:=hrel;have X2:=jf (w.alloc (.cells #[.int .i64 o,.int .i64 n1,.string s1,.string t1,.pointer p1,.slice none 0 0] 81)) (.int .i64 o) (.int .i64 n2) (.string s1) (.string t2) (.pointer p2) (.slice none 0 0) 81;have hsz:(w.alloc (.cells #[.int .i64 o,.int .i64 n1,.string s1,.string t1,.pointer p1,.slice none 0 0] 81)).heap.size=w.heap.size+1:=by simp
  rw [hsz,<-hw.o] at X2;have HB1:=HB.o;rw [<-hw.o] at HB1;have Zn:=O HB1;obtain⟨c0,c1,c2,c3,c4,c5,-,-,-,-,-,-⟩:=X2;clear hsz hw HB HB1;go_wp2_with fail;obtain⟨w5,rfl⟩:∃w5:World,w5=wr:=⟨_,rfl⟩
  go_loopw [92] (λi wr=>i = .int .i64 0/\wr=w5) (λ_ _=>0)
  case atStart=>exact⟨rfl,rfl⟩
  case round =>
   obtain⟨rfl,rfl⟩:=hrel;go_wp2_with fail;go_ret;exact⟨rfl,Zn.o⟩
theorem Iu(N:Nat)(ih:U2 N)(p q:Kd)(va vb:List Value)(w:World)(B:Nat->Prop)(h:p.sz<=N)(hp:p.sz<=90000)(hq:q.sz<=90000)(ha:KAt w B (.set p) va)(hb:KAt w B (.set q) vb)(op:p.valid)(oq:q.valid)(hB:∀b,B b->b<w.heap.size):
 Calls Tryz.prog 30 #[.agg va.toArray,.agg vb.toArray] w λe w'=>e = .returned (.bool (zO p q))/\Below w.heap.size w w':=by
 obtain⟨n1,b1,u1,rfl,hb1,r1,k1⟩:=ha;obtain⟨n2,b2,u2,rfl,hb2,r2,k2⟩:=hb;have IH:=O (λw' (hw:Below w.heap.size w w')=>ih p q u1 u2 w' B h hp hq (k1.cong (λb x=>hw.block b (hB b x))) (k2.cong (λb x=>hw.block b (hB b x))) op oq (λb x=>Nat.lt_of_lt_of_le (hB b x) hw.size));obtain⟨o3,n3,s3,t3,p3,A3,m3,c3,rfl⟩:=aG k1;obtain⟨o4,n4,s4,t4,p4,A4,m4,c4,rfl⟩:=aG k2;have L1:=hB b1 hb1;have L2:=hB b2 hb2;have R1:=O (λw' (hw:Below w.heap.size w w')=>r1.cong (w':=w') (hw.block b1 L1));have R2:=O (λw' (hw:Below w.heap.size w w')=>r2.cong (w':=w') (hw.block b2 L2));clear k1 k2 r1 r2 ih hB hb1 hb2 L1 L2;have HB:=O ((za w (.cells #[.int .i64 45,.int .i64 n1,.string emp,.string emp,.pointer (some ⟨b1,0,none⟩),.slice none 0 0] 81)).trans ((za _ (.cells #[.int .i64 45,.int .i64 n2,.string emp,.string emp,.pointer (some ⟨b2,0,none⟩),.slice none 0 0] 81)).mono (by simp)));have hsz:(w.alloc (.cells #[.int .i64 45,.int .i64 n1,.string emp,.string emp,.pointer (some ⟨b1,0,none⟩),.slice none 0 0] 81)).heap.size=w.heap.size+1:=by simp
 have X1:=(jf w (.int .i64 45) (.int .i64 n1) (.string emp) (.string emp) (.pointer (some ⟨b1,0,none⟩)) (.slice none 0 0) 81).keep (za _ (.cells #[.int .i64 45,.int .i64 n2,.string emp,.string emp,.pointer (some ⟨b2,0,none⟩),.slice none 0 0] 81));have X2:=jf (w.alloc (.cells #[.int .i64 45,.int .i64 n1,.string emp,.string emp,.pointer (some ⟨b1,0,none⟩),.slice none 0 0] 81)) (.int .i64 45) (.int .i64 n2) (.string emp) (.string emp) (.pointer (some ⟨b2,0,none⟩)) (.slice none 0 0) 81;rw [hsz] at X2;generalize zO p q=bb at *;go_enter Tryz.func30,Tryz.ntmps30;go_wp2_with fail;obtain⟨w2,hw2⟩:∃w2,(w.alloc (.cells #[.int .i64 45,.int .i64 n1,.string emp,.string emp,.pointer (some ⟨b1,0,none⟩),.slice none 0 0] 81)).alloc (.cells #[.int .i64 45,.int .i64 n2,.string emp,.string emp,.pointer (some ⟨b2,0,none⟩),.slice none 0 0] 81)=w2:=⟨_,rfl⟩
 rw [hw2] at X1 X2 HB ⊢;clear hw2 hsz;have Q1:=R1.o _ HB.o;have Q2:=R2.o _ HB.o;have d0:=Q1 0 _ rfl;have d1:=Q1 1 _ rfl;have d2:=Q1 2 _ rfl;have d3:=Q1 3 _ rfl;have d4:=Q1 4 _ rfl;have d5:=Q1 5 _ rfl;have g0:=Q2 0 _ rfl;have g1:=Q2 1 _ rfl;have g2:=Q2 2 _ rfl;have g3:=Q2 3 _ rfl;have g4:=Q2 4 _ rfl;have g5:=Q2 5 _ rfl;have ad:∀(b j:Nat),(⟨b,0,none⟩:Addr).add j=⟨b,j,none⟩:=λb j=>by
  unfold Addr.add;split
  ·rename_i h0;subst h0;rfl
  ·simp
 rw [ad] at d0 d1 d2 d3 d4 d5 g0 g1 g2 g3 g4 g5;clear ad Q1 Q2;replace d0:=cell_regrown d0;replace d1:=cell_regrown d1;replace d2:=cell_regrown d2;replace d3:=cell_regrown d3;replace d4:=cell_regrown d4;replace d5:=cell_regrown d5;replace g0:=cell_regrown g0;replace g1:=cell_regrown g1;replace g2:=cell_regrown g2;replace g3:=cell_regrown g3;replace g4:=cell_regrown g4;replace g5:=cell_regrown g5;have v1:=cell_regrown X1.c4;have v2:=cell_regrown X2.c4;have hq:∀w',Below w2.heap.size w2 w'->Below w.heap.size w w':=λw' hb=>HB.o.trans (hb.mono HB.o.size);have K:=rq (w:=w2) (v := .bool bb) (λw' hb=>IH.o w' (hq w' hb));clear hq R1 R2 IH X1 X2;refine wp_region_quiet_below (by kernel_rfl) (by kernel_rfl) ?_
 repeat (first|go_big_quiet_step (exact K _ _)|quiet_step (exact K _ _))
 refine wpQuiet_nil ?_;intro w3 hw';have b3:=O (show Below w2.heap.size w2 w3 by obtain⟨⟨d,os⟩,rfl⟩:=hw';exact below_regrown _ _ _);clear hw';have B3:=bh HB b3.o;clear d0 d1 d2 d3 d4 d5 g0 g1 g2 g3 g4 g5 v1 v2 K;go_wp2_with fail;go_ret;exact⟨rfl,B3.o⟩
end Go.Proofs.YthifljpkgfpkiaaGreatDoor
