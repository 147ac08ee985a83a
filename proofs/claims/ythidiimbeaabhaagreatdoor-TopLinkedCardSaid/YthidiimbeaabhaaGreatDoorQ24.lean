/-
  A value is an expression, and its value is it. No program in sight. In a set of ..
-/
import Derived.Test.YthidiimbeaabhaaGreatDoorQ23
set_option maxRecDepth 100000
namespace Go.Proofs.YthidiimbeaabhaaGreatDoor
open Go.RowKit Go.Wk
noncomputable def up0(σ:Env):Int:=or2 (zQ σ.E) (cz σ.who σ.act σ.what σ.ctx)
theorem wT(σ:Env)(P:List Nd):upF σ P=or2 (up0 σ) (jg P):=by
 unfold upF up0 or2;by_cases h:zQ σ.E=0
 ·simp [h]
 ·simp [h]
theorem Ia(x:Int):or2 x 0=x:=by
 unfold or2;split
 ·rename_i h;exact h.symm
 ·rfl
theorem yc{σ:Env}{x:Ex}(hx:x.valid false)(hl:x.flat.length<=200):ju σ x.flat=if up0 σ=0 then evX σ x else .error (up0 σ):=by
 have h0:jg x.flat=0:=jq.2 ⟨hl,x,hx,rfl⟩;have hu:upF σ x.flat=up0 σ:=by rw [wT,h0,Ia]
 by_cases g:up0 σ=0
 ·rw [if_pos g,gm (by rw [hu];exact g) hx rfl]
 ·rw [if_neg g];unfold ju;rw [hu,if_neg g]
theorem gy{σ:Env}{P V:List Nd}(h:ju σ P = .ok V):ee σ/\up0 σ=0/\P.length<=200/\zc V=0/\∃x:Ex,x.valid false/\P=x.flat/\evX σ x = .ok V:=by
 by_cases g:upF σ P=0
 ·obtain⟨ho,hl,x,hx,e⟩:=nh g;have hv:=h;rw [gm g hx e] at h;refine⟨ho,?_,hl,ir ho x false hx V h,x,hx,e,h⟩;rw [wT] at g;exact(zt.1 g).1
 ·unfold ju at h;rw [if_neg g] at h;cases h
theorem Ac{o:Int}{a b:Ex}(h1:cL false (bg o)=true)(h2:zJ (bg o)=2)(h3:ae (bg o)=false)(ha:a.valid false)(hb:b.valid false):(ex2 o a b).valid false:=by
 refine⟨h1,by rw [h2];rfl,?_⟩;rw [h3];exact⟨λe=>Bool.noConfusion e,ha,λe=>Bool.noConfusion e,hb,trivial⟩
theorem i3{o:Bool}{a b:Ex}(ha:a.valid false)(hb:b.valid false):(ex2 (if o then 12 else 11) a b).valid false :=
 Ac (by cases o <;> decide) (by cases o <;> decide) (by cases o <;> decide) ha hb
structure Scp where
 op:Int
 t:ByteArray
 u:Ud
structure Cnd where
 un:Bool
 A:Option Addr
 n:Nat
 c:Nat
 P:List Nd
structure Pol where
 name:ByteArray
 forbid:Bool
 who:Scp
 act:Scp
 what:Scp
 CA:Option Addr
 cn:Nat
 cc:Nat
 C:List Cnd
def noU:Ud:=(emp,emp)
def nj(s:Scp):Bool :=
 if s.op=0\/s.op=5\/s.op=6 then decide (s.t=emp/\s.u=noU)
 else if s.op=1\/s.op=2 then decide (s.t=emp)
 else if s.op=3 then decide (s.u=noU)
 else decide (s.op=4)
def zV(s:Scp)(slots:Bool):Int :=
 if nj s &&(slots || !decide (s.op=5\/s.op=6))&&(!decide (s.op=3\/s.op=4)|| decide (zk s.t=0))&&(!decide (s.op=1\/s.op=2\/s.op=4)|| decide (zq s.u=0)) then 0 else 1
def jI(P:List Nd):Bool:=P.all λn => !(decide (n.op=8)&& decide (n.s.data.toList.head?=some 63))
def lG(c:Cnd):Int:=or2 (jg c.P) (if jI c.P then 0 else 1)
def am:List Cnd->Int
 | []=>0
 | c :: r=>or2 (lG c) (am r)
def polF(p:Pol):Int:=or2 (zk p.name) (or2 (zV p.who true) (or2 (zV p.act false) (or2 (zV p.what true) (if 4<p.C.length then 4 else am p.C))))
def jC(v:ByteArray):List Nd := [⟨8,0,v,emp⟩]
def ar(v:ByteArray):ByteArray:=⟨#[63]⟩++ v
def zN(s:Scp)(v:ByteArray):List Nd :=
 if s.op=1 then bg 14 ::(jC v ++ aY s.u)
 else if s.op=2 then bg 20 ::(jC v ++ aY s.u)
 else if s.op=3 then⟨24,0,s.t,emp⟩:: jC v
 else if s.op=4 then bg 11 ::((⟨24,0,s.t,emp⟩:: jC v)++(bg 20 ::(jC v ++ aY s.u)))
 else if s.op=5 then bg 14 ::(jC v ++ jC (ar v))
 else if s.op=6 then bg 20 ::(jC v ++ jC (ar v))
 else zw true
def eD(a b:List Nd):List Nd:=bg 11 ::(a ++ b)
def cZ(c:Cnd):List Nd:=if c.un then bg 9 :: c.P else c.P
def jR(p:Pol):List Nd:=(p.C.map cZ).foldl eD (eD (eD (zN p.who zZ) (zN p.act j8)) (zN p.what jc))
def exprF(p:Pol):Int:=or2 (polF p) (if 200<(jR p).length then 4 else 0)
noncomputable def jt(σ:Env)(p:Pol):Bool × Bool:=match ju σ (jR p) with
 | .error _=>(false,true)
 | .ok V=>if zg V=1 then(decide ((hdN V).n=1),false) else(false,true)
def yC(L:List ByteArray)(s:ByteArray):Bool:=L.any λx=>decide (x=s)
def kp:List ByteArray->List Pol->Int
 | _,[]=>0
 | L,p :: r=>or2 (polF p) (or2 (if yC L p.name then 6 else 0) (or2 (exprF p) (or2 (if decide (p.who.op=5\/p.who.op=6)|| decide (p.what.op=5\/p.what.op=6) then 1 else 0) (kp (L ++ [p.name]) r))))
def jN(ps:List Pol):Int:=if 12<ps.length then 4 else kp [] ps
noncomputable def jf(E:List En)(ps:List Pol)(who act what:Ud)(P:List Nd):Int:=or2 (zQ E) (or2 (jN ps) (cz who act what P))
noncomputable def cX(σ:Env)(ps:List Pol):List ByteArray:=(ps.filter λp=>(jt σ p).2).map Pol.name
noncomputable def eK(σ:Env)(ps:List Pol):List ByteArray:=(ps.filter λp => !(jt σ p).2 &&((jt σ p).1 && p.forbid)).map Pol.name
noncomputable def gw(σ:Env)(ps:List Pol):List ByteArray:=(ps.filter λp => !(jt σ p).2 &&((jt σ p).1 && !p.forbid)).map Pol.name
noncomputable def byX(σ:Env)(ps:List Pol):List ByteArray:=if(eK σ ps).length=0 then gw σ ps else eK σ ps
noncomputable def ct(σ:Env)(ps:List Pol):Bool:=decide ((eK σ ps).length=0)&& decide (0<(gw σ ps).length)
theorem yN(σ:Env)(p:Pol):(cX σ [p]).length=1↔(jt σ p).2=true:=by
 unfold cX;cases h:(jt σ p).2 <;> simp [h]
theorem DY(σ:Env)(p:Pol):(byX σ [p]).length=1↔(jt σ p).2=false/\(jt σ p).1=true:=by
 unfold byX eK gw;cases h:(jt σ p).2 <;> cases g:(jt σ p).1 <;> cases f:p.forbid <;> simp [h,g,f]
theorem pP(σ:Env)(p:Pol):ct σ [p]=(!(jt σ p).2 &&((jt σ p).1 && !p.forbid)):=by
 unfold ct eK gw;cases h:(jt σ p).2 <;> cases g:(jt σ p).1 <;> cases f:p.forbid <;> simp [h,g,f]
theorem Fh{L:List ByteArray}{s:ByteArray}:yC L s=true↔s∈L:=by
 unfold yC;rw [List.any_eq_true];constructor
 ·rintro ⟨x,hx,e⟩;rw [<-of_decide_eq_true e];exact hx
 ·exact λh=>⟨s,h,decide_eq_true rfl⟩
theorem iu:∀(ps:List Pol) (L:List ByteArray),kp L ps=0->(∀p∈ps,p.name ∉ L/\polF p=0/\exprF p=0)/\(ps.map Pol.name).Nodup
 | [],L,_=>⟨λp hp=>(nomatch hp),List.Pairwise.nil⟩
 | p :: r,L,h=>by
  unfold kp at h;obtain⟨h1,h⟩:=zt.1 h;obtain⟨h2,h⟩:=zt.1 h;obtain⟨h3,h⟩:=zt.1 h;obtain⟨-,h⟩:=zt.1 h;obtain⟨g1,g2⟩:=iu r _ h;have hm:p.name ∉ L:=λq=>by rw [if_pos (Fh.2 q)] at h2;exact absurd h2 (by decide)
  refine⟨λq hq=>?_,?_⟩
  ·rcases List.mem_cons.1 hq with rfl|hq
   ·exact⟨hm,h1,h3⟩
   ·exact⟨λz=>(g1 q hq).1 (List.mem_append_left _ z),(g1 q hq).2⟩
  ·rw [List.map_cons,List.nodup_cons];refine⟨λz=>?_,g2⟩;obtain⟨q,hq,e⟩:=List.mem_map.1 z;exact(g1 q hq).1 (by rw [e];simp)
end Go.Proofs.YthidiimbeaabhaaGreatDoor
namespace Go.Proofs.YthidiimbeaabhaaGreatDoor
open Go.Wk Go.ChangeShapes Go.WideShapes Go.RowKit
theorem sD{P:Program}{w:World}{t:TypeId}{cs:List Value}(ht:P.underlying t=some .bool)(h:Rd P w t cs):∃b:Bool,cs = [.bool b]:=by
 obtain⟨H,enc,b,sp,hd,f,x,hx⟩:=h;obtain⟨s,h1,_⟩:=DataW.trod_bool ht hx;exact⟨s,h1⟩
structure lF(s:Scp):Prop where
 t:s.t.size<=maxLen
 u:s.u.1.size<=maxLen
 v:s.u.2.size<=maxLen
def Scp.v(s:Scp):Value := .agg #[.int .i64 s.op,.string s.t,.string s.u.1,.string s.u.2]
structure Cs(w:World)(A:Option Addr)(n c:Nat)(C:List Cnd):Prop where
 len:n=C.length
 cap:n<=c
 max:n<=maxLen
 at_:∀(k:Nat) (x:Cnd),C[k]?=some x->∃a,A=some a/\w.cell? (a.add (k*2))=some (.bool x.un)/\w.cell? ⟨(a.add (k*2)).block,(a.add (k*2)).off+1,none⟩=some (.slice x.A x.n x.c)/\Ns w x.A x.n x.c x.P
theorem Cs.keep{w w':World}{A:Option Addr}{n c:Nat}{C:List Cnd}(h:Cs w A n c C)(hb:Below w.heap.size w w'):Cs w' A n c C :=
 ⟨h.len,h.cap,h.max,λk x hx=>let ⟨a,h1,h2,h3,h4⟩:=h.at_ k x hx;⟨a,h1,zb hb h2,zb hb h3,h4.keep hb⟩⟩
def Pol.cs(p:Pol):List Value := [.string p.name,.bool p.forbid,.int .i64 p.who.op,.string p.who.t,.string p.who.u.1,.string p.who.u.2,.int .i64 p.act.op,.string p.act.t,.string p.act.u.1,.string p.act.u.2,.int .i64 p.what.op,.string p.what.t,.string p.what.u.1,.string p.what.u.2,.slice p.CA p.cn p.cc]
def Pol.v(p:Pol):Value := .agg #[.string p.name,.bool p.forbid,.int .i64 p.who.op,.string p.who.t,.string p.who.u.1,.string p.who.u.2,.int .i64 p.act.op,.string p.act.t,.string p.act.u.1,.string p.act.u.2,.int .i64 p.what.op,.string p.what.t,.string p.what.u.1,.string p.what.u.2,.slice p.CA p.cn p.cc]
structure ag(w:World)(p:Pol):Prop where
 name:p.name.size<=maxLen
 who:lF p.who
 act:lF p.act
 what:lF p.what
 cs:Cs w p.CA p.cn p.cc p.C
theorem ag.keep{w w':World}{p:Pol}(h:ag w p)(hb:Below w.heap.size w w'):ag w' p:=⟨h.name,h.who,h.act,h.what,h.cs.keep hb⟩
theorem nt:Tryz.prog.cellsOf 4=1:=by kernel_rfl
theorem dH:Tryz.prog.cellsOf 26=4:=by kernel_rfl
theorem nK:Tryz.prog.cellsOf 57=2:=by kernel_rfl
theorem tJ:Tryz.prog.cellsOf 27=1:=by kernel_rfl
theorem qP:Tryz.prog.cellsOf 29=15:=by kernel_rfl
theorem mz{w:World}{cs:List Value}(h:Rd Tryz.prog w 26 cs):∃s:Scp,cs = [.int .i64 s.op,.string s.t,.string s.u.1,.string s.u.2]/\lF s:=by
 have hl:=(bV Tryz.underlying26 h).1;rw [dH] at hl
 match cs,hl with
 | [c0,c1,c2,c3],_ =>
  have h0:Rd Tryz.prog w 3 [c0]:=jd Tryz.underlying26 h 0 3 0 1 rfl kO
  have h1:Rd Tryz.prog w 9 [c1]:=jd Tryz.underlying26 h 1 9 1 1 rfl aK
  have h2:Rd Tryz.prog w 24 [c2,c3]:=jd Tryz.underlying26 h 2 24 2 2 rfl bo
  obtain⟨o,e0,-,-⟩:=vY Tryz.underlying3 h0
  obtain⟨t,e1,s1⟩:=dm Tryz.underlying9 h1
  obtain⟨a,b,e2,s2,s3⟩:=iz h2
  simp only [List.cons.injEq,and_true] at e0 e1 e2
  exact⟨⟨o,t,(a,b)⟩,by rw [e0,e1,e2.1,e2.2],s1,s2,s3⟩
theorem FK{w:World}{cs:List Value}(h:Rd Tryz.prog w 57 cs):∃x:Cnd,cs = [.bool x.un,.slice x.A x.n x.c]/\Ns w x.A x.n x.c x.P:=by
 have hl:=(bV Tryz.underlying57 h).1;rw [nK] at hl
 match cs,hl with
 | [c0,c1],_ =>
  have h0:Rd Tryz.prog w 4 [c0]:=jd Tryz.underlying57 h 0 4 0 1 rfl nt
  have h1:Rd Tryz.prog w 30 [c1]:=jd Tryz.underlying57 h 1 30 1 1 rfl eP
  obtain⟨b,e0⟩:=sD Tryz.underlying4 h0
  obtain⟨NA,nn,nc,P,e3,n1,n2,n3,n4,n5⟩:=mZ h1
  simp only [List.cons.injEq,and_true] at e0 e3
  exact⟨⟨b,NA,nn,nc,P⟩,by rw [e0,e3],n1,n2,n3,n4,n5⟩
theorem Dj{w:World}{cs:List Value}(h:Rd Tryz.prog w 27 cs):∃(A:Option Addr) (n c:Nat) (C:List Cnd),cs = [.slice A n c]/\Cs w A n c C:=by
 obtain⟨A,n,c,rfl,h1,h2,h3⟩:=kb Tryz.underlying27 h;rw [nK] at h3;obtain⟨C,hl,hr⟩:=l7 n (λk (x:Cnd)=>(∃a,A=some a/\w.cell? (a.add (k*2))=some (.bool x.un)/\w.cell? (a.add (k*2+1))=some (.slice x.A x.n x.c))/\Ns w x.A x.n x.c x.P) (λi hi=>by
  obtain⟨a,rfl,cs',hl,hc,hr⟩:=h3 i hi
  obtain⟨x,rfl,hx⟩:=FK hr
  exact⟨x,⟨a,rfl,hc 0 (by omega),hc 1 (by omega)⟩,hx⟩)
 refine⟨A,n,c,C,rfl,hl.symm,h1,by omega,λk x hx=>?_⟩;obtain⟨⟨a,e,q1,q2⟩,hx⟩:=hr k x hx;refine⟨a,e,q1,?_,hx⟩;rw [<-add_add] at q2;unfold Addr.add at q2 ⊢;simpa using q2
theorem yt{w:World}{cs:List Value}(h:Rd Tryz.prog w 29 cs):∃p:Pol,cs=p.cs/\ag w p:=by
 have hl:=(bV Tryz.underlying29 h).1;rw [qP] at hl
 match cs,hl with
 | [c0,c1,c2,c3,c4,c5,c6,c7,c8,c9,c10,c11,c12,c13,c14],_ =>
  have h0:Rd Tryz.prog w 9 [c0]:=jd Tryz.underlying29 h 0 9 0 1 rfl aK
  have h1:Rd Tryz.prog w 4 [c1]:=jd Tryz.underlying29 h 1 4 1 1 rfl nt
  have h2:Rd Tryz.prog w 26 [c2,c3,c4,c5]:=jd Tryz.underlying29 h 2 26 2 4 rfl dH
  have h3:Rd Tryz.prog w 26 [c6,c7,c8,c9]:=jd Tryz.underlying29 h 3 26 6 4 rfl dH
  have h4:Rd Tryz.prog w 26 [c10,c11,c12,c13]:=jd Tryz.underlying29 h 4 26 10 4 rfl dH
  have h5:Rd Tryz.prog w 27 [c14]:=jd Tryz.underlying29 h 5 27 14 1 rfl tJ
  obtain⟨s,e0,s1⟩:=dm Tryz.underlying9 h0
  obtain⟨b,e1⟩:=sD Tryz.underlying4 h1
  obtain⟨x,e2,ox⟩:=mz h2
  obtain⟨y,e3,oy⟩:=mz h3
  obtain⟨z,e4,oz⟩:=mz h4
  obtain⟨CA,cn,cc,C,e5,hc⟩:=Dj h5
  simp only [List.cons.injEq,and_true] at e0 e1 e2 e3 e4 e5
  exact⟨⟨s,b,x,y,z,CA,cn,cc,C⟩,by rw [e0,e1,e2.1,e2.2.1,e2.2.2.1,e2.2.2.2,e3.1,e3.2.1,e3.2.2.1,e3.2.2.2,e4.1,e4.2.1,e4.2.2.1,e4.2.2.2,e5];rfl,s1,ox,oy,oz,hc⟩
theorem uz{H:Type}{enc:TypeId × Value->H}{w:World}{b b0:Nat}{sp:Nat->Bool}{hd:Bool}{v:Value}{d:DataW H}{ps:List MemPlace}{r:Reach}
 (hv:Value.okWide Tryz.prog w r b0 29 v) (h:DataW.Trod enc Tryz.prog w b sp hd 29 v d ps):∃p:Pol,v=p.v/\ag w p:=by
 obtain⟨cs,rfl,_⟩:=okWide_struct Tryz.underlying29 hv;obtain⟨x,e,h1⟩:=yt (eU h);refine⟨x,?_,h1⟩;obtain⟨l⟩:=cs;simp only [Value.cells] at e;unfold Pol.v;rw [e];rfl
structure Pa(w:World)(a:Addr)(p:Pol):Prop where
 c0:w.cell? a=some (.string p.name)
 c1:w.cell? ⟨a.block,a.off+1,none⟩=some (.bool p.forbid)
 c2:w.cell? ⟨a.block,a.off+2,none⟩=some (.int .i64 p.who.op)
 c3:w.cell? ⟨a.block,a.off+3,none⟩=some (.string p.who.t)
 c4:w.cell? ⟨a.block,a.off+4,none⟩=some (.string p.who.u.1)
 c5:w.cell? ⟨a.block,a.off+5,none⟩=some (.string p.who.u.2)
 c6:w.cell? ⟨a.block,a.off+6,none⟩=some (.int .i64 p.act.op)
 c7:w.cell? ⟨a.block,a.off+7,none⟩=some (.string p.act.t)
 c8:w.cell? ⟨a.block,a.off+8,none⟩=some (.string p.act.u.1)
 c9:w.cell? ⟨a.block,a.off+9,none⟩=some (.string p.act.u.2)
 c10:w.cell? ⟨a.block,a.off+10,none⟩=some (.int .i64 p.what.op)
 c11:w.cell? ⟨a.block,a.off+11,none⟩=some (.string p.what.t)
 c12:w.cell? ⟨a.block,a.off+12,none⟩=some (.string p.what.u.1)
 c13:w.cell? ⟨a.block,a.off+13,none⟩=some (.string p.what.u.2)
 c14:w.cell? ⟨a.block,a.off+14,none⟩=some (.slice p.CA p.cn p.cc)
theorem Pa.keep{w w':World}{a:Addr}{x:Pol}(h:Pa w a x)(hb:Below w.heap.size w w'):Pa w' a x:=⟨zb hb h.c0,zb hb h.c1,zb hb h.c2,zb hb h.c3,zb hb h.c4,zb hb h.c5,zb hb h.c6,zb hb h.c7,zb hb h.c8,zb hb h.c9,zb hb h.c10,zb hb h.c11,zb hb h.c12,zb hb h.c13,zb hb h.c14⟩
theorem Jt{w:World}{a:Addr}{p:Pol}(h:∀j u,p.cs[j]?=some u->w.cell? (a.add j)=some u):Pa w a p:=by
 refine⟨h 0 _ rfl,?_,?_,?_,?_,?_,?_,?_,?_,?_,?_,?_,?_,?_,?_⟩
 all_goals
  first|exact h 1 _ rfl|exact h 2 _ rfl|exact h 3 _ rfl|exact h 4 _ rfl|exact h 5 _ rfl|exact h 6 _ rfl|exact h 7 _ rfl|exact h 8 _ rfl|exact h 9 _ rfl|exact h 10 _ rfl|exact h 11 _ rfl|exact h 12 _ rfl|exact h 13 _ rfl|exact h 14 _ rfl
structure Pls(w:World)(A:Option Addr)(n c:Nat)(L:List Pol):Prop where
 len:n=L.length
 cap:n<=c
 max:n<=maxLen
 at_:∀(k:Nat) (p:Pol),L[k]?=some p->∃a,A=some a/\Pa w (a.add (k*15)) p/\ag w p
theorem Pls.keep{w w':World}{A:Option Addr}{n c:Nat}{L:List Pol}(h:Pls w A n c L)(hb:Below w.heap.size w w'):Pls w' A n c L :=
 ⟨h.len,h.cap,h.max,λk x hx=>let ⟨a,h1,h2,h3⟩:=h.at_ k x hx;⟨a,h1,h2.keep hb,h3.keep hb⟩⟩
structure Vp(w:World)(b:Nat)(p:Pol):Prop where
 c0:w.cell? ⟨b,0,none⟩=some (.string p.name)
 c1:w.cell? ⟨b,1,none⟩=some (.bool p.forbid)
 c2:w.cell? ⟨b,2,none⟩=some (.int .i64 p.who.op)
 c3:w.cell? ⟨b,3,none⟩=some (.string p.who.t)
 c4:w.cell? ⟨b,4,none⟩=some (.string p.who.u.1)
 c5:w.cell? ⟨b,5,none⟩=some (.string p.who.u.2)
 c6:w.cell? ⟨b,6,none⟩=some (.int .i64 p.act.op)
 c7:w.cell? ⟨b,7,none⟩=some (.string p.act.t)
 c8:w.cell? ⟨b,8,none⟩=some (.string p.act.u.1)
 c9:w.cell? ⟨b,9,none⟩=some (.string p.act.u.2)
 c10:w.cell? ⟨b,10,none⟩=some (.int .i64 p.what.op)
 c11:w.cell? ⟨b,11,none⟩=some (.string p.what.t)
 c12:w.cell? ⟨b,12,none⟩=some (.string p.what.u.1)
 c13:w.cell? ⟨b,13,none⟩=some (.string p.what.u.2)
 c14:w.cell? ⟨b,14,none⟩=some (.slice p.CA p.cn p.cc)
theorem Vp.keep{w w':World}{b:Nat}{x:Pol}(h:Vp w b x)(hb:Below w.heap.size w w'):Vp w' b x:=⟨zb hb h.c0,zb hb h.c1,zb hb h.c2,zb hb h.c3,zb hb h.c4,zb hb h.c5,zb hb h.c6,zb hb h.c7,zb hb h.c8,zb hb h.c9,zb hb h.c10,zb hb h.c11,zb hb h.c12,zb hb h.c13,zb hb h.c14⟩
theorem rx(w:World)(p:Pol)(t:TypeId):Vp (w.alloc (.cells #[.string p.name,.bool p.forbid,.int .i64 p.who.op,.string p.who.t,.string p.who.u.1,.string p.who.u.2,.int .i64 p.act.op,.string p.act.t,.string p.act.u.1,.string p.act.u.2,.int .i64 p.what.op,.string p.what.t,.string p.what.u.1,.string p.what.u.2,.slice p.CA p.cn p.cc] t)) w.heap.size p :=
 ⟨zr (heap_alloc_last w _) rfl,zr (heap_alloc_last w _) rfl,zr (heap_alloc_last w _) rfl,zr (heap_alloc_last w _) rfl,zr (heap_alloc_last w _) rfl,zr (heap_alloc_last w _) rfl,zr (heap_alloc_last w _) rfl,zr (heap_alloc_last w _) rfl,zr (heap_alloc_last w _) rfl,zr (heap_alloc_last w _) rfl,zr (heap_alloc_last w _) rfl,zr (heap_alloc_last w _) rfl,zr (heap_alloc_last w _) rfl,zr (heap_alloc_last w _) rfl,zr (heap_alloc_last w _) rfl⟩
theorem bT(w:World)(p:Pol)(t:TypeId):Below w.heap.size w (w.alloc (.cells #[.string p.name,.bool p.forbid,.int .i64 p.who.op,.string p.who.t,.string p.who.u.1,.string p.who.u.2,.int .i64 p.act.op,.string p.act.t,.string p.act.u.1,.string p.act.u.2,.int .i64 p.what.op,.string p.what.t,.string p.what.u.1,.string p.what.u.2,.slice p.CA p.cn p.cc] t)):=za w _
end Go.Proofs.YthidiimbeaabhaaGreatDoor
namespace Go.Proofs.YthidiimbeaabhaaGreatDoor
open Go.RowKit Go.Wk Go.Sort
structure Bxs(w:World)(b:Nat)(L:List Value):Prop where
 lt:b<w.heap.size
 c:∀j u,L[j]?=some u->w.cell? ⟨b,j,none⟩=some u
 z:∀j,w.frozen? ⟨b,j,none⟩=false
theorem jF(w:World)(cs:Array Value)(t:TypeId):Bxs (w.alloc (.cells cs t)) w.heap.size cs.toList :=
 ⟨by simp,λj u h=>CM w cs t j (by simpa using h),λj=>by simp⟩
theorem Bxs.keep{w w':World}{b:Nat}{L:List Value}(h:Bxs w b L)(hb:Below w.heap.size w w'):Bxs w' b L :=
 ⟨Nat.lt_of_lt_of_le h.lt hb.size,λj u hj=>zb hb (h.c j u hj),λj=>by rw [(oa hb).2 b j h.lt];exact h.z j⟩
theorem Bxs.set{w:World}{b:Nat}{L:List Value}(h:Bxs w b L)(j:Nat)(y:Value)(hj:j<L.length):Bxs (w.setCell ⟨b,j,none⟩ y) b (L.set j y):=by
 refine⟨by simpa using h.lt,λk u hk=>?_,λk=>by rw [World.frozen?_setCell];exact h.z k⟩;rw [List.getElem?_set] at hk;by_cases e:j=k
 ·subst e;rw [if_pos rfl,if_pos hj] at hk;injection hk with hk;subst hk;exact World.cell?_setCell_same _ _ _ (h.c j _ (List.getElem?_eq_getElem hj))
 ·rw [if_neg e] at hk;exact(World.cell?_setCell_other _ ⟨b,j,none⟩ ⟨b,k,none⟩ _ (by intro q;injection q with _ q;exact e q)).trans (h.c k u hk)
theorem Bxs.other{w:World}{b:Nat}{L:List Value}(h:Bxs w b L)(g j:Nat)(y:Value)(hn:g≠b):Bxs (w.setCell ⟨g,j,none⟩ y) b L :=
 ⟨by simpa using h.lt,λk u hk=>(World.cell?_setCell_other _ ⟨g,j,none⟩ ⟨b,k,none⟩ _ (by intro q;injection q with q _;exact hn q)).trans (h.c k u hk),λk=>by rw [World.frozen?_setCell];exact h.z k⟩
theorem Bxs.but{w w':World}{b:Nat}{L:List Value}{g:Option Nat}(h:Bxs w b L)(hg:w.grownBy w' g)(hn:some b≠g):Bxs w' b L :=
 have hb:=hg.block b h.lt hn
 ⟨Nat.lt_of_lt_of_le h.lt hg.size,λj u hj=>(World.cell?_of_block (a:=⟨b,j,none⟩) hb).trans (h.c j u hj),λj=>(World.frozen?_of_block (a:=⟨b,j,none⟩) hb).trans (h.z j)⟩
theorem Bxs.vp{w:World}{b:Nat}{p:Pol}(h:Bxs w b p.cs):Vp w b p :=
 ⟨h.c 0 _ rfl,h.c 1 _ rfl,h.c 2 _ rfl,h.c 3 _ rfl,h.c 4 _ rfl,h.c 5 _ rfl,h.c 6 _ rfl,h.c 7 _ rfl,h.c 8 _ rfl,h.c 9 _ rfl,h.c 10 _ rfl,h.c 11 _ rfl,h.c 12 _ rfl,h.c 13 _ rfl,h.c 14 _ rfl⟩
theorem Vp.and{w:World}{b:Nat}{p:Pol}(h:Vp w b p):w.cell? ⟨b,0,none⟩=some (.string p.name)/\w.cell? ⟨b,1,none⟩=some (.bool p.forbid)/\w.cell? ⟨b,2,none⟩=some (.int .i64 p.who.op)/\w.cell? ⟨b,3,none⟩=some (.string p.who.t)/\w.cell? ⟨b,4,none⟩=some (.string p.who.u.1)/\w.cell? ⟨b,5,none⟩=some (.string p.who.u.2)/\w.cell? ⟨b,6,none⟩=some (.int .i64 p.act.op)/\w.cell? ⟨b,7,none⟩=some (.string p.act.t)/\w.cell? ⟨b,8,none⟩=some (.string p.act.u.1)/\w.cell? ⟨b,9,none⟩=some (.string p.act.u.2)/\w.cell? ⟨b,10,none⟩=some (.int .i64 p.what.op)/\w.cell? ⟨b,11,none⟩=some (.string p.what.t)/\w.cell? ⟨b,12,none⟩=some (.string p.what.u.1)/\w.cell? ⟨b,13,none⟩=some (.string p.what.u.2)/\w.cell? ⟨b,14,none⟩=some (.slice p.CA p.cn p.cc):=
 ⟨h.c0,h.c1,h.c2,h.c3,h.c4,h.c5,h.c6,h.c7,h.c8,h.c9,h.c10,h.c11,h.c12,h.c13,h.c14⟩
theorem Bxs.sc{w:World}{b:Nat}{x0 x1 x2 x3:Value}(h:Bxs w b [x0,x1,x2,x3]):w.cell? ⟨b,0,none⟩=some x0/\w.cell? ⟨b,1,none⟩=some x1/\w.cell? ⟨b,2,none⟩=some x2/\w.cell? ⟨b,3,none⟩=some x3 :=
 ⟨h.c 0 _ rfl,h.c 1 _ rfl,h.c 2 _ rfl,h.c 3 _ rfl⟩
end Go.Proofs.YthidiimbeaabhaaGreatDoor
