/-
  The laws' op: a node ahead of the nodes of its parts; what is the same. What ..
-/
import Derived.Test.YthidiimbeaabhaaGreatDoorQ36
set_option maxRecDepth 100000
set_option maxHeartbeats 4000000
namespace Go.Proofs.YthidiimbeaabhaaGreatDoor
open Go.RowKit Go.Wk Go.Sort
def FS:ByteArray:=⟨#[0x41]⟩
def qY:Ud:=(FS,emp)
def Gs:List Nd := [⟨6,0,emp,emp⟩]
def Ir(b:Nat):Rq:=⟨qY,qY,qY,some ⟨b,0,none⟩,1,1,Gs⟩
def dC:Env:=⟨[],qY,qY,qY,Gs⟩
theorem tZ:up0 dC=0:=by
 unfold up0;have h1:zQ dC.E=0:=by
  rw [gi];refine⟨by simp [dC],rfl,?_⟩;rintro ⟨y,hy,-⟩;simp [dC] at hy
 rw [h1,zn];decide
theorem Ga(w:World):Es w none 0 0 []:=⟨rfl,Nat.le_refl _,Nat.zero_le _,λk x hx=>by simp at hx⟩
def da:Pol:=⟨⟨#[97]⟩,false,⟨0,emp,noU⟩,⟨0,emp,noU⟩,⟨0,emp,noU⟩,none,0,0,[]⟩
def bG:Ex := .node ⟨1,1,emp,emp⟩ .nil
def Cc:Ex:=ex2 11 (ex2 11 bG bG) bG
theorem yv:jR da=Cc.flat:=rfl
theorem uP:ju dC (jR da)= .ok (zw true):=by
 have tv:bG.valid false:=⟨by decide,by decide,trivial⟩
 have pv:Cc.valid false:=i3 (o:=false) (i3 (o:=false) tv tv) tv;have ht:evX dC bG = .ok (zw true):=by
  unfold bG;rw [evX,if_pos (show(1:Int)<=1/\(1:Int)<=4 by decide)];rfl
 rw [yv,yc pv (by decide),if_pos tZ];have h1:=pI dC false bG bG;have h2:=pI dC false (ex2 11 bG bG) bG;unfold Cc;rw [show ex2 11 (ex2 11 bG bG) bG=ex2 (if false=true then 12 else 11) (ex2 11 bG bG) bG from rfl,h2];rw [show ex2 11 bG bG=ex2 (if false=true then 12 else 11) bG bG from rfl,h1,ht];rfl
theorem pX:jt dC da=(true,false):=by
 unfold jt;rw [uP];rfl
theorem DV:jN [da]=0:=by decide +kernel
theorem vW:jf [] [da] qY qY qY Gs=0:=by
 have h:=tZ;unfold up0 at h;obtain⟨h1,h2⟩:=zt.1 h;unfold jf;rw [show zQ []=0 from h1,zn,DV,zn];exact h2
theorem Ft:(byX dC [da]).length=1:=(DY dC da).2 (by rw [pX];exact⟨rfl,rfl⟩)
theorem vR:ct dC [da]=true:=by rw [pP,pX];rfl
theorem EC(w:World):ag w da:=⟨by decide,⟨by decide,by decide,by decide⟩,⟨by decide,by decide,by decide⟩,⟨by decide,by decide,by decide⟩,⟨rfl,Nat.le_refl _,Nat.zero_le _,λk x hx=>by simp [da] at hx⟩⟩
theorem xy(w:World)(p:Pol)(h:ag w p):Pls (w.alloc (.cells #[.string p.name,.bool p.forbid,.int .i64 p.who.op,.string p.who.t,.string p.who.u.1,.string p.who.u.2,.int .i64 p.act.op,.string p.act.t,.string p.act.u.1,.string p.act.u.2,.int .i64 p.what.op,.string p.what.t,.string p.what.u.1,.string p.what.u.2,.slice p.CA p.cn p.cc] 29)) (some ⟨w.heap.size,0,none⟩) 1 1 [p] :=
 ⟨rfl,Nat.le_refl _,by unfold maxLen;omega,λk x hx=>by
  match k,hx with
  | 0,hx =>
   simp at hx;subst hx
   have X:=jF w #[.string p.name,.bool p.forbid,.int .i64 p.who.op,.string p.who.t,.string p.who.u.1,.string p.who.u.2,.int .i64 p.act.op,.string p.act.t,.string p.act.u.1,.string p.act.u.2,.int .i64 p.what.op,.string p.what.t,.string p.what.u.1,.string p.what.u.2,.slice p.CA p.cn p.cc] 29
   refine⟨_,rfl,Jt (λj u hj=>?_),h.keep (za w _)⟩
   have:=X.c j u hj
   rw [show((⟨w.heap.size,0,none⟩:Addr).add (0*15)).add j=⟨w.heap.size,j,none⟩ by by_cases e:j=0 <;> simp [Addr.add,e]]
   exact this
  | k+1,hx=>simp at hx⟩
theorem oM(w:World)(hg:aU w):Calls Tryz.prog 6 #[] w λe w'=>e = .returned (.bool true)/\Below w.heap.size w w':=by
 have b1:=za w (.cells #[.string ⟨#[65]⟩,.string ⟨#[]⟩] 24);have X1:=jF w #[.string ⟨#[65]⟩,.string ⟨#[]⟩] 24;have hz1:(w.alloc (.cells #[.string ⟨#[65]⟩,.string ⟨#[]⟩] 24)).heap.size=w.heap.size+1:=by simp
 obtain⟨w1,rR⟩:∃w1,w.alloc (.cells #[.string ⟨#[65]⟩,.string ⟨#[]⟩] 24)=w1:=⟨_,rfl⟩
 rw [rR] at b1 X1 hz1;have b2:=za w1 (.cells #[.string ⟨#[97]⟩,.bool false,.int .i64 0,.string ⟨#[]⟩,.string ⟨#[]⟩,.string ⟨#[]⟩,.int .i64 0,.string ⟨#[]⟩,.string ⟨#[]⟩,.string ⟨#[]⟩,.int .i64 0,.string ⟨#[]⟩,.string ⟨#[]⟩,.string ⟨#[]⟩,.slice none 0 0] 29);have hz2:(w1.alloc (.cells #[.string ⟨#[97]⟩,.bool false,.int .i64 0,.string ⟨#[]⟩,.string ⟨#[]⟩,.string ⟨#[]⟩,.int .i64 0,.string ⟨#[]⟩,.string ⟨#[]⟩,.string ⟨#[]⟩,.int .i64 0,.string ⟨#[]⟩,.string ⟨#[]⟩,.string ⟨#[]⟩,.slice none 0 0] 29)).heap.size=w.heap.size+1+1:=by simp [hz1]
 have hP:Pls (w1.alloc (.cells #[.string ⟨#[97]⟩,.bool false,.int .i64 0,.string ⟨#[]⟩,.string ⟨#[]⟩,.string ⟨#[]⟩,.int .i64 0,.string ⟨#[]⟩,.string ⟨#[]⟩,.string ⟨#[]⟩,.int .i64 0,.string ⟨#[]⟩,.string ⟨#[]⟩,.string ⟨#[]⟩,.slice none 0 0] 29)) (some ⟨w1.heap.size,0,none⟩) 1 1 [da]:=xy w1 da (EC w1);rw [hz1] at hP;obtain⟨w2,hw2⟩:∃w2,w1.alloc (.cells #[.string ⟨#[97]⟩,.bool false,.int .i64 0,.string ⟨#[]⟩,.string ⟨#[]⟩,.string ⟨#[]⟩,.int .i64 0,.string ⟨#[]⟩,.string ⟨#[]⟩,.string ⟨#[]⟩,.int .i64 0,.string ⟨#[]⟩,.string ⟨#[]⟩,.string ⟨#[]⟩,.slice none 0 0] 29)=w2:=⟨_,rfl⟩
 rw [hw2] at b2 hz2 hP;have b3:=za w2 (.cells #[.int .i64 6,.int .i64 0,.string ⟨#[]⟩,.string ⟨#[]⟩] 47);have hN:Ns (w2.alloc (.cells #[.int .i64 6,.int .i64 0,.string ⟨#[]⟩,.string ⟨#[]⟩] 47)) (some ⟨w2.heap.size,0,none⟩) 1 1 Gs:=dS w2 ⟨6,0,emp,emp⟩ ⟨Nat.zero_le _,Nat.zero_le _,by decide,by decide⟩;rw [hz2] at hN;have B3:=O ((b1.trans (b2.mono b1.size)).trans (b3.mono (b1.trans (b2.mono b1.size)).size));have hP3:=hP.keep b3;have hQ:dT (w2.alloc (.cells #[.int .i64 6,.int .i64 0,.string ⟨#[]⟩,.string ⟨#[]⟩] 47)) (Ir (w.heap.size+1+1)):=⟨(show FS.size<=maxLen by decide),(show emp.size<=maxLen by decide),(show FS.size<=maxLen by decide),(show emp.size<=maxLen by decide),(show FS.size<=maxLen by decide),(show emp.size<=maxLen by decide),hN⟩
 have K:=O (tY none 0 0 [] (some ⟨w.heap.size+1,0,none⟩) 1 1 [da] (Ir (w.heap.size+1+1)) _ (Ga _) hP3 hQ (hg.keep B3.o));have HW1:=O rR;have Kt:=O hw2;obtain⟨u0,u1⟩:=(show w1.cell? ⟨w.heap.size,0,none⟩=some (.string ⟨#[65]⟩)/\w1.cell? ⟨w.heap.size,1,none⟩=some (.string ⟨#[]⟩) from⟨X1.c 0 _ rfl,X1.c 1 _ rfl⟩)
 unfold Ir Rq.v at K;dsimp only at K;clear b1 b2 b3 hz1 hz2 hP hP3 hN hQ hg X1 rR hw2 u0 u1;go_enter Tryz.func6,Tryz.ntmps6;go_wp2_with fail;rw [HW1.o,Kt.o];refine K.o.mono ?_;rintro e w4 jS;have jS:cm (w2.alloc (.cells #[.int .i64 6,.int .i64 0,.string ⟨#[]⟩,.string ⟨#[]⟩] 47)) 0 (ct dC [da]) (byX dC [da]) (cX dC [da]) e w4:=by
  rcases jS with ⟨-,h⟩|⟨h,-⟩
  ·exact h
  ·exact absurd vW h
 obtain⟨A4,n4,c4,D4,m4,d4,rfl,hB,-,b4⟩:=jS;have hn4:n4=1:=by rw [hB.len,Ft]
 subst hn4;rw [vR,zf];have B4:=bh B3 b4;have B5:=bh B4 (za w4 (.cells #[.bool true,.slice A4 1 c4,.slice D4 m4 d4] 40));clear hB b4 K B3 HW1 Kt;go_wp2_with fail;go_ret;exact⟨rfl,B5.o⟩
theorem GV(a:Addr)(x d:Nat)(hd:0<d):(⟨(a.add x).block,(a.add x).off+d,none⟩:Addr)=a.add (x+d):=by
 unfold Addr.add;by_cases hx:x=0
 ·subst hx;simp;omega
 ·simp [hx,Nat.add_assoc]
def jG:List Cnd->List Value
 | [] => []
 | x :: E => .bool x.un :: .slice x.A x.n x.c :: jG E
@[simp] theorem fQ (E:List Cnd):(jG E).length=E.length*2:=by
 induction E with
 | nil=>rfl
 | cons x E ih=>simp only [jG,List.length_cons,ih];omega
theorem cdCells_append(U V:List Cnd):jG (U ++ V)=jG U ++ jG V:=by
 induction U with
 | nil=>rfl
 | cons u U ih=>simp only [List.cons_append,jG,ih]
theorem sf(E:List Cnd):∀v∈jG E,v.oneCell'=true:=by
 induction E with
 | nil=>intro v hv;cases hv
 | cons u U ih =>
  intro v hv
  simp only [jG,List.mem_cons] at hv
  rcases hv with rfl|rfl|hv
  ·rfl
  ·rfl
  ·exact ih v hv
theorem eJ:∀(E:List Cnd) (k:Nat) (x:Cnd),E[k]?=some x->(jG E)[k*2]?=some (.bool x.un)/\(jG E)[k*2+1]?=some (.slice x.A x.n x.c)
 | [],k,x,h=>by simp at h
 | y :: E,0,x,h=>by
  simp at h;subst h;exact⟨rfl,rfl⟩
 | y :: E,k+1,x,h=>by
  have:=eJ E k x (by simpa using h);rw [show(k+1)*2=k*2+1+1 by omega];simpa [jG] using this
theorem Cs.cells{w:World}{a:Addr}{n c:Nat}{E:List Cnd}(h:Cs w (some a) n c E):∀j u,(jG E)[j]?=some u->w.cell? (a.add j)=some u:=by
 intro j u hu;have hl:=fQ E;have hj:j<(jG E).length:=(List.getElem?_eq_some_iff.1 hu).1;have hk:j / 2<E.length:=by omega
 obtain⟨h1,h2⟩:=eJ E (j / 2) E[j / 2] (List.getElem?_eq_getElem hk);obtain⟨b,e,q1,q2,-⟩:=h.at_ (j / 2) E[j / 2] (List.getElem?_eq_getElem hk);injection e with e;subst e;have hr:j % 2=0\/j % 2=1:=by omega
 rcases hr with hr|hr
 ·have e:j=j / 2*2:=by omega
  rw [<-e] at h1 q1;rw [hu] at h1;rw [h1];exact q1
 ·have e:j=j / 2*2+1:=by omega
  rw [GV _ _ _ (by omega),<-e] at q2;rw [<-e] at h2;rw [hu] at h2;rw [h2];exact q2
theorem H':(Tryz.prog.info? 57).map (λi=>(i.zero,i.size,i.bytes))=some (some (.agg #[.bool false,.slice none 0 0]),2,32):=by kernel_rfl
structure kB(w:World)(base:Nat)(v:Value)(C:List Cnd):Prop where
 own:w.ownsRow base 57 2 v C.length (jG C)
 each:∀x∈C,Ns w x.A x.n x.c x.P
 apart:∀x∈C,0<x.P.length->∀a,x.A=some a->v.ownBlock≠some a.block
theorem kB.keepN{w w':World}{base:Nat}{v:Value}{C:List Cnd}(h:kB w base v C)(hb:Below w.heap.size w w'):kB w' base v C :=
 ⟨h.own.kept (zj hb none) (by cases hv:v.ownBlock <;> simp),λx hx=>(h.each x hx).keep hb,h.apart⟩
theorem kB.cs{w:World}{base:Nat}{v:Value}{C:List Cnd}(h:kB w base v C)(hl:C.length<=1000000):∃A c,v = .slice A C.length c/\Cs w A C.length c C/\(0<C.length->∃g,A=some ⟨g,0,none⟩/\base<=g)/\(∀a,A=some a->base<=a.block):=by
 rcases h.own.2 with ⟨rfl,h0⟩|⟨g,cap,cur,rfl,hB,hg,hc,hcm,_⟩
 ·have e:C = []:=List.eq_nil_of_length_eq_zero h0;subst e;exact⟨none,0,rfl,⟨rfl,Nat.le_refl _,Nat.zero_le _,λk x hx=>by simp at hx⟩,λq=>absurd q (Nat.lt_irrefl 0),λa e=>nomatch e⟩
 ·refine⟨some ⟨g,0,none⟩,cap,rfl,⟨rfl,hc,by unfold maxLen;omega,λk x hx=>?_⟩,λ_=>⟨g,rfl,hB⟩,λa e=>by injection e with e;subst e;exact hB⟩;obtain⟨h1,h2⟩:=eJ C k x hx;refine⟨_,rfl,h.own.cells (g:=g) rfl _ _ h1,?_,h.each x (List.mem_of_getElem? hx)⟩;rw [GV _ _ _ (by omega)];exact h.own.cells (g:=g) rfl _ _ h2
def Im(w:World)(C:List Cnd)(e:Ending)(w':World):Prop:=∃v,e = .returned v/\kB w' w.heap.size v C/\Below w.heap.size w w'
theorem uo(A:Option Addr)(n c:Nat)(C:List Cnd)(w:World)(hm:n<=1000)(h:Cs w A n c C):
 Calls Tryz.prog 21 #[.slice A n c] w (Im w C):=by
 obtain⟨i0,hi,hz0,hz1,hz2⟩:=info_parts H';have hn:=h.len;subst hn;rcases A with _|a
 ·have h0:C = []:=by
   rcases C with _|⟨r,C⟩
   ·rfl
   ·obtain⟨a,e,-⟩:=h.at_ 0 r rfl;cases e
  subst h0;have hnil:=λw:World=>Lib.run_eql_slice_nil (P:=Tryz.prog) w 27 57 none 0 c 0 0 Tryz.underlying27;simp only [Option.isNone_none] at hnil;show Calls _ _ #[.slice none 0 c] w _;clear h;go_enter Tryz.func21,Tryz.ntmps21;go_wp2_with fail;go_ret;exact⟨_,rfl,⟨World.ownsRow_nil _ _ _ _,(by intro x hx;cases hx),(by intro x hx;cases hx)⟩,Below.refl _ _⟩
 ·have hnil:=λw:World=>Lib.run_eql_slice_nil (P:=Tryz.prog) w 27 57 (some a) C.length c 0 0 Tryz.underlying27;simp only [Option.isNone_some] at hnil;have HC:=O (λw' hb=>(h.keep (w':=w') hb).cells);have HE:=O (show∀x∈C,Ns w x.A x.n x.c x.P from λx hx=>by
   obtain⟨k,hk,rfl⟩:=List.getElem_of_mem hx
   obtain⟨-,-,-,-,q⟩:=h.at_ k _ (List.getElem?_eq_getElem hk)
   exact q)
  have hB:∀W:World,(W.alloc (.cells #[] 57)).ownsRow W.heap.size 57 2 (.slice (some ⟨W.heap.size,0,none⟩) 0 0) 0 []:=λW =>
   ⟨rfl,.inr ⟨_,0,#[],rfl,Nat.le_refl _,heap_alloc_new W _,Nat.le_refl _,by unfold maxLen;omega,rfl,rfl⟩⟩
  clear h;go_enter Tryz.func21,Tryz.ntmps21;go_wp2_with (at_builtin;refine wpList_append_own_at _ rfl _ _ 27 rfl w.heap.size 57 i0 _ 2 32 Tryz.underlying27 hi hz0 hz1 hz2 rfl (by decide) _ 0 [] rfl (hB w) a C.length c (jG C) rfl (fQ C) (HC.o _ (za _ _)) (sf C) ?c1 ?c2 ?c3 ?_)
  case c1=>unfold maxLen;omega
  case c2=>omega
  case c3=>simp
  intro v1 w1 hown hgrow _ hat;have B1:=O ((za w (.cells #[] 57)).grown hgrow (by simp) (λk hk=>by simp [Value.ownBlock] at hk;omega));have O1:=O (show kB w1 w.heap.size v1 C from⟨by simpa using hown,λx hx=>(HE.o x hx).keep B1.o,λx hx h0 a' ea q=>by
   have:=jb hown a'.block q
   have:=(HE.o x hx).at_.lt h0 a' ea
   omega⟩)
  clear hown hgrow hat hnil;go_wp2_with fail;go_ret;exact⟨_,rfl,O1.o,B1.o⟩
end Go.Proofs.YthidiimbeaabhaaGreatDoor
namespace Go.Proofs.YthidiimbeaabhaaGreatDoor
open Go.RowKit Go.Wk
structure ci(p q:Pol):Prop where
 name:p.name=q.name
 forbid:p.forbid=q.forbid
 who:p.who=q.who
 act:p.act=q.act
 what:p.what=q.what
 C:(p.C.map λc=>(c.un,c.P))=q.C.map λc=>(c.un,c.P)
def cnP(x:Bool × List Nd):List Nd:=if x.1 then bg 9 :: x.2 else x.2
theorem qe(C:List Cnd):C.map cZ=(C.map λc=>(c.un,c.P)).map cnP:=by
 rw [List.map_map];rfl
theorem lu:∀ {C D:List Cnd},(C.map λc=>(c.un,c.P))=(D.map λc=>(c.un,c.P))->am C=am D
 | [],[],_=>rfl
 | [],_ :: _,h=>by simp at h
 | _ :: _,[],h=>by simp at h
 | c :: C,d :: D,h=>by
  rw [List.map_cons,List.map_cons] at h;injection h with h1 h2;injection h1 with h3 h4;unfold am;rw [lu h2];unfold lG;rw [h4]
theorem ci.expr{p q:Pol}(h:ci p q):jR p=jR q:=by
 unfold jR;rw [qe,qe,h.C,h.who,h.act,h.what]
theorem ci.polF{p q:Pol}(h:ci p q):polF p=polF q:=by
 have hl:p.C.length=q.C.length:=by
  have:=congrArg List.length h.C;simpa using this
 unfold Proofs.YthidiimbeaabhaaGreatDoor.polF;rw [h.name,h.who,h.act,h.what,hl,lu h.C]
theorem ci.exprF{p q:Pol}(h:ci p q):exprF p=exprF q:=by
 unfold Proofs.YthidiimbeaabhaaGreatDoor.exprF;rw [h.polF,h.expr]
theorem ci.vote{p q:Pol}(h:ci p q)(σ:Env):jt σ p=jt σ q:=by
 unfold jt;rw [h.expr]
def se:List Pol->List Pol->Prop
 | [],[]=>True
 | p :: r,q :: s=>ci p q/\se r s
 | _,_=>False
theorem gG{f g:Pol->Bool}:∀ {ps qs:List Pol},se ps qs->(∀p q,ci p q->f p=g q)->(ps.filter f).map Pol.name=(qs.filter g).map Pol.name
 | [],[],_,_=>rfl
 | p :: r,q :: s,h,hf=>by
  have h1:=hf p q h.1;have h2:=gG h.2 hf;rw [List.filter_cons,List.filter_cons,h1];cases g q
  ·simpa using h2
  ·simp [h2,h.1.name]
 | [],_ :: _,h,_=>h.elim
 | _ :: _,[],h,_=>h.elim
theorem se.ans{ps qs:List Pol}(h:se ps qs)(σ:Env):cX σ ps=cX σ qs/\byX σ ps=byX σ qs/\ct σ ps=ct σ qs:=by
 have h1:cX σ ps=cX σ qs:=gG h λp q e=>by rw [e.vote σ]
 have h2:eK σ ps=eK σ qs:=gG h λp q e=>by rw [e.vote σ,e.forbid]
 have h3:gw σ ps=gw σ qs:=gG h λp q e=>by rw [e.vote σ,e.forbid]
 refine⟨h1,?_,?_⟩
 ·unfold byX;rw [h2,h3]
 ·unfold ct;rw [h2,h3]
end Go.Proofs.YthidiimbeaabhaaGreatDoor
