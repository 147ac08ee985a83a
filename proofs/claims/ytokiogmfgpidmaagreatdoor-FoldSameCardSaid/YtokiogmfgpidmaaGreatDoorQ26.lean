/-
  A value is an expression, and its value is it. No program in sight. Plain: what ..
-/
import Derived.Test.YtokiogmfgpidmaaGreatDoorQ13
import Derived.Test.YtokiogmfgpidmaaGreatDoorQ25
set_option maxRecDepth 100000
namespace Go.Proofs.YtokiogmfgpidmaaGreatDoor
open Go.RowKit Go.Wk
def gq:List Ex->Exs
 | [] => .nil
 | x :: r => .cons x (gq r)
theorem pB:∀L:List Ex,(gq L).len=L.length
 | []=>rfl
 | x :: r=>by simp only [gq,Exs.len,pB r,List.length_cons]
theorem mo:∀L:List Ex,(gq L).flat=(L.map Ex.flat).flatten
 | []=>rfl
 | x :: r=>by simp only [gq,Exs.flat,mo r,List.map_cons,List.flatten_cons]
theorem lr:∀(L:List Ex) (s:ByteArray),(∀x∈L,x.valid false)->(gq L).valid false s
 | [],_,_=>trivial
 | x :: r,s,h=>⟨λe=>Bool.noConfusion e,h x (by simp),lr r _ λy hy=>h y (by simp [hy])⟩
theorem Fz(σ:Env):∀(L:List Ex),(∀x∈L,evX σ x = .ok x.flat)->evS σ (gq L)= .ok (L.map Ex.flat)
 | [],_=>by simp only [gq,evS,List.map_nil]
 | x :: r,h=>by simp only [gq,evS,h x (by simp),Fz σ r λy hy=>h y (by simp [hy]),List.map_cons]
theorem s7{σ:Env}:∀(L:List (List Nd)),(∀Q∈L,∃x:Ex,x.valid false/\x.flat=Q/\evX σ x = .ok Q)->∃T:List Ex,(∀x∈T,x.valid false/\evX σ x = .ok x.flat)/\T.map Ex.flat=L
 | [],_=>⟨[],λx hx=>(nomatch hx),rfl⟩
 | Q :: r,h=>by
  obtain⟨x,h1,h2,h3⟩:=h Q (by simp);obtain⟨T,h4,h5⟩:=s7 r λq hq=>h q (by simp [hq]);refine⟨x :: T,λy hy=>?_,by simp [h2,h5]⟩;rcases List.mem_cons.1 hy with rfl|hy
  ·exact⟨h1,by rw [h2];exact h3⟩
  ·exact h4 y hy
def mD(s:ByteArray)(x:Ex):Ex := .node (aX s) (.cons x .nil)
def oP:List (ByteArray × Ex)->Exs
 | [] => .nil
 | p :: r => .cons (mD p.1 p.2) (oP r)
theorem ug:∀L,(oP L).len=L.length
 | []=>rfl
 | x :: r=>by simp only [oP,Exs.len,ug r,List.length_cons]
theorem qe:∀L:List (ByteArray × Ex),(oP L).flat=zL (L.map λp=>(p.1,p.2.flat))
 | []=>rfl
 | x :: r=>by simp only [oP,Exs.flat,mD,Ex.flat,qe r,List.map_cons,zL,List.append_nil,List.cons_append]
theorem sw{s:ByteArray}{x:Ex}(hs:zh s=0)(hx:x.valid false):(mD s x).valid true:=by
 refine⟨?_,rfl,λe=>Bool.noConfusion e,hx,trivial⟩;unfold jA jd;rw [if_pos (show(1:Int)<=(aX s).op/\(aX s).op<=7 from⟨by show(1:Int)<=7;decide,by show(7:Int)<=7;decide⟩)];unfold zu aX;simp [hs,noB];rfl
theorem mJ:∀(L:List (ByteArray × Ex)) (s:ByteArray),(∀p∈L,zh p.1=0/\p.2.valid false)->UpB s (L.map λp=>(p.1,p.2.flat))->(oP L).valid true s
 | [],_,_,_=>trivial
 | p :: r,s,h,hu=>⟨λ_=>hu.1,sw (h p (by simp)).1 (h p (by simp)).2,mJ r _ (λy hy=>h y (by simp [hy])) hu.2⟩
theorem FG(σ:Env):∀(L:List (ByteArray × Ex)),(∀p∈L,evX σ p.2 = .ok p.2.flat)->evF σ (oP L)= .ok (L.map λp=>(p.1,p.2.flat))
 | [],_=>by simp only [oP,evF,List.map_nil]
 | p :: r,h=>by
  have h1:cJ σ (mD p.1 p.2)= .ok p.2.flat:=by simp only [mD,cJ,cC,h p (by simp)]
  simp only [oP,evF,h1,FG σ r λy hy=>h y (by simp [hy]),List.map_cons];rfl
theorem pF{σ:Env}:∀(L:List (ByteArray × List Nd)),(∀p∈L,∃x:Ex,x.valid false/\x.flat=p.2/\evX σ x = .ok p.2)->∃T:List (ByteArray × Ex),(∀p∈T,p.2.valid false/\evX σ p.2 = .ok p.2.flat)/\(T.map λp=>(p.1,p.2.flat))=L
 | [],_=>⟨[],λx hx=>(nomatch hx),rfl⟩
 | p :: r,h=>by
  obtain⟨x,h1,h2,h3⟩:=h p (by simp);obtain⟨T,h4,h5⟩:=pF r λq hq=>h q (by simp [hq]);refine⟨(p.1,x):: T,λy hy=>?_,by simp [h2,h5]⟩;rcases List.mem_cons.1 hy with rfl|hy
  ·exact⟨h1,by rw [h2];exact h3⟩
  ·exact h4 y hy
theorem BK(n:Nat):jA false (jI n)=true:=by
 unfold jA jd;rw [if_pos (show 1<=(jI (n:Int)).op/\(jI (n:Int)).op<=7 from(show(1:Int)<=5/\(5:Int)<=7 by decide))];unfold zu jI;simp [noB];rfl
theorem AK(n:Nat):jA false (zM n)=true:=by
 unfold jA jd;rw [if_pos (show 1<=(zM (n:Int)).op/\(zM (n:Int)).op<=7 from(show(1:Int)<=6/\(6:Int)<=7 by decide))];unfold zu zM;simp [noB];rfl
theorem nE:∀ {l:List Fld} {s:ByteArray},UpB s l->uW l/\∀x∈l,js s x.1<0
 | [],_,_=>⟨List.Pairwise.nil,λx hx=>(nomatch hx)⟩
 | x :: r,s,h=>by
  obtain⟨h1,h2⟩:=nE h.2;refine⟨List.pairwise_cons.2 ⟨h2,h1⟩,λy hy=>?_⟩;rcases List.mem_cons.1 hy with rfl|hy
  ·exact h.1
  ·exact jf.lt_le h.1 (by have:=h2 y hy;omega)
theorem AO{P:List Nd}(h:zc P=0)(h6:zf P=6):aU ((zr P).map Prod.fst) ((zr P).map Prod.snd)=0/\dJ ((zr P).map Prod.fst) ((zr P).map Prod.snd)=P:=by
 obtain⟨hl,hv⟩:=zH.1 h;obtain⟨e,-,h3,h4⟩:=eF hv h6;obtain⟨hrow,-⟩:=nE h4;have hz:((zr P).map Prod.fst).zip ((zr P).map Prod.snd)=zr P:=by
  generalize zr P=L
  induction L with
  | nil=>rfl
  | cons x r ih=>simp only [List.map_cons,List.zip_cons_cons,ih]
 have hnd:((zr P).map (·.1)).Nodup:=by
  unfold List.Nodup;rw [List.pairwise_map];refine hrow.imp λhab e=>?_;rw [e,jf.self] at hab;omega
 have hlen:(zL (zr P)).length+1<=200:=by
  have:=congrArg List.length e;simp only [List.length_cons] at this;omega
 have h0:aU ((zr P).map Prod.fst) ((zr P).map Prod.snd)=0:=by
  refine qj.2 ⟨by simp,?_,by rw [hz];exact hlen⟩;rw [hz];refine fy.2 ⟨λx hx=>⟨(h3 x hx).2,zH.2 ⟨?_,(h3 x hx).1⟩⟩,hnd,λx _ hx=>(nomatch hx)⟩;have:x.2.length<=(zL (zr P)).length:=by
   generalize zr P=L at hx
   induction L with
   | nil=>cases hx
   | cons y L ih =>
    simp only [zL,List.length_cons,List.length_append]
    rcases List.mem_cons.1 hx with rfl|hx
    ·omega
    ·have:=ih hx;omega
  omega
 refine⟨h0,?_⟩;rw [rG h0,hz];have hs:bZ (zr P)=zr P:=xZ (ka hnd) hrow λx=>(ao _).mem_iff;rw [hs,List.length_map];exact e.symm
theorem uA(σ:Env){P:List Nd}(h:zc P=0):∃x:Ex,x.valid false/\x.flat=P/\evX σ x = .ok P:=by
 obtain⟨hl,hv⟩:=zH.1 h;refine JZ (M:=λP=>P.length<=200->∃x:Ex,x.valid false/\x.flat=P/\evX σ x = .ok P) hv ?_ ?_ ?_ hl
 ·intro P hP h5 h6 _;have h1:=FW hP h5 h6
  match P,h1 with
  | [n],_ =>
   have hf:zc [n]=0:=zH.2 ⟨by simp,hP⟩
   have hsn:zu n=true/\n.op≠7:=by
    unfold IsV at hP;simp only [zm,List.getElem?_cons_zero] at hP;by_cases hs:zu n=true
    ·refine⟨hs,λh7=>?_⟩;rw [if_pos hs,if_neg (by omega),if_neg (by omega),if_pos h7] at hP;cases hP
    ·rw [if_neg hs] at hP;cases hP
   obtain⟨hs,h7⟩:=hsn
   have hop:1<=n.op/\n.op<=4:=by
    have h5':n.op≠5:=h5;have h6':n.op≠6:=h6;unfold zu at hs;by_cases h1:n.op=1
    ·omega
    ·rw [if_neg h1] at hs;by_cases h2:n.op=2
     ·omega
     ·rw [if_neg h2] at hs;by_cases h3:n.op=3
      ·omega
      ·rw [if_neg h3] at hs;by_cases h4:n.op=4
       ·omega
       ·rw [if_neg h4,if_neg (by omega),if_neg h7] at hs;cases hs
   refine⟨.node n .nil,⟨?_,?_,trivial⟩,rfl,?_⟩
   ·unfold jA
    rw [cg (by omega),hs,decide_eq_false h7];rfl
   ·unfold zt
    rw [if_neg (by omega),if_pos (by omega)];rfl
   ·unfold evX
    rw [if_pos hop]
 ·intro P hP h5 ih hl;have hf:zc P=0:=zH.2 ⟨hl,hP⟩;obtain⟨e,-,h3,-⟩:=eB hP h5;have hle:∀Q∈zq P,Q.length<=200:=λQ hQ=>by
   have h1:=yS hQ;have h2:=congrArg List.length e;simp only [List.length_cons] at h2;omega
  obtain⟨T,hT,IU⟩:=s7 (σ:=σ) (zq P) λQ hQ=>ih Q hQ (hle Q hQ);have hlen:T.length=(zq P).length:=by rw [<-IU,List.length_map]
  refine⟨.node (jI (zq P).length) (gq T),⟨BK _,?_,lr _ _ λx hx=>(hT x hx).1⟩,?_,?_⟩
  ·rw [pB,hlen];rfl
  ·rw [Ex.flat,mo,IU];exact e.symm
  ·obtain⟨-,-,s1,s2⟩:=wP hf h5;have hS:=Fz σ T λx hx=>(hT x hx).2;rw [IU] at hS;have e5:(jI ((zq P).length:Int)).op=5:=rfl;unfold evX;rw [e5,if_neg (show¬((1:Int)<=5/\(5:Int)<=4) by decide),if_neg (show¬(5:Int)=8 by decide),if_neg (show¬((5:Int)=11\/(5:Int)=12) by decide),if_neg (show¬(5:Int)=13 by decide),if_neg (show¬(5:Int)=6 by decide),hS];simp only [if_true];unfold je;rw [if_pos s1,s2]
 ·intro P hP h6 ih hl;have hf:zc P=0:=zH.2 ⟨hl,hP⟩;obtain⟨e,-,h3,h4⟩:=eF hP h6;have hle:∀x∈zr P,x.2.length<=200:=λx hx=>by
   have h2:=congrArg List.length e;simp only [List.length_cons] at h2;have:x.2.length<=(zL (zr P)).length:=by
    generalize zr P=L at hx
    induction L with
    | nil=>cases hx
    | cons y L ih =>
     simp only [zL,List.length_cons,List.length_append]
     rcases List.mem_cons.1 hx with rfl|hx
     ·omega
     ·have:=ih hx;omega
   omega
  obtain⟨T,hT,IU⟩:=pF (σ:=σ) (zr P) λp hp=>ih p hp (hle p hp);have hlen:T.length=(zr P).length:=by rw [<-IU,List.length_map]
  have C6:∀p∈T,zh p.1=0:=λp hp=>by
   have:(p.1,p.2.flat)∈zr P:=by rw [<-IU];exact List.mem_map.2 ⟨p,hp,rfl⟩
   exact(h3 _ this).2
  refine⟨.node (zM (zr P).length) (oP T),⟨AK _,?_,?_⟩,?_,?_⟩
  ·rw [ug,hlen];rfl
  ·exact mJ _ _ (λp hp=>⟨C6 p hp,(hT p hp).1⟩) (by rw [IU];exact h4)
  ·rw [Ex.flat,qe,IU];exact e.symm
  ·obtain⟨s1,s2⟩:=AO hf h6;have hS:=FG σ T λx hx=>(hT x hx).2;rw [IU] at hS;have e6:(zM ((zr P).length:Int)).op=6:=rfl;unfold evX;rw [e6,if_neg (show¬((1:Int)<=6/\(6:Int)<=4) by decide),if_neg (show¬(6:Int)=8 by decide),if_neg (show¬((6:Int)=11\/(6:Int)=12) by decide),if_neg (show¬(6:Int)=13 by decide),if_pos (show(6:Int)=6 from rfl),hS];simp only;unfold je;rw [if_pos s1,s2]
def zN(x:Ex):List Nd:=if x.head.op=7 then x.flat.tail else x.flat
noncomputable def bo(E:List En)(n:Nd)(names:List ByteArray)(vs:List (List Nd)):Res :=
 if n.op=6 then je (aU names vs) (dJ names vs) else if n.op=5 then je (setE vs) (dH vs) else fh E n vs
noncomputable def jK(knows:Bool)(V:List Nd):Bool:=decide (zc V=0)&&(knows || V.all λm=>decide (m.op≠4))
noncomputable def jN(E:List En)(knows:Bool):Ex->Option Ex
 | .node n ps =>
  if(ps.len=0/\n.op≠5/\n.op≠6)\/n.op=7\/zc (Ex.node n ps).flat=0 then none
  else if(exL ps).all (λq=>jK knows (zN q))=false then none
  else if n.op=11\/n.op=12\/n.op=13 then none
  else match bo E n ((exL ps).map λq=>q.head.s) ((exL ps).map zN) with
   | .error _=>none
   | .ok V=>fi V
theorem kK{x:Ex}(hv:x.valid false):zN x=x.flat:=by
 obtain⟨n,ps⟩:=x;have h1:=hv.1;unfold jA at h1;rw [Bool.and_eq_true] at h1;have h7:n.op≠7:=by simpa using h1.2
 unfold zN;rw [if_neg (show¬(Ex.node n ps).head.op=7 from h7)]
theorem sX{x y:Ex}(hx:x.valid false)(hy:y.valid false)(e:x.flat=y.flat):x=y:=by
 have h1:=bH.2 ⟨hx,rfl⟩;have h2:=bH.2 ⟨hy,rfl⟩;rw [e,h2] at h1;injection h1 with h1;exact h1.symm
theorem xy(σ:Env){x:Ex}(hv:x.valid false)(h:zc x.flat=0):evX σ x = .ok x.flat:=by
 obtain⟨y,h1,h2,h3⟩:=uA σ h;rw [sX hv h1 h2.symm,h2];exact h3
theorem vH(σ:Env):∀(ps:Exs) (l:ByteArray),ps.valid false l->(∀q∈exL ps,zc (zN q)=0)->evS σ ps = .ok ((exL ps).map zN)
 | .nil,_,_,_=>by rw [evS];rfl
 | .cons x r,l,hv,h=>by
  have h1:=h x (by simp [exL]);rw [kK hv.2.1] at h1;rw [evS,xy σ hv.2.1 h1,vH σ r _ hv.2.2 (λq hq=>h q (by simp [exL,hq]))];simp only [exL,List.map_cons,kK hv.2.1]
theorem JB(σ:Env){x:Ex}(hv:x.valid true)(h:zc (zN x)=0):cJ σ x = .ok (zN x):=by
 obtain⟨n,ps⟩:=x;obtain⟨h1,hl,h3⟩:=hv;unfold jA at h1;rw [Bool.and_eq_true] at h1;have h7:n.op=7:=by simpa using h1.2
 have h2:ps.len=1:=by
  unfold zt at hl
  repeat' split at hl
  all_goals omega
 match ps,h2 with
 | .cons a .nil,_ =>
  rw [show zP n=false by unfold zP;exact decide_eq_false (by omega)] at h3
  have e:zN (.node n (.cons a .nil))=a.flat:=by
   unfold zN;rw [if_pos (show(Ex.node n (.cons a .nil)).head.op=7 from h7)];simp [Ex.flat,Exs.flat]
  rw [e] at h ⊢
  rw [cJ,cC]
  exact xy σ h3.2.1 h
theorem vB(σ:Env):∀(ps:Exs) (l:ByteArray),ps.valid true l->(∀q∈exL ps,zc (zN q)=0)->evF σ ps = .ok ((exL ps).map λq=>(q.head.s,zN q))
 | .nil,_,_,_=>by rw [evF];rfl
 | .cons x r,l,hv,h=>by
  rw [evF,JB σ hv.2.1 (h x (by simp [exL])),vB σ r _ hv.2.2 (λq hq=>h q (by simp [exL,hq]))];rfl
theorem l7{V:List Nd}(h:∀m∈V,m.op≠4):zf V≠4:=by
 cases V with
 | nil=>decide
 | cons a r=>exact h a (by simp)
theorem Jv{E F:List En}{V:List Nd}(h:∀m∈V,m.op≠4):bS E V=bS F V:=by
 unfold bS;rw [if_neg (l7 h),if_neg (l7 h)]
theorem Ju{E F:List En}{n:Nd}{vs:List (List Nd)}(h:∀V∈vs,∀m∈V,m.op≠4):fh E n vs=fh F n vs:=by
 match vs,h with
 | [],_=>rfl
 | [V],h =>
  show ar E n V=ar F n V
  unfold ar
  rw [Jv (F:=F) (h V (by simp))]
 | [A,B],h =>
  show j7 E n.op A B=j7 F n.op A B
  have hA:=l7 (h A (by simp))
  have hi:inX E A B=inX F A B:=by
   unfold inX;rw [if_neg (λq=>hA q.1),if_neg (λq=>hA q.1)]
  unfold j7
  rw [hi]
 | _ :: _ :: _ :: _,_=>rfl
theorem Df(σ:Env){n:Nd}{ps:Exs}(hv:(Ex.node n ps).valid false)(c1:¬((ps.len=0/\n.op≠5/\n.op≠6)\/n.op=7\/zc (Ex.node n ps).flat=0))(c3:¬(n.op=11\/n.op=12\/n.op=13))(hval:∀q∈exL ps,zc (zN q)=0):
 evX σ (.node n ps)=bo σ.E n ((exL ps).map λq=>q.head.s) ((exL ps).map zN):=by
 have h14:¬(1<=n.op/\n.op<=4)/\n.op≠8:=by
  constructor
  all_goals
   intro q;have h2:ps.len=0:=by
    have hl:=hv.2.1;unfold zt at hl
    repeat' split at hl
    all_goals omega
   exact c1 (.inl ⟨h2,by omega,by omega⟩)
 rw [evX,if_neg h14.1,if_neg h14.2,if_neg (by omega),if_neg (by omega)];have h3:=hv.2.2;unfold bo;by_cases h6:n.op=6
 ·rw [show zP n=true by unfold zP;exact decide_eq_true h6] at h3;rw [if_pos h6,if_pos h6,vB σ ps _ h3 hval];simp only [List.map_map];rfl
 ·rw [show zP n=false by unfold zP;exact decide_eq_false h6] at h3;rw [if_neg h6,if_neg h6,vH σ ps _ h3 hval]
theorem Ev{σ:Env}{E:List En}{knows:Bool}(hE:knows=true->E=σ.E)(hσ:aO σ){x y:Ex}(hv:x.valid false)(h:jN E knows x=some y):
 evX σ y=evX σ x/\y.valid false/\evX σ x = .ok y.flat:=by
 obtain⟨n,ps⟩:=x;rw [jN] at h;by_cases c1:(ps.len=0/\n.op≠5/\n.op≠6)\/n.op=7\/zc (Ex.node n ps).flat=0
 ·rw [if_pos c1] at h;cases h
 rw [if_neg c1] at h;by_cases c2:(exL ps).all (λq=>jK knows (zN q))=false
 ·rw [if_pos c2] at h;cases h
 rw [if_neg c2] at h;by_cases c3:n.op=11\/n.op=12\/n.op=13
 ·rw [if_pos c3] at h;cases h
 rw [if_neg c3] at h;have hall:∀q∈exL ps,jK knows (zN q)=true:=by
  have:(exL ps).all (λq=>jK knows (zN q))=true:=by simpa using c2
  exact List.all_eq_true.1 this
 have hval:∀q∈exL ps,zc (zN q)=0:=λq hq=>by
  have:=hall q hq;unfold jK at this;rw [Bool.and_eq_true] at this;exact of_decide_eq_true this.1
 have hx:evX σ (.node n ps)=bo σ.E n ((exL ps).map λq=>q.head.s) ((exL ps).map zN):=Df σ hv c1 c3 hval;have happ:bo E n ((exL ps).map λq=>q.head.s) ((exL ps).map zN)=bo σ.E n ((exL ps).map λq=>q.head.s) ((exL ps).map zN):=by
  cases knows with
  | true=>rw [hE rfl]
  | false =>
   unfold bo
   rw [Ju (F:=σ.E) (λV hV=>?_)]
   obtain⟨q,hq,rfl⟩:=List.mem_map.1 hV
   have h1:=hall q hq
   unfold jK at h1
   rw [Bool.and_eq_true,Bool.false_or,List.all_eq_true] at h1
   exact λm hm=>of_decide_eq_true (h1.2 m hm)
 rw [happ,<-hx] at h;rcases hq:evX σ (.node n ps) with u|V
 ·rw [hq] at h;cases h
 ·rw [hq] at h;simp only at h;have hV:=dD hσ _ false hv V hq;obtain⟨hy,e⟩:=bH.1 h;subst e;exact⟨xy σ hy hV,hy,rfl⟩
theorem Ez{r:List Nd}{s:ByteArray}(hr:zc r=0)(h6:zf r=6):(cq r s=0↔∃x∈zr r,x.1=s)/\(cq r s=0\/cq r s=3)/\(cq r s=0->∃x∈zr r,x.1=s/\ga r s=x.2):=by
 obtain⟨o,ho⟩:∃o,(zr r).find? (λx=>decide (js x.1 s=0))=o:=⟨_,rfl⟩
 have hg:oR r s=o.map (·.2):=congrArg (Option.map (λx:ByteArray × List Nd=>x.2)) ho;have hE:cq r s=if(o.map (·.2)).isSome then 0 else 3:=by unfold cq;rw [if_pos hr,if_pos h6,hg]
 cases o with
 | none =>
  have hn:=List.find?_eq_none.1 ho
  have Km:cq r s=3:=by rw [hE];rfl
  refine⟨⟨λh=>(by rw [Km] at h;cases h),λ⟨x,hx,e⟩=>?_⟩,.inr Km,λh=>(by rw [Km] at h;cases h)⟩
  have h1:=hn x hx
  rw [e,jf.self s] at h1
  exact absurd (decide_eq_true rfl) h1
 | some x =>
  have hm:=List.mem_of_find?_eq_some ho
  have he:x.1=s:=(jf.zero _ _).1 (by simpa using List.find?_some ho)
  have Km:cq r s=0:=by rw [hE];rfl
  exact⟨⟨λ_=>⟨x,hm,he⟩,λ_=>Km⟩,.inl Km,λ_=>⟨x,hm,he,by unfold ga;rw [if_pos Km,hg];rfl⟩⟩
theorem yV(p:List Nd):∀l:List (List Nd),(mQ p l).flatten.length<=p.length+l.flatten.length
 | []=>by simp [mQ]
 | q :: r=>by
  have:=yV p r;unfold mQ;split
  ·simp
  ·split
   ·simp
   ·simp only [List.flatten_cons,List.length_append];omega
theorem Aa:∀L:List (List Nd),(cT L).flatten.length<=L.flatten.length
 | []=>by simp [cT]
 | p :: r=>by
  have h1:=yV p (cT r);have h2:=Aa r;rw [cT,List.flatten_cons,List.length_append];omega
theorem Dy{L:List (List Nd)}(h:setE L=0):(dH L).length<=1+L.flatten.length:=by
 rw [mb h,List.length_cons];have:=Aa L;omega
theorem pX:∀ {L:List (ByteArray × List Nd)} {x:ByteArray × List Nd},x∈L->x.2.length<=(zL L).length
 | y :: r,x,h=>by
  simp only [zL,List.length_cons,List.length_append];rcases List.mem_cons.1 h with rfl|h
  ·omega
  ·have:=pX h;omega
theorem GK{L M:List (ByteArray × List Nd)}(h:L.Perm M):(zL L).length=(zL M).length:=by
 induction h with
 | nil=>rfl
 | cons x _ ih=>simp only [zL,List.length_cons,List.length_append];omega
 | swap x y l=>simp only [zL,List.length_cons,List.length_append];omega
 | trans _ _ h1 h2=>omega
theorem Fu{N:List ByteArray}{L:List (List Nd)}(h:aU N L=0):(dJ N L).length=1+(zL (N.zip L)).length:=by
 unfold dJ;rw [if_pos h,List.length_cons,GK (ao _)];omega
theorem Ei{r:List Nd}{s:ByteArray}(hr:zc r=0)(h6:zf r=6)(h:cq r s=0):(ga r s).length<=r.length:=by
 obtain⟨x,hx,-,ev⟩:=(Ez (s:=s) hr h6).2.2 h;obtain⟨e,-⟩:=eF (zH.1 hr).2 h6;have h1:=pX hx;rw [ev];have h2:r.length=1+(zL (zr r)).length:=by
  have:=congrArg List.length e;rw [List.length_cons] at this;omega
 omega
theorem fL{e:Int}{V W:List Nd}(h:je e V = .ok W):e=0/\W=V:=by
 unfold je at h;split at h
 ·rename_i h0;injection h with h;exact⟨h0,h.symm⟩
 ·cases h
theorem fP{e:Int}{b:Bool}{W:List Nd}(h:jP e b = .ok W):W.length=1:=by
 unfold jP at h;split at h
 ·injection h with h;subst h;rfl
 ·cases h
theorem bB{b:Bool}{W:List Nd}(h:(.ok (zK b):Res)= .ok W):W.length=1:=by
 injection h with h;subst h;rfl
theorem D'{E:List En}{n:Nd}{V W:List Nd}(hV:zc V=0)(hn:∀m∈V,m.op≠4)(h:ar E n V = .ok W):W.length<=1+V.length:=by
 unfold ar at h;split at h
 ·split at h
  ·have:=bB h;omega
  ·cases h
 ·split at h
  ·split at h
   ·obtain⟨-,rfl⟩:=fL h;simp [fc]
   ·cases h
  ·split at h
   ·split at h
    ·have:=fP h;omega
    ·cases h
   ·split at h
    ·split at h
     ·have:=bB h;omega
     ·cases h
    ·rcases hr:bS E V with u|(_|r)
     ·rw [hr] at h;cases h
     ·rw [hr] at h;simp only at h;split at h
      ·have:=bB h;omega
      ·cases h
     ·rw [hr] at h;simp only at h;split at h
      ·have:=bB h;omega
      ·obtain⟨h0,rfl⟩:=fL h;unfold bS at hr;split at hr
       ·rename_i h6;injection hr with hr;injection hr with hr;subst hr;have:=Ei hV h6 h0;omega
       ·rw [if_neg (l7 hn)] at hr;cases hr
theorem D2{E:List En}{op:Int}{A B W:List Nd}(h:j7 E op A B = .ok W):W.length=1:=by
 unfold j7 at h;split at h
 ·exact bB h
 ·split at h
  ·unfold inX at h;split at h
   ·exact bB h
   ·cases h
  ·split at h
   ·exact fP h
   ·split at h
    ·exact fP h
    ·split at h
     ·exact fP h
     ·split at h
      ·split at h
       ·exact bB h
       ·split at h
        ·exact bB h
        ·obtain⟨-,rfl⟩:=fL h;rfl
      ·cases h
theorem Hd(x:Ex):(zN x).length<=x.flat.length:=by
 unfold zN;split
 ·rw [List.length_tail];omega
 ·omega
theorem uh:∀ps:Exs,((exL ps).map zN).flatten.length<=ps.flat.length
 | .nil=>by simp [exL,Exs.flat]
 | .cons x r=>by
  have h1:=Hd x;have h2:=uh r;simp only [exL,Exs.flat,List.map_cons,List.flatten_cons,List.length_append];omega
theorem nr:∀(ps:Exs) (l:ByteArray),ps.valid true l->(zL (((exL ps).map λq=>q.head.s).zip ((exL ps).map zN))).length<=ps.flat.length
 | .nil,_,_=>by simp [exL,Exs.flat,zL]
 | .cons x r,l,hv=>by
  have h2:=nr r _ hv.2.2;have h7:x.head.op=7:=by
   obtain⟨n,qs⟩:=x;have h1:=hv.2.1.1;unfold jA at h1;rw [Bool.and_eq_true] at h1;simpa [Ex.head] using h1.2
  have hp:=jh x;have h1:(zN x).length+1=x.flat.length:=by
   unfold zN;rw [if_pos h7,List.length_tail];omega
  simp only [exL,Exs.flat,List.map_cons,List.zip_cons_cons,zL,List.length_cons,List.length_append];omega
theorem Bf{E:List En}{x y:Ex}(hv:x.valid false)(h:jN E false x=some y):y.flat.length<=x.flat.length:=by
 obtain⟨n,ps⟩:=x;rw [jN] at h;by_cases c1:(ps.len=0/\n.op≠5/\n.op≠6)\/n.op=7\/zc (Ex.node n ps).flat=0
 ·rw [if_pos c1] at h;cases h
 rw [if_neg c1] at h;by_cases c2:(exL ps).all (λq=>jK false (zN q))=false
 ·rw [if_pos c2] at h;cases h
 rw [if_neg c2] at h;by_cases c3:n.op=11\/n.op=12\/n.op=13
 ·rw [if_pos c3] at h;cases h
 rw [if_neg c3] at h;have hall:∀V∈(exL ps).map zN,zc V=0/\∀m∈V,m.op≠4:=λV hV=>by
  obtain⟨q,hq,rfl⟩:=List.mem_map.1 hV;have h0:(exL ps).all (λq=>jK false (zN q))=true:=by simpa using c2
  have h1:=List.all_eq_true.1 h0 q hq;unfold jK at h1;rw [Bool.and_eq_true,Bool.false_or,List.all_eq_true] at h1;exact⟨of_decide_eq_true h1.1,λm hm=>of_decide_eq_true (h1.2 m hm)⟩
 have hpl:=uh ps;have kQ:(Ex.node n ps).flat.length=1+ps.flat.length:=by simp only [Ex.flat,List.length_cons];omega
 rw [kQ];rcases hq:bo E n ((exL ps).map λq=>q.head.s) ((exL ps).map zN) with u|V
 ·rw [hq] at h;cases h
 rw [hq] at h;simp only at h;obtain⟨-,e⟩:=bH.1 h;rw [<-e];unfold bo at hq;by_cases h6:n.op=6
 ·rw [if_pos h6] at hq;obtain⟨h0,rfl⟩:=fL hq;rw [Fu h0];have h3:=hv.2.2;rw [show zP n=true by unfold zP;exact decide_eq_true h6] at h3;have:=nr ps _ h3;omega
 rw [if_neg h6] at hq;by_cases h5:n.op=5
 ·rw [if_pos h5] at hq;obtain⟨h0,rfl⟩:=fL hq;have:=Dy h0;omega
 rw [if_neg h5] at hq;generalize (exL ps).map zN=vs at *
 match vs,hall,hpl,hq with
 | [A],hall,hpl,hq =>
  have:=D' (hall A (by simp)).1 (hall A (by simp)).2 hq
  simp at hpl
  omega
 | [A,B],_,_,hq =>
  have:V.length=1:=D2 hq
  omega
def jR:Nat->Ex->Ex
 | 0,x=>x
 | m+1,x=>match jW x with
  | some y=>jR m y
  | none=>x
noncomputable def kO(E:List En)(knows:Bool)(x:Ex):Ex :=
 match jN E knows (jR x.flat.length x) with
 | some r=>r
 | none=>jR x.flat.length x
mutual
noncomputable def jC(E:List En)(knows:Bool):Ex->Ex
 | .node n ps=>kO E knows (.node n (zY E knows ps))
noncomputable def zY(E:List En)(knows:Bool):Exs->Exs
 | .nil => .nil
 | .cons x r => .cons (jC E knows x) (zY E knows r)
end
theorem ry{σ:Env}(hσ:aO σ):∀(m:Nat) {x:Ex},x.valid false->evX σ (jR m x)=evX σ x/\(jR m x).valid false/\(jR m x).flat.length<=x.flat.length
 | 0,x,hv=>⟨rfl,hv,Nat.le_refl _⟩
 | m+1,x,hv=>by
  rw [jR];rcases hq:jW x with _|y
  ·exact⟨rfl,hv,Nat.le_refl _⟩
  ·obtain⟨h1,h2,h3⟩:=wT hσ hv hq;obtain⟨g1,g2,g3⟩:=ry hσ m h2;exact⟨g1.trans h1,g2,by simp only;omega⟩
theorem pE{σ:Env}(hσ:aO σ):∀(m:Nat) {x:Ex},x.valid false->x.flat.length<=m->jW (jR m x)=none
 | 0,x,_,h=>by have:=jh x;omega
 | m+1,x,hv,h=>by
  rw [jR];rcases hq:jW x with _|y
  ·exact hq
  ·obtain⟨-,h2,h3⟩:=wT hσ hv hq;exact pE hσ m h2 (by omega)
theorem Fq{σ:Env}(hσ:aO σ){E:List En}{knows:Bool}(hE:knows=true->E=σ.E){x:Ex}(hv:x.valid false):evX σ (kO E knows x)=evX σ x/\(kO E knows x).valid false:=by
 obtain⟨g1,g2,-⟩:=ry hσ x.flat.length hv;unfold kO;rcases hq:jN E knows (jR x.flat.length x) with _|y
 ·exact⟨g1,g2⟩
 ·obtain⟨h1,h2,-⟩:=Ev hE hσ g2 hq;exact⟨h1.trans g1,h2⟩
theorem H7{σ:Env}(hσ:aO σ){E:List En}{x:Ex}(hv:x.valid false):(kO E false x).flat.length<=x.flat.length:=by
 obtain⟨-,g2,g3⟩:=ry hσ x.flat.length hv;unfold kO;rcases hq:jN E false (jR x.flat.length x) with _|y
 ·exact g3
 ·have:=Bf g2 hq;simp only;omega
theorem yO{E:List En}{knows:Bool}{n:Nd}{ps:Exs}(h7:n.op=7):kO E knows (.node n ps)= .node n ps:=by
 have hlog:jW (.node n ps)=none:=by
  unfold jW;split
  ·split
   ·rename_i _ _ e;rw [if_neg (λq=>by injection e with e1 e2;subst e1;omega)]
   ·rfl
  ·rename_i e;injection e with e1 e2;subst e1;rw [if_neg (by omega)]
  ·rename_i e;injection e with e1 e2;subst e1;rw [if_neg (by omega)]
  ·rfl
 have hloop:∀m,jR m (.node n ps)= .node n ps:=λm=>by
  cases m with
  | zero=>rfl
  | succ m=>rw [jR,hlog]
 unfold kO;rw [hloop,jN,if_pos (.inr (.inl h7))]
def SmL(σ:Env):Exs->Exs->Prop
 | .nil,.nil=>True
 | .cons a r,.cons b s=>evX σ a=evX σ b/\SmL σ r s
 | _,_=>False
theorem LH{σ:Env}:∀ {ps qs:Exs},SmL σ ps qs->evS σ ps=evS σ qs
 | .nil,.nil,_=>rfl
 | .cons a r,.cons b s,h=>by rw [evS,evS,h.1,LH h.2]
 | .nil,.cons _ _,h=>h.elim
 | .cons _ _,.nil,h=>h.elim
theorem x6{σ:Env}:∀ {ps qs:Exs},SmL σ ps qs->cC σ ps=cC σ qs
 | .nil,.nil,_=>rfl
 | .cons a r,.cons b s,h=>by rw [cC,cC,h.1]
 | .nil,.cons _ _,h=>h.elim
 | .cons _ _,.nil,h=>h.elim
theorem Jw{σ:Env}:∀ {ps qs:Exs},SmL σ ps qs->gm σ ps=gm σ qs
 | .nil,.nil,_=>rfl
 | .cons a r,.cons b s,h=>by rw [gm,gm,x6 h.2]
 | .nil,.cons _ _,h=>h.elim
 | .cons _ _,.nil,h=>h.elim
theorem GQ{σ:Env}:∀ {ps qs:Exs},SmL σ ps qs->jD σ ps=jD σ qs
 | .nil,.nil,_=>rfl
 | .cons a r,.cons b s,h=>by rw [jD,jD,h.1]
 | .nil,.cons _ _,h=>h.elim
 | .cons _ _,.nil,h=>h.elim
theorem Bp{σ:Env}{o:Bool}:∀ {ps qs:Exs},SmL σ ps qs->zQ σ o ps=zQ σ o qs
 | .nil,.nil,_=>rfl
 | .cons a r,.cons b s,h=>by rw [zQ,zQ,h.1,GQ h.2]
 | .nil,.cons _ _,h=>h.elim
 | .cons _ _,.nil,h=>h.elim
theorem Ly{σ:Env}:∀ {ps qs:Exs},SmL σ ps qs->dE σ ps=dE σ qs
 | .nil,.nil,_=>rfl
 | .cons a r,.cons b s,h=>by rw [dE,dE,h.1,x6 h.2,Jw h.2]
 | .nil,.cons _ _,h=>h.elim
 | .cons _ _,.nil,h=>h.elim
theorem Ih{σ:Env}{n:Nd}(h6:n.op≠6){ps qs:Exs}(h:SmL σ ps qs):evX σ (.node n ps)=evX σ (.node n qs):=by
 rw [evX,evX,Bp h,Ly h,LH h,if_neg h6,if_neg h6]
theorem BC:∀ {ps:Exs} {l m:ByteArray},ps.valid false l->ps.valid false m
 | .nil,_,_,_=>trivial
 | .cons _ _,_,_,h=>⟨λe=>(by cases e),h.2.1,h.2.2⟩
mutual
theorem xN{σ:Env}(hσ:aO σ){E:List En}{knows:Bool}(hE:knows=true->E=σ.E):∀(x:Ex),x.valid false->evX σ (jC E knows x)=evX σ x/\(jC E knows x).valid false
 | .node n ps,hv=>by
  obtain⟨h1,hl,h3⟩:=hv;rw [jC];by_cases h6:n.op=6
  ·have hr:zP n=true:=by unfold zP;exact decide_eq_true h6
   rw [hr] at h3;obtain⟨e1,e2,e3⟩:=qX hσ hE ps _ h3;have hv':(Ex.node n (zY E knows ps)).valid false:=⟨h1,by rw [e3];exact hl,by rw [hr];exact e2⟩
   obtain⟨f1,f2⟩:=Fq hσ hE hv';refine⟨f1.trans ?_,f2⟩;rw [evX,evX,e1];simp only [if_pos h6];rw [if_neg (by omega),if_neg (by omega),if_neg (by omega),if_neg (by omega),if_neg (by omega),if_neg (by omega),if_neg (by omega),if_neg (by omega)]
  ·have hr:zP n=false:=by unfold zP;exact decide_eq_false h6
   rw [hr] at h3;obtain⟨e1,e2,e3⟩:=og hσ hE ps _ h3;have hv':(Ex.node n (zY E knows ps)).valid false:=⟨h1,by rw [e3];exact hl,by rw [hr];exact e2⟩
   obtain⟨f1,f2⟩:=Fq hσ hE hv';exact⟨f1.trans (Ih h6 e1),f2⟩
theorem og{σ:Env}(hσ:aO σ){E:List En}{knows:Bool}(hE:knows=true->E=σ.E):∀(ps:Exs) (l:ByteArray),ps.valid false l->SmL σ (zY E knows ps) ps/\(zY E knows ps).valid false l/\(zY E knows ps).len=ps.len
 | .nil,_,_=>by rw [zY];exact⟨trivial,trivial,rfl⟩
 | .cons x r,l,hv=>by
  obtain⟨a1,a2⟩:=xN hσ hE x hv.2.1;obtain⟨b1,b2,b3⟩:=og hσ hE r _ hv.2.2;rw [zY];exact⟨⟨a1,b1⟩,⟨λe=>(by cases e),a2,BC b2⟩,by rw [Exs.len,Exs.len,b3]⟩
theorem qX{σ:Env}(hσ:aO σ){E:List En}{knows:Bool}(hE:knows=true->E=σ.E):∀(ps:Exs) (l:ByteArray),ps.valid true l->evF σ (zY E knows ps)=evF σ ps/\(zY E knows ps).valid true l/\(zY E knows ps).len=ps.len
 | .nil,_,_=>by rw [zY];exact⟨rfl,trivial,rfl⟩
 | .cons x r,l,hv=>by
  obtain⟨a1,a2,a3⟩:=F7 hσ hE x hv.2.1;obtain⟨b1,b2,b3⟩:=qX hσ hE r _ hv.2.2;rw [zY];refine⟨?_,⟨λe=>(by rw [a3];exact hv.1 e),a2,(by rw [a3];exact b2)⟩,by rw [Exs.len,Exs.len,b3]⟩;rw [evF,evF,a1,b1,a3]
theorem F7{σ:Env}(hσ:aO σ){E:List En}{knows:Bool}(hE:knows=true->E=σ.E):∀(x:Ex),x.valid true->cJ σ (jC E knows x)=cJ σ x/\(jC E knows x).valid true/\(jC E knows x).head=x.head
 | .node n ps,hv=>by
  obtain⟨h1,hl,h3⟩:=hv;have h7:n.op=7:=by
   have h2:=h1;unfold jA at h2;rw [Bool.and_eq_true] at h2;simpa using h2.2
  have hr:zP n=false:=by unfold zP;exact decide_eq_false (by omega)
  rw [hr] at h3;obtain⟨e1,e2,e3⟩:=og hσ hE ps _ h3;rw [jC,yO h7];refine⟨?_,⟨h1,by rw [e3];exact hl,by rw [hr];exact e2⟩,rfl⟩;rw [cJ,cJ,x6 e1]
end
mutual
theorem nt{σ:Env}(hσ:aO σ){E:List En}:∀(x:Ex) (f:Bool),x.valid f->(jC E false x).flat.length<=x.flat.length
 | .node n ps,f,hv=>by
  have hq:=km hσ (E:=E) ps _ _ hv.2.2;rw [jC];have h0:(Ex.node n (zY E false ps)).flat.length<=(Ex.node n ps).flat.length:=by
   simp only [Ex.flat,List.length_cons];omega
  cases f with
  | true =>
   have h7:n.op=7:=by
    have h2:=hv.1;unfold jA at h2;rw [Bool.and_eq_true] at h2;simpa using h2.2
   rw [yO h7]
   exact h0
  | false =>
   have hv':(Ex.node n (zY E false ps)).valid false:=by
    obtain⟨h1,hl,h3⟩:=hv;by_cases h6:n.op=6
    ·have hr:zP n=true:=by unfold zP;exact decide_eq_true h6
     rw [hr] at h3;obtain⟨-,e2,e3⟩:=qX hσ (E:=E) (knows:=false) (λe=>(by cases e)) ps _ h3;exact⟨h1,by rw [e3];exact hl,by rw [hr];exact e2⟩
    ·have hr:zP n=false:=by unfold zP;exact decide_eq_false h6
     rw [hr] at h3;obtain⟨-,e2,e3⟩:=og hσ (E:=E) (knows:=false) (λe=>(by cases e)) ps _ h3;exact⟨h1,by rw [e3];exact hl,by rw [hr];exact e2⟩
   exact Nat.le_trans (H7 hσ hv') h0
theorem km{σ:Env}(hσ:aO σ){E:List En}:∀(ps:Exs) (c:Bool) (l:ByteArray),ps.valid c l->(zY E false ps).flat.length<=ps.flat.length
 | .nil,_,_,_=>by rw [zY];exact Nat.le_refl _
 | .cons x r,c,l,hv=>by
  have h1:=nt hσ (E:=E) x c hv.2.1;have h2:=km hσ (E:=E) r c _ hv.2.2;rw [zY];simp only [Exs.flat,List.length_append];omega
end
theorem ix{e:Int}{b:Bool}:jP e b≠ .error 0:=λh=>by
 unfold jP at h;split at h
 ·cases h
 ·rename_i hn;injection h with h;exact hn h
theorem fu{e:Int}{V:List Nd}:je e V≠ .error 0:=λh=>by
 unfold je at h;split at h
 ·cases h
 ·rename_i hn;injection h with h;exact hn h
theorem AQ{σ:Env}{s:ByteArray}:aK σ s≠ .error 0:=λh=>by
 unfold aK at h
 repeat (split at h;· cases h)
 injection h with h;cases h
theorem dI{k:Int}(hk:k≠0):(Except.error k:Res)≠ .error 0:=λh=>by injection h with h;exact hk h
theorem Ix{E:List En}{V:List Nd}:bS E V≠ .error 0:=λh=>by
 unfold bS at h;split at h
 ·cases h
 ·split at h
  ·cases h
  ·injection h with h;cases h
theorem Ir{E:List En}{n:Nd}{V:List Nd}:ar E n V≠ .error 0:=λh=>by
 unfold ar at h;split at h
 ·split at h
  ·cases h
  ·exact dI (by decide) h
 ·split at h
  ·split at h
   ·exact fu h
   ·exact dI (by decide) h
  ·split at h
   ·split at h
    ·exact ix h
    ·exact dI (by decide) h
   ·split at h
    ·split at h
     ·cases h
     ·exact dI (by decide) h
    ·rcases hr:bS E V with e|(_|r)
     ·rw [hr] at h;simp only at h;injection h with h;subst h;exact Ix hr
     ·rw [hr] at h;simp only at h;split at h
      ·cases h
      ·exact dI (by decide) h
     ·rw [hr] at h;simp only at h;split at h
      ·cases h
      ·exact fu h
theorem He{E:List En}{op:Int}{A B:List Nd}:j7 E op A B≠ .error 0:=λh=>by
 unfold j7 at h;split at h
 ·cases h
 ·split at h
  ·unfold inX at h;split at h
   ·cases h
   ·exact dI (by decide) h
  ·split at h
   ·exact ix h
   ·split at h
    ·exact ix h
    ·split at h
     ·exact ix h
     ·split at h
      ·split at h
       ·cases h
       ·split at h
        ·cases h
        ·exact fu h
      ·exact dI (by decide) h
theorem Af{σ:Env}:∀(ps:Exs) (L:List (List Nd)),evS σ ps = .ok L->L.length=ps.len
 | .nil,L,h=>by
  unfold evS at h;injection h with h;subst h;rfl
 | .cons x r,L,h=>by
  unfold evS at h;rcases hx:evX σ x with e|W
  ·rw [hx] at h;cases h
  ·rw [hx] at h;simp only at h;rcases hr:evS σ r with e|M
   ·rw [hr] at h;cases h
   ·rw [hr] at h;simp only at h;injection h with h;subst h;simp only [List.length_cons,Exs.len,Af r M hr]
mutual
theorem gC{σ:Env}:∀(x:Ex),x.valid false->evX σ x≠ .error 0
 | .node n ps,hv=>λh=>by
  obtain⟨h1,h2,h3⟩:=hv;unfold jA at h1;rw [Bool.and_eq_true] at h1;obtain⟨hf,h7⟩:=h1;have h7':n.op≠7:=by simpa using h7
  unfold evX at h;split at h
  ·cases h
  ·rename_i g14;split at h
   ·exact AQ h
   ·rename_i g8;split at h
    ·rename_i g;have hr:zP n=false:=decide_eq_false (by omega);have hl:(ps.len:Int)=2:=by
      rw [h2];unfold zt;rw [if_neg (by omega),if_neg (by omega),if_neg (by omega),if_neg (by omega),if_pos (by omega)]
     rw [hr] at h3;exact vt ps _ h3 (by omega) _ h
    ·rename_i g11;split at h
     ·rename_i g;have hr:zP n=false:=decide_eq_false (by omega);have hl:(ps.len:Int)=3:=by
       rw [h2];unfold zt;rw [if_neg (by omega),if_neg (by omega),if_neg (by omega),if_pos (by omega)]
      rw [hr] at h3;exact H9 ps _ h3 (by omega) h
     ·rename_i g13;split at h
      ·rename_i g6;have hr:zP n=true:=decide_eq_true g6;rw [hr] at h3;rcases hF:evF σ ps with e|L
       ·rw [hF] at h;simp only at h;injection h with h;subst h;exact Du ps _ h3 hF
       ·rw [hF] at h;exact fu h
      ·rename_i g6;have hr:zP n=false:=decide_eq_false g6;rw [hr] at h3;rcases hS:evS σ ps with e|L
       ·rw [hS] at h;simp only at h;injection h with h;subst h;exact Dw ps _ h3 hS
       ·rw [hS] at h;simp only at h;split at h
        ·exact fu h
        ·rename_i g5;have hL:=Af ps L hS;have hlen:ps.len=1\/ps.len=2:=by
          unfold zt at h2;rw [if_neg (by omega),if_neg (by omega)] at h2;split at h2
          ·omega
          ·split at h2
           ·omega
           ·omega
         match L,hL with
         | [],hL=>simp only [List.length_nil] at hL;omega
         | [V],_=>exact Ir h
         | [A,B],_=>exact He h
         | _ :: _ :: _ :: _,hL=>simp only [List.length_cons] at hL;omega
theorem vt{σ:Env}:∀(ps:Exs) (s:ByteArray),ps.valid false s->2<=ps.len->∀(o:Bool),zQ σ o ps≠ .error 0
 | .nil,_,_,hl,_=>λ_=>by simp only [Exs.len] at hl;omega
 | .cons a r,s,hv,hl,o=>λh=>by
  simp only [Exs.len] at hl;unfold zQ at h;rcases ha:evX σ a with e|W
  ·rw [ha] at h;simp only at h;injection h with h;subst h;exact gC a hv.2.1 ha
  ·rw [ha] at h;simp only at h;split at h
   ·split at h
    ·cases h
    ·exact Cq r _ hv.2.2 (by omega) h
   ·exact dI (by decide) h
theorem Cq{σ:Env}:∀(ps:Exs) (s:ByteArray),ps.valid false s->1<=ps.len->jD σ ps≠ .error 0
 | .nil,_,_,hl=>λ_=>by simp only [Exs.len] at hl;omega
 | .cons b r,s,hv,hl=>λh=>by
  unfold jD at h;rcases hb:evX σ b with e|W
  ·rw [hb] at h;simp only at h;injection h with h;subst h;exact gC b hv.2.1 hb
  ·rw [hb] at h;simp only at h;split at h
   ·cases h
   ·exact dI (by decide) h
theorem H9{σ:Env}:∀(ps:Exs) (s:ByteArray),ps.valid false s->3<=ps.len->dE σ ps≠ .error 0
 | .nil,_,_,hl=>λ_=>by simp only [Exs.len] at hl;omega
 | .cons b r,s,hv,hl=>λh=>by
  simp only [Exs.len] at hl;unfold dE at h;rcases hb:evX σ b with e|W
  ·rw [hb] at h;simp only at h;injection h with h;subst h;exact gC b hv.2.1 hb
  ·rw [hb] at h;simp only at h;split at h
   ·split at h
    ·exact nI r _ hv.2.2 (by omega) h
    ·exact Fg r _ hv.2.2 (by omega) h
   ·exact dI (by decide) h
theorem nI{σ:Env}:∀(ps:Exs) (s:ByteArray),ps.valid false s->1<=ps.len->cC σ ps≠ .error 0
 | .nil,_,_,hl=>λ_=>by simp only [Exs.len] at hl;omega
 | .cons a r,s,hv,hl=>λh=>by
  unfold cC at h;exact gC a hv.2.1 h
theorem Fg{σ:Env}:∀(ps:Exs) (s:ByteArray),ps.valid false s->2<=ps.len->gm σ ps≠ .error 0
 | .nil,_,_,hl=>λ_=>by simp only [Exs.len] at hl;omega
 | .cons a r,s,hv,hl=>λh=>by
  simp only [Exs.len] at hl;unfold gm at h;exact nI r _ hv.2.2 (by omega) h
theorem Dw{σ:Env}:∀(ps:Exs) (s:ByteArray),ps.valid false s->evS σ ps≠ .error 0
 | .nil,_,_=>λh=>by unfold evS at h;cases h
 | .cons x r,s,hv=>λh=>by
  unfold evS at h;rcases hx:evX σ x with e|W
  ·rw [hx] at h;simp only at h;injection h with h;subst h;exact gC x hv.2.1 hx
  ·rw [hx] at h;simp only at h;rcases hr:evS σ r with e|M
   ·rw [hr] at h;simp only at h;injection h with h;subst h;exact Dw r _ hv.2.2 hr
   ·rw [hr] at h;cases h
theorem Du{σ:Env}:∀(ps:Exs) (s:ByteArray),ps.valid true s->evF σ ps≠ .error 0
 | .nil,_,_=>λh=>by unfold evF at h;cases h
 | .cons x r,s,hv=>λh=>by
  unfold evF at h;rcases hx:cJ σ x with e|W
  ·rw [hx] at h;simp only at h;injection h with h;subst h;exact Di x hv.2.1 hx
  ·rw [hx] at h;simp only at h;rcases hr:evF σ r with e|M
   ·rw [hr] at h;simp only at h;injection h with h;subst h;exact Du r _ hv.2.2 hr
   ·rw [hr] at h;cases h
theorem Di{σ:Env}:∀(x:Ex),x.valid true->cJ σ x≠ .error 0
 | .node n ps,hv=>λh=>by
  obtain⟨h1,h2,h3⟩:=hv;unfold jA at h1;rw [Bool.and_eq_true] at h1;have h7:n.op=7:=by simpa using h1.2
  have hr:zP n=false:=decide_eq_false (by omega);have hl:(ps.len:Int)=1:=by
   rw [h2];unfold zt;rw [if_neg (by omega),if_neg (by omega),if_pos (by omega)]
  rw [hr] at h3;unfold cJ at h;exact nI ps _ h3 (by omega) h
end
noncomputable def upF(σ:Env)(P:List Nd):Int:=or2 (jw σ.E) (or2 (qn σ.who σ.act σ.what σ.ctx) (jc P))
noncomputable def ct(σ:Env)(P:List Nd):Res:=if upF σ P=0 then(match fi P with|some x=>evX σ x|none => .error 1) else .error (upF σ P)
def FY:Res->Int
 | .ok _=>0
 | .error e=>e
def Dj:Res->List Nd
 | .ok V=>V
 | .error _ => []
theorem J2{σ:Env}(h1:jw σ.E=0)(h2:qn σ.who σ.act σ.what σ.ctx=0):aO σ:=by
 unfold qn at h2;obtain⟨a1,h2⟩:=al.1 h2;obtain⟨a2,h2⟩:=al.1 h2;obtain⟨a3,h2⟩:=al.1 h2;obtain⟨a4,a5⟩:=al.1 h2;refine⟨h1,a1,a2,a3,a4,?_⟩;by_cases g:zf σ.ctx=6
 ·exact g
 ·rw [if_neg g] at a5;cases a5
theorem tu{σ:Env}{P:List Nd}(h:upF σ P=0):aO σ/\P.length<=200/\∃x:Ex,x.valid false/\P=x.flat:=by
 unfold upF at h;obtain⟨h1,h⟩:=al.1 h;obtain⟨h2,h3⟩:=al.1 h;exact⟨J2 h1 h2,jO.1 h3⟩
theorem i9{σ:Env}{P:List Nd}{x:Ex}(h:upF σ P=0)(hx:x.valid false)(e:P=x.flat):ct σ P=evX σ x:=by
 unfold ct;rw [if_pos h,bH.2 ⟨hx,e⟩]
def aB:ByteArray:=⟨#[65]⟩
def DN:Env:=⟨[],(aB,emp),(aB,emp),(aB,emp),[⟨6,0,emp,emp⟩]⟩
theorem cN:aO DN:=by
 have hu:zI (aB,emp)=0:=by decide +kernel
 refine⟨?_,hu,hu,hu,?_,rfl⟩
 ·unfold jw;simp [DN,jG]
 ·decide +kernel
theorem Jc{x:Ex}(hv:x.valid false)(hl:x.flat.length<=200):(jC [] false x).flat.length<=x.flat.length/\jc (jC [] false x).flat=0:=by
 have h1:=nt cN (E := []) x false hv;have h2:=(xN cN (E := []) (knows:=false) (λe=>(by cases e)) x hv).2;exact⟨h1,jO.2 ⟨by omega,_,h2,rfl⟩⟩
theorem Ct(σ:Env){x:Ex}(hv:x.valid false)(hl:x.flat.length<=200):ct σ (jC [] false x).flat=ct σ x.flat:=by
 have h1:jc x.flat=0:=jO.2 ⟨hl,_,hv,rfl⟩;have h2:=(Jc hv hl).2;have Ma:upF σ (jC [] false x).flat=upF σ x.flat:=by unfold upF;rw [h1,h2]
 by_cases h:upF σ x.flat=0
 ·obtain⟨hσ,-⟩:=tu h;obtain⟨g1,g2⟩:=xN hσ (E := []) (knows:=false) (λe=>(by cases e)) x hv;rw [i9 h hv rfl,i9 (Ma.trans h) g2 rfl,g1]
 ·unfold ct;rw [if_neg h,if_neg (by rw [Ma];exact h),Ma]
end Go.Proofs.YtokiogmfgpidmaaGreatDoor
