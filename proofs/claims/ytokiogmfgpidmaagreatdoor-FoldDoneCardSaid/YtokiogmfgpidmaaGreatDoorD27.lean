/-
  A value is an expression, and its value is it. No program in sight. Plain: what ..
-/
import Derived.Test.YtokiogmfgpidmaaGreatDoorD13
import Derived.Test.YtokiogmfgpidmaaGreatDoorD26
set_option maxRecDepth 100000
namespace Go.Proofs.YtokiogmfgpidmaaGreatDoor
open Go.RowKit Go.Wk
def OV:List Ex->Exs
 | [] => .nil
 | x :: r => .cons x (OV r)
theorem Xw:∀L:List Ex,(OV L).len=L.length
 | []=>rfl
 | x :: r=>by simp only [OV,Exs.len,Xw r,List.length_cons]
theorem UZ:∀L:List Ex,(OV L).flat=(L.map Ex.flat).flatten
 | []=>rfl
 | x :: r=>by simp only [OV,Exs.flat,UZ r,List.map_cons,List.flatten_cons]
theorem Se:∀(L:List Ex) (s:ByteArray),(∀x∈L,x.valid false)->(OV L).valid false s
 | [],_,_=>trivial
 | x :: r,s,h=>⟨λe=>Bool.noConfusion e,h x (by simp),Se r _ λy hy=>h y (by simp [hy])⟩
theorem zjR(σ:Env):∀(L:List Ex),(∀x∈L,evX σ x = .ok x.flat)->evS σ (OV L)= .ok (L.map Ex.flat)
 | [],_=>by simp only [OV,evS,List.map_nil]
 | x :: r,h=>by simp only [OV,evS,h x (by simp),zjR σ r λy hy=>h y (by simp [hy]),List.map_cons]
theorem za5{σ:Env}:∀(L:List (List Nd)),(∀Q∈L,∃x:Ex,x.valid false/\x.flat=Q/\evX σ x = .ok Q)->∃T:List Ex,(∀x∈T,x.valid false/\evX σ x = .ok x.flat)/\T.map Ex.flat=L
 | [],_=>⟨[],λx hx=>(nomatch hx),rfl⟩
 | Q :: r,h=>by
  obtain⟨x,h1,h2,h3⟩:=h Q (by simp);obtain⟨T,h4,h5⟩:=za5 r λq hq=>h q (by simp [hq]);refine⟨x :: T,λy hy=>?_,by simp [h2,h5]⟩;rcases List.mem_cons.1 hy with rfl|hy
  ·exact⟨h1,by rw [h2];exact h3⟩
  ·exact h4 y hy
def U9(s:ByteArray)(x:Ex):Ex := .node (bX s) (.cons x .nil)
def VR:List (ByteArray × Ex)->Exs
 | [] => .nil
 | p :: r => .cons (U9 p.1 p.2) (VR r)
theorem ZS:∀L,(VR L).len=L.length
 | []=>rfl
 | x :: r=>by simp only [VR,Exs.len,ZS r,List.length_cons]
theorem WU:∀L:List (ByteArray × Ex),(VR L).flat=zw (L.map λp=>(p.1,p.2.flat))
 | []=>rfl
 | x :: r=>by simp only [VR,Exs.flat,U9,Ex.flat,WU r,List.map_cons,zw,List.append_nil,List.cons_append]
theorem Yt{s:ByteArray}{x:Ex}(hs:zh s=0)(hx:x.valid false):(U9 s x).valid true:=by
 refine⟨?_,rfl,λe=>Bool.noConfusion e,hx,trivial⟩;unfold jC je;rw [if_pos (show(1:Int)<=(bX s).op/\(bX s).op<=7 from⟨by show(1:Int)<=7;decide,by show(7:Int)<=7;decide⟩)];unfold zq bX;simp [hs,noB];rfl
theorem TF:∀(L:List (ByteArray × Ex)) (s:ByteArray),(∀p∈L,zh p.1=0/\p.2.valid false)->UpB s (L.map λp=>(p.1,p.2.flat))->(VR L).valid true s
 | [],_,_,_=>trivial
 | p :: r,s,h,hu=>⟨λ_=>hu.1,Yt (h p (by simp)).1 (h p (by simp)).2,TF r _ (λy hy=>h y (by simp [hy])) hu.2⟩
theorem zhA(σ:Env):∀(L:List (ByteArray × Ex)),(∀p∈L,evX σ p.2 = .ok p.2.flat)->evF σ (VR L)= .ok (L.map λp=>(p.1,p.2.flat))
 | [],_=>by simp only [VR,evF,List.map_nil]
 | p :: r,h=>by
  have h1:Lf σ (U9 p.1 p.2)= .ok p.2.flat:=by simp only [U9,Lf,Jd,h p (by simp)]
  simp only [VR,evF,h1,zhA σ r λy hy=>h y (by simp [hy]),List.map_cons];rfl
theorem Xk{σ:Env}:∀(L:List (ByteArray × List Nd)),(∀p∈L,∃x:Ex,x.valid false/\x.flat=p.2/\evX σ x = .ok p.2)->∃T:List (ByteArray × Ex),(∀p∈T,p.2.valid false/\evX σ p.2 = .ok p.2.flat)/\(T.map λp=>(p.1,p.2.flat))=L
 | [],_=>⟨[],λx hx=>(nomatch hx),rfl⟩
 | p :: r,h=>by
  obtain⟨x,h1,h2,h3⟩:=h p (by simp);obtain⟨T,h4,h5⟩:=Xk r λq hq=>h q (by simp [hq]);refine⟨(p.1,x):: T,λy hy=>?_,by simp [h2,h5]⟩;rcases List.mem_cons.1 hy with rfl|hy
  ·exact⟨h1,by rw [h2];exact h3⟩
  ·exact h4 y hy
theorem zfM(n:Nat):jC false (jm n)=true:=by
 unfold jC je;rw [if_pos (show 1<=(jm (n:Int)).op/\(jm (n:Int)).op<=7 from(show(1:Int)<=5/\(5:Int)<=7 by decide))];unfold zq jm;simp [noB];rfl
theorem zfQ(n:Nat):jC false (zG n)=true:=by
 unfold jC je;rw [if_pos (show 1<=(zG (n:Int)).op/\(zG (n:Int)).op<=7 from(show(1:Int)<=6/\(6:Int)<=7 by decide))];unfold zq zG;simp [noB];rfl
theorem UG:∀ {l:List Fld} {s:ByteArray},UpB s l->Zw l/\∀x∈l,jh s x.1<0
 | [],_,_=>⟨List.Pairwise.nil,λx hx=>(nomatch hx)⟩
 | x :: r,s,h=>by
  obtain⟨h1,h2⟩:=UG h.2;refine⟨List.pairwise_cons.2 ⟨h2,h1⟩,λy hy=>?_⟩;rcases List.mem_cons.1 hy with rfl|hy
  ·exact h.1
  ·exact jf.lt_le h.1 (by have:=h2 y hy;omega)
theorem zgA{P:List Nd}(h:zc P=0)(h6:zf P=6):oC ((zo P).map Prod.fst) ((zo P).map Prod.snd)=0/\Ki ((zo P).map Prod.fst) ((zo P).map Prod.snd)=P:=by
 obtain⟨hl,hv⟩:=zH.1 h;obtain⟨e,-,h3,h4⟩:=Kh hv h6;obtain⟨hrow,-⟩:=UG h4;have hz:((zo P).map Prod.fst).zip ((zo P).map Prod.snd)=zo P:=by
  generalize zo P=L
  induction L with
  | nil=>rfl
  | cons x r ih=>simp only [List.map_cons,List.zip_cons_cons,ih]
 have hnd:((zo P).map (·.1)).Nodup:=by
  unfold List.Nodup;rw [List.pairwise_map];refine hrow.imp λhab e=>?_;rw [e,jf.self] at hab;omega
 have hlen:(zw (zo P)).length+1<=200:=by
  have:=congrArg List.length e;simp only [List.length_cons] at this;omega
 have h0:oC ((zo P).map Prod.fst) ((zo P).map Prod.snd)=0:=by
  refine Xq.2 ⟨by simp,?_,by rw [hz];exact hlen⟩;rw [hz];refine Le.2 ⟨λx hx=>⟨(h3 x hx).2,zH.2 ⟨?_,(h3 x hx).1⟩⟩,hnd,λx _ hx=>(nomatch hx)⟩;have:x.2.length<=(zw (zo P)).length:=by
   generalize zo P=L at hx
   induction L with
   | nil=>cases hx
   | cons y L ih =>
    simp only [zw,List.length_cons,List.length_append]
    rcases List.mem_cons.1 hx with rfl|hx
    ·omega
    ·have:=ih hx;omega
  omega
 refine⟨h0,?_⟩;rw [S5 h0,hz];have hs:sL (zo P)=zo P:=zef (On hnd) hrow λx=>(j9 _).mem_iff;rw [hs,List.length_map];exact e.symm
theorem ZU(σ:Env){P:List Nd}(h:zc P=0):∃x:Ex,x.valid false/\x.flat=P/\evX σ x = .ok P:=by
 obtain⟨hl,hv⟩:=zH.1 h;refine ziH (M:=λP=>P.length<=200->∃x:Ex,x.valid false/\x.flat=P/\evX σ x = .ok P) hv ?_ ?_ ?_ hl
 ·intro P hP h5 h6 _;have h1:=zba hP h5 h6
  match P,h1 with
  | [n],_ =>
   have hf:zc [n]=0:=zH.2 ⟨by simp,hP⟩
   have hsn:zq n=true/\n.op≠7:=by
    unfold IsV at hP;simp only [zl,List.getElem?_cons_zero] at hP;by_cases hs:zq n=true
    ·refine⟨hs,λh7=>?_⟩;rw [if_pos hs,if_neg (by omega),if_neg (by omega),if_pos h7] at hP;cases hP
    ·rw [if_neg hs] at hP;cases hP
   obtain⟨hs,h7⟩:=hsn
   have hop:1<=n.op/\n.op<=4:=by
    have h5':n.op≠5:=h5;have h6':n.op≠6:=h6;unfold zq at hs;by_cases h1:n.op=1
    ·omega
    ·rw [if_neg h1] at hs;by_cases h2:n.op=2
     ·omega
     ·rw [if_neg h2] at hs;by_cases h3:n.op=3
      ·omega
      ·rw [if_neg h3] at hs;by_cases h4:n.op=4
       ·omega
       ·rw [if_neg h4,if_neg (by omega),if_neg h7] at hs;cases hs
   refine⟨.node n .nil,⟨?_,?_,trivial⟩,rfl,?_⟩
   ·unfold jC
    rw [I0 (by omega),hs,decide_eq_false h7];rfl
   ·unfold zC
    rw [if_neg (by omega),if_pos (by omega)];rfl
   ·unfold evX
    rw [if_pos hop]
 ·intro P hP h5 ih hl;have hf:zc P=0:=zH.2 ⟨hl,hP⟩;obtain⟨e,-,h3,-⟩:=ER hP h5;have hle:∀Q∈zg P,Q.length<=200:=λQ hQ=>by
   have h1:=ze4 hQ;have h2:=congrArg List.length e;simp only [List.length_cons] at h2;omega
  obtain⟨T,hT,QJ⟩:=za5 (σ:=σ) (zg P) λQ hQ=>ih Q hQ (hle Q hQ);have hlen:T.length=(zg P).length:=by rw [<-QJ,List.length_map]
  refine⟨.node (jm (zg P).length) (OV T),⟨zfM _,?_,Se _ _ λx hx=>(hT x hx).1⟩,?_,?_⟩
  ·rw [Xw,hlen];rfl
  ·rw [Ex.flat,UZ,QJ];exact e.symm
  ·obtain⟨-,-,s1,s2⟩:=zcU hf h5;have hS:=zjR σ T λx hx=>(hT x hx).2;rw [QJ] at hS;have e5:(jm ((zg P).length:Int)).op=5:=rfl;unfold evX;rw [e5,if_neg (show¬((1:Int)<=5/\(5:Int)<=4) by decide),if_neg (show¬(5:Int)=8 by decide),if_neg (show¬((5:Int)=11\/(5:Int)=12) by decide),if_neg (show¬(5:Int)=13 by decide),if_neg (show¬(5:Int)=6 by decide),hS];simp only [if_true];unfold z6;rw [if_pos s1,s2]
 ·intro P hP h6 ih hl;have hf:zc P=0:=zH.2 ⟨hl,hP⟩;obtain⟨e,-,h3,h4⟩:=Kh hP h6;have hle:∀x∈zo P,x.2.length<=200:=λx hx=>by
   have h2:=congrArg List.length e;simp only [List.length_cons] at h2;have:x.2.length<=(zw (zo P)).length:=by
    generalize zo P=L at hx
    induction L with
    | nil=>cases hx
    | cons y L ih =>
     simp only [zw,List.length_cons,List.length_append]
     rcases List.mem_cons.1 hx with rfl|hx
     ·omega
     ·have:=ih hx;omega
   omega
  obtain⟨T,hT,QJ⟩:=Xk (σ:=σ) (zo P) λp hp=>ih p hp (hle p hp);have hlen:T.length=(zo P).length:=by rw [<-QJ,List.length_map]
  have VE:∀p∈T,zh p.1=0:=λp hp=>by
   have:(p.1,p.2.flat)∈zo P:=by rw [<-QJ];exact List.mem_map.2 ⟨p,hp,rfl⟩
   exact(h3 _ this).2
  refine⟨.node (zG (zo P).length) (VR T),⟨zfQ _,?_,?_⟩,?_,?_⟩
  ·rw [ZS,hlen];rfl
  ·exact TF _ _ (λp hp=>⟨VE p hp,(hT p hp).1⟩) (by rw [QJ];exact h4)
  ·rw [Ex.flat,WU,QJ];exact e.symm
  ·obtain⟨s1,s2⟩:=zgA hf h6;have hS:=zhA σ T λx hx=>(hT x hx).2;rw [QJ] at hS;have e6:(zG ((zo P).length:Int)).op=6:=rfl;unfold evX;rw [e6,if_neg (show¬((1:Int)<=6/\(6:Int)<=4) by decide),if_neg (show¬(6:Int)=8 by decide),if_neg (show¬((6:Int)=11\/(6:Int)=12) by decide),if_neg (show¬(6:Int)=13 by decide),if_pos (show(6:Int)=6 from rfl),hS];simp only;unfold z6;rw [if_pos s1,s2]
def zP(x:Ex):List Nd:=if x.head.op=7 then x.flat.tail else x.flat
noncomputable def Gc(E:List En)(n:Nd)(names:List ByteArray)(vs:List (List Nd)):Res :=
 if n.op=6 then z6 (oC names vs) (Ki names vs) else if n.op=5 then z6 (setE vs) (setV vs) else NC E n vs
noncomputable def eZ(knows:Bool)(V:List Nd):Bool:=decide (zc V=0)&&(knows || V.all λm=>decide (m.op≠4))
noncomputable def jJ(E:List En)(knows:Bool):Ex->Option Ex
 | .node n ps =>
  if(ps.len=0/\n.op≠5/\n.op≠6)\/n.op=7\/zc (Ex.node n ps).flat=0 then none
  else if(exL ps).all (λq=>eZ knows (zP q))=false then none
  else if n.op=11\/n.op=12\/n.op=13 then none
  else match Gc E n ((exL ps).map λq=>q.head.s) ((exL ps).map zP) with
   | .error _=>none
   | .ok V=>QF V
theorem Mm{x:Ex}(hv:x.valid false):zP x=x.flat:=by
 obtain⟨n,ps⟩:=x;have h1:=hv.1;unfold jC at h1;rw [Bool.and_eq_true] at h1;have h7:n.op≠7:=by simpa using h1.2
 unfold zP;rw [if_neg (show¬(Ex.node n ps).head.op=7 from h7)]
theorem Ui{x y:Ex}(hx:x.valid false)(hy:y.valid false)(e:x.flat=y.flat):x=y:=by
 have h1:=IW.2 ⟨hx,rfl⟩;have h2:=IW.2 ⟨hy,rfl⟩;rw [e,h2] at h1;injection h1 with h1;exact h1.symm
theorem YQ(σ:Env){x:Ex}(hv:x.valid false)(h:zc x.flat=0):evX σ x = .ok x.flat:=by
 obtain⟨y,h1,h2,h3⟩:=ZU σ h;rw [Ui hv h1 h2.symm,h2];exact h3
theorem Z9(σ:Env):∀(ps:Exs) (l:ByteArray),ps.valid false l->(∀q∈exL ps,zc (zP q)=0)->evS σ ps = .ok ((exL ps).map zP)
 | .nil,_,_,_=>by rw [evS];rfl
 | .cons x r,l,hv,h=>by
  have h1:=h x (by simp [exL]);rw [Mm hv.2.1] at h1;rw [evS,YQ σ hv.2.1 h1,Z9 σ r _ hv.2.2 (λq hq=>h q (by simp [exL,hq]))];simp only [exL,List.map_cons,Mm hv.2.1]
theorem zm8(σ:Env){x:Ex}(hv:x.valid true)(h:zc (zP x)=0):Lf σ x = .ok (zP x):=by
 obtain⟨n,ps⟩:=x;obtain⟨h1,hl,h3⟩:=hv;unfold jC at h1;rw [Bool.and_eq_true] at h1;have h7:n.op=7:=by simpa using h1.2
 have h2:ps.len=1:=by
  unfold zC at hl
  repeat' split at hl
  all_goals omega
 match ps,h2 with
 | .cons a .nil,_ =>
  rw [show zB n=false by unfold zB;exact decide_eq_false (by omega)] at h3
  have e:zP (.node n (.cons a .nil))=a.flat:=by
   unfold zP;rw [if_pos (show(Ex.node n (.cons a .nil)).head.op=7 from h7)];simp [Ex.flat,Exs.flat]
  rw [e] at h ⊢
  rw [Lf,Jd]
  exact YQ σ h3.2.1 h
theorem zb4(σ:Env):∀(ps:Exs) (l:ByteArray),ps.valid true l->(∀q∈exL ps,zc (zP q)=0)->evF σ ps = .ok ((exL ps).map λq=>(q.head.s,zP q))
 | .nil,_,_,_=>by rw [evF];rfl
 | .cons x r,l,hv,h=>by
  rw [evF,zm8 σ hv.2.1 (h x (by simp [exL])),zb4 σ r _ hv.2.2 (λq hq=>h q (by simp [exL,hq]))];rfl
theorem SZ{V:List Nd}(h:∀m∈V,m.op≠4):zf V≠4:=by
 cases V with
 | nil=>decide
 | cons a r=>exact h a (by simp)
theorem znR{E F:List En}{V:List Nd}(h:∀m∈V,m.op≠4):vZ E V=vZ F V:=by
 unfold vZ;rw [if_neg (SZ h),if_neg (SZ h)]
theorem znG{E F:List En}{n:Nd}{vs:List (List Nd)}(h:∀V∈vs,∀m∈V,m.op≠4):NC E n vs=NC F n vs:=by
 match vs,h with
 | [],_=>rfl
 | [V],h =>
  show jv E n V=jv F n V
  unfold jv
  rw [znR (F:=F) (h V (by simp))]
 | [A,B],h =>
  show jO E n.op A B=jO F n.op A B
  have hA:=SZ (h A (by simp))
  have hi:inX E A B=inX F A B:=by
   unfold inX;rw [if_neg (λq=>hA q.1),if_neg (λq=>hA q.1)]
  unfold jO
  rw [hi]
 | _ :: _ :: _ :: _,_=>rfl
theorem zdu(σ:Env){n:Nd}{ps:Exs}(hv:(Ex.node n ps).valid false)(c1:¬((ps.len=0/\n.op≠5/\n.op≠6)\/n.op=7\/zc (Ex.node n ps).flat=0))(c3:¬(n.op=11\/n.op=12\/n.op=13))(hval:∀q∈exL ps,zc (zP q)=0):
 evX σ (.node n ps)=Gc σ.E n ((exL ps).map λq=>q.head.s) ((exL ps).map zP):=by
 have h14:¬(1<=n.op/\n.op<=4)/\n.op≠8:=by
  constructor
  all_goals
   intro q;have h2:ps.len=0:=by
    have hl:=hv.2.1;unfold zC at hl
    repeat' split at hl
    all_goals omega
   exact c1 (.inl ⟨h2,by omega,by omega⟩)
 rw [evX,if_neg h14.1,if_neg h14.2,if_neg (by omega),if_neg (by omega)];have h3:=hv.2.2;unfold Gc;by_cases h6:n.op=6
 ·rw [show zB n=true by unfold zB;exact decide_eq_true h6] at h3;rw [if_pos h6,if_pos h6,zb4 σ ps _ h3 hval];simp only [List.map_map];rfl
 ·rw [show zB n=false by unfold zB;exact decide_eq_false h6] at h3;rw [if_neg h6,if_neg h6,Z9 σ ps _ h3 hval]
theorem ZQ{σ:Env}{E:List En}{knows:Bool}(hE:knows=true->E=σ.E)(hσ:vq σ){x y:Ex}(hv:x.valid false)(h:jJ E knows x=some y):
 evX σ y=evX σ x/\y.valid false/\evX σ x = .ok y.flat:=by
 obtain⟨n,ps⟩:=x;rw [jJ] at h;by_cases c1:(ps.len=0/\n.op≠5/\n.op≠6)\/n.op=7\/zc (Ex.node n ps).flat=0
 ·rw [if_pos c1] at h;cases h
 rw [if_neg c1] at h;by_cases c2:(exL ps).all (λq=>eZ knows (zP q))=false
 ·rw [if_pos c2] at h;cases h
 rw [if_neg c2] at h;by_cases c3:n.op=11\/n.op=12\/n.op=13
 ·rw [if_pos c3] at h;cases h
 rw [if_neg c3] at h;have hall:∀q∈exL ps,eZ knows (zP q)=true:=by
  have:(exL ps).all (λq=>eZ knows (zP q))=true:=by simpa using c2
  exact List.all_eq_true.1 this
 have hval:∀q∈exL ps,zc (zP q)=0:=λq hq=>by
  have:=hall q hq;unfold eZ at this;rw [Bool.and_eq_true] at this;exact of_decide_eq_true this.1
 have hx:evX σ (.node n ps)=Gc σ.E n ((exL ps).map λq=>q.head.s) ((exL ps).map zP):=zdu σ hv c1 c3 hval;have happ:Gc E n ((exL ps).map λq=>q.head.s) ((exL ps).map zP)=Gc σ.E n ((exL ps).map λq=>q.head.s) ((exL ps).map zP):=by
  cases knows with
  | true=>rw [hE rfl]
  | false =>
   unfold Gc
   rw [znG (F:=σ.E) (λV hV=>?_)]
   obtain⟨q,hq,rfl⟩:=List.mem_map.1 hV
   have h1:=hall q hq
   unfold eZ at h1
   rw [Bool.and_eq_true,Bool.false_or,List.all_eq_true] at h1
   exact λm hm=>of_decide_eq_true (h1.2 m hm)
 rw [happ,<-hx] at h;rcases hq:evX σ (.node n ps) with u|V
 ·rw [hq] at h;cases h
 ·rw [hq] at h;simp only at h;have hV:=Jm hσ _ false hv V hq;obtain⟨hy,e⟩:=IW.1 h;subst e;exact⟨YQ σ hy hV,hy,rfl⟩
theorem ziB{r:List Nd}{s:ByteArray}(hr:zc r=0)(h6:zf r=6):(dK r s=0↔∃x∈zo r,x.1=s)/\(dK r s=0\/dK r s=3)/\(dK r s=0->∃x∈zo r,x.1=s/\IG r s=x.2):=by
 obtain⟨o,ho⟩:∃o,(zo r).find? (λx=>decide (jh x.1 s=0))=o:=⟨_,rfl⟩
 have hg:Ug r s=o.map (·.2):=congrArg (Option.map (λx:ByteArray × List Nd=>x.2)) ho;have hE:dK r s=if(o.map (·.2)).isSome then 0 else 3:=by unfold dK;rw [if_pos hr,if_pos h6,hg]
 cases o with
 | none =>
  have hn:=List.find?_eq_none.1 ho
  have hE':dK r s=3:=by rw [hE];rfl
  refine⟨⟨λh=>(by rw [hE'] at h;cases h),λ⟨x,hx,e⟩=>?_⟩,.inr hE',λh=>(by rw [hE'] at h;cases h)⟩
  have h1:=hn x hx
  rw [e,jf.self s] at h1
  exact absurd (decide_eq_true rfl) h1
 | some x =>
  have hm:=List.mem_of_find?_eq_some ho
  have he:x.1=s:=(jf.zero _ _).1 (by simpa using List.find?_some ho)
  have hE':dK r s=0:=by rw [hE];rfl
  exact⟨⟨λ_=>⟨x,hm,he⟩,λ_=>hE'⟩,.inl hE',λ_=>⟨x,hm,he,by unfold IG;rw [if_pos hE',hg];rfl⟩⟩
theorem zeC(p:List Nd):∀l:List (List Nd),(NW p l).flatten.length<=p.length+l.flatten.length
 | []=>by simp [NW]
 | q :: r=>by
  have:=zeC p r;unfold NW;split
  ·simp
  ·split
   ·simp
   ·simp only [List.flatten_cons,List.length_append];omega
theorem zfa:∀L:List (List Nd),(jT L).flatten.length<=L.flatten.length
 | []=>by simp [jT]
 | p :: r=>by
  have h1:=zeC p (jT r);have h2:=zfa r;rw [jT,List.flatten_cons,List.length_append];omega
theorem zit{L:List (List Nd)}(h:setE L=0):(setV L).length<=1+L.flatten.length:=by
 rw [Pq h,List.length_cons];have:=zfa L;omega
theorem W9:∀ {L:List (ByteArray × List Nd)} {x:ByteArray × List Nd},x∈L->x.2.length<=(zw L).length
 | y :: r,x,h=>by
  simp only [zw,List.length_cons,List.length_append];rcases List.mem_cons.1 h with rfl|h
  ·omega
  ·have:=W9 h;omega
theorem zlh{L M:List (ByteArray × List Nd)}(h:L.Perm M):(zw L).length=(zw M).length:=by
 induction h with
 | nil=>rfl
 | cons x _ ih=>simp only [zw,List.length_cons,List.length_append];omega
 | swap x y l=>simp only [zw,List.length_cons,List.length_append];omega
 | trans _ _ h1 h2=>omega
theorem zi3{N:List ByteArray}{L:List (List Nd)}(h:oC N L=0):(Ki N L).length=1+(zw (N.zip L)).length:=by
 unfold Ki;rw [if_pos h,List.length_cons,zlh (j9 _)];omega
theorem ziQ{r:List Nd}{s:ByteArray}(hr:zc r=0)(h6:zf r=6)(h:dK r s=0):(IG r s).length<=r.length:=by
 obtain⟨x,hx,-,ev⟩:=(ziB (s:=s) hr h6).2.2 h;obtain⟨e,-⟩:=Kh (zH.1 hr).2 h6;have h1:=W9 hx;rw [ev];have h2:r.length=1+(zw (zo r)).length:=by
  have:=congrArg List.length e;rw [List.length_cons] at this;omega
 omega
theorem Og{e:Int}{V W:List Nd}(h:z6 e V = .ok W):e=0/\W=V:=by
 unfold z6 at h;split at h
 ·rename_i h0;injection h with h;exact⟨h0,h.symm⟩
 ·cases h
theorem Oq{e:Int}{b:Bool}{W:List Nd}(h:jo e b = .ok W):W.length=1:=by
 unfold jo at h;split at h
 ·injection h with h;subst h;rfl
 ·cases h
theorem Gp{b:Bool}{W:List Nd}(h:(.ok (zI b):Res)= .ok W):W.length=1:=by
 injection h with h;subst h;rfl
theorem zjW{E:List En}{n:Nd}{V W:List Nd}(hV:zc V=0)(hn:∀m∈V,m.op≠4)(h:jv E n V = .ok W):W.length<=1+V.length:=by
 unfold jv at h;split at h
 ·split at h
  ·have:=Gp h;omega
  ·cases h
 ·split at h
  ·split at h
   ·obtain⟨-,rfl⟩:=Og h;simp [LU]
   ·cases h
  ·split at h
   ·split at h
    ·have:=Oq h;omega
    ·cases h
   ·split at h
    ·split at h
     ·have:=Gp h;omega
     ·cases h
    ·rcases hr:vZ E V with u|(_|r)
     ·rw [hr] at h;cases h
     ·rw [hr] at h;simp only at h;split at h
      ·have:=Gp h;omega
      ·cases h
     ·rw [hr] at h;simp only at h;split at h
      ·have:=Gp h;omega
      ·obtain⟨h0,rfl⟩:=Og h;unfold vZ at hr;split at hr
       ·rename_i h6;injection hr with hr;injection hr with hr;subst hr;have:=ziQ hV h6 h0;omega
       ·rw [if_neg (SZ hn)] at hr;cases hr
theorem zin{E:List En}{op:Int}{A B W:List Nd}(h:jO E op A B = .ok W):W.length=1:=by
 unfold jO at h;split at h
 ·exact Gp h
 ·split at h
  ·unfold inX at h;split at h
   ·exact Gp h
   ·cases h
  ·split at h
   ·exact Oq h
   ·split at h
    ·exact Oq h
    ·split at h
     ·exact Oq h
     ·split at h
      ·split at h
       ·exact Gp h
       ·split at h
        ·exact Gp h
        ·obtain⟨-,rfl⟩:=Og h;rfl
      ·cases h
theorem zlZ(x:Ex):(zP x).length<=x.flat.length:=by
 unfold zP;split
 ·rw [List.length_tail];omega
 ·omega
theorem zbD:∀ps:Exs,((exL ps).map zP).flatten.length<=ps.flat.length
 | .nil=>by simp [exL,Exs.flat]
 | .cons x r=>by
  have h1:=zlZ x;have h2:=zbD r;simp only [exL,Exs.flat,List.map_cons,List.flatten_cons,List.length_append];omega
theorem TM:∀(ps:Exs) (l:ByteArray),ps.valid true l->(zw (((exL ps).map λq=>q.head.s).zip ((exL ps).map zP))).length<=ps.flat.length
 | .nil,_,_=>by simp [exL,Exs.flat,zw]
 | .cons x r,l,hv=>by
  have h2:=TM r _ hv.2.2;have h7:x.head.op=7:=by
   obtain⟨n,qs⟩:=x;have h1:=hv.2.1.1;unfold jC at h1;rw [Bool.and_eq_true] at h1;simpa [Ex.head] using h1.2
  have hp:=jp x;have h1:(zP x).length+1=x.flat.length:=by
   unfold zP;rw [if_pos h7,List.length_tail];omega
  simp only [exL,Exs.flat,List.map_cons,List.zip_cons_cons,zw,List.length_cons,List.length_append];omega
theorem zfW{E:List En}{x y:Ex}(hv:x.valid false)(h:jJ E false x=some y):y.flat.length<=x.flat.length:=by
 obtain⟨n,ps⟩:=x;rw [jJ] at h;by_cases c1:(ps.len=0/\n.op≠5/\n.op≠6)\/n.op=7\/zc (Ex.node n ps).flat=0
 ·rw [if_pos c1] at h;cases h
 rw [if_neg c1] at h;by_cases c2:(exL ps).all (λq=>eZ false (zP q))=false
 ·rw [if_pos c2] at h;cases h
 rw [if_neg c2] at h;by_cases c3:n.op=11\/n.op=12\/n.op=13
 ·rw [if_pos c3] at h;cases h
 rw [if_neg c3] at h;have hall:∀V∈(exL ps).map zP,zc V=0/\∀m∈V,m.op≠4:=λV hV=>by
  obtain⟨q,hq,rfl⟩:=List.mem_map.1 hV;have h0:(exL ps).all (λq=>eZ false (zP q))=true:=by simpa using c2
  have h1:=List.all_eq_true.1 h0 q hq;unfold eZ at h1;rw [Bool.and_eq_true,Bool.false_or,List.all_eq_true] at h1;exact⟨of_decide_eq_true h1.1,λm hm=>of_decide_eq_true (h1.2 m hm)⟩
 have hpl:=zbD ps;have hfl:(Ex.node n ps).flat.length=1+ps.flat.length:=by simp only [Ex.flat,List.length_cons];omega
 rw [hfl];rcases hq:Gc E n ((exL ps).map λq=>q.head.s) ((exL ps).map zP) with u|V
 ·rw [hq] at h;cases h
 rw [hq] at h;simp only at h;obtain⟨-,e⟩:=IW.1 h;rw [<-e];unfold Gc at hq;by_cases h6:n.op=6
 ·rw [if_pos h6] at hq;obtain⟨h0,rfl⟩:=Og hq;rw [zi3 h0];have h3:=hv.2.2;rw [show zB n=true by unfold zB;exact decide_eq_true h6] at h3;have:=TM ps _ h3;omega
 rw [if_neg h6] at hq;by_cases h5:n.op=5
 ·rw [if_pos h5] at hq;obtain⟨h0,rfl⟩:=Og hq;have:=zit h0;omega
 rw [if_neg h5] at hq;generalize (exL ps).map zP=vs at *
 match vs,hall,hpl,hq with
 | [A],hall,hpl,hq =>
  have:=zjW (hall A (by simp)).1 (hall A (by simp)).2 hq
  simp at hpl
  omega
 | [A,B],_,_,hq =>
  have:V.length=1:=zin hq
  omega
def eO:Nat->Ex->Ex
 | 0,x=>x
 | m+1,x=>match ju x with
  | some y=>eO m y
  | none=>x
noncomputable def NP(E:List En)(knows:Bool)(x:Ex):Ex :=
 match jJ E knows (eO x.flat.length x) with
 | some r=>r
 | none=>eO x.flat.length x
mutual
noncomputable def jV(E:List En)(knows:Bool):Ex->Ex
 | .node n ps=>NP E knows (.node n (zZ E knows ps))
noncomputable def zZ(E:List En)(knows:Bool):Exs->Exs
 | .nil => .nil
 | .cons x r => .cons (jV E knows x) (zZ E knows r)
end
theorem XS{σ:Env}(hσ:vq σ):∀(m:Nat) {x:Ex},x.valid false->evX σ (eO m x)=evX σ x/\(eO m x).valid false/\(eO m x).flat.length<=x.flat.length
 | 0,x,hv=>⟨rfl,hv,Nat.le_refl _⟩
 | m+1,x,hv=>by
  rw [eO];rcases hq:ju x with _|y
  ·exact⟨rfl,hv,Nat.le_refl _⟩
  ·obtain⟨h1,h2,h3⟩:=zdt hσ hv hq;obtain⟨g1,g2,g3⟩:=XS hσ m h2;exact⟨g1.trans h1,g2,by simp only;omega⟩
theorem Ro{σ:Env}(hσ:vq σ):∀(m:Nat) {x:Ex},x.valid false->x.flat.length<=m->ju (eO m x)=none
 | 0,x,_,h=>by have:=jp x;omega
 | m+1,x,hv,h=>by
  rw [eO];rcases hq:ju x with _|y
  ·exact hq
  ·obtain⟨-,h2,h3⟩:=zdt hσ hv hq;exact Ro hσ m h2 (by omega)
theorem zjS{σ:Env}(hσ:vq σ){E:List En}{knows:Bool}(hE:knows=true->E=σ.E){x:Ex}(hv:x.valid false):evX σ (NP E knows x)=evX σ x/\(NP E knows x).valid false:=by
 obtain⟨g1,g2,-⟩:=XS hσ x.flat.length hv;unfold NP;rcases hq:jJ E knows (eO x.flat.length x) with _|y
 ·exact⟨g1,g2⟩
 ·obtain⟨h1,h2,-⟩:=ZQ hE hσ g2 hq;exact⟨h1.trans g1,h2⟩
theorem zl1{σ:Env}(hσ:vq σ){E:List En}{x:Ex}(hv:x.valid false):(NP E false x).flat.length<=x.flat.length:=by
 obtain⟨-,g2,g3⟩:=XS hσ x.flat.length hv;unfold NP;rcases hq:jJ E false (eO x.flat.length x) with _|y
 ·exact g3
 ·have:=zfW g2 hq;simp only;omega
theorem Zj{E:List En}{knows:Bool}{n:Nd}{ps:Exs}(h7:n.op=7):NP E knows (.node n ps)= .node n ps:=by
 have hlog:ju (.node n ps)=none:=by
  unfold ju;split
  ·split
   ·rename_i _ _ e;rw [if_neg (λq=>by injection e with e1 e2;subst e1;omega)]
   ·rfl
  ·rename_i e;injection e with e1 e2;subst e1;rw [if_neg (by omega)]
  ·rename_i e;injection e with e1 e2;subst e1;rw [if_neg (by omega)]
  ·rfl
 have hloop:∀m,eO m (.node n ps)= .node n ps:=λm=>by
  cases m with
  | zero=>rfl
  | succ m=>rw [eO,hlog]
 unfold NP;rw [hloop,jJ,if_pos (.inr (.inl h7))]
def SmL(σ:Env):Exs->Exs->Prop
 | .nil,.nil=>True
 | .cons a r,.cons b s=>evX σ a=evX σ b/\SmL σ r s
 | _,_=>False
theorem zph{σ:Env}:∀ {ps qs:Exs},SmL σ ps qs->evS σ ps=evS σ qs
 | .nil,.nil,_=>rfl
 | .cons a r,.cons b s,h=>by rw [evS,evS,h.1,zph h.2]
 | .nil,.cons _ _,h=>h.elim
 | .cons _ _,.nil,h=>h.elim
theorem zdE{σ:Env}:∀ {ps qs:Exs},SmL σ ps qs->Jd σ ps=Jd σ qs
 | .nil,.nil,_=>rfl
 | .cons a r,.cons b s,h=>by rw [Jd,Jd,h.1]
 | .nil,.cons _ _,h=>h.elim
 | .cons _ _,.nil,h=>h.elim
theorem zno{σ:Env}:∀ {ps qs:Exs},SmL σ ps qs->NB σ ps=NB σ qs
 | .nil,.nil,_=>rfl
 | .cons a r,.cons b s,h=>by rw [NB,NB,zdE h.2]
 | .nil,.cons _ _,h=>h.elim
 | .cons _ _,.nil,h=>h.elim
theorem zlu{σ:Env}:∀ {ps qs:Exs},SmL σ ps qs->CW σ ps=CW σ qs
 | .nil,.nil,_=>rfl
 | .cons a r,.cons b s,h=>by rw [CW,CW,h.1]
 | .nil,.cons _ _,h=>h.elim
 | .cons _ _,.nil,h=>h.elim
theorem zgC{σ:Env}{o:Bool}:∀ {ps qs:Exs},SmL σ ps qs->jK σ o ps=jK σ o qs
 | .nil,.nil,_=>rfl
 | .cons a r,.cons b s,h=>by rw [jK,jK,h.1,zlu h.2]
 | .nil,.cons _ _,h=>h.elim
 | .cons _ _,.nil,h=>h.elim
theorem zo7{σ:Env}:∀ {ps qs:Exs},SmL σ ps qs->MZ σ ps=MZ σ qs
 | .nil,.nil,_=>rfl
 | .cons a r,.cons b s,h=>by rw [MZ,MZ,h.1,zdE h.2,zno h.2]
 | .nil,.cons _ _,h=>h.elim
 | .cons _ _,.nil,h=>h.elim
theorem zlW{σ:Env}{n:Nd}(h6:n.op≠6){ps qs:Exs}(h:SmL σ ps qs):evX σ (.node n ps)=evX σ (.node n qs):=by
 rw [evX,evX,zgC h,zo7 h,zph h,if_neg h6,if_neg h6]
theorem zf8:∀ {ps:Exs} {l m:ByteArray},ps.valid false l->ps.valid false m
 | .nil,_,_,_=>trivial
 | .cons _ _,_,_,h=>⟨λe=>(by cases e),h.2.1,h.2.2⟩
mutual
theorem zd3{σ:Env}(hσ:vq σ){E:List En}{knows:Bool}(hE:knows=true->E=σ.E):∀(x:Ex),x.valid false->evX σ (jV E knows x)=evX σ x/\(jV E knows x).valid false
 | .node n ps,hv=>by
  obtain⟨h1,hl,h3⟩:=hv;rw [jV];by_cases h6:n.op=6
  ·have hr:zB n=true:=by unfold zB;exact decide_eq_true h6
   rw [hr] at h3;obtain⟨e1,e2,e3⟩:=Vt hσ hE ps _ h3;have hv':(Ex.node n (zZ E knows ps)).valid false:=⟨h1,by rw [e3];exact hl,by rw [hr];exact e2⟩
   obtain⟨f1,f2⟩:=zjS hσ hE hv';refine⟨f1.trans ?_,f2⟩;rw [evX,evX,e1];simp only [if_pos h6];rw [if_neg (by omega),if_neg (by omega),if_neg (by omega),if_neg (by omega),if_neg (by omega),if_neg (by omega),if_neg (by omega),if_neg (by omega)]
  ·have hr:zB n=false:=by unfold zB;exact decide_eq_false h6
   rw [hr] at h3;obtain⟨e1,e2,e3⟩:=Re hσ hE ps _ h3;have hv':(Ex.node n (zZ E knows ps)).valid false:=⟨h1,by rw [e3];exact hl,by rw [hr];exact e2⟩
   obtain⟨f1,f2⟩:=zjS hσ hE hv';exact⟨f1.trans (zlW h6 e1),f2⟩
theorem Re{σ:Env}(hσ:vq σ){E:List En}{knows:Bool}(hE:knows=true->E=σ.E):∀(ps:Exs) (l:ByteArray),ps.valid false l->SmL σ (zZ E knows ps) ps/\(zZ E knows ps).valid false l/\(zZ E knows ps).len=ps.len
 | .nil,_,_=>by rw [zZ];exact⟨trivial,trivial,rfl⟩
 | .cons x r,l,hv=>by
  obtain⟨a1,a2⟩:=zd3 hσ hE x hv.2.1;obtain⟨b1,b2,b3⟩:=Re hσ hE r _ hv.2.2;rw [zZ];exact⟨⟨a1,b1⟩,⟨λe=>(by cases e),a2,zf8 b2⟩,by rw [Exs.len,Exs.len,b3]⟩
theorem Vt{σ:Env}(hσ:vq σ){E:List En}{knows:Bool}(hE:knows=true->E=σ.E):∀(ps:Exs) (l:ByteArray),ps.valid true l->evF σ (zZ E knows ps)=evF σ ps/\(zZ E knows ps).valid true l/\(zZ E knows ps).len=ps.len
 | .nil,_,_=>by rw [zZ];exact⟨rfl,trivial,rfl⟩
 | .cons x r,l,hv=>by
  obtain⟨a1,a2,a3⟩:=ziq hσ hE x hv.2.1;obtain⟨b1,b2,b3⟩:=Vt hσ hE r _ hv.2.2;rw [zZ];refine⟨?_,⟨λe=>(by rw [a3];exact hv.1 e),a2,(by rw [a3];exact b2)⟩,by rw [Exs.len,Exs.len,b3]⟩;rw [evF,evF,a1,b1,a3]
theorem ziq{σ:Env}(hσ:vq σ){E:List En}{knows:Bool}(hE:knows=true->E=σ.E):∀(x:Ex),x.valid true->Lf σ (jV E knows x)=Lf σ x/\(jV E knows x).valid true/\(jV E knows x).head=x.head
 | .node n ps,hv=>by
  obtain⟨h1,hl,h3⟩:=hv;have h7:n.op=7:=by
   have h2:=h1;unfold jC at h2;rw [Bool.and_eq_true] at h2;simpa using h2.2
  have hr:zB n=false:=by unfold zB;exact decide_eq_false (by omega)
  rw [hr] at h3;obtain⟨e1,e2,e3⟩:=Re hσ hE ps _ h3;rw [jV,Zj h7];refine⟨?_,⟨h1,by rw [e3];exact hl,by rw [hr];exact e2⟩,rfl⟩;rw [Lf,Lf,zdE e1]
end
mutual
theorem Tm{σ:Env}(hσ:vq σ){E:List En}:∀(x:Ex) (f:Bool),x.valid f->(jV E false x).flat.length<=x.flat.length
 | .node n ps,f,hv=>by
  have hq:=Q0 hσ (E:=E) ps _ _ hv.2.2;rw [jV];have h0:(Ex.node n (zZ E false ps)).flat.length<=(Ex.node n ps).flat.length:=by
   simp only [Ex.flat,List.length_cons];omega
  cases f with
  | true =>
   have h7:n.op=7:=by
    have h2:=hv.1;unfold jC at h2;rw [Bool.and_eq_true] at h2;simpa using h2.2
   rw [Zj h7]
   exact h0
  | false =>
   have hv':(Ex.node n (zZ E false ps)).valid false:=by
    obtain⟨h1,hl,h3⟩:=hv;by_cases h6:n.op=6
    ·have hr:zB n=true:=by unfold zB;exact decide_eq_true h6
     rw [hr] at h3;obtain⟨-,e2,e3⟩:=Vt hσ (E:=E) (knows:=false) (λe=>(by cases e)) ps _ h3;exact⟨h1,by rw [e3];exact hl,by rw [hr];exact e2⟩
    ·have hr:zB n=false:=by unfold zB;exact decide_eq_false h6
     rw [hr] at h3;obtain⟨-,e2,e3⟩:=Re hσ (E:=E) (knows:=false) (λe=>(by cases e)) ps _ h3;exact⟨h1,by rw [e3];exact hl,by rw [hr];exact e2⟩
   exact Nat.le_trans (zl1 hσ hv') h0
theorem Q0{σ:Env}(hσ:vq σ){E:List En}:∀(ps:Exs) (c:Bool) (l:ByteArray),ps.valid c l->(zZ E false ps).flat.length<=ps.flat.length
 | .nil,_,_,_=>by rw [zZ];exact Nat.le_refl _
 | .cons x r,c,l,hv=>by
  have h1:=Tm hσ (E:=E) x c hv.2.1;have h2:=Q0 hσ (E:=E) r c _ hv.2.2;rw [zZ];simp only [Exs.flat,List.length_append];omega
end
theorem Qs{e:Int}{b:Bool}:jo e b≠ .error 0:=λh=>by
 unfold jo at h;split at h
 ·cases h
 ·rename_i hn;injection h with h;exact hn h
theorem Oe{e:Int}{V:List Nd}:z6 e V≠ .error 0:=λh=>by
 unfold z6 at h;split at h
 ·cases h
 ·rename_i hn;injection h with h;exact hn h
theorem zgd{σ:Env}{s:ByteArray}:ym σ s≠ .error 0:=λh=>by
 unfold ym at h
 repeat (split at h;· cases h)
 injection h with h;cases h
theorem LY{k:Int}(hk:k≠0):(Except.error k:Res)≠ .error 0:=λh=>by injection h with h;exact hk h
theorem zkS{E:List En}{V:List Nd}:vZ E V≠ .error 0:=λh=>by
 unfold vZ at h;split at h
 ·cases h
 ·split at h
  ·cases h
  ·injection h with h;cases h
theorem zlM{E:List En}{n:Nd}{V:List Nd}:jv E n V≠ .error 0:=λh=>by
 unfold jv at h;split at h
 ·split at h
  ·cases h
  ·exact LY (by decide) h
 ·split at h
  ·split at h
   ·exact Oe h
   ·exact LY (by decide) h
  ·split at h
   ·split at h
    ·exact Qs h
    ·exact LY (by decide) h
   ·split at h
    ·split at h
     ·cases h
     ·exact LY (by decide) h
    ·rcases hr:vZ E V with e|(_|r)
     ·rw [hr] at h;simp only at h;injection h with h;subst h;exact zkS hr
     ·rw [hr] at h;simp only at h;split at h
      ·cases h
      ·exact LY (by decide) h
     ·rw [hr] at h;simp only at h;split at h
      ·cases h
      ·exact Oe h
theorem zk7{E:List En}{op:Int}{A B:List Nd}:jO E op A B≠ .error 0:=λh=>by
 unfold jO at h;split at h
 ·cases h
 ·split at h
  ·unfold inX at h;split at h
   ·cases h
   ·exact LY (by decide) h
  ·split at h
   ·exact Qs h
   ·split at h
    ·exact Qs h
    ·split at h
     ·exact Qs h
     ·split at h
      ·split at h
       ·cases h
       ·split at h
        ·cases h
        ·exact Oe h
      ·exact LY (by decide) h
theorem zeH{σ:Env}:∀(ps:Exs) (L:List (List Nd)),evS σ ps = .ok L->L.length=ps.len
 | .nil,L,h=>by
  unfold evS at h;injection h with h;subst h;rfl
 | .cons x r,L,h=>by
  unfold evS at h;rcases hx:evX σ x with e|W
  ·rw [hx] at h;cases h
  ·rw [hx] at h;simp only at h;rcases hr:evS σ r with e|M
   ·rw [hr] at h;cases h
   ·rw [hr] at h;simp only at h;injection h with h;subst h;simp only [List.length_cons,Exs.len,zeH r M hr]
mutual
theorem Mv{σ:Env}:∀(x:Ex),x.valid false->evX σ x≠ .error 0
 | .node n ps,hv=>λh=>by
  obtain⟨h1,h2,h3⟩:=hv;unfold jC at h1;rw [Bool.and_eq_true] at h1;obtain⟨hf,h7⟩:=h1;have h7':n.op≠7:=by simpa using h7
  unfold evX at h;split at h
  ·cases h
  ·rename_i g14;split at h
   ·exact zgd h
   ·rename_i g8;split at h
    ·rename_i g;have hr:zB n=false:=decide_eq_false (by omega);have hl:(ps.len:Int)=2:=by
      rw [h2];unfold zC;rw [if_neg (by omega),if_neg (by omega),if_neg (by omega),if_neg (by omega),if_pos (by omega)]
     rw [hr] at h3;exact zaE ps _ h3 (by omega) _ h
    ·rename_i g11;split at h
     ·rename_i g;have hr:zB n=false:=decide_eq_false (by omega);have hl:(ps.len:Int)=3:=by
       rw [h2];unfold zC;rw [if_neg (by omega),if_neg (by omega),if_neg (by omega),if_pos (by omega)]
      rw [hr] at h3;exact zk5 ps _ h3 (by omega) h
     ·rename_i g13;split at h
      ·rename_i g6;have hr:zB n=true:=decide_eq_true g6;rw [hr] at h3;rcases hF:evF σ ps with e|L
       ·rw [hF] at h;simp only at h;injection h with h;subst h;exact zii ps _ h3 hF
       ·rw [hF] at h;exact Oe h
      ·rename_i g6;have hr:zB n=false:=decide_eq_false g6;rw [hr] at h3;rcases hS:evS σ ps with e|L
       ·rw [hS] at h;simp only at h;injection h with h;subst h;exact zhD ps _ h3 hS
       ·rw [hS] at h;simp only at h;split at h
        ·exact Oe h
        ·rename_i g5;have hL:=zeH ps L hS;have hlen:ps.len=1\/ps.len=2:=by
          unfold zC at h2;rw [if_neg (by omega),if_neg (by omega)] at h2;split at h2
          ·omega
          ·split at h2
           ·omega
           ·omega
         match L,hL with
         | [],hL=>simp only [List.length_nil] at hL;omega
         | [V],_=>exact zlM h
         | [A,B],_=>exact zk7 h
         | _ :: _ :: _ :: _,hL=>simp only [List.length_cons] at hL;omega
theorem zaE{σ:Env}:∀(ps:Exs) (s:ByteArray),ps.valid false s->2<=ps.len->∀(o:Bool),jK σ o ps≠ .error 0
 | .nil,_,_,hl,_=>λ_=>by simp only [Exs.len] at hl;omega
 | .cons a r,s,hv,hl,o=>λh=>by
  simp only [Exs.len] at hl;unfold jK at h;rcases ha:evX σ a with e|W
  ·rw [ha] at h;simp only at h;injection h with h;subst h;exact Mv a hv.2.1 ha
  ·rw [ha] at h;simp only at h;split at h
   ·split at h
    ·cases h
    ·exact zfu r _ hv.2.2 (by omega) h
   ·exact LY (by decide) h
theorem zfu{σ:Env}:∀(ps:Exs) (s:ByteArray),ps.valid false s->1<=ps.len->CW σ ps≠ .error 0
 | .nil,_,_,hl=>λ_=>by simp only [Exs.len] at hl;omega
 | .cons b r,s,hv,hl=>λh=>by
  unfold CW at h;rcases hb:evX σ b with e|W
  ·rw [hb] at h;simp only at h;injection h with h;subst h;exact Mv b hv.2.1 hb
  ·rw [hb] at h;simp only at h;split at h
   ·cases h
   ·exact LY (by decide) h
theorem zk5{σ:Env}:∀(ps:Exs) (s:ByteArray),ps.valid false s->3<=ps.len->MZ σ ps≠ .error 0
 | .nil,_,_,hl=>λ_=>by simp only [Exs.len] at hl;omega
 | .cons b r,s,hv,hl=>λh=>by
  simp only [Exs.len] at hl;unfold MZ at h;rcases hb:evX σ b with e|W
  ·rw [hb] at h;simp only at h;injection h with h;subst h;exact Mv b hv.2.1 hb
  ·rw [hb] at h;simp only at h;split at h
   ·split at h
    ·exact UL r _ hv.2.2 (by omega) h
    ·exact zjV r _ hv.2.2 (by omega) h
   ·exact LY (by decide) h
theorem UL{σ:Env}:∀(ps:Exs) (s:ByteArray),ps.valid false s->1<=ps.len->Jd σ ps≠ .error 0
 | .nil,_,_,hl=>λ_=>by simp only [Exs.len] at hl;omega
 | .cons a r,s,hv,hl=>λh=>by
  unfold Jd at h;exact Mv a hv.2.1 h
theorem zjV{σ:Env}:∀(ps:Exs) (s:ByteArray),ps.valid false s->2<=ps.len->NB σ ps≠ .error 0
 | .nil,_,_,hl=>λ_=>by simp only [Exs.len] at hl;omega
 | .cons a r,s,hv,hl=>λh=>by
  simp only [Exs.len] at hl;unfold NB at h;exact UL r _ hv.2.2 (by omega) h
theorem zhD{σ:Env}:∀(ps:Exs) (s:ByteArray),ps.valid false s->evS σ ps≠ .error 0
 | .nil,_,_=>λh=>by unfold evS at h;cases h
 | .cons x r,s,hv=>λh=>by
  unfold evS at h;rcases hx:evX σ x with e|W
  ·rw [hx] at h;simp only at h;injection h with h;subst h;exact Mv x hv.2.1 hx
  ·rw [hx] at h;simp only at h;rcases hr:evS σ r with e|M
   ·rw [hr] at h;simp only at h;injection h with h;subst h;exact zhD r _ hv.2.2 hr
   ·rw [hr] at h;cases h
theorem zii{σ:Env}:∀(ps:Exs) (s:ByteArray),ps.valid true s->evF σ ps≠ .error 0
 | .nil,_,_=>λh=>by unfold evF at h;cases h
 | .cons x r,s,hv=>λh=>by
  unfold evF at h;rcases hx:Lf σ x with e|W
  ·rw [hx] at h;simp only at h;injection h with h;subst h;exact zjd x hv.2.1 hx
  ·rw [hx] at h;simp only at h;rcases hr:evF σ r with e|M
   ·rw [hr] at h;simp only at h;injection h with h;subst h;exact zii r _ hv.2.2 hr
   ·rw [hr] at h;cases h
theorem zjd{σ:Env}:∀(x:Ex),x.valid true->Lf σ x≠ .error 0
 | .node n ps,hv=>λh=>by
  obtain⟨h1,h2,h3⟩:=hv;unfold jC at h1;rw [Bool.and_eq_true] at h1;have h7:n.op=7:=by simpa using h1.2
  have hr:zB n=false:=decide_eq_false (by omega);have hl:(ps.len:Int)=1:=by
   rw [h2];unfold zC;rw [if_neg (by omega),if_neg (by omega),if_pos (by omega)]
  rw [hr] at h3;unfold Lf at h;exact UL ps _ h3 (by omega) h
end
def z7:Res->Int
 | .ok _=>0
 | .error e=>e
def zh6:Res->List Nd
 | .ok V=>V
 | .error _ => []
def aB:ByteArray:=⟨#[65]⟩
def zhE:Env:=⟨[],(aB,emp),(aB,emp),(aB,emp),[⟨6,0,emp,emp⟩]⟩
theorem vS:vq zhE:=by
 have hu:jd (aB,emp)=0:=by decide +kernel
 refine⟨?_,hu,hu,hu,?_,rfl⟩
 ·unfold jW;simp [zhE,aR]
 ·decide +kernel
theorem zpq{x:Ex}(hv:x.valid false)(hl:x.flat.length<=200):(jV [] false x).flat.length<=x.flat.length/\vR (jV [] false x).flat=0:=by
 have h1:=Tm vS (E := []) x false hv;have h2:=(zd3 vS (E := []) (knows:=false) (λe=>(by cases e)) x hv).2;exact⟨h1,Db.2 ⟨by omega,_,h2,rfl⟩⟩
end Go.Proofs.YtokiogmfgpidmaaGreatDoor
