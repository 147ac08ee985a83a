/-
  Plain: the fields of a record's type, one behind the other. No program in sight. Plain: the type of an expression by the types of all its parts. No program in ..
-/
import Derived.Test.YtlkfaliomdbaoaaGreatDoorQ3
import Derived.Test.YtlkfaliomdbaoaaGreatDoorQ5
set_option maxRecDepth 100000
namespace Go.Wk
def zce:List (ByteArray × Kd)→Fl→Fl
 | [],f=>f
 | x :: L,f => .cons x.1 true x.2 (zce L f)
def zjl(L:List (ByteArray × Kd)):Except Int Fl→Except Int Fl
 | .error e => .error e
 | .ok f => .ok (zce L f)
def fsR:Except Int Fl→zbk
 | .error e => .error e
 | .ok f => .ok (.fs f)
theorem znB(x:Except Int Fl):zjl [] x=x:=by cases x <;> rfl
theorem zi1:∀(L M:List (ByteArray × Kd)) (f:Fl),zce (L ++ M) f=zce L (zce M f)
 | [],_,_=>rfl
 | x :: L,M,f=>by simp only [List.cons_append,zce,zi1 L M f]
theorem zm9{τ:Stg}{L:List (ByteArray × Kd)}{y:Ex}{r:Exs}{G:zW}{c:Nat}{e:Int}(h:zeb τ y G = .error e):zjl L (tyF τ (.cons y r) G c)= .error e:=by
 unfold tyF;rw [h];rfl
theorem zm8{τ:Stg}{L:List (ByteArray × Kd)}{y:Ex}{r:Exs}{G:zW}{c:Nat}{k:Kd}(h:zeb τ y G = .ok k)(hb:200<c+1+k.sz):zjl L (tyF τ (.cons y r) G c)= .error 4:=by
 unfold tyF;rw [h];simp only;rw [if_pos hb];rfl
theorem zpj{τ:Stg}{L:List (ByteArray × Kd)}{y:Ex}{r:Exs}{G:zW}{c:Nat}{k:Kd}(h:zeb τ y G = .ok k)(hb:¬200<c+1+k.sz):zjl L (tyF τ (.cons y r) G c)=zjl (L ++ [(y.head.s,k)]) (tyF τ r G (c+1+k.sz)):=by
 simp only [tyF,h,if_neg hb];rcases tyF τ r G (c+1+k.sz) with e|f
 ·rfl
 ·simp only [zjl,zi1,zce]
def zbv(n:Int)(L:List (ByteArray × Kd)):List Nd:=⟨46,n,emp,emp⟩::(zce L .nil).flat
theorem zhz:∀(L:List (ByteArray × Kd)) (s:ByteArray) (k:Kd),(zce (L ++ [(s,k)]) .nil).flat=(zce L .nil).flat ++(⟨47,1,s,emp⟩:: k.flat)
 | [],s,k=>by simp [zce,Fl.flat]
 | x :: L,s,k=>by
  simp only [List.cons_append,zce,Fl.flat,zhz L s k,List.append_assoc]
theorem zhX(n:Int)(L:List (ByteArray × Kd))(s:ByteArray)(k:Kd):zbv n (L ++ [(s,k)])=(zbv n L ++ [⟨47,1,s,emp⟩])++ k.flat:=by
 unfold zbv;rw [zhz];simp
theorem zj3:∀L:List (ByteArray × Kd),(zce L .nil).len=L.length
 | []=>rfl
 | x :: L=>by simp [zce,Fl.len,zj3 L]
theorem zot{n:Int}{L:List (ByteArray × Kd)}(h:n=(L.length:Int)):zbv n L=(Kd.fs (zce L .nil)).flat:=by
 unfold zbv;rw [Kd.flat,zj3,h]
theorem zi3(n:Int)(L:List (ByteArray × Kd))(s:ByteArray)(k:Kd):(zbv n (L ++ [(s,k)])).length=(zbv n L).length+1+k.sz:=by
 rw [zhX,List.length_append,List.length_append,zad];simp
def zds(τ:Stg)(n:Nd)(ps:Exs)(F:zW)(L:List Kd):zbk :=
 if n.op=1 then .ok (.base 41) else if n.op=2 then .ok (.base 42) else if n.op=3 then .ok (.base 43) else if n.op=4 then .ok (.ent n.s)
 else if n.op=8 then jY τ n.s
 else if n.op=5 then zaR (.base 49) L
 else if n.op=22 then(match L with
  | k :: _=>zft τ k n.s (za7 F (znN ps) n.s)
  | [] => .error 0)
 else zU n.op L
def zp1(f:List Kd→zbk):Except Int (List Kd)→zbk
 | .error e => .error e
 | .ok L=>f L
theorem zn1{τ:Stg}{n:Nd}{ps:Exs}{F:zW}(h11:n.op≠11)(h13:n.op≠13)(h6:n.op≠6):tyX τ (.node n ps) F=zp1 (zds τ n ps F) (tyS τ ps F):=by
 rw [tyX,if_neg h11,if_neg h13,if_neg h6];cases tyS τ ps F <;> rfl
def zk3(L:List Kd):Except Int (List Kd)→Except Int (List Kd)
 | .error e => .error e
 | .ok M => .ok (L ++ M)
theorem zom(x:Except Int (List Kd)):zk3 [] x=x:=by cases x <;> rfl
theorem zon{τ:Stg}{L:List Kd}{x:Ex}{r:Exs}{F:zW}{e:Int}(h:tyX τ x F = .error e):zk3 L (tyS τ (.cons x r) F)= .error e:=by
 rw [tyS,h];rfl
theorem zpm{τ:Stg}{L:List Kd}{x:Ex}{r:Exs}{F:zW}{k:Kd}(h:tyX τ x F = .ok k):zk3 L (tyS τ (.cons x r) F)=zk3 (L ++ [k]) (tyS τ r F):=by
 rw [tyS,h];simp only
 cases tyS τ r F with
 | error e=>rfl
 | ok M=>simp [zk3]
theorem zoY{τ:Stg}{n:Nd}{ps:Exs}{F:zW}(h6:n.op=6):tyX τ (.node n ps) F=fsR (tyF τ ps F 1):=by
 rw [tyX,if_neg (by omega),if_neg (by omega),if_pos h6];cases tyF τ ps F 1 <;> rfl
theorem zlP{τ:Stg}{F:zW}:∀ {ps:Exs} {L:List Kd},tyS τ ps F = .ok L→L.length=ps.len
 | .nil,L,h=>by
  rw [tyS] at h;injection h with h;subst h;rfl
 | .cons x r,L,h=>by
  rw [tyS] at h;rcases q:tyX τ x F with e|k
  ·rw [q] at h;cases h
  ·rw [q] at h;simp only at h;rcases q2:tyS τ r F with e|M
   ·rw [q2] at h;cases h
   ·rw [q2] at h;simp only at h;injection h with h;subst h;simp [Exs.len,zlP q2]
theorem zox{y:Nd}{l:Nat}(h:jT false y=true)(hl:(l:Int)=zL y)(h1:y.op≠1)(h2:y.op≠2)(h3:y.op≠3)(h4:y.op≠4)(h5:y.op≠5)(h6:y.op≠6)(h8:y.op≠8)(h11:y.op≠11)(h13:y.op≠13):
 ((y.op=9∨y.op=10∨21≤y.op∧y.op≤24)∧l=1)∨((y.op=12∨14≤y.op∧y.op≤20∨25≤y.op∧y.op≤27)∧l=2):=by
 have h7:y.op≠7:=by
  unfold jT at h;rw [Bool.and_eq_true] at h;simpa using h.2
 unfold zL at hl;rw [if_neg (by omega),if_neg (by omega)] at hl;by_cases g1:y.op=7∨y.op=9∨y.op=10∨21≤y.op∧y.op≤24
 ·rw [if_pos g1] at hl;exact .inl ⟨by omega,by omega⟩
 ·rw [if_neg g1,if_neg h13] at hl;by_cases g2:11≤y.op∧y.op≤20∨25≤y.op∧y.op≤27
  ·rw [if_pos g2] at hl;exact .inr ⟨by omega,by omega⟩
  ·rw [if_neg g2] at hl;omega
noncomputable def za6(K:List KD)(L:List AD)(who act what:ByteArray)(P:List Nd):zbk :=
 if or2 (jW K L) (zZ P)=0 then(match zbI L act with
  | none => .error 3
  | some a=>if(jV a.who who && jV a.what what)=true then(match zfc P with
   | some x=>tyX ⟨K,a,who,what⟩ x []
   | none => .error 1) else .error 2)
 else .error (or2 (jW K L) (zZ P))
def tyV:zbk→List Nd
 | .ok k=>k.flat
 | .error _ => []
theorem zeR{K:List KD}{L:List AD}{who act what:ByteArray}{P:List Nd}(h:or2 (jW K L) (zZ P)≠0):za6 K L who act what P = .error (or2 (jW K L) (zZ P)):=if_neg h
theorem zgS{K:List KD}{L:List AD}{who act what:ByteArray}{P:List Nd}(h:or2 (jW K L) (zZ P)=0)(ha:zbI L act=none):za6 K L who act what P = .error 3:=by
 unfold za6;rw [if_pos h,ha]
theorem zhQ{K:List KD}{L:List AD}{who act what:ByteArray}{P:List Nd}{a:AD}(h:or2 (jW K L) (zZ P)=0)(ha:zbI L act=some a)(hb:¬(jV a.who who && jV a.what what)=true):za6 K L who act what P = .error 2:=by
 unfold za6;rw [if_pos h,ha];exact if_neg hb
theorem zgh{K:List KD}{L:List AD}{who act what:ByteArray}{P:List Nd}{a:AD}{x:Ex}(h:or2 (jW K L) (zZ P)=0)(ha:zbI L act=some a)(hb:(jV a.who who && jV a.what what)=true)(hx:x.valid false)(e:P=x.flat):za6 K L who act what P=tyX ⟨K,a,who,what⟩ x []:=by
 unfold za6;rw [if_pos h,ha];simp only;rw [if_pos hb,zey.2 ⟨hx,e⟩]
theorem zdP:∀ {N:List ByteArray},jq N=0→∀s∈N,zf s=0
 | [],_,s,h=>by cases h
 | x :: r,h0,s,h=>by
  simp only [jq,jd] at h0;rcases List.mem_cons.1 h with rfl|h
  ·exact h0.1
  ·exact zdP h0.2 s h
theorem zhg:∀(K:List AD) (N:List ByteArray),zdN N K=0→∀k∈K,jq k.who=0∧jq k.what=0
 | [],_,_,k,hk=>by cases hk
 | x :: r,N,h,k,hk=>by
  simp only [zdN,jd,adF] at h;rcases List.mem_cons.1 hk with rfl|hk
  ·exact⟨h.1.2.2.2.1,h.1.2.2.2.2.1⟩
  ·exact zhg r _ h.2 k hk
theorem zpD{K:List KD}{L:List AD}{who what:ByteArray}{a:AD}(h:jW K L=0)(ha:a∈L)(hb:(jV a.who who && jV a.what what)=true):zcH ⟨K,a,who,what⟩:=by
 obtain⟨-,-,h1,h2⟩:=zmo.1 h;rw [Bool.and_eq_true,zgs,zgs] at hb;obtain⟨n1,n2⟩:=zhg _ _ h2 a ha;exact⟨fun d hd=>zhN (ziX _ _ h1 d hd).1,zhN (zjG _ _ h2 a ha),zdP n1 _ hb.1,zdP n2 _ hb.2⟩
def zfM:List Ex→Exs
 | [] => .nil
 | x :: r => .cons x (zfM r)
theorem zje:∀L:List Ex,(zfM L).len=L.length
 | []=>rfl
 | x :: r=>by simp only [zfM,Exs.len,zje r,List.length_cons]
theorem zez:∀L:List Ex,(zfM L).flat=(L.map Ex.flat).flatten
 | []=>rfl
 | x :: r=>by simp only [zfM,Exs.flat,zez r,List.map_cons,List.flatten_cons]
theorem zgg:∀(L:List Ex) (s:ByteArray),(∀x∈L,x.valid false)→(zfM L).valid false s
 | [],_,_=>trivial
 | x :: r,s,h=>⟨fun e=>Bool.noConfusion e,h x (by simp),zgg r _ fun y hy=>h y (by simp [hy])⟩
def zg2(s:ByteArray)(x:Ex):Ex := .node (zcS s) (.cons x .nil)
def zeX:List (ByteArray × Ex)→Exs
 | [] => .nil
 | p :: r => .cons (zg2 p.1 p.2) (zeX r)
theorem zjA:∀L,(zeX L).len=L.length
 | []=>rfl
 | x :: r=>by simp only [zeX,Exs.len,zjA r,List.length_cons]
theorem zeY:∀L:List (ByteArray × Ex),(zeX L).flat=zaw (L.map fun p=>(p.1,p.2.flat))
 | []=>rfl
 | x :: r=>by simp only [zeX,Exs.flat,zg2,Ex.flat,zeY r,List.map_cons,zaw,List.append_nil,List.cons_append]
theorem ziw{s:ByteArray}{x:Ex}(hs:zf s=0)(hx:x.valid false):(zg2 s x).valid true:=by
 refine⟨?_,rfl,fun e=>Bool.noConfusion e,hx,trivial⟩;unfold jT jo;rw [if_pos (show(1:Int)≤(zcS s).op∧(zcS s).op≤7 from⟨by show(1:Int)≤7;decide,by show(7:Int)≤7;decide⟩)];unfold zp zcS;simp [hs,noB];rfl
theorem zgC:∀(L:List (ByteArray × Ex)) (s:ByteArray),(∀p∈L,zf p.1=0∧p.2.valid false)→UpB s (L.map fun p=>(p.1,p.2.flat))→(zeX L).valid true s
 | [],_,_,_=>trivial
 | p :: r,s,h,hu=>⟨fun _=>hu.1,ziw (h p (by simp)).1 (h p (by simp)).2,zgC r _ (fun y hy=>h y (by simp [hy])) hu.2⟩
theorem zl3(n:Nat):jT false (za1 n)=true:=by
 unfold jT jo;rw [if_pos (show 1≤(za1 (n:Int)).op∧(za1 (n:Int)).op≤7 from(show(1:Int)≤5∧(5:Int)≤7 by decide))];unfold zp za1;simp [noB];rfl
theorem zmh(n:Nat):jT false (zaY n)=true:=by
 unfold jT jo;rw [if_pos (show 1≤(zaY (n:Int)).op∧(zaY (n:Int)).op≤7 from(show(1:Int)≤6∧(6:Int)≤7 by decide))];unfold zp zaY;simp [noB];rfl
theorem zmI(M:Ex→Prop)(h1:∀n:Nd,1≤n.op∧n.op≤4→IsV [n]→M (.node n .nil))(h5:∀(T:List Ex) (P:List Nd),IsV P→zk P=5→T.map Ex.flat=zm P→(∀x∈T,M x)→M (.node (za1 (zm P).length) (zfM T)))
 (h6:∀(T:List (ByteArray × Ex)) (P:List Nd),IsV P→zk P=6→(T.map fun p=>(p.1,p.2.flat))=zi P→(∀p∈T,M p.2)→M (.node (zaY (zi P).length) (zeX T))) {P:List Nd} (hv:IsV P):∃x:Ex,x.valid false∧x.flat=P∧M x:=by
 refine zkJ (M:=fun P=>∃x:Ex,x.valid false∧x.flat=P∧M x) hv ?_ ?_ ?_
 ·intro P hP h5 h6;have h1':=zop hP h5 h6
  match P,h1' with
  | [n],_ =>
   obtain⟨x,r,e,hs,h7⟩:=za2 hP
   injection e with e1 e2
   subst e1
   have hop:=zgz hP
   rw [zbA] at hop h5 h6
   refine⟨.node n .nil,⟨?_,?_,trivial⟩,rfl,h1 n (by omega) hP⟩
   ·unfold jT jo
    rw [if_pos (by omega),hs,decide_eq_false h7];rfl
   ·unfold zL
    rw [if_neg (by omega),if_pos (by omega)];rfl
 ·intro P hP e5 ih;obtain⟨e,-,h3,-⟩:=za0 hP e5;have hT:∀L:List (List Nd),(∀Q∈L,∃x:Ex,x.valid false∧x.flat=Q∧M x)→∃T:List Ex,(∀x∈T,x.valid false∧M x)∧T.map Ex.flat=L:=by
   intro L
   induction L with
   | nil=>exact fun _=>⟨[],fun x hx=>(nomatch hx),rfl⟩
   | cons Q r ihr =>
    intro h
    obtain⟨x,q1,q2,q3⟩:=h Q (by simp)
    obtain⟨T,q4,q5⟩:=ihr fun q hq=>h q (by simp [hq])
    refine⟨x :: T,fun y hy=>?_,by simp [q2,q5]⟩
    rcases List.mem_cons.1 hy with rfl|hy
    ·exact⟨q1,q3⟩
    ·exact q4 y hy
  obtain⟨T,hTT,hTL⟩:=hT _ ih;have hlen:T.length=(zm P).length:=by rw [←hTL,List.length_map]
  refine⟨.node (za1 (zm P).length) (zfM T),⟨zl3 _,?_,zgg _ _ fun x hx=>(hTT x hx).1⟩,?_,h5 T P hP e5 hTL fun x hx=>(hTT x hx).2⟩
  ·rw [zje,hlen];rfl
  ·rw [Ex.flat,zez,hTL];exact e.symm
 ·intro P hP e6 ih;obtain⟨e,-,h3,h4⟩:=zaG hP e6;have hT:∀L:List (ByteArray × List Nd),(∀p∈L,∃x:Ex,x.valid false∧x.flat=p.2∧M x)→∃T:List (ByteArray × Ex),(∀p∈T,p.2.valid false∧M p.2)∧(T.map fun p=>(p.1,p.2.flat))=L:=by
   intro L
   induction L with
   | nil=>exact fun _=>⟨[],fun x hx=>(nomatch hx),rfl⟩
   | cons p r ihr =>
    intro h
    obtain⟨x,q1,q2,q3⟩:=h p (by simp)
    obtain⟨T,q4,q5⟩:=ihr fun q hq=>h q (by simp [hq])
    refine⟨(p.1,x):: T,fun y hy=>?_,by simp [q2,q5]⟩
    rcases List.mem_cons.1 hy with rfl|hy
    ·exact⟨q1,q3⟩
    ·exact q4 y hy
  obtain⟨T,hTT,hTL⟩:=hT _ ih;have hlen:T.length=(zi P).length:=by rw [←hTL,List.length_map]
  have hnm:∀p∈T,zf p.1=0:=fun p hp=>by
   have:(p.1,p.2.flat)∈zi P:=by rw [←hTL];exact List.mem_map.2 ⟨p,hp,rfl⟩
   exact(h3 _ this).2
  refine⟨.node (zaY (zi P).length) (zeX T),⟨zmh _,?_,?_⟩,?_,h6 T P hP e6 hTL fun p hp=>(hTT p hp).2⟩
  ·rw [zjA,hlen];rfl
  ·exact zgC _ _ (fun p hp=>⟨hnm p hp,(hTT p hp).1⟩) (by rw [hTL];exact h4)
  ·rw [Ex.flat,zeY,hTL];exact e.symm
def IsK(k:Kd):zbk→Prop
 | .ok j=>j=k
 | .error e=>e=4
theorem zjE:∀(L:List Kd) (k:Kd),IsK (.set (L.foldl zl k)) (zaR k L)
 | [],k=>by
  unfold zaR zc2;split
  ·exact rfl
  ·exact rfl
 | p :: r,k=>by
  unfold zaR;split
  ·exact rfl
  ·exact zjE r (zl k p)
theorem zm4(τ:Stg)(F:zW):∀T:List Ex,(∀x∈T,IsK (zK x.flat) (tyX τ x F))→tyS τ (zfM T) F = .error 4∨tyS τ (zfM T) F = .ok ((T.map Ex.flat).map zK)
 | [],_ => .inr rfl
 | x :: r,h=>by
  have h1:=h x (by simp);have h2:=zm4 τ F r fun y hy=>h y (by simp [hy]);unfold zfM tyS;rcases q:tyX τ x F with e|k
  ·rw [q] at h1;obtain rfl:e=4:=h1;exact .inl rfl
  ·rw [q] at h1;obtain rfl:k=zK x.flat:=h1;rcases h2 with h2|h2
   ·rw [h2];exact .inl rfl
   ·rw [h2];exact .inr rfl
theorem zm2(τ:Stg)(F:zW):∀(T:List (ByteArray × Ex)) (c:Nat),(∀p∈T,IsK (zK p.2.flat) (tyX τ p.2 F))→tyF τ (zeX T) F c = .error 4∨tyF τ (zeX T) F c = .ok (ofL ((T.map fun p=>(p.1,p.2.flat)).map fun x=>(x.1,true,zK x.2)))
 | [],_,_ => .inr (by simp [zeX,tyF,ofL])
 | p :: r,c,h=>by
  have h1:=h p (by simp);have h0:zeb τ (zg2 p.1 p.2) F=tyX τ p.2 F:=by simp only [zg2,zeb,zbw]
  unfold zeX tyF;rw [h0];rcases q:tyX τ p.2 F with e|k
  ·rw [q] at h1;obtain rfl:e=4:=h1;exact .inl rfl
  ·rw [q] at h1;obtain rfl:k=zK p.2.flat:=h1;simp only;split
   ·exact .inl rfl
   ·have h2:=zm2 τ F r (c+1+(zK p.2.flat).sz) fun y hy=>h y (by simp [hy]);rcases h2 with h2|h2
    ·rw [h2];exact .inl rfl
    ·rw [h2];exact .inr rfl
theorem zou{P:List Nd}(hv:IsV P)(τ:Stg)(F:zW):∃x:Ex,x.valid false∧x.flat=P∧IsK (zK x.flat) (tyX τ x F):=by
 refine zmI (fun x=>IsK (zK x.flat) (tyX τ x F)) ?_ ?_ ?_ hv
 ·intro n hn hV;have e:([n]:List Nd)=(Ex.node n .nil).flat:=rfl;rw [←e];have ho:zk [n]=n.op:=rfl;unfold tyX;rw [if_neg (by omega),if_neg (by omega),if_neg (by omega)];simp only [tyS];by_cases h1:n.op=1
  ·rw [if_pos h1,zij (ho.trans h1)];exact rfl
  ·rw [if_neg h1];by_cases h2:n.op=2
   ·rw [if_pos h2,zh5 (ho.trans h2)];exact rfl
   ·rw [if_neg h2];by_cases h3:n.op=3
    ·rw [if_pos h3,ziz (ho.trans h3)];exact rfl
    ·have h4:n.op=4:=by omega
     rw [if_neg h3,if_pos h4,ziH (ho.trans h4)];exact rfl
 ·intro T P hP h5 hTL hT;have e:(Ex.node (za1 (zm P).length) (zfM T)).flat=P:=by rw [Ex.flat,zez,hTL];exact(za0 hP h5).1.symm
  rw [e,zgu hP h5];have o5:(za1 ((zm P).length:Int)).op=5:=rfl;unfold tyX;rw [o5,if_neg (show¬(5:Int)=11 by decide),if_neg (show¬(5:Int)=13 by decide),if_neg (show¬(5:Int)=6 by decide)];rcases zm4 τ F T hT with h|h
  ·rw [h];exact rfl
  ·rw [h,hTL];simp only;rw [if_neg (show¬(5:Int)=1 by decide),if_neg (show¬(5:Int)=2 by decide),if_neg (show¬(5:Int)=3 by decide),if_neg (show¬(5:Int)=4 by decide),if_neg (show¬(5:Int)=8 by decide),if_pos True.intro];exact zjE _ _
 ·intro T P hP h6 hTL hT;have e:(Ex.node (zaY (zi P).length) (zeX T)).flat=P:=by rw [Ex.flat,zeY,hTL];exact(zaG hP h6).1.symm
  rw [e,zgQ hP h6];have o6:(zaY ((zi P).length:Int)).op=6:=rfl;unfold tyX;rw [o6,if_neg (show¬(6:Int)=11 by decide),if_neg (show¬(6:Int)=13 by decide),if_pos (show(6:Int)=6 from rfl)];rcases zm2 τ F T 1 hT with h|h
  ·rw [h];exact rfl
  ·rw [h,hTL];exact rfl
end Go.Wk
