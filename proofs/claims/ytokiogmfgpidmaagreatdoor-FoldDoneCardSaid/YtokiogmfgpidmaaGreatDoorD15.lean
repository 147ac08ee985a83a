/-
  Plain: a value, as an expression, has its own type; or too many nodes. No ..
-/
import Derived.Test.YtokiogmfgpidmaaGreatDoorD13
set_option maxRecDepth 100000
namespace Go.Wk
def SH:List Ex->Exs
 | [] => .nil
 | x :: r => .cons x (SH r)
theorem zaU:∀L:List Ex,(SH L).len=L.length
 | []=>rfl
 | x :: r=>by simp only [SH,Exs.len,zaU r,List.length_cons]
theorem Oo:∀L:List Ex,(SH L).flat=(L.map Ex.flat).flatten
 | []=>rfl
 | x :: r=>by simp only [SH,Exs.flat,Oo r,List.map_cons,List.flatten_cons]
theorem TU:∀(L:List Ex) (s:ByteArray),(∀x∈L,x.valid false)->(SH L).valid false s
 | [],_,_=>trivial
 | x :: r,s,h=>⟨λe=>Bool.noConfusion e,h x (by simp),TU r _ λy hy=>h y (by simp [hy])⟩
def XO(s:ByteArray)(x:Ex):Ex := .node (bX s) (.cons x .nil)
def SA:List (ByteArray × Ex)->Exs
 | [] => .nil
 | p :: r => .cons (XO p.1 p.2) (SA r)
theorem zaC:∀L,(SA L).len=L.length
 | []=>rfl
 | x :: r=>by simp only [SA,Exs.len,zaC r,List.length_cons]
theorem Oz:∀L:List (ByteArray × Ex),(SA L).flat=zw (L.map λp=>(p.1,p.2.flat))
 | []=>rfl
 | x :: r=>by simp only [SA,Exs.flat,XO,Ex.flat,Oz r,List.map_cons,zw,List.append_nil,List.cons_append]
theorem YG{s:ByteArray}{x:Ex}(hs:zh s=0)(hx:x.valid false):(XO s x).valid true:=by
 refine⟨?_,rfl,λe=>Bool.noConfusion e,hx,trivial⟩;unfold jC je;rw [if_pos (show(1:Int)<=(bX s).op/\(bX s).op<=7 from⟨by show(1:Int)<=7;decide,by show(7:Int)<=7;decide⟩)];unfold zq bX;simp [hs,noB];rfl
theorem U8:∀(L:List (ByteArray × Ex)) (s:ByteArray),(∀p∈L,zh p.1=0/\p.2.valid false)->UpB s (L.map λp=>(p.1,p.2.flat))->(SA L).valid true s
 | [],_,_,_=>trivial
 | p :: r,s,h,hu=>⟨λ_=>hu.1,YG (h p (by simp)).1 (h p (by simp)).2,U8 r _ (λy hy=>h y (by simp [hy])) hu.2⟩
theorem zfp(n:Nat):jC false (jm n)=true:=by
 unfold jC je;rw [if_pos (show 1<=(jm (n:Int)).op/\(jm (n:Int)).op<=7 from(show(1:Int)<=5/\(5:Int)<=7 by decide))];unfold zq jm;simp [noB];rfl
theorem zgt(n:Nat):jC false (zG n)=true:=by
 unfold jC je;rw [if_pos (show 1<=(zG (n:Int)).op/\(zG (n:Int)).op<=7 from(show(1:Int)<=6/\(6:Int)<=7 by decide))];unfold zq zG;simp [noB];rfl
theorem zfx(M:Ex->Prop)(h1:∀n:Nd,1<=n.op/\n.op<=4->IsV [n]->M (.node n .nil))(h5:∀(T:List Ex) (P:List Nd),IsV P->zf P=5->T.map Ex.flat=zg P->(∀x∈T,M x)->M (.node (jm (zg P).length) (SH T)))
 (h6:∀(T:List (ByteArray × Ex)) (P:List Nd),IsV P->zf P=6->(T.map λp=>(p.1,p.2.flat))=zo P->(∀p∈T,M p.2)->M (.node (zG (zo P).length) (SA T))) {P:List Nd} (hv:IsV P):∃x:Ex,x.valid false/\x.flat=P/\M x:=by
 refine ziH (M:=λP=>∃x:Ex,x.valid false/\x.flat=P/\M x) hv ?_ ?_ ?_
 ·intro P hP h5 h6;have XC:=zba hP h5 h6
  match P,XC with
  | [n],_ =>
   obtain⟨x,r,e,hs,h7⟩:=U7 hP
   injection e with e1 e2
   subst e1
   have hop:=znO hP
   rw [NE] at hop h5 h6
   refine⟨.node n .nil,⟨?_,?_,trivial⟩,rfl,h1 n (by omega) hP⟩
   ·unfold jC je
    rw [if_pos (by omega),hs,decide_eq_false h7];rfl
   ·unfold zC
    rw [if_neg (by omega),if_pos (by omega)];rfl
 ·intro P hP e5 ih;obtain⟨e,-,h3,-⟩:=ER hP e5;have hT:∀L:List (List Nd),(∀Q∈L,∃x:Ex,x.valid false/\x.flat=Q/\M x)->∃T:List Ex,(∀x∈T,x.valid false/\M x)/\T.map Ex.flat=L:=by
   intro L
   induction L with
   | nil=>exact λ_=>⟨[],λx hx=>(nomatch hx),rfl⟩
   | cons Q r ihr =>
    intro h
    obtain⟨x,q1,q2,q3⟩:=h Q (by simp)
    obtain⟨T,q4,q5⟩:=ihr λq hq=>h q (by simp [hq])
    refine⟨x :: T,λy hy=>?_,by simp [q2,q5]⟩
    rcases List.mem_cons.1 hy with rfl|hy
    ·exact⟨q1,q3⟩
    ·exact q4 y hy
  obtain⟨T,hTT,QJ⟩:=hT _ ih;have hlen:T.length=(zg P).length:=by rw [<-QJ,List.length_map]
  refine⟨.node (jm (zg P).length) (SH T),⟨zfp _,?_,TU _ _ λx hx=>(hTT x hx).1⟩,?_,h5 T P hP e5 QJ λx hx=>(hTT x hx).2⟩
  ·rw [zaU,hlen];rfl
  ·rw [Ex.flat,Oo,QJ];exact e.symm
 ·intro P hP e6 ih;obtain⟨e,-,h3,h4⟩:=Kh hP e6;have hT:∀L:List (ByteArray × List Nd),(∀p∈L,∃x:Ex,x.valid false/\x.flat=p.2/\M x)->∃T:List (ByteArray × Ex),(∀p∈T,p.2.valid false/\M p.2)/\(T.map λp=>(p.1,p.2.flat))=L:=by
   intro L
   induction L with
   | nil=>exact λ_=>⟨[],λx hx=>(nomatch hx),rfl⟩
   | cons p r ihr =>
    intro h
    obtain⟨x,q1,q2,q3⟩:=h p (by simp)
    obtain⟨T,q4,q5⟩:=ihr λq hq=>h q (by simp [hq])
    refine⟨(p.1,x):: T,λy hy=>?_,by simp [q2,q5]⟩
    rcases List.mem_cons.1 hy with rfl|hy
    ·exact⟨q1,q3⟩
    ·exact q4 y hy
  obtain⟨T,hTT,QJ⟩:=hT _ ih;have hlen:T.length=(zo P).length:=by rw [<-QJ,List.length_map]
  have VE:∀p∈T,zh p.1=0:=λp hp=>by
   have:(p.1,p.2.flat)∈zo P:=by rw [<-QJ];exact List.mem_map.2 ⟨p,hp,rfl⟩
   exact(h3 _ this).2
  refine⟨.node (zG (zo P).length) (SA T),⟨zgt _,?_,?_⟩,?_,h6 T P hP e6 QJ λp hp=>(hTT p hp).2⟩
  ·rw [zaC,hlen];rfl
  ·exact U8 _ _ (λp hp=>⟨VE p hp,(hTT p hp).1⟩) (by rw [QJ];exact h4)
  ·rw [Ex.flat,Oz,QJ];exact e.symm
theorem ZP:∀(L M:List Ud),L.Nodup->(∀x∈L,x∈M)->L.length<=M.length
 | [],_,_,_=>Nat.zero_le _
 | x :: L,M,hn,hs=>by
  obtain⟨h1,h2⟩:=List.nodup_cons.1 hn;have h3:x∈M:=hs x (by simp);have h4:=ZP L (M.filter λy=>decide (y≠x)) h2 (λy hy=>List.mem_filter.2 ⟨hs y (by simp [hy]),decide_eq_true λe=>h1 (e ▸ hy)⟩);have h5:(M.filter λy=>decide (y≠x)).length<M.length:=Nat.lt_of_le_of_ne (List.length_filter_le _ _) λhl=>by
   have:=List.length_filter_eq_length_iff.1 hl x h3;simp at this
  rw [List.length_cons];omega
def Wc(L:List Ud)(p:Ud):List Ud:=if CO L p=true then L else L ++ [p]
structure Grw(G:List (Ud × List Ud))(u:Ud)(L L':List Ud):Prop where
 nd:L'.Nodup
 sound:∀y∈L',Abv G u y
 pre:∃R,L'=L ++ R
theorem Grw.nil(G:List (Ud × List Ud))(u:Ud):Grw G u [] []:=⟨List.nodup_nil,(λ_ hy=>nomatch hy),[],rfl⟩
theorem Grw.self{G:List (Ud × List Ud)}{u:Ud}{L L':List Ud}(h:Grw G u L L'):Grw G u L' L':=⟨h.nd,h.sound,[],by simp⟩
theorem Grw.trans{G:List (Ud × List Ud)}{u:Ud}{L L' L'':List Ud}(h:Grw G u L L')(k:Grw G u L' L''):Grw G u L L'' :=
 ⟨k.nd,k.sound,by obtain⟨R,e⟩:=h.pre;obtain⟨R',e'⟩:=k.pre;exact⟨R ++ R',by rw [e',e,List.append_assoc]⟩⟩
theorem Grw.sub{G:List (Ud × List Ud)}{u:Ud}{L L':List Ud}(h:Grw G u L L'):∀y∈L,y∈L':=λy hy=>by
 obtain⟨R,e⟩:=h.pre;rw [e];exact List.mem_append_left _ hy
theorem Grw.get{G:List (Ud × List Ud)}{u:Ud}{L L':List Ud}(h:Grw G u L L'){i:Nat}(hi:i<(u :: L).length):(u :: L')[i]?=some (u :: L)[i]:=by
 obtain⟨R,e⟩:=h.pre;rw [e,<-List.cons_append,List.getElem?_append_left hi,List.getElem?_eq_getElem hi]
theorem Grw.len{G:List (Ud × List Ud)}{u:Ud}{L L':List Ud}(h:Grw G u L L'):L'.length<=(G.flatMap (·.2)).length:=ZP _ _ h.nd λx hx=>by
 have h1:=h.sound x hx;clear hx h
 induction h1 with
 | one s=>obtain⟨e,he,_,h2⟩:=s;exact List.mem_flatMap.2 ⟨e,he,h2⟩
 | more _ _ ih=>exact ih
theorem zig(L:List Ud)(p:Ud):p∈Wc L p:=by
 unfold Wc;split
 ·rename_i h;exact i8.1 h
 ·simp
theorem Grw.add{G:List (Ud × List Ud)}{u:Ud}{L L':List Ud}(h:Grw G u L L'){z p:Ud}(hz:z=u\/z∈L')(hs:Stp G z p):Grw G u L (Wc L' p):=by
 unfold Wc;split
 ·exact h
 ·rename_i hh;have hp:p ∉ L':=λe=>hh (i8.2 e);obtain⟨R,e⟩:=h.pre;refine⟨?_,λy hy=>?_,R ++ [p],by rw [e,List.append_assoc]⟩
  ·rw [List.nodup_append];refine⟨h.nd,by simp,λa ha b hb e=>?_⟩;simp only [List.mem_cons,List.not_mem_nil,or_false] at hb;subst hb;subst e;exact hp ha
  ·rcases List.mem_append.1 hy with hy|hy
   ·exact h.sound y hy
   ·simp only [List.mem_cons,List.not_mem_nil,or_false] at hy;subst hy;rcases hz with rfl|hz
    ·exact .one hs
    ·exact(h.sound z hz).snoc hs
structure Bfs(G:List (Ud × List Ud))(u:Ud)(s f:Nat)(L:List Ud):Prop where
 fnd:Grw G u [] L
 near:∀y,Ste G s u y->y∈L
 shut:∀z∈(u :: L).take f,∀y,Stp G z y->y∈L
theorem Bfs.start(G:List (Ud × List Ud))(u:Ud):Bfs G u 0 0 []:=⟨Grw.nil G u,(λ_ hy=>nomatch hy),λz hz=>by simp at hz⟩
theorem Bfs.next{G:List (Ud × List Ud)}{u:Ud}{s f:Nat}{L L':List Ud}(h:Bfs G u s f L)(k:Grw G u L L')(hs:∀z∈u :: L,∀y,Stp G z y->y∈L'):Bfs G u (s+1) (L.length+1) L':=by
 refine⟨h.fnd.trans k,λy hy=>?_,λz hz y hy=>?_⟩
 ·rcases hy.last with h1|⟨p,h1,h2⟩
  ·exact hs u (by simp) y h1
  ·exact hs p (by simp [h.near p h1]) y h2
 ·obtain⟨R,e⟩:=k.pre;rw [e,<-List.cons_append,List.take_append_of_le_length (by simp),List.take_of_length_le (by simp)] at hz;exact hs z hz y hy
theorem Bfs.all{G:List (Ud × List Ud)}{u:Ud}{s f:Nat}{L:List Ud}(h:Bfs G u s f L)(hs:s=G.length)(y:Ud):y∈L↔Abv G u y :=
 ⟨λhy=>h.fnd.sound y hy,λhy=>h.near y (hs ▸ zkQ (Nat.le_refl _) hy)⟩
structure Wd(G:List (Ud × List Ud))(u:Ud)(L:List Ud)(i:Nat)(L':List Ud):Prop where
 grw:Grw G u L L'
 shut:∀z∈(u :: L).take i,∀y,Stp G z y->y∈L'
theorem Wd.start{G:List (Ud × List Ud)}{u:Ud}{s f:Nat}{L:List Ud}(h:Bfs G u s f L):Wd G u L f L:=⟨h.fnd.self,h.shut⟩
theorem Wd.next{G:List (Ud × List Ud)}{u:Ud}{L L' L'':List Ud}{i:Nat}(h:Wd G u L i L')(k:Grw G u L' L'')(hi:i<(u :: L).length)(hs:∀y,Stp G (u :: L)[i] y->y∈L''):Wd G u L (i+1) L'':=by
 refine⟨h.grw.trans k,λz hz y hy=>?_⟩;rw [List.take_succ_eq_append_getElem hi] at hz;rcases List.mem_append.1 hz with hz|hz
 ·exact k.sub y (h.shut z hz y hy)
 ·simp only [List.mem_cons,List.not_mem_nil,or_false] at hz;subst hz;exact hs y hy
theorem Wd.done{G:List (Ud × List Ud)}{u:Ud}{s f i:Nat}{L L':List Ud}(h:Bfs G u s f L)(k:Wd G u L i L')(hi:(u :: L).length<=i):Bfs G u (s+1) (L.length+1) L' :=
 h.next k.grw λz hz y hy=>k.shut z (by rw [List.take_of_length_le hi];exact hz) y hy
structure YY(G:List (Ud × List Ud))(u z:Ud)(L:List Ud)(k:Nat)(L':List Ud):Prop where
 grw:Grw G u L L'
 here:∀e∈G.take k,e.1=z->∀y∈e.2,y∈L'
theorem YY.start{G:List (Ud × List Ud)}{u z:Ud}{L0 L:List Ud}(h:Grw G u L0 L):YY G u z L 0 L:=⟨h.self,λe he=>by simp at he⟩
theorem YY.next{G:List (Ud × List Ud)}{u z:Ud}{L L' L'':List Ud}{k:Nat}(h:YY G u z L k L')(g:Grw G u L' L'')(hk:k<G.length)(hs:G[k].1=z->∀y∈G[k].2,y∈L''):YY G u z L (k+1) L'':=by
 refine⟨h.grw.trans g,λe he h1 y hy=>?_⟩;rw [List.take_succ_eq_append_getElem hk] at he;rcases List.mem_append.1 he with he|he
 ·exact g.sub y (h.here e he h1 y hy)
 ·simp only [List.mem_cons,List.not_mem_nil,or_false] at he;subst he;exact hs h1 y hy
theorem YY.done{G:List (Ud × List Ud)}{u z:Ud}{L L':List Ud}{k:Nat}(h:YY G u z L k L')(hk:G.length<=k):∀y,Stp G z y->y∈L':=λy ⟨e,he,h1,h2⟩=>h.here e (by rw [List.take_of_length_le hk];exact he) h1 y h2
structure Yb(G:List (Ud × List Ud))(u:Ud)(ups L:List Ud)(p:Nat)(L':List Ud):Prop where
 grw:Grw G u L L'
 here:∀y∈ups.take p,y∈L'
theorem Yb.start{G:List (Ud × List Ud)}{u:Ud}{ups L0 L:List Ud}(h:Grw G u L0 L):Yb G u ups L 0 L:=⟨h.self,λe he=>by simp at he⟩
theorem Yb.next{G:List (Ud × List Ud)}{u z:Ud}{ups L L':List Ud}{p:Nat}(h:Yb G u ups L p L')(hp:p<ups.length)(hz:z=u\/z∈L)(hs:Stp G z ups[p]):Yb G u ups L (p+1) (Wc L' ups[p]):=by
 have g:=h.grw.self.add (hz.imp id (h.grw.sub z)) hs;refine⟨h.grw.trans g,λy hy=>?_⟩;rw [List.take_succ_eq_append_getElem hp] at hy;rcases List.mem_append.1 hy with hy|hy
 ·exact g.sub y (h.here y hy)
 ·simp only [List.mem_cons,List.not_mem_nil,or_false] at hy;subst hy;exact zig _ _
theorem Yb.done{G:List (Ud × List Ud)}{u:Ud}{ups L L':List Ud}{p:Nat}(h:Yb G u ups L p L')(hp:ups.length<=p):∀y∈ups,y∈L':=λy hy=>h.here y (by rw [List.take_of_length_le hp];exact hy)
end Go.Wk
