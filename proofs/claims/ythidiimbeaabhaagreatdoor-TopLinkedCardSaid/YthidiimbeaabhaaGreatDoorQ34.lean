/-
  eval.made: a record. eval.next: the value of the expression at the place. ..
-/
import Derived.Deep.AppendLies
import Derived.Test.YthidiimbeaabhaaGreatDoorQ33
set_option maxRecDepth 100000
set_option maxHeartbeats 8000000
namespace Go.Proofs.YthidiimbeaabhaaGreatDoor
open Go.RowKit Go.Wk Go.Sort
def wh(L:List (ByteArray × List Nd)):Except Int (List (ByteArray × List Nd))->Except Int (List (ByteArray × List Nd))
 | .error e => .error e
 | .ok M => .ok (L ++ M)
theorem BE(x:Except Int (List (ByteArray × List Nd))):wh [] x=x:=by cases x <;> rfl
theorem BO{σ:Env}{L:List (ByteArray × List Nd)}{x:Ex}{r:Exs}{e:Int}(h:ln σ x = .error e):wh L (evF σ (.cons x r))= .error e:=by rw [evF,h];rfl
theorem EY{σ:Env}{L:List (ByteArray × List Nd)}{x:Ex}{r:Exs}{U:List Nd}(h:ln σ x = .ok U):wh L (evF σ (.cons x r))=wh (L ++ [(x.head.s,U)]) (evF σ r):=by
 rw [evF,h];simp only;rcases evF σ r with e|M
 ·rfl
 ·simp [wh]
theorem jz.past{w w':World}{B R:Nat}{v v':Value}{V:List Sl}{N:List ByteArray}(h:jz w B v v' V N)(hg:w.grownBy w' (some R))(hR:R<B)(ha:∀r∈V,bE r (some R)):jz w' B v v' V N :=
 ⟨h.a.row hg (ib h.a.own hR) ha,h.b.kept hg (ib h.b hR),h.ab,h.ap⟩
theorem jz.name2{w w':World}{B:Nat}{v v' v1:Value}{V:List Sl}{N:List ByteArray}{s:ByteArray}(h:jz w B v v' V N)
 (hown:w'.ownsRow B 9 1 v1 (N.length+1) (N.map Value.string ++ [.string s])) (hg:w.grownBy w' v'.ownBlock) (hat:v1.ownBlock=v'.ownBlock\/v1.ownBlock=some w.heap.size):jz w' B v v1 V (N ++ [s]):=by
 refine⟨h.a.row hg h.ab h.ap,by simpa using hown,?_,λr hr h0 a e=>?_⟩
 ·rcases hv:v.ownBlock with _|g
  ·exact .inl rfl
  ·have hlt:=cT h.a.own g hv;refine .inr ?_;rcases hat with q|q
   ·rw [q,<-hv];rcases h.ab with z|z
    ·rw [hv] at z;cases z
    ·exact z
   ·rw [q];intro z;injection z with z;omega
 ·rcases hat with q|q
  ·rw [q];exact h.ap r hr h0 a e
  ·rw [q];have:=(h.a.each r hr).at_.lt h0 a e;intro z;injection z with z;omega
theorem lU{ops:Array Oper}{o:Oper}{a:Act}{w:World}{K:Act->World->Prop}{Q:Exit->Act->World->Prop}{E:Prop}(hgd:o.guard=none)(s x:Operand)
 (ho:o.op = .call { callee := .builtin .append,args:=#[s,x],argTypes:=#[38,38] })
 (base:Nat) (v:Value) (N:List ByteArray) (hs:a.eval s=v) (hrow:w.ownsRow base 9 1 v N.length (N.map Value.string)) (z:ByteArray) (ad:Addr) (c:Nat) (hx:a.eval x = .slice (some ad) 1 c)
 (hnew:w.cell? ad=some (.string z)) (hl:N.length<=1000000) (hbase:base<=w.heap.size)
 (h:∀v' w',w'.ownsRow base 9 1 v' (N.length+1) (N.map Value.string ++ [.string z])->w.grownBy w' v.ownBlock->(v'.ownBlock=v.ownBlock\/v'.ownBlock=some w.heap.size)->K (a.put o.dst v') w'):
 if Region.wanted o (yielded ops a.tmps)=true then Oper.wp Tryz.prog o a w K Q else E:=by
 have hi:=iL
 cases hq:Tryz.prog.info? 9 with
 | none=>rw [hq] at hi;cases hi
 | some i0 =>
  rw [hq] at hi
  simp only [Option.map_some,Option.some.injEq,Prod.mk.injEq] at hi
  refine step_append_lies w hgd s x _ ho base _ i0 _ 1 16 Tryz.underlying38 hq hi.1 hi.2.1 hi.2.2 (by decide) (by decide) v N.length (N.map Value.string) hs hrow ad 1 c [.string z] hx rfl ?_ ?_ (by decide) (by unfold maxLen;omega) (by omega) hbase _ rfl ?_
  ·intro j u hj
   match j,hj with
   | 0,hj =>
    simp only [List.getElem?_cons_zero,Option.some.injEq] at hj
    subst hj
    exact hnew
   | j+1,hj=>simp at hj
  ·intro u hu
   simp only [List.mem_cons,List.not_mem_nil,or_false] at hu;subst hu;rfl
  ·intro g cap w' h1 h2 h3 h4
   refine h _ w' h1 h2 ?_;rcases h3 with h3|h3
   ·exact .inl h3.symm
   ·exact .inr (by rw [<-h3];rfl)
theorem CU{W:World}{R N:Nat}{k:Cx}(ih:fq W R k N){w:World}{p:Nat}(h:z7 W w R k (p:Int))(n:Nd)(ps:Exs)(hx:iy k.P p true ps)(h6:n.op=6)(hn:n.n=(ps.len:Int))(hl:ps.flat.length<=N)(cR:ps.len<=200):
 Calls Tryz.prog 62 #[.pointer (some ⟨R,0,none⟩),ndV n] w (zU W w R k ((p+ps.flat.length:Nat):Int) (D7 (evF k.env ps))):=by
 obtain⟨i0,hi,hz0,hz1,hz2⟩:=info_parts kE;obtain⟨j0,hj0,jz0,jz1,jz2⟩:=info_parts iL;have IH:=O ih;have H0:=O (h.keep (za w (.cells #[.int .i64 6,.int .i64 n.n,.string n.s,.string n.t] 47)));have G0:=O (zj (za w (.cells #[.int .i64 6,.int .i64 n.n,.string n.s,.string n.t] 47)) (some R));have pw:=h.lt;have HX:=O hx;have HL:=O hl;have hmx:=h.cx.ns.max;unfold maxLen at hmx;unfold ndV;rw [h6];obtain⟨m,hm⟩:∃m:Nat,m=ps.len:=⟨_,rfl⟩
 rw [<-hm] at hn cR;rw [hn] at H0 G0 ⊢;have HM:=O hm;clear h hx hl h6 ih hm hn;go_enter Tryz.func62,Tryz.ntmps62;go_wp2_with fail;go_loopw [5,6,9] (λnv v i wr=>∃(j q:Nat) (r:Exs) (V:List Sl) (X:List (ByteArray × List Nd)),i = .int .i64 j/\j<=m/\V.length=j/\X.length=j/\Hid (V.map Sl.P=X.map Prod.snd)/\Hid (∀x∈X,x.1.size<=maxLen)/\Hid (j+r.len=m)/\Hid (evF k.env ps=wh X (evF k.env r))/\Hid (iy k.P q true r)/\Hid (q+r.flat.length=p+ps.flat.length)/\Hid (r.flat.length<=N)/\
  Hid (jz wr (w.heap.size+1) v nv V (X.map Prod.fst))/\Hid (z7 W wr R k q)/\Hid (w.grownBy wr (some R))/\wr.cell? ⟨w.heap.size,0,none⟩=some (.int .i64 6)) (λ_ _ i _=>m-(intOf i).toNat)
 case atStart=>exact⟨0,p,ps,[],[],rfl,Nat.zero_le _,rfl,rfl,O rfl,O (λx hx=>nomatch hx),O (by rw [Nat.zero_add];exact HM.o.symm),O (BE _).symm,HX,O rfl,HL,O ⟨zK.nil _ _,World.ownsRow_nil _ _ _ 1,.inl rfl,(by intro r hr;cases hr)⟩,H0,G0,by simp⟩
 case round =>
  obtain⟨j,q,r,V,X,rfl,hj,rS,I8,IU,Lb,hM,hS,GM,hQ,hN,hT,hE,hG,hb⟩:=hrel;clear H0 G0;by_cases hlt:j<m
  ·obtain⟨x,r',rfl⟩:∃x r',r = .cons x r':=by
    cases r with
    | nil=>have:=hM.o;simp only [Exs.len] at this;omega
    | cons x r'=>exact⟨x,r',rfl⟩
   obtain⟨hx,GT⟩:=GM.o.head;obtain⟨fn,y,rfl,h7,-,hy,hyl⟩:=hx.field;obtain⟨a,ha,Ll,D,ho⟩:=hE.o.node hx;have lY:(Exs.cons (.node fn (.cons y .nil)) r').flat.length=(Ex.node fn (.cons y .nil)).flat.length+r'.flat.length:=by simp [Exs.flat]
   have ly:y.flat.length<=N:=by have:=hN.o;omega
   have Ke:=O (show q+1+y.flat.length+r'.flat.length=p+ps.flat.length by have:=hQ.o;omega);have uL:=O (show r'.flat.length<=N by have:=hN.o;omega);have JF:=O (show j+1+r'.len=m by have:=hM.o;simp only [Exs.len] at this;omega);have uG:=O (show iy k.P (q+1+y.flat.length) true r' by rw [show q+1+y.flat.length=q+(Ex.node fn (.cons y .nil)).flat.length by omega];exact GT);have HY:=O hy;have c8:wr.cell? ⟨R,8,none⟩=some (.slice (some a) k.n k.c):=by rw [<-ha];exact hE.o.c8
   have c9:=hE.o.c9;have z9:=hE.o.z 9;have hRl2:=hE.o.lt;have d2:=D.c2;have hwr:w.heap.size<wr.heap.size:=block_lt_of_cell hb;have BA:Below wr.heap.size wr ((wr.alloc (.cells #[.string fn.s] 9)).drew):=(za wr _).trans ((zo _).mono (by simp));have hsA:((wr.alloc (.cells #[.string fn.s] 9)).drew).heap.size=wr.heap.size+1:=by
    show(wr.alloc (.cells #[.string fn.s] 9)).heap.size=_;simp
   have T1:=hT.o.keep BA;have e8:=zb BA c8;have e9:=zb BA c9;have ed:=zb BA d2;have hbA:=zb BA hb;have EA:=hE.o.keep BA;have GA:=zh hG.o (zj BA (some R));have hcell:((wr.alloc (.cells #[.string fn.s] 9)).drew).cell? ⟨wr.heap.size,0,none⟩=some (.string fn.s):=zr (heap_alloc_last wr _) rfl;have OBs:∀g,u5.ownBlock=some g->w.heap.size+1<=g:=λg hg=>jb hT.o.b g hg;have Mc:some R≠u5.ownBlock:=λe=>by have:=OBs R e.symm;omega
   have NEa:some (a.add (q*4)).block≠u5.ownBlock:=λe=>by
    have h1:=OBs _ e.symm;have h2:=hE.o.ok.ns.at_.lt (by rw [<-hE.o.ok.ns.len];omega) a ha;have h3:=hE.o.hi;rw [cD] at h1;omega
   have NEb:some w.heap.size≠u5.ownBlock:=λe=>by have:=OBs _ e.symm;omega
   have Kl:(X.map Prod.fst).length<=1000000:=by rw [List.length_map];omega
   have J6:w.heap.size+1<=((wr.alloc (.cells #[.string fn.s] 9)).drew).heap.size:=by rw [hsA];omega
   have Gx:(0:Int)<=(q:Int):=by omega
   have eH:(q:Int)<(k.n:Int):=by omega
   have FB:∀g,u5.ownBlock=some g->R<g:=λg hg=>by have:=OBs g hg;omega
   go_wp2_with fail;go_region_held3 (λw':World=>w'.cell? ⟨R,8,none⟩=some (.slice (some a) k.n k.c)/\w'.cell? ⟨R,9,none⟩=some (.int .i64 q)/\w'.cell? ⟨(a.add (q*4)).block,(a.add (q*4)).off+2,none⟩=some (.string fn.s)) (first|exact⟨c8,c9,d2⟩|exact⟨e8,e9,ed⟩|exact⟨t8,t9,td⟩)
    ((refine lU rfl (.tmp 14) (.tmp 26) rfl (w.heap.size+1) u5 (X.map Prod.fst) rfl T1.b fn.s ⟨wr.heap.size,0,none⟩ 1 rfl hcell Kl J6 ?_;intro v1 w1 hown hgrow hat;have t8:=hgrow.cell e8 Mc;have t9:=hgrow.cell e9 Mc;have td:=hgrow.cell ed NEa))
   have T2:=T1.name2 (s:=fn.s) hown hgrow hat;have E1:=EA.far hgrow FB;have G1:=kK GA hgrow (λx hx=>Nat.le_of_succ_le (OBs x hx));have hb1:w1.cell? ⟨w.heap.size,0,none⟩=some (.int .i64 6):=hgrow.cell hbA NEb;have E2:=nz E1 ((q:Int)+1);have T3:=O (T2.past E2.2 (Nat.lt_succ_of_lt pw) (λr hr=>E1.apart (T2.a.each r hr)));have G2:=O (zh G1 E2.2);have hb2:=E2.2.cell hb1 (show some w.heap.size≠some R from λe=>by injection e with e;omega);have aE:=O E2.1;have zz:=E1.z 9;have hlw:=E1.lt;have C:=O (IH.o y (q+1) (w1.setCell ⟨R,9,none⟩ (.int .i64 ((q:Int)+1))) E2.1 HY.o ly);have hXl2:(X ++ [(fn.s,([]:List Nd))]).length=j+1:=by simp [I8]
   have wN:=O ho.s;have hq64:(q:Int)+1<=9223372036854775807:=by omega
   have hq0:(0:Int)<=(q:Int):=by omega
   clear hown hgrow hat T1 T2 E1 G1 EA GA hbA hcell OBs Mc NEa NEb Kl J6 FB BA hsA e8 e9 ed hT hE hG td t8 c8 c9 d2 D ha ho z9 Gx hb;rcases qa:evX k.env y with e|U
   ·have HEr:=O (hS.o.trans (BO (x := .node fn (.cons y .nil)) (by rw [ln,iQ,qa])));rw [qa] at C;unfold zU at C;clear hS GM hQ hN hx GT lY ly qa Ke uL JF uG hy hyl;go_wp2_with fail;refine C.o.mono ?_;rintro e w3 ⟨g3,rfl⟩;have G3:=O (zh G2.o g3);clear g3;go_wp2_with fail;refine⟨rfl,?_⟩;rw [Bm HEr.o];exact⟨G3.o,rfl⟩
   ·have HSr:=O (hS.o.trans (EY (x := .node fn (.cons y .nil)) (by rw [ln,iQ,qa])));rw [qa] at C;unfold zU at C;clear hS GM hQ hN hx GT lY ly qa hy hyl;go_wp2_with fail;refine C.o.mono ?_;rintro e w3 ⟨g3,⟨A1,n1,c1,rfl,N1,F1⟩,E3⟩;have T4:=O (T3.o.past g3 (Nat.lt_succ_of_lt pw) (λx hx=>aE.o.apart (T3.o.a.each x hx)));have A4:=O (ii aE.o (Nat.lt_succ_of_lt pw) T3.o.a.own ⟨A1,n1,c1,U⟩ F1);have A5:=O (ii aE.o (Nat.lt_succ_of_lt pw) T3.o.b ⟨A1,n1,c1,U⟩ F1);have G3:=O (zh G2.o g3);have eG:=O (show Ns w3 (⟨A1,n1,c1,U⟩:Sl).A _ _ _ from N1);have qi:=O E3;have hb3:w3.cell? ⟨w.heap.size,0,none⟩=some (.int .i64 6):=g3.cell hb2 (show some w.heap.size≠some R from λe=>by injection e with e;omega);have hw3:w.heap.size<w3.heap.size:=block_lt_of_cell hb3;have OB:=O (λg hg=>jb T4.o.a.own g hg);clear g3 N1 E3 F1 C T3 aE G2 hb2 hb1 t9 zz hlw;go_wp2_with (at_builtin;refine wpList_append_own_at _ rfl _ _ 54 rfl (w.heap.size+1) 30 i0 _ 1 24 Tryz.underlying54 hi hz0 hz1 hz2 rfl (by decide) _ V.length (V.map Sl.v) rfl (T4.o.a.own.alloc _) ⟨_,0,none⟩ 1 1 [.slice A1 n1 c1] rfl rfl (cell_one_new _ _ _) (by intro u hu;simp only [List.mem_cons,List.not_mem_nil,or_false] at hu;subst hu;rfl) ?d1 ?d2 ?d3 ?_)
    case d1=>unfold maxLen;omega
    case d2=>omega
    case d3=>simp;omega
    intro v2 w5 hown hgrow _ hat;have E5:=O ((qi.o.keep (za w3 _)).far hgrow (λx hx=>by have:=OB.o x hx;omega));have G5:=O (kK (zh G3.o (zj (za w3 _) _)) hgrow (λx hx=>Nat.le_of_succ_le (OB.o x hx)));have T5:=T4.o.part (r:=⟨A1,n1,c1,U⟩) eG.o A4.o A5.o (by rw [rS];exact hown) hgrow (by simpa using hat);have xJ:w5.cell? ⟨w.heap.size,0,none⟩=some (.int .i64 6):=hgrow.cell (zb (za w3 _) hb3) (λe=>by have:=OB.o w.heap.size e.symm;omega);have JX:(V ++ [(⟨A1,n1,c1,U⟩:Sl)]).length=j+1:=by simp [rS]
    have LY:(X ++ [(fn.s,U)]).length=j+1:=by simp [I8]
    have Eo:=O (show(V ++ [(⟨A1,n1,c1,U⟩:Sl)]).map Sl.P=(X ++ [(fn.s,U)]).map Prod.snd by rw [List.map_append,List.map_append,IU.o];rfl);have HXZ:=O (show∀x∈X ++ [(fn.s,U)],x.1.size<=maxLen from λx hx=>by
     rcases List.mem_append.1 hx with hx|hx
     ·exact Lb.o x hx
     ·simp only [List.mem_cons,List.not_mem_nil,or_false] at hx
      subst hx
      exact wN.o)
    have T6:=O (show jz w5 (w.heap.size+1) v2 v1 (V ++ [(⟨A1,n1,c1,U⟩:Sl)]) ((X ++ [(fn.s,U)]).map Prod.fst) by rw [List.map_append];exact T5);clear hown hgrow hat T4 T5 eG A4 A5 qi G3 IU Lb;go_wp2_with fail;go_roundw
    case rel=>exact⟨j+1,q+1+y.flat.length,r',_,_,by go_num,by omega,JX,LY,Eo,HXZ,JF,HSr,uG,Ke,uL,T6,E5,G5,xJ⟩
    case measure=>simp [intOf];omega
  ·obtain rfl:r = .nil:=by
    cases r with
    | nil=>rfl
    | cons a r'=>have:=hM.o;simp only [Exs.len] at this;omega
   have HV:=O (FI (L:=X) (hS.o.trans (by simp [evF,wh])));have HQ:=O (show p+ps.flat.length=q by have:=hQ.o;simpa [Exs.flat] using this.symm);obtain⟨A,c,rfl,hc,He⟩:=hT.o.a.at
   obtain⟨A2,c2,rfl,hTx⟩:=fZ hT.o.b;have Kl:(X.map Prod.fst).length=j:=by rw [List.length_map];exact I8
   have K:=O (Dn A2 j c2 (X.map Prod.fst) A j c V wr Kl.symm (by omega) (λi x hi=>hTx i (.string x) (by rw [List.getElem?_map,hi];rfl)) (λx hx=>by obtain⟨y,hy,rfl⟩:=List.mem_map.1 hx;exact Lb.o y hy) rS.symm (by omega) He hE.o.cx.door);rw [IU.o] at K;have TE:=O (λe w2 (h:zT wr (jo (cb (X.map Prod.fst) (X.map Prod.snd)) (gP (X.map Prod.fst) (X.map Prod.snd))) e w2)=>de h hE.o hG.o);generalize jo (cb (X.map Prod.fst) (X.map Prod.snd)) (gP (X.map Prod.fst) (X.map Prod.snd))=rr at *;clear hM hS GM hQ hN hT hE hG He hc hTx IU Lb;rcases rr with u|U
   ·go_wp2_with fail;refine K.o.mono ?_;rintro e w2 hp;have HP:=O (TE.o _ _ hp);obtain⟨-,rfl⟩:=hp;go_wp2_with fail;refine⟨rfl,?_⟩;rw [HV.o]
    first
     |(rw [show((p:Int)+(ps.flat.length:Int))=(q:Int) by have:=HQ.o;omega];exact HP.o)
     |(rw [HQ.o];exact HP.o)
   ·go_wp2_with fail;refine K.o.mono ?_;rintro e w2 hp;have HP:=O (TE.o _ _ hp);obtain⟨-,A3,n3,c3,rfl,-,-⟩:=hp;go_wp2_with fail;go_ret;rw [HV.o]
    first
     |(rw [HQ.o];exact HP.o)
     |(rw [show((p:Int)+(ps.flat.length:Int))=(q:Int) by have:=HQ.o;omega];exact HP.o)
theorem fy{W w w1 w2:World}{R:Nat}{k:Cx}{q:Int}{r:Res}{e:Ending}(h:zU W w1 R k q r e w2)(G:w.grownBy w1 (some R)):zU W w R k q r e w2:=by
 refine⟨zh G h.1,?_⟩
 cases r with
 | error x=>exact h.2
 | ok V =>
  obtain⟨⟨A,n,c,he,hN,hF⟩,hE⟩:=h.2
  exact⟨⟨A,n,c,he,hN,λa ha=>(hF a ha).imp id (λz=>Nat.le_trans G.size z)⟩,hE⟩
theorem tD{W:World}{R N:Nat}{k:Cx}(ih:fq W R k N){w:World}{p:Nat}(h:z7 W w R k (p:Int))(n:Nd)(ps:Exs)(hx:XAt k.P p false (.node n ps))(hN:(Ex.node n ps).flat.length<=N+1)(hop:n.op=11\/n.op=12)(hp:zJ n=2):
 Calls Tryz.prog 34 #[.pointer (some ⟨R,0,none⟩)] w (zU W w R k ((p+(Ex.node n ps).flat.length:Nat):Int) (evX k.env (.node n ps))):=by
 obtain⟨b1,b2,rfl,x1,x2,lY⟩:=hx.two hp (me (by omega));have ways:n.op=11\/n.op=12:=hop;have HR:=O (show evX k.env (.node n (.cons b1 (.cons b2 .nil)))=zW k.env (decide (n.op=12)) (.cons b1 (.cons b2 .nil)) by rw [evX,if_neg (by omega),if_neg (by omega),if_pos hop]);have HF:=O (show((p+(Ex.node n (.cons b1 (.cons b2 .nil))).flat.length:Nat):Int)=((p+1+b1.flat.length+b2.flat.length:Nat):Int) by rw [lY];congr 1;omega);rw [HR.o,HF.o];obtain⟨rr,iE⟩:∃rr:Res,rr=zW k.env (decide (n.op=12)) (.cons b1 (.cons b2 .nil)):=⟨_,rfl⟩
 obtain⟨Qp,oc⟩:∃Qp:Int,Qp=((p+1+b1.flat.length+b2.flat.length:Nat):Int):=⟨_,rfl⟩
 rw [<-iE,<-oc];have gR:=O iE;have AO:=O oc;clear iE oc;have l1:b1.flat.length<=N:=by omega
 have l2:b2.flat.length<=N:=by omega
 have X1:=O x1;have X2:=O x2;have IH:=O ih;obtain⟨a,ha,GN,D,ho⟩:=h.node hx;obtain⟨o,v,s,t⟩:=n;obtain⟨d0,d1,d2,d3⟩:=D;dsimp only at d0 d1 d2 d3 ways;have hm:=h.cx.ns.max;unfold maxLen at hm;have c8:w.cell? ⟨R,8,none⟩=some (.slice (some a) k.n k.c):=by rw [<-ha];exact h.c8
 have c9:=h.c9;have z9:=h.z 9;have pw:=h.lt;have HO:=O ho;have E1:=O (au h (.cells #[.int .i64 o,.int .i64 v,.string s,.string t] 47)).1;have G1:=O (au h (.cells #[.int .i64 o,.int .i64 v,.string s,.string t] 47)).2;have nw8:=World.new_ne w ⟨R,8,none⟩ c8;have nw9:=World.new_ne w ⟨R,9,none⟩ c9;have nd0:=World.new_ne w _ d0;have nd1:=World.new_ne w _ d1;have nd2:=World.new_ne w _ d2;have nd3:=World.new_ne w _ d3;have Gx:(0:Int)<=(p:Int):=by omega
 generalize k.n=kn at *;have eH:(p:Int)<(kn:Int):=by omega
 clear ha ho hx h hp hop hN HR HF lY x1 x2 ih;go_enter Tryz.func34,Tryz.ntmps34;go_wp2_with fail;go_region_held3 (λw':World=>w'.cell? ⟨R,8,none⟩=some (.slice (some a) kn k.c)/\w'.cell? ⟨R,9,none⟩=some (.int .i64 p)/\w'.cell? (a.add (p*4))=some (.int .i64 o)/\w'.cell? ⟨(a.add (p*4)).block,(a.add (p*4)).off+1,none⟩=some (.int .i64 v)/\w'.cell? ⟨(a.add (p*4)).block,(a.add (p*4)).off+2,none⟩=some (.string s)/\w'.cell? ⟨(a.add (p*4)).block,(a.add (p*4)).off+3,none⟩=some (.string t)) (go_keep) (fail);rcases ways with rfl|rfl
 ·have K:=O (yE (p:=p+1) IH.o E1.o b1 b2 X1.o X2.o l1 l2);rw [show zW k.env false (.cons b1 (.cons b2 .nil))=rr by rw [gR.o];rfl,<-AO.o] at K;clear gR;rcases rr with u|U
  ·go_wp2_with fail;refine K.o.mono ?_;rintro e w2 hp;have HP:=O (fy hp G1.o);obtain⟨-,rfl⟩:=hp;go_wp2_with fail;exact⟨rfl,HP.o⟩
  ·go_wp2_with fail;refine K.o.mono ?_;rintro e w2 hp;have HP:=O (fy hp G1.o);obtain⟨-,⟨A2,n2,c2,rfl,-,-⟩,-⟩:=hp;go_wp2_with fail;go_ret;exact HP.o
 ·have K:=O (yM (p:=p+1) IH.o E1.o b1 b2 X1.o X2.o l1 l2);rw [show zW k.env true (.cons b1 (.cons b2 .nil))=rr by rw [gR.o];rfl,<-AO.o] at K;clear gR;rcases rr with u|U
  ·go_wp2_with fail;refine K.o.mono ?_;rintro e w2 hp;have HP:=O (fy hp G1.o);obtain⟨-,rfl⟩:=hp;go_wp2_with fail;exact⟨rfl,HP.o⟩
  ·go_wp2_with fail;refine K.o.mono ?_;rintro e w2 hp;have HP:=O (fy hp G1.o);obtain⟨-,⟨A2,n2,c2,rfl,-,-⟩,-⟩:=hp;go_wp2_with fail;go_ret;exact HP.o
theorem aM:zZ.toList = [112,114,105,110,99,105,112,97,108]:=by kernel_rfl
theorem dc:j8.toList = [97,99,116,105,111,110]:=by kernel_rfl
theorem du:jc.toList = [114,101,115,111,117,114,99,101]:=by kernel_rfl
theorem gU:cN.toList = [99,111,110,116,101,120,116]:=by kernel_rfl
theorem uY{W w:World}{R:Nat}{k:Cx}{p:Int}(h:z7 W w R k p)(s:ByteArray):Calls Tryz.prog 59 #[.pointer (some ⟨R,0,none⟩),.string s] w (zU W w R k p (aJ k.env s)):=by
 have H:=O h;have AU:=h.cx.rq;by_cases g0:s=zZ
 ·subst g0;have f0:(zZ.toList == [112,114,105,110,99,105,112,97,108])=true:=beq_iff_eq.2 aM;have HR:=O (show aJ k.env zZ = .ok (aY k.q.who) by unfold aJ;rw [if_pos rfl];rfl);rw [HR.o];have KE:=O (λw=>fG k.q.who w AU.w1 AU.w2);have d1:=h.c1;have d2:=h.c2;clear h AU;go_enter Tryz.func59,Tryz.ntmps59;go_wp2_with fail;refine(KE.o _).mono ?_;rintro e w2 hp;have HP:=O (de hp H.o (cC w _));obtain⟨-,A2,n2,c2,rfl,-,-⟩:=hp;go_wp2_with fail;go_ret;exact HP.o
 by_cases g1:s=j8
 ·subst g1;have f1:(j8.toList == [97,99,116,105,111,110])=true:=beq_iff_eq.2 dc;have f0:(j8.toList == [112,114,105,110,99,105,112,97,108])=false:=beq_eq_false_iff_ne.2 (λq=>g0 (toList_inj (q.trans aM.symm)));have HR:=O (show aJ k.env j8 = .ok (aY k.q.act) by unfold aJ;rw [if_neg g0];rw [if_pos rfl];rfl);rw [HR.o];have KE:=O (λw=>fG k.q.act w AU.a1 AU.a2);have d1:=h.c3;have d2:=h.c4;clear h AU g0;go_enter Tryz.func59,Tryz.ntmps59;go_wp2_with fail;refine(KE.o _).mono ?_;rintro e w2 hp;have HP:=O (de hp H.o (cC w _));obtain⟨-,A2,n2,c2,rfl,-,-⟩:=hp;go_wp2_with fail;go_ret;exact HP.o
 by_cases g2:s=jc
 ·subst g2;have f2:(jc.toList == [114,101,115,111,117,114,99,101])=true:=beq_iff_eq.2 du;have f0:(jc.toList == [112,114,105,110,99,105,112,97,108])=false:=beq_eq_false_iff_ne.2 (λq=>g0 (toList_inj (q.trans aM.symm)));have f1:(jc.toList == [97,99,116,105,111,110])=false:=beq_eq_false_iff_ne.2 (λq=>g1 (toList_inj (q.trans dc.symm)));have HR:=O (show aJ k.env jc = .ok (aY k.q.what) by unfold aJ;rw [if_neg g0];rw [if_neg g1];rw [if_pos rfl];rfl);rw [HR.o];have KE:=O (λw=>fG k.q.what w AU.t1 AU.t2);have d1:=h.c5;have d2:=h.c6;clear h AU g0 g1;go_enter Tryz.func59,Tryz.ntmps59;go_wp2_with fail;refine(KE.o _).mono ?_;rintro e w2 hp;have HP:=O (de hp H.o (cC w _));obtain⟨-,A2,n2,c2,rfl,-,-⟩:=hp;go_wp2_with fail;go_ret;exact HP.o
 by_cases g3:s=cN
 ·subst g3;have f3:(cN.toList == [99,111,110,116,101,120,116])=true:=beq_iff_eq.2 gU;have f0:(cN.toList == [112,114,105,110,99,105,112,97,108])=false:=beq_eq_false_iff_ne.2 (λq=>g0 (toList_inj (q.trans aM.symm)));have f1:(cN.toList == [97,99,116,105,111,110])=false:=beq_eq_false_iff_ne.2 (λq=>g1 (toList_inj (q.trans dc.symm)));have f2:(cN.toList == [114,101,115,111,117,114,99,101])=false:=beq_eq_false_iff_ne.2 (λq=>g2 (toList_inj (q.trans du.symm)));have HR:=O (show aJ k.env cN = .ok k.q.P by unfold aJ;rw [if_neg g0];rw [if_neg g1];rw [if_neg g2];rw [if_pos rfl];rfl);rw [HR.o];have d7:=h.c7;have Ev:=O (show∀a,k.q.NA=some a->a.block<W.heap.size from λa e=>h.ok.rq.ns.at_.lt (dd h.ok.ok.ctx.1) a e);have GL:=O AU.ns;clear h AU g0 g1 g2;go_enter Tryz.func59,Tryz.ntmps59;go_wp2_with fail;go_ret;exact⟨cC w _,⟨_,_,_,rfl,GL.o,λa e => .inl (Ev.o a e)⟩,H.o⟩
 have f0:(s.toList == [112,114,105,110,99,105,112,97,108])=false:=beq_eq_false_iff_ne.2 (λq=>g0 (toList_inj (q.trans aM.symm)));have f1:(s.toList == [97,99,116,105,111,110])=false:=beq_eq_false_iff_ne.2 (λq=>g1 (toList_inj (q.trans dc.symm)));have f2:(s.toList == [114,101,115,111,117,114,99,101])=false:=beq_eq_false_iff_ne.2 (λq=>g2 (toList_inj (q.trans du.symm)));have f3:(s.toList == [99,111,110,116,101,120,116])=false:=beq_eq_false_iff_ne.2 (λq=>g3 (toList_inj (q.trans gU.symm)));have HR:=O (show aJ k.env s = .error 3 by unfold aJ;rw [if_neg g0,if_neg g1,if_neg g2,if_neg g3]);rw [HR.o];clear h AU g0 g1 g2 g3;go_enter Tryz.func59,Tryz.ntmps59;go_wp2_with fail;exact⟨rfl,cC w _,rfl⟩
theorem Bh{W w:World}{R:Nat}{k:Cx}{p:Nat}(h:z7 W w R k (p:Int))(n:Nd)(ps:Exs)(hx:XAt k.P p false (.node n ps))(hop:n.op=8)(hp:zJ n=0):
 Calls Tryz.prog 34 #[.pointer (some ⟨R,0,none⟩)] w (zU W w R k ((p+(Ex.node n ps).flat.length:Nat):Int) (evX k.env (.node n ps))):=by
 have ways:n.op=8:=hop;have HR:=O (show evX k.env (.node n ps)=aJ k.env n.s by rw [evX,if_neg (by omega),if_pos hop]);rw [HR.o,(hx.none hp).2];obtain⟨rr,iE⟩:∃rr:Res,rr=aJ k.env n.s:=⟨_,rfl⟩
 rw [<-iE];have gR:=O iE;clear iE;obtain⟨a,ha,GN,D,ho⟩:=h.node hx;obtain⟨o,v,s,t⟩:=n;obtain⟨d0,d1,d2,d3⟩:=D;dsimp only at d0 d1 d2 d3 ways;have hm:=h.cx.ns.max;unfold maxLen at hm;have c8:w.cell? ⟨R,8,none⟩=some (.slice (some a) k.n k.c):=by rw [<-ha];exact h.c8
 have c9:=h.c9;have z9:=h.z 9;have pw:=h.lt;have HO:=O ho;have E1:=O (au h (.cells #[.int .i64 o,.int .i64 v,.string s,.string t] 47)).1;have G1:=O (au h (.cells #[.int .i64 o,.int .i64 v,.string s,.string t] 47)).2;have nw8:=World.new_ne w ⟨R,8,none⟩ c8;have nw9:=World.new_ne w ⟨R,9,none⟩ c9;have nd0:=World.new_ne w _ d0;have nd1:=World.new_ne w _ d1;have nd2:=World.new_ne w _ d2;have nd3:=World.new_ne w _ d3;have Gx:(0:Int)<=(p:Int):=by omega
 generalize k.n=kn at *;have eH:(p:Int)<(kn:Int):=by omega
 clear ha ho hx h hp hop HR;go_enter Tryz.func34,Tryz.ntmps34;go_wp2_with fail;go_region_held3 (λw':World=>w'.cell? ⟨R,8,none⟩=some (.slice (some a) kn k.c)/\w'.cell? ⟨R,9,none⟩=some (.int .i64 p)/\w'.cell? (a.add (p*4))=some (.int .i64 o)/\w'.cell? ⟨(a.add (p*4)).block,(a.add (p*4)).off+1,none⟩=some (.int .i64 v)/\w'.cell? ⟨(a.add (p*4)).block,(a.add (p*4)).off+2,none⟩=some (.string s)/\w'.cell? ⟨(a.add (p*4)).block,(a.add (p*4)).off+3,none⟩=some (.string t)) (go_keep) (fail);subst ways;have K:=O (uY E1.o s);rw [show aJ k.env s=rr from gR.o.symm] at K;clear gR;rcases rr with u|U
 ·go_wp2_with fail;refine K.o.mono ?_;rintro e w2 hp;have HP:=O (fy hp G1.o);obtain⟨-,rfl⟩:=hp;go_wp2_with fail;exact⟨rfl,HP.o⟩
 ·go_wp2_with fail;refine K.o.mono ?_;rintro e w2 hp;have HP:=O (fy hp G1.o);obtain⟨-,⟨A2,n2,c2,rfl,-,-⟩,-⟩:=hp;go_wp2_with fail;go_ret;exact HP.o
theorem sV{W:World}{R N:Nat}{k:Cx}(ih:fq W R k N){w:World}{p:Nat}(h:z7 W w R k (p:Int))(n:Nd)(ps:Exs)(hx:XAt k.P p false (.node n ps))(hN:(Ex.node n ps).flat.length<=N+1)(hop:n.op=13)(hp:zJ n=3):
 Calls Tryz.prog 34 #[.pointer (some ⟨R,0,none⟩)] w (zU W w R k ((p+(Ex.node n ps).flat.length:Nat):Int) (evX k.env (.node n ps))):=by
 obtain⟨b1,b2,b3,rfl,x1,x2,x3,lY⟩:=hx.three hp (me (by omega));have ways:n.op=13:=hop;have HR:=O (show evX k.env (.node n (.cons b1 (.cons b2 (.cons b3 .nil))))=gI k.env (.cons b1 (.cons b2 (.cons b3 .nil))) by rw [evX,if_neg (by omega),if_neg (by omega),if_neg (by omega),if_pos hop]);have HF:=O (show((p+(Ex.node n (.cons b1 (.cons b2 (.cons b3 .nil)))).flat.length:Nat):Int)=((p+1+b1.flat.length+b2.flat.length+b3.flat.length:Nat):Int) by rw [lY];congr 1;omega);rw [HR.o,HF.o];obtain⟨rr,iE⟩:∃rr:Res,rr=gI k.env (.cons b1 (.cons b2 (.cons b3 .nil))):=⟨_,rfl⟩
 obtain⟨Qp,oc⟩:∃Qp:Int,Qp=((p+1+b1.flat.length+b2.flat.length+b3.flat.length:Nat):Int):=⟨_,rfl⟩
 rw [<-iE,<-oc];have gR:=O iE;have AO:=O oc;clear iE oc;have l1:b1.flat.length<=N:=by omega
 have l2:b2.flat.length<=N:=by omega
 have l3:b3.flat.length<=N:=by omega
 have X1:=O x1;have X2:=O x2;have X3:=O x3;have IH:=O ih;obtain⟨a,ha,GN,D,ho⟩:=h.node hx;obtain⟨o,v,s,t⟩:=n;obtain⟨d0,d1,d2,d3⟩:=D;dsimp only at d0 d1 d2 d3 ways;have hm:=h.cx.ns.max;unfold maxLen at hm;have c8:w.cell? ⟨R,8,none⟩=some (.slice (some a) k.n k.c):=by rw [<-ha];exact h.c8
 have c9:=h.c9;have z9:=h.z 9;have pw:=h.lt;have HO:=O ho;have E1:=O (au h (.cells #[.int .i64 o,.int .i64 v,.string s,.string t] 47)).1;have G1:=O (au h (.cells #[.int .i64 o,.int .i64 v,.string s,.string t] 47)).2;have nw8:=World.new_ne w ⟨R,8,none⟩ c8;have nw9:=World.new_ne w ⟨R,9,none⟩ c9;have nd0:=World.new_ne w _ d0;have nd1:=World.new_ne w _ d1;have nd2:=World.new_ne w _ d2;have nd3:=World.new_ne w _ d3;have Gx:(0:Int)<=(p:Int):=by omega
 generalize k.n=kn at *;have eH:(p:Int)<(kn:Int):=by omega
 clear ha ho hx h hp hop hN HR HF lY x1 x2 x3 ih;go_enter Tryz.func34,Tryz.ntmps34;go_wp2_with fail;go_region_held3 (λw':World=>w'.cell? ⟨R,8,none⟩=some (.slice (some a) kn k.c)/\w'.cell? ⟨R,9,none⟩=some (.int .i64 p)/\w'.cell? (a.add (p*4))=some (.int .i64 o)/\w'.cell? ⟨(a.add (p*4)).block,(a.add (p*4)).off+1,none⟩=some (.int .i64 v)/\w'.cell? ⟨(a.add (p*4)).block,(a.add (p*4)).off+2,none⟩=some (.string s)/\w'.cell? ⟨(a.add (p*4)).block,(a.add (p*4)).off+3,none⟩=some (.string t)) (go_keep) (fail);subst ways;have K:=O (uk (p:=p+1) IH.o E1.o b1 b2 b3 X1.o X2.o X3.o l1 l2 l3);rw [<-gR.o,<-AO.o] at K;clear gR;rcases rr with u|U
 ·go_wp2_with fail;refine K.o.mono ?_;rintro e w2 hp;have HP:=O (fy hp G1.o);obtain⟨-,rfl⟩:=hp;go_wp2_with fail;exact⟨rfl,HP.o⟩
 ·go_wp2_with fail;refine K.o.mono ?_;rintro e w2 hp;have HP:=O (fy hp G1.o);obtain⟨-,⟨A2,n2,c2,rfl,-,-⟩,-⟩:=hp;go_wp2_with fail;go_ret;exact HP.o
theorem DU{W:World}{R N:Nat}{k:Cx}(ih:fq W R k N){w:World}{p:Nat}(h:z7 W w R k (p:Int))(n:Nd)(ps:Exs)(hx:XAt k.P p false (.node n ps))(hN:(Ex.node n ps).flat.length<=N+1)(hop:n.op=5)(cR:k.P.length<=200):
 Calls Tryz.prog 34 #[.pointer (some ⟨R,0,none⟩)] w (zU W w R k ((p+(Ex.node n ps).flat.length:Nat):Int) (evX k.env (.node n ps))):=by
 have ways:n.op=5:=hop;have HR:=O (show evX k.env (.node n ps)=xN (evS k.env ps) by rw [evX,if_neg (by omega),if_neg (by omega),if_neg (by omega),if_neg (by omega),if_neg (by omega)];rcases evS k.env ps with e|L <;> simp [xN,hop]);have lY:(Ex.node n ps).flat.length=ps.flat.length+1:=by simp [Ex.flat]
 have HF:=O (show((p+(Ex.node n ps).flat.length:Nat):Int)=((p+1+ps.flat.length:Nat):Int) by rw [lY];congr 1;omega);rw [HR.o,HF.o];obtain⟨rr,iE⟩:∃rr:Res,rr=xN (evS k.env ps):=⟨_,rfl⟩
 obtain⟨Qp,oc⟩:∃Qp:Int,Qp=((p+1+ps.flat.length:Nat):Int):=⟨_,rfl⟩
 rw [<-iE,<-oc];have gR:=O iE;have AO:=O oc;clear iE oc;have l1:ps.flat.length<=N:=by omega
 have X1:=O (show iy k.P (p+1) false ps by have:=hx.parts;rwa [show ae (Ex.node n ps).head=false from decide_eq_false (by show n.op≠6;omega)] at this);have HN:=O (show n.n=(ps.len:Int) by have:=hx.valid.2.1;unfold zJ at this;rw [if_pos (by omega)] at this;exact this.symm);have h2:ps.len<=200:=by have:=hx.le;have:=dw ps;omega
 have IH:=O ih;obtain⟨a,ha,GN,D,ho⟩:=h.node hx;obtain⟨o,v,s,t⟩:=n;obtain⟨d0,d1,d2,d3⟩:=D;dsimp only at d0 d1 d2 d3 ways;have hm:=h.cx.ns.max;unfold maxLen at hm;have c8:w.cell? ⟨R,8,none⟩=some (.slice (some a) k.n k.c):=by rw [<-ha];exact h.c8
 have c9:=h.c9;have z9:=h.z 9;have pw:=h.lt;have HO:=O ho;have E1:=O (au h (.cells #[.int .i64 o,.int .i64 v,.string s,.string t] 47)).1;have G1:=O (au h (.cells #[.int .i64 o,.int .i64 v,.string s,.string t] 47)).2;have nw8:=World.new_ne w ⟨R,8,none⟩ c8;have nw9:=World.new_ne w ⟨R,9,none⟩ c9;have nd0:=World.new_ne w _ d0;have nd1:=World.new_ne w _ d1;have nd2:=World.new_ne w _ d2;have nd3:=World.new_ne w _ d3;have Gx:(0:Int)<=(p:Int):=by omega
 generalize k.n=kn at *;have eH:(p:Int)<(kn:Int):=by omega
 clear ha ho hx h hop hN HR HF lY ih cR;go_enter Tryz.func34,Tryz.ntmps34;go_wp2_with fail;go_region_held3 (λw':World=>w'.cell? ⟨R,8,none⟩=some (.slice (some a) kn k.c)/\w'.cell? ⟨R,9,none⟩=some (.int .i64 p)/\w'.cell? (a.add (p*4))=some (.int .i64 o)/\w'.cell? ⟨(a.add (p*4)).block,(a.add (p*4)).off+1,none⟩=some (.int .i64 v)/\w'.cell? ⟨(a.add (p*4)).block,(a.add (p*4)).off+2,none⟩=some (.string s)/\w'.cell? ⟨(a.add (p*4)).block,(a.add (p*4)).off+3,none⟩=some (.string t)) (go_keep) (fail);subst ways;have K:=O (Be (p:=p+1) IH.o E1.o ⟨5,v,s,t⟩ ps X1.o rfl HN.o l1 h2);unfold ndV at K;rw [<-gR.o,<-AO.o] at K;clear gR;rcases rr with u|U
 ·go_wp2_with fail;refine K.o.mono ?_;rintro e w2 hp;have HP:=O (fy hp G1.o);obtain⟨-,rfl⟩:=hp;go_wp2_with fail;exact⟨rfl,HP.o⟩
 ·go_wp2_with fail;refine K.o.mono ?_;rintro e w2 hp;have HP:=O (fy hp G1.o);obtain⟨-,⟨A2,n2,c2,rfl,-,-⟩,-⟩:=hp;go_wp2_with fail;go_ret;exact HP.o
theorem Dp{W:World}{R N:Nat}{k:Cx}(ih:fq W R k N){w:World}{p:Nat}(h:z7 W w R k (p:Int))(n:Nd)(ps:Exs)(hx:XAt k.P p false (.node n ps))(hN:(Ex.node n ps).flat.length<=N+1)(hop:n.op=6)(cR:k.P.length<=200):
 Calls Tryz.prog 34 #[.pointer (some ⟨R,0,none⟩)] w (zU W w R k ((p+(Ex.node n ps).flat.length:Nat):Int) (evX k.env (.node n ps))):=by
 have ways:n.op=6:=hop;have HR:=O (show evX k.env (.node n ps)=D7 (evF k.env ps) by rw [evX,if_neg (by omega),if_neg (by omega),if_neg (by omega),if_neg (by omega),if_pos hop];rcases evF k.env ps with e|L <;> rfl);have lY:(Ex.node n ps).flat.length=ps.flat.length+1:=by simp [Ex.flat]
 have HF:=O (show((p+(Ex.node n ps).flat.length:Nat):Int)=((p+1+ps.flat.length:Nat):Int) by rw [lY];congr 1;omega);rw [HR.o,HF.o];obtain⟨rr,iE⟩:∃rr:Res,rr=D7 (evF k.env ps):=⟨_,rfl⟩
 obtain⟨Qp,oc⟩:∃Qp:Int,Qp=((p+1+ps.flat.length:Nat):Int):=⟨_,rfl⟩
 rw [<-iE,<-oc];have gR:=O iE;have AO:=O oc;clear iE oc;have l1:ps.flat.length<=N:=by omega
 have X1:=O (show iy k.P (p+1) true ps by have:=hx.parts;rwa [show ae (Ex.node n ps).head=true from decide_eq_true hop] at this);have HN:=O (show n.n=(ps.len:Int) by have:=hx.valid.2.1;unfold zJ at this;rw [if_pos (by omega)] at this;exact this.symm);have h2:ps.len<=200:=by have:=hx.le;have:=dw ps;omega
 have IH:=O ih;obtain⟨a,ha,GN,D,ho⟩:=h.node hx;obtain⟨o,v,s,t⟩:=n;obtain⟨d0,d1,d2,d3⟩:=D;dsimp only at d0 d1 d2 d3 ways;have hm:=h.cx.ns.max;unfold maxLen at hm;have c8:w.cell? ⟨R,8,none⟩=some (.slice (some a) k.n k.c):=by rw [<-ha];exact h.c8
 have c9:=h.c9;have z9:=h.z 9;have pw:=h.lt;have HO:=O ho;have E1:=O (au h (.cells #[.int .i64 o,.int .i64 v,.string s,.string t] 47)).1;have G1:=O (au h (.cells #[.int .i64 o,.int .i64 v,.string s,.string t] 47)).2;have nw8:=World.new_ne w ⟨R,8,none⟩ c8;have nw9:=World.new_ne w ⟨R,9,none⟩ c9;have nd0:=World.new_ne w _ d0;have nd1:=World.new_ne w _ d1;have nd2:=World.new_ne w _ d2;have nd3:=World.new_ne w _ d3;have Gx:(0:Int)<=(p:Int):=by omega
 generalize k.n=kn at *;have eH:(p:Int)<(kn:Int):=by omega
 clear ha ho hx h hop hN HR HF lY ih cR;go_enter Tryz.func34,Tryz.ntmps34;go_wp2_with fail;go_region_held3 (λw':World=>w'.cell? ⟨R,8,none⟩=some (.slice (some a) kn k.c)/\w'.cell? ⟨R,9,none⟩=some (.int .i64 p)/\w'.cell? (a.add (p*4))=some (.int .i64 o)/\w'.cell? ⟨(a.add (p*4)).block,(a.add (p*4)).off+1,none⟩=some (.int .i64 v)/\w'.cell? ⟨(a.add (p*4)).block,(a.add (p*4)).off+2,none⟩=some (.string s)/\w'.cell? ⟨(a.add (p*4)).block,(a.add (p*4)).off+3,none⟩=some (.string t)) (go_keep) (fail);subst ways;have K:=O (CU (p:=p+1) IH.o E1.o ⟨6,v,s,t⟩ ps X1.o rfl HN.o l1 h2);unfold ndV at K;rw [<-gR.o,<-AO.o] at K;clear gR;rcases rr with u|U
 ·go_wp2_with fail;refine K.o.mono ?_;rintro e w2 hp;have HP:=O (fy hp G1.o);obtain⟨-,rfl⟩:=hp;go_wp2_with fail;exact⟨rfl,HP.o⟩
 ·go_wp2_with fail;refine K.o.mono ?_;rintro e w2 hp;have HP:=O (fy hp G1.o);obtain⟨-,⟨A2,n2,c2,rfl,-,-⟩,-⟩:=hp;go_wp2_with fail;go_ret;exact HP.o
theorem G7{W w:World}{R:Nat}{k:Cx}{p:Int}(_h:z7 W w R k p)(x:Nd):Nd4 ((w.setCell ⟨R,9,none⟩ (.int .i64 (p+1))).alloc (.cells #[.int .i64 x.op,.int .i64 x.n,.string x.s,.string x.t] 47)).drew ⟨w.heap.size,0,none⟩ x:=by
 have h1:=iJ (w.setCell ⟨R,9,none⟩ (.int .i64 (p+1))) x 47;rw [show(w.setCell ⟨R,9,none⟩ (.int .i64 (p+1))).heap.size=w.heap.size by simp [World.setCell]] at h1;exact h1.keep (zo _)
theorem Nd4.but{w w':World}{b:Nat}{x:Nd}{R:Nat}(h:Nd4 w ⟨b,0,none⟩ x)(hg:w.grownBy w' (some R))(hne:b≠R):Nd4 w' ⟨b,0,none⟩ x :=
 have e:some b≠some R:=λq=>hne (by injection q)
 ⟨hg.cell h.c0 e,hg.cell h.c1 e,hg.cell h.c2 e,hg.cell h.c3 e⟩
theorem y5(σ:Env){n:Nd}{a:Ex}(h:n.op=9\/n.op=10\/n.op=21\/n.op=22\/n.op=23\/n.op=24):evX σ (.node n (.cons a .nil))=(match evX σ a with | .error e => .error e | .ok V=>bK σ.E n V):=by
 rw [evX,if_neg (by omega),if_neg (by omega),if_neg (by omega),if_neg (by omega),if_neg (by omega)];simp only [evS];rcases evX σ a with e|V
 ·rfl
 ·simp only [qJ];rw [if_neg (by omega)]
theorem Az(σ:Env){n:Nd}{a b:Ex}(h:14<=n.op/\n.op<=20\/25<=n.op/\n.op<=27):evX σ (.node n (.cons a (.cons b .nil)))=(match evX σ a with | .error e => .error e | .ok V=>match evX σ b with | .error e => .error e | .ok U=>aT σ.E n.op V U):=by
 rw [evX,if_neg (by omega),if_neg (by omega),if_neg (by omega),if_neg (by omega),if_neg (by omega)];simp only [evS];rcases evX σ a with e|V
 ·rfl
 ·simp only;rcases evX σ b with e|U
  ·rfl
  ·simp only [qJ];rw [if_neg (by omega)]
theorem tr{w:World}{R:Nat}{k:Cx}(h:bJ w R k)(x:Nd)(hx:x.op=9\/x.op=10\/x.op=21\/x.op=22\/x.op=23\/x.op=24)(hs:x.s.size<=maxLen)(A:Option Addr)(n c:Nat)(V:List Nd)(hv:Ns w A n c V)(h0:0<V.length):
 Calls Tryz.prog 63 #[.pointer (some ⟨R,0,none⟩),ndV x,.slice A n c] w (zT w (bK k.E x V)):=by
 rcases hx with q|q|q|q|q|q
 ·exact vr h x q A n c V hv h0
 ·exact vE h x q A n c V hv h0
 ·exact uR h x q A n c V hv h0
 ·exact wB h x q A n c V hv h0
 ·exact sk h x q hs A n c V hv h0
 ·exact yO h x q A n c V hv h0
theorem xX{w:World}{R:Nat}{k:Cx}(h:bJ w R k)(A B:Option Addr)(n m c d:Nat)(P Q:List Nd)(hP:Ns w A n c P)(h0:0<P.length)(hQ:Ns w B m d Q)(h1:0<Q.length)(vQ:zc Q=0):
 Calls Tryz.prog 64 #[.pointer (some ⟨R,0,none⟩),.int .i64 20,.slice A n c,.slice B m d] w (zT w (aT k.E 20 P Q)):=by
 have K:=O (F7 h A B n m c d P Q hP h0 hQ h1 vQ);unfold nV at K;have HR:=O (show aT k.E 20 P Q=(if zg P=4/\(jX Q).all (λt=>decide (zg t=4)) then .ok (zw ((jX Q).any λt=>inB k.E (jV P) (jV t))) else .error 2) by unfold aT;rw [if_neg (by decide),if_pos rfl];rfl);rw [HR.o];generalize ((jX Q).any λt=>inB k.E (jV P) (jV t))=b at *;clear h hP h0 hQ h1 vQ;by_cases g:zg P=4/\(jX Q).all (λt=>decide (zg t=4))=true
 ·rw [if_pos g];simp only [if_pos g] at K;clear g HR;go_enter Tryz.func64,Tryz.ntmps64;go_wp2_with fail;refine K.o.mono ?_;rintro e w1 ⟨b1,rfl⟩;have B1:=O b1;clear b1 K;go_wp2_with fail;refine(jp b w1).mono ?_;rintro e w2 hp;have HP:=O (hp.up B1.o);obtain⟨-,A2,n2,c2,rfl,-,-⟩:=hp;go_wp2_with fail;go_ret;exact HP.o
 ·rw [if_neg g];simp only [if_neg g] at K;clear g HR;go_enter Tryz.func64,Tryz.ntmps64;go_wp2_with fail;refine K.o.mono ?_;rintro e w1 ⟨b1,rfl⟩;have B1:=O b1;clear b1 K;go_wp2_with fail;exact⟨rfl,js B1.o⟩
theorem sN{w:World}{R:Nat}{k:Cx}(h:bJ w R k)(op:Int)(A B:Option Addr)(n m c d:Nat)(P Q:List Nd)(hP:Ns w A n c P)(h0:0<P.length)(hQ:Ns w B m d Q)(h1:0<Q.length)(vQ:zc Q=0):
 Calls Tryz.prog 64 #[.pointer (some ⟨R,0,none⟩),.int .i64 op,.slice A n c,.slice B m d] w (zT w (aT k.E op P Q)):=by
 by_cases q14:op=14
 ·subst q14;exact y6 h A B n m c d P Q hP hQ
 by_cases q20:op=20
 ·subst q20;exact xX h A B n m c d P Q hP h0 hQ h1 vQ
 by_cases q25:op=25
 ·subst q25;exact vG h A B n m c d P Q hP hQ
 by_cases q26:op=26
 ·subst q26;exact uZ h A B n m c d P Q hP hQ
 by_cases q27:op=27
 ·subst q27;exact uT h A B n m c d P Q hP hQ
 by_cases g:zg P=2
 ·by_cases g2:zg Q=2
  ·by_cases q15:op=15
   ·subst q15;exact Ag h A B n m c d P Q hP h0 hQ h1 g g2
   by_cases q16:op=16
   ·subst q16;exact yI h A B n m c d P Q hP h0 hQ h1 g g2
   exact yB h op ⟨q14,q20,q25,q26,q27⟩ ⟨q15,q16⟩ A B n m c d P Q hP h0 hQ h1 g g2
  ·exact uX h op ⟨q14,q20,q25,q26,q27⟩ A B n m c d P Q hP h0 hQ h1 g g2
 ·exact vF h op ⟨q14,q20,q25,q26,q27⟩ A B n m c d P Q hP h0 hQ h1 g
theorem sF{W:World}{R N:Nat}{k:Cx}(ih:fq W R k N){w:World}{p:Nat}(h:z7 W w R k (p:Int))(n:Nd)(ps:Exs)(hx:XAt k.P p false (.node n ps))(hN:(Ex.node n ps).flat.length<=N+1)(hop:n.op=9\/n.op=10\/n.op=21\/n.op=22\/n.op=23\/n.op=24)(hp:zJ n=1):
 Calls Tryz.prog 34 #[.pointer (some ⟨R,0,none⟩)] w (zU W w R k ((p+(Ex.node n ps).flat.length:Nat):Int) (evX k.env (.node n ps))):=by
 obtain⟨b1,rfl,x1,lY⟩:=hx.one hp (me (by omega));have ways:=hop;have HR:=O (y5 k.env (a:=b1) hop);have HF:=O (show((p+(Ex.node n (.cons b1 .nil)).flat.length:Nat):Int)=((p+1+b1.flat.length:Nat):Int) by rw [lY];congr 1;omega);rw [HR.o,HF.o];obtain⟨rr,iE⟩:∃rr:Res,rr=(match evX k.env b1 with | .error e => .error e | .ok V=>bK k.env.E n V):=⟨_,rfl⟩
 obtain⟨Qp,oc⟩:∃Qp:Int,Qp=((p+1+b1.flat.length:Nat):Int):=⟨_,rfl⟩
 rw [<-iE,<-oc];have gR:=O iE;have AO:=O oc;clear iE oc;have l1:b1.flat.length<=N:=by omega
 have X1:=O x1;have IH:=O ih;have Kr:=O h.ok.ok;have B4:=O (G7 h n);obtain⟨a,ha,GN,D,ho⟩:=h.node hx;obtain⟨o,v,s,t⟩:=n;obtain⟨d0,d1,d2,d3⟩:=D;dsimp only at d0 d1 d2 d3 ways;have hm:=h.cx.ns.max;unfold maxLen at hm;have c8:w.cell? ⟨R,8,none⟩=some (.slice (some a) k.n k.c):=by rw [<-ha];exact h.c8
 have c9:=h.c9;have z9:=h.z 9;have pw:=h.lt;have HO:=O ho;have E1:=O (au h (.cells #[.int .i64 o,.int .i64 v,.string s,.string t] 47)).1;have G1:=O (au h (.cells #[.int .i64 o,.int .i64 v,.string s,.string t] 47)).2;have nw8:=World.new_ne w ⟨R,8,none⟩ c8;have nw9:=World.new_ne w ⟨R,9,none⟩ c9;have nd0:=World.new_ne w _ d0;have nd1:=World.new_ne w _ d1;have nd2:=World.new_ne w _ d2;have nd3:=World.new_ne w _ d3;have Gx:(0:Int)<=(p:Int):=by omega
 generalize k.n=kn at *;have eH:(p:Int)<(kn:Int):=by omega
 clear ha ho hx h hp hop hN HR HF lY x1 ih;go_enter Tryz.func34,Tryz.ntmps34;go_wp2_with fail;go_region_held3 (λw':World=>w'.cell? ⟨R,8,none⟩=some (.slice (some a) kn k.c)/\w'.cell? ⟨R,9,none⟩=some (.int .i64 p)/\w'.cell? (a.add (p*4))=some (.int .i64 o)/\w'.cell? ⟨(a.add (p*4)).block,(a.add (p*4)).off+1,none⟩=some (.int .i64 v)/\w'.cell? ⟨(a.add (p*4)).block,(a.add (p*4)).off+2,none⟩=some (.string s)/\w'.cell? ⟨(a.add (p*4)).block,(a.add (p*4)).off+3,none⟩=some (.string t)) (go_keep) (fail);have Lm:w.heap.size≠R:=by omega
 have K1:=O (IH.o b1 (p+1) _ E1.o X1.o l1);rcases qa:evX k.env b1 with u|V
 ·obtain rfl:rr = .error u:=by rw [gR.o,qa]
  rw [qa] at K1;unfold zU at K1;clear qa;rcases ways with rfl|rfl|rfl|rfl|rfl|rfl
  all_goals
   go_wp2_with fail;refine K1.o.mono ?_;rintro e w2 ⟨g2,rfl⟩;have G2:=O (zh G1.o g2);clear g2;go_wp2_with fail;exact⟨rfl,G2.o,rfl⟩
 ·obtain⟨-,pV⟩:=fX Kr.o X1.o qa;have hr3:bK k.E ⟨o,v,s,t⟩ V=rr:=by rw [gR.o,qa];rfl
  rw [qa,<-AO.o] at K1;unfold zU at K1;have KSF:=O (λ(q:Int) (w2:World) (E2:z7 W w2 R k q) (A2:Option Addr) (n2 c2:Nat) (N2:Ns w2 A2 n2 c2 V)=>tr E2.y ⟨o,v,s,t⟩ ways HO.o.s A2 n2 c2 V N2 pV);clear qa gR;rcases ways with rfl|rfl|rfl|rfl|rfl|rfl
  all_goals
   go_wp2_with fail;refine K1.o.mono ?_;rintro e w2 ⟨g2,⟨A2,n2,c2,rfl,N2,F2⟩,E2⟩;have G2:=O (zh G1.o g2);obtain⟨y0,y1,y2,y3⟩:=B4.o.but g2 Lm;have KS:=O (KSF.o _ w2 E2 A2 n2 c2 N2);have aE:=O E2;clear g2 N2 F2 E2 K1;rw [hr3] at KS;unfold ndV at KS;dsimp only at KS y0 y1 y2 y3;clear hr3;rcases rr with u|U
   ·go_wp2_with fail;refine KS.o.mono ?_;rintro e w3 hp;have HP:=O (de hp aE.o G2.o);obtain⟨-,rfl⟩:=hp;go_wp2_with fail;exact⟨rfl,HP.o⟩
   ·go_wp2_with fail;refine KS.o.mono ?_;rintro e w3 hp;have HP:=O (de hp aE.o G2.o);obtain⟨-,A3,n3,c3,rfl,-,-⟩:=hp;go_wp2_with fail;go_ret;exact HP.o
noncomputable def FA(E:List En)(op:Int)(x y:Res):Res:=match x with
 | .error e => .error e
 | .ok V=>match y with
  | .error e => .error e
  | .ok U=>aT E op V U
theorem Ig(σ:Env){n:Nd}{a b:Ex}(h:14<=n.op/\n.op<=20\/25<=n.op/\n.op<=27):evX σ (.node n (.cons a (.cons b .nil)))=FA σ.E n.op (evX σ a) (evX σ b):=by
 rw [Az σ h];unfold FA;rcases evX σ a with e|V
 ·rfl
 ·rcases evX σ b with e|U <;> rfl
theorem sq{W:World}{R N:Nat}{k:Cx}(ih:fq W R k N){w:World}{p:Nat}(h:z7 W w R k (p:Int))(n:Nd)(ps:Exs)(hx:XAt k.P p false (.node n ps))(hN:(Ex.node n ps).flat.length<=N+1)(hop:14<=n.op/\n.op<=20\/25<=n.op/\n.op<=27)(hp:zJ n=2):
 Calls Tryz.prog 34 #[.pointer (some ⟨R,0,none⟩)] w (zU W w R k ((p+(Ex.node n ps).flat.length:Nat):Int) (evX k.env (.node n ps))):=by
 obtain⟨b1,b2,rfl,x1,x2,lY⟩:=hx.two hp (me (by omega));have ways:=hop;have HR:=O (Ig k.env (a:=b1) (b:=b2) hop);have HF:=O (show((p+(Ex.node n (.cons b1 (.cons b2 .nil))).flat.length:Nat):Int)=((p+1+b1.flat.length+b2.flat.length:Nat):Int) by rw [lY];congr 1;omega);rw [HR.o,HF.o];obtain⟨rr,iE⟩:∃rr:Res,rr=FA k.env.E n.op (evX k.env b1) (evX k.env b2):=⟨_,rfl⟩
 obtain⟨Qp,oc⟩:∃Qp:Int,Qp=((p+1+b1.flat.length+b2.flat.length:Nat):Int):=⟨_,rfl⟩
 rw [<-iE,<-oc];have gR:=O iE;have AO:=O oc;clear iE oc;have l1:b1.flat.length<=N:=by omega
 have l2:b2.flat.length<=N:=by omega
 have X1:=O x1;have X2:=O x2;have IH:=O ih;have Kr:=O h.ok.ok;have B4:=O (G7 h n);obtain⟨a,ha,GN,D,ho⟩:=h.node hx;obtain⟨o,v,s,t⟩:=n;obtain⟨d0,d1,d2,d3⟩:=D;dsimp only at d0 d1 d2 d3 ways;have hm:=h.cx.ns.max;unfold maxLen at hm;have c8:w.cell? ⟨R,8,none⟩=some (.slice (some a) k.n k.c):=by rw [<-ha];exact h.c8
 have c9:=h.c9;have z9:=h.z 9;have pw:=h.lt;have HO:=O ho;have E1:=O (au h (.cells #[.int .i64 o,.int .i64 v,.string s,.string t] 47)).1;have G1:=O (au h (.cells #[.int .i64 o,.int .i64 v,.string s,.string t] 47)).2;have nw8:=World.new_ne w ⟨R,8,none⟩ c8;have nw9:=World.new_ne w ⟨R,9,none⟩ c9;have nd0:=World.new_ne w _ d0;have nd1:=World.new_ne w _ d1;have nd2:=World.new_ne w _ d2;have nd3:=World.new_ne w _ d3;have Gx:(0:Int)<=(p:Int):=by omega
 have f1:(o==1)=false:=beq_eq_false_iff_ne.2 (by omega);have f2:(o==2)=false:=beq_eq_false_iff_ne.2 (by omega);have f3:(o==3)=false:=beq_eq_false_iff_ne.2 (by omega);have f4:(o==4)=false:=beq_eq_false_iff_ne.2 (by omega);have f8:(o==8)=false:=beq_eq_false_iff_ne.2 (by omega);have f11:(o==11)=false:=beq_eq_false_iff_ne.2 (by omega);have f12:(o==12)=false:=beq_eq_false_iff_ne.2 (by omega);have f13:(o==13)=false:=beq_eq_false_iff_ne.2 (by omega);have f5:(o==5)=false:=beq_eq_false_iff_ne.2 (by omega);have f6:(o==6)=false:=beq_eq_false_iff_ne.2 (by omega);have f9:(o==9)=false:=beq_eq_false_iff_ne.2 (by omega);have f10:(o==10)=false:=beq_eq_false_iff_ne.2 (by omega);have f21:(o==21)=false:=beq_eq_false_iff_ne.2 (by omega);have f22:(o==22)=false:=beq_eq_false_iff_ne.2 (by omega);have f23:(o==23)=false:=beq_eq_false_iff_ne.2 (by omega);have f24:(o==24)=false:=beq_eq_false_iff_ne.2 (by omega);generalize k.n=kn at *;have eH:(p:Int)<(kn:Int):=by omega
 clear ha ho hx h hp hop hN HR HF lY x1 x2 ih;go_enter Tryz.func34,Tryz.ntmps34;go_wp2_with fail;go_region_held3 (λw':World=>w'.cell? ⟨R,8,none⟩=some (.slice (some a) kn k.c)/\w'.cell? ⟨R,9,none⟩=some (.int .i64 p)/\w'.cell? (a.add (p*4))=some (.int .i64 o)/\w'.cell? ⟨(a.add (p*4)).block,(a.add (p*4)).off+1,none⟩=some (.int .i64 v)/\w'.cell? ⟨(a.add (p*4)).block,(a.add (p*4)).off+2,none⟩=some (.string s)/\w'.cell? ⟨(a.add (p*4)).block,(a.add (p*4)).off+3,none⟩=some (.string t)) (go_keep) (fail);have Lm:w.heap.size≠R:=by omega
 have K1:=O (IH.o b1 (p+1) _ E1.o X1.o l1);rcases qa:evX k.env b1 with u|V
 ·obtain rfl:rr = .error u:=by rw [gR.o,qa];rfl
  rw [qa] at K1;unfold zU at K1;clear qa ways;go_wp2_with fail;refine K1.o.mono ?_;rintro e w2 ⟨g2,rfl⟩;have G2:=O (zh G1.o g2);clear g2;go_wp2_with fail;exact⟨rfl,G2.o,rfl⟩
 obtain⟨-,pV⟩:=fX Kr.o X1.o qa;have PV:=O pV;rw [qa] at K1;unfold zU at K1;have IZ:=O (show rr=FA k.E o (.ok V) (evX k.env b2) by rw [gR.o,qa];rfl);clear qa ways gR pV;go_wp2_with fail;refine K1.o.mono ?_;rintro e w2 ⟨g2,⟨A2,n2,c2,rfl,N2,F2⟩,E2⟩;have G2:=O (zh G1.o g2);obtain⟨y0,y1,y2,y3⟩:=B4.o.but g2 Lm;dsimp only at y0 y1 y2 y3;have aE:=O E2;have AL:=O N2;clear g2 N2 F2 E2 K1;go_wp2_with fail;have HD2:=O (aE.o.keep (zo w2));have GD2:=O (zh G2.o (zj (zo w2) (some R)));have ND2:=O (AL.o.keep (zo w2));have K2:=O (IH.o b2 (p+1+b1.flat.length) w2.drew HD2.o X2.o l2);refine lz (λ(w':World)=>w'.cell? ⟨w.heap.size,0,none⟩=some (.int .i64 o)) 7 (by kernel_rfl) (show w2.drew.cell? ⟨w.heap.size,0,none⟩=some (.int .i64 o) from y0) (λhHeld=>?_);refine jw 0 69 (.pointer (some ⟨R,0,none⟩)) rfl (λw' hSw=>?_) hHeld ?_
 ·go_simp
 simp only [Act.put,aH];refine jw 1 70 (.pointer (some ⟨w.heap.size,0,none⟩)) rfl (λw' hSw=>?_) hHeld ?_
 ·go_simp
 simp only [Act.put,aH];refine jw 2 71 (.int .i64 o) rfl (λw' hSw=>?_) hHeld ?_
 ·go_simp
 simp only [Act.put,aH];refine jw 3 72 (.slice A2 n2 c2) rfl (λw' hSw=>?_) hHeld ?_
 ·go_simp
 simp only [Act.put,aH];refine jw 4 73 (.pointer (some ⟨R,0,none⟩)) rfl (λw' hSw=>?_) hHeld ?_
 ·go_simp
 simp only [Act.put,aH];rcases qb:evX k.env b2 with u|U
 ·obtain rfl:rr = .error u:=by rw [IZ.o,qb];rfl
  rw [qb] at K2;unfold zU at K2;clear qb IZ;refine aX (i:=5) (o:=⟨some 74,_,_,_,_,_⟩) (by kernel_rfl) rfl (λK' hK'=>?_);go_simp;go_at_call 34;refine K2.o.mono ?_;rintro e w3 ⟨g3,rfl⟩;have G3:=O (zh GD2.o g3);clear g3;go_wp2_with fail;exact⟨rfl,G3.o,rfl⟩
 obtain⟨vU,pU⟩:=fX Kr.o X2.o qb;have hr3:aT k.E o V U=rr:=by rw [IZ.o,qb];rfl
 rw [qb,<-AO.o] at K2;unfold zU at K2;clear qb IZ;refine aX (i:=5) (o:=⟨some 74,_,_,_,_,_⟩) (by kernel_rfl) rfl (λK' hK'=>?_);go_simp;go_at_call 34;refine K2.o.mono ?_;rintro e w3 ⟨g3,⟨A3,n3,c3,rfl,N3,F3⟩,E3⟩;have G3:=O (zh GD2.o g3);have z0:=g3.cell hHeld (show some w.heap.size≠some R from λe=>Lm (by injection e));have KD:=O (sN E3.y o A2 A3 n2 n3 c2 c3 V U (HD2.o.ns ND2.o g3) PV.o N3 pU vU);rw [hr3] at KD;have qi:=O E3;clear g3 N3 F3 E3 vU pU hr3 K2;go_wp2_with fail;refine hK'.out _ _ (λ_=>z0) ?_;clear hK' K' hHeld
 try simp only [Act.put,aH]
 refine aX (i:=6) (o:=⟨some 75,_,_,_,_,_⟩) (by kernel_rfl) rfl (λK' hK'=>?_);go_simp;go_at_call 64;rcases rr with u|T
 ·refine KD.o.mono ?_;rintro e w4 hp;have HP:=O (de hp qi.o G3.o);obtain⟨-,rfl⟩:=hp;go_wp2_with fail;exact⟨rfl,HP.o⟩
 ·refine KD.o.mono ?_;rintro e w4 hp;have HP:=O (de hp qi.o G3.o);obtain⟨b4,A4,n4,c4,rfl,-,-⟩:=hp;have z4:=zb b4 z0;clear b4;go_wp2_with fail;refine hK'.out _ _ (λ_=>z4) ?_;clear hK' K'
  try simp only [Act.put,aH]
  refine aX (i:=7) (o:=⟨some 2,_,_,_,_,_⟩) (by kernel_rfl) rfl (λK' hK'=>?_);go_simp;refine hK'.out _ _ (λh=>absurd rfl h) ?_;refine ll (by kernel_rfl) ?_;clear hK' K';go_wp2_with fail;go_ret;exact HP.o
theorem py{W:World}{R:Nat}{k:Cx}(cR:k.P.length<=200):∀N:Nat,fq W R k N
 | 0=>λx p w _ _ hl=>by have:=j6 x;omega
 | N+1=>λx p w h hx hl=>by
  have ih:=py (W:=W) (R:=R) cR N;obtain⟨n,ps⟩:=x;rcases hx.ways with ⟨g1,g2,hp⟩|⟨g,hp⟩|⟨g,hp⟩|⟨g,hp⟩|g|g|⟨g,hp⟩|⟨g,hp⟩
  ·exact yZ h n ps hx ⟨g1,g2⟩ hp
  ·exact Bh h n ps hx g hp
  ·exact tD ih h n ps hx hl g hp
  ·exact sV ih h n ps hx hl g hp
  ·exact DU ih h n ps hx hl g cR
  ·exact Dp ih h n ps hx hl g cR
  ·exact sF ih h n ps hx hl g hp
  ·exact sq ih h n ps hx hl g hp
theorem vT(p q:Addr)(w:World):
 CallsD Tryz.prog 32 #[.pointer (some p),.pointer (some q)] .returning w λe u' w'=>e = .returned (.tuple #[])/\u' = .returning/\w'=w:=by
 refine callsD_of_wpS Tryz.func32 rfl λc₀ cs hu=>?_;apply wpS_seq;apply wpS_region;simp [wpOpsS,go_sem,recoverD,hu,Tryz.ntmps32,Exit.thenS];refine wpS_of_wp ?_;go_wp2_with fail;cases c₀;simp_all [bodyPostS,results,Tryz.results32]
theorem rj(E F:Nat)(x:Int)(v0 v1:Value)(older:List PanicEntry)(w:World)(hE:w.cell? ⟨E,0,none⟩=some v0)(zE:w.frozen? ⟨E,0,none⟩=false)(hF:w.cell? ⟨F,0,none⟩=some v1)(zF:w.frozen? ⟨F,0,none⟩=false)(hne:E≠F):
 CallsD Tryz.prog 32 #[.pointer (some ⟨E,0,none⟩),.pointer (some ⟨F,0,none⟩)] (.panicking ({ v := .iface 80 (.int .i64 x),recovered:=false } :: older)) w λe u' w' =>
  e = .returned (.tuple #[])/\u' = .panicking ({ v := .iface 80 (.int .i64 x),recovered:=true } :: older)/\w'=((w.setCell ⟨E,0,none⟩ (.slice none 0 0)).setCell ⟨F,0,none⟩ (.iface 80 (.int .i64 x))):=by
 have hl:E<w.heap.size:=block_lt_of_cell hE;have hl2:F<w.heap.size:=block_lt_of_cell hF;have hne2:F≠E:=hne.symm;have hta:∀w,(Instr.typeAssert (.iface 80 (.int .i64 x)) 20 80 true).run Tryz.prog w = .ok (.tuple #[.int .i64 x,.bool true]) w:=λ_=>by kernel_rfl
 refine callsD_of_wpS Tryz.func32 rfl λc₀ cs hu=>?_;apply wpS_seq;apply wpS_region;simp [wpOpsS,go_sem,recoverD,hu,Tryz.ntmps32];refine wpS_of_wp ?_;go_wp2_with fail;cases c₀;simp [bodyPostS,results,Tryz.results32]
end Go.Proofs.YthidiimbeaabhaaGreatDoor
