/-
  Fields of types in a row of the call's own, and slices.SortFunc over them by ..
-/
import Derived.Shelf.SlSortCmp.NoneTotal
import Derived.Test.YthifljpkgfpkiaaGreatDoorQ25
import Derived.Test.YthifljpkgfpkiaaGreatDoorQ26
set_option maxRecDepth 100000
set_option maxHeartbeats 8000000
namespace Go.Proofs.YthifljpkgfpkiaaGreatDoor
open Go.RowKit Go.Wk Go.Sort Go.Shelf
instance:Inhabited Fe:=⟨⟨(⟨#[]⟩,false,.base 41),0,0,⟨#[]⟩,⟨#[]⟩,none,none,0,0⟩⟩
structure iq(w:World)(base:Nat)(D:Nat->Prop)(v:Value)(E:List Fe):Prop where
 own:w.ownsRow base 143 8 v E.length (jP E)
 ok:∀x∈E,KAt w (λb=>D b/\some b≠v.ownBlock) x.y.2.2 x.u
theorem iq.nil(w:World)(base:Nat)(D:Nat->Prop):iq w base D (.slice none 0 0) []:=⟨World.ownsRow_nil _ _ _ _,λ_ h=>nomatch h⟩
theorem iq.keepN{w w':World}{base:Nat}{D:Nat->Prop}{v:Value}{E:List Fe}(h:iq w base D v E)(hg:w.grownBy w' none):iq w' base D v E:=by
 refine⟨h.own.kept hg ?_,λx hx=>?_⟩
 ·rcases hv:v.ownBlock with _|k
  ·exact .inl rfl
  ·exact .inr (λe=>nomatch e)
 ·have h1:=((cX (w:=w) (B':=λb=>(D b/\some b≠v.ownBlock)/\b<w.heap.size) (λb hb hl=>⟨hb,hl⟩) _).1 _ _ (Nat.le_refl _) (h.ok x hx))
  have h2:=h1.cong (w':=w') λb hb=>hg.block b hb.2 (λe=>nomatch e);exact h2.mono λb hb _=>hb.1
theorem iq.keep{w w':World}{base:Nat}{D:Nat->Prop}{v:Value}{E:List Fe}{R:Nat}(h:iq w base D v E)(hg:w.grownBy w' (some R))(hR:R<base)(hD:¬D R):iq w' base D v E:=by
 refine⟨h.own.kept hg ?_,λx hx=>?_⟩
 ·rcases hv:v.ownBlock with _|k
  ·exact .inl rfl
  ·refine .inr λe=>?_;injection e with e;have:=(h.own.lt k hv).1;omega
 ·have h1:=((cX (w:=w) (B':=λb=>(D b/\some b≠v.ownBlock)/\b<w.heap.size) (λb hb hl=>⟨hb,hl⟩) _).1 _ _ (Nat.le_refl _) (h.ok x hx))
  have h2:=h1.cong (w':=w') λb hb=>hg.block b hb.2 (λe=>by injection e with e;subst e;exact hD hb.1.1);exact h2.mono λb hb _=>hb.1
theorem iq.fat{w:World}{base:Nat}{D:Nat->Prop}{v:Value}{E:List Fe}(h:iq w base D v E)(hD:∀b,base<=b->D b):∃A c,v = .slice A E.length c/\FAt w D A 0 (ofL (E.map Fe.y))/\E.length<=c/\c<=maxLen:=by
 obtain⟨h1,h2⟩:=h;have h0:=h1;rcases h1.2 with ⟨rfl,e0⟩|⟨g,cap,cur,rfl,hB,hh,hc,hm,Rk⟩
 ·have:E = []:=List.eq_nil_of_length_eq_zero e0;subst this;exact⟨none,0,rfl,trivial,Nat.le_refl _,Nat.zero_le _⟩
 ·refine⟨some ⟨g,0,none⟩,cap,rfl,?_,hc,hm⟩;exact i6 (B:=D) (a:=⟨g,0,none⟩) (hD g hB) [] E (by simpa using h0.cells (g:=g) rfl) λx hx=>(h2 x hx).mono λb hb _=>hb.1
theorem iq.snoc{w w':World}{base:Nat}{D:Nat->Prop}{v v':Value}{E:List Fe}{x:Fe}(h:iq w base D v E)(hx:KAt w (λb=>D b/\some b≠v.ownBlock) x.y.2.2 x.u)(hown:w'.ownsRow base 143 8 v' (E.length+1) (jP E ++ x.eight))(hg:w.grownBy w' v.ownBlock)
 (hb:v'.ownBlock=v.ownBlock\/v'.ownBlock=some w.heap.size):iq w' base D v' (E ++ [x]):=by
 refine⟨?_,λz hz=>?_⟩
 ·rw [lQ,List.length_append];exact hown
 ·have hz':KAt w (λb=>D b/\some b≠v.ownBlock) z.y.2.2 z.u:=by
   rcases List.mem_append.1 hz with hz|hz
   ·exact h.ok z hz
   ·simp only [List.mem_cons,List.not_mem_nil,or_false] at hz;subst hz;exact hx
  have h1:=(cX (w:=w) (B':=λb=>(D b/\some b≠v.ownBlock)/\b<w.heap.size) (λb hb hl=>⟨hb,hl⟩) _).1 _ _ (Nat.le_refl _) hz';have h2:=h1.cong (w':=w') λb hb=>hg.block b hb.2 (λe=>hb.1.2 (by rw [<-e]));refine h2.mono λb hb _=>⟨hb.1.1,?_⟩
  rcases ‹v'.ownBlock=v.ownBlock\/v'.ownBlock=some w.heap.size› with e|e
  ·rw [e];exact hb.1.2
  ·rw [e];intro q;injection q with q;have:=hb.2;omega
theorem cE{ops:Array Oper}{rest:List Oper}{o:Oper}{a:Act}{w:World}{Q:Exit->Act->World->Prop}(hgd:o.guard=none)(s x:Operand)
 (ho:o.op = .call { callee := .builtin .append,args:=#[s,x],argTypes:=#[79,79] })
 (base:Nat) (D:Nat->Prop) (v:Value) (E:List Fe) (hs:a.eval s=v) (hrow:iq w base D v E) (z:Fe) (ad:Addr) (m c:Nat) (hx:a.eval x = .slice (some ad) m c) (hm:m=1)
 (hnews:∀j u,z.eight[j]?=some u->w.cell? (ad.add j)=some u) (hz:KAt w (λb=>D b/\some b≠v.ownBlock) z.y.2.2 z.u) (hl:E.length<=1000000) (hbase:base<=w.heap.size)
 (h:∀v' w',iq w' base D v' (E ++ [z])->w.grownBy w' v.ownBlock->wpList Tryz.prog ops Q rest (a.put o.dst v') w'):wpList Tryz.prog ops Q (o :: rest) a w:=by
 subst hm;have hi:=Ij
 cases hq:Tryz.prog.info? 143 with
 | none=>rw [hq] at hi;cases hi
 | some i0 =>
  rw [hq] at hi
  simp only [Option.map_some,Option.some.injEq,Prod.mk.injEq] at hi
  refine wpList_append_own_at w hgd s x _ ho base _ i0 _ 8 104 Tryz.underlying79 hq hi.1 hi.2.1 hi.2.2 (by decide) (by decide) v E.length (jP E) hs hrow.own ad 1 c z.eight hx rfl hnews ?_ (by unfold maxLen;omega) (by omega) hbase ?_
  ·intro u hu
   have:=gB [z] u (by simpa [jP,Fe.eight,Fe.u] using hu);exact this
  ·intro v' w' h1 h2 _ h4
   exact h v' w' (hrow.snoc hz h1 h2 h4) h2
theorem JO{w:World}{g n:Nat}{os:Array Obj}{cur:Array Value}{e:TypeId}{fr:Nat × Nat}(d:Array Value)(hb:w.heap[g]?=some (.cells cur e fr)):
 (grow (putRow id (Sort.ahead w n) g 0 d) os).heap[g]?=some (.cells (putCells id 0 d cur) e fr):=by
 have hg:g<w.heap.size:=(Array.getElem?_eq_some_iff.1 hb).1;rw [heap_grow_old _ _ (by simpa using hg)];simp [putRow,mapBlock,Sort.ahead,Array.getElem?_modify,hb,onCells]
theorem FS{w:World}{g n:Nat}{os:Array Obj}(d:Array Value):w.grownBy (grow (putRow id (Sort.ahead w n) g 0 d) os) (some g):=by
 refine⟨rfl,rfl,rfl,by simp,λk hk hne=>?_⟩;rw [heap_grow_old _ _ (by simpa using hk)];have:g≠k:=λe=>hne (by rw [e]);simp [putRow,mapBlock,Sort.ahead,Array.getElem?_modify,this]
theorem J3(cur:Array Value)(ts:List Value)(h:ts.length<=cur.size):(putCells id 0 ts.toArray cur).toList.take ts.length=ts:=by
 apply List.ext_getElem?;intro j;by_cases hj:j<ts.length
 ·rw [List.getElem?_take_of_lt hj,Array.getElem?_toList];simp [putCells,hj,show j<cur.size by omega]
 ·rw [List.getElem?_take_eq_none (by omega),List.getElem?_eq_none (by omega)]
theorem Gw{w:World}{g:Nat}{cur:Array Value}{e:TypeId}{ts:List Value}(hb:w.heap[g]?=some (.cells cur e (0,0)))(ht:cur.toList.take ts.length=ts):Holds id w g 0 ts.toArray:=by
 intro j hj;have hj':j<ts.length:=by simpa using hj
 refine⟨?_,by simp [World.frozen?,hb]⟩;have h1:(cur.toList.take ts.length)[j]?=ts[j]?:=by rw [ht]
 rw [List.getElem?_take_of_lt hj'] at h1;simp only [World.cell?,hb,Nat.zero_add];simp only [Option.isSome_none,Bool.false_eq_true,if_false];rw [<-Array.getElem?_toList,h1];simp [hj']
theorem LQ(x:Fe):x.eight.length=8:=rfl
theorem DD(d:Array Fe):flatK Fe.eight 8 d=(jP d.toList).toArray:=ext_get! (by simp) λt ht=>by
 have h:t<d.size*8:=by simpa using ht
 rw [get_flatK _ _ _ _ h];have hk:t / 8<d.size:=by omega
 have hj:t % 8<(d[t / 8]'hk).eight.length:=by rw [LQ];omega
 have:=ot d.toList (t / 8) (d[t / 8]'hk) (by simp [hk]) (t % 8) _ (List.getElem?_eq_getElem hj);rw [show t / 8*8+t % 8=t by omega] at this;rw [getElem!_pos d (t / 8) hk,getElem!_pos _ (t % 8) hj];simp [this]
def cfF(x y:Fe):Int:=js x.y.1 y.y.1
theorem SD:SWO (ltOf cfF) where
 irrefl x:=by unfold ltOf cfF;rw [zw.self];rfl
 trans x y z h1 h2:=by
  unfold ltOf cfF at *;simp only [decide_eq_true_eq] at *;exact zw.lt_le h1 (by omega)
 ntrans x y z h1 h2:=by
  unfold ltOf cfF at *;simp only [decide_eq_false_iff_not] at *;have a1:=zw.anti x.y.1 y.y.1;have a2:=zw.anti y.y.1 z.y.1;have a3:=zw.anti x.y.1 z.y.1;have:=zw.trans z.y.1 y.y.1 x.y.1 (by omega) (by omega);omega
theorem Ni(x y:Fe)(w:World):
 Calls Tryz.prog 119 #[.agg x.eight.toArray,.agg y.eight.toArray] w λe w'=>e = .returned (.int .i64 (cfF x y))/\lr w w':=by
 obtain⟨⟨n1,m1,k1⟩,o1,i1,s1,t1,p1,A1,l1,c1⟩:=x;obtain⟨⟨n2,m2,k2⟩,o2,i2,s2,t2,p2,A2,l2,c2⟩:=y;change Calls Tryz.prog 119 #[.agg #[.string n1,.bool m1,.int .i64 o1,.int .i64 i1,.string s1,.string t1,.pointer p1,.slice A1 l1 c1],.agg #[.string n2,.bool m2,.int .i64 o2,.int .i64 i2,.string s2,.string t2,.pointer p2,.slice A2 l2 c2]] w λe w'=>e = .returned (.int .i64 (js n1 n2))/\lr w w';go_enter Tryz.func119,Tryz.ntmps119;go_wp2_with fail;refine(strings_Compare n1 n2 _).mono ?_;rintro e w1 ⟨rfl,rfl⟩;go_wp2_with fail;go_ret;exact⟨rfl,(((Below.refl _ _).alloc (Nat.le_refl _) _).alloc (by simp) _),Nat.le_refl _⟩
theorem Xy(w:World)(g size:Nat):CmpLays Tryz.prog 119 #[] Fe.eight 8 cfF g 0 size w:=by
 intro m os dk _ x y;exact(Ni x y _).mono λe w' ⟨h1,h2⟩=>⟨h1,h2.grow⟩
def TL(w:World)(base:Nat)(D:Nat->Prop)(v:Value)(E:List Fe)(e:Ending)(w':World):Prop :=
 e = .returned (.tuple #[])/\∃E':List Fe,E'.Perm E/\(E'.Pairwise λa b=>js a.y.1 b.y.1<=0)/\iq w' base D v E'/\w.grownBy w' v.ownBlock
theorem Hb(w:World)(p:Option Addr)(cap:Nat)(fv:Value):
 Calls Tryz.prog 118 #[.slice p 0 cap,fv] w λe w'=>e = .returned (.tuple #[])/\w'=w:=by
 have hcon:=AnyF.slices_SortFunc_none { Tryz.sortK with } p cap fv w;change Calls Tryz.prog 118 _ _ _ at hcon;exact hcon
theorem PL(w:World)(base:Nat)(D:Nat->Prop)(v:Value)(E:List Fe)(h:iq w base D v E)(hs:E.length<=1000000):
 Calls Tryz.prog 118 #[v,.func (.func 119) #[] #[]] w (TL w base D v E):=by
 rcases h.own.2 with ⟨rfl,h0⟩|⟨g,cap,cur,rfl,UH,hh,h1,h2,h3,h4⟩
 ·have:E = []:=List.eq_nil_of_length_eq_zero h0;subst this;exact(Hb w none 0 _).mono λe w' ⟨h1,h2⟩=>⟨h1,[],List.Perm.refl _,List.Pairwise.nil,by rw [h2];exact h,by rw [h2];exact World.grownBy.refl _ _⟩
 ·have hH:HoldsK Fe.eight 8 w g 0 E.toArray:=by
   unfold HoldsK;rw [DD];exact Gw hh (by rw [fP];exact h4)
  have eg:∀args w,(callFunc 119 args).run Tryz.prog w = .ok (.enter 119 args) w:=enters_of Tryz.func119 (by kernel_rfl) rfl;have hcon:=AnyQ.slices_SortFunc Tryz.sortK 8 Tryz.isAgg143 Tryz.sizeOf143 Fe.eight (λ_=>rfl) (λx v hv=>gB [x] v (by simpa [jP,Fe.eight,Fe.u] using hv)) cfF SD 119 #[] g 0 cap E.toArray w eg (Xy w g _) hH (Array.getElem?_eq_some_iff.1 hh).1 (by simp;omega);change Calls Tryz.prog 118 _ _ _ at hcon;have hsz:E.toArray.size=E.length:=by simp
  rw [hsz] at hcon;refine hcon.mono ?_;rintro e w' ⟨he,d',n,os,⟨eY,-,qn⟩,WX,rfl⟩;have hlen:d'.size=E.length:=by rw [eY,hsz]
  have FH:d'.toList.Perm E:=by
   rw [<-hlen] at qn;have e1:E.toArray.extract 0 d'.size=E.toArray:=by rw [hlen,<-hsz];exact Array.extract_size
   rw [Array.extract_size,e1] at qn;exact qn
  have hL:d'.toList.length=E.length:=by simpa using hlen
  have hg:w.grownBy (sortWorldK Fe.eight 8 w g 0 n d' os) (some g):=by
   unfold sortWorldK putRowK;exact FS _
  refine⟨he,d'.toList,FH,?_,⟨?_,λx hx=>?_⟩,hg⟩
  ·rw [List.pairwise_iff_getElem];intro i j hi hj hij;have hi':i<d'.size:=by simpa using hi
   have hj':j<d'.size:=by simpa using hj
   have:=WX i j (Nat.zero_le _) hij (by omega);rw [getElem!_pos d' j hj',getElem!_pos d' i hi'] at this;unfold ltOf cfF at this;have this:=of_decide_eq_false this;have a:=zw.anti d'[i].y.1 d'[j].y.1;simp only [Array.getElem_toList];omega
  ·unfold sortWorldK putRowK;rw [DD];refine⟨by simp [hlen],.inr ⟨g,cap,_,by rw [hL],UH,JO _ hh,by rw [hL];exact h1,h2,by simp [putCells,h3],?_⟩⟩;have:=J3 cur (jP d'.toList) (by rw [fP,hL,h3];exact Nat.mul_le_mul_right _ h1);rw [fP] at this;exact this
  ·have XU:=h.ok x (FH.mem_iff.1 hx);have h1:=(cX (w:=w) (B':=λb=>(D b/\some b≠(Value.slice (some ⟨g,0,none⟩) E.length cap).ownBlock)/\b<w.heap.size) (λb hb hl=>⟨hb,hl⟩) _).1 _ _ (Nat.le_refl _) XU;have h2:=h1.cong (w':=sortWorldK Fe.eight 8 w g 0 n d' os) λb hb=>hg.block b hb.2 (λe=>hb.1.2 e);exact h2.mono λb hb _=>hb.1
end Go.Proofs.YthifljpkgfpkiaaGreatDoor
namespace Go.Proofs.YthifljpkgfpkiaaGreatDoor
open Go.RowKit Go.Wk Go.Sort
theorem Bx6.set5{w:World}{b:Nat}{x0 x1 x2 x3 x4 x5:Value}(h:Bx6 w b x0 x1 x2 x3 x4 x5)(y:Value):Bx6 (w.setCell ⟨b,5,none⟩ y) b x0 x1 x2 x3 x4 y:=by
 obtain⟨c0,c1,c2,c3,c4,c5,z0,z1,z2,z3,z4,z5⟩:=h;refine⟨?_,?_,?_,?_,?_,?_,?_,?_,?_,?_,?_,?_⟩
 all_goals go_simp
structure KLp(w wr:World)(R b1:Nat)(x:Nd)(E:List Fe)(Q:List Nd)(v:Value):Prop where
 K:Bx6 wr b1 (.int .i64 46) (.int .i64 x.n) (.string x.s) (.string x.t) (.pointer none) v
 F:ie wr (b1+2) v E
 N:Bx4 wr (b1+1) (.int .i64 46) (.int .i64 x.n) (.string ⟨#[]⟩) (.string ⟨#[]⟩)
 X:Bx6 wr w.heap.size (.int .i64 0) (.int .i64 0) (.string ⟨#[]⟩) (.string ⟨#[]⟩) (.pointer none) (.slice none 0 0)
 D:RdK wr R Q
 G:w.grownBy wr (some R)
 z:b1+2<=wr.heap.size
def Qu(m c:Nat)(r:List Nd)(k:Nat)(last:ByteArray)(E:List Fe)(Q:List Nd):Prop :=
 jS m c emp r=(match jS m (c-k) last Q with|none=>none|some (f,r')=>some (yQ (E.map Fe.y) f,r'))/\E.length+Q.length<=r.length
theorem O0(R m:Nat)(ih:Jb R m)(UJ:m<=1000)(x:Nd)(r:List Nd)(hl:r.length<=m)(w:World)(h:RdK w R (x :: r))(hb:x.op=46):
 Calls Tryz.prog 67 #[.pointer (some ⟨R,0,none⟩)] w (fR w R (zT (m+1) (x :: r))):=by
 have HR:=O h;have mX:=O (show zT (m+1) (x :: r)=(match jS m x.n.toNat emp r with|none=>none|some (p,r')=>if 0<=x.n/\x.s=emp/\x.t=emp then some (.fs p,r') else none) by simp only [zT,if_neg (uE (.inr (.inr hb))),if_neg (show¬x.op=44 by omega),if_neg (show¬x.op=45 by omega),if_pos hb];rfl);generalize zT (m+1) (x :: r)=PP at *;clear h;go_enter Tryz.func67,Tryz.ntmps67;go_wp2_with fail;have G0:=O (zc (za w (.cells #[.int .i64 0,.int .i64 0,.string ⟨#[]⟩,.string ⟨#[]⟩,.pointer none,.slice none 0 0] 81)) (some R));have X0:=O (jf w (.int .i64 0) (.int .i64 0) (.string ⟨#[]⟩) (.string ⟨#[]⟩) (.pointer none) (.slice none 0 0) 81);have R0:=O (HR.o.keep (za w (.cells #[.int .i64 0,.int .i64 0,.string ⟨#[]⟩,.string ⟨#[]⟩,.pointer none,.slice none 0 0] 81)));have sO:=O (show R<w.heap.size by obtain⟨⟨_,_,_,h1,_⟩,_⟩:=HR.o;exact block_lt_of_cell h1);have BO:=O (show some w.heap.size≠some R from λe=>by injection e with e;have:=sO.o;omega);obtain⟨w0,hw0⟩:∃w0,w.alloc (.cells #[.int .i64 0,.int .i64 0,.string ⟨#[]⟩,.string ⟨#[]⟩,.pointer none,.slice none 0 0] 81)=w0:=⟨_,rfl⟩
 have rJ:=O (show w.heap.size<=w0.heap.size by rw [<-hw0];simp);rw [hw0] at G0 X0 R0 ⊢;clear hw0 HR;refine(dY R (x :: r) w0 R0.o).mono ?_;rintro e w1 ⟨rfl,r1,g1⟩;have G1:=O (G0.o.trans g1);have X1:=O (X0.o.but g1 BO.o);have R1:=O r1;have IG:=O (show lk x by obtain⟨⟨_,_,_,_,h2,_⟩,_⟩:=R0.o;exact h2.ok x (by simp));have hxn:x.n<=9223372036854775807:=IG.o.hi;have sd:=O (Nat.le_trans rJ.o g1.size);clear r1 g1 G0 X0 R0 rJ;unfold ndV;have hl:w.heap.size<w1.heap.size:=block_lt_of_cell X1.o.c0;have Xj:=O (show Qu m x.n.toNat r 0 ⟨#[]⟩ [] r from⟨by
  show _=(match jS m x.n.toNat emp r with|none=>none|some (f,r')=>some (yQ [] f,r'))
  rcases jS m x.n.toNat emp r with _|⟨f,r'⟩
  ·rfl
  ·simp only [Pk],by simp⟩)
 rw [hb];clear hb;have B2:=(za w1 (.cells #[.int .i64 46,.int .i64 x.n,.string x.s,.string x.t,.pointer none,.slice none 0 0] 81)).trans ((za _ (.cells #[.int .i64 46,.int .i64 x.n,.string ⟨#[]⟩,.string ⟨#[]⟩] 47)).mono (by simp));have hsz:(w1.alloc (.cells #[.int .i64 46,.int .i64 x.n,.string x.s,.string x.t,.pointer none,.slice none 0 0] 81)).heap.size=w1.heap.size+1:=by simp
 have K2:=(jf w1 (.int .i64 46) (.int .i64 x.n) (.string x.s) (.string x.t) (.pointer none) (.slice none 0 0) 81).keep (za _ (.cells #[.int .i64 46,.int .i64 x.n,.string ⟨#[]⟩,.string ⟨#[]⟩] 47));have N2:=fq (w1.alloc (.cells #[.int .i64 46,.int .i64 x.n,.string x.s,.string x.t,.pointer none,.slice none 0 0] 81)) (.int .i64 46) (.int .i64 x.n) (.string ⟨#[]⟩) (.string ⟨#[]⟩) 47;rw [hsz] at N2;have hz2:((w1.alloc (.cells #[.int .i64 46,.int .i64 x.n,.string x.s,.string x.t,.pointer none,.slice none 0 0] 81)).alloc (.cells #[.int .i64 46,.int .i64 x.n,.string ⟨#[]⟩,.string ⟨#[]⟩] 47)).heap.size=w1.heap.size+2:=by simp
 go_wp2_with fail;obtain⟨w2,hw2⟩:∃w2,(w1.alloc (.cells #[.int .i64 46,.int .i64 x.n,.string x.s,.string x.t,.pointer none,.slice none 0 0] 81)).alloc (.cells #[.int .i64 46,.int .i64 x.n,.string ⟨#[]⟩,.string ⟨#[]⟩] 47)=w2:=⟨_,rfl⟩
 rw [hw2] at B2 K2 N2 hz2 ⊢;have LP:=O (show KLp w w2 R w1.heap.size x [] r (.slice none 0 0) from⟨K2,ie.nil _ _,N2,X1.o.keep B2,R1.o.keep B2,zf G1.o (zc B2 (some R)),by omega⟩);clear hw2 hsz B2 K2 N2 X1 R1 G1 hz2;obtain⟨b1,hb1⟩:∃b1,b1=w1.heap.size:=⟨_,rfl⟩
 rw [<-hb1] at hl LP ⊢;clear hb1 sd;go_loopw [6,53] (λl i wr=>∃(k:Nat) (last:ByteArray) (E:List Fe) (Q:List Nd) (v:Value),i = .int .i64 k/\l = .string last/\k<=x.n.toNat/\Hid (Qu m x.n.toNat r k last E Q)/\Hid (KLp w wr R b1 x E Q v)) (λ_ i _=>x.n.toNat-(intOf i).toNat)
 case atStart=>exact⟨0,_,[],r,_,rfl,rfl,Nat.zero_le _,Xj,LP⟩
 case round =>
  clear Xj LP;obtain⟨k,last,E,Q,v,rfl,rfl,hk,hL,hP⟩:=hrel;obtain⟨k0,k1,k2,k3,k4,k5,y0,y1,y2,y3,y4,y5⟩:=hP.o.K;obtain⟨n0,n1,n2,n3,-,-,-,-⟩:=hP.o.N;obtain⟨c0,c1,c2,c3,c4,c5,z0,z1,z2,z3,z4,z5⟩:=hP.o.X;have HO:=O (λg (hg:v.ownBlock=some g)=>hP.o.F.own.lt g hg);have HRb:=O (show R<b1 from Nat.lt_trans sO.o hl);by_cases hlt:k<x.n.toNat
  ·have ln:decide ((k:Int)<x.n)=true:=decide_eq_true (by omega);have hlen:=hL.o.2;go_wp2_with fail;refine(Hk R m ih last Q wr hP.o.D (by omega)).mono ?_;intro e w4 zX;have hst:=DJ (m:=m) (c:=x.n.toNat-k-1) (x:=last) (Q:=Q) (by omega);rw [show x.n.toNat-k-1+1=x.n.toNat-k by omega] at hst;have HST:=O hst;clear hst;rcases h1:i9 m last Q with _|⟨s,b,kk,r'⟩
   ·rw [h1] at zX;obtain⟨rfl,g4⟩:=zX;have HP:=O (show PP=none by rw [mX.o,hL.o.1,HST.o,h1]);go_wp2_with fail;exact⟨rfl,by rw [HP.o];exact⟨rfl,zf hP.o.G g4⟩⟩
   ·rw [h1] at zX;obtain⟨u,rfl,mg,hrd,g4⟩:=zX;obtain⟨o,n,s0,t0,pp,A,m0,cc,rfl⟩:=iI mg;have Fy:=O (show Qu m x.n.toNat r (k+1) s (E ++ [⟨(s,b,kk),o,n,s0,t0,pp,A,m0,cc⟩]) r' from⟨by
     rw [hL.o.1,HST.o,h1,List.map_append]
     simp only [List.map_cons,List.map_nil]
     rw [show x.n.toNat-(k+1)=x.n.toNat-k-1 by omega]
     rcases jS m (x.n.toNat-k-1) s r' with _|⟨f,r''⟩
     ·rfl
     ·simp only [LW],by have:=vd h1;rw [List.length_append];simp only [List.length_cons,List.length_nil];omega⟩)
    clear HST hL h1 k0 k1 k2 k3 k4 k5 y0 y1 y2 y3 y4 y5 n0 n1 n2 n3 c0 c1 c2 c3 c4 c5 z0 z1 z2 z3 z4 z5;have hz4:b1+2<=w4.heap.size:=Nat.le_trans hP.o.z g4.size;have hsr:=g4.size;have hzr:=hP.o.z;have K4:=hP.o.K.but g4 (λe=>by injection e with e;have:=HRb.o;omega);have N4:=hP.o.N.but g4 (λe=>by injection e with e;have:=HRb.o;omega);have X4:=hP.o.X.but g4 BO.o;have F4:=hP.o.F.keep g4 (by have:=HRb.o;omega);have G4:=zf hP.o.G g4;have hk4:=mg.mono (B':=λg=>wr.heap.size<=g/\g<w4.heap.size) λb h1 h2=>⟨h1,h2⟩
    have Ba:=za w4 (.cells #[.string s,.bool b,.int .i64 o,.int .i64 n,.string s0,.string t0,.pointer pp,.slice A m0 cc] 143);have Bb:=za (w4.alloc (.cells #[.string s,.bool b,.int .i64 o,.int .i64 n,.string s0,.string t0,.pointer pp,.slice A m0 cc] 143)) (.cells #[.string s,.bool b,.int .i64 o,.int .i64 n,.string s0,.string t0,.pointer pp,.slice A m0 cc] 143);have Bab:=Ba.trans (Bb.mono (by simp));have hsa:(w4.alloc (.cells #[.string s,.bool b,.int .i64 o,.int .i64 n,.string s0,.string t0,.pointer pp,.slice A m0 cc] 143)).heap.size=w4.heap.size+1:=by simp
    have hsb:((w4.alloc (.cells #[.string s,.bool b,.int .i64 o,.int .i64 n,.string s0,.string t0,.pointer pp,.slice A m0 cc] 143)).alloc (.cells #[.string s,.bool b,.int .i64 o,.int .i64 n,.string s0,.string t0,.pointer pp,.slice A m0 cc] 143)).heap.size=w4.heap.size+2:=by simp
    have rn:=eW (w4.alloc (.cells #[.string s,.bool b,.int .i64 o,.int .i64 n,.string s0,.string t0,.pointer pp,.slice A m0 cc] 143)) [.string s,.bool b,.int .i64 o,.int .i64 n,.string s0,.string t0,.pointer pp,.slice A m0 cc] 143;rw [hsa] at rn;have K5:=O (K4.keep Bab);have N5:=O (N4.keep Bab);have X5:=O (X4.keep Bab);have D5:=O (hrd.keep Bab);have F5:=O (F4.keepN (zc Bab none));have G5:=O (zf G4 (zc Bab (some R)));have RN:=O rn;have Yq:=O hsb;have KK:=O (show KAt ((w4.alloc (.cells #[.string s,.bool b,.int .i64 o,.int .i64 n,.string s0,.string t0,.pointer pp,.slice A m0 cc] 143)).alloc (.cells #[.string s,.bool b,.int .i64 o,.int .i64 n,.string s0,.string t0,.pointer pp,.slice A m0 cc] 143)) (λg=>b1+2<=g/\some g≠v.ownBlock) kk [.int .i64 o,.int .i64 n,.string s0,.string t0,.pointer pp,.slice A m0 cc] from
     (hk4.cong λg hg=>Bab.block g hg.2).mono λg hg _=>⟨by have:=hg.1;omega,λe=>by have:=(HO.o g e.symm).2;have:=hg.1;omega⟩)
    have HE:=O (show E.length<=1000000 by omega);have hz5:b1<w4.heap.size:=by omega
    clear N4 X4 F4 G4 hk4 Ba Bb Bab hsa hsb rn mg hrd g4 hP hz4 hsr hlen;obtain⟨k0,k1,k2,k3,k4,k5,y0,y1,y2,y3,y4,y5⟩:=K4;go_wp2_with (at_builtin;refine qG rfl _ _ rfl (b1+2) v E rfl F5.o ⟨(s,b,kk),o,n,s0,t0,pp,A,m0,cc⟩ ⟨w4.heap.size+1,0,none⟩ 1 1 rfl rfl RN.o KK.o HE.o ?c1 ?_)
    case c1=>rw [Yq.o];omega
    intro v' w6 hrow hg;have hgo:∀g,v.ownBlock=some g->b1+2<=g:=λg hg=>(HO.o g hg).1;have K6:=O (K5.o.but hg (λe=>by have:=hgo _ e.symm;omega));have N6:=O (N5.o.but hg (λe=>by have:=hgo _ e.symm;omega));have X6:=O (X5.o.but hg (λe=>by have:=hgo _ e.symm;omega));have D6:=O (show RdK w6 R r' from by
     rcases hv:v.ownBlock with _|g
     ·rw [hv] at hg
      exact D5.o.but (b:=w6.heap.size+b1) ⟨hg.os,hg.tape,hg.output,hg.size,λi hi _=>hg.block i hi (λe=>nomatch e)⟩ (by have:=HRb.o;omega)
     ·rw [hv] at hg
      exact D5.o.but hg (by have:=hgo g hv;have:=HRb.o;omega))
    have G6:=O (show w.grownBy w6 (some R) from by
     rcases hv:v.ownBlock with _|g
     ·rw [hv] at hg
      exact zf G5.o ⟨hg.os,hg.tape,hg.output,hg.size,λi hi _=>hg.block i hi (λe=>nomatch e)⟩
     ·rw [hv] at hg
      exact jQ G5.o hg (by have:=hgo g hv;omega))
    have F6:=O hrow;have HZ6:=O (show b1+2<=w6.heap.size by have:=hg.size;rw [Yq.o] at this;omega);clear K5 N5 X5 D5 F5 G5 hg hrow k0 k1 k2 k3 k4 k5 y0 y1 y2 y3 y4 y5;obtain⟨k0,k1,k2,k3,k4,k5,y0,y1,y2,y3,y4,y5⟩:=K6.o;obtain⟨A',cp',hv',-,-,-⟩:=F6.o.fat;obtain⟨nl,qX⟩:∃nl,nl=(E ++ [(⟨(s,b,kk),o,n,s0,t0,pp,A,m0,cc⟩:Fe)]).length:=⟨_,rfl⟩
    rw [<-qX] at hv';subst hv';clear qX hgo;go_wp2_with fail;go_roundw
    case rel =>
     have gs:w6.grownBy (w6.setCell ⟨b1,5,none⟩ (.slice A' nl cp')) (some b1):=zl w6 ⟨b1,5,none⟩ (.slice A' nl cp');exact⟨k+1,s,E ++ [⟨(s,b,kk),o,n,s0,t0,pp,A,m0,cc⟩],r',_,by go_num,rfl,by omega,Fy,O ⟨K6.o.set5 _,F6.o.keep gs (by omega),N6.o.but gs (λe=>by injection e with e;omega),X6.o.but gs (λe=>by injection e with e;omega),D6.o.but gs HRb.o,jQ G6.o gs (by omega),by simpa [World.setCell] using HZ6.o⟩⟩
    case measure=>simp [intOf];omega
  ·have ln:decide ((k:Int)<x.n)=false:=decide_eq_false (by omega);have hkc:x.n.toNat-k=0:=by omega
   have UL:=O (show PP=if 0<=x.n/\x.s=emp/\x.t=emp then some (.fs (ofL (E.map Fe.y)),Q) else none by
    rw [mX.o,hL.o.1,hkc,<-QO]
    cases m <;> rfl)
   obtain⟨A,cp,hv,BM,hle,hcm⟩:=hP.o.F.fat;have WN:=O BM;have MV:=O hle;have Yd:=O hcm;obtain⟨nl,qX⟩:∃nl,nl=E.length:=⟨_,rfl⟩
   have MR:=O qX;rw [<-qX] at hv;subst hv;have X3:=O hP.o.X;have G3:=O hP.o.G;have D3:=O hP.o.D;have HZ:=O hP.o.z;clear qX BM hle hcm hkc mX hL hP ih HO;rcases oz x.s with hs|⟨hs,s1,s2⟩
   ·rcases oz x.t with ht|⟨ht,t1,t2⟩
    ·by_cases hn:0<=x.n
     ·have HP:=O (show PP=some (.fs (ofL (E.map Fe.y)),Q) by rw [UL.o,if_pos ⟨hn,hs,ht⟩]);have hn2:decide (x.n<0)=false:=decide_eq_false (by omega);rw [hs] at k2;rw [ht] at k3;clear hs ht UL;go_wp2_with fail;have Y:=X3.o.set (.int .i64 46) (.int .i64 x.n) (.string ⟨#[]⟩) (.string ⟨#[]⟩) (.pointer none) (.slice A nl cp);have gs:=jI wr w.heap.size (.int .i64 46) (.int .i64 x.n) (.string ⟨#[]⟩) (.string ⟨#[]⟩) (.pointer none) (.slice A nl cp);have R4:=D3.o.but gs sO.o;have G4:=jQ G3.o gs (Nat.le_refl _);have K4:=WN.o.cong (w':=((((((wr.setCell ⟨w.heap.size,0,none⟩ (.int .i64 46)).setCell ⟨w.heap.size,1,none⟩ (.int .i64 x.n)).setCell ⟨w.heap.size,2,none⟩ (.string ⟨#[]⟩)).setCell ⟨w.heap.size,3,none⟩ (.string ⟨#[]⟩)).setCell ⟨w.heap.size,4,none⟩ (.pointer none)).setCell ⟨w.heap.size,5,none⟩ (.slice A nl cp))) λb hb=>ae wr w.heap.size (.int .i64 46) (.int .i64 x.n) (.string ⟨#[]⟩) (.string ⟨#[]⟩) (.pointer none) (.slice A nl cp) (by omega);obtain⟨S,hS⟩:∃S,((((((wr.setCell ⟨w.heap.size,0,none⟩ (.int .i64 46)).setCell ⟨w.heap.size,1,none⟩ (.int .i64 x.n)).setCell ⟨w.heap.size,2,none⟩ (.string ⟨#[]⟩)).setCell ⟨w.heap.size,3,none⟩ (.string ⟨#[]⟩)).setCell ⟨w.heap.size,4,none⟩ (.pointer none)).setCell ⟨w.heap.size,5,none⟩ (.slice A nl cp))=S:=⟨_,rfl⟩
      rw [hS] at Y gs R4 G4 K4 ⊢;clear hS gs;obtain⟨j0,j1,j2,j3,j4,j5,-,-,-,-,-,-⟩:=Y;refine bodyPost_ret (v := .agg #[.int .i64 46,.int .i64 x.n,.string ⟨#[]⟩,.string ⟨#[]⟩,.pointer none,.slice A nl cp]) (by simp [results,Tryz.results67,go_sem,j0,j1,j2,j3,j4,j5]) rfl ?_;rw [HP.o];have hlen:(ofL (E.map Fe.y)).len=nl:=by rw [so,List.length_map,MR.o]
      refine⟨[.int .i64 46,.int .i64 x.n,.string ⟨#[]⟩,.string ⟨#[]⟩,.pointer none,.slice A nl cp],rfl,⟨x.n,A,cp,by rw [hlen];rfl,by rw [hlen,MR.o];exact MV.o,Yd.o,?_⟩,R4,G4⟩;exact K4.mono λb hb _=>by omega
     ·have HP:=O (show PP=none by rw [UL.o,if_neg (λh=>hn h.1)]);have hn2:decide (x.n<0)=true:=decide_eq_true (by omega);rw [hs] at k2;rw [ht] at k3;clear hs ht UL hn;go_wp2_with fail;exact⟨rfl,by rw [HP.o];exact⟨rfl,G3.o⟩⟩
    ·have HP:=O (show PP=none by rw [UL.o,if_neg (λh=>ht h.2.2)]);rw [hs] at k2;clear hs ht UL;go_wp2_with fail;exact⟨rfl,by rw [HP.o];exact⟨rfl,G3.o⟩⟩
   ·have HP:=O (show PP=none by rw [UL.o,if_neg (λh=>hs h.2.1)]);clear hs UL;go_wp2_with fail;exact⟨rfl,by rw [HP.o];exact⟨rfl,G3.o⟩⟩
theorem DL(R:Nat):∀m:Nat,m<=1000->Jb R m
 | 0,_=>λQ w h hl=>by
  have:Q = []:=List.eq_nil_of_length_eq_zero (by omega);subst this;exact Ek R 0 w h
 | m+1,hm=>λQ w h hl=>by
  have ih:=DL R m (by omega)
  cases Q with
  | nil=>exact Ek R _ w h
  | cons x r =>
   have hl':r.length<=m:=by simpa using hl
   by_cases hb:ah x.op
   ·exact Lp R m x r w h hb
   by_cases h4:x.op=44
   ·exact Np R m x r w h h4
   by_cases h5:x.op=45
   ·exact Qq R m ih x r hl' w h h5
   by_cases h6:x.op=46
   ·exact O0 R m ih (by omega) x r hl' w h h6
   exact L' R m x r w h hb h4 h5 h6
theorem yf(p q:Addr)(w:World):
 CallsD Tryz.prog 66 #[.pointer (some p),.pointer (some q)] .returning w λe u' w'=>e = .returned (.tuple #[])/\u' = .returning/\w'=w:=by
 refine callsD_of_wpS Tryz.func66 rfl λc₀ cs hu=>?_;apply wpS_seq;apply wpS_region;simp [wpOpsS,go_sem,recoverD,hu,Tryz.ntmps66,Exit.thenS];refine wpS_of_wp ?_;go_wp2_with fail;cases c₀;simp_all [bodyPostS,results,Tryz.results66]
theorem Ch(E F:Nat)(x0 x1 x2 x3 x4 x5 v:Value)(older:List PanicEntry)(w:World)(h:Bx6 w E x0 x1 x2 x3 x4 x5)(hF:w.cell? ⟨F,0,none⟩=some v)(zF:w.frozen? ⟨F,0,none⟩=false)(hne:E≠F):
 CallsD Tryz.prog 66 #[.pointer (some ⟨E,0,none⟩),.pointer (some ⟨F,0,none⟩)] (.panicking ({ v := .iface 131 (.agg #[]),recovered:=false } :: older)) w λe u' w' =>
  e = .returned (.tuple #[])/\u' = .panicking ({ v := .iface 131 (.agg #[]),recovered:=true } :: older)/\w'=(((((((w.setCell ⟨E,0,none⟩ (.int .i64 0)).setCell ⟨E,1,none⟩ (.int .i64 0)).setCell ⟨E,2,none⟩ (.string ⟨#[]⟩)).setCell ⟨E,3,none⟩ (.string ⟨#[]⟩)).setCell ⟨E,4,none⟩ (.pointer none)).setCell ⟨E,5,none⟩ (.slice none 0 0)).setCell ⟨F,0,none⟩ (.iface 41 (.int .i64 1))).alloc (.cells #[] 131):=by
 have hl:E<w.heap.size:=block_lt_of_cell h.c0;have hl2:F<w.heap.size:=block_lt_of_cell hF;have hne2:F≠E:=hne.symm;obtain⟨c0,c1,c2,c3,c4,c5,z0,z1,z2,z3,z4,z5⟩:=h;have Z7:∀w,(Instr.typeAssert (.iface 131 (.agg #[])) 20 131 true).run Tryz.prog w = .ok (.tuple #[.agg #[],.bool true]) w:=λ_=>by kernel_rfl
 refine callsD_of_wpS Tryz.func66 rfl λc₀ cs hu=>?_;apply wpS_seq;apply wpS_region;simp [wpOpsS,go_sem,recoverD,hu,Tryz.ntmps66];refine wpS_of_wp ?_;go_wp2_with fail;cases c₀;simp [bodyPostS,results,Tryz.results66]
def sT(w:World)(P:List Nd)(e:Ending)(w':World):Prop :=
 Below w.heap.size w w'/\∃(o n:Int) (s t:ByteArray) (p A:Option Addr) (m c:Nat),e = .returned (.tuple #[.agg #[.int .i64 o,.int .i64 n,.string s,.string t,.pointer p,.slice A m c],je (zK P)])/\
  (zK P=0->∃k,k.valid/\P=k.flat/\KAt w' (λb=>w.heap.size<=b) k [.int .i64 o,.int .i64 n,.string s,.string t,.pointer p,.slice A m c])
theorem Kf(A:Option Addr)(n c:Nat)(P:List Nd)(w:World)(hn:n=P.length)(hm:n<=maxLen)(h:200<n):
 Calls Tryz.prog 27 #[.slice A n c] w (sT w P):=by
 have HF:=O (show zK P=4 by unfold zK;rw [if_pos (by omega)]);unfold maxLen at hm;clear hn;go_enter_defers Tryz.func27,Tryz.ntmps27;go_wp2_with fail;simp [bodyPostD,Leaves,results,Tryz.results27,go_sem];refine⟨(za w _).trans ((za _ _).mono (by simp)),0,0,⟨#[]⟩,⟨#[]⟩,none,none,0,0,by rw [HF.o];rfl,λh=>?_⟩;rw [HF.o] at h;cases h
theorem rz{w w1:World}(v:Value)(h:(((w.alloc (.cells #[.int .i64 0,.int .i64 0,.string ⟨#[]⟩,.string ⟨#[]⟩,.pointer none,.slice none 0 0] 81)).alloc (.cells #[.nilIface] 34)).alloc (.cells #[v] 134)).grownBy w1 (some (w.heap.size+2))):
 Below w.heap.size w w1/\Bx6 w1 w.heap.size (.int .i64 0) (.int .i64 0) (.string ⟨#[]⟩) (.string ⟨#[]⟩) (.pointer none) (.slice none 0 0)/\w1.cell? ⟨w.heap.size+1,0,none⟩=some .nilIface/\w1.frozen? ⟨w.heap.size+1,0,none⟩=false/\w.heap.size+3<=w1.heap.size:=by
 have hX:=((jf w (.int .i64 0) (.int .i64 0) (.string ⟨#[]⟩) (.string ⟨#[]⟩) (.pointer none) (.slice none 0 0) 81).keep (za _ (.cells #[.nilIface] 34))).keep (za _ (.cells #[v] 134));have hz1:(w.alloc (.cells #[.int .i64 0,.int .i64 0,.string ⟨#[]⟩,.string ⟨#[]⟩,.pointer none,.slice none 0 0] 81)).heap.size=w.heap.size+1:=by simp
 have hz2:((w.alloc (.cells #[.int .i64 0,.int .i64 0,.string ⟨#[]⟩,.string ⟨#[]⟩,.pointer none,.slice none 0 0] 81)).alloc (.cells #[.nilIface] 34)).heap.size=w.heap.size+2:=by simp
 have hz3:(((w.alloc (.cells #[.int .i64 0,.int .i64 0,.string ⟨#[]⟩,.string ⟨#[]⟩,.pointer none,.slice none 0 0] 81)).alloc (.cells #[.nilIface] 34)).alloc (.cells #[v] 134)).heap.size=w.heap.size+3:=by simp
 have hE:=zb (za _ (.cells #[v] 134)) (jo (w.alloc (.cells #[.int .i64 0,.int .i64 0,.string ⟨#[]⟩,.string ⟨#[]⟩,.pointer none,.slice none 0 0] 81)) #[.nilIface] 34 0 (v := .nilIface) rfl);rw [hz1] at hE;have hF:(((w.alloc (.cells #[.int .i64 0,.int .i64 0,.string ⟨#[]⟩,.string ⟨#[]⟩,.pointer none,.slice none 0 0] 81)).alloc (.cells #[.nilIface] 34)).alloc (.cells #[v] 134)).frozen? ⟨w.heap.size+1,0,none⟩=false:=by
  rw [(za _ _).frozen (p:=⟨w.heap.size+1,0,none⟩) (by rw [hz2];exact Nat.lt_succ_self _)];simp
 have hne1:some w.heap.size≠some (w.heap.size+2):=λe=>by injection e with e;omega
 have hne2:some (w.heap.size+1)≠some (w.heap.size+2):=λe=>by injection e with e;omega
 refine⟨⟨h.os,h.tape,h.output,?_,λk hk=>?_⟩,hX.but h hne1,h.cell hE hne2,(World.frozen?_of_block (a:=⟨w.heap.size+1,0,none⟩) (h.block (w.heap.size+1) (by rw [hz3];omega) hne2)).trans hF,by rw [<-hz3];exact h.size⟩
 ·have:=h.size;rw [hz3] at this;omega
 ·rw [h.block k (by rw [hz3];omega) (λe=>by injection e with e;omega),(za _ _).block k (by rw [hz2];omega),(za _ _).block k (by rw [hz1];omega),(za _ _).block k hk]
theorem Kc(A:Option Addr)(n c:Nat)(P:List Nd)(w:World)(df:Ns w A n c P)(h:¬200<n):
 Calls Tryz.prog 27 #[.slice A n c] w (sT w P):=by
 have hn:n=P.length:=df.len;have hm:=df.max;have hcm:=df.cap;unfold maxLen at hm;have US:=O (show zK P=if(kU P).isSome then 0 else 1 by unfold zK;rw [if_neg (by omega)]);have WZ:=O (show kU P=(match zT 200 P with|some (k,[])=>some k|_=>none) by unfold kU;rw [tZ (n:=P.length) (n':=200) (Nat.le_refl _) (by omega)];rcases zT 200 P with _|⟨k,_|_⟩<;> rfl);have hz1:(w.alloc (.cells #[.int .i64 0,.int .i64 0,.string ⟨#[]⟩,.string ⟨#[]⟩,.pointer none,.slice none 0 0] 81)).heap.size=w.heap.size+1:=by simp
 have hz2:((w.alloc (.cells #[.int .i64 0,.int .i64 0,.string ⟨#[]⟩,.string ⟨#[]⟩,.pointer none,.slice none 0 0] 81)).alloc (.cells #[.nilIface] 34)).heap.size=w.heap.size+2:=by simp
 have hb3:Below w.heap.size w (((w.alloc (.cells #[.int .i64 0,.int .i64 0,.string ⟨#[]⟩,.string ⟨#[]⟩,.pointer none,.slice none 0 0] 81)).alloc (.cells #[.nilIface] 34)).alloc (.cells #[.slice A n c] 134)):=
  (za w _).trans (((za _ _).trans ((za _ _).mono (by rw [hz2,hz1];omega))).mono (by rw [hz1];omega))
 have hrd:RdK (((w.alloc (.cells #[.int .i64 0,.int .i64 0,.string ⟨#[]⟩,.string ⟨#[]⟩,.pointer none,.slice none 0 0] 81)).alloc (.cells #[.nilIface] 34)).alloc (.cells #[.slice A n c] 134)) (w.heap.size+2) P:=by
  refine⟨⟨A,n,c,?_,df.keep hb3,λh0 a e=>?_⟩,?_⟩
  ·have:=jo ((w.alloc (.cells #[.int .i64 0,.int .i64 0,.string ⟨#[]⟩,.string ⟨#[]⟩,.pointer none,.slice none 0 0] 81)).alloc (.cells #[.nilIface] 34)) #[.slice A n c] 134 0 (v := .slice A n c) rfl;rwa [hz2] at this
  ·have:=df.at_.lt h0 a e;omega
  ·exact World.frozen?_alloc_at _ _ _ _ hz2.symm
 have C:=O (DL (w.heap.size+2) 200 (by omega) P _ hrd (by omega));have hmf:∀(fn:Fn) (first cap:Array Value) (w:World),(Instr.makeFunc fn first cap).run Tryz.prog w = .ok (.func fn first cap) w:=λ_ _ _ _=>rfl;clear hrd hb3 hz1 hz2 hn;go_enter_defers Tryz.func27,Tryz.ntmps27;go_wp2_with fail;refine C.o.mono ?_;intro e w1 zX;rcases hp:zT 200 P with _|⟨k,r⟩
 ·rw [hp] at zX;obtain⟨rfl,g1⟩:=zX;have HF:=O (show zK P=1 by rw [US.o,WZ.o,hp];rfl);obtain⟨b1,x1,c1,f1,z1⟩:=rz _ g1;clear g1 hp US WZ C;go_wp2_with fail;refine leaves_cons (f:=66) (args:=#[.pointer (some ⟨w.heap.size,0,none⟩),.pointer (some ⟨w.heap.size+1,0,none⟩)]) (by simp) (by simp [go_sem]) ?_;refine(Ch w.heap.size (w.heap.size+1) _ _ _ _ _ _ _ [] w1 x1 c1 f1 (by omega)).mono ?_;rintro e u' w2 ⟨rfl,rfl,rfl⟩;have hl:w.heap.size<w1.heap.size:=by omega
  have hl2:w.heap.size+1<w1.heap.size:=by omega
  obtain⟨y0,y1,y2,y3,y4,y5,-,-,-,-,-,-⟩:=x1.set (.int .i64 0) (.int .i64 0) (.string ⟨#[]⟩) (.string ⟨#[]⟩) (.pointer none) (.slice none 0 0);simp [Leaves,settle,results,Tryz.results27,go_sem,c1,x1.c0,x1.c1,x1.c2,x1.c3,x1.c4,x1.c5,hl,hl2];refine⟨((jY b1 (Nat.le_refl _) _ _ _ _ _ _).setCell (p:=⟨w.heap.size+1,0,none⟩) (Nat.le_succ _) _).alloc (by simp [World.setCell];omega) _,0,0,⟨#[]⟩,⟨#[]⟩,none,none,0,0,by rw [HF.o];rfl,λh=>?_⟩;rw [HF.o] at h;cases h
 ·rw [hp] at zX;obtain⟨v,rfl,hk,hr,g1⟩:=zX;obtain⟨o,nn,s0,t0,pp,A1,m1,cc,rfl⟩:=iI hk;have HV:=O ((dp _).1 _ _ _ hp);obtain⟨b1,x1,c1,f1,z1⟩:=rz _ g1;obtain⟨⟨A2,n2,c2,rc,rns,-⟩,-⟩:=hr;have hn2:n2=r.length:=rns.len;have hl0:w.heap.size<w1.heap.size:=by omega
  have BP:w.heap.size+1<w1.heap.size:=by omega
  have hl2:w.heap.size+2<w1.heap.size:=by omega
  have HK:=O (hk.mono (B':=λb=>w.heap.size+3<=b) λb h1 _=>by simpa using h1);clear g1 C rns hk;have HX:=O x1;obtain⟨x0',x1',x2',x3',x4',x5',q0,q1,q2,q3,q4,q5⟩:=x1
  cases r with
  | nil =>
   have HF:=O (show zK P=0 by rw [US.o,WZ.o,hp];rfl)
   simp only [List.length_nil] at hn2
   subst hn2
   clear hp US WZ
   go_wp2_with fail
   refine leaves_cons (f:=66) (args:=#[.pointer (some ⟨w.heap.size,0,none⟩),.pointer (some ⟨w.heap.size+1,0,none⟩)]) (by simp) (by simp [go_sem]) ?_
   refine(yf ⟨w.heap.size,0,none⟩ ⟨w.heap.size+1,0,none⟩ _).mono ?_
   rintro e u' w2 ⟨rfl,rfl,rfl⟩
   have gg:=zf (jI w1 w.heap.size (.int .i64 o) (.int .i64 nn) (.string s0) (.string t0) (.pointer pp) (.slice A1 m1 cc)) (jI ((((((w1.setCell ⟨w.heap.size,0,none⟩ (.int .i64 o)).setCell ⟨w.heap.size,1,none⟩ (.int .i64 nn)).setCell ⟨w.heap.size,2,none⟩ (.string s0)).setCell ⟨w.heap.size,3,none⟩ (.string t0)).setCell ⟨w.heap.size,4,none⟩ (.pointer pp)).setCell ⟨w.heap.size,5,none⟩ (.slice A1 m1 cc)) w.heap.size (.int .i64 o) (.int .i64 nn) (.string s0) (.string t0) (.pointer pp) (.slice A1 m1 cc))
   have hne:some (w.heap.size+1)≠some w.heap.size:=λe=>by injection e with e;omega
   have Y:=((HX.o.set (.int .i64 o) (.int .i64 nn) (.string s0) (.string t0) (.pointer pp) (.slice A1 m1 cc)).set (.int .i64 o) (.int .i64 nn) (.string s0) (.string t0) (.pointer pp) (.slice A1 m1 cc)).but (zl _ ⟨w.heap.size+1,0,none⟩ .nilIface) (λe=>hne e.symm)
   have eF:=World.cell?_setCell_same _ _ .nilIface (gg.cell (a:=⟨w.heap.size+1,0,none⟩) c1 hne)
   have BW:Below w.heap.size w (((((((((((((w1.setCell ⟨w.heap.size,0,none⟩ (.int .i64 o)).setCell ⟨w.heap.size,1,none⟩ (.int .i64 nn)).setCell ⟨w.heap.size,2,none⟩ (.string s0)).setCell ⟨w.heap.size,3,none⟩ (.string t0)).setCell ⟨w.heap.size,4,none⟩ (.pointer pp)).setCell ⟨w.heap.size,5,none⟩ (.slice A1 m1 cc)).setCell ⟨w.heap.size,0,none⟩ (.int .i64 o)).setCell ⟨w.heap.size,1,none⟩ (.int .i64 nn)).setCell ⟨w.heap.size,2,none⟩ (.string s0)).setCell ⟨w.heap.size,3,none⟩ (.string t0)).setCell ⟨w.heap.size,4,none⟩ (.pointer pp)).setCell ⟨w.heap.size,5,none⟩ (.slice A1 m1 cc)).setCell ⟨w.heap.size+1,0,none⟩ .nilIface):=(jY (jY b1 (Nat.le_refl _) (.int .i64 o) (.int .i64 nn) (.string s0) (.string t0) (.pointer pp) (.slice A1 m1 cc)) (Nat.le_refl _) (.int .i64 o) (.int .i64 nn) (.string s0) (.string t0) (.pointer pp) (.slice A1 m1 cc)).setCell (p:=⟨w.heap.size+1,0,none⟩) (Nat.le_succ _) .nilIface
   have KW:∀b,w.heap.size+3<=b->(((((((((((((w1.setCell ⟨w.heap.size,0,none⟩ (.int .i64 o)).setCell ⟨w.heap.size,1,none⟩ (.int .i64 nn)).setCell ⟨w.heap.size,2,none⟩ (.string s0)).setCell ⟨w.heap.size,3,none⟩ (.string t0)).setCell ⟨w.heap.size,4,none⟩ (.pointer pp)).setCell ⟨w.heap.size,5,none⟩ (.slice A1 m1 cc)).setCell ⟨w.heap.size,0,none⟩ (.int .i64 o)).setCell ⟨w.heap.size,1,none⟩ (.int .i64 nn)).setCell ⟨w.heap.size,2,none⟩ (.string s0)).setCell ⟨w.heap.size,3,none⟩ (.string t0)).setCell ⟨w.heap.size,4,none⟩ (.pointer pp)).setCell ⟨w.heap.size,5,none⟩ (.slice A1 m1 cc)).setCell ⟨w.heap.size+1,0,none⟩ .nilIface).heap[b]?=w1.heap[b]?:=λb hb=>by
    rw [Below.heap_setCell _ _ _ b (show b≠w.heap.size+1 by omega),ae _ _ _ _ _ _ _ _ (by omega),ae _ _ _ _ _ _ _ _ (by omega)]
   obtain⟨W,hW⟩:∃W,(((((((((((((w1.setCell ⟨w.heap.size,0,none⟩ (.int .i64 o)).setCell ⟨w.heap.size,1,none⟩ (.int .i64 nn)).setCell ⟨w.heap.size,2,none⟩ (.string s0)).setCell ⟨w.heap.size,3,none⟩ (.string t0)).setCell ⟨w.heap.size,4,none⟩ (.pointer pp)).setCell ⟨w.heap.size,5,none⟩ (.slice A1 m1 cc)).setCell ⟨w.heap.size,0,none⟩ (.int .i64 o)).setCell ⟨w.heap.size,1,none⟩ (.int .i64 nn)).setCell ⟨w.heap.size,2,none⟩ (.string s0)).setCell ⟨w.heap.size,3,none⟩ (.string t0)).setCell ⟨w.heap.size,4,none⟩ (.pointer pp)).setCell ⟨w.heap.size,5,none⟩ (.slice A1 m1 cc)).setCell ⟨w.heap.size+1,0,none⟩ .nilIface)=W:=⟨_,rfl⟩
   rw [hW] at Y eF BW KW ⊢
   clear hW gg
   obtain⟨y0,y1,y2,y3,y4,y5,-,-,-,-,-,-⟩:=Y
   simp [Leaves,settle,results,Tryz.results27,go_sem,y0,y1,y2,y3,y4,y5,eF]
   refine⟨BW,o,nn,s0,t0,pp,A1,m1,cc,by rw [HF.o];rfl,λ_=>⟨k,HV.o.1,by simpa using HV.o.2,?_⟩⟩
   exact(HK.o.cong λb hb=>KW b hb).mono λb hb _=>by omega
  | cons x r =>
   have HF:=O (show zK P=1 by rw [US.o,WZ.o,hp];rfl)
   have hn3:0<n2:=by rw [hn2,List.length_cons];omega
   clear hp US WZ hn2
   go_wp2_with fail
   refine leaves_cons (f:=66) (args:=#[.pointer (some ⟨w.heap.size,0,none⟩),.pointer (some ⟨w.heap.size+1,0,none⟩)]) (by simp) (by simp [go_sem]) ?_
   refine(yf ⟨w.heap.size,0,none⟩ ⟨w.heap.size+1,0,none⟩ _).mono ?_
   rintro e u' w2 ⟨rfl,rfl,rfl⟩
   have gg:=zf (jI w1 w.heap.size (.int .i64 o) (.int .i64 nn) (.string s0) (.string t0) (.pointer pp) (.slice A1 m1 cc)) (jI ((((((w1.setCell ⟨w.heap.size,0,none⟩ (.int .i64 o)).setCell ⟨w.heap.size,1,none⟩ (.int .i64 nn)).setCell ⟨w.heap.size,2,none⟩ (.string s0)).setCell ⟨w.heap.size,3,none⟩ (.string t0)).setCell ⟨w.heap.size,4,none⟩ (.pointer pp)).setCell ⟨w.heap.size,5,none⟩ (.slice A1 m1 cc)) w.heap.size (.int .i64 0) (.int .i64 0) (.string ⟨#[]⟩) (.string ⟨#[]⟩) (.pointer none) (.slice none 0 0))
   have hne:some (w.heap.size+1)≠some w.heap.size:=λe=>by injection e with e;omega
   have Y:=((HX.o.set (.int .i64 o) (.int .i64 nn) (.string s0) (.string t0) (.pointer pp) (.slice A1 m1 cc)).set (.int .i64 0) (.int .i64 0) (.string ⟨#[]⟩) (.string ⟨#[]⟩) (.pointer none) (.slice none 0 0)).but (zl _ ⟨w.heap.size+1,0,none⟩ (.iface 41 (.int .i64 1))) (λe=>hne e.symm)
   have eF:=World.cell?_setCell_same _ _ (.iface 41 (.int .i64 1)) (gg.cell (a:=⟨w.heap.size+1,0,none⟩) c1 hne)
   have BW:Below w.heap.size w (((((((((((((w1.setCell ⟨w.heap.size,0,none⟩ (.int .i64 o)).setCell ⟨w.heap.size,1,none⟩ (.int .i64 nn)).setCell ⟨w.heap.size,2,none⟩ (.string s0)).setCell ⟨w.heap.size,3,none⟩ (.string t0)).setCell ⟨w.heap.size,4,none⟩ (.pointer pp)).setCell ⟨w.heap.size,5,none⟩ (.slice A1 m1 cc)).setCell ⟨w.heap.size,0,none⟩ (.int .i64 0)).setCell ⟨w.heap.size,1,none⟩ (.int .i64 0)).setCell ⟨w.heap.size,2,none⟩ (.string ⟨#[]⟩)).setCell ⟨w.heap.size,3,none⟩ (.string ⟨#[]⟩)).setCell ⟨w.heap.size,4,none⟩ (.pointer none)).setCell ⟨w.heap.size,5,none⟩ (.slice none 0 0)).setCell ⟨w.heap.size+1,0,none⟩ (.iface 41 (.int .i64 1))):=(jY (jY b1 (Nat.le_refl _) (.int .i64 o) (.int .i64 nn) (.string s0) (.string t0) (.pointer pp) (.slice A1 m1 cc)) (Nat.le_refl _) (.int .i64 0) (.int .i64 0) (.string ⟨#[]⟩) (.string ⟨#[]⟩) (.pointer none) (.slice none 0 0)).setCell (p:=⟨w.heap.size+1,0,none⟩) (Nat.le_succ _) (.iface 41 (.int .i64 1))
   have KW:∀b,w.heap.size+3<=b->(((((((((((((w1.setCell ⟨w.heap.size,0,none⟩ (.int .i64 o)).setCell ⟨w.heap.size,1,none⟩ (.int .i64 nn)).setCell ⟨w.heap.size,2,none⟩ (.string s0)).setCell ⟨w.heap.size,3,none⟩ (.string t0)).setCell ⟨w.heap.size,4,none⟩ (.pointer pp)).setCell ⟨w.heap.size,5,none⟩ (.slice A1 m1 cc)).setCell ⟨w.heap.size,0,none⟩ (.int .i64 0)).setCell ⟨w.heap.size,1,none⟩ (.int .i64 0)).setCell ⟨w.heap.size,2,none⟩ (.string ⟨#[]⟩)).setCell ⟨w.heap.size,3,none⟩ (.string ⟨#[]⟩)).setCell ⟨w.heap.size,4,none⟩ (.pointer none)).setCell ⟨w.heap.size,5,none⟩ (.slice none 0 0)).setCell ⟨w.heap.size+1,0,none⟩ (.iface 41 (.int .i64 1))).heap[b]?=w1.heap[b]?:=λb hb=>by
    rw [Below.heap_setCell _ _ _ b (show b≠w.heap.size+1 by omega),ae _ _ _ _ _ _ _ _ (by omega),ae _ _ _ _ _ _ _ _ (by omega)]
   obtain⟨W,hW⟩:∃W,(((((((((((((w1.setCell ⟨w.heap.size,0,none⟩ (.int .i64 o)).setCell ⟨w.heap.size,1,none⟩ (.int .i64 nn)).setCell ⟨w.heap.size,2,none⟩ (.string s0)).setCell ⟨w.heap.size,3,none⟩ (.string t0)).setCell ⟨w.heap.size,4,none⟩ (.pointer pp)).setCell ⟨w.heap.size,5,none⟩ (.slice A1 m1 cc)).setCell ⟨w.heap.size,0,none⟩ (.int .i64 0)).setCell ⟨w.heap.size,1,none⟩ (.int .i64 0)).setCell ⟨w.heap.size,2,none⟩ (.string ⟨#[]⟩)).setCell ⟨w.heap.size,3,none⟩ (.string ⟨#[]⟩)).setCell ⟨w.heap.size,4,none⟩ (.pointer none)).setCell ⟨w.heap.size,5,none⟩ (.slice none 0 0)).setCell ⟨w.heap.size+1,0,none⟩ (.iface 41 (.int .i64 1)))=W:=⟨_,rfl⟩
   rw [hW] at Y eF BW KW ⊢
   clear hW gg
   obtain⟨y0,y1,y2,y3,y4,y5,-,-,-,-,-,-⟩:=Y
   simp [Leaves,settle,results,Tryz.results27,go_sem,y0,y1,y2,y3,y4,y5,eF]
   refine⟨BW,0,0,⟨#[]⟩,⟨#[]⟩,none,none,0,0,by rw [HF.o];rfl,λh=>?_⟩
   rw [HF.o] at h
   cases h
theorem kJ(A:Option Addr)(n c:Nat)(P:List Nd)(w:World)(df:Ns w A n c P):Calls Tryz.prog 27 #[.slice A n c] w (sT w P):=by
 by_cases h:200<n
 ·exact Kf A n c P w df.len df.max h
 ·exact Kc A n c P w df h
theorem uF(n m:Int)(ad:Addr)(w:World)(h0:w.cell? ad=some (je n))(h1:w.cell? ⟨ad.block,ad.off+1,none⟩=some (je m)):
 Calls Tryz.prog 28 #[.slice (some ad) 2 2] w λe w'=>e = .returned (je (if n=0 then m else n))/\Below w.heap.size w w':=by
 obtain⟨f,hf⟩:∃f:Int,f=if n=0 then m else n:=⟨_,rfl⟩
 rw [<-hf];have HF:=O hf;clear hf;have H0:=O h0;have H1:=O h1;clear h0 h1;go_enter Tryz.func28,Tryz.ntmps28;go_wp2_with fail;go_loopw [4,7] (λ_ i wr=>wr=w/\((i = .int .i64 0)\/(i = .int .i64 1/\n=0)\/(i = .int .i64 2/\n=0/\m=0))) (λ_ i _=>2-(intOf i).toNat)
 case atStart=>exact⟨rfl,.inl rfl⟩
 case round =>
  obtain⟨rfl,hrel⟩:=hrel;rcases hrel with rfl|⟨rfl,hn⟩|⟨rfl,hn,hm⟩
  ·have h0:=H0.o;by_cases hn:n=0
   ·have HN:=O hn;rw [hn,zj] at h0;clear hn;go_wp2_with fail;go_roundw
    case rel=>exact⟨trivial,.inr (.inl ⟨rfl,HN.o⟩)⟩
    case measure=>simp [intOf]
   ·have HN:=O hn;rw [zm hn] at h0;clear hn;go_wp2_with fail;go_ret;exact⟨by rw [HF.o,if_neg HN.o,zm HN.o];rfl,Below.refl _ _⟩
  ·have h1:=H1.o;have HN:=O hn;clear hn;by_cases hm:m=0
   ·have HM:=O hm;rw [hm,zj] at h1;clear hm;go_wp2_with fail;go_roundw
    case rel=>exact⟨trivial,.inr (.inr ⟨rfl,HN.o,HM.o⟩)⟩
    case measure=>simp [intOf]
   ·have HM:=O hm;rw [zm hm] at h1;clear hm;go_wp2_with fail;go_ret;exact⟨by rw [HF.o,if_pos HN.o,zm HM.o];rfl,Below.refl _ _⟩
  ·have HN:=O hn;have HM:=O hm;clear hn hm;go_wp2_with fail;go_ret;exact⟨by rw [HF.o,if_pos HN.o,HM.o];rfl,Below.refl _ _⟩
end Go.Proofs.YthifljpkgfpkiaaGreatDoor
