/-
  Fields of types in a row of the call's own, and slices.SortFunc over them by their names. kinds' reader: a type of records. kinds.read: nodes as a type. ..
-/
import Derived.Shelf.SlSortCmp.NoneTotal
import Derived.Test.YtjcdeikbghjpkaaGreatDoorQ17
import Derived.Test.YtjcdeikbghjpkaaGreatDoorQ18
import Derived.Test.YtjcdeikbghjpkaaGreatDoorQ30
import Derived.Test.YtjcdeikbghjpkaaGreatDoorQ31
import Derived.Test.YtjcdeikbghjpkaaGreatDoorQ32
set_option maxRecDepth 100000
set_option maxHeartbeats 8000000
namespace Go.Proofs.YtjcdeikbghjpkaaGreatDoor
open Go.RowKit Go.Wk Go.Sort Go.Shelf
instance:Inhabited Fe:=⟨⟨(⟨#[]⟩,false,.base 41),0,0,⟨#[]⟩,⟨#[]⟩,none,none,0,0⟩⟩
structure zdf(w:World)(base:Nat)(D:Nat→Prop)(v:Value)(E:List Fe):Prop where
 own:w.ownsRow base 207 8 v E.length (jN E)
 ok:∀x∈E,KAt w (fun b=>D b∧some b≠v.ownBlock) x.y.2.2 x.u
theorem zdf.nil(w:World)(base:Nat)(D:Nat→Prop):zdf w base D (.slice none 0 0) []:=⟨World.ownsRow_nil _ _ _ _,fun _ h=>nomatch h⟩
theorem zdf.keepN{w w':World}{base:Nat}{D:Nat→Prop}{v:Value}{E:List Fe}(h:zdf w base D v E)(hg:w.grownBy w' none):zdf w' base D v E:=by
 refine⟨h.own.kept hg ?_,fun x hx=>?_⟩
 ·rcases hv:v.ownBlock with _|k
  ·exact .inl rfl
  ·exact .inr (fun e=>nomatch e)
 ·have h1:=((zbb (w:=w) (B':=fun b=>(D b∧some b≠v.ownBlock)∧b<w.heap.size) (fun b hb hl=>⟨hb,hl⟩) _).1 _ _ (Nat.le_refl _) (h.ok x hx))
  have h2:=h1.cong (w':=w') fun b hb=>hg.block b hb.2 (fun e=>nomatch e);exact h2.mono fun b hb _=>hb.1
theorem zdf.keep{w w':World}{base:Nat}{D:Nat→Prop}{v:Value}{E:List Fe}{R:Nat}(h:zdf w base D v E)(hg:w.grownBy w' (some R))(hR:R<base)(hD:¬D R):zdf w' base D v E:=by
 refine⟨h.own.kept hg ?_,fun x hx=>?_⟩
 ·rcases hv:v.ownBlock with _|k
  ·exact .inl rfl
  ·refine .inr fun e=>?_;injection e with e;have:=(h.own.lt k hv).1;omega
 ·have h1:=((zbb (w:=w) (B':=fun b=>(D b∧some b≠v.ownBlock)∧b<w.heap.size) (fun b hb hl=>⟨hb,hl⟩) _).1 _ _ (Nat.le_refl _) (h.ok x hx))
  have h2:=h1.cong (w':=w') fun b hb=>hg.block b hb.2 (fun e=>by injection e with e;subst e;exact hD hb.1.1);exact h2.mono fun b hb _=>hb.1
theorem zdf.fat{w:World}{base:Nat}{D:Nat→Prop}{v:Value}{E:List Fe}(h:zdf w base D v E)(hD:∀b,base≤b→D b):∃A c,v = .slice A E.length c∧FAt w D A 0 (ofL (E.map Fe.y))∧E.length≤c∧c≤maxLen:=by
 obtain⟨h1,h2⟩:=h;have h0:=h1;rcases h1.2 with ⟨rfl,e0⟩|⟨g,cap,cur,rfl,hB,hh,hc,hm,hrest⟩
 ·have:E = []:=List.eq_nil_of_length_eq_zero e0;subst this;exact⟨none,0,rfl,trivial,Nat.le_refl _,Nat.zero_le _⟩
 ·refine⟨some ⟨g,0,none⟩,cap,rfl,?_,hc,hm⟩;exact zdG (B:=D) (a:=⟨g,0,none⟩) (hD g hB) [] E (by simpa using h0.cells (g:=g) rfl) fun x hx=>(h2 x hx).mono fun b hb _=>hb.1
theorem zdf.snoc{w w':World}{base:Nat}{D:Nat→Prop}{v v':Value}{E:List Fe}{x:Fe}(h:zdf w base D v E)(hx:KAt w (fun b=>D b∧some b≠v.ownBlock) x.y.2.2 x.u)(hown:w'.ownsRow base 207 8 v' (E.length+1) (jN E ++ x.eight))(hg:w.grownBy w' v.ownBlock)
 (hb:v'.ownBlock=v.ownBlock∨v'.ownBlock=some w.heap.size):zdf w' base D v' (E ++ [x]):=by
 refine⟨?_,fun z hz=>?_⟩
 ·rw [zei,List.length_append];exact hown
 ·have hz':KAt w (fun b=>D b∧some b≠v.ownBlock) z.y.2.2 z.u:=by
   rcases List.mem_append.1 hz with hz|hz
   ·exact h.ok z hz
   ·simp only [List.mem_cons,List.not_mem_nil,or_false] at hz;subst hz;exact hx
  have h1:=(zbb (w:=w) (B':=fun b=>(D b∧some b≠v.ownBlock)∧b<w.heap.size) (fun b hb hl=>⟨hb,hl⟩) _).1 _ _ (Nat.le_refl _) hz'
  have h2:=h1.cong (w':=w') fun b hb=>hg.block b hb.2 (fun e=>hb.1.2 (by rw [←e]))
  refine h2.mono fun b hb _=>⟨hb.1.1,?_⟩
  rcases ‹v'.ownBlock=v.ownBlock∨v'.ownBlock=some w.heap.size› with e|e
  ·rw [e];exact hb.1.2
  ·rw [e];intro q;injection q with q;have:=hb.2;omega
theorem zaY{ops:Array Oper}{rest:List Oper}{o:Oper}{a:Act}{w:World}{Q:Exit→Act→World→Prop}(hgd:o.guard=none)(s x:Operand)
 (ho:o.op = .call { callee := .builtin .append,args:=#[s,x],argTypes:=#[147,147] })
 (base:Nat) (D:Nat→Prop) (v:Value) (E:List Fe) (hs:a.eval s=v) (hrow:zdf w base D v E) (z:Fe) (ad:Addr) (m c:Nat) (hx:a.eval x = .slice (some ad) m c) (hm:m=1)
 (hnews:∀j u,z.eight[j]?=some u→w.cell? (ad.add j)=some u) (hz:KAt w (fun b=>D b∧some b≠v.ownBlock) z.y.2.2 z.u) (hl:E.length≤1000000) (hbase:base≤w.heap.size)
 (h:∀v' w',zdf w' base D v' (E ++ [z])→w.grownBy w' v.ownBlock→wpList Tryz.prog ops Q rest (a.put o.dst v') w'):wpList Tryz.prog ops Q (o :: rest) a w:=by
 subst hm;have hi:=zqi
 cases hq:Tryz.prog.info? 207 with
 | none=>rw [hq] at hi;cases hi
 | some i0 =>
  rw [hq] at hi
  simp only [Option.map_some,Option.some.injEq,Prod.mk.injEq] at hi
  refine wpList_append_own_at w hgd s x _ ho base _ i0 _ 8 104 Tryz.underlying147 hq hi.1 hi.2.1 hi.2.2 (by decide) (by decide) v E.length (jN E) hs hrow.own ad 1 c z.eight hx rfl hnews ?_ (by unfold maxLen;omega) (by omega) hbase ?_
  ·intro u hu
   have:=zej [z] u (by simpa [jN,Fe.eight,Fe.u] using hu);exact this
  ·intro v' w' h1 h2 _ h4
   exact h v' w' (hrow.snoc hz h1 h2 h4) h2
theorem zor{w:World}{g n:Nat}{os:Array Obj}{cur:Array Value}{e:TypeId}{fr:Nat × Nat}(d:Array Value)(hb:w.heap[g]?=some (.cells cur e fr)):
 (grow (putRow id (Sort.ahead w n) g 0 d) os).heap[g]?=some (.cells (putCells id 0 d cur) e fr):=by
 have hg:g<w.heap.size:=(Array.getElem?_eq_some_iff.1 hb).1;rw [heap_grow_old _ _ (by simpa using hg)];simp [putRow,mapBlock,Sort.ahead,Array.getElem?_modify,hb,onCells]
theorem znj{w:World}{g n:Nat}{os:Array Obj}(d:Array Value):w.grownBy (grow (putRow id (Sort.ahead w n) g 0 d) os) (some g):=by
 refine⟨rfl,rfl,rfl,by simp,fun k hk hne=>?_⟩;rw [heap_grow_old _ _ (by simpa using hk)];have:g≠k:=fun e=>hne (by rw [e]);simp [putRow,mapBlock,Sort.ahead,Array.getElem?_modify,this]
theorem zoR(cur:Array Value)(ts:List Value)(h:ts.length≤cur.size):(putCells id 0 ts.toArray cur).toList.take ts.length=ts:=by
 apply List.ext_getElem?;intro j;by_cases hj:j<ts.length
 ·rw [List.getElem?_take_of_lt hj,Array.getElem?_toList];simp [putCells,hj,show j<cur.size by omega]
 ·rw [List.getElem?_take_eq_none (by omega),List.getElem?_eq_none (by omega)]
theorem zny{w:World}{g:Nat}{cur:Array Value}{e:TypeId}{ts:List Value}(hb:w.heap[g]?=some (.cells cur e (0,0)))(ht:cur.toList.take ts.length=ts):Holds id w g 0 ts.toArray:=by
 intro j hj;have hj':j<ts.length:=by simpa using hj
 refine⟨?_,by simp [World.frozen?,hb]⟩;have h1:(cur.toList.take ts.length)[j]?=ts[j]?:=by rw [ht]
 rw [List.getElem?_take_of_lt hj'] at h1;simp only [World.cell?,hb,Nat.zero_add];simp only [Option.isSome_none,Bool.false_eq_true,if_false];rw [←Array.getElem?_toList,h1];simp [hj']
theorem zpc(x:Fe):x.eight.length=8:=rfl
theorem zmE(d:Array Fe):flatK Fe.eight 8 d=(jN d.toList).toArray:=ext_get! (by simp) fun t ht=>by
 have h:t<d.size*8:=by simpa using ht
 rw [get_flatK _ _ _ _ h];have hk:t / 8<d.size:=by omega
 have hj:t % 8<(d[t / 8]'hk).eight.length:=by rw [zpc];omega
 have:=zfg d.toList (t / 8) (d[t / 8]'hk) (by simp [hk]) (t % 8) _ (List.getElem?_eq_getElem hj);rw [show t / 8*8+t % 8=t by omega] at this;rw [getElem!_pos d (t / 8) hk,getElem!_pos _ (t % 8) hj];simp [this]
def cfF(x y:Fe):Int:=zO x.y.1 y.y.1
theorem zr2:SWO (ltOf cfF) where
 irrefl x:=by unfold ltOf cfF;rw [zt.self];rfl
 trans x y z h1 h2:=by
  unfold ltOf cfF at *;simp only [decide_eq_true_eq] at *;exact zt.lt_le h1 (by omega)
 ntrans x y z h1 h2:=by
  unfold ltOf cfF at *;simp only [decide_eq_false_iff_not] at *;have a1:=zt.anti x.y.1 y.y.1;have a2:=zt.anti y.y.1 z.y.1;have a3:=zt.anti x.y.1 z.y.1;have:=zt.trans z.y.1 y.y.1 x.y.1 (by omega) (by omega);omega
theorem zpU(x y:Fe)(w:World):
 Calls Tryz.prog 121 #[.agg x.eight.toArray,.agg y.eight.toArray] w fun e w'=>e = .returned (.int .i64 (cfF x y))∧zkH w w':=by
 obtain⟨⟨n1,m1,k1⟩,o1,i1,s1,t1,p1,A1,l1,c1⟩:=x;obtain⟨⟨n2,m2,k2⟩,o2,i2,s2,t2,p2,A2,l2,c2⟩:=y;change Calls Tryz.prog 121 #[.agg #[.string n1,.bool m1,.int .i64 o1,.int .i64 i1,.string s1,.string t1,.pointer p1,.slice A1 l1 c1],.agg #[.string n2,.bool m2,.int .i64 o2,.int .i64 i2,.string s2,.string t2,.pointer p2,.slice A2 l2 c2]] w fun e w'=>e = .returned (.int .i64 (zO n1 n2))∧zkH w w';go_enter Tryz.func121,Tryz.ntmps121;go_wp2_with fail;refine(strings_Compare n1 n2 _).mono ?_;rintro e w1 ⟨rfl,rfl⟩;go_wp2_with fail;go_ret;exact⟨rfl,(((Below.refl _ _).alloc (Nat.le_refl _) _).alloc (by simp) _),Nat.le_refl _⟩
theorem zth(w:World)(g size:Nat):CmpLays Tryz.prog 121 #[] Fe.eight 8 cfF g 0 size w:=by
 intro m os dk _ x y;exact(zpU x y _).mono fun e w' ⟨h1,h2⟩=>⟨h1,h2.grow⟩
def zrm(w:World)(base:Nat)(D:Nat→Prop)(v:Value)(E:List Fe)(e:Ending)(w':World):Prop :=
 e = .returned (.tuple #[])∧∃E':List Fe,E'.Perm E∧(E'.Pairwise fun a b=>zO a.y.1 b.y.1≤0)∧zdf w' base D v E'∧w.grownBy w' v.ownBlock
theorem zmT(w:World)(p:Option Addr)(cap:Nat)(fv:Value):
 Calls Tryz.prog 120 #[.slice p 0 cap,fv] w fun e w'=>e = .returned (.tuple #[])∧w'=w:=by
 have hcon:=AnyF.slices_SortFunc_none { Tryz.sortK with } p cap fv w;change Calls Tryz.prog 120 _ _ _ at hcon;exact hcon
theorem zqR(w:World)(base:Nat)(D:Nat→Prop)(v:Value)(E:List Fe)(h:zdf w base D v E)(hs:E.length≤1000000):
 Calls Tryz.prog 120 #[v,.func (.func 121) #[] #[]] w (zrm w base D v E):=by
 rcases h.own.2 with ⟨rfl,h0⟩|⟨g,cap,cur,rfl,hBg,hh,h1,h2,h3,h4⟩
 ·have:E = []:=List.eq_nil_of_length_eq_zero h0;subst this;exact(zmT w none 0 _).mono fun e w' ⟨h1,h2⟩=>⟨h1,[],List.Perm.refl _,List.Pairwise.nil,by rw [h2];exact h,by rw [h2];exact World.grownBy.refl _ _⟩
 ·have hH:HoldsK Fe.eight 8 w g 0 E.toArray:=by
   unfold HoldsK;rw [zmE];exact zny hh (by rw [zcr];exact h4)
  have eg:∀args w,(callFunc 121 args).run Tryz.prog w = .ok (.enter 121 args) w:=enters_of Tryz.func121 (by kernel_rfl) rfl
  have hcon:=AnyQ.slices_SortFunc Tryz.sortK 8 Tryz.isAgg207 Tryz.sizeOf207 Fe.eight (fun _=>rfl) (fun x v hv=>zej [x] v (by simpa [jN,Fe.eight,Fe.u] using hv)) cfF zr2 121 #[] g 0 cap E.toArray w eg (zth w g _) hH (Array.getElem?_eq_some_iff.1 hh).1 (by simp;omega)
  change Calls Tryz.prog 120 _ _ _ at hcon
  have hsz:E.toArray.size=E.length:=by simp
  rw [hsz] at hcon
  refine hcon.mono ?_
  rintro e w' ⟨he,d',n,os,⟨hp1,-,hp2⟩,hso,rfl⟩
  have hlen:d'.size=E.length:=by rw [hp1,hsz]
  have hperm:d'.toList.Perm E:=by
   rw [←hlen] at hp2;have e1:E.toArray.extract 0 d'.size=E.toArray:=by rw [hlen,←hsz];exact Array.extract_size
   rw [Array.extract_size,e1] at hp2;exact hp2
  have hL:d'.toList.length=E.length:=by simpa using hlen
  have hg:w.grownBy (sortWorldK Fe.eight 8 w g 0 n d' os) (some g):=by
   unfold sortWorldK putRowK;exact znj _
  refine⟨he,d'.toList,hperm,?_,⟨?_,fun x hx=>?_⟩,hg⟩
  ·rw [List.pairwise_iff_getElem]
   intro i j hi hj hij;have hi':i<d'.size:=by simpa using hi
   have hj':j<d'.size:=by simpa using hj
   have:=hso i j (Nat.zero_le _) hij (by omega);rw [getElem!_pos d' j hj',getElem!_pos d' i hi'] at this;unfold ltOf cfF at this;have this:=of_decide_eq_false this;have a:=zt.anti d'[i].y.1 d'[j].y.1;simp only [Array.getElem_toList];omega
  ·unfold sortWorldK putRowK
   rw [zmE];refine⟨by simp [hlen],.inr ⟨g,cap,_,by rw [hL],hBg,zor _ hh,by rw [hL];exact h1,h2,by simp [putCells,h3],?_⟩⟩;have:=zoR cur (jN d'.toList) (by rw [zcr,hL,h3];exact Nat.mul_le_mul_right _ h1);rw [zcr] at this;exact this
  ·have hx':=h.ok x (hperm.mem_iff.1 hx)
   have h1:=(zbb (w:=w) (B':=fun b=>(D b∧some b≠(Value.slice (some ⟨g,0,none⟩) E.length cap).ownBlock)∧b<w.heap.size) (fun b hb hl=>⟨hb,hl⟩) _).1 _ _ (Nat.le_refl _) hx';have h2:=h1.cong (w':=sortWorldK Fe.eight 8 w g 0 n d' os) fun b hb=>hg.block b hb.2 (fun e=>hb.1.2 e);exact h2.mono fun b hb _=>hb.1
end Go.Proofs.YtjcdeikbghjpkaaGreatDoor
namespace Go.Proofs.YtjcdeikbghjpkaaGreatDoor
open Go.RowKit Go.Wk Go.Sort
theorem Bx6.set5{w:World}{b:Nat}{x0 x1 x2 x3 x4 x5:Value}(h:Bx6 w b x0 x1 x2 x3 x4 x5)(y:Value):Bx6 (w.setCell ⟨b,5,none⟩ y) b x0 x1 x2 x3 x4 y:=by
 obtain⟨c0,c1,c2,c3,c4,c5,z0,z1,z2,z3,z4,z5⟩:=h;refine⟨?_,?_,?_,?_,?_,?_,?_,?_,?_,?_,?_,?_⟩
 all_goals go_simp
structure KLp(w wr:World)(R b1:Nat)(x:Nd)(E:List Fe)(Q:List Nd)(v:Value):Prop where
 K:Bx6 wr b1 (.int .i64 46) (.int .i64 x.n) (.string x.s) (.string x.t) (.pointer none) v
 F:zeo wr (b1+2) v E
 N:Bx4 wr (b1+1) (.int .i64 46) (.int .i64 x.n) (.string ⟨#[]⟩) (.string ⟨#[]⟩)
 X:Bx6 wr w.heap.size (.int .i64 0) (.int .i64 0) (.string ⟨#[]⟩) (.string ⟨#[]⟩) (.pointer none) (.slice none 0 0)
 D:RdK wr R Q
 G:w.grownBy wr (some R)
 z:b1+2≤wr.heap.size
def zpt(m c:Nat)(r:List Nd)(k:Nat)(last:ByteArray)(E:List Fe)(Q:List Nd):Prop :=
 js m c emp r=(match js m (c-k) last Q with|none=>none|some (f,r')=>some (zk8 (E.map Fe.y) f,r'))∧E.length+Q.length≤r.length
theorem zp0(R m:Nat)(ih:znU R m)(hm1:m≤1000)(x:Nd)(r:List Nd)(hl:r.length≤m)(w:World)(h:RdK w R (x :: r))(hb:x.op=46):
 Calls Tryz.prog 111 #[.pointer (some ⟨R,0,none⟩)] w (zcH w R (zw (m+1) (x :: r))):=by
 have HR:=hi9 h;have HPP:=hi9 (show zw (m+1) (x :: r)=(match js m x.n.toNat emp r with|none=>none|some (p,r')=>if 0≤x.n∧x.s=emp∧x.t=emp then some (.fs p,r') else none) by simp only [zw,if_neg (zdb (.inr (.inr hb))),if_neg (show¬x.op=44 by omega),if_neg (show¬x.op=45 by omega),if_pos hb];rfl);generalize zw (m+1) (x :: r)=PP at *;clear h;go_enter Tryz.func111,Tryz.ntmps111;go_wp2_with fail;have G0:=hi9 (zc (za w (.cells #[.int .i64 0,.int .i64 0,.string ⟨#[]⟩,.string ⟨#[]⟩,.pointer none,.slice none 0 0] 149)) (some R));have X0:=hi9 (jE w (.int .i64 0) (.int .i64 0) (.string ⟨#[]⟩) (.string ⟨#[]⟩) (.pointer none) (.slice none 0 0) 149);have R0:=hi9 (HR.out.keep (za w (.cells #[.int .i64 0,.int .i64 0,.string ⟨#[]⟩,.string ⟨#[]⟩,.pointer none,.slice none 0 0] 149)));have HRL:=hi9 (show R<w.heap.size by obtain⟨⟨_,_,_,h1,_⟩,_⟩:=HR.out;exact block_lt_of_cell h1);have HNE:=hi9 (show some w.heap.size≠some R from fun e=>by injection e with e;have:=HRL.out;omega);obtain⟨w0,hw0⟩:∃w0,w.alloc (.cells #[.int .i64 0,.int .i64 0,.string ⟨#[]⟩,.string ⟨#[]⟩,.pointer none,.slice none 0 0] 149)=w0:=⟨_,rfl⟩
 have HS0:=hi9 (show w.heap.size≤w0.heap.size by rw [←hw0];simp);rw [hw0] at G0 X0 R0 ⊢;clear hw0 HR;refine(zbT R (x :: r) w0 R0.out).mono ?_;rintro e w1 ⟨rfl,r1,g1⟩;have G1:=hi9 (G0.out.trans g1);have X1:=hi9 (X0.out.but g1 HNE.out);have R1:=hi9 r1;have HYO:=hi9 (show zcP x by obtain⟨⟨_,_,_,_,h2,_⟩,_⟩:=R0.out;exact h2.ok x (by simp));have hxn:x.n≤9223372036854775807:=HYO.out.hi;have HS1:=hi9 (Nat.le_trans HS0.out g1.size);clear r1 g1 G0 X0 R0 HS0;unfold ndV;have hl:w.heap.size<w1.heap.size:=block_lt_of_cell X1.out.c0;have HSL:=hi9 (show zpt m x.n.toNat r 0 ⟨#[]⟩ [] r from⟨by
  show _=(match js m x.n.toNat emp r with|none=>none|some (f,r')=>some (zk8 [] f,r'))
  rcases js m x.n.toNat emp r with _|⟨f,r'⟩
  ·rfl
  ·simp only [zqZ],by simp⟩)
 rw [hb];clear hb;have B2:=(za w1 (.cells #[.int .i64 46,.int .i64 x.n,.string x.s,.string x.t,.pointer none,.slice none 0 0] 149)).trans ((za _ (.cells #[.int .i64 46,.int .i64 x.n,.string ⟨#[]⟩,.string ⟨#[]⟩] 41)).mono (by simp));have hsz:(w1.alloc (.cells #[.int .i64 46,.int .i64 x.n,.string x.s,.string x.t,.pointer none,.slice none 0 0] 149)).heap.size=w1.heap.size+1:=by simp
 have K2:=(jE w1 (.int .i64 46) (.int .i64 x.n) (.string x.s) (.string x.t) (.pointer none) (.slice none 0 0) 149).keep (za _ (.cells #[.int .i64 46,.int .i64 x.n,.string ⟨#[]⟩,.string ⟨#[]⟩] 41));have N2:=zbe (w1.alloc (.cells #[.int .i64 46,.int .i64 x.n,.string x.s,.string x.t,.pointer none,.slice none 0 0] 149)) (.int .i64 46) (.int .i64 x.n) (.string ⟨#[]⟩) (.string ⟨#[]⟩) 41;rw [hsz] at N2;have hz2:((w1.alloc (.cells #[.int .i64 46,.int .i64 x.n,.string x.s,.string x.t,.pointer none,.slice none 0 0] 149)).alloc (.cells #[.int .i64 46,.int .i64 x.n,.string ⟨#[]⟩,.string ⟨#[]⟩] 41)).heap.size=w1.heap.size+2:=by simp
 go_wp2_with fail;obtain⟨w2,hw2⟩:∃w2,(w1.alloc (.cells #[.int .i64 46,.int .i64 x.n,.string x.s,.string x.t,.pointer none,.slice none 0 0] 149)).alloc (.cells #[.int .i64 46,.int .i64 x.n,.string ⟨#[]⟩,.string ⟨#[]⟩] 41)=w2:=⟨_,rfl⟩
 rw [hw2] at B2 K2 N2 hz2 ⊢;have LP:=hi9 (show KLp w w2 R w1.heap.size x [] r (.slice none 0 0) from⟨K2,zeo.nil _ _,N2,X1.out.keep B2,R1.out.keep B2,zf G1.out (zc B2 (some R)),by omega⟩);clear hw2 hsz B2 K2 N2 X1 R1 G1 hz2;obtain⟨b1,hb1⟩:∃b1,b1=w1.heap.size:=⟨_,rfl⟩
 rw [←hb1] at hl LP ⊢;clear hb1 HS1;go_loopw [6,53] (fun l i wr=>∃(k:Nat) (last:ByteArray) (E:List Fe) (Q:List Nd) (v:Value),i = .int .i64 k∧l = .string last∧k≤x.n.toNat∧Hid (zpt m x.n.toNat r k last E Q)∧Hid (KLp w wr R b1 x E Q v)) (fun _ i _=>x.n.toNat-(intOf i).toNat)
 case atStart=>exact⟨0,_,[],r,_,rfl,rfl,Nat.zero_le _,HSL,LP⟩
 case round =>
  clear HSL LP;obtain⟨k,last,E,Q,v,rfl,rfl,hk,hL,hP⟩:=hrel;obtain⟨k0,k1,k2,k3,k4,k5,y0,y1,y2,y3,y4,y5⟩:=hP.out.K;obtain⟨n0,n1,n2,n3,-,-,-,-⟩:=hP.out.N;obtain⟨c0,c1,c2,c3,c4,c5,z0,z1,z2,z3,z4,z5⟩:=hP.out.X;have HO:=hi9 (fun g (hg:v.ownBlock=some g)=>hP.out.F.own.lt g hg);have HRb:=hi9 (show R<b1 from Nat.lt_trans HRL.out hl);by_cases hlt:k<x.n.toNat
  ·have hlt2:decide ((k:Int)<x.n)=true:=decide_eq_true (by omega);have hlen:=hL.out.2;go_wp2_with fail;refine(zmP R m ih last Q wr hP.out.D (by omega)).mono ?_;intro e w4 hpost;have hst:=zld (m:=m) (c:=x.n.toNat-k-1) (x:=last) (Q:=Q) (by omega);rw [show x.n.toNat-k-1+1=x.n.toNat-k by omega] at hst;have HST:=hi9 hst;clear hst;rcases h1:zdF m last Q with _|⟨s,b,kk,r'⟩
   ·rw [h1] at hpost;obtain⟨rfl,g4⟩:=hpost;have HP:=hi9 (show PP=none by rw [HPP.out,hL.out.1,HST.out,h1]);go_wp2_with fail;exact⟨rfl,by rw [HP.out];exact⟨rfl,zf hP.out.G g4⟩⟩
   ·rw [h1] at hpost;obtain⟨u,rfl,hkat,hrd,g4⟩:=hpost;obtain⟨o,n,s0,t0,pp,A,m0,cc,rfl⟩:=zdm hkat;have HL2:=hi9 (show zpt m x.n.toNat r (k+1) s (E ++ [⟨(s,b,kk),o,n,s0,t0,pp,A,m0,cc⟩]) r' from⟨by
     rw [hL.out.1,HST.out,h1,List.map_append]
     simp only [List.map_cons,List.map_nil]
     rw [show x.n.toNat-(k+1)=x.n.toNat-k-1 by omega]
     rcases js m (x.n.toNat-k-1) s r' with _|⟨f,r''⟩
     ·rfl
     ·simp only [zoY],by have:=ziA h1;rw [List.length_append];simp only [List.length_cons,List.length_nil];omega⟩)
    clear HST hL h1 k0 k1 k2 k3 k4 k5 y0 y1 y2 y3 y4 y5 n0 n1 n2 n3 c0 c1 c2 c3 c4 c5 z0 z1 z2 z3 z4 z5;have hz4:b1+2≤w4.heap.size:=Nat.le_trans hP.out.z g4.size;have hsr:=g4.size;have hzr:=hP.out.z;have K4:=hP.out.K.but g4 (fun e=>by injection e with e;have:=HRb.out;omega);have N4:=hP.out.N.but g4 (fun e=>by injection e with e;have:=HRb.out;omega);have X4:=hP.out.X.but g4 HNE.out;have F4:=hP.out.F.keep g4 (by have:=HRb.out;omega);have G4:=zf hP.out.G g4;have hk4:=hkat.mono (B':=fun g=>wr.heap.size≤g∧g<w4.heap.size) fun b h1 h2=>⟨h1,h2⟩
    have Ba:=za w4 (.cells #[.string s,.bool b,.int .i64 o,.int .i64 n,.string s0,.string t0,.pointer pp,.slice A m0 cc] 207);have Bb:=za (w4.alloc (.cells #[.string s,.bool b,.int .i64 o,.int .i64 n,.string s0,.string t0,.pointer pp,.slice A m0 cc] 207)) (.cells #[.string s,.bool b,.int .i64 o,.int .i64 n,.string s0,.string t0,.pointer pp,.slice A m0 cc] 207);have Bab:=Ba.trans (Bb.mono (by simp));have hsa:(w4.alloc (.cells #[.string s,.bool b,.int .i64 o,.int .i64 n,.string s0,.string t0,.pointer pp,.slice A m0 cc] 207)).heap.size=w4.heap.size+1:=by simp
    have hsb:((w4.alloc (.cells #[.string s,.bool b,.int .i64 o,.int .i64 n,.string s0,.string t0,.pointer pp,.slice A m0 cc] 207)).alloc (.cells #[.string s,.bool b,.int .i64 o,.int .i64 n,.string s0,.string t0,.pointer pp,.slice A m0 cc] 207)).heap.size=w4.heap.size+2:=by simp
    have rn:=zcC (w4.alloc (.cells #[.string s,.bool b,.int .i64 o,.int .i64 n,.string s0,.string t0,.pointer pp,.slice A m0 cc] 207)) [.string s,.bool b,.int .i64 o,.int .i64 n,.string s0,.string t0,.pointer pp,.slice A m0 cc] 207;rw [hsa] at rn;have K5:=hi9 (K4.keep Bab);have N5:=hi9 (N4.keep Bab);have X5:=hi9 (X4.keep Bab);have D5:=hi9 (hrd.keep Bab);have F5:=hi9 (F4.keepN (zc Bab none));have G5:=hi9 (zf G4 (zc Bab (some R)));have RN:=hi9 rn;have HSB:=hi9 hsb;have KK:=hi9 (show KAt ((w4.alloc (.cells #[.string s,.bool b,.int .i64 o,.int .i64 n,.string s0,.string t0,.pointer pp,.slice A m0 cc] 207)).alloc (.cells #[.string s,.bool b,.int .i64 o,.int .i64 n,.string s0,.string t0,.pointer pp,.slice A m0 cc] 207)) (fun g=>b1+2≤g∧some g≠v.ownBlock) kk [.int .i64 o,.int .i64 n,.string s0,.string t0,.pointer pp,.slice A m0 cc] from
     (hk4.cong fun g hg=>Bab.block g hg.2).mono fun g hg _=>⟨by have:=hg.1;omega,fun e=>by have:=(HO.out g e.symm).2;have:=hg.1;omega⟩)
    have HE:=hi9 (show E.length≤1000000 by omega);have hz5:b1<w4.heap.size:=by omega
    clear N4 X4 F4 G4 hk4 Ba Bb Bab hsa hsb rn hkat hrd g4 hP hz4 hsr hlen;obtain⟨k0,k1,k2,k3,k4,k5,y0,y1,y2,y3,y4,y5⟩:=K4;go_wp2_with (at_builtin;refine zgg rfl _ _ rfl (b1+2) v E rfl F5.out ⟨(s,b,kk),o,n,s0,t0,pp,A,m0,cc⟩ ⟨w4.heap.size+1,0,none⟩ 1 1 rfl rfl RN.out KK.out HE.out ?c1 ?_)
    case c1=>rw [HSB.out];omega
    intro v' w6 hrow hg;have hgo:∀g,v.ownBlock=some g→b1+2≤g:=fun g hg=>(HO.out g hg).1;have K6:=hi9 (K5.out.but hg (fun e=>by have:=hgo _ e.symm;omega));have N6:=hi9 (N5.out.but hg (fun e=>by have:=hgo _ e.symm;omega));have X6:=hi9 (X5.out.but hg (fun e=>by have:=hgo _ e.symm;omega));have D6:=hi9 (show RdK w6 R r' from by
     rcases hv:v.ownBlock with _|g
     ·rw [hv] at hg
      exact D5.out.but (b:=w6.heap.size+b1) ⟨hg.os,hg.tape,hg.output,hg.size,fun i hi _=>hg.block i hi (fun e=>nomatch e)⟩ (by have:=HRb.out;omega)
     ·rw [hv] at hg
      exact D5.out.but hg (by have:=hgo g hv;have:=HRb.out;omega))
    have G6:=hi9 (show w.grownBy w6 (some R) from by
     rcases hv:v.ownBlock with _|g
     ·rw [hv] at hg
      exact zf G5.out ⟨hg.os,hg.tape,hg.output,hg.size,fun i hi _=>hg.block i hi (fun e=>nomatch e)⟩
     ·rw [hv] at hg
      exact jO G5.out hg (by have:=hgo g hv;omega))
    have F6:=hi9 hrow;have HZ6:=hi9 (show b1+2≤w6.heap.size by have:=hg.size;rw [HSB.out] at this;omega);clear K5 N5 X5 D5 F5 G5 hg hrow k0 k1 k2 k3 k4 k5 y0 y1 y2 y3 y4 y5;obtain⟨k0,k1,k2,k3,k4,k5,y0,y1,y2,y3,y4,y5⟩:=K6.out;obtain⟨A',cp',hv',-,-,-⟩:=F6.out.fat;obtain⟨nl,hnl⟩:∃nl,nl=(E ++ [(⟨(s,b,kk),o,n,s0,t0,pp,A,m0,cc⟩:Fe)]).length:=⟨_,rfl⟩
    rw [←hnl] at hv';subst hv';clear hnl hgo;go_wp2_with fail;go_roundw
    case rel =>
     have gs:w6.grownBy (w6.setCell ⟨b1,5,none⟩ (.slice A' nl cp')) (some b1):=zg w6 ⟨b1,5,none⟩ (.slice A' nl cp');exact⟨k+1,s,E ++ [⟨(s,b,kk),o,n,s0,t0,pp,A,m0,cc⟩],r',_,by go_num,rfl,by omega,HL2,hi9 ⟨K6.out.set5 _,F6.out.keep gs (by omega),N6.out.but gs (fun e=>by injection e with e;omega),X6.out.but gs (fun e=>by injection e with e;omega),D6.out.but gs HRb.out,jO G6.out gs (by omega),by simpa [World.setCell] using HZ6.out⟩⟩
    case measure=>simp [intOf];omega
  ·have hlt2:decide ((k:Int)<x.n)=false:=decide_eq_false (by omega);have hkc:x.n.toNat-k=0:=by omega
   have HPQ:=hi9 (show PP=if 0≤x.n∧x.s=emp∧x.t=emp then some (.fs (ofL (E.map Fe.y)),Q) else none by
    rw [HPP.out,hL.out.1,hkc,←zpB]
    cases m <;> rfl)
   obtain⟨A,cp,hv,hfat,hle,hcm⟩:=hP.out.F.fat;have HFA:=hi9 hfat;have HLE:=hi9 hle;have HCM:=hi9 hcm;obtain⟨nl,hnl⟩:∃nl,nl=E.length:=⟨_,rfl⟩
   have HNL:=hi9 hnl;rw [←hnl] at hv;subst hv;have X3:=hi9 hP.out.X;have G3:=hi9 hP.out.G;have D3:=hi9 hP.out.D;have HZ:=hi9 hP.out.z;clear hnl hfat hle hcm hkc HPP hL hP ih HO;rcases ze4 x.s with hs|⟨hs,s1,s2⟩
   ·rcases ze4 x.t with ht|⟨ht,t1,t2⟩
    ·by_cases hn:0≤x.n
     ·have HP:=hi9 (show PP=some (.fs (ofL (E.map Fe.y)),Q) by rw [HPQ.out,if_pos ⟨hn,hs,ht⟩]);have hn2:decide (x.n<0)=false:=decide_eq_false (by omega);rw [hs] at k2;rw [ht] at k3;clear hs ht HPQ;go_wp2_with fail;have Y:=X3.out.set (.int .i64 46) (.int .i64 x.n) (.string ⟨#[]⟩) (.string ⟨#[]⟩) (.pointer none) (.slice A nl cp);have gs:=jG wr w.heap.size (.int .i64 46) (.int .i64 x.n) (.string ⟨#[]⟩) (.string ⟨#[]⟩) (.pointer none) (.slice A nl cp);have R4:=D3.out.but gs HRL.out;have G4:=jO G3.out gs (Nat.le_refl _);have K4:=HFA.out.cong (w':=((((((wr.setCell ⟨w.heap.size,0,none⟩ (.int .i64 46)).setCell ⟨w.heap.size,1,none⟩ (.int .i64 x.n)).setCell ⟨w.heap.size,2,none⟩ (.string ⟨#[]⟩)).setCell ⟨w.heap.size,3,none⟩ (.string ⟨#[]⟩)).setCell ⟨w.heap.size,4,none⟩ (.pointer none)).setCell ⟨w.heap.size,5,none⟩ (.slice A nl cp))) fun b hb=>zag wr w.heap.size (.int .i64 46) (.int .i64 x.n) (.string ⟨#[]⟩) (.string ⟨#[]⟩) (.pointer none) (.slice A nl cp) (by omega);obtain⟨S,hS⟩:∃S,((((((wr.setCell ⟨w.heap.size,0,none⟩ (.int .i64 46)).setCell ⟨w.heap.size,1,none⟩ (.int .i64 x.n)).setCell ⟨w.heap.size,2,none⟩ (.string ⟨#[]⟩)).setCell ⟨w.heap.size,3,none⟩ (.string ⟨#[]⟩)).setCell ⟨w.heap.size,4,none⟩ (.pointer none)).setCell ⟨w.heap.size,5,none⟩ (.slice A nl cp))=S:=⟨_,rfl⟩
      rw [hS] at Y gs R4 G4 K4 ⊢;clear hS gs;obtain⟨j0,j1,j2,j3,j4,j5,-,-,-,-,-,-⟩:=Y;refine bodyPost_ret (v := .agg #[.int .i64 46,.int .i64 x.n,.string ⟨#[]⟩,.string ⟨#[]⟩,.pointer none,.slice A nl cp]) (by simp [results,Tryz.results111,go_sem,j0,j1,j2,j3,j4,j5]) rfl ?_;rw [HP.out];have hlen:(ofL (E.map Fe.y)).len=nl:=by rw [zkU,List.length_map,HNL.out]
      refine⟨[.int .i64 46,.int .i64 x.n,.string ⟨#[]⟩,.string ⟨#[]⟩,.pointer none,.slice A nl cp],rfl,⟨x.n,A,cp,by rw [hlen];rfl,by rw [hlen,HNL.out];exact HLE.out,HCM.out,?_⟩,R4,G4⟩;exact K4.mono fun b hb _=>by omega
     ·have HP:=hi9 (show PP=none by rw [HPQ.out,if_neg (fun h=>hn h.1)]);have hn2:decide (x.n<0)=true:=decide_eq_true (by omega);rw [hs] at k2;rw [ht] at k3;clear hs ht HPQ hn;go_wp2_with fail;exact⟨rfl,by rw [HP.out];exact⟨rfl,G3.out⟩⟩
    ·have HP:=hi9 (show PP=none by rw [HPQ.out,if_neg (fun h=>ht h.2.2)]);rw [hs] at k2;clear hs ht HPQ;go_wp2_with fail;exact⟨rfl,by rw [HP.out];exact⟨rfl,G3.out⟩⟩
   ·have HP:=hi9 (show PP=none by rw [HPQ.out,if_neg (fun h=>hs h.2.1)]);clear hs HPQ;go_wp2_with fail;exact⟨rfl,by rw [HP.out];exact⟨rfl,G3.out⟩⟩
theorem zlt(R:Nat):∀m:Nat,m≤1000→znU R m
 | 0,_=>fun Q w h hl=>by
  have:Q = []:=List.eq_nil_of_length_eq_zero (by omega);subst this;exact zmq R 0 w h
 | m+1,hm=>fun Q w h hl=>by
  have ih:=zlt R m (by omega)
  cases Q with
  | nil=>exact zmq R _ w h
  | cons x r =>
   have hl':r.length≤m:=by simpa using hl
   by_cases hb:jq x.op
   ·exact zo8 R m x r w h hb
   by_cases h4:x.op=44
   ·exact zpN R m x r w h h4
   by_cases h5:x.op=45
   ·exact zp2 R m ih x r hl' w h h5
   by_cases h6:x.op=46
   ·exact zp0 R m ih (by omega) x r hl' w h h6
   exact zo4 R m x r w h hb h4 h5 h6
theorem zjy(p q:Addr)(w:World):
 CallsD Tryz.prog 110 #[.pointer (some p),.pointer (some q)] .returning w fun e u' w'=>e = .returned (.tuple #[])∧u' = .returning∧w'=w:=by
 refine callsD_of_wpS Tryz.func110 rfl fun c₀ cs hu=>?_;apply wpS_seq;apply wpS_region;simp [wpOpsS,go_sem,recoverD,hu,Tryz.ntmps110,Exit.thenS];refine wpS_of_wp ?_;go_wp2_with fail;cases c₀;simp_all [bodyPostS,results,Tryz.results110]
theorem zli(E F:Nat)(x0 x1 x2 x3 x4 x5 v:Value)(older:List PanicEntry)(w:World)(h:Bx6 w E x0 x1 x2 x3 x4 x5)(hF:w.cell? ⟨F,0,none⟩=some v)(zF:w.frozen? ⟨F,0,none⟩=false)(hne:E≠F):
 CallsD Tryz.prog 110 #[.pointer (some ⟨E,0,none⟩),.pointer (some ⟨F,0,none⟩)] (.panicking ({ v := .iface 193 (.agg #[]),recovered:=false } :: older)) w fun e u' w' =>
  e = .returned (.tuple #[])∧u' = .panicking ({ v := .iface 193 (.agg #[]),recovered:=true } :: older)∧w'=(((((((w.setCell ⟨E,0,none⟩ (.int .i64 0)).setCell ⟨E,1,none⟩ (.int .i64 0)).setCell ⟨E,2,none⟩ (.string ⟨#[]⟩)).setCell ⟨E,3,none⟩ (.string ⟨#[]⟩)).setCell ⟨E,4,none⟩ (.pointer none)).setCell ⟨E,5,none⟩ (.slice none 0 0)).setCell ⟨F,0,none⟩ (.iface 28 (.int .i64 1))).alloc (.cells #[] 193):=by
 have hl:E<w.heap.size:=block_lt_of_cell h.c0;have hl2:F<w.heap.size:=block_lt_of_cell hF;have hne2:F≠E:=hne.symm;obtain⟨c0,c1,c2,c3,c4,c5,z0,z1,z2,z3,z4,z5⟩:=h;have hta:∀w,(Instr.typeAssert (.iface 193 (.agg #[])) 20 193 true).run Tryz.prog w = .ok (.tuple #[.agg #[],.bool true]) w:=fun _=>by kernel_rfl
 refine callsD_of_wpS Tryz.func110 rfl fun c₀ cs hu=>?_;apply wpS_seq;apply wpS_region;simp [wpOpsS,go_sem,recoverD,hu,Tryz.ntmps110];refine wpS_of_wp ?_;go_wp2_with fail;cases c₀;simp [bodyPostS,results,Tryz.results110]
def zhI(w:World)(P:List Nd)(e:Ending)(w':World):Prop :=
 Below w.heap.size w w'∧∃(o n:Int) (s t:ByteArray) (p A:Option Addr) (m c:Nat),e = .returned (.tuple #[.agg #[.int .i64 o,.int .i64 n,.string s,.string t,.pointer p,.slice A m c],zao (zo P)])∧
  (zo P=0→∃k,k.valid∧P=k.flat∧KAt w' (fun b=>w.heap.size≤b) k [.int .i64 o,.int .i64 n,.string s,.string t,.pointer p,.slice A m c])
theorem zph(A:Option Addr)(n c:Nat)(P:List Nd)(w:World)(hn:n=P.length)(hm:n≤maxLen)(h:200<n):
 Calls Tryz.prog 95 #[.slice A n c] w (zhI w P):=by
 have HF:=hi9 (show zo P=4 by unfold zo;rw [if_pos (by omega)]);unfold maxLen at hm;clear hn;go_enter_defers Tryz.func95,Tryz.ntmps95;go_wp2_with fail;simp [bodyPostD,Leaves,results,Tryz.results95,go_sem];refine⟨(za w _).trans ((za _ _).mono (by simp)),0,0,⟨#[]⟩,⟨#[]⟩,none,none,0,0,by rw [HF.out];rfl,fun h=>?_⟩;rw [HF.out] at h;cases h
theorem zgT{w w1:World}(v:Value)(h:(((w.alloc (.cells #[.int .i64 0,.int .i64 0,.string ⟨#[]⟩,.string ⟨#[]⟩,.pointer none,.slice none 0 0] 149)).alloc (.cells #[.nilIface] 33)).alloc (.cells #[v] 196)).grownBy w1 (some (w.heap.size+2))):
 Below w.heap.size w w1∧Bx6 w1 w.heap.size (.int .i64 0) (.int .i64 0) (.string ⟨#[]⟩) (.string ⟨#[]⟩) (.pointer none) (.slice none 0 0)∧w1.cell? ⟨w.heap.size+1,0,none⟩=some .nilIface∧w1.frozen? ⟨w.heap.size+1,0,none⟩=false∧w.heap.size+3≤w1.heap.size:=by
 have hX:=((jE w (.int .i64 0) (.int .i64 0) (.string ⟨#[]⟩) (.string ⟨#[]⟩) (.pointer none) (.slice none 0 0) 149).keep (za _ (.cells #[.nilIface] 33))).keep (za _ (.cells #[v] 196));have hz1:(w.alloc (.cells #[.int .i64 0,.int .i64 0,.string ⟨#[]⟩,.string ⟨#[]⟩,.pointer none,.slice none 0 0] 149)).heap.size=w.heap.size+1:=by simp
 have hz2:((w.alloc (.cells #[.int .i64 0,.int .i64 0,.string ⟨#[]⟩,.string ⟨#[]⟩,.pointer none,.slice none 0 0] 149)).alloc (.cells #[.nilIface] 33)).heap.size=w.heap.size+2:=by simp
 have hz3:(((w.alloc (.cells #[.int .i64 0,.int .i64 0,.string ⟨#[]⟩,.string ⟨#[]⟩,.pointer none,.slice none 0 0] 149)).alloc (.cells #[.nilIface] 33)).alloc (.cells #[v] 196)).heap.size=w.heap.size+3:=by simp
 have hE:=zb (za _ (.cells #[v] 196)) (jg (w.alloc (.cells #[.int .i64 0,.int .i64 0,.string ⟨#[]⟩,.string ⟨#[]⟩,.pointer none,.slice none 0 0] 149)) #[.nilIface] 33 0 (v := .nilIface) rfl);rw [hz1] at hE;have hF:(((w.alloc (.cells #[.int .i64 0,.int .i64 0,.string ⟨#[]⟩,.string ⟨#[]⟩,.pointer none,.slice none 0 0] 149)).alloc (.cells #[.nilIface] 33)).alloc (.cells #[v] 196)).frozen? ⟨w.heap.size+1,0,none⟩=false:=by
  rw [(za _ _).frozen (p:=⟨w.heap.size+1,0,none⟩) (by rw [hz2];exact Nat.lt_succ_self _)];simp
 have hne1:some w.heap.size≠some (w.heap.size+2):=fun e=>by injection e with e;omega
 have hne2:some (w.heap.size+1)≠some (w.heap.size+2):=fun e=>by injection e with e;omega
 refine⟨⟨h.os,h.tape,h.output,?_,fun k hk=>?_⟩,hX.but h hne1,h.cell hE hne2,(World.frozen?_of_block (a:=⟨w.heap.size+1,0,none⟩) (h.block (w.heap.size+1) (by rw [hz3];omega) hne2)).trans hF,by rw [←hz3];exact h.size⟩
 ·have:=h.size;rw [hz3] at this;omega
 ·rw [h.block k (by rw [hz3];omega) (fun e=>by injection e with e;omega),(za _ _).block k (by rw [hz2];omega),(za _ _).block k (by rw [hz1];omega),(za _ _).block k hk]
theorem zoU(A:Option Addr)(n c:Nat)(P:List Nd)(w:World)(hns:Ns w A n c P)(h:¬200<n):
 Calls Tryz.prog 95 #[.slice A n c] w (zhI w P):=by
 have hn:n=P.length:=hns.len;have hm:=hns.max;have hcm:=hns.cap;unfold maxLen at hm;have HPK:=hi9 (show zo P=if(zcY P).isSome then 0 else 1 by unfold zo;rw [if_neg (by omega)]);have HRK:=hi9 (show zcY P=(match zw 200 P with|some (k,[])=>some k|_=>none) by unfold zcY;rw [zcn (n:=P.length) (n':=200) (Nat.le_refl _) (by omega)];rcases zw 200 P with _|⟨k,_|_⟩<;> rfl);have hz1:(w.alloc (.cells #[.int .i64 0,.int .i64 0,.string ⟨#[]⟩,.string ⟨#[]⟩,.pointer none,.slice none 0 0] 149)).heap.size=w.heap.size+1:=by simp
 have hz2:((w.alloc (.cells #[.int .i64 0,.int .i64 0,.string ⟨#[]⟩,.string ⟨#[]⟩,.pointer none,.slice none 0 0] 149)).alloc (.cells #[.nilIface] 33)).heap.size=w.heap.size+2:=by simp
 have hb3:Below w.heap.size w (((w.alloc (.cells #[.int .i64 0,.int .i64 0,.string ⟨#[]⟩,.string ⟨#[]⟩,.pointer none,.slice none 0 0] 149)).alloc (.cells #[.nilIface] 33)).alloc (.cells #[.slice A n c] 196)):=
  (za w _).trans (((za _ _).trans ((za _ _).mono (by rw [hz2,hz1];omega))).mono (by rw [hz1];omega))
 have hrd:RdK (((w.alloc (.cells #[.int .i64 0,.int .i64 0,.string ⟨#[]⟩,.string ⟨#[]⟩,.pointer none,.slice none 0 0] 149)).alloc (.cells #[.nilIface] 33)).alloc (.cells #[.slice A n c] 196)) (w.heap.size+2) P:=by
  refine⟨⟨A,n,c,?_,hns.keep hb3,fun h0 a e=>?_⟩,?_⟩
  ·have:=jg ((w.alloc (.cells #[.int .i64 0,.int .i64 0,.string ⟨#[]⟩,.string ⟨#[]⟩,.pointer none,.slice none 0 0] 149)).alloc (.cells #[.nilIface] 33)) #[.slice A n c] 196 0 (v := .slice A n c) rfl;rwa [hz2] at this
  ·have:=hns.at_.lt h0 a e;omega
  ·exact World.frozen?_alloc_at _ _ _ _ hz2.symm
 have C:=hi9 (zlt (w.heap.size+2) 200 (by omega) P _ hrd (by omega));have hmf:∀(fn:Fn) (first cap:Array Value) (w:World),(Instr.makeFunc fn first cap).run Tryz.prog w = .ok (.func fn first cap) w:=fun _ _ _ _=>rfl;clear hrd hb3 hz1 hz2 hn;go_enter_defers Tryz.func95,Tryz.ntmps95;go_wp2_with fail;refine C.out.mono ?_;intro e w1 hpost;rcases hp:zw 200 P with _|⟨k,r⟩
 ·rw [hp] at hpost;obtain⟨rfl,g1⟩:=hpost;have HF:=hi9 (show zo P=1 by rw [HPK.out,HRK.out,hp];rfl);obtain⟨b1,x1,c1,f1,z1⟩:=zgT _ g1;clear g1 hp HPK HRK C;go_wp2_with fail;refine leaves_cons (f:=110) (args:=#[.pointer (some ⟨w.heap.size,0,none⟩),.pointer (some ⟨w.heap.size+1,0,none⟩)]) (by simp) (by simp [go_sem]) ?_;refine(zli w.heap.size (w.heap.size+1) _ _ _ _ _ _ _ [] w1 x1 c1 f1 (by omega)).mono ?_;rintro e u' w2 ⟨rfl,rfl,rfl⟩;have hl:w.heap.size<w1.heap.size:=by omega
  have hl2:w.heap.size+1<w1.heap.size:=by omega
  obtain⟨y0,y1,y2,y3,y4,y5,-,-,-,-,-,-⟩:=x1.set (.int .i64 0) (.int .i64 0) (.string ⟨#[]⟩) (.string ⟨#[]⟩) (.pointer none) (.slice none 0 0);simp [Leaves,settle,results,Tryz.results95,go_sem,c1,x1.c0,x1.c1,x1.c2,x1.c3,x1.c4,x1.c5,hl,hl2];refine⟨((zac b1 (Nat.le_refl _) _ _ _ _ _ _).setCell (p:=⟨w.heap.size+1,0,none⟩) (Nat.le_succ _) _).alloc (by simp [World.setCell];omega) _,0,0,⟨#[]⟩,⟨#[]⟩,none,none,0,0,by rw [HF.out];rfl,fun h=>?_⟩;rw [HF.out] at h;cases h
 ·rw [hp] at hpost;obtain⟨v,rfl,hk,hr,g1⟩:=hpost;obtain⟨o,nn,s0,t0,pp,A1,m1,cc,rfl⟩:=zdm hk;have HV:=hi9 ((zai _).1 _ _ _ hp);obtain⟨b1,x1,c1,f1,z1⟩:=zgT _ g1;obtain⟨⟨A2,n2,c2,rc,rns,-⟩,-⟩:=hr;have hn2:n2=r.length:=rns.len;have hl0:w.heap.size<w1.heap.size:=by omega
  have hl1:w.heap.size+1<w1.heap.size:=by omega
  have hl2:w.heap.size+2<w1.heap.size:=by omega
  have HK:=hi9 (hk.mono (B':=fun b=>w.heap.size+3≤b) fun b h1 _=>by simpa using h1);clear g1 C rns hk;have HX:=hi9 x1;obtain⟨x0',x1',x2',x3',x4',x5',q0,q1,q2,q3,q4,q5⟩:=x1
  cases r with
  | nil =>
   have HF:=hi9 (show zo P=0 by rw [HPK.out,HRK.out,hp];rfl)
   simp only [List.length_nil] at hn2
   subst hn2
   clear hp HPK HRK
   go_wp2_with fail
   refine leaves_cons (f:=110) (args:=#[.pointer (some ⟨w.heap.size,0,none⟩),.pointer (some ⟨w.heap.size+1,0,none⟩)]) (by simp) (by simp [go_sem]) ?_
   refine(zjy ⟨w.heap.size,0,none⟩ ⟨w.heap.size+1,0,none⟩ _).mono ?_
   rintro e u' w2 ⟨rfl,rfl,rfl⟩
   have gg:=zf (jG w1 w.heap.size (.int .i64 o) (.int .i64 nn) (.string s0) (.string t0) (.pointer pp) (.slice A1 m1 cc)) (jG ((((((w1.setCell ⟨w.heap.size,0,none⟩ (.int .i64 o)).setCell ⟨w.heap.size,1,none⟩ (.int .i64 nn)).setCell ⟨w.heap.size,2,none⟩ (.string s0)).setCell ⟨w.heap.size,3,none⟩ (.string t0)).setCell ⟨w.heap.size,4,none⟩ (.pointer pp)).setCell ⟨w.heap.size,5,none⟩ (.slice A1 m1 cc)) w.heap.size (.int .i64 o) (.int .i64 nn) (.string s0) (.string t0) (.pointer pp) (.slice A1 m1 cc))
   have hne:some (w.heap.size+1)≠some w.heap.size:=fun e=>by injection e with e;omega
   have Y:=((HX.out.set (.int .i64 o) (.int .i64 nn) (.string s0) (.string t0) (.pointer pp) (.slice A1 m1 cc)).set (.int .i64 o) (.int .i64 nn) (.string s0) (.string t0) (.pointer pp) (.slice A1 m1 cc)).but (zg _ ⟨w.heap.size+1,0,none⟩ .nilIface) (fun e=>hne e.symm)
   have eF:=World.cell?_setCell_same _ _ .nilIface (gg.cell (a:=⟨w.heap.size+1,0,none⟩) c1 hne)
   have BW:Below w.heap.size w (((((((((((((w1.setCell ⟨w.heap.size,0,none⟩ (.int .i64 o)).setCell ⟨w.heap.size,1,none⟩ (.int .i64 nn)).setCell ⟨w.heap.size,2,none⟩ (.string s0)).setCell ⟨w.heap.size,3,none⟩ (.string t0)).setCell ⟨w.heap.size,4,none⟩ (.pointer pp)).setCell ⟨w.heap.size,5,none⟩ (.slice A1 m1 cc)).setCell ⟨w.heap.size,0,none⟩ (.int .i64 o)).setCell ⟨w.heap.size,1,none⟩ (.int .i64 nn)).setCell ⟨w.heap.size,2,none⟩ (.string s0)).setCell ⟨w.heap.size,3,none⟩ (.string t0)).setCell ⟨w.heap.size,4,none⟩ (.pointer pp)).setCell ⟨w.heap.size,5,none⟩ (.slice A1 m1 cc)).setCell ⟨w.heap.size+1,0,none⟩ .nilIface):=(zac (zac b1 (Nat.le_refl _) (.int .i64 o) (.int .i64 nn) (.string s0) (.string t0) (.pointer pp) (.slice A1 m1 cc)) (Nat.le_refl _) (.int .i64 o) (.int .i64 nn) (.string s0) (.string t0) (.pointer pp) (.slice A1 m1 cc)).setCell (p:=⟨w.heap.size+1,0,none⟩) (Nat.le_succ _) .nilIface
   have KW:∀b,w.heap.size+3≤b→(((((((((((((w1.setCell ⟨w.heap.size,0,none⟩ (.int .i64 o)).setCell ⟨w.heap.size,1,none⟩ (.int .i64 nn)).setCell ⟨w.heap.size,2,none⟩ (.string s0)).setCell ⟨w.heap.size,3,none⟩ (.string t0)).setCell ⟨w.heap.size,4,none⟩ (.pointer pp)).setCell ⟨w.heap.size,5,none⟩ (.slice A1 m1 cc)).setCell ⟨w.heap.size,0,none⟩ (.int .i64 o)).setCell ⟨w.heap.size,1,none⟩ (.int .i64 nn)).setCell ⟨w.heap.size,2,none⟩ (.string s0)).setCell ⟨w.heap.size,3,none⟩ (.string t0)).setCell ⟨w.heap.size,4,none⟩ (.pointer pp)).setCell ⟨w.heap.size,5,none⟩ (.slice A1 m1 cc)).setCell ⟨w.heap.size+1,0,none⟩ .nilIface).heap[b]?=w1.heap[b]?:=fun b hb=>by
    rw [Below.heap_setCell _ _ _ b (show b≠w.heap.size+1 by omega),zag _ _ _ _ _ _ _ _ (by omega),zag _ _ _ _ _ _ _ _ (by omega)]
   obtain⟨W,hW⟩:∃W,(((((((((((((w1.setCell ⟨w.heap.size,0,none⟩ (.int .i64 o)).setCell ⟨w.heap.size,1,none⟩ (.int .i64 nn)).setCell ⟨w.heap.size,2,none⟩ (.string s0)).setCell ⟨w.heap.size,3,none⟩ (.string t0)).setCell ⟨w.heap.size,4,none⟩ (.pointer pp)).setCell ⟨w.heap.size,5,none⟩ (.slice A1 m1 cc)).setCell ⟨w.heap.size,0,none⟩ (.int .i64 o)).setCell ⟨w.heap.size,1,none⟩ (.int .i64 nn)).setCell ⟨w.heap.size,2,none⟩ (.string s0)).setCell ⟨w.heap.size,3,none⟩ (.string t0)).setCell ⟨w.heap.size,4,none⟩ (.pointer pp)).setCell ⟨w.heap.size,5,none⟩ (.slice A1 m1 cc)).setCell ⟨w.heap.size+1,0,none⟩ .nilIface)=W:=⟨_,rfl⟩
   rw [hW] at Y eF BW KW ⊢
   clear hW gg
   obtain⟨y0,y1,y2,y3,y4,y5,-,-,-,-,-,-⟩:=Y
   simp [Leaves,settle,results,Tryz.results95,go_sem,y0,y1,y2,y3,y4,y5,eF]
   refine⟨BW,o,nn,s0,t0,pp,A1,m1,cc,by rw [HF.out];rfl,fun _=>⟨k,HV.out.1,by simpa using HV.out.2,?_⟩⟩
   exact(HK.out.cong fun b hb=>KW b hb).mono fun b hb _=>by omega
  | cons x r =>
   have HF:=hi9 (show zo P=1 by rw [HPK.out,HRK.out,hp];rfl)
   have hn3:0<n2:=by rw [hn2,List.length_cons];omega
   clear hp HPK HRK hn2
   go_wp2_with fail
   refine leaves_cons (f:=110) (args:=#[.pointer (some ⟨w.heap.size,0,none⟩),.pointer (some ⟨w.heap.size+1,0,none⟩)]) (by simp) (by simp [go_sem]) ?_
   refine(zjy ⟨w.heap.size,0,none⟩ ⟨w.heap.size+1,0,none⟩ _).mono ?_
   rintro e u' w2 ⟨rfl,rfl,rfl⟩
   have gg:=zf (jG w1 w.heap.size (.int .i64 o) (.int .i64 nn) (.string s0) (.string t0) (.pointer pp) (.slice A1 m1 cc)) (jG ((((((w1.setCell ⟨w.heap.size,0,none⟩ (.int .i64 o)).setCell ⟨w.heap.size,1,none⟩ (.int .i64 nn)).setCell ⟨w.heap.size,2,none⟩ (.string s0)).setCell ⟨w.heap.size,3,none⟩ (.string t0)).setCell ⟨w.heap.size,4,none⟩ (.pointer pp)).setCell ⟨w.heap.size,5,none⟩ (.slice A1 m1 cc)) w.heap.size (.int .i64 0) (.int .i64 0) (.string ⟨#[]⟩) (.string ⟨#[]⟩) (.pointer none) (.slice none 0 0))
   have hne:some (w.heap.size+1)≠some w.heap.size:=fun e=>by injection e with e;omega
   have Y:=((HX.out.set (.int .i64 o) (.int .i64 nn) (.string s0) (.string t0) (.pointer pp) (.slice A1 m1 cc)).set (.int .i64 0) (.int .i64 0) (.string ⟨#[]⟩) (.string ⟨#[]⟩) (.pointer none) (.slice none 0 0)).but (zg _ ⟨w.heap.size+1,0,none⟩ (.iface 28 (.int .i64 1))) (fun e=>hne e.symm)
   have eF:=World.cell?_setCell_same _ _ (.iface 28 (.int .i64 1)) (gg.cell (a:=⟨w.heap.size+1,0,none⟩) c1 hne)
   have BW:Below w.heap.size w (((((((((((((w1.setCell ⟨w.heap.size,0,none⟩ (.int .i64 o)).setCell ⟨w.heap.size,1,none⟩ (.int .i64 nn)).setCell ⟨w.heap.size,2,none⟩ (.string s0)).setCell ⟨w.heap.size,3,none⟩ (.string t0)).setCell ⟨w.heap.size,4,none⟩ (.pointer pp)).setCell ⟨w.heap.size,5,none⟩ (.slice A1 m1 cc)).setCell ⟨w.heap.size,0,none⟩ (.int .i64 0)).setCell ⟨w.heap.size,1,none⟩ (.int .i64 0)).setCell ⟨w.heap.size,2,none⟩ (.string ⟨#[]⟩)).setCell ⟨w.heap.size,3,none⟩ (.string ⟨#[]⟩)).setCell ⟨w.heap.size,4,none⟩ (.pointer none)).setCell ⟨w.heap.size,5,none⟩ (.slice none 0 0)).setCell ⟨w.heap.size+1,0,none⟩ (.iface 28 (.int .i64 1))):=(zac (zac b1 (Nat.le_refl _) (.int .i64 o) (.int .i64 nn) (.string s0) (.string t0) (.pointer pp) (.slice A1 m1 cc)) (Nat.le_refl _) (.int .i64 0) (.int .i64 0) (.string ⟨#[]⟩) (.string ⟨#[]⟩) (.pointer none) (.slice none 0 0)).setCell (p:=⟨w.heap.size+1,0,none⟩) (Nat.le_succ _) (.iface 28 (.int .i64 1))
   have KW:∀b,w.heap.size+3≤b→(((((((((((((w1.setCell ⟨w.heap.size,0,none⟩ (.int .i64 o)).setCell ⟨w.heap.size,1,none⟩ (.int .i64 nn)).setCell ⟨w.heap.size,2,none⟩ (.string s0)).setCell ⟨w.heap.size,3,none⟩ (.string t0)).setCell ⟨w.heap.size,4,none⟩ (.pointer pp)).setCell ⟨w.heap.size,5,none⟩ (.slice A1 m1 cc)).setCell ⟨w.heap.size,0,none⟩ (.int .i64 0)).setCell ⟨w.heap.size,1,none⟩ (.int .i64 0)).setCell ⟨w.heap.size,2,none⟩ (.string ⟨#[]⟩)).setCell ⟨w.heap.size,3,none⟩ (.string ⟨#[]⟩)).setCell ⟨w.heap.size,4,none⟩ (.pointer none)).setCell ⟨w.heap.size,5,none⟩ (.slice none 0 0)).setCell ⟨w.heap.size+1,0,none⟩ (.iface 28 (.int .i64 1))).heap[b]?=w1.heap[b]?:=fun b hb=>by
    rw [Below.heap_setCell _ _ _ b (show b≠w.heap.size+1 by omega),zag _ _ _ _ _ _ _ _ (by omega),zag _ _ _ _ _ _ _ _ (by omega)]
   obtain⟨W,hW⟩:∃W,(((((((((((((w1.setCell ⟨w.heap.size,0,none⟩ (.int .i64 o)).setCell ⟨w.heap.size,1,none⟩ (.int .i64 nn)).setCell ⟨w.heap.size,2,none⟩ (.string s0)).setCell ⟨w.heap.size,3,none⟩ (.string t0)).setCell ⟨w.heap.size,4,none⟩ (.pointer pp)).setCell ⟨w.heap.size,5,none⟩ (.slice A1 m1 cc)).setCell ⟨w.heap.size,0,none⟩ (.int .i64 0)).setCell ⟨w.heap.size,1,none⟩ (.int .i64 0)).setCell ⟨w.heap.size,2,none⟩ (.string ⟨#[]⟩)).setCell ⟨w.heap.size,3,none⟩ (.string ⟨#[]⟩)).setCell ⟨w.heap.size,4,none⟩ (.pointer none)).setCell ⟨w.heap.size,5,none⟩ (.slice none 0 0)).setCell ⟨w.heap.size+1,0,none⟩ (.iface 28 (.int .i64 1)))=W:=⟨_,rfl⟩
   rw [hW] at Y eF BW KW ⊢
   clear hW gg
   obtain⟨y0,y1,y2,y3,y4,y5,-,-,-,-,-,-⟩:=Y
   simp [Leaves,settle,results,Tryz.results95,go_sem,y0,y1,y2,y3,y4,y5,eF]
   refine⟨BW,0,0,⟨#[]⟩,⟨#[]⟩,none,none,0,0,by rw [HF.out];rfl,fun h=>?_⟩
   rw [HF.out] at h
   cases h
theorem ze8(A:Option Addr)(n c:Nat)(P:List Nd)(w:World)(hns:Ns w A n c P):Calls Tryz.prog 95 #[.slice A n c] w (zhI w P):=by
 by_cases h:200<n
 ·exact zph A n c P w hns.len hns.max h
 ·exact zoU A n c P w hns h
theorem znm(n m:Int)(ad:Addr)(w:World)(h0:w.cell? ad=some (zao n))(h1:w.cell? ⟨ad.block,ad.off+1,none⟩=some (zao m)):
 Calls Tryz.prog 118 #[.slice (some ad) 2 2] w fun e w'=>e = .returned (zao (if n=0 then m else n))∧Below w.heap.size w w':=by
 obtain⟨f,hf⟩:∃f:Int,f=if n=0 then m else n:=⟨_,rfl⟩
 rw [←hf];have HF:=hi9 hf;clear hf;have H0:=hi9 h0;have H1:=hi9 h1;clear h0 h1;go_enter Tryz.func118,Tryz.ntmps118;go_wp2_with fail;go_loopw [4,7] (fun _ i wr=>wr=w∧((i = .int .i64 0)∨(i = .int .i64 1∧n=0)∨(i = .int .i64 2∧n=0∧m=0))) (fun _ i _=>2-(intOf i).toNat)
 case atStart=>exact⟨rfl,.inl rfl⟩
 case round =>
  obtain⟨rfl,hrel⟩:=hrel;rcases hrel with rfl|⟨rfl,hn⟩|⟨rfl,hn,hm⟩
  ·have h0:=H0.out;by_cases hn:n=0
   ·have HN:=hi9 hn;rw [hn,zM] at h0;clear hn;go_wp2_with fail;go_roundw
    case rel=>exact⟨trivial,.inr (.inl ⟨rfl,HN.out⟩)⟩
    case measure=>simp [intOf]
   ·have HN:=hi9 hn;rw [jc hn] at h0;clear hn;go_wp2_with fail;go_ret;exact⟨by rw [HF.out,if_neg HN.out,jc HN.out];rfl,Below.refl _ _⟩
  ·have h1:=H1.out;have HN:=hi9 hn;clear hn;by_cases hm:m=0
   ·have HM:=hi9 hm;rw [hm,zM] at h1;clear hm;go_wp2_with fail;go_roundw
    case rel=>exact⟨trivial,.inr (.inr ⟨rfl,HN.out,HM.out⟩)⟩
    case measure=>simp [intOf]
   ·have HM:=hi9 hm;rw [jc hm] at h1;clear hm;go_wp2_with fail;go_ret;exact⟨by rw [HF.out,if_pos HN.out,jc HM.out];rfl,Below.refl _ _⟩
  ·have HN:=hi9 hn;have HM:=hi9 hm;clear hn hm;go_wp2_with fail;go_ret;exact⟨by rw [HF.out,if_pos HN.out,HM.out];rfl,Below.refl _ _⟩
end Go.Proofs.YtjcdeikbghjpkaaGreatDoor
