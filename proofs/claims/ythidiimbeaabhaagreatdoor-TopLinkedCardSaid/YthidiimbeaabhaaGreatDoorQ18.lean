/-
  strings.NewReplacer at four texts of one byte or two, and its Replace: the ..
-/
import Derived.Deep.WholeRow
import Derived.Laws.CopyOwn
import Derived.Shelf.Lay
import Derived.Test.YthidiimbeaabhaaGreatDoorQ3
import Derived.Test.YthidiimbeaabhaaGreatDoorQ17
set_option maxRecDepth 100000
set_option maxHeartbeats 4000000
namespace Go.Proofs.YthidiimbeaabhaaGreatDoor
open Go.RowKit Go.Wk
theorem Bl:(Tryz.prog.info? 9).map (λi=>(i.zero,i.size,i.bytes))=some (some (.string ⟨#[]⟩),1,16):=by kernel_rfl
noncomputable def ke(v:Value):Array Value:=Tryz.zeroCells298.setIfInBounds 256 v
theorem si:Tryz.zeroCells298=Array.replicate 257 (.slice none 0 0):=by kernel_rfl
theorem qH(v:Value):ke v=(Array.replicate 257 (.slice none 0 0)).setIfInBounds 256 v:=by unfold ke;rw [si]
theorem yd(v:Value):(ke v).size=257:=by rw [qH];simp
theorem wY(v:Value)(k:Nat)(h:k<256):(ke v)[k]?=some (.slice none 0 0):=by
 rw [qH,Array.getElem?_setIfInBounds];rw [if_neg (by omega),Array.getElem?_replicate,if_pos (by omega)]
theorem pS(v:Value):(ke v)[256]?=some v:=by rw [qH];simp
structure Tab(w:World)(X:Nat)(f:Nat->Value)(z:Value):Prop where
 at_:∀k,k<256->w.cell? ⟨X,k,none⟩=some (f k)
 last:w.cell? ⟨X,256,none⟩=some z
 thaw:∀k,k<=256->w.frozen? ⟨X,k,none⟩=false
theorem zr{w:World}{b k:Nat}{arr:Array Value}{t:TypeId}{fz:Nat × Nat}{u:Value}(h:w.heap[b]?=some (.cells arr t fz))(hu:arr[k]?=some u):w.cell? ⟨b,k,none⟩=some u:=by
 rw [cell_of_row _ _ k arr t fz h];exact hu
theorem EX(w:World)(v:Value):Tab (w.alloc (.cells (ke v) 298)) w.heap.size (λ_ => .slice none 0 0) v :=
 ⟨λk h=>zr (heap_alloc_last w _) (wY v k h),zr (heap_alloc_last w _) (pS v),λk _=>by simp⟩
theorem Tab.lt{w:World}{X:Nat}{f:Nat->Value}{z:Value}(h:Tab w X f z):X<w.heap.size:=block_lt_of_cell h.last
theorem Tab.keep{w w':World}{X:Nat}{f:Nat->Value}{z:Value}(h:Tab w X f z)(hb:Below w.heap.size w w'):Tab w' X f z :=
 ⟨λk hk=>zb hb (h.at_ k hk),zb hb h.last,λk hk=>by rw [(oa hb).2 X k h.lt];exact h.thaw k hk⟩
theorem Tab.set{w:World}{X:Nat}{f:Nat->Value}{z:Value}(h:Tab w X f z)(j:Nat)(hj:j<256)(v:Value):Tab (w.setCell ⟨X,j,none⟩ v) X (λk=>if k=j then v else f k) z :=
 ⟨λk hk=>by
  by_cases e:k=j
  ·subst e;rw [if_pos rfl];exact World.cell?_setCell_same _ _ _ (h.at_ k hk)
  ·rw [if_neg e,World.cell?_setCell_other _ ⟨X,j,none⟩ ⟨X,k,none⟩ _ (by intro e;injection e;omega)];exact h.at_ k hk,
  by rw [World.cell?_setCell_other _ ⟨X,j,none⟩ ⟨X,256,none⟩ _ (by intro e;injection e;omega)];exact h.last,
  λk hk=>by rw [World.frozen?_setCell];exact h.thaw k hk⟩
theorem Tab.grown{w w':World}{X:Nat}{f:Nat->Value}{z:Value}{g:Option Nat}(h:Tab w X f z)(hg:w.grownBy w' g)(hn:g≠some X):Tab w' X f z:=by
 have hb:w'.heap[X]?=w.heap[X]?:=hg.block X h.lt (λe=>hn e.symm);exact⟨λk hk=>(World.cell?_of_block (a:=⟨X,k,none⟩) hb).trans (h.at_ k hk),(World.cell?_of_block (a:=⟨X,256,none⟩) hb).trans h.last,λk hk=>(World.frozen?_of_block (a:=⟨X,k,none⟩) hb).trans (h.thaw k hk)⟩
theorem Tab.setLast{w:World}{X:Nat}{f:Nat->Value}{z:Value}(h:Tab w X f z)(v:Value):Tab (w.setCell ⟨X,256,none⟩ v) X f v :=
 ⟨λk hk=>by rw [World.cell?_setCell_other _ ⟨X,256,none⟩ ⟨X,k,none⟩ _ (by intro e;injection e;omega)];exact h.at_ k hk,
  World.cell?_setCell_same _ _ _ h.last,
  λk hk=>by rw [World.frozen?_setCell];exact h.thaw k hk⟩
theorem Ak(w:World):(binOp .eql 141 (.slice none 0 0) (.slice none 0 0)).run Tryz.prog w = .ok (.bool true) w:=by kernel_rfl
theorem tG(w:World)(b:UInt8)(n:Int)(hn:n=b.toNat):(convert 141 9 (.slice (some ⟨w.heap.size,0,none⟩) 1 1)).run Tryz.prog (w.alloc (.cells #[.int .u8 n] 5))= .ok (.string ⟨#[b]⟩) (w.alloc (.cells #[.int .u8 n] 5)):=by
 subst hn;exact run_convert_bytes_back (P:=Tryz.prog) _ 141 9 5 ⟨w.heap.size,0,none⟩ 1 [b] Tryz.underlying141 Tryz.underlying5 Tryz.underlying9 (λj hj=>by
  have:j=0:=by simpa using hj
  subst this
  exact cell_one_new w _ _ 0 _ rfl)
theorem xz(w:World)(o:Array Value)(x:Value)(t t':TypeId):∀j u,[x][j]?=some u->((w.alloc (.cells o t')).alloc (.cells #[x] t)).cell? ((⟨w.heap.size+1,0,none⟩:Addr).add j)=some u:=by
 intro j u hj;have:=cell_one_new (w.alloc (.cells o t')) x t j u hj;simpa using this
theorem pE{w:World}{B n size:Nat}{e:TypeId}{v:Value}{xs:List Value}(h:w.ownsRow B e size v n xs):∃A c,v = .slice A n c:=by
 rcases h.2 with ⟨rfl,h0⟩|⟨g,cap,cur,rfl,_⟩
 ·exact⟨none,0,by rw [h0]⟩
 ·exact⟨_,_,rfl⟩
def Tx(w:World)(X:Nat)(g:Option Nat)(v:Value)(l:List UInt8):Prop:=∃P c,v = .slice (some ⟨P,0,none⟩) l.length c/\P≠X/\g≠some P/\P<w.heap.size/\∀(j:Nat) (b:UInt8),l[j]?=some b->w.cell? ⟨P,j,none⟩=some (.int .u8 (b.toNat:Int))
theorem Tx.keep{w w':World}{X:Nat}{g:Option Nat}{v:Value}{l:List UInt8}(h:Tx w X g v l)(hb:Below w.heap.size w w'):Tx w' X g v l :=
 let ⟨P,c,h1,h2,h3,h4,h5⟩:=h;⟨P,c,h1,h2,h3,Nat.lt_of_lt_of_le h4 hb.size,λj b hj=>zb hb (h5 j b hj)⟩
theorem Tx.grown{w w':World}{X:Nat}{g:Option Nat}{v:Value}{l:List UInt8}(h:Tx w X g v l)(hg:w.grownBy w' g):Tx w' X g v l :=
 let ⟨P,c,h1,h2,h3,h4,h5⟩:=h;⟨P,c,h1,h2,h3,Nat.lt_of_lt_of_le h4 hg.size,λj b hj=>(World.cell?_of_block (a:=⟨P,j,none⟩) (hg.block P h4 (λe=>h3 e.symm))).trans (h5 j b hj)⟩
theorem Tx.setX{w:World}{X:Nat}{g:Option Nat}{v:Value}{l:List UInt8}(h:Tx w X g v l)(k:Nat)(u:Value):Tx (w.setCell ⟨X,k,none⟩ u) X g v l :=
 let ⟨P,c,h1,h2,h3,h4,h5⟩:=h;⟨P,c,h1,h2,h3,by simpa [World.setCell] using h4,λj b hj=>by
  rw [World.cell?_setCell_other _ ⟨X,k,none⟩ ⟨P,j,none⟩ _ (by intro e;injection e with e;exact h2 e.symm)];exact h5 j b hj⟩
theorem Tx.regrow{w w':World}{X:Nat}{g g':Option Nat}{v:Value}{l:List UInt8}{o o':Obj}(h:Tx w X g v l)(hg:((w.alloc o).alloc o').grownBy w' g)(hat:g'=g\/g'=some (w.heap.size+1+1)):Tx w' X g' v l:=by
 have h1:=((h.keep (za w o)).keep (za _ o')).grown hg;obtain⟨P,c,h1,h2,h3,h4,h5⟩:=h1;refine⟨P,c,h1,h2,?_,h4,h5⟩;rcases hat with rfl|rfl
 ·exact h3
 ·obtain⟨P',c',k1,k2,k3,k4,k5⟩:=h;rw [h1] at k1;injection k1 with k1;injection k1 with k1;injection k1 with k1;intro e;injection e with e;omega
theorem G8{w:World}{X P c:Nat}{g:Option Nat}(l:List UInt8)(hX:P≠X)(hg:g≠some P)(hP:P<w.heap.size)(h:∀(k:Nat) (h:k<(⟨l.toArray⟩:ByteArray).size),w.cell? ⟨P,k,none⟩=some (.int .u8 ((⟨l.toArray⟩:ByteArray)[k].toNat:Int))):Tx w X g (.slice (some ⟨P,0,none⟩) l.length c) l :=
 ⟨P,c,rfl,hX,hg,hP,λj b hj=>by
  obtain⟨hk,e⟩:=List.getElem?_eq_some_iff.1 hj
  have:=h j (by show j<l.toArray.size;rw [List.size_toArray];exact hk)
  rw [this,<-e];rfl⟩
def Rnd(w:World)(X:Nat)(wr:World)(i:Value):Prop:=∃(f:Nat->Value) (z:Value) (L:List Value),
 wr.ownsRow w.heap.size 9 1 z L.length L/\Tab wr X f z/\z.ownBlock≠some X/\Below w.heap.size w wr/\
 ((i = .int .i64 2/\L = []/\f=λ_ => .slice none 0 0)\/
  (i = .int .i64 0/\L = [.string ⟨#[34]⟩]/\Tx wr X z.ownBlock (f 34) [92,34]/\∀k,k≠34->f k = .slice none 0 0)\/
  (i = .int .i64 (-2)/\L = [.string ⟨#[34]⟩,.string ⟨#[92]⟩]/\Tx wr X z.ownBlock (f 34) [92,34]/\Tx wr X z.ownBlock (f 92) [92,92]/\∀k,k≠34->k≠92->f k = .slice none 0 0))
structure fw(w:World)(X:Nat)(f:Nat->Value)(T c:Nat):Prop where
 tab:Tab w X f (.slice (some ⟨T,0,none⟩) 2 c)
 t0:w.cell? ⟨T,0,none⟩=some (.string ⟨#[34]⟩)
 t1:w.cell? ⟨T,1,none⟩=some (.string ⟨#[92]⟩)
 q:∃P d,f 34 = .slice (some ⟨P,0,none⟩) 2 d/\w.cell? ⟨P,0,none⟩=some (.int .u8 92)/\w.cell? ⟨P,1,none⟩=some (.int .u8 34)
 s:∃P d,f 92 = .slice (some ⟨P,0,none⟩) 2 d/\w.cell? ⟨P,0,none⟩=some (.int .u8 92)/\w.cell? ⟨P,1,none⟩=some (.int .u8 92)
 o:∀k,k≠34->k≠92->f k = .slice none 0 0
theorem fw.keep{w w':World}{X:Nat}{f:Nat->Value}{T c:Nat}(h:fw w X f T c)(hb:Below w.heap.size w w'):fw w' X f T c :=
 ⟨h.tab.keep hb,zb hb h.t0,zb hb h.t1,let ⟨P,d,h1,h2,h3⟩:=h.q;⟨P,d,h1,zb hb h2,zb hb h3⟩,let ⟨P,d,h1,h2,h3⟩:=h.s;⟨P,d,h1,zb hb h2,zb hb h3⟩,h.o⟩
theorem Iu{w:World}{X B:Nat}{f:Nat->Value}{z:Value}(hO:w.ownsRow B 9 1 z 2 [.string ⟨#[34]⟩,.string ⟨#[92]⟩])(hT:Tab w X f z)
 (l6:Tx w X z.ownBlock (f 34) [92,34]) (iF:Tx w X z.ownBlock (f 92) [92,92]) (hk:∀k,k≠34->k≠92->f k = .slice none 0 0):∃T c,fw w X f T c:=by
 have hc:=λg (e:z.ownBlock=some g)=>hO.cells (g:=g) e;obtain⟨P,d,p1,-,-,-,p2⟩:=l6;obtain⟨Q,d',q1,-,-,-,q2⟩:=iF;rcases hO.2 with ⟨rfl,h0⟩|⟨g,cap,cur,rfl,_⟩
 ·omega
 ·exact⟨g,cap,hT,hc g rfl 0 _ rfl,hc g rfl 1 _ rfl,⟨P,d,p1,p2 0 92 rfl,p2 1 34 rfl⟩,⟨Q,d',q1,q2 0 92 rfl,q2 1 92 rfl⟩,hk⟩
theorem AY(w0:World)(A:Option Addr)(n c:Nat):
 Sem.run Tryz.prog (storeCells ⟨w0.heap.size,0,none⟩ (Tryz.zeroCells298.toList.set 256 (.slice A n c))) (w0.alloc (.cells Tryz.zeroCells298 298))= .ok () (w0.alloc (.cells (ke (.slice A n c)) 298)):=by
 have hs:=yd (.slice A n c);have hz:Tryz.zeroCells298.size=257:=by rw [si];simp
 have h1:(ke (.slice A n c)).all (·.oneCell')=true:=by
  rw [Array.all_eq_true];intro i hi;have:=Array.getElem?_eq_getElem hi;rcases Nat.lt_or_ge i 256 with h|h
  ·rw [wY _ i h] at this;injection this with this;rw [<-this];rfl
  ·have e:i=256:=by omega
   subst e;rw [pS] at this;injection this with this;rw [<-this];rfl
 have:=run_storeCells_new (P:=Tryz.prog) w0 298 Tryz.zeroCells298 (ke (.slice A n c)) (by rw [hs];kernel_rfl) (by omega) h1;have e:(ke (.slice A n c)).toList=Tryz.zeroCells298.toList.set 256 (.slice A n c):=by unfold ke;simp
 rw [e] at this;exact this
theorem v6(b G C:Nat)(w:World)(h4:w.cell? ⟨b,4,none⟩=some (.slice (some ⟨G,0,none⟩) 4 C))
 (t0:w.cell? ⟨G,0,none⟩=some (.string ⟨#[92]⟩)) (t1:w.cell? ⟨G,1,none⟩=some (.string ⟨#[92,92]⟩)) (t2:w.cell? ⟨G,2,none⟩=some (.string ⟨#[34]⟩)) (t3:w.cell? ⟨G,3,none⟩=some (.string ⟨#[92,34]⟩)):
 Calls Tryz.prog 167 #[.pointer (some ⟨b,0,none⟩)] w λe w'=>∃X f T c,e = .returned (.iface 299 (.pointer (some ⟨X,0,none⟩)))/\w.heap.size<=X/\fw w' X f T c/\Below w.heap.size w w':=by
 obtain⟨j0,hj,jz0,jz1,jz2⟩:=info_parts Bl;have T0:=O t0;have T1:=O t1;have T2:=O t2;have T3:=O t3;clear t0 t1 t2 t3;go_enter Tryz.func167,Tryz.ntmps167;go_wp2_with fail;go_loopw [4,5] (λf i wr=>((i = .int .i64 0/\f = .bool true)\/(i = .int .i64 2/\f = .bool false)\/(i = .int .i64 4/\f = .bool false))/\Hid (Below w.heap.size w wr)) (λ_ i _=>4-(intOf i).toNat)
 case atStart=>exact⟨.inl ⟨rfl,rfl⟩,Below.refl _ _⟩
 case round =>
  obtain⟨hk,hB⟩:=hrel;have e0:=zb hB.o T0.o;have e1:=zb hB.o T1.o;have e2:=zb hB.o T2.o;have e3:=zb hB.o T3.o;rcases hk with ⟨rfl,rfl⟩|⟨rfl,rfl⟩|⟨rfl,rfl⟩
  ·go_wp2_with fail;go_roundw
   case rel=>exact⟨.inr (.inl ⟨rfl,rfl⟩),hB⟩
   case measure=>simp [intOf]
  ·go_wp2_with fail;go_roundw
   case rel=>exact⟨.inr (.inr ⟨rfl,rfl⟩),hB⟩
   case measure=>simp [intOf]
  ·have hsz:=hB.o.size;go_wp2_with (at_make;refine wpList_make_own _ rfl _ _ 38 rfl w.heap.size 9 j0 (.string ⟨#[]⟩) 1 Tryz.underlying38 hj jz0 jz1 .i64 .i64 _ 2 rfl rfl (by simp) (by rw [jz2];omega) (by unfold maxLen;omega) hsz ?_;intro w0 hown0 hgrow0);have hst:=AY w0 (some ⟨wr.heap.size,0,none⟩) 0 2;rw [hst];clear hst;have hX:=hgrow0.size;have hYX:=cT hown0 wr.heap.size rfl;have TB:=O (EX w0 (.slice (some ⟨wr.heap.size,0,none⟩) 0 2));have OW:=O (hown0.alloc (.cells (ke (.slice (some ⟨wr.heap.size,0,none⟩) 0 2)) 298));have B1:=bh hB (((ff hgrow0)).alloc hX (.cells (ke (.slice (some ⟨wr.heap.size,0,none⟩) 0 2)) 298));obtain⟨w1,rR⟩:∃w1,w0.alloc (.cells (ke (.slice (some ⟨wr.heap.size,0,none⟩) 0 2)) 298)=w1:=⟨_,rfl⟩
   rw [rR] at TB OW B1 ⊢;clear rR hown0 hgrow0 hB e0 e1 e2 e3;have JV:w.heap.size<=w0.heap.size:=by omega
   go_wp2_with fail;generalize w0.heap.size=X at *;generalize wr.heap.size=Y at *;go_loopw [12,13,14] (λi _ _ wr=>Hid (Rnd w X wr i)) (λi _ _ _=>(intOf i+2).toNat)
   case atStart=>exact⟨_,_,_,OW.o,TB.o,by simp [Value.ownBlock];omega,B1.o,.inl ⟨rfl,rfl,rfl⟩⟩
   case round =>
    obtain⟨f,z,L,hO,hT,hN,hB,hk⟩:=hrel.o;have e0:=zb hB T0.o;have e1:=zb hB T1.o;have e2:=zb hB T2.o;have e3:=zb hB T3.o;have HO:=O hO;have HT:=O hT;have HN:=O hN;have HB:=O hB;clear hO hT hN hB hrel;have qnil:=Ak;have q34:((⟨#[34]⟩:ByteArray)[0]'(by decide)).toNat=34:=rfl;have q92:((⟨#[92]⟩:ByteArray)[0]'(by decide)).toNat=92:=rfl;rcases hk with ⟨rfl,rfl,rfl⟩|⟨rfl,rfl,l6,hk⟩|⟨rfl,rfl,l6,iF,hk⟩
    ·have c0:=HT.o.at_ 34 (by omega);have c1:=HT.o.last;have qs:=tG wr 34 34 rfl;have wP:=HB.o.size;go_wp2_with (at_builtin;refine wpList_append_own_at _ rfl _ _ 38 rfl w.heap.size 9 j0 _ 1 16 Tryz.underlying38 hj jz0 jz1 jz2 rfl (by decide) _ 0 [] rfl ((HO.o.alloc _).alloc _) ⟨wr.heap.size+1,0,none⟩ 1 1 [.string ⟨#[34]⟩] rfl rfl (xz wr _ _ _ _) (by intro u hu;simp only [List.mem_cons,List.not_mem_nil,or_false] at hu;subst hu;rfl) ?d1 ?d2 ?d3 ?_)
     case d1=>unfold maxLen;omega
     case d2=>omega
     case d3=>simp;omega
     intro v2 w3 hown hgrow _ hat;have GE:=O (((HT.o.keep (za wr _)).keep (za _ _)).grown hgrow HN.o);obtain⟨A2,n2,rfl⟩:=pE hown;have O3:=O hown;have B3:=O ((((HB.o.alloc wP _).alloc (by simp;omega) _)).grown hgrow (by simp;omega) (λg hg=>jb HO.o g hg));have N3:=O (show(Value.slice A2 1 n2).ownBlock≠some X by
      rcases hat with q|q
      ·rw [q];exact HN.o
      ·rw [q];intro e;injection e with e;have:=HT.o.lt;omega)
     have d1:=GE.o.last;have d2:=GE.o.thaw 256 (by omega);clear hown hgrow hat HT HO HB HN c0 c1 e0 e1 e2 e3 qs wP;go_wp2_with fail;have O4:=O (ownsRow_setCell_other O3.o (a:=⟨X,256,none⟩) N3.o (.slice A2 1 n2));have T4:=O (GE.o.setLast (.slice A2 1 n2));have B4:=O (B3.o.setCell (p:=⟨X,256,none⟩) JV (.slice A2 1 n2));obtain⟨w4,hw4⟩:∃w4,w3.setCell ⟨X,256,none⟩ (.slice A2 1 n2)=w4:=⟨_,rfl⟩
     rw [hw4] at O4 T4 B4 ⊢;clear hw4 d1 d2 O3 GE B3;obtain⟨c5,w5,hrun,xJ,hcell⟩:=gv ⟨#[92,34]⟩ w4;rw [hrun];clear hrun;have hc0:=hcell 0 (by decide);have X5:=O (G8 (w:=w5) (X:=X) (P:=w4.heap.size) (c:=c5) (g:=(Value.slice A2 1 n2).ownBlock) [92,34] (by have:=T4.o.lt;omega) (by intro e;have:=cT O4.o _ e;omega) (block_lt_of_cell hc0) hcell);have T5:=O (T4.o.keep xJ);have B5:=bh B4 xJ;have O5:=O (cr O4.o xJ);have e1:=T5.o.at_ 34 (by omega);have e2:=T5.o.thaw 34 (by omega);clear hcell xJ O4 T4 B4 hc0;go_wp2_with fail;go_roundw
     case rel =>
      refine O ⟨_,_,[.string ⟨#[34]⟩],ownsRow_setCell_other O5.o (a:=⟨X,34,none⟩) N3.o _,T5.o.set 34 (by omega) _,N3.o,B5.o.setCell (p:=⟨X,34,none⟩) JV _,.inr (.inl ⟨rfl,rfl,by rw [if_pos rfl];exact X5.o.setX 34 _,λk hk=>by rw [if_neg hk]⟩)⟩
     case measure=>simp [intOf]
    ·have c0:=HT.o.at_ 92 (by omega);have c1:=HT.o.last;have qs:=tG wr 92 92 rfl;have wP:=HB.o.size;have H34:=O l6;have HK:=O hk;have ek:f 92 = .slice none 0 0:=hk 92 (by decide);rw [ek] at c0;clear l6 hk ek;go_wp2_with (at_builtin;refine wpList_append_own_at _ rfl _ _ 38 rfl w.heap.size 9 j0 _ 1 16 Tryz.underlying38 hj jz0 jz1 jz2 rfl (by decide) _ 1 [.string ⟨#[34]⟩] rfl ((HO.o.alloc _).alloc _) ⟨wr.heap.size+1,0,none⟩ 1 1 [.string ⟨#[92]⟩] rfl rfl (xz wr _ _ _ _) (by intro u hu;simp only [List.mem_cons,List.not_mem_nil,or_false] at hu;subst hu;rfl) ?d1 ?d2 ?d3 ?_)
     case d1=>unfold maxLen;omega
     case d2=>omega
     case d3=>simp;omega
     intro v2 w3 hown hgrow _ hat;have GE:=O (((HT.o.keep (za wr _)).keep (za _ _)).grown hgrow HN.o);obtain⟨A2,n2,rfl⟩:=pE hown;have O3:=O hown;have B3:=O ((((HB.o.alloc wP _).alloc (by simp;omega) _)).grown hgrow (by simp;omega) (λg hg=>jb HO.o g hg));have N3:=O (show(Value.slice A2 2 n2).ownBlock≠some X by
      rcases hat with q|q
      ·rw [q];exact HN.o
      ·rw [q];intro e;injection e with e;have:=HT.o.lt;omega)
     have K3:=O (H34.o.regrow hgrow hat);have d1:=GE.o.last;have d2:=GE.o.thaw 256 (by omega);clear hown hgrow hat HT HO HB HN c0 c1 e0 e1 e2 e3 qs wP H34;go_wp2_with fail;have O4:=O (ownsRow_setCell_other O3.o (a:=⟨X,256,none⟩) N3.o (.slice A2 2 n2));have T4:=O (GE.o.setLast (.slice A2 2 n2));have B4:=O (B3.o.setCell (p:=⟨X,256,none⟩) JV (.slice A2 2 n2));have K4:=O (K3.o.setX 256 (.slice A2 2 n2));obtain⟨w4,hw4⟩:∃w4,w3.setCell ⟨X,256,none⟩ (.slice A2 2 n2)=w4:=⟨_,rfl⟩
     rw [hw4] at O4 T4 B4 K4 ⊢;clear hw4 d1 d2 O3 GE B3 K3;obtain⟨c5,w5,hrun,xJ,hcell⟩:=gv ⟨#[92,92]⟩ w4;rw [hrun];clear hrun;have hc0:=hcell 0 (by decide);have X5:=O (G8 (w:=w5) (X:=X) (P:=w4.heap.size) (c:=c5) (g:=(Value.slice A2 2 n2).ownBlock) [92,92] (by have:=T4.o.lt;omega) (by intro e;have:=cT O4.o _ e;omega) (block_lt_of_cell hc0) hcell);have T5:=O (T4.o.keep xJ);have B5:=bh B4 xJ;have O5:=O (cr O4.o xJ);have K5:=O (K4.o.keep xJ);have e1:=T5.o.at_ 92 (by omega);have e2:=T5.o.thaw 92 (by omega);clear hcell xJ O4 T4 B4 K4 hc0;go_wp2_with fail;go_roundw
     case rel =>
      refine O ⟨_,_,[.string ⟨#[34]⟩,.string ⟨#[92]⟩],ownsRow_setCell_other O5.o (a:=⟨X,92,none⟩) N3.o _,T5.o.set 92 (by omega) _,N3.o,B5.o.setCell (p:=⟨X,92,none⟩) JV _,.inr (.inr ⟨rfl,rfl,by rw [if_neg (by decide)];exact K5.o.setX 92 _,by rw [if_pos rfl];exact X5.o.setX 92 _,λk GF hk2=>by rw [if_neg hk2];exact HK.o k GF⟩)⟩
     case measure=>simp [intOf]
    ·have R:=O (Iu HO.o HT.o l6 iF hk);clear l6 iF hk HO HT HN e0 e1 e2 e3;go_wp2_with fail;go_ret;obtain⟨T,c,R⟩:=R.o;exact⟨X,f,T,c,rfl,JV,R,HB.o⟩
theorem mC(b G C:Nat)(w:World)(h3:w.cell? ⟨b,3,none⟩=some .nilIface)(z3:w.frozen? ⟨b,3,none⟩=false)(z4:w.frozen? ⟨b,4,none⟩=false)(h4:w.cell? ⟨b,4,none⟩=some (.slice (some ⟨G,0,none⟩) 4 C))
 (t0:w.cell? ⟨G,0,none⟩=some (.string ⟨#[92]⟩)) (t1:w.cell? ⟨G,1,none⟩=some (.string ⟨#[92,92]⟩)) (t2:w.cell? ⟨G,2,none⟩=some (.string ⟨#[34]⟩)) (t3:w.cell? ⟨G,3,none⟩=some (.string ⟨#[92,34]⟩)):
 Calls Tryz.prog 140 #[.pointer (some ⟨b,0,none⟩)] w λe w'=>∃w1 X f T c,e = .returned (.tuple #[])/\w.heap.size<=X/\fw w1 X f T c/\Below w.heap.size w w1/\
  w'=(w1.setCell ⟨b,3,none⟩ (.iface 299 (.pointer (some ⟨X,0,none⟩)))).setCell ⟨b,4,none⟩ (.slice none 0 0):=by
 have K:=O (v6 b G C w h4 t0 t1 t2 t3);have H3:=O h3;have H4:=O h4;have Z3:=O z3;have Z4:=O z4;have hb3:=block_lt_of_cell h3;clear h3 h4 z3 z4 t0 t1 t2 t3;go_enter Tryz.func140,Tryz.ntmps140;go_wp2_with fail;refine(K.o).mono ?_;rintro e w1 ⟨X,f,T,c,rfl,hX,R,b1⟩;have R1:=O R;have B1:=O b1;have c3:=zb b1 H3.o;have c4:=zb b1 H4.o;have y3:=(oa b1).2 b 3 hb3;have y4:=(oa b1).2 b 4 hb3;rw [Z3.o] at y3;rw [Z4.o] at y4;clear R b1 K;go_wp2_with fail;go_end0;exact⟨w1,X,f,T,c,rfl,hX,R1.o,B1.o,rfl⟩
structure rz(w:World)(b G C:Nat):Prop where
 c0:w.cell? ⟨b,0,none⟩=some (.int .u32 0)
 c1:w.cell? ⟨b,1,none⟩=some (.int .i32 0)
 c3:w.cell? ⟨b,3,none⟩=some .nilIface
 c4:w.cell? ⟨b,4,none⟩=some (.slice (some ⟨G,0,none⟩) 4 C)
 z:∀k,w.frozen? ⟨b,k,none⟩=false
 t0:w.cell? ⟨G,0,none⟩=some (.string ⟨#[92]⟩)
 t1:w.cell? ⟨G,1,none⟩=some (.string ⟨#[92,92]⟩)
 t2:w.cell? ⟨G,2,none⟩=some (.string ⟨#[34]⟩)
 t3:w.cell? ⟨G,3,none⟩=some (.string ⟨#[92,34]⟩)
theorem fw.other{w:World}{X:Nat}{f:Nat->Value}{T c b:Nat}{n:Int}(h:fw w X f T c)(hb:w.cell? ⟨b,0,none⟩=some (.int .u32 n))(k:Nat)(u:Value):fw (w.setCell ⟨b,k,none⟩ u) X f T c:=by
 have ne:∀(Y:Nat) (v:Value),w.cell? ⟨Y,0,none⟩=some v->v≠ .int .u32 n->∀j,(w.setCell ⟨b,k,none⟩ u).cell? ⟨Y,j,none⟩=w.cell? ⟨Y,j,none⟩:=λY v hv hn j =>
  World.cell?_setCell_other _ ⟨b,k,none⟩ ⟨Y,j,none⟩ _ (by
   intro e;injection e with e;subst e
   rw [hb] at hv;injection hv with hv;exact hn hv.symm)
 have eX:=ne X _ (h.tab.at_ 0 (by decide)) (by rw [h.o 0 (by decide) (by decide)];simp);have eT:=ne T _ h.t0 (by simp);refine⟨⟨λj hj=>(eX j).trans (h.tab.at_ j hj),(eX 256).trans h.tab.last,λj hj=>by rw [World.frozen?_setCell];exact h.tab.thaw j hj⟩,(eT 0).trans h.t0,(eT 1).trans h.t1,?_,?_,h.o⟩
 ·obtain⟨P,d,h1,h2,h3⟩:=h.q;have e:=ne P _ h2 (by simp);exact⟨P,d,h1,(e 0).trans h2,(e 1).trans h3⟩
 ·obtain⟨P,d,h1,h2,h3⟩:=h.s;have e:=ne P _ h2 (by simp);exact⟨P,d,h1,(e 0).trans h2,(e 1).trans h3⟩
theorem yr(b G C:Nat)(w:World)(h:rz w b G C)(Hj:b≠G):
 Calls Tryz.prog 166 #[.pointer (some ⟨b,0,none⟩),.func (.func 140) #[.pointer (some ⟨b,0,none⟩)] #[]] w λe w'=>∃X f T c,e = .returned (.tuple #[])/\w.heap.size<=X/\fw w' X f T c/\
  w'.cell? ⟨b,3,none⟩=some (.iface 299 (.pointer (some ⟨X,0,none⟩)))/\w.grownBy w' (some b):=by
 have oth:∀(u:World) (i k:Nat) (v:Value),i≠k->(u.setCell ⟨b,i,none⟩ v).cell? ⟨b,k,none⟩=u.cell? ⟨b,k,none⟩:=λu i k v hik=>World.cell?_setCell_other _ ⟨b,i,none⟩ ⟨b,k,none⟩ _ (by intro e;injection e with _ e;exact hik e);have othG:∀(u:World) (i k:Nat) (v:Value),(u.setCell ⟨b,i,none⟩ v).cell? ⟨G,k,none⟩=u.cell? ⟨G,k,none⟩:=λu i k v=>World.cell?_setCell_other _ ⟨b,i,none⟩ ⟨G,k,none⟩ _ (by intro e;injection e with e;exact Hj e);have hl:=run_call_load (P:=Tryz.prog) Tryz.func181 (by kernel_rfl) (by kernel_rfl) (by kernel_rfl) .u32 (by kernel_rfl) (w:=w.setCell ⟨b,1,none⟩ (.int .i32 1)) (a:=⟨b,0,none⟩) (x:=0) ((oth _ _ _ _ (by decide)).trans h.c0);have AA:∀(x:Bool) (w:World),(Op.unary .not (.bool x)).run Tryz.prog w = .ok (.bool (!x)) w:=λ_ _=>rfl;have Er:=O oth;have KB:=O (mC b G C (w.setCell ⟨b,1,none⟩ (.int .i32 1)) ((oth _ _ _ _ (by decide)).trans h.c3) (by simp [h.z]) (by simp [h.z]) ((oth _ _ _ _ (by decide)).trans h.c4) ((othG _ _ _ _).trans h.t0) ((othG _ _ _ _).trans h.t1) ((othG _ _ _ _).trans h.t2) ((othG _ _ _ _).trans h.t3));have K:=O (yz ⟨b,1,none⟩ w h.c1 (h.z 1));have H:=O h;clear h oth othG;go_enter_defers Tryz.func166,Tryz.ntmps166;go_wp2_with fail;refine(K.o).mono ?_;rintro e w1 ⟨rfl,rfl⟩;clear K;go_wp2_with (first|(go_at_call 140;refine(KB.o).mono ?_;rintro e w2 ⟨w1,X,f,T,c,rfl,hX,R,hb,rfl⟩)|(go_at_call 165;go_in));have hbl:=block_lt_of_cell H.o.c0;have q0:w1.cell? ⟨b,0,none⟩=some (.int .u32 0):=zb hb ((Er.o _ _ _ _ (by decide)).trans H.o.c0);have q1:w1.cell? ⟨b,1,none⟩=some (.int .i32 1):=zb hb (World.cell?_setCell_same w ⟨b,1,none⟩ _ H.o.c1);have q3:w1.cell? ⟨b,3,none⟩=some .nilIface:=zb hb ((Er.o _ _ _ _ (by decide)).trans H.o.c3);have qz:∀k,w1.frozen? ⟨b,k,none⟩=false:=λk=>((oa hb).2 b k (by simpa [World.setCell] using hbl)).trans (by simp [H.o.z]);have R1:=R.other q0 3 (.iface 299 (.pointer (some ⟨X,0,none⟩)));have p0:=(Er.o w1 3 0 (.iface 299 (.pointer (some ⟨X,0,none⟩))) (by decide)).trans q0;have p1:=(Er.o w1 3 1 (.iface 299 (.pointer (some ⟨X,0,none⟩))) (by decide)).trans q1;have p3:=World.cell?_setCell_same w1 ⟨b,3,none⟩ (.iface 299 (.pointer (some ⟨X,0,none⟩))) q3;have pz:∀k,(w1.setCell ⟨b,3,none⟩ (.iface 299 (.pointer (some ⟨X,0,none⟩)))).frozen? ⟨b,k,none⟩=false:=λk=>by rw [World.frozen?_setCell];exact qz k
 have G1:=((zu w ⟨b,1,none⟩ (.int .i32 1)).trans (zj hb (some b))).trans (zu w1 ⟨b,3,none⟩ (.iface 299 (.pointer (some ⟨X,0,none⟩))));generalize w1.setCell ⟨b,3,none⟩ (.iface 299 (.pointer (some ⟨X,0,none⟩)))=w3 at *;have R2:=R1.other p0 4 (.slice none 0 0);have s0:=(Er.o w3 4 0 (.slice none 0 0) (by decide)).trans p0;have s1:=(Er.o w3 4 1 (.slice none 0 0) (by decide)).trans p1;have s3:=(Er.o w3 4 3 (.slice none 0 0) (by decide)).trans p3;have sz:∀k,(w3.setCell ⟨b,4,none⟩ (.slice none 0 0)).frozen? ⟨b,k,none⟩=false:=λk=>by rw [World.frozen?_setCell];exact pz k
 have G2:=G1.trans (zu w3 ⟨b,4,none⟩ (.slice none 0 0));generalize w3.setCell ⟨b,4,none⟩ (.slice none 0 0)=w4 at *;refine leaves_cons (f:=184) (args:=#[.pointer (some ⟨b,0,none⟩),.bool true]) (by simp) (by simp [go_sem]) ?_;refine(nU ⟨b,0,none⟩ (.int .u32 0) .returning _ s0 (sz 0)).mono ?_;rintro e u' w'' ⟨rfl,rfl,rfl⟩;have R3:=(R2.keep ((Below.refl _ _).drew)).other (b:=b) (n:=0) (by rw [World.cell?_drew];exact s0) 0 (.int .u32 1);have v0:=World.cell?_setCell_same w4.drew ⟨b,0,none⟩ (.int .u32 1) (by rw [World.cell?_drew];exact s0);have v1:=(Er.o w4.drew 0 1 (.int .u32 1) (by decide)).trans s1;have v3:=(Er.o w4.drew 0 3 (.int .u32 1) (by decide)).trans s3;have vz:∀k,(w4.drew.setCell ⟨b,0,none⟩ (.int .u32 1)).frozen? ⟨b,k,none⟩=false:=λk=>by rw [World.frozen?_setCell,World.frozen?_drew];exact sz k
 have G3:=(G2.trans (zj ((Below.refl w4.heap.size w4).drew) (some b))).trans (zu w4.drew ⟨b,0,none⟩ (.int .u32 1));generalize w4.drew.setCell ⟨b,0,none⟩ (.int .u32 1)=w5 at *;refine leaves_cons (f:=183) (args:=#[.pointer (some ⟨b,1,none⟩)]) (by simp [settle]) (by simp [go_sem]) ?_;refine(lN ⟨b,1,none⟩ _ _ v1 (vz 1)).mono ?_;rintro e u' w'' ⟨rfl,rfl,rfl⟩;have R4:=R3.other v0 1 (.int .i32 0);have y3:=(Er.o w5 1 3 (.int .i32 0) (by decide)).trans v3;have G4:=G3.trans (zu w5 ⟨b,1,none⟩ (.int .i32 0));simp [Leaves,settle,results,Tryz.results166];exact⟨X,by simpa [World.setCell] using hX,⟨f,T,c,R4⟩,y3,G4⟩
theorem Fw(b G C:Nat)(w:World)(h:rz w b G C)(Hj:b≠G):
 Calls Tryz.prog 139 #[.pointer (some ⟨b,0,none⟩),.func (.func 140) #[.pointer (some ⟨b,0,none⟩)] #[]] w λe w'=>∃X f T c,e = .returned (.tuple #[])/\w.heap.size<=X/\fw w' X f T c/\
  w'.cell? ⟨b,3,none⟩=some (.iface 299 (.pointer (some ⟨X,0,none⟩)))/\w.grownBy w' (some b):=by
 have hl:=run_call_load (P:=Tryz.prog) Tryz.func181 (by kernel_rfl) (by kernel_rfl) (by kernel_rfl) .u32 (by kernel_rfl) h.c0;have AA:∀(x:Bool) (w:World),(Op.unary .not (.bool x)).run Tryz.prog w = .ok (.bool (!x)) w:=λ_ _=>rfl;have KS:=O (yr b G C w h Hj);clear h;go_enter Tryz.func139,Tryz.ntmps139;go_wp2_with (first|(go_at_call 166;refine(KS.o).mono ?_;rintro e w1 ⟨X,f,T,c,rfl,hX,R,h3,hg⟩)|(go_at_call 165;go_in));go_end0;exact⟨X,f,T,c,rfl,hX,R,h3,hg⟩
theorem Ci(g:Nat)(w:World)(t0:w.cell? ⟨g,0,none⟩=some (.string ⟨#[92]⟩))(t1:w.cell? ⟨g,1,none⟩=some (.string ⟨#[92,92]⟩))(t2:w.cell? ⟨g,2,none⟩=some (.string ⟨#[34]⟩))(t3:w.cell? ⟨g,3,none⟩=some (.string ⟨#[92,34]⟩)):
 Calls Tryz.prog 109 #[.slice (some ⟨g,0,none⟩) 4 4] w λe w'=>∃b G C,e = .returned (.pointer (some ⟨b,0,none⟩))/\rz w' b G C/\b≠G/\w.heap.size<=b/\Below w.heap.size w w':=by
 obtain⟨j0,hj,jz0,jz1,jz2⟩:=info_parts Bl;go_enter Tryz.func109,Tryz.ntmps109;go_wp2_with fail;go_ret;generalize (Question.appendCap 4 0 9).cut (w.tape w.drawn (Question.appendCap 4 0 9))=C;have hs:∀(k:Nat) (v:Value),[Value.string ⟨#[92]⟩,.string ⟨#[92,92]⟩,.string ⟨#[34]⟩,.string ⟨#[92,34]⟩][k]?=some v->∀(o:Obj),((w.alloc (.cells (#[.string ⟨#[92]⟩,.string ⟨#[92,92]⟩,.string ⟨#[34]⟩,.string ⟨#[92,34]⟩] ++ Builtin.zeroCells #[.string ⟨#[]⟩] (C-4)) 9)).alloc o).drew.cell? ⟨w.heap.size,k,none⟩=some v:=λk v hk o=>by
  rw [World.cell?_drew];refine zb (za _ o) (zr (heap_alloc_last w _) ?_);rw [Array.getElem?_append,if_pos (by have:=(List.getElem?_eq_some_iff.1 hk).1;simpa using this)];simpa using hk
 refine⟨w.heap.size+1,w.heap.size,C,rfl,?_,by omega,by omega,(((Below.refl _ _).alloc (Nat.le_refl _) _).alloc (by simp) _).drew⟩;have hn:∀(k:Nat) (v:Value),[Value.int .u32 0,.int .i32 0,.int .u32 0,.nilIface,.slice (some ⟨w.heap.size,0,none⟩) 4 C][k]?=some v->((w.alloc (.cells (#[.string ⟨#[92]⟩,.string ⟨#[92,92]⟩,.string ⟨#[34]⟩,.string ⟨#[92,34]⟩] ++ Builtin.zeroCells #[.string ⟨#[]⟩] (C-4)) 9)).alloc (.cells #[.int .u32 0,.int .i32 0,.int .u32 0,.nilIface,.slice (some ⟨w.heap.size,0,none⟩) 4 C] 225)).drew.cell? ⟨w.heap.size+1,k,none⟩=some v:=λk v hk=>by
  rw [World.cell?_drew];have:=zr (heap_alloc_last (w.alloc (.cells (#[.string ⟨#[92]⟩,.string ⟨#[92,92]⟩,.string ⟨#[34]⟩,.string ⟨#[92,34]⟩] ++ Builtin.zeroCells #[.string ⟨#[]⟩] (C-4)) 9)) (.cells #[.int .u32 0,.int .i32 0,.int .u32 0,.nilIface,.slice (some ⟨w.heap.size,0,none⟩) 4 C] 225)) (k:=k) (u:=v) (by simpa using hk);simpa using this
 exact⟨hn 0 _ rfl,hn 1 _ rfl,hn 3 _ rfl,hn 4 _ rfl,λk=>by simp,hs 0 _ rfl _,hs 1 _ rfl _,hs 2 _ rfl _,hs 3 _ rfl _⟩
def fR(l:List UInt8):Nat:=l.count 34+l.count 92
theorem E7(l:List UInt8):fR l<=2*l.length:=by
 have h1:=List.count_le_length (a:=(34:UInt8)) (l:=l);have h2:=List.count_le_length (a:=(92:UInt8)) (l:=l);unfold fR;omega
theorem yK(s:ByteArray){k:Nat}(h:k<s.size):fR (s.data.toList.take (k+1))=fR (s.data.toList.take k)+if s[k].toNat=34\/s[k].toNat=92 then 1 else 0:=by
 have h':k<s.data.toList.length:=by simpa using h
 have e:s.data.toList.take (k+1)=s.data.toList.take k ++ [s[k]]:=by rw [List.take_succ_eq_append_getElem h'];rfl
 have t34:s[k]=34↔s[k].toNat=34:=⟨λe=>by rw [e];rfl,λe=>UInt8.toNat_inj.1 e⟩
 have t92:s[k]=92↔s[k].toNat=92:=⟨λe=>by rw [e];rfl,λe=>UInt8.toNat_inj.1 e⟩
 unfold fR;rw [e,List.count_append,List.count_append,List.count_singleton,List.count_singleton];by_cases h1:s[k]=34
 ·have:s[k].toNat=34:=t34.1 h1;simp [h1];omega
 ·by_cases h2:s[k]=92
  ·simp [h2];omega
  ·have n1:s[k].toNat≠34:=λe=>h1 (t34.2 e);have n2:s[k].toNat≠92:=λe=>h2 (t92.2 e);simp [h1,h2,n1,n2]
theorem H8:(Tryz.prog.info? 5).map (λi=>(i.zero,i.size,i.bytes))=some (some (.int .u8 0),1,1):=by kernel_rfl
theorem bN(w:World)(a:Option Addr)(l c:Nat):(binOp .neq 141 (.slice a l c) (.slice none 0 0)).run Tryz.prog w = .ok (.bool (!a.isNone)) w :=
 run_neq_slice_nil (P:=Tryz.prog) w 141 5 a l c Tryz.underlying141
def dP(w:World)(g:Nat)(cur:List Value):Prop:=w.heap[g]?=some (.cells cur.toArray 5 (0,0))
theorem xt{w:World}{B g n:Nat}{xs:List Value}(h:w.ownsRow B 5 1 (.slice (some ⟨g,0,none⟩) n n) n xs):∃cur,dP w g cur/\cur.length=n:=by
 rcases h.2 with ⟨h0,_⟩|⟨g',cap,cur,h1,h2,h3,h4,h5,h6⟩
 ·cases h0
 ·injection h1 with h1 _ h1c;injection h1 with h1;injection h1 with h1;subst h1 h1c;exact⟨cur.toList,by unfold dP;simpa using h3,by simp;omega⟩
theorem dP.cell{w:World}{g:Nat}{cur:List Value}(h:dP w g cur){m:Nat}{v:Value}(hm:cur[m]?=some v):w.cell? ⟨g,m,none⟩=some v:=zr h (by simpa using hm)
theorem dP.thaw{w:World}{g:Nat}{cur:List Value}(h:dP w g cur)(m:Nat):w.frozen? ⟨g,m,none⟩=false:=by
 unfold dP at h;unfold World.frozen?;rw [h];simp
theorem dP.set{w:World}{g:Nat}{cur:List Value}(h:dP w g cur)(m:Nat)(v:Value):dP (w.setCell ⟨g,m,none⟩ v) g (cur.set m v):=by
 unfold dP;rw [setCell_eq_setRow w g m _ _ _ v h,setRow_heap w g _ _ _ _ h];simp
theorem sL{α:Type}{l:List α}{m:Nat}(h:m<l.length)(v:α):(l.set m v).take (m+1)=l.take m ++ [v]:=by
 rw [List.take_succ_eq_append_getElem (by simpa using h),List.getElem_set_self,List.take_set];congr 1;exact List.set_eq_of_length_le (by simp;omega)
theorem dD{α:Type}(l:List α)(m:Nat)(cs:List α)(h:m+cs.length<=l.length):(splice l m cs).take (m+cs.length)=l.take m ++ cs:=by
 unfold splice;rw [<-List.append_assoc,List.take_left' (by simp;omega)]
def ez(l:List UInt8):List Value:=l.map λb => .int .u8 (b.toNat:Int)
theorem bw(a b:List UInt8):ez (a ++ b)=ez a ++ ez b:=List.map_append
theorem uE(s:ByteArray){k:Nat}(h:k<s.size):quo (s.data.toList.take (k+1))=quo (s.data.toList.take k)++ if s[k].toNat=34\/s[k].toNat=92 then [92,s[k]] else [s[k]]:=by
 have h':k<s.data.toList.length:=by simpa using h
 have e:s.data.toList.take (k+1)=s.data.toList.take k ++ [s[k]]:=by rw [List.take_succ_eq_append_getElem h'];rfl
 have t34:s[k]=34↔s[k].toNat=34:=⟨λe=>by rw [e];rfl,λe=>UInt8.toNat_inj.1 e⟩
 have t92:s[k]=92↔s[k].toNat=92:=⟨λe=>by rw [e];rfl,λe=>UInt8.toNat_inj.1 e⟩
 rw [e,nS];congr 1;by_cases h1:s[k]=34\/s[k]=92
 ·rw [quo,if_pos h1,if_pos (h1.imp t34.1 t92.1)];rfl
 ·rw [quo,if_neg h1,if_neg (λe=>h1 (e.imp t34.2 t92.2))];rfl
theorem lp(l:List UInt8)(k:Nat):(quo (l.take k)).length<=(quo l).length:=by
 conv=>rhs;rw [<-List.take_append_drop k l,nS]
 simp
theorem nG(w:World)(g:Nat)(s:ByteArray)(h:dP w g (ez (quo s.data.toList))):
 (convert 141 9 (.slice (some ⟨g,0,none⟩) (quo s.data.toList).length (quo s.data.toList).length)).run Tryz.prog w = .ok (.string (bv (quo s.data.toList))) w :=
 run_convert_bytes_back (P:=Tryz.prog) _ 141 9 5 ⟨g,0,none⟩ _ (quo s.data.toList) Tryz.underlying141 Tryz.underlying5 Tryz.underlying9 (λj hj=>by
  have e:(⟨g,0,none⟩:Addr).add j=⟨g,j,none⟩:=by unfold Addr.add;split <;> simp_all
  rw [e]
  refine h.cell ?_
  unfold ez
  rw [List.getElem?_map,List.getElem?_eq_getElem hj];rfl)
theorem mj{w w':World}{P:Nat}{x y:Value}(hb:Below w.heap.size w w')(h:w.cell? ⟨P,0,none⟩=some x/\w.cell? ⟨P,1,none⟩=some y):∀j v,[x,y][j]?=some v->w'.cell? ((⟨P,0,none⟩:Addr).add j)=some v:=by
 intro j v hv;rcases j with _|_|j
 ·simp at hv;subst hv;exact zb hb h.1
 ·simp at hv;subst hv;exact zb hb (by simpa [Addr.add] using h.2)
 ·simp at hv
theorem Gk(X T c:Nat)(f:Nat->Value)(s:ByteArray)(w:World)(R:fw w X f T c)(hs:s.size<=60):
 Calls Tryz.prog 277 #[.pointer (some ⟨X,0,none⟩),.string s] w λe w'=>e = .returned (.string (bv (quo s.data.toList)))/\Below w.heap.size w w':=by
 obtain⟨i0,hi,hz0,hz1,hz2⟩:=info_parts H8;have HR:=O R;have c0:=R.tab.last;have hl:=gh s;have n34:=List.count_le_length (a:=(34:UInt8)) (l:=s.data.toList);have n92:=List.count_le_length (a:=(92:UInt8)) (l:=s.data.toList);rw [hl] at n34 n92;have Ko:=O (λw=>Tryz.strings_Count_one s 34 w);have Ky:=O (λw=>Tryz.strings_Count_one s 92 w);have EQ:=O (show fR s.data.toList=s.data.toList.count 34+s.data.toList.count 92 from rfl);unfold Lib.countByte at Ko Ky;generalize s.data.toList.count 34=a34 at *;generalize s.data.toList.count 92=a92 at *;obtain⟨P,d,ep,qp⟩:=R.q;obtain⟨Q,d',eq,qq⟩:=R.s;have QP:=O qp;have QQ:=O qq;clear qp qq;have p34:=R.tab.at_ 34 (by decide);have p92:=R.tab.at_ 92 (by decide);rw [ep] at p34;rw [eq] at p92;have Kp:=O p34;have KZ:=O p92;clear R p34 p92 ep eq;go_enter Tryz.func277,Tryz.ntmps277;by_cases Mh:16<=s.size
 ·have hd:decide ((16:Int)<=(s.size:Int))=true:=decide_eq_true (by omega);go_wp2_with fail;clear c0;go_loopw [5,6,8,9,32] (λm y _ _ i wr=>((i = .int .i64 0/\m = .int .i64 s.size/\y = .bool false)\/(i = .int .i64 1/\m = .int .i64 ((s.size+a34:Nat):Int)/\y = .bool (decide (a34≠0)))\/(i = .int .i64 2/\m = .int .i64 ((s.size+(a34+a92):Nat):Int)/\y = .bool (decide (a34+a92≠0))))/\Hid (Below w.heap.size w wr)) (λ_ _ _ _ i _=>2-(intOf i).toNat)
  case atStart=>exact⟨.inl ⟨rfl,rfl,rfl⟩,Below.refl _ _⟩
  case round =>
   obtain⟨hk,hB⟩:=hrel;have R1:=O (HR.o.keep hB.o);have r0:=R1.o.t0;have r1:=R1.o.t1;have q34:((⟨#[34]⟩:ByteArray)[0]'(by decide)).toNat=34:=rfl;have q92:((⟨#[92]⟩:ByteArray)[0]'(by decide)).toNat=92:=rfl;have p34:=zb hB.o Kp.o;have p92:=zb hB.o KZ.o;rcases hk with ⟨rfl,rfl,rfl⟩|⟨rfl,rfl,rfl⟩|⟨rfl,rfl,rfl⟩
   ·go_wp2_with fail;refine(Ko.o wr).mono ?_;rintro e w1 ⟨rfl,rfl⟩;rcases a34 with _|a
    ·go_wp2_with fail;go_roundw
     case rel=>exact⟨.inr (.inl ⟨rfl,rfl,rfl⟩),hB⟩
     case measure=>simp [intOf]
    ·go_wp2_with fail;have k34:=cell_regrown p34;refine wp_region_quiet_below (by kernel_rfl) (by kernel_rfl) ?_
     repeat (first|go_big_quiet_step (fail)|quiet_step (fail))
     refine wpQuiet_nil ?_;intro w2 hw';have B2:=O (show Below w1.heap.size w1 w2 by obtain⟨⟨d,os⟩,rfl⟩:=hw';exact below_regrown _ _ _);clear hw';have BX:=Mx hB B2 (Nat.le_refl _);clear k34 hB B2 R1 r0 r1 p34 p92;go_wp2_with fail;go_roundw
     case rel=>exact⟨.inr (.inl ⟨rfl,by go_num,rfl⟩),BX⟩
     case measure=>simp [intOf]
   ·go_wp2_with fail;refine(Ky.o wr).mono ?_;rintro e w1 ⟨rfl,rfl⟩;rcases a92 with _|a
    ·go_wp2_with fail;go_roundw
     case rel=>exact⟨.inr (.inr ⟨rfl,by simp,by simp⟩),hB⟩
     case measure=>simp [intOf]
    ·go_wp2_with fail;have k92:=cell_regrown p92;refine wp_region_quiet_below (by kernel_rfl) (by kernel_rfl) ?_
     repeat (first|go_big_quiet_step (fail)|quiet_step (fail))
     refine wpQuiet_nil ?_;intro w2 hw';have B2:=O (show Below w1.heap.size w1 w2 by obtain⟨⟨d,os⟩,rfl⟩:=hw';exact below_regrown _ _ _);clear hw';have BX:=Mx hB B2 (Nat.le_refl _);clear k92 hB B2 R1 r0 r1 p34 p92;go_wp2_with fail;go_roundw
     case rel=>exact⟨.inr (.inr ⟨rfl,by go_num,by simp⟩),BX⟩
     case measure=>simp [intOf]
   ·have HQ:=EQ;clear Ko Ky R1 r0 r1 p34 p92 n34 n92;generalize a34+a92=q at *;rcases q with _|q
    ·have e0:decide ((0:Nat)≠0)=false:=rfl;rw [e0];have Z:=O (show quo s.data.toList=s.data.toList from tm (by have:=HQ.o;unfold fR at this;omega) (by have:=HQ.o;unfold fR at this;omega));go_wp2_with fail;go_ret;exact⟨by rw [Z.o,mU];rfl,hB.o⟩
    ·have e0:decide (q+1≠0)=true:=decide_eq_true (by omega);rw [e0];have hn:(quo s.data.toList).length=s.size+(q+1):=by rw [pB,hl];have:=HQ.o;unfold fR at this;omega
     generalize s.size+(q+1)=n at *;have hn2:=(eR s.data.toList).2;rw [hn,hl] at hn2;have hn120:n<=120:=by omega
     have HN:=O hn;have hsz:=hB.o.size;clear hn hn2 e0;go_wp2_with (at_make;refine wpList_make_full _ rfl _ _ 141 rfl w.heap.size 5 i0 (.int .u8 0) 1 Tryz.underlying141 hi hz0 hz1 .i64 .i64 _ _ n rfl rfl rfl rfl (by rw [hz2];omega) (by unfold maxLen;omega) hsz ?_;intro w0 hown0 hgrow0);obtain⟨cur0,L9,IJ⟩:=xt hown0;have B0:=O (hB.o.trans ((ff hgrow0).mono hsz));have GB:=O (show w.heap.size<=wr.heap.size from hsz);generalize wr.heap.size=g at *;clear hown0 hgrow0 hsz hB;go_wp2_with fail;go_loopw [13,14,15] (λj i _ wr=>∃(k m:Nat) (cur:List Value),k<=s.size/\i = .int .i64 k/\j = .int .i64 m/\Hid (m=(quo (s.data.toList.take k)).length)/\Hid (dP wr g cur)/\cur.length=n/\Hid (cur.take m=ez (quo (s.data.toList.take k)))/\Hid (Below w.heap.size w wr)) (λ_ i _ _=>s.size-(intOf i).toNat)
     case atStart=>exact⟨0,0,cur0,Nat.zero_le _,rfl,rfl,rfl,L9,IJ,rfl,B0⟩
     case round =>
      obtain⟨k,m,cur,hk,rfl,rfl,hm,AC,kW,hcv,hB⟩:=hrel;by_cases hlt:k<s.size
      ·have hst:=uE s hlt;have hle:=lp s.data.toList (k+1);rw [HN.o] at hle;have hb:s[k].toNat<256:=UInt8.toNat_lt _;have R1:=O (HR.o.keep hB.o);have p34:=zb hB.o Kp.o;have p92:=zb hB.o KZ.o;have nq:=bN;by_cases l6:s[k].toNat=34
       ·rw [if_pos (.inl l6)] at hst;have HST:=O hst;rw [hst,List.length_append,<-hm.o] at hle;simp only [List.length_cons,List.length_nil] at hle;clear hst;go_wp2_with fail;have hs2:=mj hB.o QP.o;have e1:m<=n:=by omega
        have e2:¬n=m:=by omega
        have e3:(m:Int)<=(n:Int):=by omega
        go_region_law (refine step_copy_splice rfl (.tmp 105) (.tmp 111) 141 141 rfl 5 Tryz.underlying141 (by kernel_rfl) (some ⟨g,m,none⟩) (some ⟨P,0,none⟩) (n-m) (n-m) 2 d (by simp [Act.eval]) (by simp [Act.eval]) g m cur 5 AC.o [.int .u8 92,.int .u8 34] (by simp [Nat.min_def];omega) (λ_=>⟨rfl,_,rfl,hs2⟩) (by simp;omega) (by intro v hv;simp at hv;rcases hv with rfl|rfl <;> rfl) w.heap.size w hB.o.drew GB.o ?_;intro w4 hg4 hb4);go_wp2_with fail;go_roundw
        case rel=>exact⟨k+1,m+2,_,by omega,by go_num,by go_num,O (by rw [HST.o,List.length_append,<-hm.o];rfl),hg4,(length_splice _ _ _ (by simp;omega)).trans kW,O ((dD cur m [.int .u8 92,.int .u8 34] (by simp;omega)).trans (by rw [HST.o,bw,hcv.o];simp [ez,l6])),hb4⟩
        case measure=>simp [intOf];omega
       ·by_cases iF:s[k].toNat=92
        ·rw [if_pos (.inr iF)] at hst;have HST:=O hst;rw [hst,List.length_append,<-hm.o] at hle;simp only [List.length_cons,List.length_nil] at hle;clear hst;go_wp2_with fail;have hs2:=mj hB.o QQ.o;have e1:m<=n:=by omega
         have e2:¬n=m:=by omega
         have e3:(m:Int)<=(n:Int):=by omega
         go_region_law (refine step_copy_splice rfl (.tmp 105) (.tmp 111) 141 141 rfl 5 Tryz.underlying141 (by kernel_rfl) (some ⟨g,m,none⟩) (some ⟨Q,0,none⟩) (n-m) (n-m) 2 d' (by simp [Act.eval]) (by simp [Act.eval]) g m cur 5 AC.o [.int .u8 92,.int .u8 92] (by simp [Nat.min_def];omega) (λ_=>⟨rfl,_,rfl,hs2⟩) (by simp;omega) (by intro v hv;simp at hv;rcases hv with rfl|rfl <;> rfl) w.heap.size w hB.o.drew GB.o ?_;intro w4 hg4 hb4);go_wp2_with fail;go_roundw
         case rel=>exact⟨k+1,m+2,_,by omega,by go_num,by go_num,O (by rw [HST.o,List.length_append,<-hm.o];rfl),hg4,(length_splice _ _ _ (by simp;omega)).trans kW,O ((dD cur m [.int .u8 92,.int .u8 92] (by simp;omega)).trans (by rw [HST.o,bw,hcv.o];simp [ez,iF])),hb4⟩
         case measure=>simp [intOf];omega
        ·rw [if_neg (λe=>e.elim l6 iF)] at hst;have HST:=O hst;rw [hst,List.length_append,<-hm.o] at hle;simp only [List.length_cons,List.length_nil] at hle;have pn:=R1.o.tab.at_ s[k].toNat hb;rw [R1.o.o _ l6 iF] at pn;have e1:m<n:=by omega
         have e3:(m:Int)<(n:Int):=by omega
         have JK:m<cur.length:=by omega
         have d0:=AC.o.cell (List.getElem?_eq_getElem JK);have d1:=AC.o.thaw m;clear hst;go_wp2_with fail;go_roundw
         case rel=>exact⟨k+1,m+1,_,by omega,by go_num,by go_num,O (by rw [HST.o,List.length_append,<-hm.o];rfl),O (AC.o.set m _),by simpa using kW,O ((sL JK _).trans (by rw [HST.o,bw,hcv.o];rfl)),hB.o.setCell (p:=⟨g,m,none⟩) GB.o _⟩
         case measure=>simp [intOf];omega
      ·have ek:s.data.toList.take k=s.data.toList:=List.take_of_length_le (by omega);rw [ek] at hm hcv;have wM:cur.length<=m:=by rw [kW,hm.o,HN.o];exact Nat.le_refl _
       have Em:cur=ez (quo s.data.toList):=by
        have:=hcv.o;rwa [List.take_of_length_le wM] at this
       have Ix:=nG wr g s (Em ▸ AC.o);rw [HN.o] at Ix;clear ek hm hcv kW Em;go_wp2_with fail;go_ret;exact⟨rfl,hB.o⟩
 ·have hd:decide ((16:Int)<=(s.size:Int))=false:=decide_eq_false (by omega);go_wp2_with fail;clear c0;go_loopw [5,6,10,11] (λm y i _ wr=>∃k:Nat,k<=s.size/\i = .int .i64 k/\m = .int .i64 ((s.size+fR (s.data.toList.take k):Nat):Int)/\y = .bool (decide (fR (s.data.toList.take k)≠0))/\Hid (Below w.heap.size w wr)) (λ_ _ i _ _=>s.size-(intOf i).toNat)
  case atStart=>exact⟨0,Nat.zero_le _,rfl,rfl,rfl,Below.refl _ _⟩
  case round =>
   obtain⟨k,hk,rfl,rfl,rfl,hB⟩:=hrel;by_cases hlt:k<s.size
   ·have hc:=yK s hlt;have HC:=O hc;have kW:=E7 (s.data.toList.take k);have htl:(s.data.toList.take k).length<=k:=List.length_take_le _ _;have hb:s[k].toNat<256:=UInt8.toNat_lt _;have R1:=O (HR.o.keep hB.o);have p34:=zb hB.o Kp.o;have p92:=zb hB.o KZ.o;have nq:=bN;by_cases l6:s[k].toNat=34
    ·rw [if_pos (.inl l6)] at hc;go_wp2_with fail;go_roundw
     case rel=>exact⟨k+1,by omega,by go_num,by rw [HC.o,if_pos (.inl l6)];go_num,by rw [HC.o,if_pos (.inl l6)];simp,hB⟩
     case measure=>simp [intOf];omega
    ·by_cases iF:s[k].toNat=92
     ·rw [if_pos (.inr iF)] at hc;go_wp2_with fail;go_roundw
      case rel=>exact⟨k+1,by omega,by go_num,by rw [HC.o,if_pos (.inr iF)];go_num,by rw [HC.o,if_pos (.inr iF)];simp,hB⟩
      case measure=>simp [intOf];omega
     ·rw [if_neg (λe=>e.elim l6 iF)] at hc;have pn:=R1.o.tab.at_ s[k].toNat hb;rw [R1.o.o _ l6 iF] at pn;go_wp2_with fail;go_roundw
      case rel=>exact⟨k+1,by omega,by go_num,by rw [HC.o,if_neg (λe=>e.elim l6 iF)];rfl,by rw [HC.o,if_neg (λe=>e.elim l6 iF)];rfl,hB⟩
      case measure=>simp [intOf];omega
   ·have HQ:=O (show fR s.data.toList=fR (s.data.toList.take k) by rw [List.take_of_length_le (by omega)]);generalize fR (s.data.toList.take k)=q at *;clear Ko Ky n34 n92 EQ;rcases q with _|q
    ·have e0:decide ((0:Nat)≠0)=false:=rfl;rw [e0];have Z:=O (show quo s.data.toList=s.data.toList from tm (by have:=HQ.o;unfold fR at this;omega) (by have:=HQ.o;unfold fR at this;omega));go_wp2_with fail;go_ret;exact⟨by rw [Z.o,mU];rfl,hB.o⟩
    ·have e0:decide (q+1≠0)=true:=decide_eq_true (by omega);rw [e0];have hn:(quo s.data.toList).length=s.size+(q+1):=by rw [pB,hl];have:=HQ.o;unfold fR at this;omega
     generalize s.size+(q+1)=n at *;have hn2:=(eR s.data.toList).2;rw [hn,hl] at hn2;have hn120:n<=120:=by omega
     have HN:=O hn;have hsz:=hB.o.size;clear hn hn2 e0;go_wp2_with (at_make;refine wpList_make_full _ rfl _ _ 141 rfl w.heap.size 5 i0 (.int .u8 0) 1 Tryz.underlying141 hi hz0 hz1 .i64 .i64 _ _ n rfl rfl rfl rfl (by rw [hz2];omega) (by unfold maxLen;omega) hsz ?_;intro w0 hown0 hgrow0);obtain⟨cur0,L9,IJ⟩:=xt hown0;have B0:=O (hB.o.trans ((ff hgrow0).mono hsz));have GB:=O (show w.heap.size<=wr.heap.size from hsz);generalize wr.heap.size=g at *;clear hown0 hgrow0 hsz hB;go_wp2_with fail;go_loopw [13,14,15] (λj i _ wr=>∃(k m:Nat) (cur:List Value),k<=s.size/\i = .int .i64 k/\j = .int .i64 m/\Hid (m=(quo (s.data.toList.take k)).length)/\Hid (dP wr g cur)/\cur.length=n/\Hid (cur.take m=ez (quo (s.data.toList.take k)))/\Hid (Below w.heap.size w wr)) (λ_ i _ _=>s.size-(intOf i).toNat)
     case atStart=>exact⟨0,0,cur0,Nat.zero_le _,rfl,rfl,rfl,L9,IJ,rfl,B0⟩
     case round =>
      obtain⟨k,m,cur,hk,rfl,rfl,hm,AC,kW,hcv,hB⟩:=hrel;by_cases hlt:k<s.size
      ·have hst:=uE s hlt;have hle:=lp s.data.toList (k+1);rw [HN.o] at hle;have hb:s[k].toNat<256:=UInt8.toNat_lt _;have R1:=O (HR.o.keep hB.o);have p34:=zb hB.o Kp.o;have p92:=zb hB.o KZ.o;have nq:=bN;by_cases l6:s[k].toNat=34
       ·rw [if_pos (.inl l6)] at hst;have HST:=O hst;rw [hst,List.length_append,<-hm.o] at hle;simp only [List.length_cons,List.length_nil] at hle;clear hst;go_wp2_with fail;have hs2:=mj hB.o QP.o;have e1:m<=n:=by omega
        have e2:¬n=m:=by omega
        have e3:(m:Int)<=(n:Int):=by omega
        go_region_law (refine step_copy_splice rfl (.tmp 105) (.tmp 111) 141 141 rfl 5 Tryz.underlying141 (by kernel_rfl) (some ⟨g,m,none⟩) (some ⟨P,0,none⟩) (n-m) (n-m) 2 d (by simp [Act.eval]) (by simp [Act.eval]) g m cur 5 AC.o [.int .u8 92,.int .u8 34] (by simp [Nat.min_def];omega) (λ_=>⟨rfl,_,rfl,hs2⟩) (by simp;omega) (by intro v hv;simp at hv;rcases hv with rfl|rfl <;> rfl) w.heap.size w hB.o.drew GB.o ?_;intro w4 hg4 hb4);go_wp2_with fail;go_roundw
        case rel=>exact⟨k+1,m+2,_,by omega,by go_num,by go_num,O (by rw [HST.o,List.length_append,<-hm.o];rfl),hg4,(length_splice _ _ _ (by simp;omega)).trans kW,O ((dD cur m [.int .u8 92,.int .u8 34] (by simp;omega)).trans (by rw [HST.o,bw,hcv.o];simp [ez,l6])),hb4⟩
        case measure=>simp [intOf];omega
       ·by_cases iF:s[k].toNat=92
        ·rw [if_pos (.inr iF)] at hst;have HST:=O hst;rw [hst,List.length_append,<-hm.o] at hle;simp only [List.length_cons,List.length_nil] at hle;clear hst;go_wp2_with fail;have hs2:=mj hB.o QQ.o;have e1:m<=n:=by omega
         have e2:¬n=m:=by omega
         have e3:(m:Int)<=(n:Int):=by omega
         go_region_law (refine step_copy_splice rfl (.tmp 105) (.tmp 111) 141 141 rfl 5 Tryz.underlying141 (by kernel_rfl) (some ⟨g,m,none⟩) (some ⟨Q,0,none⟩) (n-m) (n-m) 2 d' (by simp [Act.eval]) (by simp [Act.eval]) g m cur 5 AC.o [.int .u8 92,.int .u8 92] (by simp [Nat.min_def];omega) (λ_=>⟨rfl,_,rfl,hs2⟩) (by simp;omega) (by intro v hv;simp at hv;rcases hv with rfl|rfl <;> rfl) w.heap.size w hB.o.drew GB.o ?_;intro w4 hg4 hb4);go_wp2_with fail;go_roundw
         case rel=>exact⟨k+1,m+2,_,by omega,by go_num,by go_num,O (by rw [HST.o,List.length_append,<-hm.o];rfl),hg4,(length_splice _ _ _ (by simp;omega)).trans kW,O ((dD cur m [.int .u8 92,.int .u8 92] (by simp;omega)).trans (by rw [HST.o,bw,hcv.o];simp [ez,iF])),hb4⟩
         case measure=>simp [intOf];omega
        ·rw [if_neg (λe=>e.elim l6 iF)] at hst;have HST:=O hst;rw [hst,List.length_append,<-hm.o] at hle;simp only [List.length_cons,List.length_nil] at hle;have pn:=R1.o.tab.at_ s[k].toNat hb;rw [R1.o.o _ l6 iF] at pn;have e1:m<n:=by omega
         have e3:(m:Int)<(n:Int):=by omega
         have JK:m<cur.length:=by omega
         have d0:=AC.o.cell (List.getElem?_eq_getElem JK);have d1:=AC.o.thaw m;clear hst;go_wp2_with fail;go_roundw
         case rel=>exact⟨k+1,m+1,_,by omega,by go_num,by go_num,O (by rw [HST.o,List.length_append,<-hm.o];rfl),O (AC.o.set m _),by simpa using kW,O ((sL JK _).trans (by rw [HST.o,bw,hcv.o];rfl)),hB.o.setCell (p:=⟨g,m,none⟩) GB.o _⟩
         case measure=>simp [intOf];omega
      ·have ek:s.data.toList.take k=s.data.toList:=List.take_of_length_le (by omega);rw [ek] at hm hcv;have wM:cur.length<=m:=by rw [kW,hm.o,HN.o];exact Nat.le_refl _
       have Em:cur=ez (quo s.data.toList):=by
        have:=hcv.o;rwa [List.take_of_length_le wM] at this
       have Ix:=nG wr g s (Em ▸ AC.o);rw [HN.o] at Ix;clear ek hm hcv kW Em;go_wp2_with fail;go_ret;exact⟨rfl,hB.o⟩
theorem qo(b G C:Nat)(s:ByteArray)(w:World)(h:rz w b G C)(Hj:b≠G)(hs:s.size<=60):
 Calls Tryz.prog 110 #[.pointer (some ⟨b,0,none⟩),.string s] w λe w'=>e = .returned (.string (bv (quo s.data.toList)))/\∃w1,w.grownBy w1 (some b)/\Below w1.heap.size w1 w':=by
 have K:=O (Fw b G C w h Hj);clear h;go_enter Tryz.func110,Tryz.ntmps110;go_wp2_with fail;refine(K.o).mono ?_;rintro e w1 ⟨X,f,T,c,rfl,hX,R,h3,hg⟩;have KR:=O (Gk X T c f s w1 R hs);have HG:=O hg;clear R hg K;go_wp2_with fail;refine(KR.o).mono ?_;rintro e w2 ⟨rfl,b2⟩;go_wp2_with fail;go_ret;exact⟨rfl,w1,HG.o,b2⟩
theorem vv(s:ByteArray):(⟨#[34]⟩:ByteArray)++ bv (quo s.data.toList)++⟨#[34]⟩=Wk.quoted s:=by
 refine j4 ?_;rw [tU];simp [ByteArray.data_append,bv]
theorem vK(s:ByteArray)(w:World)(hs:s.size<=maxLen):
 Calls Tryz.prog 76 #[.string s] w λe w'=>e = .returned (.tuple #[.string (FW s),zM (zA s)])/\Below w.heap.size w w':=by
 have K:=O (cE s w hs);by_cases h0:zA s=0
 ·rw [h0,zf] at K;have h60:s.size<=60:=by
   unfold zA at h0;by_cases h:60<s.size
   ·rw [if_pos h] at h0;cases h0
   ·omega
  have HV:=O (show FW s=Wk.quoted s from if_pos h0);rw [h0,zf,HV.o];clear h0;go_enter Tryz.func76,Tryz.ntmps76;go_wp2_with fail;refine(K.o).mono ?_;rintro e w1 ⟨rfl,b1⟩;have B1:=O b1;clear b1 K;go_wp2_with fail;have T2:=O (bW w1 [.string ⟨#[92]⟩,.string ⟨#[92,92]⟩,.string ⟨#[34]⟩,.string ⟨#[92,34]⟩] 9);have B2:=bh B1 (za w1 (.cells #[.string ⟨#[92]⟩,.string ⟨#[92,92]⟩,.string ⟨#[34]⟩,.string ⟨#[92,34]⟩] 9));obtain⟨w2,hw2⟩:∃w2,w1.alloc (.cells #[.string ⟨#[92]⟩,.string ⟨#[92,92]⟩,.string ⟨#[34]⟩,.string ⟨#[92,34]⟩] 9)=w2:=⟨_,rfl⟩
  have e2:w1.alloc (.cells [Value.string ⟨#[92]⟩,.string ⟨#[92,92]⟩,.string ⟨#[34]⟩,.string ⟨#[92,34]⟩].toArray 9)=w2:=hw2;rw [e2] at T2;rw [hw2] at B2 ⊢;clear hw2 e2;refine(Ci w1.heap.size w2 (by simpa [Addr.add] using T2.o 0 _ rfl) (by simpa [Addr.add] using T2.o 1 _ rfl) (by simpa [Addr.add] using T2.o 2 _ rfl) (by simpa [Addr.add] using T2.o 3 _ rfl)).mono ?_;rintro e w3 ⟨b,G,C,rfl,hN,Hj,hb,b3⟩;have B3:=bh B2 b3;have KR:=O (qo b G C s w3 hN Hj h60);have HB:=O (show w.heap.size<=b from Nat.le_trans B2.o.size hb);clear T2 hN b3 B2 hb Hj B1;go_wp2_with fail;refine(KR.o).mono ?_;rintro e w4 ⟨rfl,w5,hg,b4⟩;have B4:=O ((B3.o.trans (aw hg HB.o B3.o.size)).trans (b4.mono (Nat.le_trans B3.o.size hg.size)));clear KR hg b4;have hz:(bv (quo s.data.toList)).size<=120:=by
   rw [kd];have:=(eR s.data.toList).2;rw [gh] at this;omega
  have HS:=O (vv s);generalize bv (quo s.data.toList)=q at *;go_wp2_with fail;go_ret2;exact⟨by rw [<-HS.o];rfl,B4.o⟩
 ·have HE:=O (zl h0);have HV:=O (show FW s=⟨#[]⟩ from if_neg h0);rw [HE.o] at K;rw [HE.o,HV.o];clear h0;go_enter Tryz.func76,Tryz.ntmps76;go_wp2_with fail;refine(K.o).mono ?_;rintro e w1 ⟨rfl,b1⟩;have B1:=O b1;clear b1 K;go_wp2_with fail;go_ret2;exact⟨rfl,B1.o⟩
end Go.Proofs.YthidiimbeaabhaaGreatDoor
namespace Go.Proofs.YthidiimbeaabhaaGreatDoor
open Go.RowKit Go.Shelf
end Go.Proofs.YthidiimbeaabhaaGreatDoor
