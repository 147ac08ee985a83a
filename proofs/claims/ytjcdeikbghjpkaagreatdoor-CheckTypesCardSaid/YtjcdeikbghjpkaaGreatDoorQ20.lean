/-
  strings.NewReplacer at four texts of one byte or two, and its Replace: the table is built once. sync.Once's Do at a replacer that has not been built; the ..
-/
import Derived.Deep.WholeRow
import Derived.Test.YtjcdeikbghjpkaaGreatDoorQ7
import Derived.Test.YtjcdeikbghjpkaaGreatDoorQ16
import Derived.Test.YtjcdeikbghjpkaaGreatDoorQ19
set_option maxRecDepth 100000
set_option maxHeartbeats 4000000
namespace Go.Proofs.YtjcdeikbghjpkaaGreatDoor
open Go.RowKit Go.Wk
theorem zqo:(Tryz.prog.info? 9).map (fun i=>(i.zero,i.size,i.bytes))=some (some (.string ⟨#[]⟩),1,16):=by kernel_rfl
noncomputable def zfq(v:Value):Array Value:=Tryz.zeroCells227.setIfInBounds 256 v
theorem zmb:Tryz.zeroCells227=Array.replicate 257 (.slice none 0 0):=by kernel_rfl
theorem zkE(v:Value):zfq v=(Array.replicate 257 (.slice none 0 0)).setIfInBounds 256 v:=by unfold zfq;rw [zmb]
theorem zoK(v:Value):(zfq v).size=257:=by rw [zkE];simp
theorem zn4(v:Value)(k:Nat)(h:k<256):(zfq v)[k]?=some (.slice none 0 0):=by
 rw [zkE,Array.getElem?_setIfInBounds];rw [if_neg (by omega),Array.getElem?_replicate,if_pos (by omega)]
theorem zjA(v:Value):(zfq v)[256]?=some v:=by rw [zkE];simp
structure Tab(w:World)(X:Nat)(f:Nat→Value)(z:Value):Prop where
 at_:∀k,k<256→w.cell? ⟨X,k,none⟩=some (f k)
 last:w.cell? ⟨X,256,none⟩=some z
 thaw:∀k,k≤256→w.frozen? ⟨X,k,none⟩=false
theorem zx{w:World}{b k:Nat}{arr:Array Value}{t:TypeId}{fz:Nat × Nat}{u:Value}(h:w.heap[b]?=some (.cells arr t fz))(hu:arr[k]?=some u):w.cell? ⟨b,k,none⟩=some u:=by
 rw [cell_of_row _ _ k arr t fz h];exact hu
theorem zrP(w:World)(v:Value):Tab (w.alloc (.cells (zfq v) 227)) w.heap.size (fun _ => .slice none 0 0) v :=
 ⟨fun k h=>zx (heap_alloc_last w _) (zn4 v k h),zx (heap_alloc_last w _) (zjA v),fun k _=>by simp⟩
theorem Tab.lt{w:World}{X:Nat}{f:Nat→Value}{z:Value}(h:Tab w X f z):X<w.heap.size:=block_lt_of_cell h.last
theorem Tab.keep{w w':World}{X:Nat}{f:Nat→Value}{z:Value}(h:Tab w X f z)(hb:Below w.heap.size w w'):Tab w' X f z :=
 ⟨fun k hk=>zb hb (h.at_ k hk),zb hb h.last,fun k hk=>by rw [(zar hb).2 X k h.lt];exact h.thaw k hk⟩
theorem Tab.set{w:World}{X:Nat}{f:Nat→Value}{z:Value}(h:Tab w X f z)(j:Nat)(hj:j<256)(v:Value):Tab (w.setCell ⟨X,j,none⟩ v) X (fun k=>if k=j then v else f k) z :=
 ⟨fun k hk=>by
  by_cases e:k=j
  ·subst e;rw [if_pos rfl];exact World.cell?_setCell_same _ _ _ (h.at_ k hk)
  ·rw [if_neg e,World.cell?_setCell_other _ ⟨X,j,none⟩ ⟨X,k,none⟩ _ (by intro e;injection e;omega)];exact h.at_ k hk,
  by rw [World.cell?_setCell_other _ ⟨X,j,none⟩ ⟨X,256,none⟩ _ (by intro e;injection e;omega)];exact h.last,
  fun k hk=>by rw [World.frozen?_setCell];exact h.thaw k hk⟩
theorem Tab.grown{w w':World}{X:Nat}{f:Nat→Value}{z:Value}{g:Option Nat}(h:Tab w X f z)(hg:w.grownBy w' g)(hn:g≠some X):Tab w' X f z:=by
 have hb:w'.heap[X]?=w.heap[X]?:=hg.block X h.lt (fun e=>hn e.symm);exact⟨fun k hk=>(World.cell?_of_block (a:=⟨X,k,none⟩) hb).trans (h.at_ k hk),(World.cell?_of_block (a:=⟨X,256,none⟩) hb).trans h.last,fun k hk=>(World.frozen?_of_block (a:=⟨X,k,none⟩) hb).trans (h.thaw k hk)⟩
theorem Tab.setLast{w:World}{X:Nat}{f:Nat→Value}{z:Value}(h:Tab w X f z)(v:Value):Tab (w.setCell ⟨X,256,none⟩ v) X f v :=
 ⟨fun k hk=>by rw [World.cell?_setCell_other _ ⟨X,256,none⟩ ⟨X,k,none⟩ _ (by intro e;injection e;omega)];exact h.at_ k hk,
  World.cell?_setCell_same _ _ _ h.last,
  fun k hk=>by rw [World.frozen?_setCell];exact h.thaw k hk⟩
theorem zo3(w:World):(binOp .eql 117 (.slice none 0 0) (.slice none 0 0)).run Tryz.prog w = .ok (.bool true) w:=by kernel_rfl
theorem zl8(w:World)(b:UInt8)(n:Int)(hn:n=b.toNat):(convert 117 9 (.slice (some ⟨w.heap.size,0,none⟩) 1 1)).run Tryz.prog (w.alloc (.cells #[.int .u8 n] 5))= .ok (.string ⟨#[b]⟩) (w.alloc (.cells #[.int .u8 n] 5)):=by
 subst hn;exact run_convert_bytes_back (P:=Tryz.prog) _ 117 9 5 ⟨w.heap.size,0,none⟩ 1 [b] Tryz.underlying117 Tryz.underlying5 Tryz.underlying9 (fun j hj=>by
  have:j=0:=by simpa using hj
  subst this
  exact cell_one_new w _ _ 0 _ rfl)
theorem znL(w:World)(o:Array Value)(x:Value)(t t':TypeId):∀j u,[x][j]?=some u→((w.alloc (.cells o t')).alloc (.cells #[x] t)).cell? ((⟨w.heap.size+1,0,none⟩:Addr).add j)=some u:=by
 intro j u hj;have:=cell_one_new (w.alloc (.cells o t')) x t j u hj;simpa using this
theorem zjL{w:World}{B n size:Nat}{e:TypeId}{v:Value}{xs:List Value}(h:w.ownsRow B e size v n xs):∃A c,v = .slice A n c:=by
 rcases h.2 with ⟨rfl,h0⟩|⟨g,cap,cur,rfl,_⟩
 ·exact⟨none,0,by rw [h0]⟩
 ·exact⟨_,_,rfl⟩
def Tx(w:World)(X:Nat)(g:Option Nat)(v:Value)(l:List UInt8):Prop:=∃P c,v = .slice (some ⟨P,0,none⟩) l.length c∧P≠X∧g≠some P∧P<w.heap.size∧∀(j:Nat) (b:UInt8),l[j]?=some b→w.cell? ⟨P,j,none⟩=some (.int .u8 (b.toNat:Int))
theorem Tx.keep{w w':World}{X:Nat}{g:Option Nat}{v:Value}{l:List UInt8}(h:Tx w X g v l)(hb:Below w.heap.size w w'):Tx w' X g v l :=
 let ⟨P,c,h1,h2,h3,h4,h5⟩:=h;⟨P,c,h1,h2,h3,Nat.lt_of_lt_of_le h4 hb.size,fun j b hj=>zb hb (h5 j b hj)⟩
theorem Tx.grown{w w':World}{X:Nat}{g:Option Nat}{v:Value}{l:List UInt8}(h:Tx w X g v l)(hg:w.grownBy w' g):Tx w' X g v l :=
 let ⟨P,c,h1,h2,h3,h4,h5⟩:=h;⟨P,c,h1,h2,h3,Nat.lt_of_lt_of_le h4 hg.size,fun j b hj=>(World.cell?_of_block (a:=⟨P,j,none⟩) (hg.block P h4 (fun e=>h3 e.symm))).trans (h5 j b hj)⟩
theorem Tx.setX{w:World}{X:Nat}{g:Option Nat}{v:Value}{l:List UInt8}(h:Tx w X g v l)(k:Nat)(u:Value):Tx (w.setCell ⟨X,k,none⟩ u) X g v l :=
 let ⟨P,c,h1,h2,h3,h4,h5⟩:=h;⟨P,c,h1,h2,h3,by simpa [World.setCell] using h4,fun j b hj=>by
  rw [World.cell?_setCell_other _ ⟨X,k,none⟩ ⟨P,j,none⟩ _ (by intro e;injection e with e;exact h2 e.symm)];exact h5 j b hj⟩
theorem Tx.regrow{w w':World}{X:Nat}{g g':Option Nat}{v:Value}{l:List UInt8}{o o':Obj}(h:Tx w X g v l)(hg:((w.alloc o).alloc o').grownBy w' g)(hat:g'=g∨g'=some (w.heap.size+1+1)):Tx w' X g' v l:=by
 have h1:=((h.keep (za w o)).keep (za _ o')).grown hg;obtain⟨P,c,h1,h2,h3,h4,h5⟩:=h1;refine⟨P,c,h1,h2,?_,h4,h5⟩;rcases hat with rfl|rfl
 ·exact h3
 ·obtain⟨P',c',k1,k2,k3,k4,k5⟩:=h;rw [h1] at k1;injection k1 with k1;injection k1 with k1;injection k1 with k1;intro e;injection e with e;omega
theorem zsi{w:World}{X P c:Nat}{g:Option Nat}(l:List UInt8)(hX:P≠X)(hg:g≠some P)(hP:P<w.heap.size)(h:∀(k:Nat) (h:k<(⟨l.toArray⟩:ByteArray).size),w.cell? ⟨P,k,none⟩=some (.int .u8 ((⟨l.toArray⟩:ByteArray)[k].toNat:Int))):Tx w X g (.slice (some ⟨P,0,none⟩) l.length c) l :=
 ⟨P,c,rfl,hX,hg,hP,fun j b hj=>by
  obtain⟨hk,e⟩:=List.getElem?_eq_some_iff.1 hj
  have:=h j (by show j<l.toArray.size;rw [List.size_toArray];exact hk)
  rw [this,←e];rfl⟩
def Rnd(w:World)(X:Nat)(wr:World)(i:Value):Prop:=∃(f:Nat→Value) (z:Value) (L:List Value),
 wr.ownsRow w.heap.size 9 1 z L.length L∧Tab wr X f z∧z.ownBlock≠some X∧Below w.heap.size w wr∧
 ((i = .int .i64 2∧L = []∧f=fun _ => .slice none 0 0)∨
  (i = .int .i64 0∧L = [.string ⟨#[34]⟩]∧Tx wr X z.ownBlock (f 34) [92,34]∧∀k,k≠34→f k = .slice none 0 0)∨
  (i = .int .i64 (-2)∧L = [.string ⟨#[34]⟩,.string ⟨#[92]⟩]∧Tx wr X z.ownBlock (f 34) [92,34]∧Tx wr X z.ownBlock (f 92) [92,92]∧∀k,k≠34→k≠92→f k = .slice none 0 0))
structure zdZ(w:World)(X:Nat)(f:Nat→Value)(T c:Nat):Prop where
 tab:Tab w X f (.slice (some ⟨T,0,none⟩) 2 c)
 t0:w.cell? ⟨T,0,none⟩=some (.string ⟨#[34]⟩)
 t1:w.cell? ⟨T,1,none⟩=some (.string ⟨#[92]⟩)
 q:∃P d,f 34 = .slice (some ⟨P,0,none⟩) 2 d∧w.cell? ⟨P,0,none⟩=some (.int .u8 92)∧w.cell? ⟨P,1,none⟩=some (.int .u8 34)
 s:∃P d,f 92 = .slice (some ⟨P,0,none⟩) 2 d∧w.cell? ⟨P,0,none⟩=some (.int .u8 92)∧w.cell? ⟨P,1,none⟩=some (.int .u8 92)
 o:∀k,k≠34→k≠92→f k = .slice none 0 0
theorem zdZ.keep{w w':World}{X:Nat}{f:Nat→Value}{T c:Nat}(h:zdZ w X f T c)(hb:Below w.heap.size w w'):zdZ w' X f T c :=
 ⟨h.tab.keep hb,zb hb h.t0,zb hb h.t1,let ⟨P,d,h1,h2,h3⟩:=h.q;⟨P,d,h1,zb hb h2,zb hb h3⟩,let ⟨P,d,h1,h2,h3⟩:=h.s;⟨P,d,h1,zb hb h2,zb hb h3⟩,h.o⟩
theorem zsw{w:World}{X B:Nat}{f:Nat→Value}{z:Value}(hO:w.ownsRow B 9 1 z 2 [.string ⟨#[34]⟩,.string ⟨#[92]⟩])(hT:Tab w X f z)
 (h34:Tx w X z.ownBlock (f 34) [92,34]) (h92:Tx w X z.ownBlock (f 92) [92,92]) (hk:∀k,k≠34→k≠92→f k = .slice none 0 0):∃T c,zdZ w X f T c:=by
 have hc:=fun g (e:z.ownBlock=some g)=>hO.cells (g:=g) e;obtain⟨P,d,p1,-,-,-,p2⟩:=h34;obtain⟨Q,d',q1,-,-,-,q2⟩:=h92;rcases hO.2 with ⟨rfl,h0⟩|⟨g,cap,cur,rfl,_⟩
 ·omega
 ·exact⟨g,cap,hT,hc g rfl 0 _ rfl,hc g rfl 1 _ rfl,⟨P,d,p1,p2 0 92 rfl,p2 1 34 rfl⟩,⟨Q,d',q1,q2 0 92 rfl,q2 1 92 rfl⟩,hk⟩
theorem zp9(w0:World)(A:Option Addr)(n c:Nat):
 Sem.run Tryz.prog (storeCells ⟨w0.heap.size,0,none⟩ (Tryz.zeroCells227.toList.set 256 (.slice A n c))) (w0.alloc (.cells Tryz.zeroCells227 227))= .ok () (w0.alloc (.cells (zfq (.slice A n c)) 227)):=by
 have hs:=zoK (.slice A n c);have hz:Tryz.zeroCells227.size=257:=by rw [zmb];simp
 have h1:(zfq (.slice A n c)).all (·.oneCell')=true:=by
  rw [Array.all_eq_true];intro i hi;have:=Array.getElem?_eq_getElem hi;rcases Nat.lt_or_ge i 256 with h|h
  ·rw [zn4 _ i h] at this;injection this with this;rw [←this];rfl
  ·have e:i=256:=by omega
   subst e;rw [zjA] at this;injection this with this;rw [←this];rfl
 have:=run_storeCells_new (P:=Tryz.prog) w0 227 Tryz.zeroCells227 (zfq (.slice A n c)) (by rw [hs];kernel_rfl) (by omega) h1;have e:(zfq (.slice A n c)).toList=Tryz.zeroCells227.toList.set 256 (.slice A n c):=by unfold zfq;simp
 rw [e] at this;exact this
theorem znf(b G C:Nat)(w:World)(h4:w.cell? ⟨b,4,none⟩=some (.slice (some ⟨G,0,none⟩) 4 C))
 (t0:w.cell? ⟨G,0,none⟩=some (.string ⟨#[92]⟩)) (t1:w.cell? ⟨G,1,none⟩=some (.string ⟨#[92,92]⟩)) (t2:w.cell? ⟨G,2,none⟩=some (.string ⟨#[34]⟩)) (t3:w.cell? ⟨G,3,none⟩=some (.string ⟨#[92,34]⟩)):
 Calls Tryz.prog 114 #[.pointer (some ⟨b,0,none⟩)] w fun e w'=>∃X f T c,e = .returned (.iface 228 (.pointer (some ⟨X,0,none⟩)))∧w.heap.size≤X∧zdZ w' X f T c∧Below w.heap.size w w':=by
 obtain⟨j0,hj,jz0,jz1,jz2⟩:=info_parts zqo;have T0:=hi9 t0;have T1:=hi9 t1;have T2:=hi9 t2;have T3:=hi9 t3;clear t0 t1 t2 t3;go_enter Tryz.func114,Tryz.ntmps114;go_wp2_with fail;go_loopw [4,5] (fun f i wr=>((i = .int .i64 0∧f = .bool true)∨(i = .int .i64 2∧f = .bool false)∨(i = .int .i64 4∧f = .bool false))∧Hid (Below w.heap.size w wr)) (fun _ i _=>4-(intOf i).toNat)
 case atStart=>exact⟨.inl ⟨rfl,rfl⟩,Below.refl _ _⟩
 case round =>
  obtain⟨hk,hB⟩:=hrel;have e0:=zb hB.out T0.out;have e1:=zb hB.out T1.out;have e2:=zb hB.out T2.out;have e3:=zb hB.out T3.out;rcases hk with ⟨rfl,rfl⟩|⟨rfl,rfl⟩|⟨rfl,rfl⟩
  ·go_wp2_with fail;go_roundw
   case rel=>exact⟨.inr (.inl ⟨rfl,rfl⟩),hB⟩
   case measure=>simp [intOf]
  ·go_wp2_with fail;go_roundw
   case rel=>exact⟨.inr (.inr ⟨rfl,rfl⟩),hB⟩
   case measure=>simp [intOf]
  ·have hsz:=hB.out.size;go_wp2_with (at_make;refine wpList_make_own _ rfl _ _ 39 rfl w.heap.size 9 j0 (.string ⟨#[]⟩) 1 Tryz.underlying39 hj jz0 jz1 .i64 .i64 _ 2 rfl rfl (by simp) (by rw [jz2];omega) (by unfold maxLen;omega) hsz ?_;intro w0 hown0 hgrow0);have hst:=zp9 w0 (some ⟨wr.heap.size,0,none⟩) 0 2;rw [hst];clear hst;have hX:=hgrow0.size;have hYX:=zd9 hown0 wr.heap.size rfl;have TB:=hi9 (zrP w0 (.slice (some ⟨wr.heap.size,0,none⟩) 0 2));have OW:=hi9 (hown0.alloc (.cells (zfq (.slice (some ⟨wr.heap.size,0,none⟩) 0 2)) 227));have B1:=bh hB (((zdy hgrow0)).alloc hX (.cells (zfq (.slice (some ⟨wr.heap.size,0,none⟩) 0 2)) 227));obtain⟨w1,hw1⟩:∃w1,w0.alloc (.cells (zfq (.slice (some ⟨wr.heap.size,0,none⟩) 0 2)) 227)=w1:=⟨_,rfl⟩
   rw [hw1] at TB OW B1 ⊢;clear hw1 hown0 hgrow0 hB e0 e1 e2 e3;have hXB:w.heap.size≤w0.heap.size:=by omega
   go_wp2_with fail;generalize w0.heap.size=X at *;generalize wr.heap.size=Y at *;go_loopw [12,13,14] (fun i _ _ wr=>Hid (Rnd w X wr i)) (fun i _ _ _=>(intOf i+2).toNat)
   case atStart=>exact⟨_,_,_,OW.out,TB.out,by simp [Value.ownBlock];omega,B1.out,.inl ⟨rfl,rfl,rfl⟩⟩
   case round =>
    obtain⟨f,z,L,hO,hT,hN,hB,hk⟩:=hrel.out;have e0:=zb hB T0.out;have e1:=zb hB T1.out;have e2:=zb hB T2.out;have e3:=zb hB T3.out;have HO:=hi9 hO;have HT:=hi9 hT;have HN:=hi9 hN;have HB:=hi9 hB;clear hO hT hN hB hrel;have qnil:=zo3;have q34:((⟨#[34]⟩:ByteArray)[0]'(by decide)).toNat=34:=rfl;have q92:((⟨#[92]⟩:ByteArray)[0]'(by decide)).toNat=92:=rfl;rcases hk with ⟨rfl,rfl,rfl⟩|⟨rfl,rfl,h34,hk⟩|⟨rfl,rfl,h34,h92,hk⟩
    ·have c0:=HT.out.at_ 34 (by omega);have c1:=HT.out.last;have qs:=zl8 wr 34 34 rfl;have hsz2:=HB.out.size;go_wp2_with (at_builtin;refine wpList_append_own_at _ rfl _ _ 39 rfl w.heap.size 9 j0 _ 1 16 Tryz.underlying39 hj jz0 jz1 jz2 rfl (by decide) _ 0 [] rfl ((HO.out.alloc _).alloc _) ⟨wr.heap.size+1,0,none⟩ 1 1 [.string ⟨#[34]⟩] rfl rfl (znL wr _ _ _ _) (by intro u hu;simp only [List.mem_cons,List.not_mem_nil,or_false] at hu;subst hu;rfl) ?d1 ?d2 ?d3 ?_)
     case d1=>unfold maxLen;omega
     case d2=>omega
     case d3=>simp;omega
     intro v2 w3 hown hgrow _ hat;have T3':=hi9 (((HT.out.keep (za wr _)).keep (za _ _)).grown hgrow HN.out);obtain⟨A2,n2,rfl⟩:=zjL hown;have O3:=hi9 hown;have B3:=hi9 ((((HB.out.alloc hsz2 _).alloc (by simp;omega) _)).grown hgrow (by simp;omega) (fun g hg=>zD HO.out g hg));have N3:=hi9 (show(Value.slice A2 1 n2).ownBlock≠some X by
      rcases hat with q|q
      ·rw [q];exact HN.out
      ·rw [q];intro e;injection e with e;have:=HT.out.lt;omega)
     have d1:=T3'.out.last;have d2:=T3'.out.thaw 256 (by omega);clear hown hgrow hat HT HO HB HN c0 c1 e0 e1 e2 e3 qs hsz2;go_wp2_with fail;have O4:=hi9 (ownsRow_setCell_other O3.out (a:=⟨X,256,none⟩) N3.out (.slice A2 1 n2));have T4:=hi9 (T3'.out.setLast (.slice A2 1 n2));have B4:=hi9 (B3.out.setCell (p:=⟨X,256,none⟩) hXB (.slice A2 1 n2));obtain⟨w4,hw4⟩:∃w4,w3.setCell ⟨X,256,none⟩ (.slice A2 1 n2)=w4:=⟨_,rfl⟩
     rw [hw4] at O4 T4 B4 ⊢;clear hw4 d1 d2 O3 T3' B3;obtain⟨c5,w5,hrun,hb5,hcell⟩:=zeF ⟨#[92,34]⟩ w4;rw [hrun];clear hrun;have hc0:=hcell 0 (by decide);have X5:=hi9 (zsi (w:=w5) (X:=X) (P:=w4.heap.size) (c:=c5) (g:=(Value.slice A2 1 n2).ownBlock) [92,34] (by have:=T4.out.lt;omega) (by intro e;have:=zd9 O4.out _ e;omega) (block_lt_of_cell hc0) hcell);have T5:=hi9 (T4.out.keep hb5);have B5:=bh B4 hb5;have O5:=hi9 (z8 O4.out hb5);have e1:=T5.out.at_ 34 (by omega);have e2:=T5.out.thaw 34 (by omega);clear hcell hb5 O4 T4 B4 hc0;go_wp2_with fail;go_roundw
     case rel =>
      refine hi9 ⟨_,_,[.string ⟨#[34]⟩],ownsRow_setCell_other O5.out (a:=⟨X,34,none⟩) N3.out _,T5.out.set 34 (by omega) _,N3.out,B5.out.setCell (p:=⟨X,34,none⟩) hXB _,.inr (.inl ⟨rfl,rfl,by rw [if_pos rfl];exact X5.out.setX 34 _,fun k hk=>by rw [if_neg hk]⟩)⟩
     case measure=>simp [intOf]
    ·have c0:=HT.out.at_ 92 (by omega);have c1:=HT.out.last;have qs:=zl8 wr 92 92 rfl;have hsz2:=HB.out.size;have H34:=hi9 h34;have HK:=hi9 hk;have ek:f 92 = .slice none 0 0:=hk 92 (by decide);rw [ek] at c0;clear h34 hk ek;go_wp2_with (at_builtin;refine wpList_append_own_at _ rfl _ _ 39 rfl w.heap.size 9 j0 _ 1 16 Tryz.underlying39 hj jz0 jz1 jz2 rfl (by decide) _ 1 [.string ⟨#[34]⟩] rfl ((HO.out.alloc _).alloc _) ⟨wr.heap.size+1,0,none⟩ 1 1 [.string ⟨#[92]⟩] rfl rfl (znL wr _ _ _ _) (by intro u hu;simp only [List.mem_cons,List.not_mem_nil,or_false] at hu;subst hu;rfl) ?d1 ?d2 ?d3 ?_)
     case d1=>unfold maxLen;omega
     case d2=>omega
     case d3=>simp;omega
     intro v2 w3 hown hgrow _ hat;have T3':=hi9 (((HT.out.keep (za wr _)).keep (za _ _)).grown hgrow HN.out);obtain⟨A2,n2,rfl⟩:=zjL hown;have O3:=hi9 hown;have B3:=hi9 ((((HB.out.alloc hsz2 _).alloc (by simp;omega) _)).grown hgrow (by simp;omega) (fun g hg=>zD HO.out g hg));have N3:=hi9 (show(Value.slice A2 2 n2).ownBlock≠some X by
      rcases hat with q|q
      ·rw [q];exact HN.out
      ·rw [q];intro e;injection e with e;have:=HT.out.lt;omega)
     have K3:=hi9 (H34.out.regrow hgrow hat);have d1:=T3'.out.last;have d2:=T3'.out.thaw 256 (by omega);clear hown hgrow hat HT HO HB HN c0 c1 e0 e1 e2 e3 qs hsz2 H34;go_wp2_with fail;have O4:=hi9 (ownsRow_setCell_other O3.out (a:=⟨X,256,none⟩) N3.out (.slice A2 2 n2));have T4:=hi9 (T3'.out.setLast (.slice A2 2 n2));have B4:=hi9 (B3.out.setCell (p:=⟨X,256,none⟩) hXB (.slice A2 2 n2));have K4:=hi9 (K3.out.setX 256 (.slice A2 2 n2));obtain⟨w4,hw4⟩:∃w4,w3.setCell ⟨X,256,none⟩ (.slice A2 2 n2)=w4:=⟨_,rfl⟩
     rw [hw4] at O4 T4 B4 K4 ⊢;clear hw4 d1 d2 O3 T3' B3 K3;obtain⟨c5,w5,hrun,hb5,hcell⟩:=zeF ⟨#[92,92]⟩ w4;rw [hrun];clear hrun;have hc0:=hcell 0 (by decide);have X5:=hi9 (zsi (w:=w5) (X:=X) (P:=w4.heap.size) (c:=c5) (g:=(Value.slice A2 2 n2).ownBlock) [92,92] (by have:=T4.out.lt;omega) (by intro e;have:=zd9 O4.out _ e;omega) (block_lt_of_cell hc0) hcell);have T5:=hi9 (T4.out.keep hb5);have B5:=bh B4 hb5;have O5:=hi9 (z8 O4.out hb5);have K5:=hi9 (K4.out.keep hb5);have e1:=T5.out.at_ 92 (by omega);have e2:=T5.out.thaw 92 (by omega);clear hcell hb5 O4 T4 B4 K4 hc0;go_wp2_with fail;go_roundw
     case rel =>
      refine hi9 ⟨_,_,[.string ⟨#[34]⟩,.string ⟨#[92]⟩],ownsRow_setCell_other O5.out (a:=⟨X,92,none⟩) N3.out _,T5.out.set 92 (by omega) _,N3.out,B5.out.setCell (p:=⟨X,92,none⟩) hXB _,.inr (.inr ⟨rfl,rfl,by rw [if_neg (by decide)];exact K5.out.setX 92 _,by rw [if_pos rfl];exact X5.out.setX 92 _,fun k hk1 hk2=>by rw [if_neg hk2];exact HK.out k hk1⟩)⟩
     case measure=>simp [intOf]
    ·have R:=hi9 (zsw HO.out HT.out h34 h92 hk);clear h34 h92 hk HO HT HN e0 e1 e2 e3;go_wp2_with fail;go_ret;obtain⟨T,c,R⟩:=R.out;exact⟨X,f,T,c,rfl,hXB,R,HB.out⟩
theorem zib(b G C:Nat)(w:World)(h3:w.cell? ⟨b,3,none⟩=some .nilIface)(z3:w.frozen? ⟨b,3,none⟩=false)(z4:w.frozen? ⟨b,4,none⟩=false)(h4:w.cell? ⟨b,4,none⟩=some (.slice (some ⟨G,0,none⟩) 4 C))
 (t0:w.cell? ⟨G,0,none⟩=some (.string ⟨#[92]⟩)) (t1:w.cell? ⟨G,1,none⟩=some (.string ⟨#[92,92]⟩)) (t2:w.cell? ⟨G,2,none⟩=some (.string ⟨#[34]⟩)) (t3:w.cell? ⟨G,3,none⟩=some (.string ⟨#[92,34]⟩)):
 Calls Tryz.prog 97 #[.pointer (some ⟨b,0,none⟩)] w fun e w'=>∃w1 X f T c,e = .returned (.tuple #[])∧w.heap.size≤X∧zdZ w1 X f T c∧Below w.heap.size w w1∧
  w'=(w1.setCell ⟨b,3,none⟩ (.iface 228 (.pointer (some ⟨X,0,none⟩)))).setCell ⟨b,4,none⟩ (.slice none 0 0):=by
 have K:=hi9 (znf b G C w h4 t0 t1 t2 t3);have H3:=hi9 h3;have H4:=hi9 h4;have Z3:=hi9 z3;have Z4:=hi9 z4;have hb3:=block_lt_of_cell h3;clear h3 h4 z3 z4 t0 t1 t2 t3;go_enter Tryz.func97,Tryz.ntmps97;go_wp2_with fail;refine(K.out).mono ?_;rintro e w1 ⟨X,f,T,c,rfl,hX,R,b1⟩;have R1:=hi9 R;have B1:=hi9 b1;have c3:=zb b1 H3.out;have c4:=zb b1 H4.out;have y3:=(zar b1).2 b 3 hb3;have y4:=(zar b1).2 b 4 hb3;rw [Z3.out] at y3;rw [Z4.out] at y4;clear R b1 K;go_wp2_with fail;go_end0;exact⟨w1,X,f,T,c,rfl,hX,R1.out,B1.out,rfl⟩
structure zkP(w:World)(b G C:Nat):Prop where
 c0:w.cell? ⟨b,0,none⟩=some (.int .u32 0)
 c1:w.cell? ⟨b,1,none⟩=some (.int .i32 0)
 c3:w.cell? ⟨b,3,none⟩=some .nilIface
 c4:w.cell? ⟨b,4,none⟩=some (.slice (some ⟨G,0,none⟩) 4 C)
 z:∀k,w.frozen? ⟨b,k,none⟩=false
 t0:w.cell? ⟨G,0,none⟩=some (.string ⟨#[92]⟩)
 t1:w.cell? ⟨G,1,none⟩=some (.string ⟨#[92,92]⟩)
 t2:w.cell? ⟨G,2,none⟩=some (.string ⟨#[34]⟩)
 t3:w.cell? ⟨G,3,none⟩=some (.string ⟨#[92,34]⟩)
theorem zdZ.other{w:World}{X:Nat}{f:Nat→Value}{T c b:Nat}{n:Int}(h:zdZ w X f T c)(hb:w.cell? ⟨b,0,none⟩=some (.int .u32 n))(k:Nat)(u:Value):zdZ (w.setCell ⟨b,k,none⟩ u) X f T c:=by
 have ne:∀(Y:Nat) (v:Value),w.cell? ⟨Y,0,none⟩=some v→v≠ .int .u32 n→∀j,(w.setCell ⟨b,k,none⟩ u).cell? ⟨Y,j,none⟩=w.cell? ⟨Y,j,none⟩:=fun Y v hv hn j =>
  World.cell?_setCell_other _ ⟨b,k,none⟩ ⟨Y,j,none⟩ _ (by
   intro e;injection e with e;subst e
   rw [hb] at hv;injection hv with hv;exact hn hv.symm)
 have eX:=ne X _ (h.tab.at_ 0 (by decide)) (by rw [h.o 0 (by decide) (by decide)];simp);have eT:=ne T _ h.t0 (by simp);refine⟨⟨fun j hj=>(eX j).trans (h.tab.at_ j hj),(eX 256).trans h.tab.last,fun j hj=>by rw [World.frozen?_setCell];exact h.tab.thaw j hj⟩,(eT 0).trans h.t0,(eT 1).trans h.t1,?_,?_,h.o⟩
 ·obtain⟨P,d,h1,h2,h3⟩:=h.q;have e:=ne P _ h2 (by simp);exact⟨P,d,h1,(e 0).trans h2,(e 1).trans h3⟩
 ·obtain⟨P,d,h1,h2,h3⟩:=h.s;have e:=ne P _ h2 (by simp);exact⟨P,d,h1,(e 0).trans h2,(e 1).trans h3⟩
theorem zoZ(b G C:Nat)(w:World)(h:zkP w b G C)(hbG:b≠G):
 Calls Tryz.prog 113 #[.pointer (some ⟨b,0,none⟩),.func (.func 97) #[.pointer (some ⟨b,0,none⟩)] #[]] w fun e w'=>∃X f T c,e = .returned (.tuple #[])∧w.heap.size≤X∧zdZ w' X f T c∧
  w'.cell? ⟨b,3,none⟩=some (.iface 228 (.pointer (some ⟨X,0,none⟩)))∧w.grownBy w' (some b):=by
 have oth:∀(u:World) (i k:Nat) (v:Value),i≠k→(u.setCell ⟨b,i,none⟩ v).cell? ⟨b,k,none⟩=u.cell? ⟨b,k,none⟩:=fun u i k v hik=>World.cell?_setCell_other _ ⟨b,i,none⟩ ⟨b,k,none⟩ _ (by intro e;injection e with _ e;exact hik e);have othG:∀(u:World) (i k:Nat) (v:Value),(u.setCell ⟨b,i,none⟩ v).cell? ⟨G,k,none⟩=u.cell? ⟨G,k,none⟩:=fun u i k v=>World.cell?_setCell_other _ ⟨b,i,none⟩ ⟨G,k,none⟩ _ (by intro e;injection e with e;exact hbG e);have hl:=run_call_load (P:=Tryz.prog) Tryz.func125 (by kernel_rfl) (by kernel_rfl) (by kernel_rfl) .u32 (by kernel_rfl) (w:=w.setCell ⟨b,1,none⟩ (.int .i32 1)) (a:=⟨b,0,none⟩) (x:=0) ((oth _ _ _ _ (by decide)).trans h.c0);have hnot:∀(x:Bool) (w:World),(Op.unary .not (.bool x)).run Tryz.prog w = .ok (.bool (!x)) w:=fun _ _=>rfl;have OTH:=hi9 oth;have KB:=hi9 (zib b G C (w.setCell ⟨b,1,none⟩ (.int .i32 1)) ((oth _ _ _ _ (by decide)).trans h.c3) (by simp [h.z]) (by simp [h.z]) ((oth _ _ _ _ (by decide)).trans h.c4) ((othG _ _ _ _).trans h.t0) ((othG _ _ _ _).trans h.t1) ((othG _ _ _ _).trans h.t2) ((othG _ _ _ _).trans h.t3));have K:=hi9 (zoq ⟨b,1,none⟩ w h.c1 (h.z 1));have H:=hi9 h;clear h oth othG;go_enter_defers Tryz.func113,Tryz.ntmps113;go_wp2_with fail;refine(K.out).mono ?_;rintro e w1 ⟨rfl,rfl⟩;clear K;go_wp2_with (first|(go_at_call 97;refine(KB.out).mono ?_;rintro e w2 ⟨w1,X,f,T,c,rfl,hX,R,hb,rfl⟩)|(go_at_call 112;go_in));have hbl:=block_lt_of_cell H.out.c0;have q0:w1.cell? ⟨b,0,none⟩=some (.int .u32 0):=zb hb ((OTH.out _ _ _ _ (by decide)).trans H.out.c0);have q1:w1.cell? ⟨b,1,none⟩=some (.int .i32 1):=zb hb (World.cell?_setCell_same w ⟨b,1,none⟩ _ H.out.c1);have q3:w1.cell? ⟨b,3,none⟩=some .nilIface:=zb hb ((OTH.out _ _ _ _ (by decide)).trans H.out.c3);have qz:∀k,w1.frozen? ⟨b,k,none⟩=false:=fun k=>((zar hb).2 b k (by simpa [World.setCell] using hbl)).trans (by simp [H.out.z]);have R1:=R.other q0 3 (.iface 228 (.pointer (some ⟨X,0,none⟩)));have p0:=(OTH.out w1 3 0 (.iface 228 (.pointer (some ⟨X,0,none⟩))) (by decide)).trans q0;have p1:=(OTH.out w1 3 1 (.iface 228 (.pointer (some ⟨X,0,none⟩))) (by decide)).trans q1;have p3:=World.cell?_setCell_same w1 ⟨b,3,none⟩ (.iface 228 (.pointer (some ⟨X,0,none⟩))) q3;have pz:∀k,(w1.setCell ⟨b,3,none⟩ (.iface 228 (.pointer (some ⟨X,0,none⟩)))).frozen? ⟨b,k,none⟩=false:=fun k=>by rw [World.frozen?_setCell];exact qz k
 have G1:=((zg w ⟨b,1,none⟩ (.int .i32 1)).trans (zc hb (some b))).trans (zg w1 ⟨b,3,none⟩ (.iface 228 (.pointer (some ⟨X,0,none⟩))));generalize w1.setCell ⟨b,3,none⟩ (.iface 228 (.pointer (some ⟨X,0,none⟩)))=w3 at *;have R2:=R1.other p0 4 (.slice none 0 0);have s0:=(OTH.out w3 4 0 (.slice none 0 0) (by decide)).trans p0;have s1:=(OTH.out w3 4 1 (.slice none 0 0) (by decide)).trans p1;have s3:=(OTH.out w3 4 3 (.slice none 0 0) (by decide)).trans p3;have sz:∀k,(w3.setCell ⟨b,4,none⟩ (.slice none 0 0)).frozen? ⟨b,k,none⟩=false:=fun k=>by rw [World.frozen?_setCell];exact pz k
 have G2:=G1.trans (zg w3 ⟨b,4,none⟩ (.slice none 0 0));generalize w3.setCell ⟨b,4,none⟩ (.slice none 0 0)=w4 at *;refine leaves_cons (f:=128) (args:=#[.pointer (some ⟨b,0,none⟩),.bool true]) (by simp) (by simp [go_sem]) ?_;refine(ziO ⟨b,0,none⟩ (.int .u32 0) .returning _ s0 (sz 0)).mono ?_;rintro e u' w'' ⟨rfl,rfl,rfl⟩;have R3:=(R2.keep ((Below.refl _ _).drew)).other (b:=b) (n:=0) (by rw [World.cell?_drew];exact s0) 0 (.int .u32 1);have v0:=World.cell?_setCell_same w4.drew ⟨b,0,none⟩ (.int .u32 1) (by rw [World.cell?_drew];exact s0);have v1:=(OTH.out w4.drew 0 1 (.int .u32 1) (by decide)).trans s1;have v3:=(OTH.out w4.drew 0 3 (.int .u32 1) (by decide)).trans s3;have vz:∀k,(w4.drew.setCell ⟨b,0,none⟩ (.int .u32 1)).frozen? ⟨b,k,none⟩=false:=fun k=>by rw [World.frozen?_setCell,World.frozen?_drew];exact sz k
 have G3:=(G2.trans (zc ((Below.refl w4.heap.size w4).drew) (some b))).trans (zg w4.drew ⟨b,0,none⟩ (.int .u32 1));generalize w4.drew.setCell ⟨b,0,none⟩ (.int .u32 1)=w5 at *;refine leaves_cons (f:=127) (args:=#[.pointer (some ⟨b,1,none⟩)]) (by simp [settle]) (by simp [go_sem]) ?_;refine(zg9 ⟨b,1,none⟩ _ _ v1 (vz 1)).mono ?_;rintro e u' w'' ⟨rfl,rfl,rfl⟩;have R4:=R3.other v0 1 (.int .i32 0);have y3:=(OTH.out w5 1 3 (.int .i32 0) (by decide)).trans v3;have G4:=G3.trans (zg w5 ⟨b,1,none⟩ (.int .i32 0));simp [Leaves,settle,results,Tryz.results113];exact⟨X,by simpa [World.setCell] using hX,⟨f,T,c,R4⟩,y3,G4⟩
theorem zrh(b G C:Nat)(w:World)(h:zkP w b G C)(hbG:b≠G):
 Calls Tryz.prog 96 #[.pointer (some ⟨b,0,none⟩),.func (.func 97) #[.pointer (some ⟨b,0,none⟩)] #[]] w fun e w'=>∃X f T c,e = .returned (.tuple #[])∧w.heap.size≤X∧zdZ w' X f T c∧
  w'.cell? ⟨b,3,none⟩=some (.iface 228 (.pointer (some ⟨X,0,none⟩)))∧w.grownBy w' (some b):=by
 have hl:=run_call_load (P:=Tryz.prog) Tryz.func125 (by kernel_rfl) (by kernel_rfl) (by kernel_rfl) .u32 (by kernel_rfl) h.c0;have hnot:∀(x:Bool) (w:World),(Op.unary .not (.bool x)).run Tryz.prog w = .ok (.bool (!x)) w:=fun _ _=>rfl;have KS:=hi9 (zoZ b G C w h hbG);clear h;go_enter Tryz.func96,Tryz.ntmps96;go_wp2_with (first|(go_at_call 113;refine(KS.out).mono ?_;rintro e w1 ⟨X,f,T,c,rfl,hX,R,h3,hg⟩)|(go_at_call 112;go_in));go_end0;exact⟨X,f,T,c,rfl,hX,R,h3,hg⟩
theorem zqw(g:Nat)(w:World)(t0:w.cell? ⟨g,0,none⟩=some (.string ⟨#[92]⟩))(t1:w.cell? ⟨g,1,none⟩=some (.string ⟨#[92,92]⟩))(t2:w.cell? ⟨g,2,none⟩=some (.string ⟨#[34]⟩))(t3:w.cell? ⟨g,3,none⟩=some (.string ⟨#[92,34]⟩)):
 Calls Tryz.prog 73 #[.slice (some ⟨g,0,none⟩) 4 4] w fun e w'=>∃b G C,e = .returned (.pointer (some ⟨b,0,none⟩))∧zkP w' b G C∧b≠G∧w.heap.size≤b∧Below w.heap.size w w':=by
 obtain⟨j0,hj,jz0,jz1,jz2⟩:=info_parts zqo;go_enter Tryz.func73,Tryz.ntmps73;go_wp2_with fail;go_ret;generalize (Question.appendCap 4 0 9).cut (w.tape w.drawn (Question.appendCap 4 0 9))=C;have hs:∀(k:Nat) (v:Value),[Value.string ⟨#[92]⟩,.string ⟨#[92,92]⟩,.string ⟨#[34]⟩,.string ⟨#[92,34]⟩][k]?=some v→∀(o:Obj),((w.alloc (.cells (#[.string ⟨#[92]⟩,.string ⟨#[92,92]⟩,.string ⟨#[34]⟩,.string ⟨#[92,34]⟩] ++ Builtin.zeroCells #[.string ⟨#[]⟩] (C-4)) 9)).alloc o).drew.cell? ⟨w.heap.size,k,none⟩=some v:=fun k v hk o=>by
  rw [World.cell?_drew];refine zb (za _ o) (zx (heap_alloc_last w _) ?_);rw [Array.getElem?_append,if_pos (by have:=(List.getElem?_eq_some_iff.1 hk).1;simpa using this)];simpa using hk
 refine⟨w.heap.size+1,w.heap.size,C,rfl,?_,by omega,by omega,(((Below.refl _ _).alloc (Nat.le_refl _) _).alloc (by simp) _).drew⟩;have hn:∀(k:Nat) (v:Value),[Value.int .u32 0,.int .i32 0,.int .u32 0,.nilIface,.slice (some ⟨w.heap.size,0,none⟩) 4 C][k]?=some v→((w.alloc (.cells (#[.string ⟨#[92]⟩,.string ⟨#[92,92]⟩,.string ⟨#[34]⟩,.string ⟨#[92,34]⟩] ++ Builtin.zeroCells #[.string ⟨#[]⟩] (C-4)) 9)).alloc (.cells #[.int .u32 0,.int .i32 0,.int .u32 0,.nilIface,.slice (some ⟨w.heap.size,0,none⟩) 4 C] 167)).drew.cell? ⟨w.heap.size+1,k,none⟩=some v:=fun k v hk=>by
  rw [World.cell?_drew];have:=zx (heap_alloc_last (w.alloc (.cells (#[.string ⟨#[92]⟩,.string ⟨#[92,92]⟩,.string ⟨#[34]⟩,.string ⟨#[92,34]⟩] ++ Builtin.zeroCells #[.string ⟨#[]⟩] (C-4)) 9)) (.cells #[.int .u32 0,.int .i32 0,.int .u32 0,.nilIface,.slice (some ⟨w.heap.size,0,none⟩) 4 C] 167)) (k:=k) (u:=v) (by simpa using hk);simpa using this
 exact⟨hn 0 _ rfl,hn 1 _ rfl,hn 3 _ rfl,hn 4 _ rfl,fun k=>by simp,hs 0 _ rfl _,hs 1 _ rfl _,hs 2 _ rfl _,hs 3 _ rfl _⟩
end Go.Proofs.YtjcdeikbghjpkaaGreatDoor
