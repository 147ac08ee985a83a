/-
  Fields of types in a row of the call's own: their cells. kinds' reader: a type. ..
-/
import Derived.Laws.AppendOwnNone
import Derived.Test.YthifljpkgfpkiaaGreatDoorQ24
set_option maxRecDepth 100000
set_option maxHeartbeats 8000000
namespace Go.Proofs.YthifljpkgfpkiaaGreatDoor
open Go.RowKit Go.Wk Go.Sort
structure Fe where
 y:Kfd
 o:Int
 n:Int
 s:ByteArray
 t:ByteArray
 p:Option Addr
 A:Option Addr
 m:Nat
 c:Nat
def Fe.u(x:Fe):List Value := [.int .i64 x.o,.int .i64 x.n,.string x.s,.string x.t,.pointer x.p,.slice x.A x.m x.c]
def Fe.eight(x:Fe):List Value := .string x.y.1 :: .bool x.y.2.1 :: x.u
def jP:List Fe->List Value
 | [] => []
 | x :: E => .string x.y.1 :: .bool x.y.2.1 :: .int .i64 x.o :: .int .i64 x.n :: .string x.s :: .string x.t :: .pointer x.p :: .slice x.A x.m x.c :: jP E
@[simp] theorem fP (E:List Fe):(jP E).length=E.length*8:=by
 induction E with
 | nil=>rfl
 | cons x E ih=>simp only [jP,List.length_cons,ih];omega
theorem lQ(U V:List Fe):jP (U ++ V)=jP U ++ jP V:=by
 induction U with
 | nil=>rfl
 | cons u U ih=>simp only [List.cons_append,jP,ih]
theorem gB(E:List Fe):∀v∈jP E,v.oneCell'=true:=by
 induction E with
 | nil=>intro v hv;cases hv
 | cons u U ih =>
  intro v hv
  simp only [jP,List.mem_cons] at hv
  rcases hv with rfl|rfl|rfl|rfl|rfl|rfl|rfl|rfl|hv
  ·rfl
  ·rfl
  ·rfl
  ·rfl
  ·rfl
  ·rfl
  ·rfl
  ·rfl
  ·exact ih v hv
theorem ot:∀(E:List Fe) (k:Nat) (x:Fe),E[k]?=some x->∀j v,x.eight[j]?=some v->(jP E)[k*8+j]?=some v
 | [],k,x,h=>by simp at h
 | y :: E,0,x,h=>by
  simp at h;subst h;intro j v hv;rw [Nat.zero_mul,Nat.zero_add]
  match j,hv with
  | 0,hv=>exact hv
  | 1,hv=>exact hv
  | 2,hv=>exact hv
  | 3,hv=>exact hv
  | 4,hv=>exact hv
  | 5,hv=>exact hv
  | 6,hv=>exact hv
  | 7,hv=>exact hv
  | j+8,hv=>simp [Fe.eight,Fe.u] at hv
 | y :: E,k+1,x,h=>by
  intro j v hv;have:=ot E k x (by simpa using h) j v hv;rw [show(k+1)*8+j=k*8+j+1+1+1+1+1+1+1+1 by omega];simpa [jP] using this
theorem Ij:(Tryz.prog.info? 143).map (λi=>(i.zero,i.size,i.bytes))=some (some (.agg #[.string ⟨#[]⟩,.bool false,.int .i64 0,.int .i64 0,.string ⟨#[]⟩,.string ⟨#[]⟩,.pointer none,.slice none 0 0]),8,104):=by kernel_rfl
theorem Qn(a:Addr)(x y:Nat):(a.add x).add y=a.add (x+y):=by
 unfold Addr.add;by_cases hx:x=0 <;> by_cases hy:y=0 <;> simp [hx,hy,Nat.add_assoc]
theorem i6{w:World}{B:Nat->Prop}{a:Addr}(hB:B a.block):∀(E0 E:List Fe),(∀j u,(jP (E0 ++ E))[j]?=some u->w.cell? (a.add j)=some u)->(∀x∈E,KAt w B x.y.2.2 x.u)->FAt w B (some a) E0.length (ofL (E.map Fe.y))
 | _,[],_,_=>trivial
 | E0,x :: E,h,hE=>by
  refine⟨⟨a,x.u,rfl,hB,λj v hv=>?_,hE x (by simp)⟩,?_⟩
  ·rw [Qn];exact h _ _ (ot (E0 ++ x :: E) E0.length x (by simp) j v hv)
  ·have:=i6 hB (E0 ++ [x]) E (by simpa using h) λy hy=>hE y (by simp [hy]);simpa [ofL] using this
theorem so:∀L:List Kfd,(ofL L).len=L.length
 | []=>rfl
 | y :: r=>by simp [ofL,Fl.len,so r]
structure ie(w:World)(base:Nat)(v:Value)(E:List Fe):Prop where
 own:w.ownsRow base 143 8 v E.length (jP E)
 ok:∀x∈E,KAt w (λb=>base<=b/\some b≠v.ownBlock) x.y.2.2 x.u
theorem ie.nil(w:World)(base:Nat):ie w base (.slice none 0 0) []:=⟨World.ownsRow_nil _ _ _ _,λ_ h=>nomatch h⟩
theorem ie.keep{w w':World}{base:Nat}{v:Value}{E:List Fe}{R:Nat}(h:ie w base v E)(hg:w.grownBy w' (some R))(hR:R<base):ie w' base v E:=by
 refine⟨h.own.kept hg ?_,λx hx=>?_⟩
 ·rcases hv:v.ownBlock with _|k
  ·exact .inl rfl
  ·refine .inr λe=>?_;injection e with e;have:=(h.own.lt k hv).1;omega
 ·have h1:=((cX (w:=w) (B':=λb=>(base<=b/\some b≠v.ownBlock)/\b<w.heap.size) (λb hb hl=>⟨hb,hl⟩) _).1 _ _ (Nat.le_refl _) (h.ok x hx))
  have h2:=h1.cong (w':=w') λb hb=>hg.block b hb.2 (λe=>by injection e with e;have:=hb.1.1;omega);exact h2.mono λb hb _=>hb.1
theorem ie.keepN{w w':World}{base:Nat}{v:Value}{E:List Fe}(h:ie w base v E)(hg:w.grownBy w' none):ie w' base v E:=by
 refine⟨h.own.kept hg ?_,λx hx=>?_⟩
 ·rcases hv:v.ownBlock with _|k
  ·exact .inl rfl
  ·exact .inr (λe=>nomatch e)
 ·have h1:=((cX (w:=w) (B':=λb=>(base<=b/\some b≠v.ownBlock)/\b<w.heap.size) (λb hb hl=>⟨hb,hl⟩) _).1 _ _ (Nat.le_refl _) (h.ok x hx))
  have h2:=h1.cong (w':=w') λb hb=>hg.block b hb.2 (λe=>nomatch e);exact h2.mono λb hb _=>hb.1
theorem ie.fat{w:World}{base:Nat}{v:Value}{E:List Fe}(h:ie w base v E):∃A c,v = .slice A E.length c/\FAt w (λb=>base<=b) A 0 (ofL (E.map Fe.y))/\E.length<=c/\c<=maxLen:=by
 obtain⟨h1,h2⟩:=h;have h0:=h1;rcases h1.2 with ⟨rfl,e0⟩|⟨g,cap,cur,rfl,hB,hh,hc,hm,Rk⟩
 ·have:E = []:=List.eq_nil_of_length_eq_zero e0;subst this;exact⟨none,0,rfl,trivial,Nat.le_refl _,Nat.zero_le _⟩
 ·refine⟨some ⟨g,0,none⟩,cap,rfl,?_,hc,hm⟩;exact i6 (B:=λb=>base<=b) (a:=⟨g,0,none⟩) hB [] E (by simpa using h0.cells (g:=g) rfl) λx hx=>(h2 x hx).mono λb hb _=>hb.1
theorem ie.snoc{w w':World}{base:Nat}{v v':Value}{E:List Fe}{x:Fe}(h:ie w base v E)(hx:KAt w (λb=>base<=b/\some b≠v.ownBlock) x.y.2.2 x.u)(hown:w'.ownsRow base 143 8 v' (E.length+1) (jP E ++ x.eight))(hg:w.grownBy w' v.ownBlock)
 (hb:v'.ownBlock=v.ownBlock\/v'.ownBlock=some w.heap.size):ie w' base v' (E ++ [x]):=by
 refine⟨?_,λz hz=>?_⟩
 ·rw [lQ,List.length_append];exact hown
 ·have hz':KAt w (λb=>base<=b/\some b≠v.ownBlock) z.y.2.2 z.u:=by
   rcases List.mem_append.1 hz with hz|hz
   ·exact h.ok z hz
   ·simp only [List.mem_cons,List.not_mem_nil,or_false] at hz;subst hz;exact hx
  have h1:=(cX (w:=w) (B':=λb=>(base<=b/\some b≠v.ownBlock)/\b<w.heap.size) (λb hb hl=>⟨hb,hl⟩) _).1 _ _ (Nat.le_refl _) hz';have h2:=h1.cong (w':=w') λb hb=>hg.block b hb.2 (λe=>hb.1.2 (by rw [<-e]));refine h2.mono λb hb _=>⟨hb.1.1,?_⟩
  rcases ‹v'.ownBlock=v.ownBlock\/v'.ownBlock=some w.heap.size› with e|e
  ·rw [e];exact hb.1.2
  ·rw [e];intro q;injection q with q;have:=hb.2;omega
theorem qG{ops:Array Oper}{rest:List Oper}{o:Oper}{a:Act}{w:World}{Q:Exit->Act->World->Prop}(hgd:o.guard=none)(s x:Operand)
 (ho:o.op = .call { callee := .builtin .append,args:=#[s,x],argTypes:=#[79,79] })
 (base:Nat) (v:Value) (E:List Fe) (hs:a.eval s=v) (hrow:ie w base v E) (z:Fe) (ad:Addr) (m c:Nat) (hx:a.eval x = .slice (some ad) m c) (hm:m=1)
 (hnews:∀j u,z.eight[j]?=some u->w.cell? (ad.add j)=some u) (hz:KAt w (λb=>base<=b/\some b≠v.ownBlock) z.y.2.2 z.u) (hl:E.length<=1000000) (hbase:base<=w.heap.size)
 (h:∀v' w',ie w' base v' (E ++ [z])->w.grownBy w' v.ownBlock->wpList Tryz.prog ops Q rest (a.put o.dst v') w'):wpList Tryz.prog ops Q (o :: rest) a w:=by
 subst hm;have hi:=Ij
 cases hq:Tryz.prog.info? 143 with
 | none=>rw [hq] at hi;cases hi
 | some i0 =>
  rw [hq] at hi
  simp only [Option.map_some,Option.some.injEq,Prod.mk.injEq] at hi
  refine wpList_append_own_at w hgd s x _ ho base _ i0 _ 8 104 Tryz.underlying79 hq hi.1 hi.2.1 hi.2.2 (by decide) (by decide) v E.length (jP E) hs hrow.own ad 1 c z.eight hx rfl hnews ?_ (by unfold maxLen;omega) (by omega) hbase ?_
  ·intro u hu
   have:=gB [z] u (by simpa [jP,Fe.eight,Fe.u] using hu);exact this
  ·intro v' w' h1 h2 _ h4
   exact h v' w' (hrow.snoc hz h1 h2 h4) h2
theorem jI(w:World)(b:Nat)(y0 y1 y2 y3 y4 y5:Value):w.grownBy ((((((w.setCell ⟨b,0,none⟩ y0).setCell ⟨b,1,none⟩ y1).setCell ⟨b,2,none⟩ y2).setCell ⟨b,3,none⟩ y3).setCell ⟨b,4,none⟩ y4).setCell ⟨b,5,none⟩ y5) (some b):=
 zf (zf (zf (zf (zf (zf (cj w (some b)) (zl _ ⟨b,0,none⟩ _)) (zl _ ⟨b,1,none⟩ _)) (zl _ ⟨b,2,none⟩ _)) (zl _ ⟨b,3,none⟩ _)) (zl _ ⟨b,4,none⟩ _)) (zl _ ⟨b,5,none⟩ _)
theorem ae(w:World)(b:Nat)(y0 y1 y2 y3 y4 y5:Value){g:Nat}(h:g≠b):((((((w.setCell ⟨b,0,none⟩ y0).setCell ⟨b,1,none⟩ y1).setCell ⟨b,2,none⟩ y2).setCell ⟨b,3,none⟩ y3).setCell ⟨b,4,none⟩ y4).setCell ⟨b,5,none⟩ y5).heap[g]?=w.heap[g]?:=by
 iterate 6 rw [Below.heap_setCell _ _ _ g h]
theorem oz(s:ByteArray):s=⟨#[]⟩\/s≠emp/\(s.toList == [])=false/\(s.toList != [])=true:=by
 rcases ju s with h|⟨h1,h2,h3⟩
 ·exact .inl h
 ·exact .inr ⟨λe=>h2 (by rw [e,ox]),beq_eq_false_iff_ne.2 h2,by rw [bne_iff_ne];exact h2⟩
theorem Lp(R m:Nat)(x:Nd)(r:List Nd)(w:World)(h:RdK w R (x :: r))(hb:ah x.op):
 Calls Tryz.prog 67 #[.pointer (some ⟨R,0,none⟩)] w (fR w R (zT (m+1) (x :: r))):=by
 have HR:=O h;have mX:=O (show zT (m+1) (x :: r)=if x.n=0/\x.s=emp/\x.t=emp then some (.base x.op,r) else none by simp only [zT,if_pos hb]);generalize zT (m+1) (x :: r)=PP at *;clear h;go_enter Tryz.func67,Tryz.ntmps67;go_wp2_with fail;have G0:=O (zc (za w (.cells #[.int .i64 0,.int .i64 0,.string ⟨#[]⟩,.string ⟨#[]⟩,.pointer none,.slice none 0 0] 81)) (some R));have X0:=O (jf w (.int .i64 0) (.int .i64 0) (.string ⟨#[]⟩) (.string ⟨#[]⟩) (.pointer none) (.slice none 0 0) 81);have R0:=O (HR.o.keep (za w (.cells #[.int .i64 0,.int .i64 0,.string ⟨#[]⟩,.string ⟨#[]⟩,.pointer none,.slice none 0 0] 81)));have sO:=O (show R<w.heap.size by obtain⟨⟨_,_,_,h1,_⟩,_⟩:=HR.o;exact block_lt_of_cell h1);have BO:=O (show some w.heap.size≠some R from λe=>by injection e with e;have:=sO.o;omega);obtain⟨w0,hw0⟩:∃w0,w.alloc (.cells #[.int .i64 0,.int .i64 0,.string ⟨#[]⟩,.string ⟨#[]⟩,.pointer none,.slice none 0 0] 81)=w0:=⟨_,rfl⟩
 have rJ:=O (show w.heap.size<=w0.heap.size by rw [<-hw0];simp);rw [hw0] at G0 X0 R0 ⊢;clear hw0 HR;refine(dY R (x :: r) w0 R0.o).mono ?_;rintro e w1 ⟨rfl,r1,g1⟩;have G1:=O (G0.o.trans g1);have X1:=O (X0.o.but g1 BO.o);have R1:=O r1;have sd:=O (Nat.le_trans rJ.o g1.size);clear r1 g1 G0 X0 R0 rJ;unfold ndV;have hl:w.heap.size<w1.heap.size:=block_lt_of_cell X1.o.c0;obtain⟨o,ho⟩:∃o,o=x.op:=⟨_,rfl⟩
 rw [<-ho] at hb mX ⊢;clear ho;by_cases hn:x.n=0
 ·rcases oz x.s with hs|⟨hs,s1,s2⟩
  ·rcases oz x.t with ht|⟨ht,t1,t2⟩
   ·have HP:=O (show PP=some (.base o,r) by rw [mX.o,if_pos ⟨hn,hs,ht⟩]);rw [hn,hs,ht];clear hn hs ht mX;rcases hb with rfl|rfl|rfl|rfl|rfl
    ·obtain⟨c0,c1,c2,c3,c4,c5,z0,z1,z2,z3,z4,z5⟩:=X1.o;go_wp2_with fail;have Y:=X1.o.set (.int .i64 41) (.int .i64 0) (.string ⟨#[]⟩) (.string ⟨#[]⟩) (.pointer none) (.slice none 0 0);have gs:=jI w1 w.heap.size (.int .i64 41) (.int .i64 0) (.string ⟨#[]⟩) (.string ⟨#[]⟩) (.pointer none) (.slice none 0 0);have R4:=R1.o.but gs sO.o;have G4:=jQ G1.o gs (Nat.le_refl _);obtain⟨S,hS⟩:∃S,((((((w1.setCell ⟨w.heap.size,0,none⟩ (.int .i64 41)).setCell ⟨w.heap.size,1,none⟩ (.int .i64 0)).setCell ⟨w.heap.size,2,none⟩ (.string ⟨#[]⟩)).setCell ⟨w.heap.size,3,none⟩ (.string ⟨#[]⟩)).setCell ⟨w.heap.size,4,none⟩ (.pointer none)).setCell ⟨w.heap.size,5,none⟩ (.slice none 0 0))=S:=⟨_,rfl⟩
     rw [hS] at Y gs R4 G4 ⊢;clear hS gs;have Y5:=(Y.keep (za _ (.cells #[.int .i64 41,.int .i64 0,.string ⟨#[]⟩,.string ⟨#[]⟩,.pointer none,.slice none 0 0] 81))).keep (za _ (.cells #[.int .i64 41,.int .i64 0,.string ⟨#[]⟩,.string ⟨#[]⟩] 47));obtain⟨j0,j1,j2,j3,j4,j5,-,-,-,-,-,-⟩:=Y5;refine bodyPost_ret (v := .agg #[.int .i64 41,.int .i64 0,.string ⟨#[]⟩,.string ⟨#[]⟩,.pointer none,.slice none 0 0]) (by simp [results,Tryz.results67,go_sem,j0,j1,j2,j3,j4,j5]) rfl ?_;rw [HP.o];exact⟨[.int .i64 41,.int .i64 0,.string ⟨#[]⟩,.string ⟨#[]⟩,.pointer none,.slice none 0 0],rfl,⟨0,rfl⟩,(R4.keep (za _ _)).keep (za _ _),zf (zf G4 (zc (za _ _) _)) (zc (za _ _) _)⟩
    ·obtain⟨c0,c1,c2,c3,c4,c5,z0,z1,z2,z3,z4,z5⟩:=X1.o;go_wp2_with fail;have Y:=X1.o.set (.int .i64 42) (.int .i64 0) (.string ⟨#[]⟩) (.string ⟨#[]⟩) (.pointer none) (.slice none 0 0);have gs:=jI w1 w.heap.size (.int .i64 42) (.int .i64 0) (.string ⟨#[]⟩) (.string ⟨#[]⟩) (.pointer none) (.slice none 0 0);have R4:=R1.o.but gs sO.o;have G4:=jQ G1.o gs (Nat.le_refl _);obtain⟨S,hS⟩:∃S,((((((w1.setCell ⟨w.heap.size,0,none⟩ (.int .i64 42)).setCell ⟨w.heap.size,1,none⟩ (.int .i64 0)).setCell ⟨w.heap.size,2,none⟩ (.string ⟨#[]⟩)).setCell ⟨w.heap.size,3,none⟩ (.string ⟨#[]⟩)).setCell ⟨w.heap.size,4,none⟩ (.pointer none)).setCell ⟨w.heap.size,5,none⟩ (.slice none 0 0))=S:=⟨_,rfl⟩
     rw [hS] at Y gs R4 G4 ⊢;clear hS gs;have Y5:=(Y.keep (za _ (.cells #[.int .i64 42,.int .i64 0,.string ⟨#[]⟩,.string ⟨#[]⟩,.pointer none,.slice none 0 0] 81))).keep (za _ (.cells #[.int .i64 42,.int .i64 0,.string ⟨#[]⟩,.string ⟨#[]⟩] 47));obtain⟨j0,j1,j2,j3,j4,j5,-,-,-,-,-,-⟩:=Y5;refine bodyPost_ret (v := .agg #[.int .i64 42,.int .i64 0,.string ⟨#[]⟩,.string ⟨#[]⟩,.pointer none,.slice none 0 0]) (by simp [results,Tryz.results67,go_sem,j0,j1,j2,j3,j4,j5]) rfl ?_;rw [HP.o];exact⟨[.int .i64 42,.int .i64 0,.string ⟨#[]⟩,.string ⟨#[]⟩,.pointer none,.slice none 0 0],rfl,⟨0,rfl⟩,(R4.keep (za _ _)).keep (za _ _),zf (zf G4 (zc (za _ _) _)) (zc (za _ _) _)⟩
    ·obtain⟨c0,c1,c2,c3,c4,c5,z0,z1,z2,z3,z4,z5⟩:=X1.o;go_wp2_with fail;have Y:=X1.o.set (.int .i64 43) (.int .i64 0) (.string ⟨#[]⟩) (.string ⟨#[]⟩) (.pointer none) (.slice none 0 0);have gs:=jI w1 w.heap.size (.int .i64 43) (.int .i64 0) (.string ⟨#[]⟩) (.string ⟨#[]⟩) (.pointer none) (.slice none 0 0);have R4:=R1.o.but gs sO.o;have G4:=jQ G1.o gs (Nat.le_refl _);obtain⟨S,hS⟩:∃S,((((((w1.setCell ⟨w.heap.size,0,none⟩ (.int .i64 43)).setCell ⟨w.heap.size,1,none⟩ (.int .i64 0)).setCell ⟨w.heap.size,2,none⟩ (.string ⟨#[]⟩)).setCell ⟨w.heap.size,3,none⟩ (.string ⟨#[]⟩)).setCell ⟨w.heap.size,4,none⟩ (.pointer none)).setCell ⟨w.heap.size,5,none⟩ (.slice none 0 0))=S:=⟨_,rfl⟩
     rw [hS] at Y gs R4 G4 ⊢;clear hS gs;have Y5:=(Y.keep (za _ (.cells #[.int .i64 43,.int .i64 0,.string ⟨#[]⟩,.string ⟨#[]⟩,.pointer none,.slice none 0 0] 81))).keep (za _ (.cells #[.int .i64 43,.int .i64 0,.string ⟨#[]⟩,.string ⟨#[]⟩] 47));obtain⟨j0,j1,j2,j3,j4,j5,-,-,-,-,-,-⟩:=Y5;refine bodyPost_ret (v := .agg #[.int .i64 43,.int .i64 0,.string ⟨#[]⟩,.string ⟨#[]⟩,.pointer none,.slice none 0 0]) (by simp [results,Tryz.results67,go_sem,j0,j1,j2,j3,j4,j5]) rfl ?_;rw [HP.o];exact⟨[.int .i64 43,.int .i64 0,.string ⟨#[]⟩,.string ⟨#[]⟩,.pointer none,.slice none 0 0],rfl,⟨0,rfl⟩,(R4.keep (za _ _)).keep (za _ _),zf (zf G4 (zc (za _ _) _)) (zc (za _ _) _)⟩
    ·obtain⟨c0,c1,c2,c3,c4,c5,z0,z1,z2,z3,z4,z5⟩:=X1.o;go_wp2_with fail;have Y:=X1.o.set (.int .i64 48) (.int .i64 0) (.string ⟨#[]⟩) (.string ⟨#[]⟩) (.pointer none) (.slice none 0 0);have gs:=jI w1 w.heap.size (.int .i64 48) (.int .i64 0) (.string ⟨#[]⟩) (.string ⟨#[]⟩) (.pointer none) (.slice none 0 0);have R4:=R1.o.but gs sO.o;have G4:=jQ G1.o gs (Nat.le_refl _);obtain⟨S,hS⟩:∃S,((((((w1.setCell ⟨w.heap.size,0,none⟩ (.int .i64 48)).setCell ⟨w.heap.size,1,none⟩ (.int .i64 0)).setCell ⟨w.heap.size,2,none⟩ (.string ⟨#[]⟩)).setCell ⟨w.heap.size,3,none⟩ (.string ⟨#[]⟩)).setCell ⟨w.heap.size,4,none⟩ (.pointer none)).setCell ⟨w.heap.size,5,none⟩ (.slice none 0 0))=S:=⟨_,rfl⟩
     rw [hS] at Y gs R4 G4 ⊢;clear hS gs;have Y5:=(Y.keep (za _ (.cells #[.int .i64 48,.int .i64 0,.string ⟨#[]⟩,.string ⟨#[]⟩,.pointer none,.slice none 0 0] 81))).keep (za _ (.cells #[.int .i64 48,.int .i64 0,.string ⟨#[]⟩,.string ⟨#[]⟩] 47));obtain⟨j0,j1,j2,j3,j4,j5,-,-,-,-,-,-⟩:=Y5;refine bodyPost_ret (v := .agg #[.int .i64 48,.int .i64 0,.string ⟨#[]⟩,.string ⟨#[]⟩,.pointer none,.slice none 0 0]) (by simp [results,Tryz.results67,go_sem,j0,j1,j2,j3,j4,j5]) rfl ?_;rw [HP.o];exact⟨[.int .i64 48,.int .i64 0,.string ⟨#[]⟩,.string ⟨#[]⟩,.pointer none,.slice none 0 0],rfl,⟨0,rfl⟩,(R4.keep (za _ _)).keep (za _ _),zf (zf G4 (zc (za _ _) _)) (zc (za _ _) _)⟩
    ·obtain⟨c0,c1,c2,c3,c4,c5,z0,z1,z2,z3,z4,z5⟩:=X1.o;go_wp2_with fail;have Y:=X1.o.set (.int .i64 49) (.int .i64 0) (.string ⟨#[]⟩) (.string ⟨#[]⟩) (.pointer none) (.slice none 0 0);have gs:=jI w1 w.heap.size (.int .i64 49) (.int .i64 0) (.string ⟨#[]⟩) (.string ⟨#[]⟩) (.pointer none) (.slice none 0 0);have R4:=R1.o.but gs sO.o;have G4:=jQ G1.o gs (Nat.le_refl _);obtain⟨S,hS⟩:∃S,((((((w1.setCell ⟨w.heap.size,0,none⟩ (.int .i64 49)).setCell ⟨w.heap.size,1,none⟩ (.int .i64 0)).setCell ⟨w.heap.size,2,none⟩ (.string ⟨#[]⟩)).setCell ⟨w.heap.size,3,none⟩ (.string ⟨#[]⟩)).setCell ⟨w.heap.size,4,none⟩ (.pointer none)).setCell ⟨w.heap.size,5,none⟩ (.slice none 0 0))=S:=⟨_,rfl⟩
     rw [hS] at Y gs R4 G4 ⊢;clear hS gs;have Y5:=(Y.keep (za _ (.cells #[.int .i64 49,.int .i64 0,.string ⟨#[]⟩,.string ⟨#[]⟩,.pointer none,.slice none 0 0] 81))).keep (za _ (.cells #[.int .i64 49,.int .i64 0,.string ⟨#[]⟩,.string ⟨#[]⟩] 47));obtain⟨j0,j1,j2,j3,j4,j5,-,-,-,-,-,-⟩:=Y5;refine bodyPost_ret (v := .agg #[.int .i64 49,.int .i64 0,.string ⟨#[]⟩,.string ⟨#[]⟩,.pointer none,.slice none 0 0]) (by simp [results,Tryz.results67,go_sem,j0,j1,j2,j3,j4,j5]) rfl ?_;rw [HP.o];exact⟨[.int .i64 49,.int .i64 0,.string ⟨#[]⟩,.string ⟨#[]⟩,.pointer none,.slice none 0 0],rfl,⟨0,rfl⟩,(R4.keep (za _ _)).keep (za _ _),zf (zf G4 (zc (za _ _) _)) (zc (za _ _) _)⟩
   ·have HP:=O (show PP=none by rw [mX.o,if_neg (λh=>ht h.2.2)]);rw [hn,hs];clear hn hs ht mX;rcases hb with rfl|rfl|rfl|rfl|rfl
    all_goals
     go_wp2_with fail;exact⟨rfl,by rw [HP.o];exact⟨rfl,zf (zf G1.o (zc (za _ _) _)) (zc (za _ _) _)⟩⟩
  ·have HP:=O (show PP=none by rw [mX.o,if_neg (λh=>hs h.2.1)]);rw [hn];clear hn hs mX;rcases hb with rfl|rfl|rfl|rfl|rfl
   all_goals
    go_wp2_with fail;exact⟨rfl,by rw [HP.o];exact⟨rfl,zf (zf G1.o (zc (za _ _) _)) (zc (za _ _) _)⟩⟩
 ·have HP:=O (show PP=none by rw [mX.o,if_neg (λh=>hn h.1)]);have e0:(x.n==0)=false:=beq_eq_false_iff_ne.2 hn;have e1:(x.n != 0)=true:=by rw [bne_iff_ne];exact hn
  clear mX;rcases hb with rfl|rfl|rfl|rfl|rfl
  all_goals
   go_wp2_with fail;exact⟨rfl,by rw [HP.o];exact⟨rfl,zf (zf G1.o (zc (za _ _) _)) (zc (za _ _) _)⟩⟩
theorem Np(R m:Nat)(x:Nd)(r:List Nd)(w:World)(h:RdK w R (x :: r))(hb:x.op=44):
 Calls Tryz.prog 67 #[.pointer (some ⟨R,0,none⟩)] w (fR w R (zT (m+1) (x :: r))):=by
 have HR:=O h;have mX:=O (show zT (m+1) (x :: r)=if x.n=0/\zk x.s=0/\x.t=emp then some (.ent x.s,r) else none by simp only [zT,if_neg (uE (.inl hb)),if_pos hb]);generalize zT (m+1) (x :: r)=PP at *;clear h;go_enter Tryz.func67,Tryz.ntmps67;go_wp2_with fail;have G0:=O (zc (za w (.cells #[.int .i64 0,.int .i64 0,.string ⟨#[]⟩,.string ⟨#[]⟩,.pointer none,.slice none 0 0] 81)) (some R));have X0:=O (jf w (.int .i64 0) (.int .i64 0) (.string ⟨#[]⟩) (.string ⟨#[]⟩) (.pointer none) (.slice none 0 0) 81);have R0:=O (HR.o.keep (za w (.cells #[.int .i64 0,.int .i64 0,.string ⟨#[]⟩,.string ⟨#[]⟩,.pointer none,.slice none 0 0] 81)));have sO:=O (show R<w.heap.size by obtain⟨⟨_,_,_,h1,_⟩,_⟩:=HR.o;exact block_lt_of_cell h1);have BO:=O (show some w.heap.size≠some R from λe=>by injection e with e;have:=sO.o;omega);obtain⟨w0,hw0⟩:∃w0,w.alloc (.cells #[.int .i64 0,.int .i64 0,.string ⟨#[]⟩,.string ⟨#[]⟩,.pointer none,.slice none 0 0] 81)=w0:=⟨_,rfl⟩
 have rJ:=O (show w.heap.size<=w0.heap.size by rw [<-hw0];simp);rw [hw0] at G0 X0 R0 ⊢;clear hw0 HR;refine(dY R (x :: r) w0 R0.o).mono ?_;rintro e w1 ⟨rfl,r1,g1⟩;have G1:=O (G0.o.trans g1);have X1:=O (X0.o.but g1 BO.o);have R1:=O r1;have IG:=O (show lk x by obtain⟨⟨_,_,_,_,h2,_⟩,_⟩:=R0.o;exact h2.ok x (by simp));have KN:=O (λw=>aL x.s w IG.o.s);have sd:=O (Nat.le_trans rJ.o g1.size);clear r1 g1 G0 X0 R0 rJ;unfold ndV;have hl:w.heap.size<w1.heap.size:=block_lt_of_cell X1.o.c0;rw [hb];clear hb;have B2:=O ((za w1 (.cells #[.int .i64 44,.int .i64 x.n,.string x.s,.string x.t,.pointer none,.slice none 0 0] 81)).trans ((za _ (.cells #[.int .i64 44,.int .i64 0,.string x.s,.string ⟨#[]⟩] 47)).mono (by simp)));have hsz:(w1.alloc (.cells #[.int .i64 44,.int .i64 x.n,.string x.s,.string x.t,.pointer none,.slice none 0 0] 81)).heap.size=w1.heap.size+1:=by simp
 have K2:=(jf w1 (.int .i64 44) (.int .i64 x.n) (.string x.s) (.string x.t) (.pointer none) (.slice none 0 0) 81).keep (za _ (.cells #[.int .i64 44,.int .i64 0,.string x.s,.string ⟨#[]⟩] 47));have N2:=fq (w1.alloc (.cells #[.int .i64 44,.int .i64 x.n,.string x.s,.string x.t,.pointer none,.slice none 0 0] 81)) (.int .i64 44) (.int .i64 0) (.string x.s) (.string ⟨#[]⟩) 47;rw [hsz] at N2;clear hsz;go_wp2_with fail;obtain⟨w2,hw2⟩:∃w2,(w1.alloc (.cells #[.int .i64 44,.int .i64 x.n,.string x.s,.string x.t,.pointer none,.slice none 0 0] 81)).alloc (.cells #[.int .i64 44,.int .i64 0,.string x.s,.string ⟨#[]⟩] 47)=w2:=⟨_,rfl⟩
 rw [hw2] at B2 K2 N2 ⊢;clear hw2;refine(KN.o w2).mono ?_;rintro e w3 ⟨rfl,b3⟩;have B3:=bh B2 b3;have K3:=O (K2.keep b3);have N3:=O (N2.keep b3);have X3:=O (X1.o.keep B3.o);have R3:=O (R1.o.keep B3.o);have G3:=O (zf G1.o (zc B3.o (some R)));clear b3 B2 K2 N2 X1 R1 G1 B3 KN hl sd;obtain⟨k0,k1,k2,k3,k4,k5,-,-,-,-,-,-⟩:=K3.o;obtain⟨n0,n1,n2,n3,-,-,-,-⟩:=N3.o;by_cases hf:zk x.s=0
 ·have HF:=O hf;rw [hf,zj];clear hf;by_cases hn:x.n=0
  ·rcases oz x.t with ht|⟨ht,t1,t2⟩
   ·have HP:=O (show PP=some (.ent x.s,r) by rw [mX.o,if_pos ⟨hn,HF.o,ht⟩]);rw [hn,ht] at K3;rw [hn] at k1;rw [ht] at k3;rw [hn,ht];clear hn ht mX;obtain⟨c0,c1,c2,c3,c4,c5,z0,z1,z2,z3,z4,z5⟩:=X3.o;go_wp2_with fail;have Y:=X3.o.set (.int .i64 44) (.int .i64 0) (.string x.s) (.string ⟨#[]⟩) (.pointer none) (.slice none 0 0);have gs:=jI w3 w.heap.size (.int .i64 44) (.int .i64 0) (.string x.s) (.string ⟨#[]⟩) (.pointer none) (.slice none 0 0);have R4:=R3.o.but gs sO.o;have G4:=jQ G3.o gs (Nat.le_refl _);obtain⟨S,hS⟩:∃S,((((((w3.setCell ⟨w.heap.size,0,none⟩ (.int .i64 44)).setCell ⟨w.heap.size,1,none⟩ (.int .i64 0)).setCell ⟨w.heap.size,2,none⟩ (.string x.s)).setCell ⟨w.heap.size,3,none⟩ (.string ⟨#[]⟩)).setCell ⟨w.heap.size,4,none⟩ (.pointer none)).setCell ⟨w.heap.size,5,none⟩ (.slice none 0 0))=S:=⟨_,rfl⟩
    rw [hS] at Y gs R4 G4 ⊢;clear hS gs;obtain⟨j0,j1,j2,j3,j4,j5,-,-,-,-,-,-⟩:=Y;refine bodyPost_ret (v := .agg #[.int .i64 44,.int .i64 0,.string x.s,.string ⟨#[]⟩,.pointer none,.slice none 0 0]) (by simp [results,Tryz.results67,go_sem,j0,j1,j2,j3,j4,j5]) rfl ?_;rw [HP.o];exact⟨[.int .i64 44,.int .i64 0,.string x.s,.string ⟨#[]⟩,.pointer none,.slice none 0 0],rfl,⟨0,rfl⟩,R4,G4⟩
   ·have HP:=O (show PP=none by rw [mX.o,if_neg (λh=>ht h.2.2)]);rw [hn] at k1;rw [hn];clear hn ht mX;go_wp2_with fail;exact⟨rfl,by rw [HP.o];exact⟨rfl,G3.o⟩⟩
  ·have HP:=O (show PP=none by rw [mX.o,if_neg (λh=>hn h.1)]);have e0:(x.n==0)=false:=beq_eq_false_iff_ne.2 hn;have e1:(x.n != 0)=true:=by rw [bne_iff_ne];exact hn
   clear mX hn;go_wp2_with fail;exact⟨rfl,by rw [HP.o];exact⟨rfl,G3.o⟩⟩
 ·have HP:=O (show PP=none by rw [mX.o,if_neg (λh=>hf h.2.1)]);rw [zm hf];generalize zk x.s=ff at *;clear hf mX;go_wp2_with fail;exact⟨rfl,by rw [HP.o];exact⟨rfl,G3.o⟩⟩
theorem Ek(R m:Nat)(w:World)(h:RdK w R []):
 Calls Tryz.prog 67 #[.pointer (some ⟨R,0,none⟩)] w (fR w R (zT m [])):=by
 have mX:=O (show zT m []=none by cases m <;> rfl);have HR:=O (h.keep (za w (.cells #[.int .i64 0,.int .i64 0,.string ⟨#[]⟩,.string ⟨#[]⟩,.pointer none,.slice none 0 0] 81)));have G0:=O (zc (za w (.cells #[.int .i64 0,.int .i64 0,.string ⟨#[]⟩,.string ⟨#[]⟩,.pointer none,.slice none 0 0] 81)) (some R));generalize zT m []=PP at *;clear h;go_enter Tryz.func67,Tryz.ntmps67;go_wp2_with fail;refine(dY R [] _ HR.o).mono ?_;rintro e w1 ⟨rfl,g1⟩;go_wp2_with fail;exact⟨rfl,by rw [mX.o];exact⟨rfl,G0.o.trans g1⟩⟩
theorem L'(R m:Nat)(x:Nd)(r:List Nd)(w:World)(h:RdK w R (x :: r))(hb:¬ah x.op)(h4:x.op≠44)(h5:x.op≠45)(h6:x.op≠46):
 Calls Tryz.prog 67 #[.pointer (some ⟨R,0,none⟩)] w (fR w R (zT (m+1) (x :: r))):=by
 have HR:=O h;have mX:=O (show zT (m+1) (x :: r)=none by simp only [zT,if_neg hb,if_neg h4,if_neg h5,if_neg h6]);generalize zT (m+1) (x :: r)=PP at *;clear h;go_enter Tryz.func67,Tryz.ntmps67;go_wp2_with fail;have G0:=O (zc (za w (.cells #[.int .i64 0,.int .i64 0,.string ⟨#[]⟩,.string ⟨#[]⟩,.pointer none,.slice none 0 0] 81)) (some R));have X0:=O (jf w (.int .i64 0) (.int .i64 0) (.string ⟨#[]⟩) (.string ⟨#[]⟩) (.pointer none) (.slice none 0 0) 81);have R0:=O (HR.o.keep (za w (.cells #[.int .i64 0,.int .i64 0,.string ⟨#[]⟩,.string ⟨#[]⟩,.pointer none,.slice none 0 0] 81)));have sO:=O (show R<w.heap.size by obtain⟨⟨_,_,_,h1,_⟩,_⟩:=HR.o;exact block_lt_of_cell h1);have BO:=O (show some w.heap.size≠some R from λe=>by injection e with e;have:=sO.o;omega);obtain⟨w0,hw0⟩:∃w0,w.alloc (.cells #[.int .i64 0,.int .i64 0,.string ⟨#[]⟩,.string ⟨#[]⟩,.pointer none,.slice none 0 0] 81)=w0:=⟨_,rfl⟩
 have rJ:=O (show w.heap.size<=w0.heap.size by rw [<-hw0];simp);rw [hw0] at G0 X0 R0 ⊢;clear hw0 HR;refine(dY R (x :: r) w0 R0.o).mono ?_;rintro e w1 ⟨rfl,r1,g1⟩;have G1:=O (G0.o.trans g1);have X1:=O (X0.o.but g1 BO.o);have R1:=O r1;have sd:=O (Nat.le_trans rJ.o g1.size);clear r1 g1 G0 X0 R0 rJ;unfold ndV;obtain⟨o,ho⟩:∃o,o=x.op:=⟨_,rfl⟩
 rw [<-ho] at hb h4 h5 h6 ⊢;clear ho;have e1:(o==41)=false:=beq_eq_false_iff_ne.2 λe=>hb (.inl e);have e2:(o==42)=false:=beq_eq_false_iff_ne.2 λe=>hb (.inr (.inl e));have e3:(o==43)=false:=beq_eq_false_iff_ne.2 λe=>hb (.inr (.inr (.inl e)));have e7:(o==48)=false:=beq_eq_false_iff_ne.2 λe=>hb (.inr (.inr (.inr (.inl e))));have e8:(o==49)=false:=beq_eq_false_iff_ne.2 λe=>hb (.inr (.inr (.inr (.inr e))));have e4:(o==44)=false:=beq_eq_false_iff_ne.2 h4;have e5:(o==45)=false:=beq_eq_false_iff_ne.2 h5;have e6:(o==46)=false:=beq_eq_false_iff_ne.2 h6;clear hb h4 h5 h6;go_wp2_with fail;exact⟨rfl,by rw [mX.o];exact⟨rfl,zf (zf G1.o (zc (za _ _) _)) (zc (za _ _) _)⟩⟩
theorem eW(w:World)(u:List Value)(t:TypeId):uK (w.alloc (.cells u.toArray t)) ⟨w.heap.size,0,none⟩ u:=λj x hx=>by
 have:=jo w u.toArray t j (v:=x) (by simpa using hx);unfold Addr.add;split
 ·rename_i h;subst h;exact this
 ·simpa using this
theorem Qq(R m:Nat)(ih:Jb R m)(x:Nd)(r:List Nd)(hl:r.length<=m)(w:World)(h:RdK w R (x :: r))(hb:x.op=45):
 Calls Tryz.prog 67 #[.pointer (some ⟨R,0,none⟩)] w (fR w R (zT (m+1) (x :: r))):=by
 have HR:=O h;have IH:=O (λw' (h':RdK w' R r)=>ih r w' h' hl);clear ih;have mX:=O (show zT (m+1) (x :: r)=(match zT m r with|none=>none|some (p,r')=>if x.n=0/\x.s=emp/\x.t=emp then some (.set p,r') else none) by simp only [zT,if_neg (uE (.inr (.inl hb))),if_neg (show¬x.op=44 by omega),if_pos hb];rfl);generalize zT (m+1) (x :: r)=PP at *;clear h;go_enter Tryz.func67,Tryz.ntmps67;go_wp2_with fail;have G0:=O (zc (za w (.cells #[.int .i64 0,.int .i64 0,.string ⟨#[]⟩,.string ⟨#[]⟩,.pointer none,.slice none 0 0] 81)) (some R));have X0:=O (jf w (.int .i64 0) (.int .i64 0) (.string ⟨#[]⟩) (.string ⟨#[]⟩) (.pointer none) (.slice none 0 0) 81);have R0:=O (HR.o.keep (za w (.cells #[.int .i64 0,.int .i64 0,.string ⟨#[]⟩,.string ⟨#[]⟩,.pointer none,.slice none 0 0] 81)));have sO:=O (show R<w.heap.size by obtain⟨⟨_,_,_,h1,_⟩,_⟩:=HR.o;exact block_lt_of_cell h1);have BO:=O (show some w.heap.size≠some R from λe=>by injection e with e;have:=sO.o;omega);obtain⟨w0,hw0⟩:∃w0,w.alloc (.cells #[.int .i64 0,.int .i64 0,.string ⟨#[]⟩,.string ⟨#[]⟩,.pointer none,.slice none 0 0] 81)=w0:=⟨_,rfl⟩
 have rJ:=O (show w.heap.size<=w0.heap.size by rw [<-hw0];simp);rw [hw0] at G0 X0 R0 ⊢;clear hw0 HR;refine(dY R (x :: r) w0 R0.o).mono ?_;rintro e w1 ⟨rfl,r1,g1⟩;have G1:=O (G0.o.trans g1);have X1:=O (X0.o.but g1 BO.o);have R1:=O r1;have sd:=O (Nat.le_trans rJ.o g1.size);clear r1 g1 G0 X0 R0 rJ;unfold ndV;have hl:w.heap.size<w1.heap.size:=block_lt_of_cell X1.o.c0;rw [hb];clear hb;have B2:=O ((za w1 (.cells #[.int .i64 45,.int .i64 x.n,.string x.s,.string x.t,.pointer none,.slice none 0 0] 81)).trans ((za _ (.cells #[.int .i64 45,.int .i64 0,.string ⟨#[]⟩,.string ⟨#[]⟩] 47)).mono (by simp)));have hsz:(w1.alloc (.cells #[.int .i64 45,.int .i64 x.n,.string x.s,.string x.t,.pointer none,.slice none 0 0] 81)).heap.size=w1.heap.size+1:=by simp
 have K2:=(jf w1 (.int .i64 45) (.int .i64 x.n) (.string x.s) (.string x.t) (.pointer none) (.slice none 0 0) 81).keep (za _ (.cells #[.int .i64 45,.int .i64 0,.string ⟨#[]⟩,.string ⟨#[]⟩] 47));have N2:=fq (w1.alloc (.cells #[.int .i64 45,.int .i64 x.n,.string x.s,.string x.t,.pointer none,.slice none 0 0] 81)) (.int .i64 45) (.int .i64 0) (.string ⟨#[]⟩) (.string ⟨#[]⟩) 47;rw [hsz] at N2;clear hsz;go_wp2_with fail;obtain⟨w2,hw2⟩:∃w2,(w1.alloc (.cells #[.int .i64 45,.int .i64 x.n,.string x.s,.string x.t,.pointer none,.slice none 0 0] 81)).alloc (.cells #[.int .i64 45,.int .i64 0,.string ⟨#[]⟩,.string ⟨#[]⟩] 47)=w2:=⟨_,rfl⟩
 rw [hw2] at B2 K2 N2 ⊢;clear hw2;have Yn:=O (Nat.lt_of_lt_of_le sO.o sd.o);refine(IH.o w2 (R1.o.keep B2.o)).mono ?_;intro e w3 zX;rcases hp:zT m r with _|⟨q,r'⟩
 ·rw [hp] at zX;obtain⟨rfl,g3⟩:=zX;have HP:=O (show PP=none by rw [mX.o,hp]);clear mX hp;go_wp2_with fail;exact⟨rfl,by rw [HP.o];exact⟨rfl,zf G1.o (zf (zc B2.o (some R)) g3)⟩⟩
 ·rw [hp] at zX;obtain⟨v,rfl,hk,hr,g3⟩:=zX;obtain⟨o,n,s0,t0,pp,A,m0,cc,rfl⟩:=iI hk;have K3:=O (K2.but g3 (λe=>by injection e with e;have:=Yn.o;omega));have N3:=O (N2.but g3 (λe=>by injection e with e;have:=Yn.o;omega));have X3:=O ((X1.o.keep B2.o).but g3 BO.o);have G3:=O (zf G1.o (zf (zc B2.o (some R)) g3));have HK:=O (hk.mono (B':=λb=>w2.heap.size<=b/\b<w3.heap.size) λb h1 h2=>⟨h1,h2⟩);have HR3:=O hr;have HP:=O (show PP=if x.n=0/\x.s=emp/\x.t=emp then some (.set q,r') else none by rw [mX.o,hp]);have wb:=O (show w1.heap.size<w2.heap.size from block_lt_of_cell K2.c0);have MI:=O (show w2.heap.size<=w3.heap.size from g3.size);have YU:w1.heap.size<w3.heap.size:=Nat.lt_of_lt_of_le wb.o MI.o;have hl4:w1.heap.size+1<w3.heap.size:=block_lt_of_cell N3.o.c0;have Rj:w.heap.size<w3.heap.size:=block_lt_of_cell X3.o.c0;clear hk hr g3 mX hp K2 N2 X1 R1 G1 IH;obtain⟨k0,k1,k2,k3,k4,k5,y0,y1,y2,y3,y4,y5⟩:=K3.o;obtain⟨n0,n1,n2,n3,-,-,-,-⟩:=N3.o;by_cases hn:x.n=0
  ·rcases oz x.s with hs|⟨hs,s1,s2⟩
   ·rcases oz x.t with ht|⟨ht,t1,t2⟩
    ·have HQ:=O (show PP=some (.set q,r') by rw [HP.o,if_pos ⟨hn,hs,ht⟩]);rw [hn,hs,ht] at K3;rw [hn] at k1;rw [hs] at k2;rw [ht] at k3;rw [hn,hs,ht];clear hn hs ht HP;obtain⟨c0,c1,c2,c3,c4,c5,z0,z1,z2,z3,z4,z5⟩:=X3.o;go_wp2_with fail;obtain⟨w4,hw4⟩:∃w4,w3.setCell ⟨w1.heap.size,4,none⟩ (.pointer (some ⟨w3.heap.size,0,none⟩))=w4:=⟨_,rfl⟩
     have g4:w3.grownBy w4 (some w1.heap.size):=by rw [<-hw4];exact zl w3 ⟨w1.heap.size,4,none⟩ _
     have e4:w4.heap.size=w3.heap.size:=by rw [<-hw4];simp [World.setCell]
     rw [hw4];have X4:=X3.o.but g4 (λe=>by injection e with e;omega);have Y:=X4.set (.int .i64 45) (.int .i64 0) (.string ⟨#[]⟩) (.string ⟨#[]⟩) (.pointer (some ⟨w3.heap.size,0,none⟩)) (.slice none 0 0);have gs:=jI w4 w.heap.size (.int .i64 45) (.int .i64 0) (.string ⟨#[]⟩) (.string ⟨#[]⟩) (.pointer (some ⟨w3.heap.size,0,none⟩)) (.slice none 0 0);have R5:=(HR3.o.but g4 Yn.o).but gs sO.o;have G5:=jQ (jQ G3.o g4 sd.o) gs (Nat.le_refl _);have K5:=HK.o.cong (w':=((((((w4.setCell ⟨w.heap.size,0,none⟩ (.int .i64 45)).setCell ⟨w.heap.size,1,none⟩ (.int .i64 0)).setCell ⟨w.heap.size,2,none⟩ (.string ⟨#[]⟩)).setCell ⟨w.heap.size,3,none⟩ (.string ⟨#[]⟩)).setCell ⟨w.heap.size,4,none⟩ (.pointer (some ⟨w3.heap.size,0,none⟩))).setCell ⟨w.heap.size,5,none⟩ (.slice none 0 0))) λb hb=>by
      rw [ae w4 w.heap.size (.int .i64 45) (.int .i64 0) (.string ⟨#[]⟩) (.string ⟨#[]⟩) (.pointer (some ⟨w3.heap.size,0,none⟩)) (.slice none 0 0) (by have:=hb.1;have:=wb.o;omega),<-hw4,Below.heap_setCell _ _ _ b (show b≠w1.heap.size by have:=hb.1;have:=wb.o;omega)]
     have E5:(((((((w4.setCell ⟨w.heap.size,0,none⟩ (.int .i64 45)).setCell ⟨w.heap.size,1,none⟩ (.int .i64 0)).setCell ⟨w.heap.size,2,none⟩ (.string ⟨#[]⟩)).setCell ⟨w.heap.size,3,none⟩ (.string ⟨#[]⟩)).setCell ⟨w.heap.size,4,none⟩ (.pointer (some ⟨w3.heap.size,0,none⟩))).setCell ⟨w.heap.size,5,none⟩ (.slice none 0 0))).heap.size=w3.heap.size:=by simp [World.setCell,<-hw4]
     obtain⟨S,hS⟩:∃S,((((((w4.setCell ⟨w.heap.size,0,none⟩ (.int .i64 45)).setCell ⟨w.heap.size,1,none⟩ (.int .i64 0)).setCell ⟨w.heap.size,2,none⟩ (.string ⟨#[]⟩)).setCell ⟨w.heap.size,3,none⟩ (.string ⟨#[]⟩)).setCell ⟨w.heap.size,4,none⟩ (.pointer (some ⟨w3.heap.size,0,none⟩))).setCell ⟨w.heap.size,5,none⟩ (.slice none 0 0))=S:=⟨_,rfl⟩
     rw [hS] at Y gs R5 G5 K5 E5 ⊢;clear hS gs hw4 X4 g4;have Y5:=Y.keep (za S (.cells #[.int .i64 o,.int .i64 n,.string s0,.string t0,.pointer pp,.slice A m0 cc] 81));obtain⟨j0,j1,j2,j3,j4,j5,-,-,-,-,-,-⟩:=Y5;refine bodyPost_ret (v := .agg #[.int .i64 45,.int .i64 0,.string ⟨#[]⟩,.string ⟨#[]⟩,.pointer (some ⟨w3.heap.size,0,none⟩),.slice none 0 0]) (by simp [results,Tryz.results67,go_sem,j0,j1,j2,j3,j4,j5]) rfl ?_;rw [HQ.o];have r0:=eW S [.int .i64 o,.int .i64 n,.string s0,.string t0,.pointer pp,.slice A m0 cc] 81;rw [E5] at r0;refine⟨[.int .i64 45,.int .i64 0,.string ⟨#[]⟩,.string ⟨#[]⟩,.pointer (some ⟨w3.heap.size,0,none⟩),.slice none 0 0],rfl,⟨0,w3.heap.size,[.int .i64 o,.int .i64 n,.string s0,.string t0,.pointer pp,.slice A m0 cc],rfl,Nat.le_of_lt Rj,r0,?_⟩,R5.keep (za _ _),zf G5 (zc (za _ _) _)⟩;refine(K5.cong λb hb=>(za S _).block b (by rw [E5];exact hb.2)).mono λb hb _=>?_;have:=hb.1;have:=wb.o;have:=sd.o;omega
    ·have HQ:=O (show PP=none by rw [HP.o,if_neg (λh=>ht h.2.2)]);rw [hn] at k1;rw [hs] at k2;rw [hn,hs];clear hn hs ht HP;go_wp2_with fail;exact⟨rfl,by rw [HQ.o];exact⟨rfl,zf (jQ G3.o (zl w3 ⟨w1.heap.size,4,none⟩ _) sd.o) (zc (za _ _) _)⟩⟩
   ·have HQ:=O (show PP=none by rw [HP.o,if_neg (λh=>hs h.2.1)]);rw [hn] at k1;rw [hn];clear hn hs HP;go_wp2_with fail;exact⟨rfl,by rw [HQ.o];exact⟨rfl,zf (jQ G3.o (zl w3 ⟨w1.heap.size,4,none⟩ _) sd.o) (zc (za _ _) _)⟩⟩
  ·have HQ:=O (show PP=none by rw [HP.o,if_neg (λh=>hn h.1)]);have e0:(x.n==0)=false:=beq_eq_false_iff_ne.2 hn;have e1:(x.n != 0)=true:=by rw [bne_iff_ne];exact hn
   clear hn HP;go_wp2_with fail;exact⟨rfl,by rw [HQ.o];exact⟨rfl,zf (jQ G3.o (zl w3 ⟨w1.heap.size,4,none⟩ _) sd.o) (zc (za _ _) _)⟩⟩
structure lr(w w':World):Prop where
 b:Below w.heap.size w w'
 d:w.drawn<=w'.drawn
theorem lr.grow{w w':World}(h:lr w w'):∃q os,w'=grow (w.drewN q) os:=by
 obtain⟨p,hp⟩:=regrown_of_below h.b;have e:p.d=w'.drawn:=by rw [hp];rfl
 refine⟨w'.drawn-w.drawn,p.os,?_⟩;have e2:redrawn w p.d=w.drewN (w'.drawn-w.drawn):=by
  unfold redrawn World.drewN;rw [e,show w.drawn+(w'.drawn-w.drawn)=w'.drawn by have:=h.d;omega]
 rw [<-e2];exact hp
theorem Af(x y:Nd)(w:World):
 Calls Tryz.prog 147 #[ndV x,ndV y] w λe w'=>e = .returned (.int .i64 (nA x y))/\lr w w':=by
 unfold ndV;go_enter Tryz.func147,Tryz.ntmps147;go_wp2;refine tI 20 (by kernel_rfl) (by kernel_rfl) ?_;simp only [List.take_succ_cons,List.take_zero,List.drop_succ_cons,List.drop_zero]
 iterate 4 still_step
 still_call (cmp_Compare_int _ _ _)
 iterate 4 still_step
 still_call (cmp_Compare_int _ _ _)
 iterate 4 still_step
 still_call (strings_Compare _ _ _)
 iterate 4 still_step
 still_call (strings_Compare _ _ _);refine wpStill_nil ?_;go_wp2_with (go_at_call 165;refine(I2 (pf x.op y.op) (pf x.n y.n) (js x.s y.s) (js x.t y.t) _ _ (by go_simp) (by go_simp) (by go_simp) (by go_simp)).mono ?_;rintro e w' ⟨rfl,rfl⟩);go_ret;exact⟨rfl,((((Below.refl _ _).alloc (Nat.le_refl _) _).alloc (by simp) _).alloc (by simp;omega) _).drew,Nat.le_succ _⟩
theorem qA(A B:Option Addr)(n m c d:Nat)(P Q:List Nd)(w:World)(hn:n=P.length)(hm:m=Q.length)(hln:n<=maxLen)(_hlm:m<=maxLen)(hP:jL w A P)(hQ:jL w B Q):
 Calls Tryz.prog 146 #[.slice A n c,.slice B m d,.func (.func 147) #[] #[]] w λe w'=>e = .returned (.int .i64 (zJ P Q))/\lr w w':=by
 unfold maxLen at hln _hlm;have HP:=O hP;have HQ:=O hQ;have HN:=O hn;have HM:=O hm;clear hP hQ hn hm;go_enter Tryz.func146,Tryz.ntmps146;go_wp2;go_loopw [7,8,9,10,13] (λ_ _ _ _ i wr=>∃k:Nat,k<=n/\k<=m/\i = .int .i64 k/\Hid (zJ P Q=zJ (P.drop k) (Q.drop k))/\Hid (w.drawn<=wr.drawn)/\Below w.heap.size w wr) (λ_ _ _ _ i _=>n-(intOf i).toNat)
 case atStart=>exact⟨0,Nat.zero_le _,Nat.zero_le _,rfl,rfl,Nat.le_refl _,Below.refl _ _⟩
 case round =>
  obtain⟨k,Rb,hkm,rfl,hc,hdr,ik⟩:=hrel;obtain⟨wo,rfl⟩:∃wo:World,wo=wr:=⟨_,rfl⟩
  by_cases h1:k<n
  ·have MH:k<P.length:=by rw [<-HN.o];exact h1
   obtain⟨a,rfl,a1,a2,a3,a4⟩:=(HP.o.keep ik) k P[k] (List.getElem?_eq_getElem MH);by_cases h2:k<m
   ·have Rm:k<Q.length:=by rw [<-HM.o];exact h2
    obtain⟨b,rfl,b1,b2,b3,b4⟩:=(HQ.o.keep ik) k Q[k] (List.getElem?_eq_getElem Rm);have HA:=O (hc.o.trans (fD MH Rm));have g:∀(o:Obj) (x:Addr) (v:Value),wo.cell? x=some v->(wo.alloc o).cell? x=some v:=λo x v h=>zb ((Below.refl _ _).alloc (Nat.le_refl _) o) h;replace b1:=λo=>g o _ _ b1;replace b2:=λo=>g o _ _ b2;replace b3:=λo=>g o _ _ b3;replace b4:=λo=>g o _ _ b4;clear hc g;go_wp2_with fail;refine(Af P[k] Q[k] _).mono ?_;rintro e w1 ⟨rfl,hb1,hd1⟩;have hdw:=O (Nat.le_trans hdr.o hd1);clear hd1;have Wt:=O ((ik.alloc (by have:=ik.size;omega) _).alloc (by have:=ik.size;simp;omega) _ |>.trans (hb1.mono (by have:=ik.size;simp;omega)));clear hb1 b1 b2 b3 b4 a1 a2 a3 a4;by_cases h0:nA P[k] Q[k]=0
    ·have HC:=O (HA.o.trans (by rw [h0];rfl:_=zJ (P.drop (k+1)) (Q.drop (k+1))));rw [h0];clear h0 HA;go_wp2;go_roundw
     case rel=>exact⟨k+1,by omega,by omega,by go_num,HC,hdw,Wt.o⟩
     case measure=>simp [intOf];omega
    ·have HC:=O (HA.o.trans (zR h0 _));have h0':(nA P[k] Q[k]==0)=false:=beq_eq_false_iff_ne.2 h0;clear HA;go_wp2;go_ret;exact⟨cG HC.o.symm,Wt.o,hdw.o⟩
   ·have HA:=O (hc.o.trans (rC MH (by rw [<-HM.o];omega)));clear hc;go_wp2;go_ret;exact⟨cG HA.o.symm,ik.alloc (by have:=ik.size;omega) _,hdr.o⟩
  ·obtain rfl:k=n:=by omega
   by_cases h2:k<m
   ·have HA:=O (hc.o.trans (ra (by rw [<-HN.o];omega) (by rw [<-HM.o];exact h2)));clear hc;go_wp2;go_ret;exact⟨cG HA.o.symm,ik,hdr.o⟩
   ·have HA:=O (hc.o.trans (eP (by rw [<-HN.o];omega) (by rw [<-HM.o];omega)));clear hc;go_wp2;go_ret;exact⟨cG HA.o.symm,ik,hdr.o⟩
theorem Gk(A B:Option Addr)(n m c d:Nat)(P Q:List Nd)(w:World)(hn:n=P.length)(hm:m=Q.length)(hln:n<=maxLen)(IL:m<=maxLen)(hP:jL w A P)(hQ:jL w B Q):
 Calls Tryz.prog 113 #[.slice A n c,.slice B m d] w λe w'=>e = .returned (.int .i64 (zJ P Q))/\lr w w':=by
 have H:=qA A B n m c d P Q w hn hm hln IL hP hQ;clear hn hm hP hQ;go_enter Tryz.func113,Tryz.ntmps113;go_wp2_with fail;refine H.mono ?_;rintro e w1 ⟨rfl,hb1⟩;go_wp2;go_ret;exact⟨rfl,hb1⟩
end Go.Proofs.YthifljpkgfpkiaaGreatDoor
