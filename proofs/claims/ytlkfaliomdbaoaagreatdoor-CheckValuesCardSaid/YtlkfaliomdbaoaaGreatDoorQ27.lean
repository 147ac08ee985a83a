/-
  Fields of types in a row of the call's own: their cells. kinds' reader: a type. kinds' reader: a type of entities. kinds' reader: a type of sets. The order of ..
-/
import Derived.Laws.AppendOwnNone
import Derived.Maps.AppendAt
import Derived.Test.YtlkfaliomdbaoaaGreatDoorQ2
import Derived.Test.YtlkfaliomdbaoaaGreatDoorQ3
import Derived.Test.YtlkfaliomdbaoaaGreatDoorQ18
import Derived.Test.YtlkfaliomdbaoaaGreatDoorQ26
set_option maxRecDepth 100000
set_option maxHeartbeats 8000000
namespace Go.Proofs.YtlkfaliomdbaoaaGreatDoor
open Go.RowKit Go.Wk Go.Sort
structure Fe where
 y:Kfd
 o:Int
 n:Int
 s:ByteArray
 t:ByteArray
 p:Option Addr
 A:Option Addr
 m:Nat
 c:Nat
def Fe.u(x:Fe):List Value := [.int .i64 x.o,.int .i64 x.n,.string x.s,.string x.t,.pointer x.p,.slice x.A x.m x.c]
def Fe.eight(x:Fe):List Value := .string x.y.1 :: .bool x.y.2.1 :: x.u
def jc:List Fe→List Value
 | [] => []
 | x :: E => .string x.y.1 :: .bool x.y.2.1 :: .int .i64 x.o :: .int .i64 x.n :: .string x.s :: .string x.t :: .pointer x.p :: .slice x.A x.m x.c :: jc E
@[simp] theorem zbr (E:List Fe):(jc E).length=E.length*8:=by
 induction E with
 | nil=>rfl
 | cons x E ih=>simp only [jc,List.length_cons,ih];omega
theorem zcZ(U V:List Fe):jc (U ++ V)=jc U ++ jc V:=by
 induction U with
 | nil=>rfl
 | cons u U ih=>simp only [List.cons_append,jc,ih]
theorem zbG(E:List Fe):∀v∈jc E,v.oneCell'=true:=by
 induction E with
 | nil=>intro v hv;cases hv
 | cons u U ih =>
  intro v hv
  simp only [jc,List.mem_cons] at hv
  rcases hv with rfl|rfl|rfl|rfl|rfl|rfl|rfl|rfl|hv
  ·rfl
  ·rfl
  ·rfl
  ·rfl
  ·rfl
  ·rfl
  ·rfl
  ·rfl
  ·exact ih v hv
theorem zdK:∀(E:List Fe) (k:Nat) (x:Fe),E[k]?=some x→∀j v,x.eight[j]?=some v→(jc E)[k*8+j]?=some v
 | [],k,x,h=>by simp at h
 | y :: E,0,x,h=>by
  simp at h;subst h;intro j v hv;rw [Nat.zero_mul,Nat.zero_add]
  match j,hv with
  | 0,hv=>exact hv
  | 1,hv=>exact hv
  | 2,hv=>exact hv
  | 3,hv=>exact hv
  | 4,hv=>exact hv
  | 5,hv=>exact hv
  | 6,hv=>exact hv
  | 7,hv=>exact hv
  | j+8,hv=>simp [Fe.eight,Fe.u] at hv
 | y :: E,k+1,x,h=>by
  intro j v hv;have:=zdK E k x (by simpa using h) j v hv;rw [show(k+1)*8+j=k*8+j+1+1+1+1+1+1+1+1 by omega];simpa [jc] using this
theorem zkS:(Tryz.prog.info? 122).map (fun i=>(i.zero,i.size,i.bytes))=some (some (.agg #[.string ⟨#[]⟩,.bool false,.int .i64 0,.int .i64 0,.string ⟨#[]⟩,.string ⟨#[]⟩,.pointer none,.slice none 0 0]),8,104):=by kernel_rfl
theorem zod(a:Addr)(x y:Nat):(a.add x).add y=a.add (x+y):=by
 unfold Addr.add;by_cases hx:x=0 <;> by_cases hy:y=0 <;> simp [hx,hy,Nat.add_assoc]
theorem zco{w:World}{B:Nat→Prop}{a:Addr}(hB:B a.block):∀(E0 E:List Fe),(∀j u,(jc (E0 ++ E))[j]?=some u→w.cell? (a.add j)=some u)→(∀x∈E,KAt w B x.y.2.2 x.u)→FAt w B (some a) E0.length (ofL (E.map Fe.y))
 | _,[],_,_=>trivial
 | E0,x :: E,h,hE=>by
  refine⟨⟨a,x.u,rfl,hB,fun j v hv=>?_,hE x (by simp)⟩,?_⟩
  ·rw [zod];exact h _ _ (zdK (E0 ++ x :: E) E0.length x (by simp) j v hv)
  ·have:=zco hB (E0 ++ [x]) E (by simpa using h) fun y hy=>hE y (by simp [hy]);simpa [ofL] using this
theorem zfY:∀L:List Kfd,(ofL L).len=L.length
 | []=>rfl
 | y :: r=>by simp [ofL,Fl.len,zfY r]
structure zbR(w:World)(base:Nat)(v:Value)(E:List Fe):Prop where
 own:w.ownsRow base 122 8 v E.length (jc E)
 ok:∀x∈E,KAt w (fun b=>base≤b∧some b≠v.ownBlock) x.y.2.2 x.u
theorem zbR.nil(w:World)(base:Nat):zbR w base (.slice none 0 0) []:=⟨World.ownsRow_nil _ _ _ _,fun _ h=>nomatch h⟩
theorem zbR.keep{w w':World}{base:Nat}{v:Value}{E:List Fe}{R:Nat}(h:zbR w base v E)(hg:w.grownBy w' (some R))(hR:R<base):zbR w' base v E:=by
 refine⟨h.own.kept hg ?_,fun x hx=>?_⟩
 ·rcases hv:v.ownBlock with _|k
  ·exact .inl rfl
  ·refine .inr fun e=>?_;injection e with e;have:=(h.own.lt k hv).1;omega
 ·have h1:=((zar (w:=w) (B':=fun b=>(base≤b∧some b≠v.ownBlock)∧b<w.heap.size) (fun b hb hl=>⟨hb,hl⟩) _).1 _ _ (Nat.le_refl _) (h.ok x hx))
  have h2:=h1.cong (w':=w') fun b hb=>hg.block b hb.2 (fun e=>by injection e with e;have:=hb.1.1;omega);exact h2.mono fun b hb _=>hb.1
theorem zbR.keepN{w w':World}{base:Nat}{v:Value}{E:List Fe}(h:zbR w base v E)(hg:w.grownBy w' none):zbR w' base v E:=by
 refine⟨h.own.kept hg ?_,fun x hx=>?_⟩
 ·rcases hv:v.ownBlock with _|k
  ·exact .inl rfl
  ·exact .inr (fun e=>nomatch e)
 ·have h1:=((zar (w:=w) (B':=fun b=>(base≤b∧some b≠v.ownBlock)∧b<w.heap.size) (fun b hb hl=>⟨hb,hl⟩) _).1 _ _ (Nat.le_refl _) (h.ok x hx))
  have h2:=h1.cong (w':=w') fun b hb=>hg.block b hb.2 (fun e=>nomatch e);exact h2.mono fun b hb _=>hb.1
theorem zbR.fat{w:World}{base:Nat}{v:Value}{E:List Fe}(h:zbR w base v E):∃A c,v = .slice A E.length c∧FAt w (fun b=>base≤b) A 0 (ofL (E.map Fe.y))∧E.length≤c∧c≤maxLen:=by
 obtain⟨h1,h2⟩:=h;have h0:=h1;rcases h1.2 with ⟨rfl,e0⟩|⟨g,cap,cur,rfl,hB,hh,hc,hm,hrest⟩
 ·have:E = []:=List.eq_nil_of_length_eq_zero e0;subst this;exact⟨none,0,rfl,trivial,Nat.le_refl _,Nat.zero_le _⟩
 ·refine⟨some ⟨g,0,none⟩,cap,rfl,?_,hc,hm⟩;exact zco (B:=fun b=>base≤b) (a:=⟨g,0,none⟩) hB [] E (by simpa using h0.cells (g:=g) rfl) fun x hx=>(h2 x hx).mono fun b hb _=>hb.1
theorem zbR.snoc{w w':World}{base:Nat}{v v':Value}{E:List Fe}{x:Fe}(h:zbR w base v E)(hx:KAt w (fun b=>base≤b∧some b≠v.ownBlock) x.y.2.2 x.u)(hown:w'.ownsRow base 122 8 v' (E.length+1) (jc E ++ x.eight))(hg:w.grownBy w' v.ownBlock)
 (hb:v'.ownBlock=v.ownBlock∨v'.ownBlock=some w.heap.size):zbR w' base v' (E ++ [x]):=by
 refine⟨?_,fun z hz=>?_⟩
 ·rw [zcZ,List.length_append];exact hown
 ·have hz':KAt w (fun b=>base≤b∧some b≠v.ownBlock) z.y.2.2 z.u:=by
   rcases List.mem_append.1 hz with hz|hz
   ·exact h.ok z hz
   ·simp only [List.mem_cons,List.not_mem_nil,or_false] at hz;subst hz;exact hx
  have h1:=(zar (w:=w) (B':=fun b=>(base≤b∧some b≠v.ownBlock)∧b<w.heap.size) (fun b hb hl=>⟨hb,hl⟩) _).1 _ _ (Nat.le_refl _) hz'
  have h2:=h1.cong (w':=w') fun b hb=>hg.block b hb.2 (fun e=>hb.1.2 (by rw [←e]))
  refine h2.mono fun b hb _=>⟨hb.1.1,?_⟩
  rcases ‹v'.ownBlock=v.ownBlock∨v'.ownBlock=some w.heap.size› with e|e
  ·rw [e];exact hb.1.2
  ·rw [e];intro q;injection q with q;have:=hb.2;omega
theorem zeC{ops:Array Oper}{rest:List Oper}{o:Oper}{a:Act}{w:World}{Q:Exit→Act→World→Prop}(hgd:o.guard=none)(s x:Operand)
 (ho:o.op = .call { callee := .builtin .append,args:=#[s,x],argTypes:=#[66,66] })
 (base:Nat) (v:Value) (E:List Fe) (hs:a.eval s=v) (hrow:zbR w base v E) (z:Fe) (ad:Addr) (m c:Nat) (hx:a.eval x = .slice (some ad) m c) (hm:m=1)
 (hnews:∀j u,z.eight[j]?=some u→w.cell? (ad.add j)=some u) (hz:KAt w (fun b=>base≤b∧some b≠v.ownBlock) z.y.2.2 z.u) (hl:E.length≤1000000) (hbase:base≤w.heap.size)
 (h:∀v' w',zbR w' base v' (E ++ [z])→w.grownBy w' v.ownBlock→wpList Tryz.prog ops Q rest (a.put o.dst v') w'):wpList Tryz.prog ops Q (o :: rest) a w:=by
 subst hm;have hi:=zkS
 cases hq:Tryz.prog.info? 122 with
 | none=>rw [hq] at hi;cases hi
 | some i0 =>
  rw [hq] at hi
  simp only [Option.map_some,Option.some.injEq,Prod.mk.injEq] at hi
  refine wpList_append_own_at w hgd s x _ ho base _ i0 _ 8 104 Tryz.underlying66 hq hi.1 hi.2.1 hi.2.2 (by decide) (by decide) v E.length (jc E) hs hrow.own ad 1 c z.eight hx rfl hnews ?_ (by unfold maxLen;omega) (by omega) hbase ?_
  ·intro u hu
   have:=zbG [z] u (by simpa [jc,Fe.eight,Fe.u] using hu);exact this
  ·intro v' w' h1 h2 _ h4
   exact h v' w' (hrow.snoc hz h1 h2 h4) h2
theorem ja(w:World)(b:Nat)(y0 y1 y2 y3 y4 y5:Value):w.grownBy ((((((w.setCell ⟨b,0,none⟩ y0).setCell ⟨b,1,none⟩ y1).setCell ⟨b,2,none⟩ y2).setCell ⟨b,3,none⟩ y3).setCell ⟨b,4,none⟩ y4).setCell ⟨b,5,none⟩ y5) (some b):=
 zd (zd (zd (zd (zd (zd (zdS w (some b)) (zg _ ⟨b,0,none⟩ _)) (zg _ ⟨b,1,none⟩ _)) (zg _ ⟨b,2,none⟩ _)) (zg _ ⟨b,3,none⟩ _)) (zg _ ⟨b,4,none⟩ _)) (zg _ ⟨b,5,none⟩ _)
theorem jl(w:World)(b:Nat)(y0 y1 y2 y3 y4 y5:Value){g:Nat}(h:g≠b):((((((w.setCell ⟨b,0,none⟩ y0).setCell ⟨b,1,none⟩ y1).setCell ⟨b,2,none⟩ y2).setCell ⟨b,3,none⟩ y3).setCell ⟨b,4,none⟩ y4).setCell ⟨b,5,none⟩ y5).heap[g]?=w.heap[g]?:=by
 iterate 6 rw [Below.heap_setCell _ _ _ g h]
theorem zdJ(s:ByteArray):s=⟨#[]⟩∨s≠emp∧(s.toList == [])=false∧(s.toList != [])=true:=by
 rcases zO s with h|⟨h1,h2,h3⟩
 ·exact .inl h
 ·exact .inr ⟨fun e=>h2 (by rw [e,zdU]),beq_eq_false_iff_ne.2 h2,by rw [bne_iff_ne];exact h2⟩
theorem zl0(R m:Nat)(x:Nd)(r:List Nd)(w:World)(h:RdK w R (x :: r))(hb:jm x.op):
 Calls Tryz.prog 132 #[.pointer (some ⟨R,0,none⟩)] w (zbj w R (zs (m+1) (x :: r))):=by
 have HR:=hi9 h;have HPP:=hi9 (show zs (m+1) (x :: r)=if x.n=0∧x.s=emp∧x.t=emp then some (.base x.op,r) else none by simp only [zs,if_pos hb]);generalize zs (m+1) (x :: r)=PP at *;clear h;go_enter Tryz.func132,Tryz.ntmps132;go_wp2_with fail;have G0:=hi9 (zc (za w (.cells #[.int .i64 0,.int .i64 0,.string ⟨#[]⟩,.string ⟨#[]⟩,.pointer none,.slice none 0 0] 68)) (some R));have X0:=hi9 (zS w (.int .i64 0) (.int .i64 0) (.string ⟨#[]⟩) (.string ⟨#[]⟩) (.pointer none) (.slice none 0 0) 68);have R0:=hi9 (HR.out.keep (za w (.cells #[.int .i64 0,.int .i64 0,.string ⟨#[]⟩,.string ⟨#[]⟩,.pointer none,.slice none 0 0] 68)));have HRL:=hi9 (show R<w.heap.size by obtain⟨⟨_,_,_,h1,_⟩,_⟩:=HR.out;exact block_lt_of_cell h1);have HNE:=hi9 (show some w.heap.size≠some R from fun e=>by injection e with e;have:=HRL.out;omega);obtain⟨w0,hw0⟩:∃w0,w.alloc (.cells #[.int .i64 0,.int .i64 0,.string ⟨#[]⟩,.string ⟨#[]⟩,.pointer none,.slice none 0 0] 68)=w0:=⟨_,rfl⟩
 have HS0:=hi9 (show w.heap.size≤w0.heap.size by rw [←hw0];simp);rw [hw0] at G0 X0 R0 ⊢;clear hw0 HR;refine(zaV R (x :: r) w0 R0.out).mono ?_;rintro e w1 ⟨rfl,r1,g1⟩;have G1:=hi9 (G0.out.trans g1);have X1:=hi9 (X0.out.but g1 HNE.out);have R1:=hi9 r1;have HS1:=hi9 (Nat.le_trans HS0.out g1.size);clear r1 g1 G0 X0 R0 HS0;unfold ndV;have hl:w.heap.size<w1.heap.size:=block_lt_of_cell X1.out.c0;obtain⟨o,ho⟩:∃o,o=x.op:=⟨_,rfl⟩
 rw [←ho] at hb HPP ⊢;clear ho;by_cases hn:x.n=0
 ·rcases zdJ x.s with hs|⟨hs,s1,s2⟩
  ·rcases zdJ x.t with ht|⟨ht,t1,t2⟩
   ·have HP:=hi9 (show PP=some (.base o,r) by rw [HPP.out,if_pos ⟨hn,hs,ht⟩]);rw [hn,hs,ht];clear hn hs ht HPP;rcases hb with rfl|rfl|rfl|rfl|rfl
    ·obtain⟨c0,c1,c2,c3,c4,c5,z0,z1,z2,z3,z4,z5⟩:=X1.out;go_wp2_with fail;have Y:=X1.out.set (.int .i64 41) (.int .i64 0) (.string ⟨#[]⟩) (.string ⟨#[]⟩) (.pointer none) (.slice none 0 0);have gs:=ja w1 w.heap.size (.int .i64 41) (.int .i64 0) (.string ⟨#[]⟩) (.string ⟨#[]⟩) (.pointer none) (.slice none 0 0);have R4:=R1.out.but gs HRL.out;have G4:=jg G1.out gs (Nat.le_refl _);obtain⟨S,hS⟩:∃S,((((((w1.setCell ⟨w.heap.size,0,none⟩ (.int .i64 41)).setCell ⟨w.heap.size,1,none⟩ (.int .i64 0)).setCell ⟨w.heap.size,2,none⟩ (.string ⟨#[]⟩)).setCell ⟨w.heap.size,3,none⟩ (.string ⟨#[]⟩)).setCell ⟨w.heap.size,4,none⟩ (.pointer none)).setCell ⟨w.heap.size,5,none⟩ (.slice none 0 0))=S:=⟨_,rfl⟩
     rw [hS] at Y gs R4 G4 ⊢;clear hS gs;have Y5:=(Y.keep (za _ (.cells #[.int .i64 41,.int .i64 0,.string ⟨#[]⟩,.string ⟨#[]⟩,.pointer none,.slice none 0 0] 68))).keep (za _ (.cells #[.int .i64 41,.int .i64 0,.string ⟨#[]⟩,.string ⟨#[]⟩] 40));obtain⟨j0,j1,j2,j3,j4,j5,-,-,-,-,-,-⟩:=Y5;refine bodyPost_ret (v := .agg #[.int .i64 41,.int .i64 0,.string ⟨#[]⟩,.string ⟨#[]⟩,.pointer none,.slice none 0 0]) (by simp [results,Tryz.results132,go_sem,j0,j1,j2,j3,j4,j5]) rfl ?_;rw [HP.out];exact⟨[.int .i64 41,.int .i64 0,.string ⟨#[]⟩,.string ⟨#[]⟩,.pointer none,.slice none 0 0],rfl,⟨0,rfl⟩,(R4.keep (za _ _)).keep (za _ _),zd (zd G4 (zc (za _ _) _)) (zc (za _ _) _)⟩
    ·obtain⟨c0,c1,c2,c3,c4,c5,z0,z1,z2,z3,z4,z5⟩:=X1.out;go_wp2_with fail;have Y:=X1.out.set (.int .i64 42) (.int .i64 0) (.string ⟨#[]⟩) (.string ⟨#[]⟩) (.pointer none) (.slice none 0 0);have gs:=ja w1 w.heap.size (.int .i64 42) (.int .i64 0) (.string ⟨#[]⟩) (.string ⟨#[]⟩) (.pointer none) (.slice none 0 0);have R4:=R1.out.but gs HRL.out;have G4:=jg G1.out gs (Nat.le_refl _);obtain⟨S,hS⟩:∃S,((((((w1.setCell ⟨w.heap.size,0,none⟩ (.int .i64 42)).setCell ⟨w.heap.size,1,none⟩ (.int .i64 0)).setCell ⟨w.heap.size,2,none⟩ (.string ⟨#[]⟩)).setCell ⟨w.heap.size,3,none⟩ (.string ⟨#[]⟩)).setCell ⟨w.heap.size,4,none⟩ (.pointer none)).setCell ⟨w.heap.size,5,none⟩ (.slice none 0 0))=S:=⟨_,rfl⟩
     rw [hS] at Y gs R4 G4 ⊢;clear hS gs;have Y5:=(Y.keep (za _ (.cells #[.int .i64 42,.int .i64 0,.string ⟨#[]⟩,.string ⟨#[]⟩,.pointer none,.slice none 0 0] 68))).keep (za _ (.cells #[.int .i64 42,.int .i64 0,.string ⟨#[]⟩,.string ⟨#[]⟩] 40));obtain⟨j0,j1,j2,j3,j4,j5,-,-,-,-,-,-⟩:=Y5;refine bodyPost_ret (v := .agg #[.int .i64 42,.int .i64 0,.string ⟨#[]⟩,.string ⟨#[]⟩,.pointer none,.slice none 0 0]) (by simp [results,Tryz.results132,go_sem,j0,j1,j2,j3,j4,j5]) rfl ?_;rw [HP.out];exact⟨[.int .i64 42,.int .i64 0,.string ⟨#[]⟩,.string ⟨#[]⟩,.pointer none,.slice none 0 0],rfl,⟨0,rfl⟩,(R4.keep (za _ _)).keep (za _ _),zd (zd G4 (zc (za _ _) _)) (zc (za _ _) _)⟩
    ·obtain⟨c0,c1,c2,c3,c4,c5,z0,z1,z2,z3,z4,z5⟩:=X1.out;go_wp2_with fail;have Y:=X1.out.set (.int .i64 43) (.int .i64 0) (.string ⟨#[]⟩) (.string ⟨#[]⟩) (.pointer none) (.slice none 0 0);have gs:=ja w1 w.heap.size (.int .i64 43) (.int .i64 0) (.string ⟨#[]⟩) (.string ⟨#[]⟩) (.pointer none) (.slice none 0 0);have R4:=R1.out.but gs HRL.out;have G4:=jg G1.out gs (Nat.le_refl _);obtain⟨S,hS⟩:∃S,((((((w1.setCell ⟨w.heap.size,0,none⟩ (.int .i64 43)).setCell ⟨w.heap.size,1,none⟩ (.int .i64 0)).setCell ⟨w.heap.size,2,none⟩ (.string ⟨#[]⟩)).setCell ⟨w.heap.size,3,none⟩ (.string ⟨#[]⟩)).setCell ⟨w.heap.size,4,none⟩ (.pointer none)).setCell ⟨w.heap.size,5,none⟩ (.slice none 0 0))=S:=⟨_,rfl⟩
     rw [hS] at Y gs R4 G4 ⊢;clear hS gs;have Y5:=(Y.keep (za _ (.cells #[.int .i64 43,.int .i64 0,.string ⟨#[]⟩,.string ⟨#[]⟩,.pointer none,.slice none 0 0] 68))).keep (za _ (.cells #[.int .i64 43,.int .i64 0,.string ⟨#[]⟩,.string ⟨#[]⟩] 40));obtain⟨j0,j1,j2,j3,j4,j5,-,-,-,-,-,-⟩:=Y5;refine bodyPost_ret (v := .agg #[.int .i64 43,.int .i64 0,.string ⟨#[]⟩,.string ⟨#[]⟩,.pointer none,.slice none 0 0]) (by simp [results,Tryz.results132,go_sem,j0,j1,j2,j3,j4,j5]) rfl ?_;rw [HP.out];exact⟨[.int .i64 43,.int .i64 0,.string ⟨#[]⟩,.string ⟨#[]⟩,.pointer none,.slice none 0 0],rfl,⟨0,rfl⟩,(R4.keep (za _ _)).keep (za _ _),zd (zd G4 (zc (za _ _) _)) (zc (za _ _) _)⟩
    ·obtain⟨c0,c1,c2,c3,c4,c5,z0,z1,z2,z3,z4,z5⟩:=X1.out;go_wp2_with fail;have Y:=X1.out.set (.int .i64 48) (.int .i64 0) (.string ⟨#[]⟩) (.string ⟨#[]⟩) (.pointer none) (.slice none 0 0);have gs:=ja w1 w.heap.size (.int .i64 48) (.int .i64 0) (.string ⟨#[]⟩) (.string ⟨#[]⟩) (.pointer none) (.slice none 0 0);have R4:=R1.out.but gs HRL.out;have G4:=jg G1.out gs (Nat.le_refl _);obtain⟨S,hS⟩:∃S,((((((w1.setCell ⟨w.heap.size,0,none⟩ (.int .i64 48)).setCell ⟨w.heap.size,1,none⟩ (.int .i64 0)).setCell ⟨w.heap.size,2,none⟩ (.string ⟨#[]⟩)).setCell ⟨w.heap.size,3,none⟩ (.string ⟨#[]⟩)).setCell ⟨w.heap.size,4,none⟩ (.pointer none)).setCell ⟨w.heap.size,5,none⟩ (.slice none 0 0))=S:=⟨_,rfl⟩
     rw [hS] at Y gs R4 G4 ⊢;clear hS gs;have Y5:=(Y.keep (za _ (.cells #[.int .i64 48,.int .i64 0,.string ⟨#[]⟩,.string ⟨#[]⟩,.pointer none,.slice none 0 0] 68))).keep (za _ (.cells #[.int .i64 48,.int .i64 0,.string ⟨#[]⟩,.string ⟨#[]⟩] 40));obtain⟨j0,j1,j2,j3,j4,j5,-,-,-,-,-,-⟩:=Y5;refine bodyPost_ret (v := .agg #[.int .i64 48,.int .i64 0,.string ⟨#[]⟩,.string ⟨#[]⟩,.pointer none,.slice none 0 0]) (by simp [results,Tryz.results132,go_sem,j0,j1,j2,j3,j4,j5]) rfl ?_;rw [HP.out];exact⟨[.int .i64 48,.int .i64 0,.string ⟨#[]⟩,.string ⟨#[]⟩,.pointer none,.slice none 0 0],rfl,⟨0,rfl⟩,(R4.keep (za _ _)).keep (za _ _),zd (zd G4 (zc (za _ _) _)) (zc (za _ _) _)⟩
    ·obtain⟨c0,c1,c2,c3,c4,c5,z0,z1,z2,z3,z4,z5⟩:=X1.out;go_wp2_with fail;have Y:=X1.out.set (.int .i64 49) (.int .i64 0) (.string ⟨#[]⟩) (.string ⟨#[]⟩) (.pointer none) (.slice none 0 0);have gs:=ja w1 w.heap.size (.int .i64 49) (.int .i64 0) (.string ⟨#[]⟩) (.string ⟨#[]⟩) (.pointer none) (.slice none 0 0);have R4:=R1.out.but gs HRL.out;have G4:=jg G1.out gs (Nat.le_refl _);obtain⟨S,hS⟩:∃S,((((((w1.setCell ⟨w.heap.size,0,none⟩ (.int .i64 49)).setCell ⟨w.heap.size,1,none⟩ (.int .i64 0)).setCell ⟨w.heap.size,2,none⟩ (.string ⟨#[]⟩)).setCell ⟨w.heap.size,3,none⟩ (.string ⟨#[]⟩)).setCell ⟨w.heap.size,4,none⟩ (.pointer none)).setCell ⟨w.heap.size,5,none⟩ (.slice none 0 0))=S:=⟨_,rfl⟩
     rw [hS] at Y gs R4 G4 ⊢;clear hS gs;have Y5:=(Y.keep (za _ (.cells #[.int .i64 49,.int .i64 0,.string ⟨#[]⟩,.string ⟨#[]⟩,.pointer none,.slice none 0 0] 68))).keep (za _ (.cells #[.int .i64 49,.int .i64 0,.string ⟨#[]⟩,.string ⟨#[]⟩] 40));obtain⟨j0,j1,j2,j3,j4,j5,-,-,-,-,-,-⟩:=Y5;refine bodyPost_ret (v := .agg #[.int .i64 49,.int .i64 0,.string ⟨#[]⟩,.string ⟨#[]⟩,.pointer none,.slice none 0 0]) (by simp [results,Tryz.results132,go_sem,j0,j1,j2,j3,j4,j5]) rfl ?_;rw [HP.out];exact⟨[.int .i64 49,.int .i64 0,.string ⟨#[]⟩,.string ⟨#[]⟩,.pointer none,.slice none 0 0],rfl,⟨0,rfl⟩,(R4.keep (za _ _)).keep (za _ _),zd (zd G4 (zc (za _ _) _)) (zc (za _ _) _)⟩
   ·have HP:=hi9 (show PP=none by rw [HPP.out,if_neg (fun h=>ht h.2.2)]);rw [hn,hs];clear hn hs ht HPP;rcases hb with rfl|rfl|rfl|rfl|rfl
    all_goals
     go_wp2_with fail;exact⟨rfl,by rw [HP.out];exact⟨rfl,zd (zd G1.out (zc (za _ _) _)) (zc (za _ _) _)⟩⟩
  ·have HP:=hi9 (show PP=none by rw [HPP.out,if_neg (fun h=>hs h.2.1)]);rw [hn];clear hn hs HPP;rcases hb with rfl|rfl|rfl|rfl|rfl
   all_goals
    go_wp2_with fail;exact⟨rfl,by rw [HP.out];exact⟨rfl,zd (zd G1.out (zc (za _ _) _)) (zc (za _ _) _)⟩⟩
 ·have HP:=hi9 (show PP=none by rw [HPP.out,if_neg (fun h=>hn h.1)]);have e0:(x.n==0)=false:=beq_eq_false_iff_ne.2 hn;have e1:(x.n != 0)=true:=by rw [bne_iff_ne];exact hn
  clear HPP;rcases hb with rfl|rfl|rfl|rfl|rfl
  all_goals
   go_wp2_with fail;exact⟨rfl,by rw [HP.out];exact⟨rfl,zd (zd G1.out (zc (za _ _) _)) (zc (za _ _) _)⟩⟩
theorem znn(R m:Nat)(x:Nd)(r:List Nd)(w:World)(h:RdK w R (x :: r))(hb:x.op=44):
 Calls Tryz.prog 132 #[.pointer (some ⟨R,0,none⟩)] w (zbj w R (zs (m+1) (x :: r))):=by
 have HR:=hi9 h;have HPP:=hi9 (show zs (m+1) (x :: r)=if x.n=0∧zf x.s=0∧x.t=emp then some (.ent x.s,r) else none by simp only [zs,if_neg (zgH (.inl hb)),if_pos hb]);generalize zs (m+1) (x :: r)=PP at *;clear h;go_enter Tryz.func132,Tryz.ntmps132;go_wp2_with fail;have G0:=hi9 (zc (za w (.cells #[.int .i64 0,.int .i64 0,.string ⟨#[]⟩,.string ⟨#[]⟩,.pointer none,.slice none 0 0] 68)) (some R));have X0:=hi9 (zS w (.int .i64 0) (.int .i64 0) (.string ⟨#[]⟩) (.string ⟨#[]⟩) (.pointer none) (.slice none 0 0) 68);have R0:=hi9 (HR.out.keep (za w (.cells #[.int .i64 0,.int .i64 0,.string ⟨#[]⟩,.string ⟨#[]⟩,.pointer none,.slice none 0 0] 68)));have HRL:=hi9 (show R<w.heap.size by obtain⟨⟨_,_,_,h1,_⟩,_⟩:=HR.out;exact block_lt_of_cell h1);have HNE:=hi9 (show some w.heap.size≠some R from fun e=>by injection e with e;have:=HRL.out;omega);obtain⟨w0,hw0⟩:∃w0,w.alloc (.cells #[.int .i64 0,.int .i64 0,.string ⟨#[]⟩,.string ⟨#[]⟩,.pointer none,.slice none 0 0] 68)=w0:=⟨_,rfl⟩
 have HS0:=hi9 (show w.heap.size≤w0.heap.size by rw [←hw0];simp);rw [hw0] at G0 X0 R0 ⊢;clear hw0 HR;refine(zaV R (x :: r) w0 R0.out).mono ?_;rintro e w1 ⟨rfl,r1,g1⟩;have G1:=hi9 (G0.out.trans g1);have X1:=hi9 (X0.out.but g1 HNE.out);have R1:=hi9 r1;have HYO:=hi9 (show zfO x by obtain⟨⟨_,_,_,_,h2,_⟩,_⟩:=R0.out;exact h2.ok x (by simp));have KN:=hi9 (fun w=>jK x.s w HYO.out.s);have HS1:=hi9 (Nat.le_trans HS0.out g1.size);clear r1 g1 G0 X0 R0 HS0;unfold ndV;have hl:w.heap.size<w1.heap.size:=block_lt_of_cell X1.out.c0;rw [hb];clear hb;have B2:=hi9 ((za w1 (.cells #[.int .i64 44,.int .i64 x.n,.string x.s,.string x.t,.pointer none,.slice none 0 0] 68)).trans ((za _ (.cells #[.int .i64 44,.int .i64 0,.string x.s,.string ⟨#[]⟩] 40)).mono (by simp)));have hsz:(w1.alloc (.cells #[.int .i64 44,.int .i64 x.n,.string x.s,.string x.t,.pointer none,.slice none 0 0] 68)).heap.size=w1.heap.size+1:=by simp
 have K2:=(zS w1 (.int .i64 44) (.int .i64 x.n) (.string x.s) (.string x.t) (.pointer none) (.slice none 0 0) 68).keep (za _ (.cells #[.int .i64 44,.int .i64 0,.string x.s,.string ⟨#[]⟩] 40));have N2:=za9 (w1.alloc (.cells #[.int .i64 44,.int .i64 x.n,.string x.s,.string x.t,.pointer none,.slice none 0 0] 68)) (.int .i64 44) (.int .i64 0) (.string x.s) (.string ⟨#[]⟩) 40;rw [hsz] at N2;clear hsz;go_wp2_with fail;obtain⟨w2,hw2⟩:∃w2,(w1.alloc (.cells #[.int .i64 44,.int .i64 x.n,.string x.s,.string x.t,.pointer none,.slice none 0 0] 68)).alloc (.cells #[.int .i64 44,.int .i64 0,.string x.s,.string ⟨#[]⟩] 40)=w2:=⟨_,rfl⟩
 rw [hw2] at B2 K2 N2 ⊢;clear hw2;refine(KN.out w2).mono ?_;rintro e w3 ⟨rfl,b3⟩;have B3:=bh B2 b3;have K3:=hi9 (K2.keep b3);have N3:=hi9 (N2.keep b3);have X3:=hi9 (X1.out.keep B3.out);have R3:=hi9 (R1.out.keep B3.out);have G3:=hi9 (zd G1.out (zc B3.out (some R)));clear b3 B2 K2 N2 X1 R1 G1 B3 KN hl HS1;obtain⟨k0,k1,k2,k3,k4,k5,-,-,-,-,-,-⟩:=K3.out;obtain⟨n0,n1,n2,n3,-,-,-,-⟩:=N3.out;by_cases hf:zf x.s=0
 ·have HF:=hi9 hf;rw [hf,zr];clear hf;by_cases hn:x.n=0
  ·rcases zdJ x.t with ht|⟨ht,t1,t2⟩
   ·have HP:=hi9 (show PP=some (.ent x.s,r) by rw [HPP.out,if_pos ⟨hn,HF.out,ht⟩]);rw [hn,ht] at K3;rw [hn] at k1;rw [ht] at k3;rw [hn,ht];clear hn ht HPP;obtain⟨c0,c1,c2,c3,c4,c5,z0,z1,z2,z3,z4,z5⟩:=X3.out;go_wp2_with fail;have Y:=X3.out.set (.int .i64 44) (.int .i64 0) (.string x.s) (.string ⟨#[]⟩) (.pointer none) (.slice none 0 0);have gs:=ja w3 w.heap.size (.int .i64 44) (.int .i64 0) (.string x.s) (.string ⟨#[]⟩) (.pointer none) (.slice none 0 0);have R4:=R3.out.but gs HRL.out;have G4:=jg G3.out gs (Nat.le_refl _);obtain⟨S,hS⟩:∃S,((((((w3.setCell ⟨w.heap.size,0,none⟩ (.int .i64 44)).setCell ⟨w.heap.size,1,none⟩ (.int .i64 0)).setCell ⟨w.heap.size,2,none⟩ (.string x.s)).setCell ⟨w.heap.size,3,none⟩ (.string ⟨#[]⟩)).setCell ⟨w.heap.size,4,none⟩ (.pointer none)).setCell ⟨w.heap.size,5,none⟩ (.slice none 0 0))=S:=⟨_,rfl⟩
    rw [hS] at Y gs R4 G4 ⊢;clear hS gs;obtain⟨j0,j1,j2,j3,j4,j5,-,-,-,-,-,-⟩:=Y;refine bodyPost_ret (v := .agg #[.int .i64 44,.int .i64 0,.string x.s,.string ⟨#[]⟩,.pointer none,.slice none 0 0]) (by simp [results,Tryz.results132,go_sem,j0,j1,j2,j3,j4,j5]) rfl ?_;rw [HP.out];exact⟨[.int .i64 44,.int .i64 0,.string x.s,.string ⟨#[]⟩,.pointer none,.slice none 0 0],rfl,⟨0,rfl⟩,R4,G4⟩
   ·have HP:=hi9 (show PP=none by rw [HPP.out,if_neg (fun h=>ht h.2.2)]);rw [hn] at k1;rw [hn];clear hn ht HPP;go_wp2_with fail;exact⟨rfl,by rw [HP.out];exact⟨rfl,G3.out⟩⟩
  ·have HP:=hi9 (show PP=none by rw [HPP.out,if_neg (fun h=>hn h.1)]);have e0:(x.n==0)=false:=beq_eq_false_iff_ne.2 hn;have e1:(x.n != 0)=true:=by rw [bne_iff_ne];exact hn
   clear HPP hn;go_wp2_with fail;exact⟨rfl,by rw [HP.out];exact⟨rfl,G3.out⟩⟩
 ·have HP:=hi9 (show PP=none by rw [HPP.out,if_neg (fun h=>hf h.2.1)]);rw [zA hf];generalize zf x.s=ff at *;clear hf HPP;go_wp2_with fail;exact⟨rfl,by rw [HP.out];exact⟨rfl,G3.out⟩⟩
theorem zjL(R m:Nat)(w:World)(h:RdK w R []):
 Calls Tryz.prog 132 #[.pointer (some ⟨R,0,none⟩)] w (zbj w R (zs m [])):=by
 have HPP:=hi9 (show zs m []=none by cases m <;> rfl);have HR:=hi9 (h.keep (za w (.cells #[.int .i64 0,.int .i64 0,.string ⟨#[]⟩,.string ⟨#[]⟩,.pointer none,.slice none 0 0] 68)));have G0:=hi9 (zc (za w (.cells #[.int .i64 0,.int .i64 0,.string ⟨#[]⟩,.string ⟨#[]⟩,.pointer none,.slice none 0 0] 68)) (some R));generalize zs m []=PP at *;clear h;go_enter Tryz.func132,Tryz.ntmps132;go_wp2_with fail;refine(zaV R [] _ HR.out).mono ?_;rintro e w1 ⟨rfl,g1⟩;go_wp2_with fail;exact⟨rfl,by rw [HPP.out];exact⟨rfl,G0.out.trans g1⟩⟩
theorem zl2(R m:Nat)(x:Nd)(r:List Nd)(w:World)(h:RdK w R (x :: r))(hb:¬jm x.op)(h4:x.op≠44)(h5:x.op≠45)(h6:x.op≠46):
 Calls Tryz.prog 132 #[.pointer (some ⟨R,0,none⟩)] w (zbj w R (zs (m+1) (x :: r))):=by
 have HR:=hi9 h;have HPP:=hi9 (show zs (m+1) (x :: r)=none by simp only [zs,if_neg hb,if_neg h4,if_neg h5,if_neg h6]);generalize zs (m+1) (x :: r)=PP at *;clear h;go_enter Tryz.func132,Tryz.ntmps132;go_wp2_with fail;have G0:=hi9 (zc (za w (.cells #[.int .i64 0,.int .i64 0,.string ⟨#[]⟩,.string ⟨#[]⟩,.pointer none,.slice none 0 0] 68)) (some R));have X0:=hi9 (zS w (.int .i64 0) (.int .i64 0) (.string ⟨#[]⟩) (.string ⟨#[]⟩) (.pointer none) (.slice none 0 0) 68);have R0:=hi9 (HR.out.keep (za w (.cells #[.int .i64 0,.int .i64 0,.string ⟨#[]⟩,.string ⟨#[]⟩,.pointer none,.slice none 0 0] 68)));have HRL:=hi9 (show R<w.heap.size by obtain⟨⟨_,_,_,h1,_⟩,_⟩:=HR.out;exact block_lt_of_cell h1);have HNE:=hi9 (show some w.heap.size≠some R from fun e=>by injection e with e;have:=HRL.out;omega);obtain⟨w0,hw0⟩:∃w0,w.alloc (.cells #[.int .i64 0,.int .i64 0,.string ⟨#[]⟩,.string ⟨#[]⟩,.pointer none,.slice none 0 0] 68)=w0:=⟨_,rfl⟩
 have HS0:=hi9 (show w.heap.size≤w0.heap.size by rw [←hw0];simp);rw [hw0] at G0 X0 R0 ⊢;clear hw0 HR;refine(zaV R (x :: r) w0 R0.out).mono ?_;rintro e w1 ⟨rfl,r1,g1⟩;have G1:=hi9 (G0.out.trans g1);have X1:=hi9 (X0.out.but g1 HNE.out);have R1:=hi9 r1;have HS1:=hi9 (Nat.le_trans HS0.out g1.size);clear r1 g1 G0 X0 R0 HS0;unfold ndV;obtain⟨o,ho⟩:∃o,o=x.op:=⟨_,rfl⟩
 rw [←ho] at hb h4 h5 h6 ⊢;clear ho;have e1:(o==41)=false:=beq_eq_false_iff_ne.2 fun e=>hb (.inl e);have e2:(o==42)=false:=beq_eq_false_iff_ne.2 fun e=>hb (.inr (.inl e));have e3:(o==43)=false:=beq_eq_false_iff_ne.2 fun e=>hb (.inr (.inr (.inl e)));have e7:(o==48)=false:=beq_eq_false_iff_ne.2 fun e=>hb (.inr (.inr (.inr (.inl e))));have e8:(o==49)=false:=beq_eq_false_iff_ne.2 fun e=>hb (.inr (.inr (.inr (.inr e))));have e4:(o==44)=false:=beq_eq_false_iff_ne.2 h4;have e5:(o==45)=false:=beq_eq_false_iff_ne.2 h5;have e6:(o==46)=false:=beq_eq_false_iff_ne.2 h6;clear hb h4 h5 h6;go_wp2_with fail;exact⟨rfl,by rw [HPP.out];exact⟨rfl,zd (zd G1.out (zc (za _ _) _)) (zc (za _ _) _)⟩⟩
theorem za3(w:World)(u:List Value)(t:TypeId):zgm (w.alloc (.cells u.toArray t)) ⟨w.heap.size,0,none⟩ u:=fun j x hx=>by
 have:=zM w u.toArray t j (v:=x) (by simpa using hx);unfold Addr.add;split
 ·rename_i h;subst h;exact this
 ·simpa using this
theorem znv(R m:Nat)(ih:zlH R m)(x:Nd)(r:List Nd)(hl:r.length≤m)(w:World)(h:RdK w R (x :: r))(hb:x.op=45):
 Calls Tryz.prog 132 #[.pointer (some ⟨R,0,none⟩)] w (zbj w R (zs (m+1) (x :: r))):=by
 have HR:=hi9 h;have IH:=hi9 (fun w' (h':RdK w' R r)=>ih r w' h' hl);clear ih;have HPP:=hi9 (show zs (m+1) (x :: r)=(match zs m r with|none=>none|some (p,r')=>if x.n=0∧x.s=emp∧x.t=emp then some (.set p,r') else none) by simp only [zs,if_neg (zgH (.inr (.inl hb))),if_neg (show¬x.op=44 by omega),if_pos hb];rfl);generalize zs (m+1) (x :: r)=PP at *;clear h;go_enter Tryz.func132,Tryz.ntmps132;go_wp2_with fail;have G0:=hi9 (zc (za w (.cells #[.int .i64 0,.int .i64 0,.string ⟨#[]⟩,.string ⟨#[]⟩,.pointer none,.slice none 0 0] 68)) (some R));have X0:=hi9 (zS w (.int .i64 0) (.int .i64 0) (.string ⟨#[]⟩) (.string ⟨#[]⟩) (.pointer none) (.slice none 0 0) 68);have R0:=hi9 (HR.out.keep (za w (.cells #[.int .i64 0,.int .i64 0,.string ⟨#[]⟩,.string ⟨#[]⟩,.pointer none,.slice none 0 0] 68)));have HRL:=hi9 (show R<w.heap.size by obtain⟨⟨_,_,_,h1,_⟩,_⟩:=HR.out;exact block_lt_of_cell h1);have HNE:=hi9 (show some w.heap.size≠some R from fun e=>by injection e with e;have:=HRL.out;omega);obtain⟨w0,hw0⟩:∃w0,w.alloc (.cells #[.int .i64 0,.int .i64 0,.string ⟨#[]⟩,.string ⟨#[]⟩,.pointer none,.slice none 0 0] 68)=w0:=⟨_,rfl⟩
 have HS0:=hi9 (show w.heap.size≤w0.heap.size by rw [←hw0];simp);rw [hw0] at G0 X0 R0 ⊢;clear hw0 HR;refine(zaV R (x :: r) w0 R0.out).mono ?_;rintro e w1 ⟨rfl,r1,g1⟩;have G1:=hi9 (G0.out.trans g1);have X1:=hi9 (X0.out.but g1 HNE.out);have R1:=hi9 r1;have HS1:=hi9 (Nat.le_trans HS0.out g1.size);clear r1 g1 G0 X0 R0 HS0;unfold ndV;have hl:w.heap.size<w1.heap.size:=block_lt_of_cell X1.out.c0;rw [hb];clear hb;have B2:=hi9 ((za w1 (.cells #[.int .i64 45,.int .i64 x.n,.string x.s,.string x.t,.pointer none,.slice none 0 0] 68)).trans ((za _ (.cells #[.int .i64 45,.int .i64 0,.string ⟨#[]⟩,.string ⟨#[]⟩] 40)).mono (by simp)));have hsz:(w1.alloc (.cells #[.int .i64 45,.int .i64 x.n,.string x.s,.string x.t,.pointer none,.slice none 0 0] 68)).heap.size=w1.heap.size+1:=by simp
 have K2:=(zS w1 (.int .i64 45) (.int .i64 x.n) (.string x.s) (.string x.t) (.pointer none) (.slice none 0 0) 68).keep (za _ (.cells #[.int .i64 45,.int .i64 0,.string ⟨#[]⟩,.string ⟨#[]⟩] 40));have N2:=za9 (w1.alloc (.cells #[.int .i64 45,.int .i64 x.n,.string x.s,.string x.t,.pointer none,.slice none 0 0] 68)) (.int .i64 45) (.int .i64 0) (.string ⟨#[]⟩) (.string ⟨#[]⟩) 40;rw [hsz] at N2;clear hsz;go_wp2_with fail;obtain⟨w2,hw2⟩:∃w2,(w1.alloc (.cells #[.int .i64 45,.int .i64 x.n,.string x.s,.string x.t,.pointer none,.slice none 0 0] 68)).alloc (.cells #[.int .i64 45,.int .i64 0,.string ⟨#[]⟩,.string ⟨#[]⟩] 40)=w2:=⟨_,rfl⟩
 rw [hw2] at B2 K2 N2 ⊢;clear hw2;have HR1:=hi9 (Nat.lt_of_lt_of_le HRL.out HS1.out);refine(IH.out w2 (R1.out.keep B2.out)).mono ?_;intro e w3 hpost;rcases hp:zs m r with _|⟨q,r'⟩
 ·rw [hp] at hpost;obtain⟨rfl,g3⟩:=hpost;have HP:=hi9 (show PP=none by rw [HPP.out,hp]);clear HPP hp;go_wp2_with fail;exact⟨rfl,by rw [HP.out];exact⟨rfl,zd G1.out (zd (zc B2.out (some R)) g3)⟩⟩
 ·rw [hp] at hpost;obtain⟨v,rfl,hk,hr,g3⟩:=hpost;obtain⟨o,n,s0,t0,pp,A,m0,cc,rfl⟩:=zb5 hk;have K3:=hi9 (K2.but g3 (fun e=>by injection e with e;have:=HR1.out;omega));have N3:=hi9 (N2.but g3 (fun e=>by injection e with e;have:=HR1.out;omega));have X3:=hi9 ((X1.out.keep B2.out).but g3 HNE.out);have G3:=hi9 (zd G1.out (zd (zc B2.out (some R)) g3));have HK:=hi9 (hk.mono (B':=fun b=>w2.heap.size≤b∧b<w3.heap.size) fun b h1 h2=>⟨h1,h2⟩);have HR3:=hi9 hr;have HP:=hi9 (show PP=if x.n=0∧x.s=emp∧x.t=emp then some (.set q,r') else none by rw [HPP.out,hp]);have HS2:=hi9 (show w1.heap.size<w2.heap.size from block_lt_of_cell K2.c0);have HS3:=hi9 (show w2.heap.size≤w3.heap.size from g3.size);have hl3:w1.heap.size<w3.heap.size:=Nat.lt_of_lt_of_le HS2.out HS3.out;have hl4:w1.heap.size+1<w3.heap.size:=block_lt_of_cell N3.out.c0;have hl5:w.heap.size<w3.heap.size:=block_lt_of_cell X3.out.c0;clear hk hr g3 HPP hp K2 N2 X1 R1 G1 IH;obtain⟨k0,k1,k2,k3,k4,k5,y0,y1,y2,y3,y4,y5⟩:=K3.out;obtain⟨n0,n1,n2,n3,-,-,-,-⟩:=N3.out;by_cases hn:x.n=0
  ·rcases zdJ x.s with hs|⟨hs,s1,s2⟩
   ·rcases zdJ x.t with ht|⟨ht,t1,t2⟩
    ·have HQ:=hi9 (show PP=some (.set q,r') by rw [HP.out,if_pos ⟨hn,hs,ht⟩]);rw [hn,hs,ht] at K3;rw [hn] at k1;rw [hs] at k2;rw [ht] at k3;rw [hn,hs,ht];clear hn hs ht HP;obtain⟨c0,c1,c2,c3,c4,c5,z0,z1,z2,z3,z4,z5⟩:=X3.out;go_wp2_with fail;obtain⟨w4,hw4⟩:∃w4,w3.setCell ⟨w1.heap.size,4,none⟩ (.pointer (some ⟨w3.heap.size,0,none⟩))=w4:=⟨_,rfl⟩
     have g4:w3.grownBy w4 (some w1.heap.size):=by rw [←hw4];exact zg w3 ⟨w1.heap.size,4,none⟩ _
     have e4:w4.heap.size=w3.heap.size:=by rw [←hw4];simp [World.setCell]
     rw [hw4];have X4:=X3.out.but g4 (fun e=>by injection e with e;omega);have Y:=X4.set (.int .i64 45) (.int .i64 0) (.string ⟨#[]⟩) (.string ⟨#[]⟩) (.pointer (some ⟨w3.heap.size,0,none⟩)) (.slice none 0 0);have gs:=ja w4 w.heap.size (.int .i64 45) (.int .i64 0) (.string ⟨#[]⟩) (.string ⟨#[]⟩) (.pointer (some ⟨w3.heap.size,0,none⟩)) (.slice none 0 0);have R5:=(HR3.out.but g4 HR1.out).but gs HRL.out;have G5:=jg (jg G3.out g4 HS1.out) gs (Nat.le_refl _);have K5:=HK.out.cong (w':=((((((w4.setCell ⟨w.heap.size,0,none⟩ (.int .i64 45)).setCell ⟨w.heap.size,1,none⟩ (.int .i64 0)).setCell ⟨w.heap.size,2,none⟩ (.string ⟨#[]⟩)).setCell ⟨w.heap.size,3,none⟩ (.string ⟨#[]⟩)).setCell ⟨w.heap.size,4,none⟩ (.pointer (some ⟨w3.heap.size,0,none⟩))).setCell ⟨w.heap.size,5,none⟩ (.slice none 0 0))) fun b hb=>by
      rw [jl w4 w.heap.size (.int .i64 45) (.int .i64 0) (.string ⟨#[]⟩) (.string ⟨#[]⟩) (.pointer (some ⟨w3.heap.size,0,none⟩)) (.slice none 0 0) (by have:=hb.1;have:=HS2.out;omega),←hw4,Below.heap_setCell _ _ _ b (show b≠w1.heap.size by have:=hb.1;have:=HS2.out;omega)]
     have E5:(((((((w4.setCell ⟨w.heap.size,0,none⟩ (.int .i64 45)).setCell ⟨w.heap.size,1,none⟩ (.int .i64 0)).setCell ⟨w.heap.size,2,none⟩ (.string ⟨#[]⟩)).setCell ⟨w.heap.size,3,none⟩ (.string ⟨#[]⟩)).setCell ⟨w.heap.size,4,none⟩ (.pointer (some ⟨w3.heap.size,0,none⟩))).setCell ⟨w.heap.size,5,none⟩ (.slice none 0 0))).heap.size=w3.heap.size:=by simp [World.setCell,←hw4]
     obtain⟨S,hS⟩:∃S,((((((w4.setCell ⟨w.heap.size,0,none⟩ (.int .i64 45)).setCell ⟨w.heap.size,1,none⟩ (.int .i64 0)).setCell ⟨w.heap.size,2,none⟩ (.string ⟨#[]⟩)).setCell ⟨w.heap.size,3,none⟩ (.string ⟨#[]⟩)).setCell ⟨w.heap.size,4,none⟩ (.pointer (some ⟨w3.heap.size,0,none⟩))).setCell ⟨w.heap.size,5,none⟩ (.slice none 0 0))=S:=⟨_,rfl⟩
     rw [hS] at Y gs R5 G5 K5 E5 ⊢;clear hS gs hw4 X4 g4;have Y5:=Y.keep (za S (.cells #[.int .i64 o,.int .i64 n,.string s0,.string t0,.pointer pp,.slice A m0 cc] 68));obtain⟨j0,j1,j2,j3,j4,j5,-,-,-,-,-,-⟩:=Y5;refine bodyPost_ret (v := .agg #[.int .i64 45,.int .i64 0,.string ⟨#[]⟩,.string ⟨#[]⟩,.pointer (some ⟨w3.heap.size,0,none⟩),.slice none 0 0]) (by simp [results,Tryz.results132,go_sem,j0,j1,j2,j3,j4,j5]) rfl ?_;rw [HQ.out];have r0:=za3 S [.int .i64 o,.int .i64 n,.string s0,.string t0,.pointer pp,.slice A m0 cc] 68;rw [E5] at r0;refine⟨[.int .i64 45,.int .i64 0,.string ⟨#[]⟩,.string ⟨#[]⟩,.pointer (some ⟨w3.heap.size,0,none⟩),.slice none 0 0],rfl,⟨0,w3.heap.size,[.int .i64 o,.int .i64 n,.string s0,.string t0,.pointer pp,.slice A m0 cc],rfl,Nat.le_of_lt hl5,r0,?_⟩,R5.keep (za _ _),zd G5 (zc (za _ _) _)⟩;refine(K5.cong fun b hb=>(za S _).block b (by rw [E5];exact hb.2)).mono fun b hb _=>?_;have:=hb.1;have:=HS2.out;have:=HS1.out;omega
    ·have HQ:=hi9 (show PP=none by rw [HP.out,if_neg (fun h=>ht h.2.2)]);rw [hn] at k1;rw [hs] at k2;rw [hn,hs];clear hn hs ht HP;go_wp2_with fail;exact⟨rfl,by rw [HQ.out];exact⟨rfl,zd (jg G3.out (zg w3 ⟨w1.heap.size,4,none⟩ _) HS1.out) (zc (za _ _) _)⟩⟩
   ·have HQ:=hi9 (show PP=none by rw [HP.out,if_neg (fun h=>hs h.2.1)]);rw [hn] at k1;rw [hn];clear hn hs HP;go_wp2_with fail;exact⟨rfl,by rw [HQ.out];exact⟨rfl,zd (jg G3.out (zg w3 ⟨w1.heap.size,4,none⟩ _) HS1.out) (zc (za _ _) _)⟩⟩
  ·have HQ:=hi9 (show PP=none by rw [HP.out,if_neg (fun h=>hn h.1)]);have e0:(x.n==0)=false:=beq_eq_false_iff_ne.2 hn;have e1:(x.n != 0)=true:=by rw [bne_iff_ne];exact hn
   clear hn HP;go_wp2_with fail;exact⟨rfl,by rw [HQ.out];exact⟨rfl,zd (jg G3.out (zg w3 ⟨w1.heap.size,4,none⟩ _) HS1.out) (zc (za _ _) _)⟩⟩
structure zii(w w':World):Prop where
 b:Below w.heap.size w w'
 d:w.drawn≤w'.drawn
theorem zii.grow{w w':World}(h:zii w w'):∃q os,w'=grow (w.drewN q) os:=by
 obtain⟨p,hp⟩:=regrown_of_below h.b;have e:p.d=w'.drawn:=by rw [hp];rfl
 refine⟨w'.drawn-w.drawn,p.os,?_⟩;have e2:redrawn w p.d=w.drewN (w'.drawn-w.drawn):=by
  unfold redrawn World.drewN;rw [e,show w.drawn+(w'.drawn-w.drawn)=w'.drawn by have:=h.d;omega]
 rw [←e2];exact hp
end Go.Proofs.YtlkfaliomdbaoaaGreatDoor
