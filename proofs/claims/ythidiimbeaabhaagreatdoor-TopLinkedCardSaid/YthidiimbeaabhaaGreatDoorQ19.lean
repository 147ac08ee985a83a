/-
  name.Unquote: what was quoted. The library's variable internal/bytealg.MaxLen: ..
-/
import Derived.Test.YthidiimbeaabhaaGreatDoorQ4
import Derived.Test.YthidiimbeaabhaaGreatDoorQ5
import Derived.Test.YthidiimbeaabhaaGreatDoorQ18
set_option maxRecDepth 100000
set_option maxHeartbeats 8000000
namespace Go.Proofs.YthidiimbeaabhaaGreatDoor
open Go.RowKit Go.Wk
end Go.Proofs.YthidiimbeaabhaaGreatDoor
namespace Go.Proofs.YthidiimbeaabhaaGreatDoor
open Go.RowKit
end Go.Proofs.YthidiimbeaabhaaGreatDoor
namespace Go.Proofs.YthidiimbeaabhaaGreatDoor
open Go.RowKit Go.Wk
theorem kN(w:World)(x y:Value)(t:TypeId):(w.alloc (.cells #[x,y] t)).cell? ⟨w.heap.size,0,none⟩=some x/\(w.alloc (.cells #[x,y] t)).cell? ⟨w.heap.size,1,none⟩=some y :=
 ⟨zr (heap_alloc_last w _) rfl,zr (heap_alloc_last w _) rfl⟩
theorem jP(a b:ByteArray)(w:World)(ha:a.size<=maxLen)(hb:b.size<=maxLen):
 Calls Tryz.prog 50 #[.agg #[.string a,.string b]] w λe w'=>e = .returned (.tuple #[.string (pr (a,b)),zM (zq (a,b))])/\Below w.heap.size w w':=by
 have KC:=O (λw=>aj a w ha);have KQ:=O (λw=>vK b w hb);have CC:=O (kN w (.string a) (.string b) 24);have B0:=O (za w (.cells #[.string a,.string b] 24));by_cases h1:zk a=0
 ·have HE:=O (show zq (a,b)=zA b from if_pos h1);rw [h1,zf] at KC;have hna:=FG h1;by_cases h2:zA b=0
  ·have HV:=O (show pr (a,b)=wrt (a,b) from if_pos (dR.2 ⟨h1,h2⟩));have hq:=eR b.data.toList;have htb:=Gp h2;have hqs:(Wk.quoted b).size<=122:=by rw [uf];rw [gh] at hq;omega
   have HS:=O (Gf (a,b));unfold FW at KQ;rw [h2,zf,if_pos rfl] at KQ;rw [HE.o,HV.o,h2,zf];clear h1 h2 hq;go_enter Tryz.func50,Tryz.ntmps50;go_wp2_with fail;obtain⟨w0,hw0⟩:∃w0,w.alloc (.cells #[.string a,.string b] 24)=w0:=⟨_,rfl⟩
   rw [hw0] at CC B0 ⊢;clear hw0;refine(KC.o w0).mono ?_;rintro e w1 ⟨rfl,b1⟩;have B1:=bh B0 b1;have c0:=zb b1 CC.o.1;have c1:=zb b1 CC.o.2;clear KC B0 CC;go_wp2_with fail;refine(KQ.o w1).mono ?_;rintro e w2 ⟨rfl,b2⟩;have B2:=bh B1 b2;have d0:=zb b2 c0;have d1:=zb b2 c1;clear KQ B1 c0 c1 b1 b2;generalize Wk.quoted b=q at *;go_wp2_with fail;go_ret2;exact⟨by rw [<-HS.o];rfl,B2.o⟩
  ·have HV:=O (show pr (a,b)=⟨#[]⟩ from if_neg (λh=>h2 (dR.1 h).2));rw [zl h2] at KQ;rw [HE.o,HV.o,zl h2];clear h1 h2;go_enter Tryz.func50,Tryz.ntmps50;go_wp2_with fail;obtain⟨w0,hw0⟩:∃w0,w.alloc (.cells #[.string a,.string b] 24)=w0:=⟨_,rfl⟩
   rw [hw0] at CC B0 ⊢;clear hw0;refine(KC.o w0).mono ?_;rintro e w1 ⟨rfl,b1⟩;have B1:=bh B0 b1;have c0:=zb b1 CC.o.1;have c1:=zb b1 CC.o.2;clear KC B0 CC;go_wp2_with fail;refine(KQ.o w1).mono ?_;rintro e w2 ⟨rfl,b2⟩;have B2:=bh B1 b2;clear KQ B1 c0 c1 b1 b2;go_wp2_with fail;go_ret2;exact⟨rfl,B2.o⟩
 ·have HE:=O (show zq (a,b)=zk a from if_neg h1);have HV:=O (show pr (a,b)=⟨#[]⟩ from if_neg (λh=>h1 (dR.1 h).1));rw [zl h1] at KC;rw [HE.o,HV.o,zl h1];clear h1;go_enter Tryz.func50,Tryz.ntmps50;go_wp2_with fail;obtain⟨w0,hw0⟩:∃w0,w.alloc (.cells #[.string a,.string b] 24)=w0:=⟨_,rfl⟩
  rw [hw0] at CC B0 ⊢;clear hw0;refine(KC.o w0).mono ?_;rintro e w1 ⟨rfl,b1⟩;have B1:=bh B0 b1;clear KC B0 CC b1;go_wp2_with fail;go_ret2;exact⟨rfl,B1.o⟩
structure Vr2(w:World)(b:Nat)(x y:Value):Prop where
 c0:w.cell? ⟨b,0,none⟩=some x
 c1:w.cell? ⟨b,1,none⟩=some y
 z0:w.frozen? ⟨b,0,none⟩=false
 z1:w.frozen? ⟨b,1,none⟩=false
theorem Vr2.keep{w w':World}{b:Nat}{x y:Value}(h:Vr2 w b x y)(hb:Below w.heap.size w w'):Vr2 w' b x y :=
 have hl:=block_lt_of_cell h.c0
 ⟨zb hb h.c0,zb hb h.c1,by rw [(oa hb).2 b 0 hl];exact h.z0,by rw [(oa hb).2 b 1 hl];exact h.z1⟩
theorem dN(w:World)(x y:Value)(t:TypeId):Vr2 (w.alloc (.cells #[x,y] t)) w.heap.size x y :=
 ⟨(kN w x y t).1,(kN w x y t).2,by simp,by simp⟩
theorem Vr2.set{w:World}{b:Nat}{x y:Value}(h:Vr2 w b x y)(x' y':Value):Vr2 ((w.setCell ⟨b,0,none⟩ x').setCell ⟨b,1,none⟩ y') b x' y':=by
 have h1:(w.setCell ⟨b,0,none⟩ x').cell? ⟨b,1,none⟩=some y:=(World.cell?_setCell_other _ ⟨b,0,none⟩ ⟨b,1,none⟩ _ (by intro e;injection e with _ e;cases e)).trans h.c1;refine⟨(World.cell?_setCell_other _ ⟨b,1,none⟩ ⟨b,0,none⟩ _ (by intro e;injection e with _ e;cases e)).trans (World.cell?_setCell_same _ _ _ h.c0),World.cell?_setCell_same _ _ _ h1,?_,?_⟩
 ·rw [World.frozen?_setCell,World.frozen?_setCell];exact h.z0
 ·rw [World.frozen?_setCell,World.frozen?_setCell];exact h.z1
end Go.Proofs.YthidiimbeaabhaaGreatDoor
namespace Go.Proofs.YthidiimbeaabhaaGreatDoor
open Go.RowKit Go.Wk Go.Sort
structure Sl where
 A:Option Addr
 n:Nat
 c:Nat
 P:List Nd
def Sl.v(r:Sl):Value := .slice r.A r.n r.c
def jD(w:World)(A:Option Addr)(V:List Sl):Prop :=
 ∀(k:Nat) (r:Sl),V[k]?=some r->∃a,A=some a/\w.cell? (a.add k)=some (.slice r.A r.n r.c)/\Ns w r.A r.n r.c r.P
theorem jD.keep{w w':World}{A:Option Addr}{V:List Sl}(h:jD w A V)(hb:Below w.heap.size w w'):jD w' A V :=
 λk r hk=>let ⟨a,h1,h2,h3⟩:=h k r hk;⟨a,h1,zb hb h2,h3.keep hb⟩
theorem jD.at{w:World}{A:Option Addr}{V:List Sl}(h:jD w A V){k:Nat}(hk:k<V.length):∃a,A=some a/\w.cell? (a.add k)=some (.slice V[k].A V[k].n V[k].c)/\Ns w V[k].A V[k].n V[k].c V[k].P :=
 h k V[k] (List.getElem?_eq_getElem hk)
theorem Ns.but{w w':World}{A:Option Addr}{n c:Nat}{P:List Nd}{R:Nat}(h:Ns w A n c P)(hg:w.grownBy w' (some R))(hR:0<P.length->∀a,A=some a->a.block≠R):Ns w' A n c P:=by
 refine⟨h.len,h.cap,h.max,?_,h.ok⟩;rcases Nat.eq_zero_or_pos P.length with h0|h0
 ·intro k x hx;have:P = []:=List.eq_nil_of_length_eq_zero h0;subst this;simp at hx
 ·exact h.at_.but hg (hR h0)
def bE(r:Sl)(g:Option Nat):Prop:=0<r.P.length->∀a,r.A=some a->g≠some a.block
theorem Ns.row{w w':World}{r:Sl}{g:Option Nat}(h:Ns w r.A r.n r.c r.P)(hg:w.grownBy w' g)(ha:bE r g):Ns w' r.A r.n r.c r.P:=by
 rcases g with _|g
 ·exact h.keep (ff hg)
 ·exact h.but hg (λh0 a e q=>ha h0 a e (by rw [q]))
structure zK(w:World)(B:Nat)(v:Value)(V:List Sl):Prop where
 own:w.ownsRow B 30 1 v V.length (V.map Sl.v)
 each:∀r∈V,Ns w r.A r.n r.c r.P
 apart:∀r∈V,bE r v.ownBlock
theorem zK.nil(w:World)(B:Nat):zK w B (.slice none 0 0) []:=⟨World.ownsRow_nil w B _ 1,(by intro r hr;cases hr),(by intro r hr;cases hr)⟩
theorem zK.keep{w w':World}{B:Nat}{v:Value}{V:List Sl}(h:zK w B v V)(hb:Below w.heap.size w w'):zK w' B v V :=
 ⟨h.own.kept (zj hb none) (by cases hv:v.ownBlock <;> simp),λr hr=>(h.each r hr).keep hb,h.apart⟩
theorem zK.row{w w':World}{B:Nat}{v:Value}{V:List Sl}{g:Option Nat}(h:zK w B v V)(hg:w.grownBy w' g)(hne:v.ownBlock=none\/v.ownBlock≠g)(ha:∀r∈V,bE r g):zK w' B v V :=
 ⟨h.own.kept hg hne,λr hr=>(h.each r hr).row hg (ha r hr),h.apart⟩
theorem zK.snoc{w w':World}{B:Nat}{v v':Value}{V:List Sl}{r:Sl}{o:Obj}(h:zK w B v V)(hr:Ns w r.A r.n r.c r.P)(ha:bE r v.ownBlock)
 (hown:w'.ownsRow B 30 1 v' (V.length+1) (V.map Sl.v ++ [r.v])) (hg:(w.alloc o).grownBy w' v.ownBlock) (hat:v'.ownBlock=v.ownBlock\/v'.ownBlock=some (w.alloc o).heap.size):zK w' B v' (V ++ [r]):=by
 have hba:Below w.heap.size w (w.alloc o):=za w o;have hlt:∀x∈V ++ [r],Ns w x.A x.n x.c x.P/\bE x v.ownBlock:=by
  intro x hx;rcases List.mem_append.1 hx with h1|h1
  ·exact⟨h.each x h1,h.apart x h1⟩
  ·simp only [List.mem_cons,List.not_mem_nil,or_false] at h1;subst h1;exact⟨hr,ha⟩
 refine⟨?_,λx hx=>((hlt x hx).1.keep hba).row hg (hlt x hx).2,λx hx h0 a e=>?_⟩
 ·simpa using hown
 ·rcases hat with e'|e'
  ·rw [e'];exact(hlt x hx).2 h0 a e
  ·rw [e'];have:=(hlt x hx).1.at_.lt h0 a e;intro q;injection q with q;simp at q;omega
theorem zK.at{w:World}{B:Nat}{v:Value}{V:List Sl}(h:zK w B v V):∃A c,v = .slice A V.length c/\V.length<=c/\jD w A V:=by
 rcases h.own.2 with ⟨rfl,h0⟩|⟨g,cap,cur,rfl,_,_,hc,_⟩
 ·have:V = []:=List.eq_nil_of_length_eq_zero h0;subst this;exact⟨none,0,rfl,Nat.le_refl _,λk r hk=>by simp at hk⟩
 ·refine⟨some ⟨g,0,none⟩,cap,rfl,hc,λk r hk=>⟨_,rfl,?_,h.each r (List.mem_of_getElem? hk)⟩⟩;exact h.own.cells (g:=g) rfl k _ (by rw [List.getElem?_map,hk];rfl)
theorem kE:(Tryz.prog.info? 30).map (λi=>(i.zero,i.size,i.bytes))=some (some (.slice none 0 0),1,24):=by kernel_rfl
theorem jk.cells{w:World}{a:Addr}{P:List Nd}(h:jk w (some a) P):∀j u,(zH P)[j]?=some u->w.cell? (a.add j)=some u:=by
 intro j u hu;have hl:=az P;have hj:j<(zH P).length:=(List.getElem?_eq_some_iff.1 hu).1;have hk:j / 4<P.length:=by omega
 obtain⟨h1,h2,h3,h4⟩:=mB P (j / 4) P[j / 4] (List.getElem?_eq_getElem hk);obtain⟨b,e,q1,q2,q3,q4⟩:=h (j / 4) P[j / 4] (List.getElem?_eq_getElem hk);injection e with e;subst e;have hr:j % 4=0\/j % 4=1\/j % 4=2\/j % 4=3:=by omega
 have nx:∀(x d:Nat),0<d->(⟨(a.add x).block,(a.add x).off+d,none⟩:Addr)=a.add (x+d):=by
  intro x d hd;unfold Addr.add;by_cases hx:x=0
  ·subst hx;simp;omega
  ·simp [hx,Nat.add_assoc]
 rcases hr with hr|hr|hr|hr
 ·have e:j=j / 4*4:=by omega
  rw [<-e] at h1 q1;rw [hu] at h1;rw [h1];exact q1
 ·have e:j=j / 4*4+1:=by omega
  rw [nx _ _ (by omega),<-e] at q2;rw [<-e] at h2;rw [hu] at h2;rw [h2];exact q2
 ·have e:j=j / 4*4+2:=by omega
  rw [nx _ _ (by omega),<-e] at q3;rw [<-e] at h3;rw [hu] at h3;rw [h3];exact q3
 ·have e:j=j / 4*4+3:=by omega
  rw [nx _ _ (by omega),<-e] at q4;rw [<-e] at h4;rw [hu] at h4;rw [h4];exact q4
theorem bR(P:List Nd):∀u∈zH P,u.oneCell'=true:=by
 induction P with
 | nil=>intro u hu;cases hu
 | cons x P ih =>
  intro u hu
  simp only [zH,List.mem_cons] at hu
  rcases hu with rfl|rfl|rfl|rfl|hu
  ·rfl
  ·rfl
  ·rfl
  ·rfl
  ·exact ih u hu
theorem kC:(Tryz.prog.info? 47).map (λi=>(i.zero,i.size,i.bytes))=some (some (.agg #[.int .i64 0,.int .i64 0,.string ⟨#[]⟩,.string ⟨#[]⟩]),4,48):=by kernel_rfl
theorem a6{w:World}{B:Nat}{v:Value}{P:List Nd}(h:w.ownsRow B 47 4 v P.length (zH P)):∃A c,v = .slice A P.length c/\P.length<=c/\jk w A P/\(∀a,A=some a->B<=a.block):=by
 rcases h.2 with ⟨rfl,h0⟩|⟨g,cap,cur,rfl,hB,_,hc,_⟩
 ·have:P = []:=List.eq_nil_of_length_eq_zero h0;subst this;exact⟨none,0,rfl,Nat.le_refl _,λk x hx=>by simp at hx,λa e=>by cases e⟩
 ·exact⟨some ⟨g,0,none⟩,cap,rfl,hc,i9 (h.cells (g:=g) rfl),λa e=>by injection e with e;subst e;exact hB⟩
def xx(w:World)(P:List Nd)(e:Ending)(w':World):Prop:=∃(A:Option Addr) (c:Nat),e = .returned (.slice A P.length c)/\Ns w' A P.length c P/\(∀a,A=some a->w.heap.size<=a.block)/\Below w.heap.size w w'
theorem fO(a:Addr)(n c:Nat)(P:List Nd)(w:World)(h:Ns w (some a) n c P)(hl:P.length<=100000):
 Calls Tryz.prog 22 #[.slice (some a) n c] w (xx w P):=by
 obtain⟨i0,hi,hz0,hz1,hz2⟩:=info_parts kC;have hn:=h.len;have HC:=O (λw' hb=>(h.at_.keep (w':=w') hb).cells);have HO:=O h.ok;have HL:=O hl;clear h hl;subst hn;have hnil:=λw:World=>Lib.run_eql_slice_nil (P:=Tryz.prog) w 30 47 (some a) P.length c 0 0 Tryz.underlying30;simp only [Option.isNone_some] at hnil;go_enter Tryz.func22,Tryz.ntmps22;have hB:∀W:World,(W.alloc (.cells #[] 47)).ownsRow W.heap.size 47 4 (.slice (some ⟨W.heap.size,0,none⟩) 0 0) 0 []:=λW =>
  ⟨rfl,.inr ⟨_,0,#[],rfl,Nat.le_refl _,heap_alloc_new W _,Nat.le_refl _,by unfold maxLen;omega,rfl,rfl⟩⟩
 go_wp2_with (at_builtin;refine wpList_append_own _ rfl _ _ 30 rfl w.heap.size 47 i0 _ 4 48 Tryz.underlying30 hi hz0 hz1 hz2 rfl (by decide) _ 0 [] rfl (hB w) a P.length c (zH P) rfl (az P) (HC.o _ (za _ _)) (bR P) ?c1 ?c2 ?c3 ?_)
 case c1=>have:=HL.o;unfold maxLen;omega
 case c2=>have:=HL.o;omega
 case c3=>simp
 intro v1 w1 hown hgrow _;have HW:=O hown;have HG:=O hgrow;clear hown hgrow hnil;go_wp2_with fail;go_ret;obtain⟨A,c',rfl,h1,h2,h3⟩:=a6 HW.o;refine⟨A,c',rfl,⟨rfl,h1,by have:=HL.o;unfold maxLen;omega,h2,HO.o⟩,h3,?_⟩;exact(za w _).grown HG.o (by simp) (λk hk=>by simp [Value.ownBlock] at hk;omega)
def pD(w:World)(L:List (List Nd))(N:List ByteArray)(e:Ending)(w':World):Prop :=
 ∃(v v':Value) (V:List Sl),e = .returned (.tuple #[v,v'])/\zK w' w.heap.size v V/\V.map Sl.P=L/\w'.ownsRow w.heap.size 9 1 v' N.length (N.map Value.string)/\(∀r∈V,∀a,r.A=some a->w.heap.size<a.block)/\Below w.heap.size w w'
theorem tX{w:World}{B B' n:Nat}{e:TypeId}{size:Nat}{v:Value}{xs:List Value}(h:w.ownsRow B e size v n xs)(hB:B'<=B):w.ownsRow B' e size v n xs:=by
 refine⟨h.1,?_⟩;rcases h.2 with h2|⟨g,cap,cur,hv,hg,r⟩
 ·exact .inl h2
 ·exact .inr ⟨g,cap,cur,hv,Nat.le_trans hB hg,r⟩
theorem zK.mono{w:World}{B B':Nat}{v:Value}{V:List Sl}(h:zK w B v V)(hB:B'<=B):zK w B' v V:=⟨tX h.own hB,h.each,h.apart⟩
theorem bZ.row{w w':World}{R p:Nat}{v:Value}{g:Option Nat}(h:bZ w R v p)(hg:w.grownBy w' g)(hne:some R≠g):bZ w' R v p :=
 ⟨hg.cell h.c0 hne,hg.cell h.c1 hne,(World.frozen?_of_block (w:=w) (hg.block R h.lt hne)).trans h.f1⟩
def k9(R:Nat)(V:List Sl):Prop:=∀r∈V,∀a,r.A=some a->R<a.block
theorem k9.apart{R:Nat}{V:List Sl}(h:k9 R V):∀r∈V,bE r (some R):=λr hr _ a e q=>by
 have:=h r hr a e;injection q with q;omega
theorem k9.snoc{R:Nat}{V:List Sl}{r:Sl}(h:k9 R V)(hr:∀a,r.A=some a->R<a.block):k9 R (V ++ [r]):=by
 intro x hx;rcases List.mem_append.1 hx with h1|h1
 ·exact h x h1
 ·simp only [List.mem_cons,List.not_mem_nil,or_false] at h1;subst h1;exact hr
theorem ib{w:World}{B n:Nat}{e:TypeId}{size:Nat}{v:Value}{xs:List Value}(h:w.ownsRow B e size v n xs){R:Nat}(hR:R<B):v.ownBlock=none\/v.ownBlock≠some R:=by
 rcases hv:v.ownBlock with _|g
 ·exact .inl rfl
 ·have:=jb h g hv;exact .inr (λq=>by injection q with q;omega)
theorem qV{w:World}{B n:Nat}{e:TypeId}{size:Nat}{v:Value}{xs:List Value}(h:w.ownsRow B e size v n xs){R:Nat}(hR:R<B):some R≠v.ownBlock:=by
 rcases ib h hR with h|h
 ·rw [h];simp
 ·exact λq=>h q.symm
theorem D'{w:World}{a:Addr}{n c:Nat}{P:List Nd}(h:Ns w (some a) n c P){i j:Nat}(h1:i<=j)(h2:j<=n):Ns w (some (a.add (i*4))) (j-i) (c-i) (seg P i j):=by
 have:=h.len;have:=h.cap;have:=h.max;exact⟨(jv (by omega)).symm,by omega,by omega,h.at_.seg i j,h.ok.seg i j⟩
theorem ul{v:List Nd}{f:Nat->Option Nat}{N k:Nat}{q n:Nat}(hk:k<N)(h:∃lo,zR v f (N-k) lo q=some n):
 ∃e,f q=some e/\(∃lo,zR v f (N-(k+1)) lo e=some n)/\aL v f (N-k) q=seg v q e :: aL v f (N-(k+1)) e:=by
 obtain⟨lo,h⟩:=h;obtain⟨j,hj⟩:∃j,N-k=j+1:=⟨N-k-1,by omega⟩
 rw [hj] at h;rw [hj,show N-(k+1)=j by omega];simp only [zR] at h;rcases hf:f q with _|e
 ·rw [hf] at h;cases h
 ·rw [hf] at h;simp only at h;split at h
  ·exact⟨e,rfl,⟨_,h⟩,by simp only [aL,hf]⟩
  ·cases h
theorem yj(A:Option Addr)(n c:Nat)(P:List Nd)(w:World)(h:Ns w A n c P)(hv:zc P=0)(h5:zg P=5):
 Calls Tryz.prog 121 #[.slice A n c] w (pD w (zy P) []):=by
 obtain⟨i0,hi,hz0,hz1,hz2⟩:=info_parts kE;obtain⟨cR,hV⟩:=zL.1 hv;have cd:=hV.pos;obtain⟨a,rfl,D⟩:=h.at_.nd cd;have hn:=h.len;obtain⟨hs0,_,hop,hx0,hN⟩:=Do hV h5;have hE:zy P=aL P (zm P (P.length+1)) P[0].n.toNat 1:=by unfold zy;rw [hN]
 rw [hN] at hs0;obtain⟨-,-,-,LG⟩:=h.ok.at cd;have K:=O (λq w' (hb:Below w.heap.size w w') rd hq=>i7 (some a) P n c w.heap.size hn h.cap h.max h.ok (λh0 a' e=>by have:=h.at_.lt h0 a' e;omega) (P.length+1) q w' rd (h.at_.keep hb) (by omega:n-q<P.length+1));have HN:=O h;have HL:=O hn;have H0:=O hs0;have HE:=O hE;rw [show a.add (0*4)=a from rfl] at D;obtain⟨d0,d1,d2,d3⟩:=D;have r0:bZ (w.alloc (.cells #[.slice (some a) n c,.int .i64 1] 152)) w.heap.size (.slice (some a) n c) 1:=⟨by simp,by simp,by simp⟩
 rw [hop] at d0;have d1':=λo:Obj=>zb (za w o) d1;generalize P[0]=x at *;have hn200:n<=200:=by omega
 have hn1:0<n:=by omega
 clear h hv h5 hV hn hs0 hE hN cR hop;go_enter Tryz.func121,Tryz.ntmps121;go_wp2_with fail;clear d1';go_loopw [2,3,12] (λv v' i wr=>∃(k q:Nat) (V:List Sl),i = .int .i64 k/\v' = .slice none 0 0/\(k:Int)<=x.n/\q<=n/\k+1<=q/\V.length=k/\Hid (zy P=V.map Sl.P ++ aL P (zm P (P.length+1)) (x.n.toNat-k) q)/\
  Hid (∃lo,zR P (zm P (P.length+1)) (x.n.toNat-k) lo q=some P.length)/\Hid (zK wr (w.heap.size+1) v V)/\Hid (k9 w.heap.size V)/\Hid (bZ wr w.heap.size (.slice (some a) n c) q)/\Hid (Below w.heap.size w wr)) (λ_ _ i _=>(x.n-intOf i).toNat)
 case atStart=>exact⟨0,1,[],rfl,rfl,hx0,hn1,by omega,rfl,HE.o,⟨none,H0.o⟩,zK.nil _ _,(by intro r hr;cases hr),r0,za _ _⟩
 case round =>
  obtain⟨k,q,V,rfl,rfl,hk,hq,hkq,rS,hE,hS,hO,Ew,oe,hB⟩:=hrel;have e0:=zb hB.o d0;by_cases hlt:(k:Int)<x.n
  ·obtain⟨e,hf,JM,hsp⟩:=ul (by omega) hS.o;have hle:=jH _ _ _ hf;rw [<-HL.o] at hle;have C:=O (K.o q wr hB.o oe.o (by rw [<-HL.o];omega));rw [hf] at C;have aE:=O (hE.o.trans (by rw [hsp]:_=V.map Sl.P ++(seg P q e :: aL P (zm P (P.length+1)) (x.n.toNat-(k+1)) e)));have JE:=O JM;clear hE hS JM hsp hf;go_wp2_with fail;refine C.o.mono ?_;rintro e' w2 jS;obtain⟨rfl,r2,g2⟩:=jS;have B2:=O (hB.o.trans (aw g2 (Nat.le_refl _) hB.o.size));have O2:=hO.o.row g2 (ib hO.o.own (by omega)) Ew.o.apart;have CL:=O (fO (a.add (q*4)) (e-q) (c-q) (seg P q e) w2 (D' (HN.o.keep B2.o) (by omega) hle.2) (by rw [jv (by rw [<-HL.o];omega)];omega));have R2:=O r2;have Mr:=O O2;have wP:=B2.o.size;have hsz3:w.heap.size<w2.heap.size:=R2.o.lt;clear O2 r2 g2 hO hB oe;go_wp2_with fail;refine CL.o.mono ?_;rintro e' w3 jS;obtain⟨A3,c3,rfl,n3,l3,b3⟩:=jS;have B3:=bh B2 b3;have Kc:=Mr.o.keep b3;have hR3:=R2.o.keep b3;have O3:=O Kc;have R3:=O hR3;have N3:=O (show Ns w3 (⟨A3,(seg P q e).length,c3,seg P q e⟩:Sl).A _ _ _ from n3);have L3:=O (Ew.o.snoc (r:=⟨A3,(seg P q e).length,c3,seg P q e⟩) (λa' h'=>by have:=l3 a' h';omega));have A3p:Hid (bE ⟨A3,(seg P q e).length,c3,seg P q e⟩ u2.ownBlock):=by
    intro h0 a' e' q';have h1:=cT Mr.o.own a'.block q';have h2:=l3 a' e';omega
   have hsz4:=B3.o.size;have hsz5:=b3.size;clear b3 n3 l3 Kc hR3 Mr R2 B2 Ew;go_wp2_with (at_builtin;refine wpList_append_own_at _ rfl _ _ 54 rfl (w.heap.size+1) 30 i0 _ 1 24 Tryz.underlying54 hi hz0 hz1 hz2 rfl (by decide) _ V.length (V.map Sl.v) rfl (O3.o.own.alloc _) ⟨_,0,none⟩ 1 1 [.slice A3 (seg P q e).length c3] rfl rfl (cell_one_new _ _ _) (by intro u hu;simp only [List.mem_cons,List.not_mem_nil,or_false] at hu;subst hu;rfl) ?c1 ?c2 ?c3 ?_)
   case c1=>unfold maxLen;omega
   case c2=>omega
   case c3=>simp;omega
   intro v1 w4 hown hgrow _ hat;have B4:=O ((B3.o.alloc B3.o.size _).grown hgrow (by simp;omega) (λg hg=>by have:=jb O3.o.own g hg;omega));have R4:=O ((R3.o.keep (za w3 _)).row hgrow (qV O3.o.own (by omega)));have O4:=O (O3.o.snoc (r:=⟨A3,(seg P q e).length,c3,seg P q e⟩) N3.o A3p.o (by rw [rS];exact hown) hgrow (by simpa using hat));have Gz:=O (aE.o.trans (show _=(V ++ [(⟨A3,(seg P q e).length,c3,seg P q e⟩:Sl)]).map Sl.P ++ aL P (zm P (P.length+1)) (x.n.toNat-(k+1)) e by simp));have hl4:(V ++ [(⟨A3,(seg P q e).length,c3,seg P q e⟩:Sl)]).length=k+1:=by simp [rS]
   clear hown hgrow hat O3 R3 N3 A3p aE B3;go_wp2_with fail;go_roundw
   case rel=>exact⟨k+1,e,_,by go_num,rfl,by omega,by omega,by omega,hl4,Gz,JE,O4,L3,R4,B4⟩
   case measure=>simp [intOf];omega
  ·have HG:=O (hE.o.trans (show _=V.map Sl.P by rw [show x.n.toNat-k=0 by omega];simp [aL]));clear hE hS oe;go_wp2_with fail;go_ret2;exact⟨_,_,V,rfl,hO.o.mono (by omega),HG.o.symm,World.ownsRow_nil _ _ _ 1,Ew.o,hB.o⟩
end Go.Proofs.YthidiimbeaabhaaGreatDoor
namespace Go.Wk
theorem ue{v:List Nd}{f:Nat->Option Nat}{N k:Nat}{q n:Nat}(hk:k<N)(h:∃lo,zS v f (N-k) lo q=some n):
 ∃(hq:q<v.length) (e:Nat),f (q+1)=some e/\(∃lo,zS v f (N-(k+1)) lo e=some n)/\aG v f (N-k) q=(v[q].s,seg v (q+1) e):: aG v f (N-(k+1)) e:=by
 obtain⟨lo,h⟩:=h;obtain⟨j,hj⟩:∃j,N-k=j+1:=⟨N-k-1,by omega⟩
 rw [hj] at h;rw [hj,show N-(k+1)=j by omega];simp only [zS] at h;by_cases hq:q<v.length
 ·refine⟨hq,?_⟩;split at h
  ·cases h
  ·rename_i s hs;rcases hf:f (q+1) with _|e
   ·rw [hf] at h;cases h
   ·rw [hf] at h;exact⟨e,rfl,⟨_,h⟩,by simp only [aG,hf];unfold y8;rw [List.getElem?_eq_getElem hq]⟩
 ·rw [lC (by omega)] at h;cases h
end Go.Wk
namespace Go.Proofs.YthidiimbeaabhaaGreatDoor
open Go.RowKit Go.Wk Go.Sort
structure jz(w:World)(B:Nat)(v v':Value)(V:List Sl)(N:List ByteArray):Prop where
 a:zK w B v V
 b:w.ownsRow B 9 1 v' N.length (N.map Value.string)
 ab:v.ownBlock=none\/v.ownBlock≠v'.ownBlock
 ap:∀r∈V,bE r v'.ownBlock
theorem jz.keep{w w':World}{B:Nat}{v v':Value}{V:List Sl}{N:List ByteArray}(h:jz w B v v' V N)(hb:Below w.heap.size w w'):jz w' B v v' V N :=
 ⟨h.a.keep hb,cr h.b hb,h.ab,h.ap⟩
theorem jz.other{w w':World}{B R:Nat}{v v':Value}{V:List Sl}{N:List ByteArray}(h:jz w B v v' V N)(hg:w.grownBy w' (some R))(hR:R<B)(hL:k9 R V):jz w' B v v' V N :=
 ⟨h.a.row hg (ib h.a.own hR) hL.apart,h.b.kept hg (ib h.b hR),h.ab,h.ap⟩
theorem iL:(Tryz.prog.info? 9).map (λi=>(i.zero,i.size,i.bytes))=some (some (.string ⟨#[]⟩),1,16):=by kernel_rfl
theorem jz.name{w w':World}{B:Nat}{v v' v1:Value}{V:List Sl}{N:List ByteArray}{s:ByteArray}{o:Obj}(h:jz w B v v' V N)
 (hown:w'.ownsRow B 9 1 v1 (N.length+1) (N.map Value.string ++ [.string s])) (hg:(w.alloc o).grownBy w' v'.ownBlock) (hat:v1.ownBlock=v'.ownBlock\/v1.ownBlock=some (w.alloc o).heap.size):jz w' B v v1 V (N ++ [s]):=by
 have hba:Below w.heap.size w (w.alloc o):=za w o;refine⟨(h.a.keep hba).row hg h.ab h.ap,by simpa using hown,?_,λr hr h0 a e=>?_⟩
 ·rcases hv:v.ownBlock with _|g
  ·exact .inl rfl
  ·have hlt:=cT h.a.own g hv;refine .inr ?_;rcases hat with q|q
   ·rw [q,<-hv];rcases h.ab with z|z
    ·rw [hv] at z;cases z
    ·exact z
   ·rw [q];intro z;injection z with z;simp at z;omega
 ·rcases hat with q|q
  ·rw [q];exact h.ap r hr h0 a e
  ·rw [q];have:=(h.a.each r hr).at_.lt h0 a e;intro z;injection z with z;simp at z;omega
theorem jz.part{w w':World}{B:Nat}{v v' v1:Value}{V:List Sl}{N:List ByteArray}{r:Sl}{o:Obj}(h:jz w B v v' V N)(hr:Ns w r.A r.n r.c r.P)(ha:bE r v.ownBlock)(ha':bE r v'.ownBlock)
 (hown:w'.ownsRow B 30 1 v1 (V.length+1) (V.map Sl.v ++ [r.v])) (hg:(w.alloc o).grownBy w' v.ownBlock) (hat:v1.ownBlock=v.ownBlock\/v1.ownBlock=some (w.alloc o).heap.size):jz w' B v1 v' (V ++ [r]) N:=by
 have hba:Below w.heap.size w (w.alloc o):=za w o;refine⟨h.a.snoc hr ha hown hg hat,(cr h.b hba).kept hg ?_,?_,?_⟩
 ·rcases h.ab with z|z
  ·rw [z];cases v'.ownBlock <;> simp
  ·exact .inr (λq=>z q.symm)
 ·rcases hv:v1.ownBlock with _|g
  ·exact .inl rfl
  ·refine .inr ?_;rcases hat with q|q
   ·rcases h.ab with z|z
    ·rw [hv,z] at q;cases q
    ·rw [<-hv,q];exact z
   ·intro z;have:=cT h.b g z.symm;rw [hv] at q;injection q with q;simp at q;omega
 ·intro x hx;rcases List.mem_append.1 hx with h1|h1
  ·exact h.ap x h1
  ·simp only [List.mem_cons,List.not_mem_nil,or_false] at h1;subst h1;exact ha'
theorem pF(A:Option Addr)(n c:Nat)(P:List Nd)(w:World)(h:Ns w A n c P)(hv:zc P=0)(h6:zg P=6):
 Calls Tryz.prog 121 #[.slice A n c] w (pD w ((zX P).map (·.2)) ((zX P).map (·.1))):=by
 obtain⟨i0,hi,hz0,hz1,hz2⟩:=info_parts kE;obtain⟨j0,hj,jz0,jz1,jz2⟩:=info_parts iL;obtain⟨cR,hV⟩:=zL.1 hv;have cd:=hV.pos;obtain⟨a,rfl,D⟩:=h.at_.nd cd;have hn:=h.len;obtain⟨hs0,_,hop,hx0,hN⟩:=Bb hV h6;have hE:zX P=aG P (zm P (P.length+1)) P[0].n.toNat 1:=by unfold zX;rw [hN]
 rw [hN] at hs0;obtain⟨-,-,-,LG⟩:=h.ok.at cd;have K:=O (λq w' (hb:Below w.heap.size w w') rd hq=>i7 (some a) P n c w.heap.size hn h.cap h.max h.ok (λh0 a' e=>by have:=h.at_.lt h0 a' e;omega) (P.length+1) q w' rd (h.at_.keep hb) (by omega:n-q<P.length+1));have HN:=O h;have HL:=O hn;have H0:=O hs0;have HE:=O hE;rw [show a.add (0*4)=a from rfl] at D;obtain⟨d0,d1,d2,d3⟩:=D;have r0:bZ (w.alloc (.cells #[.slice (some a) n c,.int .i64 1] 152)) w.heap.size (.slice (some a) n c) 1:=⟨by simp,by simp,by simp⟩
 rw [hop] at d0;have d1':=λo:Obj=>zb (za w o) d1;generalize P[0]=x at *;have hn200:n<=200:=by omega
 have hn1:0<n:=by omega
 clear h hv h6 hV hn hs0 hE hN cR hop;go_enter Tryz.func121,Tryz.ntmps121;go_wp2_with fail;clear d1';go_loopw [2,3,12] (λv v' i wr=>∃(k q:Nat) (V:List Sl) (X:List (ByteArray × List Nd)),i = .int .i64 k/\(k:Int)<=x.n/\q<=n/\k+1<=q/\V.length=k/\X.length=k/\Hid (V.map Sl.P=X.map (·.2))/\Hid (zX P=X ++ aG P (zm P (P.length+1)) (x.n.toNat-k) q)/\
  Hid (∃lo,zS P (zm P (P.length+1)) (x.n.toNat-k) lo q=some P.length)/\Hid (jz wr (w.heap.size+1) v v' V (X.map (·.1)))/\Hid (k9 w.heap.size V)/\Hid (bZ wr w.heap.size (.slice (some a) n c) q)/\Hid (Below w.heap.size w wr)) (λ_ _ i _=>(x.n-intOf i).toNat)
 case atStart=>exact⟨0,1,[],[],rfl,hx0,hn1,by omega,rfl,rfl,rfl,HE.o,⟨_,H0.o⟩,⟨zK.nil _ _,World.ownsRow_nil _ _ _ 1,.inl rfl,(by intro r hr;cases hr)⟩,(by intro r hr;cases hr),r0,za _ _⟩
 case round =>
  obtain⟨k,q,V,X,rfl,hk,hq,hkq,rS,I8,IU,hE,hS,hT,Ew,oe,hB⟩:=hrel;have e0:=zb hB.o d0;by_cases hlt:(k:Int)<x.n
  ·obtain⟨hq',e,hf,JM,hsp⟩:=ue (by omega) hS.o;have hle:=jH _ _ _ hf;rw [<-HL.o] at hle;have Ll:q<n:=by omega
   obtain⟨a',ha',⟨-,-,q2,-⟩⟩:=(HN.o.at_.keep hB.o).nd hq';injection ha' with ha';subst ha';have aE:=O (hE.o.trans (by rw [hsp]:_=X ++((P[q].s,seg P (q+1) e):: aG P (zm P (P.length+1)) (x.n.toNat-(k+1)) e)));have JE:=O JM;have HF:=O hf;have J9:(seg P (q+1) e).length=e-(q+1):=jv (by rw [<-HL.o];omega);have HSG:=O J9;generalize P[q].s=nm at *;obtain⟨c0,c1,f1⟩:=oe.o;have hsz1:=hB.o.size;have pw:=oe.o.lt;clear hE hS JM hsp hf J9;go_wp2_with (at_builtin;refine wpList_append_own_at _ rfl _ _ 38 rfl (w.heap.size+1) 9 j0 _ 1 16 Tryz.underlying38 hj jz0 jz1 jz2 rfl (by decide) _ (X.map (·.1)).length ((X.map (·.1)).map Value.string) rfl (hT.o.b.alloc _) ⟨_,0,none⟩ 1 1 [.string nm] rfl rfl (cell_one_new _ _ _) (by intro u hu;simp only [List.mem_cons,List.not_mem_nil,or_false] at hu;subst hu;rfl) ?c1 ?c2 ?c3 ?_)
   case c1=>simp;unfold maxLen;omega
   case c2=>simp;omega
   case c3=>simp;omega
   intro v1 w1 hown hgrow _ hat;have T1:=O (hT.o.name (s:=nm) (by simpa [I8] using hown) hgrow (by simpa using hat));have B1:=O ((hB.o.alloc hB.o.size _).grown hgrow (by simp;omega) (λg hg=>by have:=jb hT.o.b g hg;omega));have R1:=O ((oe.o.keep (za wr _)).row hgrow (qV hT.o.b (by omega)));have R2:=O (R1.o.put (q+1));have T2:=O (T1.o.other (R:=w.heap.size) (zu w1 ⟨w.heap.size,1,none⟩ (.int .i64 (q+1:Nat))) (by omega) Ew.o);have B2:=O (B1.o.setCell (p:=⟨w.heap.size,1,none⟩) (Nat.le_refl _) (.int .i64 (q+1:Nat)));have hRl1:=R1.o.lt;obtain⟨c0',c1',f1'⟩:=R1.o;have C:=O (K.o (q+1) _ B2.o R2.o (by rw [<-HL.o];omega));rw [HF.o] at C;clear hown hgrow hat hT hB oe c0 c1 f1 q2 T1 B1 R1;go_wp2_with fail;refine C.o.mono ?_;rintro e' w3 jS;obtain⟨rfl,r3,g3⟩:=jS;have B3:=O (B2.o.trans (aw g3 (Nat.le_refl _) B2.o.size));have T3:=O (T2.o.other g3 (by omega) Ew.o);have CL:=O (fO (a.add ((q+1)*4)) (e-(q+1)) (c-(q+1)) (seg P (q+1) e) w3 (D' (HN.o.keep B3.o) (by omega) hle.2) (by rw [HSG.o];omega));have R3:=O r3;have wP:=B3.o.size;have hsz3:w.heap.size<w3.heap.size:=R3.o.lt;clear r3 g3 T2 B2 R2 c0' c1' f1';go_wp2_with fail;refine CL.o.mono ?_;rintro e' w4 jS;obtain⟨A3,c3,rfl,n3,l3,b4⟩:=jS;have B4:=bh B3 b4;have T4:=O (T3.o.keep b4);have R4:=O (R3.o.keep b4);have N4:=O (show Ns w4 (⟨A3,(seg P (q+1) e).length,c3,seg P (q+1) e⟩:Sl).A _ _ _ from n3);have L4:=O (Ew.o.snoc (r:=⟨A3,(seg P (q+1) e).length,c3,seg P (q+1) e⟩) (λa' h'=>by have:=l3 a' h';omega));have A4:Hid (bE ⟨A3,(seg P (q+1) e).length,c3,seg P (q+1) e⟩ u2.ownBlock):=by
    intro h0 a' e' q';have h1:=cT T3.o.a.own a'.block q';have h2:=l3 a' e';omega
   have A5:Hid (bE ⟨A3,(seg P (q+1) e).length,c3,seg P (q+1) e⟩ v1.ownBlock):=by
    intro h0 a' e' q';have h1:=cT T3.o.b a'.block q';have h2:=l3 a' e';omega
   have hsz4:=B4.o.size;have hsz5:=b4.size;clear b4 n3 l3 T3 R3 B3 Ew;go_wp2_with (at_builtin;refine wpList_append_own_at _ rfl _ _ 54 rfl (w.heap.size+1) 30 i0 _ 1 24 Tryz.underlying54 hi hz0 hz1 hz2 rfl (by decide) _ V.length (V.map Sl.v) rfl (T4.o.a.own.alloc _) ⟨_,0,none⟩ 1 1 [.slice A3 (seg P (q+1) e).length c3] rfl rfl (cell_one_new _ _ _) (by intro u hu;simp only [List.mem_cons,List.not_mem_nil,or_false] at hu;subst hu;rfl) ?d1 ?d2 ?d3 ?_)
   case d1=>unfold maxLen;omega
   case d2=>omega
   case d3=>simp;omega
   intro v2 w5 hown hgrow _ hat;have B5:=O ((B4.o.alloc B4.o.size _).grown hgrow (by simp;omega) (λg hg=>by have:=jb T4.o.a.own g hg;omega));have R5:=O ((R4.o.keep (za w4 _)).row hgrow (qV T4.o.a.own (by omega)));have T5:=O (T4.o.part (r:=⟨A3,(seg P (q+1) e).length,c3,seg P (q+1) e⟩) N4.o A4.o A5.o (by rw [rS];exact hown) hgrow (by simpa using hat));have HE5:=O (aE.o.trans (show _=(X ++ [(nm,seg P (q+1) e)])++ aG P (zm P (P.length+1)) (x.n.toNat-(k+1)) e by simp));have JX:(V ++ [(⟨A3,(seg P (q+1) e).length,c3,seg P (q+1) e⟩:Sl)]).length=k+1:=by simp [rS]
   have LY:(X ++ [(nm,seg P (q+1) e)]).length=k+1:=by simp [I8]
   have HV5:=O (show(V ++ [(⟨A3,(seg P (q+1) e).length,c3,seg P (q+1) e⟩:Sl)]).map Sl.P=(X ++ [(nm,seg P (q+1) e)]).map (·.2) by
    rw [List.map_append,List.map_append,IU.o];rfl)
   have T6:=O (show jz w5 (w.heap.size+1) v2 v1 (V ++ [(⟨A3,(seg P (q+1) e).length,c3,seg P (q+1) e⟩:Sl)]) ((X ++ [(nm,seg P (q+1) e)]).map (·.1)) by
    rw [List.map_append];exact T5.o)
   clear hown hgrow hat R4 N4 A4 A5 aE B4 T5;go_wp2_with fail;go_roundw
   case rel=>exact⟨k+1,e,_,_,by go_num,by omega,by omega,by omega,JX,LY,HV5,HE5,JE,T6,L4,R5,B5⟩
   case measure=>simp [intOf];omega
  ·have HG:=O (hE.o.trans (show _=X by rw [show x.n.toNat-k=0 by omega];simp [aG]));clear hE hS oe;go_wp2_with fail;go_ret2;exact⟨_,_,V,rfl,hT.o.a.mono (by omega),by rw [HG.o];exact IU.o,by rw [HG.o];exact tX hT.o.b (by omega),Ew.o,hB.o⟩
end Go.Proofs.YthidiimbeaabhaaGreatDoor
namespace Go.Wk
def cy(P:List Nd):Int:=if zc P=0 then(if zg P=5\/zg P=6 then 0 else 2) else zc P
def fV(P:List Nd):List (List Nd):=if cy P=0 then(if zg P=5 then zy P else(zX P).map (·.2)) else []
def qF(P:List Nd)(s:ByteArray):Option (List Nd):=((zX P).find? λx=>decide (ai x.1 s=0)).map (·.2)
def fD(P:List Nd)(s:ByteArray):Int:=if zc P=0 then(if zg P=6 then(if(qF P s).isSome then 0 else 3) else 2) else zc P
def kz(P:List Nd)(s:ByteArray):List Nd:=if fD P s=0 then(qF P s).getD [] else []
theorem jx{P:List Nd}(h:0<P.length):zg P=P[0].op:=by
 rcases P with _|⟨x,r⟩
 ·simp at h
 ·rfl
theorem Fi{α:Type}{l:List α}{p:α->Bool}{k:Nat}(h:k<l.length)(hp:p l[k]=true)(hn:∀j,(hj:j<k)->p (l[j]'(by omega))=false):l.find? p=some l[k]:=by
 rw [List.find?_eq_some_iff_getElem];exact⟨hp,k,h,rfl,λj hj=>by rw [hn j hj];rfl⟩
theorem BS(N:List ByteArray)(s:ByteArray):(∃(k:Nat) (h:k<N.length),Lib.idxOfS N s=k/\N[k]=s/\∀j,(hj:j<k)->(N[j]'(by omega))≠s)\/(Lib.idxOfS N s = -1/\∀j,(hj:j<N.length)->N[j]≠s):=by
 unfold Lib.idxOfS;have key:∀(N:List ByteArray) (i:Nat),(∃(k:Nat) (h:k<N.length),Lib.idxFromS N s i=((i+k:Nat):Int)/\N[k]=s/\∀j,(hj:j<k)->(N[j]'(by omega))≠s)\/(Lib.idxFromS N s i = -1/\∀j,(hj:j<N.length)->N[j]≠s):=by
  intro N
  induction N with
  | nil=>intro i;exact .inr ⟨rfl,λj hj=>by simp at hj⟩
  | cons x N ih =>
   intro i
   by_cases hx:x=s
   ·exact .inl ⟨0,by simp,by simp [Lib.idxFromS,hx],hx,λj hj=>by omega⟩
   ·rcases ih (i+1) with ⟨k,hk,h1,h2,h3⟩|⟨h1,h2⟩
    ·refine .inl ⟨k+1,by simp;omega,?_,h2,λj hj=>?_⟩
     ·simp only [Lib.idxFromS,hx];rw [if_neg (by simp),h1];congr 1;omega
     ·rcases j with _|j
      ·exact hx
      ·exact h3 j (by omega)
    ·refine .inr ⟨?_,λj hj=>?_⟩
     ·simp only [Lib.idxFromS,hx];rw [if_neg (by simp)];exact h1
     ·rcases j with _|j
      ·exact hx
      ·exact h2 j (by simpa using hj)
 have:=key N 0;simpa using this
end Go.Wk
namespace Go.Proofs.YthidiimbeaabhaaGreatDoor
open Go.RowKit Go.Wk Go.Sort
theorem zI{A:Option Addr}{n c:Nat}{P:List Nd}{w:World}(h:Ns w A n c P):Calls Tryz.prog 57 #[.slice A n c] w λe w'=>e = .returned (zM (zc P))/\Below w.heap.size w w' :=
 yx A n c P w h.len h.cap h.max h.at_ h.ok
def bQ(w:World)(P:List Nd)(e:Ending)(w':World):Prop :=
 ∃(v:Value) (V:List Sl),e = .returned (.tuple #[v,zM (cy P)])/\zK w' w.heap.size v V/\V.map Sl.P=fV P/\(∀r∈V,∀a,r.A=some a->w.heap.size<=a.block)/\Below w.heap.size w w'
theorem j5(A:Option Addr)(n c:Nat)(P:List Nd)(w:World)(h:Ns w A n c P):
 Calls Tryz.prog 123 #[.slice A n c] w (bQ w P):=by
 have K:=O (zI h);have H:=O h;by_cases h0:zc P=0
 ·have hV:=(zL.1 h0).2;have cd:=hV.pos;obtain⟨a,rfl,D⟩:=h.at_.nd cd;rw [show a.add (0*4)=a from rfl] at D;have hn1:0<n:=by rw [h.len];exact cd
  have d0:=D.c0;rw [<-jx cd] at d0;rw [h0,zf] at K;by_cases h5:zg P=5
  ·have S:=O (λw' hb=>yj (some a) n c P w' (h.keep hb) h0 h5);have hE:cy P=0:=by unfold cy;rw [if_pos h0,if_pos (.inl h5)]
   have HL:=O (show fV P=zy P by unfold fV;rw [if_pos hE,if_pos h5]);have HE:=O hE;rw [h5] at d0;clear h h0 hV D h5 hE;go_enter Tryz.func123,Tryz.ntmps123;go_wp2_with fail;refine(K.o).mono ?_;rintro e w1 ⟨rfl,b1⟩;replace d0:=zb b1 d0;have B1:=O b1;clear b1;go_wp2_with fail;refine(S.o _ B1.o).mono ?_;rintro e w2 ⟨v,v',V,rfl,hO,GP,-,hF,b2⟩;have HF:=O (λr hr a h=>Nat.le_trans B1.o.size (Nat.le_of_lt (hF r hr a h)));have HO:=O (hO.mono B1.o.size);have HV:=O (GP.trans HL.o.symm);have B2:=bh B1 b2;clear hO GP hF b2;go_wp2_with fail;go_ret2;exact⟨v,V,by rw [HE.o];rfl,HO.o,HV.o,HF.o,B2.o⟩
  ·by_cases h6:zg P=6
   ·have S:=O (λw' hb=>pF (some a) n c P w' (h.keep hb) h0 h6);have hE:cy P=0:=by unfold cy;rw [if_pos h0,if_pos (.inr h6)]
    have HL:=O (show fV P=(zX P).map (·.2) by unfold fV;rw [if_pos hE,if_neg h5]);have HE:=O hE;rw [h6] at d0;clear h h0 hV D h5 h6 hE;go_enter Tryz.func123,Tryz.ntmps123;go_wp2_with fail;refine(K.o).mono ?_;rintro e w1 ⟨rfl,b1⟩;replace d0:=zb b1 d0;have B1:=O b1;clear b1;go_wp2_with fail;refine(S.o _ B1.o).mono ?_;rintro e w2 ⟨v,v',V,rfl,hO,GP,-,hF,b2⟩;have HF:=O (λr hr a h=>Nat.le_trans B1.o.size (Nat.le_of_lt (hF r hr a h)));have HO:=O (hO.mono B1.o.size);have HV:=O (GP.trans HL.o.symm);have B2:=bh B1 b2;clear hO GP hF b2;go_wp2_with fail;go_ret2;exact⟨v,V,by rw [HE.o];rfl,HO.o,HV.o,HF.o,B2.o⟩
   ·have hE:cy P=2:=by unfold cy;rw [if_pos h0,if_neg (by omega)]
    have HL:=O (show fV P = [] by unfold fV;rw [if_neg (by omega)]);have HE:=O hE;have g5:(zg P != 5)=true:=by rw [bne_iff_ne];exact h5
    have g6:(zg P != 6)=true:=by rw [bne_iff_ne];exact h6
    clear h h0 hV D h5 h6 hE;go_enter Tryz.func123,Tryz.ntmps123;go_wp2_with fail;refine(K.o).mono ?_;rintro e w1 ⟨rfl,b1⟩;replace d0:=zb b1 d0;have B1:=O b1;clear b1;go_wp2_with fail;go_ret2;exact⟨_,[],by rw [HE.o];rfl,zK.nil _ _,HL.o.symm,(by intro r hr;cases hr),B1.o⟩
 ·have hE:cy P=zc P:=by unfold cy;rw [if_neg h0]
  have HL:=O (show fV P = [] by unfold fV;rw [if_neg (by rw [hE];exact h0)]);have HE:=O hE;rw [zl h0] at K;have HX:=O (zl h0);clear h h0 hE;go_enter Tryz.func123,Tryz.ntmps123;go_wp2_with fail;refine(K.o).mono ?_;rintro e w1 ⟨rfl,b1⟩;go_wp2_with fail;go_ret2;exact⟨_,[],by rw [HE.o,HX.o];rfl,zK.nil _ _,HL.o.symm,(by intro r hr;cases hr),b1⟩
theorem vy{w:World}{B:Nat}{v:Value}{N:List ByteArray}(s:ByteArray)(h:w.ownsRow B 9 1 v N.length (N.map Value.string))(hN:N.length<=100000):
 Calls Tryz.prog 101 #[v,.string s] w λe w'=>e = .returned (.int .i64 (Lib.idxOfS N s))/\w'=w:=by
 -- for 93
 rcases h.2 with ⟨rfl,h0⟩|⟨g,cap,cur,rfl,-,-,hc,-⟩
 ·have:N = []:=List.eq_nil_of_length_eq_zero h0;subst this;exact Tryz.slices_Index_string_empty none 0 s w
 ·have:=Tryz.slices_Index_string g 0 N.length cap N s w (Nat.le_refl _) (by omega) (λj hj=>by
   have e:=h.cells (g:=g) rfl j (.string N[j]) (by rw [List.getElem?_map,List.getElem?_eq_getElem hj];rfl)
   rw [ei] at e
   rw [e]
   simp [hj])
  rw [List.take_length] at this;exact this
def iP(w:World)(P:List Nd)(s:ByteArray)(e:Ending)(w':World):Prop :=
 ∃(A:Option Addr) (n c:Nat),e = .returned (.tuple #[.slice A n c,zM (fD P s)])/\Ns w' A n c (kz P s)/\(∀a,A=some a->w.heap.size<=a.block)/\Below w.heap.size w w'
theorem q7{P:List Nd}(h:zc P=0)(h6:zg P=6):(zX P).length<=200:=by
 obtain⟨h1,h2⟩:=zL.1 h;obtain⟨e,-,h3,-⟩:=xr h2 h6;have:(zX P).length<=(zY (zX P)).length:=by
  generalize zX P=l
  induction l with
  | nil=>simp
  | cons x l ih=>simp only [zY,List.length_cons,List.length_append];omega
 have hl:=congrArg List.length e;simp only [List.length_cons] at hl;omega
theorem ml(A:Option Addr)(n c:Nat)(P:List Nd)(s:ByteArray)(w:World)(h:Ns w A n c P):
 Calls Tryz.prog 93 #[.slice A n c,.string s] w (iP w P s):=by
 have K:=O (zI h);by_cases h0:zc P=0
 ·have hV:=(zL.1 h0).2;have cd:=hV.pos;obtain⟨a,rfl,D⟩:=h.at_.nd cd;rw [show a.add (0*4)=a from rfl] at D;have hn1:0<n:=by rw [h.len];exact cd
  have d0:=D.c0;rw [<-jx cd] at d0;rw [h0,zf] at K;by_cases h6:zg P=6
  ·have S:=O (λw' hb=>pF (some a) n c P w' (h.keep hb) h0 h6);have HG:=O (show fD P s=if(qF P s).isSome then 0 else 3 by unfold fD;rw [if_pos h0,if_pos h6]);have HLn:=O (q7 h0 h6);rw [h6] at d0;clear h h0 hV D h6;go_enter Tryz.func93,Tryz.ntmps93;go_wp2_with fail;refine(K.o).mono ?_;rintro e w1 ⟨rfl,b1⟩;replace d0:=zb b1 d0;have B1:=O b1;clear b1;go_wp2_with fail;refine(S.o _ B1.o).mono ?_;rintro e w2 ⟨v,v',V,rfl,hO,GP,hN,Lr,b2⟩;have HFr:=O (show∀r∈V,∀a,r.A=some a->w.heap.size<=a.block from λr hr a e=>Nat.le_trans B1.o.size (Nat.le_of_lt (Lr r hr a e)));clear Lr;have B2:=bh B1 b2;have I:=O (vy s hN (by simp;have:=HLn.o;omega));have HV:=O GP;have rS:=congrArg List.length GP;simp only [List.length_map] at rS;obtain⟨A2,c2,rfl,hc2,Hh⟩:=hO.at
   have HS:=O Hh;clear hO GP hN b2 Hh;rcases BS ((zX P).map (·.1)) s with ⟨k,hk,hi,hkk,hlt⟩|⟨hi,hno⟩
   ·have L':k<(zX P).length:=by simpa using hk
    have Mo:k<V.length:=by omega
    have hR:qF P s=some (zX P)[k].2:=by
     unfold qF;rw [Fi L' (decide_eq_true ((jB.zero _ _).2 (by simpa using hkk))) (λj hj=>decide_eq_false (λq=>hlt j hj (by simpa using(jB.zero _ _).1 q)))];rfl
    obtain⟨a2,rfl,q2,n2⟩:=HS.o.at Mo;have hP:V[k].P=(zX P)[k].2:=by
     have:=congrArg (λl=>l[k]?) HV.o;simp only [List.getElem?_map,List.getElem?_eq_getElem Mo,List.getElem?_eq_getElem L',Option.map_some,Option.some.injEq] at this;exact this
    have aE:=O (show fD P s=0 by rw [HG.o,hR];rfl);have IV:=O (show kz P s=V[k].P by unfold kz;rw [if_pos aE.o,hR,hP];rfl);have AL:=O n2;have HFR:=O (HFr.o V[k] (List.getElem_mem Mo));rw [hi] at I;generalize V[k]=r at *;clear hk hi hkk hlt hR hP n2 rS L';go_wp2_with fail;refine I.o.mono ?_;rintro e w3 ⟨rfl,rfl⟩;go_wp2_with fail;go_ret2;exact⟨r.A,r.n,r.c,by rw [aE.o];rfl,by rw [IV.o];exact AL.o,HFR.o,B2.o⟩
   ·have hR:qF P s=none:=by
     unfold qF;rw [List.find?_eq_none.2 (λx hx=>by
      obtain⟨j,hj,rfl⟩:=List.getElem_of_mem hx
      have:=hno j (by simpa using hj)
      simp only [decide_eq_true_eq]
      intro q
      exact this (by simpa using(jB.zero _ _).1 q))]
     rfl
    have aE:=O (show fD P s=3 by rw [HG.o,hR];rfl);have IV:=O (show kz P s = [] by unfold kz;rw [aE.o];rfl);rw [hi] at I;clear hi hno hR rS;go_wp2_with fail;refine I.o.mono ?_;rintro e w3 ⟨rfl,rfl⟩;go_wp2_with fail;go_ret2;exact⟨none,0,0,by rw [aE.o];rfl,by rw [IV.o];exact⟨rfl,Nat.le_refl _,by unfold maxLen;omega,λk x hx=>by simp at hx,λx hx=>by cases hx⟩,(λ_ e=>nomatch e),B2.o⟩
  ·have hE:fD P s=2:=by unfold fD;rw [if_pos h0,if_neg h6]
   have IV:=O (show kz P s = [] by unfold kz;rw [hE];rfl);have HE:=O hE;have g6:(zg P != 6)=true:=by rw [bne_iff_ne];exact h6
   clear h h0 hV D h6 hE;go_enter Tryz.func93,Tryz.ntmps93;go_wp2_with fail;refine(K.o).mono ?_;rintro e w1 ⟨rfl,b1⟩;replace d0:=zb b1 d0;have B1:=O b1;clear b1;go_wp2_with fail;go_ret2;exact⟨none,0,0,by rw [HE.o];rfl,by rw [IV.o];exact⟨rfl,Nat.le_refl _,by unfold maxLen;omega,λk x hx=>by simp at hx,λx hx=>by cases hx⟩,(λ_ e=>nomatch e),B1.o⟩
 ·have hE:fD P s=zc P:=by unfold fD;rw [if_neg h0]
  have IV:=O (show kz P s = [] by unfold kz;rw [if_neg (by rw [hE];exact h0)]);have HE:=O hE;rw [zl h0] at K;have HX:=O (zl h0);clear h h0 hE;go_enter Tryz.func93,Tryz.ntmps93;go_wp2_with fail;refine(K.o).mono ?_;rintro e w1 ⟨rfl,b1⟩;go_wp2_with fail;go_ret2;exact⟨none,0,0,by rw [HE.o,HX.o];rfl,by rw [IV.o];exact⟨rfl,Nat.le_refl _,by unfold maxLen;omega,λk x hx=>by simp at hx,λx hx=>by cases hx⟩,(λ_ e=>nomatch e),b1⟩
end Go.Proofs.YthidiimbeaabhaaGreatDoor
namespace Go.Proofs.YthidiimbeaabhaaGreatDoor
open Go.RowKit Go.Wk
def nb(w:World)(A:Option Addr)(P:List Ud):Prop :=
 ∀(k:Nat) (x:Ud),P[k]?=some x->∃a,A=some a/\w.cell? (a.add (k*2))=some (.string x.1)/\w.cell? ⟨(a.add (k*2)).block,(a.add (k*2)).off+1,none⟩=some (.string x.2)
theorem nb.keep{w w':World}{A:Option Addr}{P:List Ud}(h:nb w A P)(hb:Below w.heap.size w w'):nb w' A P :=
 λk x hx=>let ⟨a,h1,h2,h3⟩:=h k x hx;⟨a,h1,zb hb h2,zb hb h3⟩
theorem nb.but{w w':World}{A:Option Addr}{P:List Ud}{g:Option Nat}(h:nb w A P)(hg:w.grownBy w' g)(hR:∀a,A=some a->g≠some a.block):nb w' A P:=by
 intro k x hx;obtain⟨a,h1,h2,h3⟩:=h k x hx;have hn:some a.block≠g:=λe=>hR a h1 e.symm;have hb:=cD a (k*2);exact⟨a,h1,hg.cell h2 (by rw [hb];exact hn),hg.cell h3 (by rw [hb];exact hn)⟩
structure Us(w:World)(A:Option Addr)(n c:Nat)(P:List Ud):Prop where
 len:n=P.length
 cap:n<=c
 max:n<=maxLen
 at_:nb w A P
 ok:∀x∈P,x.1.size<=maxLen/\x.2.size<=maxLen
theorem Us.keep{w w':World}{A:Option Addr}{n c:Nat}{P:List Ud}(h:Us w A n c P)(hb:Below w.heap.size w w'):Us w' A n c P:=⟨h.len,h.cap,h.max,h.at_.keep hb,h.ok⟩
theorem Us.but{w w':World}{A:Option Addr}{n c:Nat}{P:List Ud}{g:Option Nat}(h:Us w A n c P)(hg:w.grownBy w' g)(hR:∀a,A=some a->g≠some a.block):Us w' A n c P:=⟨h.len,h.cap,h.max,h.at_.but hg hR,h.ok⟩
theorem Us.take{w:World}{A:Option Addr}{n c k:Nat}{P:List Ud}(h:Us w A n c P)(hk:k<=n):Us w A k c (P.take k):=
 {len:=by rw [List.length_take,<-h.len];omega
  cap:=Nat.le_trans hk h.cap
  max:=Nat.le_trans hk h.max
  at_:=λj x hx=>by
   rw [List.getElem?_take] at hx
   split at hx
   ·exact h.at_ j x hx
   ·cases hx
  ok:=λx hx=>h.ok x (List.mem_of_mem_take hx)}
structure En where
 u:Ud
 UA:Option Addr
 un:Nat
 uc:Nat
 ups:List Ud
 NA:Option Addr
 nn:Nat
 nc:Nat
 P:List Nd
def En.v(e:En):Value := .agg #[.string e.u.1,.string e.u.2,.slice e.UA e.un e.uc,.slice e.NA e.nn e.nc]
structure tI(w:World)(e:En):Prop where
 t:e.u.1.size<=maxLen
 i:e.u.2.size<=maxLen
 us:Us w e.UA e.un e.uc e.ups
 ns:Ns w e.NA e.nn e.nc e.P
theorem tI.keep{w w':World}{e:En}(h:tI w e)(hb:Below w.heap.size w w'):tI w' e:=⟨h.t,h.i,h.us.keep hb,h.ns.keep hb⟩
def eA(e:En):Int:=if 6<e.ups.length then 4 else if bH [] e.ups=0 then(if zc e.P=0 then(if zg e.P=6 then 0 else 2) else zc e.P) else bH [] e.ups
theorem yi{P:List Ud}{k:Nat}(h:k<P.length)(x:Ud):bC (P.take (k+1)) x=(bC (P.take k) x || decide (P[k]=x)):=by
 unfold bC;rw [List.take_succ_eq_append_getElem h,List.any_append];simp
theorem vN{x y:Ud}(h:x≠y):(x.1.toList==y.1.toList)=false\/((x.1.toList==y.1.toList)=true/\(x.2.toList==y.2.toList)=false):=by
 by_cases h1:x.1=y.1
 ·refine .inr ⟨by rw [h1];simp,beq_eq_false_iff_ne.2 λe=>h ?_⟩;have h2:=toList_inj e;cases x;cases y;simp only at h1 h2;rw [h1,h2]
 ·exact .inl (beq_eq_false_iff_ne.2 λe=>h1 (toList_inj e))
theorem vS(A:Option Addr)(n c:Nat)(P:List Ud)(x:Ud)(w:World)(h:Us w A n c P):
 Calls Tryz.prog 111 #[.slice A n c,.agg #[.string x.1,.string x.2]] w λe w'=>(∃k:Int,e = .returned (.int .i64 k)/\(0<=k↔bC P x=true))/\Below w.heap.size w w':=by
 have V0:=O (dN w (.string x.1) (.string x.2) 24);have B0:=O (za w (.cells #[.string x.1,.string x.2] 24));have HL:=O h.len;have HM:=h.max;unfold maxLen at HM;have HA:=O (h.at_);clear h;go_enter Tryz.func111,Tryz.ntmps111;go_wp2_with fail;obtain⟨w0,hw0⟩:∃w0,w.alloc (.cells #[.string x.1,.string x.2] 24)=w0:=⟨_,rfl⟩
 rw [hw0] at V0 B0 ⊢;clear hw0;go_loopw [5,8] (λ_ i wr=>∃k:Nat,k<=n/\i = .int .i64 k/\Hid (bC (P.take k) x=false)/\Hid (Below w.heap.size w wr)/\Hid (Vr2 wr w.heap.size (.string x.1) (.string x.2))) (λ_ i _=>n-(intOf i).toNat)
 case atStart=>exact⟨0,Nat.zero_le _,rfl,rfl,B0,V0⟩
 case round =>
  clear B0 V0;obtain⟨k,hk,rfl,hN,hB,hV⟩:=hrel;by_cases hlt:k<n
  ·have aV:k<P.length:=by rw [<-HL.o];exact hlt
   have HT:=O (yi aV x);obtain⟨a,rfl,q0,q1⟩:=(HA.o.keep hB.o) k _ (List.getElem?_eq_getElem aV);have v0:=cell_regrown hV.o.c0;have v1:=cell_regrown hV.o.c1;by_cases he:P[k]=x
   ·have HY:=O (show bC P x=true from ay.2 (he ▸ List.getElem_mem aV));rw [he] at q0 q1;have k0:=cell_regrown q0;have k1:=cell_regrown q1;clear he q0 q1 HT;go_wp2_with fail;refine wp_region_quiet_below (by kernel_rfl) (by kernel_rfl) ?_
    repeat (first|go_big_quiet_step (fail)|quiet_step (fail))
    refine wpQuiet_nil ?_;intro w1 hw';have B1:=O (show Below wr.heap.size wr w1 by obtain⟨⟨d,os⟩,rfl⟩:=hw';exact below_regrown _ _ _);clear hw';have BX:=Mx hB B1 (Nat.le_refl _);clear k0 k1 v0 v1 hB B1;go_wp2_with fail;go_ret;exact⟨⟨k,rfl,by rw [HY.o];simp⟩,BX.o⟩
   ·rw [decide_eq_false he,Bool.or_false,hN.o] at HT;have k0:=cell_regrown q0;have k1:=cell_regrown q1;have hne:(x.1.toList==P[k].1.toList)=false\/((x.1.toList==P[k].1.toList)=true/\(x.2.toList==P[k].2.toList)=false):=vN (λe=>he e.symm);clear he q0 q1;generalize P[k]=y at *;rcases hne with h1|⟨h1,h2⟩
    ·go_wp2_with fail;refine wp_region_quiet_below (by kernel_rfl) (by kernel_rfl) ?_
     repeat (first|go_big_quiet_step (fail)|quiet_step (fail))
     refine wpQuiet_nil ?_;intro w1 hw';have B1:=O (show Below wr.heap.size wr w1 by obtain⟨⟨d,os⟩,rfl⟩:=hw';exact below_regrown _ _ _);clear hw';have BX:=Mx hB B1 (Nat.le_refl _);have VX:=O (hV.o.keep B1.o);clear k0 k1 v0 v1 hB B1 hV;go_wp2_with fail;go_roundw
     case rel=>exact⟨k+1,by omega,by go_num,HT,BX,VX⟩
     case measure=>simp [intOf];omega
    ·go_wp2_with fail;refine wp_region_quiet_below (by kernel_rfl) (by kernel_rfl) ?_
     repeat (first|go_big_quiet_step (fail)|quiet_step (fail))
     refine wpQuiet_nil ?_;intro w1 hw';have B1:=O (show Below wr.heap.size wr w1 by obtain⟨⟨d,os⟩,rfl⟩:=hw';exact below_regrown _ _ _);clear hw';have BX:=Mx hB B1 (Nat.le_refl _);have VX:=O (hV.o.keep B1.o);clear k0 k1 v0 v1 hB B1 hV;go_wp2_with fail;go_roundw
     case rel=>exact⟨k+1,by omega,by go_num,HT,BX,VX⟩
     case measure=>simp [intOf];omega
  ·have HN:=O (show bC P x=false by rw [<-hN.o,List.take_of_length_le (by rw [<-HL.o];omega)]);go_wp2_with fail;go_ret;exact⟨⟨-1,rfl,by rw [HN.o];simp⟩,hB.o⟩
theorem o9(A:Option Addr)(n c:Nat)(P:List Ud)(x:Ud)(w:World)(h:Us w A n c P):
 Calls Tryz.prog 78 #[.slice A n c,.agg #[.string x.1,.string x.2]] w λe w'=>e = .returned (.bool (bC P x))/\Below w.heap.size w w':=by
 have B0:=O (za w (.cells #[.string x.1,.string x.2] 24));have K:=O (λw' hb=>vS A n c P x w' (h.keep hb));clear h;go_enter Tryz.func78,Tryz.ntmps78;go_wp2_with fail;refine(K.o _ B0.o).mono ?_;rintro e w1 ⟨⟨k,rfl,hk⟩,b1⟩;have B1:=bh B0 b1;have HK:=O (show decide (0<=k)=bC P x by
  rcases hu:bC P x with _|_
  ·exact decide_eq_false (λh=>by have:=hk.1 h;rw [hu] at this;cases this)
  ·exact decide_eq_true (hk.2 hu))
 clear hk b1 B0;go_wp2_with fail;go_ret;exact⟨by rw [<-HK.o];rfl,B1.o⟩
end Go.Proofs.YthidiimbeaabhaaGreatDoor
