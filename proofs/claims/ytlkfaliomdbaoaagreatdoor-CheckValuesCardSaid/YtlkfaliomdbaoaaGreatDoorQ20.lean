/-
  What slices that come in are made of: nodes. Slices of slices of nodes: how they lie; those that a call collects; slices.Clone of nodes. val.split: the parts ..
-/
import Derived.Deep.Slices
import Derived.Maps.AppendAt
import Derived.Lib.SlicesS
import Derived.Test.YtlkfaliomdbaoaaGreatDoorQ3
import Derived.Test.YtlkfaliomdbaoaaGreatDoorQ19
set_option maxRecDepth 100000
set_option maxHeartbeats 8000000
namespace Go.Wk
open Go.ChangeShapes Go.WideShapes Go.RowKit Go.Deep
section
variable {P:Program} {w:World} {t:TypeId} {cs:List Value}
theorem zfS{α:Type}(n:Nat)(R:Nat→α→Prop)(h:∀i,i<n→∃x,R i x):∃l:List α,l.length=n∧∀k x,l[k]?=some x→R k x:=by
 induction n with
 | zero=>exact⟨[],rfl,fun k x hx=>by simp at hx⟩
 | succ n ih =>
  obtain⟨l,hl,hr⟩:=ih (fun i hi=>h i (by omega))
  obtain⟨y,hy⟩:=h n (by omega)
  refine⟨l ++ [y],by simp [hl],fun k x hx=>?_⟩
  by_cases hk:k<n
  ·rw [List.getElem?_append_left (by omega)] at hx;exact hr k x hx
  ·rw [List.getElem?_append_right (by omega)] at hx
   by_cases hk2:k=n
   ·subst hk2;rw [hl,Nat.sub_self] at hx;simp only [List.getElem?_cons_zero,Option.some.injEq] at hx;subst hx;exact hy
   ·have:k-l.length≠0:=by omega
    obtain⟨j,hj⟩:∃j,k-l.length=j+1:=⟨k-l.length-1,by omega⟩
    rw [hj] at hx;simp at hx
theorem zec{e:TypeId}(ht:P.underlying t=some (.slice e))(h:Rd P w t cs):
 ∃(A:Option Addr) (n c:Nat),cs = [.slice A n c]∧n≤c∧c≤maxLen∧∀i,i<n→∃a,A=some a∧∃cs':List Value,cs'.length=P.cellsOf e∧(∀j,j<P.cellsOf e→w.cell? (a.add (i*P.cellsOf e+j))=cs'[j]?)∧Rd P w e cs':=by
 obtain⟨H,enc,b,sp,hd,f,x,hx⟩:=h;rcases open_slice ht hx with ⟨h0,_⟩|⟨a,len,cap,m,n,D,Pl,hcs,hb,hl,hm,hmm,hx,hi⟩
 ·exact⟨none,0,0,h0,Nat.le_refl _,by unfold maxLen;omega,fun i hi=>by omega⟩
 ·refine⟨some a,len,cap,hcs,hl,hm,fun i hil=>⟨a,rfl,?_⟩⟩;obtain⟨cs',hc,ht'⟩:=hi i (by rw [hmm];split <;> omega);obtain⟨_,hcl,hat⟩:=World.cells?_some hc;refine⟨cs',hcl,fun j hj=>?_,⟨H,enc,b,sp,hd,n,_,ht'⟩⟩;have:=hat j hj;rw [←Go.Deep.add_add];exact this
end
end Go.Wk
namespace Go.Proofs.YtlkfaliomdbaoaaGreatDoor
open Go.Wk Go.ChangeShapes Go.WideShapes Go.RowKit
structure Ns(w:World)(A:Option Addr)(n c:Nat)(P:List Nd):Prop where
 len:n=P.length
 cap:n≤c
 max:n≤maxLen
 at_:jp w A P
 ok:zap P
theorem Ns.keep{w w':World}{A:Option Addr}{n c:Nat}{P:List Nd}(h:Ns w A n c P)(hb:Below w.heap.size w w'):Ns w' A n c P:=⟨h.len,h.cap,h.max,h.at_.keep hb,h.ok⟩
theorem Ns.same{w:World}{A B:Option Addr}{n c m d:Nat}{P Q:List Nd}(h:Ns w A n c P)(k:Ns w B m d Q):
 Calls Tryz.prog 9 #[.slice A n c,.slice B m d] w fun e w'=>e = .returned (.bool (decide (z8 P Q=0)))∧Below w.heap.size w w' :=
 zkx A B n m c d P Q w h.len k.len h.max k.max h.at_ k.at_
theorem zgJ:Tryz.prog.cellsOf 40=4:=by kernel_rfl
theorem zhx:Tryz.prog.cellsOf 3=1:=by kernel_rfl
theorem zoH{w:World}{cs:List Value}(h:Rd Tryz.prog w 40 cs):∃x:Nd,cs = [.int .i64 x.op,.int .i64 x.n,.string x.s,.string x.t]∧zfO x:=by
 have hl:=(zb9 Tryz.underlying40 h).1;rw [zgJ] at hl
 match cs,hl with
 | [c0,c1,c2,c3],_ =>
  have h0:Rd Tryz.prog w 3 [c0]:=jH Tryz.underlying40 h 0 3 0 1 rfl zhx
  have h1:Rd Tryz.prog w 3 [c1]:=jH Tryz.underlying40 h 1 3 1 1 rfl zhx
  have h2:Rd Tryz.prog w 9 [c2]:=jH Tryz.underlying40 h 2 9 2 1 rfl zaH
  have h3:Rd Tryz.prog w 9 [c3]:=jH Tryz.underlying40 h 3 9 3 1 rfl zaH
  obtain⟨o,e0,o1,o2⟩:=znC Tryz.underlying3 h0
  obtain⟨n,e1,n1,n2⟩:=znC Tryz.underlying3 h1
  obtain⟨a,e2,s2⟩:=zbY Tryz.underlying9 h2
  obtain⟨b,e3,s3⟩:=zbY Tryz.underlying9 h3
  simp only [List.cons.injEq,and_true] at e0 e1 e2 e3
  exact⟨⟨o,n,a,b⟩,by rw [e0,e1,e2,e3],s2,s3,n1,n2⟩
theorem zgE{w:World}{cs:List Value}(h:Rd Tryz.prog w 26 cs):
 ∃(A:Option Addr) (n c:Nat) (P:List Nd),cs = [.slice A n c]∧n=P.length∧n≤c∧n≤maxLen∧jp w A P∧zap P:=by
 obtain⟨A,n,c,rfl,h1,h2,h3⟩:=zec Tryz.underlying26 h;rw [zgJ] at h3;obtain⟨P,hl,hr⟩:=zfS n (fun k x=>(∃a,A=some a∧w.cell? (a.add (k*4))=some (.int .i64 x.op)∧w.cell? (a.add (k*4+1))=some (.int .i64 x.n)∧w.cell? (a.add (k*4+2))=some (.string x.s)∧w.cell? (a.add (k*4+3))=some (.string x.t))∧zfO x) (fun i hi=>by
  obtain⟨a,rfl,cs',hl,hc,hr⟩:=h3 i hi
  obtain⟨x,rfl,hx⟩:=zoH hr
  exact⟨x,⟨a,rfl,hc 0 (by omega),hc 1 (by omega),hc 2 (by omega),hc 3 (by omega)⟩,hx⟩)
 refine⟨A,n,c,P,rfl,hl.symm,h1,by omega,fun k x hx=>?_,fun x hx=>?_⟩
 ·obtain⟨⟨a,e,q1,q2,q3,q4⟩,-⟩:=hr k x hx;refine⟨a,e,q1,?_,?_,?_⟩
  all_goals
   rw [←add_add] at q2 q3 q4;unfold Addr.add at q2 q3 q4 ⊢
   first|(simpa using q2)|(simpa using q3)|(simpa using q4)
 ·obtain⟨k,hk,rfl⟩:=List.getElem_of_mem hx;exact(hr k _ (List.getElem?_eq_getElem hk)).2
theorem zkt{H:Type}{enc:TypeId × Value→H}{w:World}{b b0:Nat}{sp:Nat→Bool}{hd:Bool}{v:Value}{d:DataW H}{ps:List MemPlace}{r:Reach}
 (hv:Value.okWide Tryz.prog w r b0 26 v) (h:DataW.Trod enc Tryz.prog w b sp hd 26 v d ps):
 ∃(A:Option Addr) (n c:Nat) (P:List Nd),v = .slice A n c∧Ns w A n c P:=by
 obtain⟨A',n',c',rfl⟩:=okWide_slice Tryz.underlying26 hv;obtain⟨A,n,c,P,e,h1,h2,h3,h4,h5⟩:=zgE (zgf h);have e':(Value.slice A' n' c')= .slice A n c:=by simpa [Value.cells] using e
 exact⟨A,n,c,P,e',h1,h2,h3,h4,h5⟩
end Go.Proofs.YtlkfaliomdbaoaaGreatDoor
namespace Go.Proofs.YtlkfaliomdbaoaaGreatDoor
open Go.RowKit Go.Wk Go.Sort
structure Sl where
 A:Option Addr
 n:Nat
 c:Nat
 P:List Nd
def Sl.v(r:Sl):Value := .slice r.A r.n r.c
def zal(w:World)(A:Option Addr)(V:List Sl):Prop :=
 ∀(k:Nat) (r:Sl),V[k]?=some r→∃a,A=some a∧w.cell? (a.add k)=some (.slice r.A r.n r.c)∧Ns w r.A r.n r.c r.P
theorem zal.keep{w w':World}{A:Option Addr}{V:List Sl}(h:zal w A V)(hb:Below w.heap.size w w'):zal w' A V :=
 fun k r hk=>let ⟨a,h1,h2,h3⟩:=h k r hk;⟨a,h1,zb hb h2,h3.keep hb⟩
theorem zal.at{w:World}{A:Option Addr}{V:List Sl}(h:zal w A V){k:Nat}(hk:k<V.length):∃a,A=some a∧w.cell? (a.add k)=some (.slice V[k].A V[k].n V[k].c)∧Ns w V[k].A V[k].n V[k].c V[k].P :=
 h k V[k] (List.getElem?_eq_getElem hk)
theorem Ns.but{w w':World}{A:Option Addr}{n c:Nat}{P:List Nd}{R:Nat}(h:Ns w A n c P)(hg:w.grownBy w' (some R))(hR:0<P.length→∀a,A=some a→a.block≠R):Ns w' A n c P:=by
 refine⟨h.len,h.cap,h.max,?_,h.ok⟩;rcases Nat.eq_zero_or_pos P.length with h0|h0
 ·intro k x hx;have:P = []:=List.eq_nil_of_length_eq_zero h0;subst this;simp at hx
 ·exact h.at_.but hg (hR h0)
def zaA(r:Sl)(g:Option Nat):Prop:=0<r.P.length→∀a,r.A=some a→g≠some a.block
theorem Ns.row{w w':World}{r:Sl}{g:Option Nat}(h:Ns w r.A r.n r.c r.P)(hg:w.grownBy w' g)(ha:zaA r g):Ns w' r.A r.n r.c r.P:=by
 rcases g with _|g
 ·exact h.keep (zcp hg)
 ·exact h.but hg (fun h0 a e q=>ha h0 a e (by rw [q]))
structure js(w:World)(B:Nat)(v:Value)(V:List Sl):Prop where
 own:w.ownsRow B 26 1 v V.length (V.map Sl.v)
 each:∀r∈V,Ns w r.A r.n r.c r.P
 apart:∀r∈V,zaA r v.ownBlock
theorem js.nil(w:World)(B:Nat):js w B (.slice none 0 0) []:=⟨World.ownsRow_nil w B _ 1,(by intro r hr;cases hr),(by intro r hr;cases hr)⟩
theorem js.keep{w w':World}{B:Nat}{v:Value}{V:List Sl}(h:js w B v V)(hb:Below w.heap.size w w'):js w' B v V :=
 ⟨h.own.kept (zc hb none) (by cases hv:v.ownBlock <;> simp),fun r hr=>(h.each r hr).keep hb,h.apart⟩
theorem js.row{w w':World}{B:Nat}{v:Value}{V:List Sl}{g:Option Nat}(h:js w B v V)(hg:w.grownBy w' g)(hne:v.ownBlock=none∨v.ownBlock≠g)(ha:∀r∈V,zaA r g):js w' B v V :=
 ⟨h.own.kept hg hne,fun r hr=>(h.each r hr).row hg (ha r hr),h.apart⟩
theorem js.snoc{w w':World}{B:Nat}{v v':Value}{V:List Sl}{r:Sl}{o:Obj}(h:js w B v V)(hr:Ns w r.A r.n r.c r.P)(ha:zaA r v.ownBlock)
 (hown:w'.ownsRow B 26 1 v' (V.length+1) (V.map Sl.v ++ [r.v])) (hg:(w.alloc o).grownBy w' v.ownBlock) (hat:v'.ownBlock=v.ownBlock∨v'.ownBlock=some (w.alloc o).heap.size):js w' B v' (V ++ [r]):=by
 have hba:Below w.heap.size w (w.alloc o):=za w o;have hlt:∀x∈V ++ [r],Ns w x.A x.n x.c x.P∧zaA x v.ownBlock:=by
  intro x hx;rcases List.mem_append.1 hx with h1|h1
  ·exact⟨h.each x h1,h.apart x h1⟩
  ·simp only [List.mem_cons,List.not_mem_nil,or_false] at h1;subst h1;exact⟨hr,ha⟩
 refine⟨?_,fun x hx=>((hlt x hx).1.keep hba).row hg (hlt x hx).2,fun x hx h0 a e=>?_⟩
 ·simpa using hown
 ·rcases hat with e'|e'
  ·rw [e'];exact(hlt x hx).2 h0 a e
  ·rw [e'];have:=(hlt x hx).1.at_.lt h0 a e;intro q;injection q with q;simp at q;omega
theorem js.at{w:World}{B:Nat}{v:Value}{V:List Sl}(h:js w B v V):∃A c,v = .slice A V.length c∧V.length≤c∧zal w A V:=by
 rcases h.own.2 with ⟨rfl,h0⟩|⟨g,cap,cur,rfl,_,_,hc,_⟩
 ·have:V = []:=List.eq_nil_of_length_eq_zero h0;subst this;exact⟨none,0,rfl,Nat.le_refl _,fun k r hk=>by simp at hk⟩
 ·refine⟨some ⟨g,0,none⟩,cap,rfl,hc,fun k r hk=>⟨_,rfl,?_,h.each r (List.mem_of_getElem? hk)⟩⟩;exact h.own.cells (g:=g) rfl k _ (by rw [List.getElem?_map,hk];rfl)
theorem zld:(Tryz.prog.info? 26).map (fun i=>(i.zero,i.size,i.bytes))=some (some (.slice none 0 0),1,24):=by kernel_rfl
theorem jp.cells{w:World}{a:Addr}{P:List Nd}(h:jp w (some a) P):∀j u,(zu P)[j]?=some u→w.cell? (a.add j)=some u:=by
 intro j u hu;have hl:=jX P;have hj:j<(zu P).length:=(List.getElem?_eq_some_iff.1 hu).1;have hk:j / 4<P.length:=by omega
 obtain⟨h1,h2,h3,h4⟩:=zhb P (j / 4) P[j / 4] (List.getElem?_eq_getElem hk);obtain⟨b,e,q1,q2,q3,q4⟩:=h (j / 4) P[j / 4] (List.getElem?_eq_getElem hk);injection e with e;subst e;have hr:j % 4=0∨j % 4=1∨j % 4=2∨j % 4=3:=by omega
 have nx:∀(x d:Nat),0<d→(⟨(a.add x).block,(a.add x).off+d,none⟩:Addr)=a.add (x+d):=by
  intro x d hd;unfold Addr.add;by_cases hx:x=0
  ·subst hx;simp;omega
  ·simp [hx,Nat.add_assoc]
 rcases hr with hr|hr|hr|hr
 ·have e:j=j / 4*4:=by omega
  rw [←e] at h1 q1;rw [hu] at h1;rw [h1];exact q1
 ·have e:j=j / 4*4+1:=by omega
  rw [nx _ _ (by omega),←e] at q2;rw [←e] at h2;rw [hu] at h2;rw [h2];exact q2
 ·have e:j=j / 4*4+2:=by omega
  rw [nx _ _ (by omega),←e] at q3;rw [←e] at h3;rw [hu] at h3;rw [h3];exact q3
 ·have e:j=j / 4*4+3:=by omega
  rw [nx _ _ (by omega),←e] at q4;rw [←e] at h4;rw [hu] at h4;rw [h4];exact q4
theorem zbJ(P:List Nd):∀u∈zu P,u.oneCell'=true:=by
 induction P with
 | nil=>intro u hu;cases hu
 | cons x P ih =>
  intro u hu
  simp only [zu,List.mem_cons] at hu
  rcases hu with rfl|rfl|rfl|rfl|hu
  ·rfl
  ·rfl
  ·rfl
  ·rfl
  ·exact ih u hu
theorem zeJ:(Tryz.prog.info? 40).map (fun i=>(i.zero,i.size,i.bytes))=some (some (.agg #[.int .i64 0,.int .i64 0,.string ⟨#[]⟩,.string ⟨#[]⟩]),4,48):=by kernel_rfl
theorem zaN{w:World}{B:Nat}{v:Value}{P:List Nd}(h:w.ownsRow B 40 4 v P.length (zu P)):∃A c,v = .slice A P.length c∧P.length≤c∧jp w A P∧(∀a,A=some a→B≤a.block):=by
 rcases h.2 with ⟨rfl,h0⟩|⟨g,cap,cur,rfl,hB,_,hc,_⟩
 ·have:P = []:=List.eq_nil_of_length_eq_zero h0;subst this;exact⟨none,0,rfl,Nat.le_refl _,fun k x hx=>by simp at hx,fun a e=>by cases e⟩
 ·exact⟨some ⟨g,0,none⟩,cap,rfl,hc,zes (h.cells (g:=g) rfl),fun a e=>by injection e with e;subst e;exact hB⟩
def zoc(w:World)(P:List Nd)(e:Ending)(w':World):Prop:=∃(A:Option Addr) (c:Nat),e = .returned (.slice A P.length c)∧Ns w' A P.length c P∧(∀a,A=some a→w.heap.size≤a.block)∧Below w.heap.size w w'
theorem zff(a:Addr)(n c:Nat)(P:List Nd)(w:World)(h:Ns w (some a) n c P)(hl:P.length≤100000):
 Calls Tryz.prog 124 #[.slice (some a) n c] w (zoc w P):=by
 obtain⟨i0,hi,hz0,hz1,hz2⟩:=info_parts zeJ;have hn:=h.len;have HC:=hi9 (fun w' hb=>(h.at_.keep (w':=w') hb).cells);have HO:=hi9 h.ok;have HL:=hi9 hl;clear h hl;subst hn;have hnil:=fun w:World=>Lib.run_eql_slice_nil (P:=Tryz.prog) w 26 40 (some a) P.length c 0 0 Tryz.underlying26;simp only [Option.isNone_some] at hnil;go_enter Tryz.func124,Tryz.ntmps124;have hB:∀W:World,(W.alloc (.cells #[] 40)).ownsRow W.heap.size 40 4 (.slice (some ⟨W.heap.size,0,none⟩) 0 0) 0 []:=fun W =>
  ⟨rfl,.inr ⟨_,0,#[],rfl,Nat.le_refl _,heap_alloc_new W _,Nat.le_refl _,by unfold maxLen;omega,rfl,rfl⟩⟩
 go_wp2_with (at_builtin;refine wpList_append_own _ rfl _ _ 26 rfl w.heap.size 40 i0 _ 4 48 Tryz.underlying26 hi hz0 hz1 hz2 rfl (by decide) _ 0 [] rfl (hB w) a P.length c (zu P) rfl (jX P) (HC.out _ (za _ _)) (zbJ P) ?c1 ?c2 ?c3 ?_)
 case c1=>have:=HL.out;unfold maxLen;omega
 case c2=>have:=HL.out;omega
 case c3=>simp
 intro v1 w1 hown hgrow _;have HW:=hi9 hown;have HG:=hi9 hgrow;clear hown hgrow hnil;go_wp2_with fail;go_ret;obtain⟨A,c',rfl,h1,h2,h3⟩:=zaN HW.out;refine⟨A,c',rfl,⟨rfl,h1,by have:=HL.out;unfold maxLen;omega,h2,HO.out⟩,h3,?_⟩;exact(za w _).grown HG.out (by simp) (fun k hk=>by simp [Value.ownBlock] at hk;omega)
def zhF(w:World)(L:List (List Nd))(N:List ByteArray)(e:Ending)(w':World):Prop :=
 ∃(v v':Value) (V:List Sl),e = .returned (.tuple #[v,v'])∧js w' w.heap.size v V∧V.map Sl.P=L∧w'.ownsRow w.heap.size 9 1 v' N.length (N.map Value.string)∧(∀r∈V,∀a,r.A=some a→w.heap.size<a.block)∧Below w.heap.size w w'
theorem zj7{w:World}{B B' n:Nat}{e:TypeId}{size:Nat}{v:Value}{xs:List Value}(h:w.ownsRow B e size v n xs)(hB:B'≤B):w.ownsRow B' e size v n xs:=by
 refine⟨h.1,?_⟩;rcases h.2 with h2|⟨g,cap,cur,hv,hg,r⟩
 ·exact .inl h2
 ·exact .inr ⟨g,cap,cur,hv,Nat.le_trans hB hg,r⟩
theorem js.mono{w:World}{B B':Nat}{v:Value}{V:List Sl}(h:js w B v V)(hB:B'≤B):js w B' v V:=⟨zj7 h.own hB,h.each,h.apart⟩
theorem zaB.row{w w':World}{R p:Nat}{v:Value}{g:Option Nat}(h:zaB w R v p)(hg:w.grownBy w' g)(hne:some R≠g):zaB w' R v p :=
 ⟨hg.cell h.c0 hne,hg.cell h.c1 hne,(World.frozen?_of_block (w:=w) (hg.block R h.lt hne)).trans h.f1⟩
def zfd(R:Nat)(V:List Sl):Prop:=∀r∈V,∀a,r.A=some a→R<a.block
theorem zfd.apart{R:Nat}{V:List Sl}(h:zfd R V):∀r∈V,zaA r (some R):=fun r hr _ a e q=>by
 have:=h r hr a e;injection q with q;omega
theorem zfd.snoc{R:Nat}{V:List Sl}{r:Sl}(h:zfd R V)(hr:∀a,r.A=some a→R<a.block):zfd R (V ++ [r]):=by
 intro x hx;rcases List.mem_append.1 hx with h1|h1
 ·exact h x h1
 ·simp only [List.mem_cons,List.not_mem_nil,or_false] at h1;subst h1;exact hr
theorem zg7{w:World}{B n:Nat}{e:TypeId}{size:Nat}{v:Value}{xs:List Value}(h:w.ownsRow B e size v n xs){R:Nat}(hR:R<B):v.ownBlock=none∨v.ownBlock≠some R:=by
 rcases hv:v.ownBlock with _|g
 ·exact .inl rfl
 ·have:=jB h g hv;exact .inr (fun q=>by injection q with q;omega)
theorem zfT{w:World}{B n:Nat}{e:TypeId}{size:Nat}{v:Value}{xs:List Value}(h:w.ownsRow B e size v n xs){R:Nat}(hR:R<B):some R≠v.ownBlock:=by
 rcases zg7 h hR with h|h
 ·rw [h];simp
 ·exact fun q=>h q.symm
theorem zgT{w:World}{a:Addr}{n c:Nat}{P:List Nd}(h:Ns w (some a) n c P){i j:Nat}(h1:i≤j)(h2:j≤n):Ns w (some (a.add (i*4))) (j-i) (c-i) (seg P i j):=by
 have:=h.len;have:=h.cap;have:=h.max;exact⟨(zaQ (by omega)).symm,by omega,by omega,h.at_.seg i j,h.ok.seg i j⟩
theorem zjv{v:List Nd}{f:Nat→Option Nat}{N k:Nat}{q n:Nat}(hk:k<N)(h:∃lo,zI v f (N-k) lo q=some n):
 ∃e,f q=some e∧(∃lo,zI v f (N-(k+1)) lo e=some n)∧zam v f (N-k) q=seg v q e :: zam v f (N-(k+1)) e:=by
 obtain⟨lo,h⟩:=h;obtain⟨j,hj⟩:∃j,N-k=j+1:=⟨N-k-1,by omega⟩
 rw [hj] at h;rw [hj,show N-(k+1)=j by omega];simp only [zI] at h;rcases hf:f q with _|e
 ·rw [hf] at h;cases h
 ·rw [hf] at h;simp only at h;split at h
  ·exact⟨e,rfl,⟨_,h⟩,by simp only [zam,hf]⟩
  ·cases h
theorem zmk(A:Option Addr)(n c:Nat)(P:List Nd)(w:World)(h:Ns w A n c P)(hv:zD P=0)(h5:zk P=5):
 Calls Tryz.prog 98 #[.slice A n c] w (zhF w (zm P) []):=by
 obtain⟨i0,hi,hz0,hz1,hz2⟩:=info_parts zld;obtain⟨h200,hV⟩:=zbf.1 hv;have hpos:=hV.pos;obtain⟨a,rfl,D⟩:=h.at_.nd hpos;have hn:=h.len;obtain⟨hs0,_,hop,hx0,hN⟩:=zmX hV h5;have hE:zm P=zam P (zh P (P.length+1)) P[0].n.toNat 1:=by unfold zm;rw [hN]
 rw [hN] at hs0;obtain⟨-,-,-,hhi⟩:=h.ok.at hpos;have K:=hi9 (fun q w' (hb:Below w.heap.size w w') rd hq=>zeo (some a) P n c w.heap.size hn h.cap h.max h.ok (fun h0 a' e=>by have:=h.at_.lt h0 a' e;omega) (P.length+1) q w' rd (h.at_.keep hb) (by omega:n-q<P.length+1));have HN:=hi9 h;have HL:=hi9 hn;have H0:=hi9 hs0;have HE:=hi9 hE;rw [show a.add (0*4)=a from rfl] at D;obtain⟨d0,d1,d2,d3⟩:=D;have r0:zaB (w.alloc (.cells #[.slice (some a) n c,.int .i64 1] 116)) w.heap.size (.slice (some a) n c) 1:=⟨by simp,by simp,by simp⟩
 rw [hop] at d0;have d1':=fun o:Obj=>zb (za w o) d1;generalize P[0]=x at *;have hn200:n≤200:=by omega
 have hn1:0<n:=by omega
 clear h hv h5 hV hn hs0 hE hN h200 hop;go_enter Tryz.func98,Tryz.ntmps98;go_wp2_with fail;clear d1';go_loopw [2,3,12] (fun v v' i wr=>∃(k q:Nat) (V:List Sl),i = .int .i64 k∧v' = .slice none 0 0∧(k:Int)≤x.n∧q≤n∧k+1≤q∧V.length=k∧Hid (zm P=V.map Sl.P ++ zam P (zh P (P.length+1)) (x.n.toNat-k) q)∧
  Hid (∃lo,zI P (zh P (P.length+1)) (x.n.toNat-k) lo q=some P.length)∧Hid (js wr (w.heap.size+1) v V)∧Hid (zfd w.heap.size V)∧Hid (zaB wr w.heap.size (.slice (some a) n c) q)∧Hid (Below w.heap.size w wr)) (fun _ _ i _=>(x.n-intOf i).toNat)
 case atStart=>exact⟨0,1,[],rfl,rfl,hx0,hn1,by omega,rfl,HE.out,⟨none,H0.out⟩,js.nil _ _,(by intro r hr;cases hr),r0,za _ _⟩
 case round =>
  obtain⟨k,q,V,rfl,rfl,hk,hq,hkq,hVl,hE,hS,hO,hLt,hrd,hB⟩:=hrel;have e0:=zb hB.out d0;by_cases hlt:(k:Int)<x.n
  ·obtain⟨e,hf,hS',hsp⟩:=zjv (by omega) hS.out;have hle:=jw _ _ _ hf;rw [←HL.out] at hle;have C:=hi9 (K.out q wr hB.out hrd.out (by rw [←HL.out];omega));rw [hf] at C;have HE2:=hi9 (hE.out.trans (by rw [hsp]:_=V.map Sl.P ++(seg P q e :: zam P (zh P (P.length+1)) (x.n.toNat-(k+1)) e)));have HS2:=hi9 hS';clear hE hS hS' hsp hf;go_wp2_with fail;refine C.out.mono ?_;rintro e' w2 hpost;obtain⟨rfl,r2,g2⟩:=hpost;have B2:=hi9 (hB.out.trans (jt g2 (Nat.le_refl _) hB.out.size));have O2:=hO.out.row g2 (zg7 hO.out.own (by omega)) hLt.out.apart;have CL:=hi9 (zff (a.add (q*4)) (e-q) (c-q) (seg P q e) w2 (zgT (HN.out.keep B2.out) (by omega) hle.2) (by rw [zaQ (by rw [←HL.out];omega)];omega));have R2:=hi9 r2;have OO2:=hi9 O2;have hsz2:=B2.out.size;have hsz3:w.heap.size<w2.heap.size:=R2.out.lt;clear O2 r2 g2 hO hB hrd;go_wp2_with fail;refine CL.out.mono ?_;rintro e' w3 hpost;obtain⟨A3,c3,rfl,n3,l3,b3⟩:=hpost;have B3:=bh B2 b3;have hO3:=OO2.out.keep b3;have hR3:=R2.out.keep b3;have O3:=hi9 hO3;have R3:=hi9 hR3;have N3:=hi9 (show Ns w3 (⟨A3,(seg P q e).length,c3,seg P q e⟩:Sl).A _ _ _ from n3);have L3:=hi9 (hLt.out.snoc (r:=⟨A3,(seg P q e).length,c3,seg P q e⟩) (fun a' h'=>by have:=l3 a' h';omega));have A3p:Hid (zaA ⟨A3,(seg P q e).length,c3,seg P q e⟩ u2.ownBlock):=by
    intro h0 a' e' q';have h1:=zcc OO2.out.own a'.block q';have h2:=l3 a' e';omega
   have hsz4:=B3.out.size;have hsz5:=b3.size;clear b3 n3 l3 hO3 hR3 OO2 R2 B2 hLt;go_wp2_with (at_builtin;refine wpList_append_own_at _ rfl _ _ 97 rfl (w.heap.size+1) 26 i0 _ 1 24 Tryz.underlying97 hi hz0 hz1 hz2 rfl (by decide) _ V.length (V.map Sl.v) rfl (O3.out.own.alloc _) ⟨_,0,none⟩ 1 1 [.slice A3 (seg P q e).length c3] rfl rfl (cell_one_new _ _ _) (by intro u hu;simp only [List.mem_cons,List.not_mem_nil,or_false] at hu;subst hu;rfl) ?c1 ?c2 ?c3 ?_)
   case c1=>unfold maxLen;omega
   case c2=>omega
   case c3=>simp;omega
   intro v1 w4 hown hgrow _ hat;have B4:=hi9 ((B3.out.alloc B3.out.size _).grown hgrow (by simp;omega) (fun g hg=>by have:=jB O3.out.own g hg;omega));have R4:=hi9 ((R3.out.keep (za w3 _)).row hgrow (zfT O3.out.own (by omega)));have O4:=hi9 (O3.out.snoc (r:=⟨A3,(seg P q e).length,c3,seg P q e⟩) N3.out A3p.out (by rw [hVl];exact hown) hgrow (by simpa using hat));have HE4:=hi9 (HE2.out.trans (show _=(V ++ [(⟨A3,(seg P q e).length,c3,seg P q e⟩:Sl)]).map Sl.P ++ zam P (zh P (P.length+1)) (x.n.toNat-(k+1)) e by simp));have hl4:(V ++ [(⟨A3,(seg P q e).length,c3,seg P q e⟩:Sl)]).length=k+1:=by simp [hVl]
   clear hown hgrow hat O3 R3 N3 A3p HE2 B3;go_wp2_with fail;go_roundw
   case rel=>exact⟨k+1,e,_,by go_num,rfl,by omega,by omega,by omega,hl4,HE4,HS2,O4,L3,R4,B4⟩
   case measure=>simp [intOf];omega
  ·have HG:=hi9 (hE.out.trans (show _=V.map Sl.P by rw [show x.n.toNat-k=0 by omega];simp [zam]));clear hE hS hrd;go_wp2_with fail;go_ret2;exact⟨_,_,V,rfl,hO.out.mono (by omega),HG.out.symm,World.ownsRow_nil _ _ _ 1,hLt.out,hB.out⟩
end Go.Proofs.YtlkfaliomdbaoaaGreatDoor
namespace Go.Wk
theorem zj8{v:List Nd}{f:Nat→Option Nat}{N k:Nat}{q n:Nat}(hk:k<N)(h:∃lo,zH v f (N-k) lo q=some n):
 ∃(hq:q<v.length) (e:Nat),f (q+1)=some e∧(∃lo,zH v f (N-(k+1)) lo e=some n)∧zan v f (N-k) q=(v[q].s,seg v (q+1) e):: zan v f (N-(k+1)) e:=by
 obtain⟨lo,h⟩:=h;obtain⟨j,hj⟩:∃j,N-k=j+1:=⟨N-k-1,by omega⟩
 rw [hj] at h;rw [hj,show N-(k+1)=j by omega];simp only [zH] at h;by_cases hq:q<v.length
 ·refine⟨hq,?_⟩;split at h
  ·cases h
  ·rename_i s hs;rcases hf:f (q+1) with _|e
   ·rw [hf] at h;cases h
   ·rw [hf] at h;exact⟨e,rfl,⟨_,h⟩,by simp only [zan,hf];unfold zoO;rw [List.getElem?_eq_getElem hq]⟩
 ·rw [zfe (by omega)] at h;cases h
end Go.Wk
namespace Go.Proofs.YtlkfaliomdbaoaaGreatDoor
open Go.RowKit Go.Wk Go.Sort
structure jS(w:World)(B:Nat)(v v':Value)(V:List Sl)(N:List ByteArray):Prop where
 a:js w B v V
 b:w.ownsRow B 9 1 v' N.length (N.map Value.string)
 ab:v.ownBlock=none∨v.ownBlock≠v'.ownBlock
 ap:∀r∈V,zaA r v'.ownBlock
theorem jS.keep{w w':World}{B:Nat}{v v':Value}{V:List Sl}{N:List ByteArray}(h:jS w B v v' V N)(hb:Below w.heap.size w w'):jS w' B v v' V N :=
 ⟨h.a.keep hb,zaK h.b hb,h.ab,h.ap⟩
theorem jS.other{w w':World}{B R:Nat}{v v':Value}{V:List Sl}{N:List ByteArray}(h:jS w B v v' V N)(hg:w.grownBy w' (some R))(hR:R<B)(hL:zfd R V):jS w' B v v' V N :=
 ⟨h.a.row hg (zg7 h.a.own hR) hL.apart,h.b.kept hg (zg7 h.b hR),h.ab,h.ap⟩
theorem zo1:(Tryz.prog.info? 9).map (fun i=>(i.zero,i.size,i.bytes))=some (some (.string ⟨#[]⟩),1,16):=by kernel_rfl
theorem jS.name{w w':World}{B:Nat}{v v' v1:Value}{V:List Sl}{N:List ByteArray}{s:ByteArray}{o:Obj}(h:jS w B v v' V N)
 (hown:w'.ownsRow B 9 1 v1 (N.length+1) (N.map Value.string ++ [.string s])) (hg:(w.alloc o).grownBy w' v'.ownBlock) (hat:v1.ownBlock=v'.ownBlock∨v1.ownBlock=some (w.alloc o).heap.size):jS w' B v v1 V (N ++ [s]):=by
 have hba:Below w.heap.size w (w.alloc o):=za w o;refine⟨(h.a.keep hba).row hg h.ab h.ap,by simpa using hown,?_,fun r hr h0 a e=>?_⟩
 ·rcases hv:v.ownBlock with _|g
  ·exact .inl rfl
  ·have hlt:=zcc h.a.own g hv;refine .inr ?_;rcases hat with q|q
   ·rw [q,←hv];rcases h.ab with z|z
    ·rw [hv] at z;cases z
    ·exact z
   ·rw [q];intro z;injection z with z;simp at z;omega
 ·rcases hat with q|q
  ·rw [q];exact h.ap r hr h0 a e
  ·rw [q];have:=(h.a.each r hr).at_.lt h0 a e;intro z;injection z with z;simp at z;omega
theorem jS.part{w w':World}{B:Nat}{v v' v1:Value}{V:List Sl}{N:List ByteArray}{r:Sl}{o:Obj}(h:jS w B v v' V N)(hr:Ns w r.A r.n r.c r.P)(ha:zaA r v.ownBlock)(ha':zaA r v'.ownBlock)
 (hown:w'.ownsRow B 26 1 v1 (V.length+1) (V.map Sl.v ++ [r.v])) (hg:(w.alloc o).grownBy w' v.ownBlock) (hat:v1.ownBlock=v.ownBlock∨v1.ownBlock=some (w.alloc o).heap.size):jS w' B v1 v' (V ++ [r]) N:=by
 have hba:Below w.heap.size w (w.alloc o):=za w o;refine⟨h.a.snoc hr ha hown hg hat,(zaK h.b hba).kept hg ?_,?_,?_⟩
 ·rcases h.ab with z|z
  ·rw [z];cases v'.ownBlock <;> simp
  ·exact .inr (fun q=>z q.symm)
 ·rcases hv:v1.ownBlock with _|g
  ·exact .inl rfl
  ·refine .inr ?_;rcases hat with q|q
   ·rcases h.ab with z|z
    ·rw [hv,z] at q;cases q
    ·rw [←hv,q];exact z
   ·intro z;have:=zcc h.b g z.symm;rw [hv] at q;injection q with q;simp at q;omega
 ·intro x hx;rcases List.mem_append.1 hx with h1|h1
  ·exact h.ap x h1
  ·simp only [List.mem_cons,List.not_mem_nil,or_false] at h1;subst h1;exact ha'
theorem zmi(A:Option Addr)(n c:Nat)(P:List Nd)(w:World)(h:Ns w A n c P)(hv:zD P=0)(h6:zk P=6):
 Calls Tryz.prog 98 #[.slice A n c] w (zhF w ((zi P).map (·.2)) ((zi P).map (·.1))):=by
 obtain⟨i0,hi,hz0,hz1,hz2⟩:=info_parts zld;obtain⟨j0,hj,jz0,jz1,jz2⟩:=info_parts zo1;obtain⟨h200,hV⟩:=zbf.1 hv;have hpos:=hV.pos;obtain⟨a,rfl,D⟩:=h.at_.nd hpos;have hn:=h.len;obtain⟨hs0,_,hop,hx0,hN⟩:=znt hV h6;have hE:zi P=zan P (zh P (P.length+1)) P[0].n.toNat 1:=by unfold zi;rw [hN]
 rw [hN] at hs0;obtain⟨-,-,-,hhi⟩:=h.ok.at hpos;have K:=hi9 (fun q w' (hb:Below w.heap.size w w') rd hq=>zeo (some a) P n c w.heap.size hn h.cap h.max h.ok (fun h0 a' e=>by have:=h.at_.lt h0 a' e;omega) (P.length+1) q w' rd (h.at_.keep hb) (by omega:n-q<P.length+1));have HN:=hi9 h;have HL:=hi9 hn;have H0:=hi9 hs0;have HE:=hi9 hE;rw [show a.add (0*4)=a from rfl] at D;obtain⟨d0,d1,d2,d3⟩:=D;have r0:zaB (w.alloc (.cells #[.slice (some a) n c,.int .i64 1] 116)) w.heap.size (.slice (some a) n c) 1:=⟨by simp,by simp,by simp⟩
 rw [hop] at d0;have d1':=fun o:Obj=>zb (za w o) d1;generalize P[0]=x at *;have hn200:n≤200:=by omega
 have hn1:0<n:=by omega
 clear h hv h6 hV hn hs0 hE hN h200 hop;go_enter Tryz.func98,Tryz.ntmps98;go_wp2_with fail;clear d1';go_loopw [2,3,12] (fun v v' i wr=>∃(k q:Nat) (V:List Sl) (X:List (ByteArray × List Nd)),i = .int .i64 k∧(k:Int)≤x.n∧q≤n∧k+1≤q∧V.length=k∧X.length=k∧Hid (V.map Sl.P=X.map (·.2))∧Hid (zi P=X ++ zan P (zh P (P.length+1)) (x.n.toNat-k) q)∧
  Hid (∃lo,zH P (zh P (P.length+1)) (x.n.toNat-k) lo q=some P.length)∧Hid (jS wr (w.heap.size+1) v v' V (X.map (·.1)))∧Hid (zfd w.heap.size V)∧Hid (zaB wr w.heap.size (.slice (some a) n c) q)∧Hid (Below w.heap.size w wr)) (fun _ _ i _=>(x.n-intOf i).toNat)
 case atStart=>exact⟨0,1,[],[],rfl,hx0,hn1,by omega,rfl,rfl,rfl,HE.out,⟨_,H0.out⟩,⟨js.nil _ _,World.ownsRow_nil _ _ _ 1,.inl rfl,(by intro r hr;cases hr)⟩,(by intro r hr;cases hr),r0,za _ _⟩
 case round =>
  obtain⟨k,q,V,X,rfl,hk,hq,hkq,hVl,hXl,hVX,hE,hS,hT,hLt,hrd,hB⟩:=hrel;have e0:=zb hB.out d0;by_cases hlt:(k:Int)<x.n
  ·obtain⟨hq',e,hf,hS',hsp⟩:=zj8 (by omega) hS.out;have hle:=jw _ _ _ hf;rw [←HL.out] at hle;have hqn:q<n:=by omega
   obtain⟨a',ha',⟨-,-,q2,-⟩⟩:=(HN.out.at_.keep hB.out).nd hq';injection ha' with ha';subst ha';have HE2:=hi9 (hE.out.trans (by rw [hsp]:_=X ++((P[q].s,seg P (q+1) e):: zan P (zh P (P.length+1)) (x.n.toNat-(k+1)) e)));have HS2:=hi9 hS';have HF:=hi9 hf;have hsg:(seg P (q+1) e).length=e-(q+1):=zaQ (by rw [←HL.out];omega);have HSG:=hi9 hsg;generalize P[q].s=nm at *;obtain⟨c0,c1,f1⟩:=hrd.out;have hsz1:=hB.out.size;have hRl:=hrd.out.lt;clear hE hS hS' hsp hf hsg;go_wp2_with (at_builtin;refine wpList_append_own_at _ rfl _ _ 42 rfl (w.heap.size+1) 9 j0 _ 1 16 Tryz.underlying42 hj jz0 jz1 jz2 rfl (by decide) _ (X.map (·.1)).length ((X.map (·.1)).map Value.string) rfl (hT.out.b.alloc _) ⟨_,0,none⟩ 1 1 [.string nm] rfl rfl (cell_one_new _ _ _) (by intro u hu;simp only [List.mem_cons,List.not_mem_nil,or_false] at hu;subst hu;rfl) ?c1 ?c2 ?c3 ?_)
   case c1=>simp;unfold maxLen;omega
   case c2=>simp;omega
   case c3=>simp;omega
   intro v1 w1 hown hgrow _ hat;have T1:=hi9 (hT.out.name (s:=nm) (by simpa [hXl] using hown) hgrow (by simpa using hat));have B1:=hi9 ((hB.out.alloc hB.out.size _).grown hgrow (by simp;omega) (fun g hg=>by have:=jB hT.out.b g hg;omega));have R1:=hi9 ((hrd.out.keep (za wr _)).row hgrow (zfT hT.out.b (by omega)));have R2:=hi9 (R1.out.put (q+1));have T2:=hi9 (T1.out.other (R:=w.heap.size) (zg w1 ⟨w.heap.size,1,none⟩ (.int .i64 (q+1:Nat))) (by omega) hLt.out);have B2:=hi9 (B1.out.setCell (p:=⟨w.heap.size,1,none⟩) (Nat.le_refl _) (.int .i64 (q+1:Nat)));have hRl1:=R1.out.lt;obtain⟨c0',c1',f1'⟩:=R1.out;have C:=hi9 (K.out (q+1) _ B2.out R2.out (by rw [←HL.out];omega));rw [HF.out] at C;clear hown hgrow hat hT hB hrd c0 c1 f1 q2 T1 B1 R1;go_wp2_with fail;refine C.out.mono ?_;rintro e' w3 hpost;obtain⟨rfl,r3,g3⟩:=hpost;have B3:=hi9 (B2.out.trans (jt g3 (Nat.le_refl _) B2.out.size));have T3:=hi9 (T2.out.other g3 (by omega) hLt.out);have CL:=hi9 (zff (a.add ((q+1)*4)) (e-(q+1)) (c-(q+1)) (seg P (q+1) e) w3 (zgT (HN.out.keep B3.out) (by omega) hle.2) (by rw [HSG.out];omega));have R3:=hi9 r3;have hsz2:=B3.out.size;have hsz3:w.heap.size<w3.heap.size:=R3.out.lt;clear r3 g3 T2 B2 R2 c0' c1' f1';go_wp2_with fail;refine CL.out.mono ?_;rintro e' w4 hpost;obtain⟨A3,c3,rfl,n3,l3,b4⟩:=hpost;have B4:=bh B3 b4;have T4:=hi9 (T3.out.keep b4);have R4:=hi9 (R3.out.keep b4);have N4:=hi9 (show Ns w4 (⟨A3,(seg P (q+1) e).length,c3,seg P (q+1) e⟩:Sl).A _ _ _ from n3);have L4:=hi9 (hLt.out.snoc (r:=⟨A3,(seg P (q+1) e).length,c3,seg P (q+1) e⟩) (fun a' h'=>by have:=l3 a' h';omega));have A4:Hid (zaA ⟨A3,(seg P (q+1) e).length,c3,seg P (q+1) e⟩ u2.ownBlock):=by
    intro h0 a' e' q';have h1:=zcc T3.out.a.own a'.block q';have h2:=l3 a' e';omega
   have A5:Hid (zaA ⟨A3,(seg P (q+1) e).length,c3,seg P (q+1) e⟩ v1.ownBlock):=by
    intro h0 a' e' q';have h1:=zcc T3.out.b a'.block q';have h2:=l3 a' e';omega
   have hsz4:=B4.out.size;have hsz5:=b4.size;clear b4 n3 l3 T3 R3 B3 hLt;go_wp2_with (at_builtin;refine wpList_append_own_at _ rfl _ _ 97 rfl (w.heap.size+1) 26 i0 _ 1 24 Tryz.underlying97 hi hz0 hz1 hz2 rfl (by decide) _ V.length (V.map Sl.v) rfl (T4.out.a.own.alloc _) ⟨_,0,none⟩ 1 1 [.slice A3 (seg P (q+1) e).length c3] rfl rfl (cell_one_new _ _ _) (by intro u hu;simp only [List.mem_cons,List.not_mem_nil,or_false] at hu;subst hu;rfl) ?d1 ?d2 ?d3 ?_)
   case d1=>unfold maxLen;omega
   case d2=>omega
   case d3=>simp;omega
   intro v2 w5 hown hgrow _ hat;have B5:=hi9 ((B4.out.alloc B4.out.size _).grown hgrow (by simp;omega) (fun g hg=>by have:=jB T4.out.a.own g hg;omega));have R5:=hi9 ((R4.out.keep (za w4 _)).row hgrow (zfT T4.out.a.own (by omega)));have T5:=hi9 (T4.out.part (r:=⟨A3,(seg P (q+1) e).length,c3,seg P (q+1) e⟩) N4.out A4.out A5.out (by rw [hVl];exact hown) hgrow (by simpa using hat));have HE5:=hi9 (HE2.out.trans (show _=(X ++ [(nm,seg P (q+1) e)])++ zan P (zh P (P.length+1)) (x.n.toNat-(k+1)) e by simp));have hl5:(V ++ [(⟨A3,(seg P (q+1) e).length,c3,seg P (q+1) e⟩:Sl)]).length=k+1:=by simp [hVl]
   have hl6:(X ++ [(nm,seg P (q+1) e)]).length=k+1:=by simp [hXl]
   have HV5:=hi9 (show(V ++ [(⟨A3,(seg P (q+1) e).length,c3,seg P (q+1) e⟩:Sl)]).map Sl.P=(X ++ [(nm,seg P (q+1) e)]).map (·.2) by
    rw [List.map_append,List.map_append,hVX.out];rfl)
   have T6:=hi9 (show jS w5 (w.heap.size+1) v2 v1 (V ++ [(⟨A3,(seg P (q+1) e).length,c3,seg P (q+1) e⟩:Sl)]) ((X ++ [(nm,seg P (q+1) e)]).map (·.1)) by
    rw [List.map_append];exact T5.out)
   clear hown hgrow hat R4 N4 A4 A5 HE2 B4 T5;go_wp2_with fail;go_roundw
   case rel=>exact⟨k+1,e,_,_,by go_num,by omega,by omega,by omega,hl5,hl6,HV5,HE5,HS2,T6,L4,R5,B5⟩
   case measure=>simp [intOf];omega
  ·have HG:=hi9 (hE.out.trans (show _=X by rw [show x.n.toNat-k=0 by omega];simp [zan]));clear hE hS hrd;go_wp2_with fail;go_ret2;exact⟨_,_,V,rfl,hT.out.a.mono (by omega),by rw [HG.out];exact hVX.out,by rw [HG.out];exact zj7 hT.out.b (by omega),hLt.out,hB.out⟩
end Go.Proofs.YtlkfaliomdbaoaaGreatDoor
namespace Go.Wk
def zdo(P:List Nd):Int:=if zD P=0 then(if zk P=5∨zk P=6 then 0 else 2) else zD P
def zeP(P:List Nd):List (List Nd):=if zdo P=0 then(if zk P=5 then zm P else(zi P).map (·.2)) else []
theorem zmw{P:List Nd}(h:0<P.length):zk P=P[0].op:=by
 rcases P with _|⟨x,r⟩
 ·simp at h
 ·rfl
end Go.Wk
namespace Go.Proofs.YtlkfaliomdbaoaaGreatDoor
open Go.RowKit Go.Wk Go.Sort
theorem zca{A:Option Addr}{n c:Nat}{P:List Nd}{w:World}(h:Ns w A n c P):Calls Tryz.prog 26 #[.slice A n c] w fun e w'=>e = .returned (jE (zD P))∧Below w.heap.size w w' :=
 zmf A n c P w h.len h.cap h.max h.at_ h.ok
def zmN(w:World)(P:List Nd)(e:Ending)(w':World):Prop :=
 ∃(v:Value) (V:List Sl),e = .returned (.tuple #[v,jE (zdo P)])∧js w' w.heap.size v V∧V.map Sl.P=zeP P∧(∀r∈V,∀a,r.A=some a→w.heap.size≤a.block)∧Below w.heap.size w w'
theorem zhU(A:Option Addr)(n c:Nat)(P:List Nd)(w:World)(h:Ns w A n c P):
 Calls Tryz.prog 63 #[.slice A n c] w (zmN w P):=by
 have K:=hi9 (zca h);have H:=hi9 h;by_cases h0:zD P=0
 ·have hV:=(zbf.1 h0).2;have hpos:=hV.pos;obtain⟨a,rfl,D⟩:=h.at_.nd hpos;rw [show a.add (0*4)=a from rfl] at D;have hn1:0<n:=by rw [h.len];exact hpos
  have d0:=D.c0;rw [←zmw hpos] at d0;rw [h0,zr] at K;by_cases h5:zk P=5
  ·have S:=hi9 (fun w' hb=>zmk (some a) n c P w' (h.keep hb) h0 h5);have hE:zdo P=0:=by unfold zdo;rw [if_pos h0,if_pos (.inl h5)]
   have HL:=hi9 (show zeP P=zm P by unfold zeP;rw [if_pos hE,if_pos h5]);have HE:=hi9 hE;rw [h5] at d0;clear h h0 hV D h5 hE;go_enter Tryz.func63,Tryz.ntmps63;go_wp2_with fail;refine(K.out).mono ?_;rintro e w1 ⟨rfl,b1⟩;replace d0:=zb b1 d0;have B1:=hi9 b1;clear b1;go_wp2_with fail;refine(S.out _ B1.out).mono ?_;rintro e w2 ⟨v,v',V,rfl,hO,hVL,-,hF,b2⟩;have HF:=hi9 (fun r hr a h=>Nat.le_trans B1.out.size (Nat.le_of_lt (hF r hr a h)));have HO:=hi9 (hO.mono B1.out.size);have HV:=hi9 (hVL.trans HL.out.symm);have B2:=bh B1 b2;clear hO hVL hF b2;go_wp2_with fail;go_ret2;exact⟨v,V,by rw [HE.out];rfl,HO.out,HV.out,HF.out,B2.out⟩
  ·by_cases h6:zk P=6
   ·have S:=hi9 (fun w' hb=>zmi (some a) n c P w' (h.keep hb) h0 h6);have hE:zdo P=0:=by unfold zdo;rw [if_pos h0,if_pos (.inr h6)]
    have HL:=hi9 (show zeP P=(zi P).map (·.2) by unfold zeP;rw [if_pos hE,if_neg h5]);have HE:=hi9 hE;rw [h6] at d0;clear h h0 hV D h5 h6 hE;go_enter Tryz.func63,Tryz.ntmps63;go_wp2_with fail;refine(K.out).mono ?_;rintro e w1 ⟨rfl,b1⟩;replace d0:=zb b1 d0;have B1:=hi9 b1;clear b1;go_wp2_with fail;refine(S.out _ B1.out).mono ?_;rintro e w2 ⟨v,v',V,rfl,hO,hVL,-,hF,b2⟩;have HF:=hi9 (fun r hr a h=>Nat.le_trans B1.out.size (Nat.le_of_lt (hF r hr a h)));have HO:=hi9 (hO.mono B1.out.size);have HV:=hi9 (hVL.trans HL.out.symm);have B2:=bh B1 b2;clear hO hVL hF b2;go_wp2_with fail;go_ret2;exact⟨v,V,by rw [HE.out];rfl,HO.out,HV.out,HF.out,B2.out⟩
   ·have hE:zdo P=2:=by unfold zdo;rw [if_pos h0,if_neg (by omega)]
    have HL:=hi9 (show zeP P = [] by unfold zeP;rw [if_neg (by omega)]);have HE:=hi9 hE;have g5:(zk P != 5)=true:=by rw [bne_iff_ne];exact h5
    have g6:(zk P != 6)=true:=by rw [bne_iff_ne];exact h6
    clear h h0 hV D h5 h6 hE;go_enter Tryz.func63,Tryz.ntmps63;go_wp2_with fail;refine(K.out).mono ?_;rintro e w1 ⟨rfl,b1⟩;replace d0:=zb b1 d0;have B1:=hi9 b1;clear b1;go_wp2_with fail;go_ret2;exact⟨_,[],by rw [HE.out];rfl,js.nil _ _,HL.out.symm,(by intro r hr;cases hr),B1.out⟩
 ·have hE:zdo P=zD P:=by unfold zdo;rw [if_neg h0]
  have HL:=hi9 (show zeP P = [] by unfold zeP;rw [if_neg (by rw [hE];exact h0)]);have HE:=hi9 hE;rw [zA h0] at K;have HX:=hi9 (zA h0);clear h h0 hE;go_enter Tryz.func63,Tryz.ntmps63;go_wp2_with fail;refine(K.out).mono ?_;rintro e w1 ⟨rfl,b1⟩;go_wp2_with fail;go_ret2;exact⟨_,[],by rw [HE.out,HX.out];rfl,js.nil _ _,HL.out.symm,(by intro r hr;cases hr),b1⟩
end Go.Proofs.YtlkfaliomdbaoaaGreatDoor
