/-
  What slices that come in are made of: nodes. Slices of slices of nodes: how they lie; those that a call collects; slices.Clone of nodes. val.split: the parts ..
-/
import Derived.Deep.Slices
import Derived.Maps.AppendAt
import Derived.Lib.SlicesS
import Derived.Test.YtjcdeikbghjpkaaGreatDoorQ1
import Derived.Test.YtjcdeikbghjpkaaGreatDoorQ3
import Derived.Test.YtjcdeikbghjpkaaGreatDoorQ5
import Derived.Test.YtjcdeikbghjpkaaGreatDoorQ17
set_option maxRecDepth 100000
set_option maxHeartbeats 8000000
namespace Go.Wk
open Go.ChangeShapes Go.WideShapes Go.RowKit Go.Deep
section
variable {P:Program} {w:World} {t:TypeId} {cs:List Value}
theorem zhv{α:Type}(n:Nat)(R:Nat→α→Prop)(h:∀i,i<n→∃x,R i x):∃l:List α,l.length=n∧∀k x,l[k]?=some x→R k x:=by
 induction n with
 | zero=>exact⟨[],rfl,fun k x hx=>by simp at hx⟩
 | succ n ih =>
  obtain⟨l,hl,hr⟩:=ih (fun i hi=>h i (by omega))
  obtain⟨y,hy⟩:=h n (by omega)
  refine⟨l ++ [y],by simp [hl],fun k x hx=>?_⟩
  by_cases hk:k<n
  ·rw [List.getElem?_append_left (by omega)] at hx;exact hr k x hx
  ·rw [List.getElem?_append_right (by omega)] at hx
   by_cases hk2:k=n
   ·subst hk2;rw [hl,Nat.sub_self] at hx;simp only [List.getElem?_cons_zero,Option.some.injEq] at hx;subst hx;exact hy
   ·have:k-l.length≠0:=by omega
    obtain⟨j,hj⟩:∃j,k-l.length=j+1:=⟨k-l.length-1,by omega⟩
    rw [hj] at hx;simp at hx
theorem zfX{e:TypeId}(ht:P.underlying t=some (.slice e))(h:Rd P w t cs):
 ∃(A:Option Addr) (n c:Nat),cs = [.slice A n c]∧n≤c∧c≤maxLen∧∀i,i<n→∃a,A=some a∧∃cs':List Value,cs'.length=P.cellsOf e∧(∀j,j<P.cellsOf e→w.cell? (a.add (i*P.cellsOf e+j))=cs'[j]?)∧Rd P w e cs':=by
 obtain⟨H,enc,b,sp,hd,f,x,hx⟩:=h;rcases open_slice ht hx with ⟨h0,_⟩|⟨a,len,cap,m,n,D,Pl,hcs,hb,hl,hm,hmm,hx,hi⟩
 ·exact⟨none,0,0,h0,Nat.le_refl _,by unfold maxLen;omega,fun i hi=>by omega⟩
 ·refine⟨some a,len,cap,hcs,hl,hm,fun i hil=>⟨a,rfl,?_⟩⟩;obtain⟨cs',hc,ht'⟩:=hi i (by rw [hmm];split <;> omega);obtain⟨_,hcl,hat⟩:=World.cells?_some hc;refine⟨cs',hcl,fun j hj=>?_,⟨H,enc,b,sp,hd,n,_,ht'⟩⟩;have:=hat j hj;rw [←Go.Deep.add_add];exact this
end
end Go.Wk
namespace Go.Proofs.YtjcdeikbghjpkaaGreatDoor
open Go.Wk Go.ChangeShapes Go.WideShapes Go.RowKit
structure Ns(w:World)(A:Option Addr)(n c:Nat)(P:List Nd):Prop where
 len:n=P.length
 cap:n≤c
 max:n≤maxLen
 at_:jM w A P
 ok:zaj P
theorem Ns.keep{w w':World}{A:Option Addr}{n c:Nat}{P:List Nd}(h:Ns w A n c P)(hb:Below w.heap.size w w'):Ns w' A n c P:=⟨h.len,h.cap,h.max,h.at_.keep hb,h.ok⟩
theorem Ns.same{w:World}{A B:Option Addr}{n c m d:Nat}{P Q:List Nd}(h:Ns w A n c P)(k:Ns w B m d Q):
 Calls Tryz.prog 8 #[.slice A n c,.slice B m d] w fun e w'=>e = .returned (.bool (decide (zW P Q=0)))∧Below w.heap.size w w' :=
 zmR A B n m c d P Q w h.len k.len h.max k.max h.at_ k.at_
theorem ziq:Tryz.prog.cellsOf 41=4:=by kernel_rfl
theorem zju:Tryz.prog.cellsOf 3=1:=by kernel_rfl
theorem zri{w:World}{cs:List Value}(h:Rd Tryz.prog w 41 cs):∃x:Nd,cs = [.int .i64 x.op,.int .i64 x.n,.string x.s,.string x.t]∧zcP x:=by
 have hl:=(zdt Tryz.underlying41 h).1;rw [ziq] at hl
 match cs,hl with
 | [c0,c1,c2,c3],_ =>
  have h0:Rd Tryz.prog w 3 [c0]:=zas Tryz.underlying41 h 0 3 0 1 rfl zju
  have h1:Rd Tryz.prog w 3 [c1]:=zas Tryz.underlying41 h 1 3 1 1 rfl zju
  have h2:Rd Tryz.prog w 9 [c2]:=zas Tryz.underlying41 h 2 9 2 1 rfl zbz
  have h3:Rd Tryz.prog w 9 [c3]:=zas Tryz.underlying41 h 3 9 3 1 rfl zbz
  obtain⟨o,e0,o1,o2⟩:=zqj Tryz.underlying3 h0
  obtain⟨n,e1,n1,n2⟩:=zqj Tryz.underlying3 h1
  obtain⟨a,e2,s2⟩:=zdc Tryz.underlying9 h2
  obtain⟨b,e3,s3⟩:=zdc Tryz.underlying9 h3
  simp only [List.cons.injEq,and_true] at e0 e1 e2 e3
  exact⟨⟨o,n,a,b⟩,by rw [e0,e1,e2,e3],s2,s3,n1,n2⟩
theorem ziv{w:World}{cs:List Value}(h:Rd Tryz.prog w 26 cs):
 ∃(A:Option Addr) (n c:Nat) (P:List Nd),cs = [.slice A n c]∧n=P.length∧n≤c∧n≤maxLen∧jM w A P∧zaj P:=by
 obtain⟨A,n,c,rfl,h1,h2,h3⟩:=zfX Tryz.underlying26 h;rw [ziq] at h3;obtain⟨P,hl,hr⟩:=zhv n (fun k x=>(∃a,A=some a∧w.cell? (a.add (k*4))=some (.int .i64 x.op)∧w.cell? (a.add (k*4+1))=some (.int .i64 x.n)∧w.cell? (a.add (k*4+2))=some (.string x.s)∧w.cell? (a.add (k*4+3))=some (.string x.t))∧zcP x) (fun i hi=>by
  obtain⟨a,rfl,cs',hl,hc,hr⟩:=h3 i hi
  obtain⟨x,rfl,hx⟩:=zri hr
  exact⟨x,⟨a,rfl,hc 0 (by omega),hc 1 (by omega),hc 2 (by omega),hc 3 (by omega)⟩,hx⟩)
 refine⟨A,n,c,P,rfl,hl.symm,h1,by omega,fun k x hx=>?_,fun x hx=>?_⟩
 ·obtain⟨⟨a,e,q1,q2,q3,q4⟩,-⟩:=hr k x hx;refine⟨a,e,q1,?_,?_,?_⟩
  all_goals
   rw [←add_add] at q2 q3 q4;unfold Addr.add at q2 q3 q4 ⊢
   first|(simpa using q2)|(simpa using q3)|(simpa using q4)
 ·obtain⟨k,hk,rfl⟩:=List.getElem_of_mem hx;exact(hr k _ (List.getElem?_eq_getElem hk)).2
theorem zm6{H:Type}{enc:TypeId × Value→H}{w:World}{b b0:Nat}{sp:Nat→Bool}{hd:Bool}{v:Value}{d:DataW H}{ps:List MemPlace}{r:Reach}
 (hv:Value.okWide Tryz.prog w r b0 26 v) (h:DataW.Trod enc Tryz.prog w b sp hd 26 v d ps):
 ∃(A:Option Addr) (n c:Nat) (P:List Nd),v = .slice A n c∧Ns w A n c P:=by
 obtain⟨A',n',c',rfl⟩:=okWide_slice Tryz.underlying26 hv;obtain⟨A,n,c,P,e,h1,h2,h3,h4,h5⟩:=ziv (zhP h);have e':(Value.slice A' n' c')= .slice A n c:=by simpa [Value.cells] using e
 exact⟨A,n,c,P,e',h1,h2,h3,h4,h5⟩
end Go.Proofs.YtjcdeikbghjpkaaGreatDoor
namespace Go.Proofs.YtjcdeikbghjpkaaGreatDoor
open Go.RowKit Go.Wk Go.Sort
structure Sl where
 A:Option Addr
 n:Nat
 c:Nat
 P:List Nd
def Sl.v(r:Sl):Value := .slice r.A r.n r.c
def za4(w:World)(A:Option Addr)(V:List Sl):Prop :=
 ∀(k:Nat) (r:Sl),V[k]?=some r→∃a,A=some a∧w.cell? (a.add k)=some (.slice r.A r.n r.c)∧Ns w r.A r.n r.c r.P
theorem za4.keep{w w':World}{A:Option Addr}{V:List Sl}(h:za4 w A V)(hb:Below w.heap.size w w'):za4 w' A V :=
 fun k r hk=>let ⟨a,h1,h2,h3⟩:=h k r hk;⟨a,h1,zb hb h2,h3.keep hb⟩
theorem za4.at{w:World}{A:Option Addr}{V:List Sl}(h:za4 w A V){k:Nat}(hk:k<V.length):∃a,A=some a∧w.cell? (a.add k)=some (.slice V[k].A V[k].n V[k].c)∧Ns w V[k].A V[k].n V[k].c V[k].P :=
 h k V[k] (List.getElem?_eq_getElem hk)
theorem Ns.but{w w':World}{A:Option Addr}{n c:Nat}{P:List Nd}{R:Nat}(h:Ns w A n c P)(hg:w.grownBy w' (some R))(hR:0<P.length→∀a,A=some a→a.block≠R):Ns w' A n c P:=by
 refine⟨h.len,h.cap,h.max,?_,h.ok⟩;rcases Nat.eq_zero_or_pos P.length with h0|h0
 ·intro k x hx;have:P = []:=List.eq_nil_of_length_eq_zero h0;subst this;simp at hx
 ·exact h.at_.but hg (hR h0)
def za3(r:Sl)(g:Option Nat):Prop:=0<r.P.length→∀a,r.A=some a→g≠some a.block
theorem Ns.row{w w':World}{r:Sl}{g:Option Nat}(h:Ns w r.A r.n r.c r.P)(hg:w.grownBy w' g)(ha:za3 r g):Ns w' r.A r.n r.c r.P:=by
 rcases g with _|g
 ·exact h.keep (zdy hg)
 ·exact h.but hg (fun h0 a e q=>ha h0 a e (by rw [q]))
structure zaH(w:World)(B:Nat)(v:Value)(V:List Sl):Prop where
 own:w.ownsRow B 26 1 v V.length (V.map Sl.v)
 each:∀r∈V,Ns w r.A r.n r.c r.P
 apart:∀r∈V,za3 r v.ownBlock
theorem zaH.nil(w:World)(B:Nat):zaH w B (.slice none 0 0) []:=⟨World.ownsRow_nil w B _ 1,(by intro r hr;cases hr),(by intro r hr;cases hr)⟩
theorem zaH.keep{w w':World}{B:Nat}{v:Value}{V:List Sl}(h:zaH w B v V)(hb:Below w.heap.size w w'):zaH w' B v V :=
 ⟨h.own.kept (zc hb none) (by cases hv:v.ownBlock <;> simp),fun r hr=>(h.each r hr).keep hb,h.apart⟩
theorem zaH.row{w w':World}{B:Nat}{v:Value}{V:List Sl}{g:Option Nat}(h:zaH w B v V)(hg:w.grownBy w' g)(hne:v.ownBlock=none∨v.ownBlock≠g)(ha:∀r∈V,za3 r g):zaH w' B v V :=
 ⟨h.own.kept hg hne,fun r hr=>(h.each r hr).row hg (ha r hr),h.apart⟩
theorem zaH.snoc{w w':World}{B:Nat}{v v':Value}{V:List Sl}{r:Sl}{o:Obj}(h:zaH w B v V)(hr:Ns w r.A r.n r.c r.P)(ha:za3 r v.ownBlock)
 (hown:w'.ownsRow B 26 1 v' (V.length+1) (V.map Sl.v ++ [r.v])) (hg:(w.alloc o).grownBy w' v.ownBlock) (hat:v'.ownBlock=v.ownBlock∨v'.ownBlock=some (w.alloc o).heap.size):zaH w' B v' (V ++ [r]):=by
 have hba:Below w.heap.size w (w.alloc o):=za w o;have hlt:∀x∈V ++ [r],Ns w x.A x.n x.c x.P∧za3 x v.ownBlock:=by
  intro x hx;rcases List.mem_append.1 hx with h1|h1
  ·exact⟨h.each x h1,h.apart x h1⟩
  ·simp only [List.mem_cons,List.not_mem_nil,or_false] at h1;subst h1;exact⟨hr,ha⟩
 refine⟨?_,fun x hx=>((hlt x hx).1.keep hba).row hg (hlt x hx).2,fun x hx h0 a e=>?_⟩
 ·simpa using hown
 ·rcases hat with e'|e'
  ·rw [e'];exact(hlt x hx).2 h0 a e
  ·rw [e'];have:=(hlt x hx).1.at_.lt h0 a e;intro q;injection q with q;simp at q;omega
theorem zaH.at{w:World}{B:Nat}{v:Value}{V:List Sl}(h:zaH w B v V):∃A c,v = .slice A V.length c∧V.length≤c∧za4 w A V:=by
 rcases h.own.2 with ⟨rfl,h0⟩|⟨g,cap,cur,rfl,_,_,hc,_⟩
 ·have:V = []:=List.eq_nil_of_length_eq_zero h0;subst this;exact⟨none,0,rfl,Nat.le_refl _,fun k r hk=>by simp at hk⟩
 ·refine⟨some ⟨g,0,none⟩,cap,rfl,hc,fun k r hk=>⟨_,rfl,?_,h.each r (List.mem_of_getElem? hk)⟩⟩;exact h.own.cells (g:=g) rfl k _ (by rw [List.getElem?_map,hk];rfl)
theorem zsu:(Tryz.prog.info? 26).map (fun i=>(i.zero,i.size,i.bytes))=some (some (.slice none 0 0),1,24):=by kernel_rfl
theorem jM.cells{w:World}{a:Addr}{P:List Nd}(h:jM w (some a) P):∀j u,(zh P)[j]?=some u→w.cell? (a.add j)=some u:=by
 intro j u hu;have hl:=jm P;have hj:j<(zh P).length:=(List.getElem?_eq_some_iff.1 hu).1;have hk:j / 4<P.length:=by omega
 obtain⟨h1,h2,h3,h4⟩:=ziw P (j / 4) P[j / 4] (List.getElem?_eq_getElem hk);obtain⟨b,e,q1,q2,q3,q4⟩:=h (j / 4) P[j / 4] (List.getElem?_eq_getElem hk);injection e with e;subst e;have hr:j % 4=0∨j % 4=1∨j % 4=2∨j % 4=3:=by omega
 have nx:∀(x d:Nat),0<d→(⟨(a.add x).block,(a.add x).off+d,none⟩:Addr)=a.add (x+d):=by
  intro x d hd;unfold Addr.add;by_cases hx:x=0
  ·subst hx;simp;omega
  ·simp [hx,Nat.add_assoc]
 rcases hr with hr|hr|hr|hr
 ·have e:j=j / 4*4:=by omega
  rw [←e] at h1 q1;rw [hu] at h1;rw [h1];exact q1
 ·have e:j=j / 4*4+1:=by omega
  rw [nx _ _ (by omega),←e] at q2;rw [←e] at h2;rw [hu] at h2;rw [h2];exact q2
 ·have e:j=j / 4*4+2:=by omega
  rw [nx _ _ (by omega),←e] at q3;rw [←e] at h3;rw [hu] at h3;rw [h3];exact q3
 ·have e:j=j / 4*4+3:=by omega
  rw [nx _ _ (by omega),←e] at q4;rw [←e] at h4;rw [hu] at h4;rw [h4];exact q4
theorem je(P:List Nd):∀u∈zh P,u.oneCell'=true:=by
 induction P with
 | nil=>intro u hu;cases hu
 | cons x P ih =>
  intro u hu
  simp only [zh,List.mem_cons] at hu
  rcases hu with rfl|rfl|rfl|rfl|hu
  ·rfl
  ·rfl
  ·rfl
  ·rfl
  ·exact ih u hu
theorem zc5:(Tryz.prog.info? 41).map (fun i=>(i.zero,i.size,i.bytes))=some (some (.agg #[.int .i64 0,.int .i64 0,.string ⟨#[]⟩,.string ⟨#[]⟩]),4,48):=by kernel_rfl
theorem ji{w:World}{B:Nat}{v:Value}{P:List Nd}(h:w.ownsRow B 41 4 v P.length (zh P)):∃A c,v = .slice A P.length c∧P.length≤c∧jM w A P∧(∀a,A=some a→B≤a.block):=by
 rcases h.2 with ⟨rfl,h0⟩|⟨g,cap,cur,rfl,hB,_,hc,_⟩
 ·have:P = []:=List.eq_nil_of_length_eq_zero h0;subst this;exact⟨none,0,rfl,Nat.le_refl _,fun k x hx=>by simp at hx,fun a e=>by cases e⟩
 ·exact⟨some ⟨g,0,none⟩,cap,rfl,hc,zfW (h.cells (g:=g) rfl),fun a e=>by injection e with e;subst e;exact hB⟩
def zsh(w:World)(P:List Nd)(e:Ending)(w':World):Prop:=∃(A:Option Addr) (c:Nat),e = .returned (.slice A P.length c)∧Ns w' A P.length c P∧(∀a,A=some a→w.heap.size≤a.block)∧Below w.heap.size w w'
theorem zqW{w:World}{B B' n:Nat}{e:TypeId}{size:Nat}{v:Value}{xs:List Value}(h:w.ownsRow B e size v n xs)(hB:B'≤B):w.ownsRow B' e size v n xs:=by
 refine⟨h.1,?_⟩;rcases h.2 with h2|⟨g,cap,cur,hv,hg,r⟩
 ·exact .inl h2
 ·exact .inr ⟨g,cap,cur,hv,Nat.le_trans hB hg,r⟩
theorem zaH.mono{w:World}{B B':Nat}{v:Value}{V:List Sl}(h:zaH w B v V)(hB:B'≤B):zaH w B' v V:=⟨zqW h.own hB,h.each,h.apart⟩
theorem zb0.row{w w':World}{R p:Nat}{v:Value}{g:Option Nat}(h:zb0 w R v p)(hg:w.grownBy w' g)(hne:some R≠g):zb0 w' R v p :=
 ⟨hg.cell h.c0 hne,hg.cell h.c1 hne,(World.frozen?_of_block (w:=w) (hg.block R h.lt hne)).trans h.f1⟩
theorem zqu{w:World}{B n:Nat}{e:TypeId}{size:Nat}{v:Value}{xs:List Value}(h:w.ownsRow B e size v n xs){R:Nat}(hR:R<B):v.ownBlock=none∨v.ownBlock≠some R:=by
 rcases hv:v.ownBlock with _|g
 ·exact .inl rfl
 ·have:=zD h g hv;exact .inr (fun q=>by injection q with q;omega)
theorem zrD{w:World}{B n:Nat}{e:TypeId}{size:Nat}{v:Value}{xs:List Value}(h:w.ownsRow B e size v n xs){R:Nat}(hR:R<B):some R≠v.ownBlock:=by
 rcases zqu h hR with h|h
 ·rw [h];simp
 ·exact fun q=>h q.symm
theorem zgw{w:World}{a:Addr}{n c:Nat}{P:List Nd}(h:Ns w (some a) n c P){i j:Nat}(h1:i≤j)(h2:j≤n):Ns w (some (a.add (i*4))) (j-i) (c-i) (seg P i j):=by
 have:=h.len;have:=h.cap;have:=h.max;exact⟨(ze1 (by omega)).symm,by omega,by omega,h.at_.seg i j,h.ok.seg i j⟩
end Go.Proofs.YtjcdeikbghjpkaaGreatDoor
namespace Go.Wk
end Go.Wk
namespace Go.Proofs.YtjcdeikbghjpkaaGreatDoor
open Go.RowKit Go.Wk Go.Sort
end Go.Proofs.YtjcdeikbghjpkaaGreatDoor
namespace Go.Wk
end Go.Wk
namespace Go.Proofs.YtjcdeikbghjpkaaGreatDoor
open Go.RowKit Go.Wk Go.Sort
theorem zk2{A:Option Addr}{n c:Nat}{P:List Nd}{w:World}(h:Ns w A n c P):Calls Tryz.prog 98 #[.slice A n c] w fun e w'=>e = .returned (zao (jT P))∧Below w.heap.size w w' :=
 zoT A n c P w h.len h.cap h.max h.at_ h.ok
theorem znN(o:Int):(o=1∨o=2∨o=3∨o=4∨o=5∨o=6∨o=7∨o=8∨o=9∨o=10∨o=11∨o=12∨o=13∨o=14∨o=15∨o=16∨o=17∨o=18∨o=19∨o=20∨o=21∨o=22∨o=23∨o=24∨o=25∨o=26∨o=27)∨o≤0∨28≤o:=by omega
theorem znn{o:Int}(h:o≤0∨28≤o):(o==1)=false∧(o==2)=false∧(o==3)=false∧(o==4)=false∧(o==5)=false∧(o==6)=false∧(o==7)=false∧(o==8)=false∧(o==9)=false∧(o==10)=false∧(o==11)=false∧(o==12)=false∧(o==13)=false∧(o==14)=false∧(o==15)=false∧(o==16)=false∧(o==17)=false∧(o==18)=false∧(o==19)=false∧(o==20)=false∧(o==21)=false∧(o==22)=false∧(o==23)=false∧(o==24)=false∧(o==25)=false∧(o==26)=false∧(o==27)=false:=by
 refine⟨?_,?_,?_,?_,?_,?_,?_,?_,?_,?_,?_,?_,?_,?_,?_,?_,?_,?_,?_,?_,?_,?_,?_,?_,?_,?_,?_⟩<;>(rw [beq_eq_false_iff_ne];omega)
theorem zcq{o:Int}(h:o≤0∨28≤o)(n:Int)(s t:ByteArray):zp ⟨o,n,s,t⟩= -1:=by
 unfold zp;dsimp only;rw [if_neg (by omega),if_neg (by omega),if_neg (by omega),if_neg (by omega),if_neg (by omega)]
theorem zdH(x:Nd)(w:World):Calls Tryz.prog 76 #[ndV x] w fun e w'=>e = .returned (.int .i64 (zp x))∧Below w.heap.size w w':=by
 obtain⟨o,n,s,t⟩:=x;unfold ndV;dsimp only;rcases znN o with (rfl|rfl|rfl|rfl|rfl|rfl|rfl|rfl|rfl|rfl|rfl|rfl|rfl|rfl|rfl|rfl|rfl|rfl|rfl|rfl|rfl|rfl|rfl|rfl|rfl|rfl|rfl)|h
 all_goals try
  go_enter Tryz.func76,Tryz.ntmps76
  go_wp2_with fail
  go_ret
  exact⟨by rfl,za _ _⟩
 have hp:=hi9 (zcq h n s t);obtain⟨g1,g2,g3,g4,g5,g6,g7,g8,g9,g10,g11,g12,g13,g14,g15,g16,g17,g18,g19,g20,g21,g22,g23,g24,g25,g26,g27⟩:=znn h;rcases h with h|h
 all_goals
  go_enter Tryz.func76,Tryz.ntmps76;go_wp2_with fail;go_ret;exact⟨by rw [hp.out];rfl,za _ _⟩
theorem zbk(x:Nd)(w:World):Calls Tryz.prog 61 #[ndV x] w fun e w'=>e = .returned (.int .i64 (zp x))∧Below w.heap.size w w':=by
 obtain⟨o,n,s,t⟩:=x;unfold ndV;dsimp only;rcases znN o with (rfl|rfl|rfl|rfl|rfl|rfl|rfl|rfl|rfl|rfl|rfl|rfl|rfl|rfl|rfl|rfl|rfl|rfl|rfl|rfl|rfl|rfl|rfl|rfl|rfl|rfl|rfl)|h
 all_goals try
  go_enter Tryz.func61,Tryz.ntmps61
  go_wp2_with fail
  go_ret
  exact⟨by rfl,za _ _⟩
 have hp:=hi9 (zcq h n s t);obtain⟨g1,g2,g3,g4,g5,g6,g7,g8,g9,g10,g11,g12,g13,g14,g15,g16,g17,g18,g19,g20,g21,g22,g23,g24,g25,g26,g27⟩:=znn h;rcases h with h|h
 all_goals
  go_enter Tryz.func61,Tryz.ntmps61;go_wp2_with fail;go_ret;exact⟨by rw [hp.out];rfl,za _ _⟩
theorem zjd(s:ByteArray)(w:World):Calls Tryz.prog 117 #[.string s] w fun e w'=>e = .returned (.bool (zu s))∧w=w':=by
 by_cases h0:s.toList = [105,102]
 ·have HR:=hi9 (show zu s=true by rw [ByteArray.toList_eq] at h0;unfold zu;rw [h0];rfl);have f0:(s.toList == [105,102])=true:=beq_iff_eq.2 h0;clear h0;go_enter Tryz.func117,Tryz.ntmps117;go_wp2_with fail;go_ret;exact⟨by rw [HR.out];rfl,rfl⟩
 have f0:(s.toList == [105,102])=false:=beq_eq_false_iff_ne.2 h0;by_cases h1:s.toList = [116,104,101,110]
 ·have HR:=hi9 (show zu s=true by rw [ByteArray.toList_eq] at h1;unfold zu;rw [h1];rfl);have f1:(s.toList == [116,104,101,110])=true:=beq_iff_eq.2 h1;clear h1 h0;go_enter Tryz.func117,Tryz.ntmps117;go_wp2_with fail;go_ret;exact⟨by rw [HR.out];rfl,rfl⟩
 have f1:(s.toList == [116,104,101,110])=false:=beq_eq_false_iff_ne.2 h1;by_cases h2:s.toList = [101,108,115,101]
 ·have HR:=hi9 (show zu s=true by rw [ByteArray.toList_eq] at h2;unfold zu;rw [h2];rfl);have f2:(s.toList == [101,108,115,101])=true:=beq_iff_eq.2 h2;clear h2 h0 h1;go_enter Tryz.func117,Tryz.ntmps117;go_wp2_with fail;go_ret;exact⟨by rw [HR.out];rfl,rfl⟩
 have f2:(s.toList == [101,108,115,101])=false:=beq_eq_false_iff_ne.2 h2;by_cases h3:s.toList = [116,114,117,101]
 ·have HR:=hi9 (show zu s=true by rw [ByteArray.toList_eq] at h3;unfold zu;rw [h3];rfl);have f3:(s.toList == [116,114,117,101])=true:=beq_iff_eq.2 h3;clear h3 h0 h1 h2;go_enter Tryz.func117,Tryz.ntmps117;go_wp2_with fail;go_ret;exact⟨by rw [HR.out];rfl,rfl⟩
 have f3:(s.toList == [116,114,117,101])=false:=beq_eq_false_iff_ne.2 h3;by_cases h4:s.toList = [102,97,108,115,101]
 ·have HR:=hi9 (show zu s=true by rw [ByteArray.toList_eq] at h4;unfold zu;rw [h4];rfl);have f4:(s.toList == [102,97,108,115,101])=true:=beq_iff_eq.2 h4;clear h4 h0 h1 h2 h3;go_enter Tryz.func117,Tryz.ntmps117;go_wp2_with fail;go_ret;exact⟨by rw [HR.out];rfl,rfl⟩
 have f4:(s.toList == [102,97,108,115,101])=false:=beq_eq_false_iff_ne.2 h4;by_cases h5:s.toList = [105,110]
 ·have HR:=hi9 (show zu s=true by rw [ByteArray.toList_eq] at h5;unfold zu;rw [h5];rfl);have f5:(s.toList == [105,110])=true:=beq_iff_eq.2 h5;clear h5 h0 h1 h2 h3 h4;go_enter Tryz.func117,Tryz.ntmps117;go_wp2_with fail;go_ret;exact⟨by rw [HR.out];rfl,rfl⟩
 have f5:(s.toList == [105,110])=false:=beq_eq_false_iff_ne.2 h5;by_cases h6:s.toList = [104,97,115]
 ·have HR:=hi9 (show zu s=true by rw [ByteArray.toList_eq] at h6;unfold zu;rw [h6];rfl);have f6:(s.toList == [104,97,115])=true:=beq_iff_eq.2 h6;clear h6 h0 h1 h2 h3 h4 h5;go_enter Tryz.func117,Tryz.ntmps117;go_wp2_with fail;go_ret;exact⟨by rw [HR.out];rfl,rfl⟩
 have f6:(s.toList == [104,97,115])=false:=beq_eq_false_iff_ne.2 h6;by_cases h7:s.toList = [108,105,107,101]
 ·have HR:=hi9 (show zu s=true by rw [ByteArray.toList_eq] at h7;unfold zu;rw [h7];rfl);have f7:(s.toList == [108,105,107,101])=true:=beq_iff_eq.2 h7;clear h7 h0 h1 h2 h3 h4 h5 h6;go_enter Tryz.func117,Tryz.ntmps117;go_wp2_with fail;go_ret;exact⟨by rw [HR.out];rfl,rfl⟩
 have f7:(s.toList == [108,105,107,101])=false:=beq_eq_false_iff_ne.2 h7;by_cases h8:s.toList = [105,115]
 ·have HR:=hi9 (show zu s=true by rw [ByteArray.toList_eq] at h8;unfold zu;rw [h8];rfl);have f8:(s.toList == [105,115])=true:=beq_iff_eq.2 h8;clear h8 h0 h1 h2 h3 h4 h5 h6 h7;go_enter Tryz.func117,Tryz.ntmps117;go_wp2_with fail;go_ret;exact⟨by rw [HR.out];rfl,rfl⟩
 have f8:(s.toList == [105,115])=false:=beq_eq_false_iff_ne.2 h8;have HR:=hi9 (show zu s=false by
  rw [ByteArray.toList_eq] at h0 h1 h2 h3 h4 h5 h6 h7 h8
  unfold zu zsq
  simp only [List.contains_cons,List.contains_nil,Bool.or_false,Bool.or_eq_false_iff,beq_eq_false_iff_ne]
  exact⟨h0,h1,h2,h3,h4,h5,h6,h7,h8⟩)
 clear h0 h1 h2 h3 h4 h5 h6 h7 h8;go_enter Tryz.func117,Tryz.ntmps117;go_wp2_with fail;go_ret;exact⟨by rw [HR.out];rfl,rfl⟩
theorem zkL(s:ByteArray)(w:World):Calls Tryz.prog 91 #[.string s] w fun e w'=>e = .returned (.bool (zu s))∧w=w':=by
 by_cases h0:s.toList = [105,102]
 ·have HR:=hi9 (show zu s=true by rw [ByteArray.toList_eq] at h0;unfold zu;rw [h0];rfl);have f0:(s.toList == [105,102])=true:=beq_iff_eq.2 h0;clear h0;go_enter Tryz.func91,Tryz.ntmps91;go_wp2_with fail;go_ret;exact⟨by rw [HR.out];rfl,rfl⟩
 have f0:(s.toList == [105,102])=false:=beq_eq_false_iff_ne.2 h0;by_cases h1:s.toList = [116,104,101,110]
 ·have HR:=hi9 (show zu s=true by rw [ByteArray.toList_eq] at h1;unfold zu;rw [h1];rfl);have f1:(s.toList == [116,104,101,110])=true:=beq_iff_eq.2 h1;clear h1 h0;go_enter Tryz.func91,Tryz.ntmps91;go_wp2_with fail;go_ret;exact⟨by rw [HR.out];rfl,rfl⟩
 have f1:(s.toList == [116,104,101,110])=false:=beq_eq_false_iff_ne.2 h1;by_cases h2:s.toList = [101,108,115,101]
 ·have HR:=hi9 (show zu s=true by rw [ByteArray.toList_eq] at h2;unfold zu;rw [h2];rfl);have f2:(s.toList == [101,108,115,101])=true:=beq_iff_eq.2 h2;clear h2 h0 h1;go_enter Tryz.func91,Tryz.ntmps91;go_wp2_with fail;go_ret;exact⟨by rw [HR.out];rfl,rfl⟩
 have f2:(s.toList == [101,108,115,101])=false:=beq_eq_false_iff_ne.2 h2;by_cases h3:s.toList = [116,114,117,101]
 ·have HR:=hi9 (show zu s=true by rw [ByteArray.toList_eq] at h3;unfold zu;rw [h3];rfl);have f3:(s.toList == [116,114,117,101])=true:=beq_iff_eq.2 h3;clear h3 h0 h1 h2;go_enter Tryz.func91,Tryz.ntmps91;go_wp2_with fail;go_ret;exact⟨by rw [HR.out];rfl,rfl⟩
 have f3:(s.toList == [116,114,117,101])=false:=beq_eq_false_iff_ne.2 h3;by_cases h4:s.toList = [102,97,108,115,101]
 ·have HR:=hi9 (show zu s=true by rw [ByteArray.toList_eq] at h4;unfold zu;rw [h4];rfl);have f4:(s.toList == [102,97,108,115,101])=true:=beq_iff_eq.2 h4;clear h4 h0 h1 h2 h3;go_enter Tryz.func91,Tryz.ntmps91;go_wp2_with fail;go_ret;exact⟨by rw [HR.out];rfl,rfl⟩
 have f4:(s.toList == [102,97,108,115,101])=false:=beq_eq_false_iff_ne.2 h4;by_cases h5:s.toList = [105,110]
 ·have HR:=hi9 (show zu s=true by rw [ByteArray.toList_eq] at h5;unfold zu;rw [h5];rfl);have f5:(s.toList == [105,110])=true:=beq_iff_eq.2 h5;clear h5 h0 h1 h2 h3 h4;go_enter Tryz.func91,Tryz.ntmps91;go_wp2_with fail;go_ret;exact⟨by rw [HR.out];rfl,rfl⟩
 have f5:(s.toList == [105,110])=false:=beq_eq_false_iff_ne.2 h5;by_cases h6:s.toList = [104,97,115]
 ·have HR:=hi9 (show zu s=true by rw [ByteArray.toList_eq] at h6;unfold zu;rw [h6];rfl);have f6:(s.toList == [104,97,115])=true:=beq_iff_eq.2 h6;clear h6 h0 h1 h2 h3 h4 h5;go_enter Tryz.func91,Tryz.ntmps91;go_wp2_with fail;go_ret;exact⟨by rw [HR.out];rfl,rfl⟩
 have f6:(s.toList == [104,97,115])=false:=beq_eq_false_iff_ne.2 h6;by_cases h7:s.toList = [108,105,107,101]
 ·have HR:=hi9 (show zu s=true by rw [ByteArray.toList_eq] at h7;unfold zu;rw [h7];rfl);have f7:(s.toList == [108,105,107,101])=true:=beq_iff_eq.2 h7;clear h7 h0 h1 h2 h3 h4 h5 h6;go_enter Tryz.func91,Tryz.ntmps91;go_wp2_with fail;go_ret;exact⟨by rw [HR.out];rfl,rfl⟩
 have f7:(s.toList == [108,105,107,101])=false:=beq_eq_false_iff_ne.2 h7;by_cases h8:s.toList = [105,115]
 ·have HR:=hi9 (show zu s=true by rw [ByteArray.toList_eq] at h8;unfold zu;rw [h8];rfl);have f8:(s.toList == [105,115])=true:=beq_iff_eq.2 h8;clear h8 h0 h1 h2 h3 h4 h5 h6 h7;go_enter Tryz.func91,Tryz.ntmps91;go_wp2_with fail;go_ret;exact⟨by rw [HR.out];rfl,rfl⟩
 have f8:(s.toList == [105,115])=false:=beq_eq_false_iff_ne.2 h8;have HR:=hi9 (show zu s=false by
  rw [ByteArray.toList_eq] at h0 h1 h2 h3 h4 h5 h6 h7 h8
  unfold zu zsq
  simp only [List.contains_cons,List.contains_nil,Bool.or_false,Bool.or_eq_false_iff,beq_eq_false_iff_ne]
  exact⟨h0,h1,h2,h3,h4,h5,h6,h7,h8⟩)
 clear h0 h1 h2 h3 h4 h5 h6 h7 h8;go_enter Tryz.func91,Tryz.ntmps91;go_wp2_with fail;go_ret;exact⟨by rw [HR.out];rfl,rfl⟩
theorem zou(A:Option Addr)(n c:Nat)(P:List Nd)(p:Nat)(f:Bool)(x:Ex)(w:World)(h:Ns w A n c P)(hx:XAt P p f x):
 Calls Tryz.prog 77 #[.slice A n c,.int .i64 p] w fun e w'=>e = .returned (.int .i64 ((p+x.flat.length:Nat):Int))∧Below w.heap.size w w':=by
 have hm:=h.max;unfold maxLen at hm;have HNS:=hi9 h;have HLN:=hi9 h.len;have HLE:=hi9 hx.le;have HO:=hi9 (show zhh P p (.cons x .nil) from(by obtain⟨r,e⟩:=hx.drop;exact zhh.start hx.valid e));have CP:=hi9 (fun y w=>zdH y w);unfold ndV at CP;have HT:=hi9 (show p+(Exs.cons x .nil).flat.length=p+x.flat.length by simp [Exs.flat]);have hple:p+x.flat.length≤n:=by rw [HLN.out];exact HLE.out
 generalize p+x.flat.length=T at *;clear h hx;go_enter Tryz.func77,Tryz.ntmps77;go_wp2_with fail;go_loopw [1,5] (fun u l wr=>∃(q m:Nat) (L:Exs),u = .int .i64 q∧l = .int .i64 m∧Hid (m=L.len)∧Hid (zhh P q L)∧Hid (q+L.flat.length=T)∧Hid (Below w.heap.size w wr)) (fun u _ _=>n+1-(intOf u).toNat)
 case atStart=>exact⟨p,1,.cons x .nil,rfl,rfl,hi9 rfl,HO,HT,hi9 (Below.refl _ _)⟩
 case round =>
  obtain⟨q,m,L,rfl,rfl,hM,hO,hT,hB⟩:=hrel;by_cases hl:0<m
  ·obtain⟨y,ps,r,rfl⟩:=hO.out.left (by rw [←hM.out];exact hl);obtain⟨hy,hO2,hlen,htot⟩:=hO.out.step;have hql:q<P.length:=(List.getElem?_eq_some_iff.1 hy).1;have hqn:q<n:=by rw [HLN.out];exact hql
   obtain⟨a,rfl,d0,d1,d2,d3⟩:=(HNS.out.keep hB.out).at_ q y hy;have HO2:=hi9 hO2;have HT2:=hi9 (htot.trans hT.out);have hbl:=zam (ps.app r);have hm1:(Exs.cons (.node y ps) r).len=r.len+1:=rfl;have hmm:=hM.out;have hsum:(m:Int)+zp y=((ps.app r).len:Int)+1:=by omega
   have hfl:(ps.app r).len+1≤n:=by have:=HT2.out;omega
   have CY:=hi9 (fun w=>CP.out y w);have f0:decide (0<m)=true:=decide_eq_true hl;obtain⟨m2,hm2⟩:∃m2,m2=(ps.app r).len:=⟨_,rfl⟩
   have HM2:=hi9 hm2;rw [←hm2] at hsum hfl;generalize (ps.app r)=L2 at *;generalize zp y=k at *;clear hO hT hy hO2 htot hlen hl hbl hm1 hmm hm2;go_wp2_with fail;refine(CY.out _).mono ?_;rintro e w1 ⟨rfl,b1⟩;have B1:=bh hB b1;clear b1 hB d0 d1 d2 d3;go_wp2_with fail;go_roundw
   case rel=>exact⟨q+1,m2,L2,by go_num,by go_num,HM2,HO2,HT2,B1⟩
   case measure=>simp [intOf];omega
  ·have hL:L = .nil:=by
    have:=hM.out
    cases L with
    | nil=>rfl
    | cons x r=>simp only [Exs.len] at this;omega
   have HR:=hi9 (show q=T by have:=hT.out;rw [hL] at this;simpa [Exs.flat] using this)
   have hm0:m=0:=by omega
   subst hm0
   clear hL hl
   go_wp2_with fail
   go_ret
   exact⟨by rw [←HR.out];rfl,hB.out⟩
theorem jg(w:World)(cs:Array Value)(t:TypeId)(j:Nat){v:Value}(h:cs[j]?=some v):(w.alloc (.cells cs t)).cell? ⟨w.heap.size,j,none⟩=some v:=by
 rw [World.cell?_alloc_at _ _ _ _ rfl];exact h
structure Bx4(w:World)(b:Nat)(x0 x1 x2 x3:Value):Prop where
 c0:w.cell? ⟨b,0,none⟩=some x0
 c1:w.cell? ⟨b,1,none⟩=some x1
 c2:w.cell? ⟨b,2,none⟩=some x2
 c3:w.cell? ⟨b,3,none⟩=some x3
 z0:w.frozen? ⟨b,0,none⟩=false
 z1:w.frozen? ⟨b,1,none⟩=false
 z2:w.frozen? ⟨b,2,none⟩=false
 z3:w.frozen? ⟨b,3,none⟩=false
theorem zbe(w:World)(x0 x1 x2 x3:Value)(t:TypeId):Bx4 (w.alloc (.cells #[x0,x1,x2,x3] t)) w.heap.size x0 x1 x2 x3 :=
 ⟨jg w _ _ _ rfl,jg w _ _ _ rfl,jg w _ _ _ rfl,jg w _ _ _ rfl,by simp,by simp,by simp,by simp⟩
theorem Bx4.keep{w w':World}{b:Nat}{x0 x1 x2 x3:Value}(h:Bx4 w b x0 x1 x2 x3)(hb:Below w.heap.size w w'):Bx4 w' b x0 x1 x2 x3 :=
 have hl:=block_lt_of_cell h.c0
 ⟨zb hb h.c0,zb hb h.c1,zb hb h.c2,zb hb h.c3,by rw [(zar hb).2 b 0 hl];exact h.z0,by rw [(zar hb).2 b 1 hl];exact h.z1,by rw [(zar hb).2 b 2 hl];exact h.z2,by rw [(zar hb).2 b 3 hl];exact h.z3⟩
theorem Bx4.but{w w':World}{b:Nat}{x0 x1 x2 x3:Value}{g:Option Nat}(h:Bx4 w b x0 x1 x2 x3)(hg:w.grownBy w' g)(hn:some b≠g):Bx4 w' b x0 x1 x2 x3 :=
 have hb:=hg.block b (block_lt_of_cell h.c0) hn
 ⟨(World.cell?_of_block (a:=⟨b,0,none⟩) hb).trans h.c0,(World.cell?_of_block (a:=⟨b,1,none⟩) hb).trans h.c1,(World.cell?_of_block (a:=⟨b,2,none⟩) hb).trans h.c2,(World.cell?_of_block (a:=⟨b,3,none⟩) hb).trans h.c3,(World.frozen?_of_block (a:=⟨b,0,none⟩) hb).trans h.z0,(World.frozen?_of_block (a:=⟨b,1,none⟩) hb).trans h.z1,(World.frozen?_of_block (a:=⟨b,2,none⟩) hb).trans h.z2,(World.frozen?_of_block (a:=⟨b,3,none⟩) hb).trans h.z3⟩
structure Bx6(w:World)(b:Nat)(x0 x1 x2 x3 x4 x5:Value):Prop where
 c0:w.cell? ⟨b,0,none⟩=some x0
 c1:w.cell? ⟨b,1,none⟩=some x1
 c2:w.cell? ⟨b,2,none⟩=some x2
 c3:w.cell? ⟨b,3,none⟩=some x3
 c4:w.cell? ⟨b,4,none⟩=some x4
 c5:w.cell? ⟨b,5,none⟩=some x5
 z0:w.frozen? ⟨b,0,none⟩=false
 z1:w.frozen? ⟨b,1,none⟩=false
 z2:w.frozen? ⟨b,2,none⟩=false
 z3:w.frozen? ⟨b,3,none⟩=false
 z4:w.frozen? ⟨b,4,none⟩=false
 z5:w.frozen? ⟨b,5,none⟩=false
theorem jE(w:World)(x0 x1 x2 x3 x4 x5:Value)(t:TypeId):Bx6 (w.alloc (.cells #[x0,x1,x2,x3,x4,x5] t)) w.heap.size x0 x1 x2 x3 x4 x5 :=
 ⟨jg w _ _ _ rfl,jg w _ _ _ rfl,jg w _ _ _ rfl,jg w _ _ _ rfl,jg w _ _ _ rfl,jg w _ _ _ rfl,by simp,by simp,by simp,by simp,by simp,by simp⟩
theorem Bx6.keep{w w':World}{b:Nat}{x0 x1 x2 x3 x4 x5:Value}(h:Bx6 w b x0 x1 x2 x3 x4 x5)(hb:Below w.heap.size w w'):Bx6 w' b x0 x1 x2 x3 x4 x5 :=
 have hl:=block_lt_of_cell h.c0
 ⟨zb hb h.c0,zb hb h.c1,zb hb h.c2,zb hb h.c3,zb hb h.c4,zb hb h.c5,by rw [(zar hb).2 b 0 hl];exact h.z0,by rw [(zar hb).2 b 1 hl];exact h.z1,by rw [(zar hb).2 b 2 hl];exact h.z2,by rw [(zar hb).2 b 3 hl];exact h.z3,by rw [(zar hb).2 b 4 hl];exact h.z4,by rw [(zar hb).2 b 5 hl];exact h.z5⟩
theorem Bx6.but{w w':World}{b:Nat}{x0 x1 x2 x3 x4 x5:Value}{g:Option Nat}(h:Bx6 w b x0 x1 x2 x3 x4 x5)(hg:w.grownBy w' g)(hn:some b≠g):Bx6 w' b x0 x1 x2 x3 x4 x5 :=
 have hb:=hg.block b (block_lt_of_cell h.c0) hn
 ⟨(World.cell?_of_block (a:=⟨b,0,none⟩) hb).trans h.c0,(World.cell?_of_block (a:=⟨b,1,none⟩) hb).trans h.c1,(World.cell?_of_block (a:=⟨b,2,none⟩) hb).trans h.c2,(World.cell?_of_block (a:=⟨b,3,none⟩) hb).trans h.c3,(World.cell?_of_block (a:=⟨b,4,none⟩) hb).trans h.c4,(World.cell?_of_block (a:=⟨b,5,none⟩) hb).trans h.c5,(World.frozen?_of_block (a:=⟨b,0,none⟩) hb).trans h.z0,(World.frozen?_of_block (a:=⟨b,1,none⟩) hb).trans h.z1,(World.frozen?_of_block (a:=⟨b,2,none⟩) hb).trans h.z2,(World.frozen?_of_block (a:=⟨b,3,none⟩) hb).trans h.z3,(World.frozen?_of_block (a:=⟨b,4,none⟩) hb).trans h.z4,(World.frozen?_of_block (a:=⟨b,5,none⟩) hb).trans h.z5⟩
structure Bx8(w:World)(b:Nat)(x0 x1 x2 x3 x4 x5 x6 x7:Value):Prop where
 c0:w.cell? ⟨b,0,none⟩=some x0
 c1:w.cell? ⟨b,1,none⟩=some x1
 c2:w.cell? ⟨b,2,none⟩=some x2
 c3:w.cell? ⟨b,3,none⟩=some x3
 c4:w.cell? ⟨b,4,none⟩=some x4
 c5:w.cell? ⟨b,5,none⟩=some x5
 c6:w.cell? ⟨b,6,none⟩=some x6
 c7:w.cell? ⟨b,7,none⟩=some x7
 z0:w.frozen? ⟨b,0,none⟩=false
 z1:w.frozen? ⟨b,1,none⟩=false
 z2:w.frozen? ⟨b,2,none⟩=false
 z3:w.frozen? ⟨b,3,none⟩=false
 z4:w.frozen? ⟨b,4,none⟩=false
 z5:w.frozen? ⟨b,5,none⟩=false
 z6:w.frozen? ⟨b,6,none⟩=false
 z7:w.frozen? ⟨b,7,none⟩=false
theorem zdA(w:World)(x0 x1 x2 x3 x4 x5 x6 x7:Value)(t:TypeId):Bx8 (w.alloc (.cells #[x0,x1,x2,x3,x4,x5,x6,x7] t)) w.heap.size x0 x1 x2 x3 x4 x5 x6 x7 :=
 ⟨jg w _ _ _ rfl,jg w _ _ _ rfl,jg w _ _ _ rfl,jg w _ _ _ rfl,jg w _ _ _ rfl,jg w _ _ _ rfl,jg w _ _ _ rfl,jg w _ _ _ rfl,by simp,by simp,by simp,by simp,by simp,by simp,by simp,by simp⟩
theorem Bx8.keep{w w':World}{b:Nat}{x0 x1 x2 x3 x4 x5 x6 x7:Value}(h:Bx8 w b x0 x1 x2 x3 x4 x5 x6 x7)(hb:Below w.heap.size w w'):Bx8 w' b x0 x1 x2 x3 x4 x5 x6 x7 :=
 have hl:=block_lt_of_cell h.c0
 ⟨zb hb h.c0,zb hb h.c1,zb hb h.c2,zb hb h.c3,zb hb h.c4,zb hb h.c5,zb hb h.c6,zb hb h.c7,by rw [(zar hb).2 b 0 hl];exact h.z0,by rw [(zar hb).2 b 1 hl];exact h.z1,by rw [(zar hb).2 b 2 hl];exact h.z2,by rw [(zar hb).2 b 3 hl];exact h.z3,by rw [(zar hb).2 b 4 hl];exact h.z4,by rw [(zar hb).2 b 5 hl];exact h.z5,by rw [(zar hb).2 b 6 hl];exact h.z6,by rw [(zar hb).2 b 7 hl];exact h.z7⟩
theorem Bx8.but{w w':World}{b:Nat}{x0 x1 x2 x3 x4 x5 x6 x7:Value}{g:Option Nat}(h:Bx8 w b x0 x1 x2 x3 x4 x5 x6 x7)(hg:w.grownBy w' g)(hn:some b≠g):Bx8 w' b x0 x1 x2 x3 x4 x5 x6 x7 :=
 have hb:=hg.block b (block_lt_of_cell h.c0) hn
 ⟨(World.cell?_of_block (a:=⟨b,0,none⟩) hb).trans h.c0,(World.cell?_of_block (a:=⟨b,1,none⟩) hb).trans h.c1,(World.cell?_of_block (a:=⟨b,2,none⟩) hb).trans h.c2,(World.cell?_of_block (a:=⟨b,3,none⟩) hb).trans h.c3,(World.cell?_of_block (a:=⟨b,4,none⟩) hb).trans h.c4,(World.cell?_of_block (a:=⟨b,5,none⟩) hb).trans h.c5,(World.cell?_of_block (a:=⟨b,6,none⟩) hb).trans h.c6,(World.cell?_of_block (a:=⟨b,7,none⟩) hb).trans h.c7,(World.frozen?_of_block (a:=⟨b,0,none⟩) hb).trans h.z0,(World.frozen?_of_block (a:=⟨b,1,none⟩) hb).trans h.z1,(World.frozen?_of_block (a:=⟨b,2,none⟩) hb).trans h.z2,(World.frozen?_of_block (a:=⟨b,3,none⟩) hb).trans h.z3,(World.frozen?_of_block (a:=⟨b,4,none⟩) hb).trans h.z4,(World.frozen?_of_block (a:=⟨b,5,none⟩) hb).trans h.z5,(World.frozen?_of_block (a:=⟨b,6,none⟩) hb).trans h.z6,(World.frozen?_of_block (a:=⟨b,7,none⟩) hb).trans h.z7⟩
theorem Bx4.set{w:World}{b:Nat}{x0 x1 x2 x3:Value}(h:Bx4 w b x0 x1 x2 x3)(y0 y1 y2 y3:Value):Bx4 ((((w.setCell ⟨b,0,none⟩ y0).setCell ⟨b,1,none⟩ y1).setCell ⟨b,2,none⟩ y2).setCell ⟨b,3,none⟩ y3) b y0 y1 y2 y3:=by
 obtain⟨c0,c1,c2,c3,z0,z1,z2,z3⟩:=h;refine⟨?_,?_,?_,?_,?_,?_,?_,?_⟩
 all_goals go_simp
theorem Bx6.set{w:World}{b:Nat}{x0 x1 x2 x3 x4 x5:Value}(h:Bx6 w b x0 x1 x2 x3 x4 x5)(y0 y1 y2 y3 y4 y5:Value):Bx6 ((((((w.setCell ⟨b,0,none⟩ y0).setCell ⟨b,1,none⟩ y1).setCell ⟨b,2,none⟩ y2).setCell ⟨b,3,none⟩ y3).setCell ⟨b,4,none⟩ y4).setCell ⟨b,5,none⟩ y5) b y0 y1 y2 y3 y4 y5:=by
 obtain⟨c0,c1,c2,c3,c4,c5,z0,z1,z2,z3,z4,z5⟩:=h;refine⟨?_,?_,?_,?_,?_,?_,?_,?_,?_,?_,?_,?_⟩
 all_goals go_simp
theorem Bx8.set{w:World}{b:Nat}{x0 x1 x2 x3 x4 x5 x6 x7:Value}(h:Bx8 w b x0 x1 x2 x3 x4 x5 x6 x7)(y0 y1 y2 y3 y4 y5 y6 y7:Value):Bx8 ((((((((w.setCell ⟨b,0,none⟩ y0).setCell ⟨b,1,none⟩ y1).setCell ⟨b,2,none⟩ y2).setCell ⟨b,3,none⟩ y3).setCell ⟨b,4,none⟩ y4).setCell ⟨b,5,none⟩ y5).setCell ⟨b,6,none⟩ y6).setCell ⟨b,7,none⟩ y7) b y0 y1 y2 y3 y4 y5 y6 y7:=by
 obtain⟨c0,c1,c2,c3,c4,c5,c6,c7,z0,z1,z2,z3,z4,z5,z6,z7⟩:=h;refine⟨?_,?_,?_,?_,?_,?_,?_,?_,?_,?_,?_,?_,?_,?_,?_,?_⟩
 all_goals go_simp
theorem zfm{B b:Nat}{a w:World}(h:Below B a w)(hb:B≤b)(y0 y1 y2 y3:Value):Below B a ((((w.setCell ⟨b,0,none⟩ y0).setCell ⟨b,1,none⟩ y1).setCell ⟨b,2,none⟩ y2).setCell ⟨b,3,none⟩ y3):=((((h.setCell (p:=⟨b,0,none⟩) hb y0).setCell (p:=⟨b,1,none⟩) hb y1).setCell (p:=⟨b,2,none⟩) hb y2).setCell (p:=⟨b,3,none⟩) hb y3)
theorem zac{B b:Nat}{a w:World}(h:Below B a w)(hb:B≤b)(y0 y1 y2 y3 y4 y5:Value):Below B a ((((((w.setCell ⟨b,0,none⟩ y0).setCell ⟨b,1,none⟩ y1).setCell ⟨b,2,none⟩ y2).setCell ⟨b,3,none⟩ y3).setCell ⟨b,4,none⟩ y4).setCell ⟨b,5,none⟩ y5):=((((((h.setCell (p:=⟨b,0,none⟩) hb y0).setCell (p:=⟨b,1,none⟩) hb y1).setCell (p:=⟨b,2,none⟩) hb y2).setCell (p:=⟨b,3,none⟩) hb y3).setCell (p:=⟨b,4,none⟩) hb y4).setCell (p:=⟨b,5,none⟩) hb y5)
theorem zdR{B b:Nat}{a w:World}(h:Below B a w)(hb:B≤b)(y0 y1 y2 y3 y4 y5 y6 y7:Value):Below B a ((((((((w.setCell ⟨b,0,none⟩ y0).setCell ⟨b,1,none⟩ y1).setCell ⟨b,2,none⟩ y2).setCell ⟨b,3,none⟩ y3).setCell ⟨b,4,none⟩ y4).setCell ⟨b,5,none⟩ y5).setCell ⟨b,6,none⟩ y6).setCell ⟨b,7,none⟩ y7):=((((((((h.setCell (p:=⟨b,0,none⟩) hb y0).setCell (p:=⟨b,1,none⟩) hb y1).setCell (p:=⟨b,2,none⟩) hb y2).setCell (p:=⟨b,3,none⟩) hb y3).setCell (p:=⟨b,4,none⟩) hb y4).setCell (p:=⟨b,5,none⟩) hb y5).setCell (p:=⟨b,6,none⟩) hb y6).setCell (p:=⟨b,7,none⟩) hb y7)
end Go.Proofs.YtjcdeikbghjpkaaGreatDoor
