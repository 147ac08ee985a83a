/-
  slices.SortFunc over slices of nodes by val.order. Plain: a list of values ..
-/
import Derived.Shelf.SlSortCmp.NoneTotal
import Derived.RangeFuncBox
import Derived.RangeFuncBound
import Derived.Sort.OwnSorted
import Derived.Test.YthidiimbeaabhaaGreatDoorQ27
import Derived.Test.YthidiimbeaabhaaGreatDoorQ28
set_option maxRecDepth 100000
set_option maxHeartbeats 8000000
namespace Go.Proofs.YthidiimbeaabhaaGreatDoor
open Go.RowKit Go.Wk Go.Sort Go.Shelf
section
variable {α:Type} [Inhabited α] {enc:α->Value}
theorem AV{w:World}{g n:Nat}{os:Array Obj}{cur:Array Value}{e:TypeId}{fr:Nat × Nat}(d:Array α)(hb:w.heap[g]?=some (.cells cur e fr)):
 (sortWorld enc w g 0 n d os).heap[g]?=some (.cells (putCells enc 0 d cur) e fr):=by
 have hg:g<w.heap.size:=(Array.getElem?_eq_some_iff.1 hb).1;unfold sortWorld;rw [heap_grow_old _ _ (by simpa using hg)];simp [putRow,mapBlock,Sort.ahead,Array.getElem?_modify,hb,onCells]
theorem gB{w:World}{g n:Nat}{os:Array Obj}(d:Array α):w.grownBy (sortWorld enc w g 0 n d os) (some g):=by
 unfold sortWorld;refine⟨rfl,rfl,rfl,by simp,λk hk hne=>?_⟩;rw [heap_grow_old _ _ (by simpa using hk)];have:g≠k:=λe=>hne (by rw [e]);simp [putRow,mapBlock,Sort.ahead,Array.getElem?_modify,this]
theorem BV(cur:Array Value)(ts:List α)(h:ts.length<=cur.size):(putCells enc 0 ts.toArray cur).toList.take ts.length=ts.map enc:=by
 apply List.ext_getElem?;intro j;by_cases hj:j<ts.length
 ·rw [List.getElem?_take_of_lt hj,Array.getElem?_toList];simp [putCells,hj,show j<cur.size by omega]
 ·rw [List.getElem?_take_eq_none (by omega),List.getElem?_eq_none (by simp;omega)]
theorem Aj{w:World}{g:Nat}{cur:Array Value}{e:TypeId}{ts:List α}(hb:w.heap[g]?=some (.cells cur e (0,0)))(ht:cur.toList.take ts.length=ts.map enc):Holds enc w g 0 ts.toArray:=by
 intro j hj;have hj':j<ts.length:=by simpa using hj
 refine⟨?_,by simp [World.frozen?,hb]⟩;have h1:(cur.toList.take ts.length)[j]?=(ts.map enc)[j]?:=by rw [ht]
 rw [List.getElem?_take_of_lt hj'] at h1;simp only [World.cell?,hb,Nat.zero_add];simp only [Option.isSome_none,Bool.false_eq_true,if_false];rw [<-Array.getElem?_toList,h1];simp [hj']
end
abbrev mM (w:World) (g:Nat):Type := { r:Sl // Ns w r.A r.n r.c r.P/\bE r (some g)}
instance (w:World) (g:Nat):Inhabited (mM w g):=⟨⟨⟨none,0,0,[]⟩,⟨rfl,Nat.le_refl _,Nat.zero_le _,λk x hx=>by simp at hx,λx hx=>by cases hx⟩,λh=>by simp at h⟩⟩
def wu(w:World)(g:Nat)(x:mM w g):Value:=x.1.v
def gCf(w:World)(g:Nat)(x y:mM w g):Int:=zx x.1.P y.1.P
theorem JB(w:World)(g:Nat):SWO (ltOf (gCf w g)) where
 irrefl x:=by unfold ltOf gCf;rw [zO.self];rfl
 trans x y z h1 h2:=by
  unfold ltOf gCf at *;simp only [decide_eq_true_eq] at *;exact zO.lt_le h1 (by omega)
 ntrans x y z h1 h2:=by
  unfold ltOf gCf at *;simp only [decide_eq_false_iff_not] at *;have a1:=zO.anti x.1.P y.1.P;have a2:=zO.anti y.1.P z.1.P;have a3:=zO.anti x.1.P z.1.P;have:=zO.trans z.1.P y.1.P x.1.P (by omega) (by omega);omega
theorem qf{w:World}{r s:Sl}(h:Ns w r.A r.n r.c r.P)(k:Ns w s.A s.n s.c s.P):
 Calls Tryz.prog 113 #[r.v,s.v] w λe w'=>e = .returned (.int .i64 (zx r.P s.P))/\kP w w' :=
 we r.A s.A r.n s.n r.c s.c r.P s.P w h.len k.len h.max k.max h.at_ k.at_
theorem Jq(w:World)(g size:Nat):CmpLays1 Tryz.prog 113 #[] (wu w g) (gCf w g) g 0 size w:=by
 intro m os dk _ x y;have n1:=Ns.row (r:=x.1) x.2.1 (gB (enc:=wu w g) (n:=m) (os:=os) dk) x.2.2;have n2:=Ns.row (r:=y.1) y.2.1 (gB (enc:=wu w g) (n:=m) (os:=os) dk) y.2.2;exact(qf n1 n2).mono λe w' ⟨h1,h2⟩=>⟨h1,h2.grow⟩
theorem Am{β:Type}{p:β->Prop}(V:List β)(h:∀r∈V,p r):∃L:List { r:β // p r },L.map (λx=>x.1)=V:=by
 induction V with
 | nil=>exact⟨[],rfl⟩
 | cons r V ih =>
  obtain⟨L,hL⟩:=ih (λx hx=>h x (by simp [hx]))
  exact⟨⟨r,h r (by simp)⟩:: L,by simp [hL]⟩
def tH(V:List Sl):Prop:=∀i j (hij:i<j) (hj:j<V.length),zx (V[i]'(by omega)).P V[j].P<=0
theorem D5(w:World)(B g cap:Nat)(V:List Sl)(h:zK w B (.slice (some ⟨g,0,none⟩) V.length cap) V)(hs:V.length<=5864062014634):
 Calls Tryz.prog 103 #[.slice (some ⟨g,0,none⟩) V.length cap,.func (.func 113) #[] #[]] w λe w' =>
  e = .returned (.tuple #[])/\∃V':List Sl,V'.Perm V/\tH V'/\zK w' B (.slice (some ⟨g,0,none⟩) V.length cap) V'/\w.grownBy w' (some g):=by
 have hgood:∀r∈V,Ns w r.A r.n r.c r.P/\bE r (some g):=λr hr=>⟨h.each r hr,h.apart r hr⟩
 obtain⟨L,hL⟩:∃L:List (mM w g),L.map (λx=>x.1)=V:=Am V hgood;have Mi:L.length=V.length:=by rw [<-hL];simp
 rcases h.own.2 with ⟨e0,-⟩|⟨g',cap',cur,e0,KF,hh,h1,h2,h3,h4⟩
 ·cases e0
 injection e0 with e1 _ e2;injection e1 with e1;injection e1 with e1;subst e1 e2;have hEnc:L.map (wu w g)=V.map Sl.v:=by rw [<-hL,List.map_map];rfl
 have hH:Holds (wu w g) w g 0 L.toArray:=Aj hh (by rw [hEnc,Mi];simpa using h4);have eg:∀args w,(callFunc 113 args).run Tryz.prog w = .ok (.enter 113 args) w:=enters_of Tryz.func113 (by kernel_rfl) rfl;have hcon:=Any.slices_SortFunc Tryz.sortF (wu w g) (λ_=>rfl) (gCf w g) (JB w g) 113 #[] g 0 cap L.toArray w eg (Jq w g _) hH (Array.getElem?_eq_some_iff.1 hh).1 (by simp;omega);change Calls Tryz.prog 103 _ _ _ at hcon;have hsz:L.toArray.size=V.length:=by simp [Mi]
 rw [hsz] at hcon;refine hcon.mono ?_;rintro e w' ⟨he,d',n,os,hp,Kx,rfl⟩;refine⟨he,d'.toList.map (λx=>x.1),?_,?_,?_,gB d'⟩
 ·obtain⟨q1,-,q3⟩:=hp;have a1:(d'.extract 0 V.length).toList=d'.toList:=by
   rw [Array.toList_extract];simp only [List.extract,Nat.sub_zero,List.drop_zero];exact List.take_of_length_le (by simp;omega)
  have a2:(L.toArray.extract 0 V.length).toList=L:=by
   rw [Array.toList_extract];simp [List.extract,<-Mi]
  rw [a1,a2] at q3;have:=q3.map (λx:mM w g=>x.1);rw [hL] at this;exact this
 ·intro i j hij hj;have hj':j<d'.size:=by simpa using hj
  have hd:d'.size=V.length:=hp.1.trans hsz;have:=Kx i j (Nat.zero_le _) hij (by omega);unfold ltOf gCf at this;simp only [decide_eq_false_iff_not] at this;have b1:=zO.anti (d'[j]!).1.P (d'[i]!).1.P;have g1:(d'.toList.map (λx=>x.1))[i]'(by simp;omega)=(d'[i]!).1:=by simp [show i<d'.size by omega]
  have g2:(d'.toList.map (λx=>x.1))[j]=(d'[j]!).1:=by simp [hj']
  rw [g1,g2];omega
 ·have hd:d'.size=V.length:=hp.1.trans hsz;have hdl:d'.toList.length=V.length:=by simpa using hd
  refine⟨⟨by simp [hd],.inr ⟨g,cap,_,by simp [hd],KF,AV d' hh,by simpa [hd] using h1,h2,by simp [putCells,h3],?_⟩⟩,?_,?_⟩
  ·have:=BV (enc:=wu w g) cur d'.toList (by rw [h3];omega);rw [hdl] at this;simp only [List.length_map,hdl,Nat.mul_one];rw [show d'.toList.toArray=d' from by simp] at this;rw [this,List.map_map];rfl
  ·intro r hr;obtain⟨x,hx,rfl⟩:=List.mem_map.1 hr;exact Ns.row (r:=x.1) x.2.1 (gB d') x.2.2
  ·intro r hr;obtain⟨x,hx,rfl⟩:=List.mem_map.1 hr;exact x.2.2
theorem xR(w:World)(p:Option Addr)(cap:Nat)(fv:Value):
 Calls Tryz.prog 103 #[.slice p 0 cap,fv] w λe w'=>e = .returned (.tuple #[])/\w'=w :=
 AnyF.slices_SortFunc_none (ρ:=Tryz.sortF_ren) { Tryz.sortF with } p cap fv w
end Go.Proofs.YthidiimbeaabhaaGreatDoor
namespace Go.Proofs.YthidiimbeaabhaaGreatDoor
open Go.RowKit Go.Wk Go.Sort
def goL(p:Sl):List Sl->List Sl
 | [] => []
 | b :: r=>if zx b.P p.P=0 then goL b r else b :: goL b r
def z8:List Sl->List Sl
 | [] => []
 | a :: r=>a :: goL a r
theorem Co{V:List Sl}{p:Sl}{k:Nat}(h:k<V.length)(he:zx V[k].P p.P=0):goL p (V.drop k)=goL V[k] (V.drop (k+1)):=by
 rw [List.drop_eq_getElem_cons h];simp only [goL,he,if_true]
theorem DN{V:List Sl}{p:Sl}{k:Nat}(h:k<V.length)(he:zx V[k].P p.P≠0):goL p (V.drop k)=V[k] :: goL V[k] (V.drop (k+1)):=by
 rw [List.drop_eq_getElem_cons h];simp only [goL,he,if_false]
theorem xp{V:List Sl}{p:Sl}{k:Nat}(h:V.length<=k):goL p (V.drop k)= []:=by
 rw [List.drop_of_length_le h];rfl
theorem o4{V:List Sl}(h:0<V.length):z8 V=V.take 1 ++ goL V[0] (V.drop 1):=by
 rcases V with _|⟨a,r⟩
 ·simp at h
 ·rfl
theorem ov{V:List Sl}(h:V.length<2):z8 V=V:=by
 rcases V with _|⟨a,_|⟨b,r⟩⟩
 ·rfl
 ·rfl
 ·simp at h;omega
theorem Gl(r:List Sl):∀p x,x∈goL p r->x∈r:=by
 induction r with
 | nil=>intro p x h;cases h
 | cons b r ih =>
  intro p x h
  simp only [goL] at h
  split at h
  ·exact List.mem_cons_of_mem _ (ih _ _ h)
  ·rcases List.mem_cons.1 h with rfl|h
   ·simp
   ·exact List.mem_cons_of_mem _ (ih _ _ h)
theorem k6{V:List Sl}{x:Sl}(h:x∈z8 V):x∈V:=by
 rcases V with _|⟨a,r⟩
 ·cases h
 ·rcases List.mem_cons.1 h with rfl|h
  ·simp
  ·exact List.mem_cons_of_mem _ (Gl _ _ _ h)
theorem FT(r:List Sl):∀p,(goL p r).length<=r.length:=by
 induction r with
 | nil=>intro p;simp [goL]
 | cons b r ih =>
  intro p
  simp only [goL]
  split
  ·have:=ih b;simp;omega
  ·have:=ih b;simp;omega
theorem rX(V:List Sl):(z8 V).length<=V.length:=by
 rcases V with _|⟨a,r⟩
 ·simp [z8]
 ·have:=FT r a;simp [z8];omega
theorem Hy(r:List Sl):∀p:Sl,(p :: r).Pairwise (λa b=>zx a.P b.P<=0)->Up (p.P ::(goL p r).map Sl.P)/\∀x∈r,x.P∈p.P ::(goL p r).map Sl.P:=by
 induction r with
 | nil=>intro p _;exact⟨trivial,λx hx=>by cases hx⟩
 | cons b r ih =>
  intro p h
  obtain⟨h1,h2⟩:=List.pairwise_cons.1 h
  obtain⟨i1,i2⟩:=ih b h2
  have hle:=h1 b (by simp)
  have ha:=zO.anti p.P b.P
  simp only [goL]
  split
  ·rename_i h0
   have e:=(zO.zero b.P p.P).1 h0;rw [e] at i1 i2;refine⟨i1,λx hx=>?_⟩;rcases List.mem_cons.1 hx with rfl|hx
   ·rw [e];simp
   ·exact i2 x hx
  ·rename_i h0
   refine⟨⟨by omega,i1⟩,λx hx=>?_⟩;rcases List.mem_cons.1 hx with rfl|hx
   ·simp
   ·exact List.mem_cons_of_mem _ (i2 x hx)
theorem sM{V:List Sl}(h:V.Pairwise (λa b=>zx a.P b.P<=0)):(z8 V).map Sl.P=eZ (V.map Sl.P):=by
 rcases V with _|⟨a,r⟩
 ·rfl
 obtain⟨h1,h2⟩:=Hy r a h;refine(wS h1 λx=>⟨λhx=>?_,λhx=>?_⟩).symm
 ·obtain⟨y,hy,rfl⟩:∃y∈z8 (a :: r),y.P=x:=List.mem_map.1 hx;exact List.mem_map_of_mem (k6 hy)
 ·obtain⟨y,hy,rfl⟩:=List.mem_map.1 hx;rcases List.mem_cons.1 hy with rfl|hy
  ·simp
  ·exact h2 y hy
theorem Dx(r s:Sl)(w:World)(h:Ns w r.A r.n r.c r.P)(k:Ns w s.A s.n s.c s.P):
 Calls Tryz.prog 138 #[r.v,s.v] w λe w'=>e = .returned (.bool (zx r.P s.P==0))/\Below w.heap.size w w':=by
 have HC:=O (qf h k);clear h k;unfold Sl.v at HC ⊢;go_enter Tryz.func138,Tryz.ntmps138;go_wp2_with fail;refine HC.o.mono ?_;rintro e w1 ⟨rfl,hb⟩;have HB:=O hb.b;clear hb HC;go_wp2_with fail;go_ret;exact⟨rfl,HB.o⟩
def bL(w:World)(g cap:Nat)(V Y:List Sl)(m:Nat):Prop :=
 ∃cur,w.heap[g]?=some (.cells cur 30 (0,0))/\cur.size=cap/\(∀j (h:j<Y.length),cur[j]?=some Y[j].v)/\∀j (h:j<V.length),m<=j->cur[j]?=some V[j].v
theorem bL.keep{w w':World}{g cap m:Nat}{V Y:List Sl}(h:bL w g cap V Y m)(hb:Below w.heap.size w w'):bL w' g cap V Y m:=by
 obtain⟨cur,h1,h2⟩:=h;exact⟨cur,by rw [(zj hb none).block g (Array.getElem?_eq_some_iff.1 h1).1 (by simp)];exact h1,h2⟩
theorem bL.cell{w:World}{g cap m:Nat}{V Y:List Sl}(h:bL w g cap V Y m){j:Nat}(hj:j<V.length)(hm:m<=j):w.cell? ⟨g,j,none⟩=some V[j].v/\w.frozen? ⟨g,j,none⟩=false:=by
 obtain⟨cur,h1,-,-,h4⟩:=h;exact⟨by simp [World.cell?,h1,h4 j hj hm],by simp [World.frozen?,h1]⟩
theorem bL.skip{w:World}{g cap m:Nat}{V Y:List Sl}(h:bL w g cap V Y m):bL w g cap V Y (m+1):=by
 obtain⟨cur,h1,h2,h3,h4⟩:=h;exact⟨cur,h1,h2,h3,λj hj hm=>h4 j hj (by omega)⟩
theorem bL.put{w:World}{g cap m:Nat}{V Y:List Sl}(h:bL w g cap V Y m)(r:Sl)(hY:Y.length<=m)(hc:Y.length<cap):bL (w.setCell ⟨g,Y.length,none⟩ r.v) g cap V (Y ++ [r]) (m+1):=by
 obtain⟨cur,h1,h2,h3,h4⟩:=h;refine⟨cur.setIfInBounds Y.length r.v,?_,by simpa using h2,λj hj=>?_,λj hj hm=>?_⟩
 ·rw [setCell_eq];simp [mapBlock,Array.getElem?_modify,h1,onCells]
 ·by_cases e:j=Y.length
  ·subst e;simp [show Y.length<cur.size by omega]
  ·have:j<Y.length:=by simp at hj;omega
   rw [Array.getElem?_setIfInBounds_ne (by omega),h3 j this];simp [List.getElem_append_left this]
 ·rw [Array.getElem?_setIfInBounds_ne (by omega)];exact h4 j hj (by omega)
theorem bL.clear{g cap:Nat}{Y:List Sl}:∀(vs:List Value) (o:Nat) (w:World),bL w g cap [] Y 0->Y.length<=o->bL (w.setCells g o vs) g cap [] Y 0
 | [],_,_,h,_=>h
 | v :: r,o,w,h,ho=>by
  refine bL.clear r (o+1) _ ?_ (by omega);obtain⟨cur,h1,h2,h3,-⟩:=h;refine⟨cur.setIfInBounds o v,?_,by simpa using h2,λj hj=>?_,λj hj=>by simp at hj⟩
  ·rw [setCell_eq];simp [mapBlock,Array.getElem?_modify,h1,onCells]
  ·rw [Array.getElem?_setIfInBounds_ne (by omega)];exact h3 j hj
theorem pZ(w:World)(g o:Nat)(v:Value):w.grownBy (w.setCell ⟨g,o,none⟩ v) (some g):=by
 rw [setCell_eq];refine⟨rfl,rfl,rfl,by simp [mapBlock],λk hk hne=>?_⟩;have:g≠k:=λe=>hne (by rw [e]);simp [mapBlock,Array.getElem?_modify,this]
theorem nJ(g:Nat):∀(vs:List Value) (o:Nat) (w:World),w.grownBy (w.setCells g o vs) (some g)
 | [],_,w=>World.grownBy.refl w _
 | v :: r,o,w=>(pZ w g o v).trans (nJ g r (o+1) _)
theorem bL.own{w w':World}{B g cap m n:Nat}{V Y U:List Sl}(h:zK w B (.slice (some ⟨g,0,none⟩) n cap) V)(hc:bL w' g cap U Y m)(hg:w.grownBy w' (some g))(hY:∀x∈Y,x∈V)(hl:Y.length<=n):zK w' B (.slice (some ⟨g,0,none⟩) Y.length cap) Y:=by
 obtain⟨cur,c1,c2,c3,-⟩:=hc;rcases h.own.2 with ⟨e0,-⟩|⟨g',cap',cur',e0,KF,hh,h1,h2,h3,h4⟩
 ·cases e0
 injection e0 with e1 _ e2;injection e1 with e1;injection e1 with e1;subst e1 e2;refine⟨⟨by simp,.inr ⟨g,cap,cur,rfl,KF,c1,by have:=h.own.1;omega,h2,by simpa using c2,?_⟩⟩,λr hr=>(h.each r (hY r hr)).row hg (h.apart r (hY r hr)),λr hr=>h.apart r (hY r hr)⟩;apply List.ext_getElem?;intro j;by_cases hj:j<Y.length
 ·rw [List.getElem?_take_of_lt (by omega),Array.getElem?_toList,c3 j hj];simp [hj]
 ·rw [List.getElem?_take_eq_none (by omega),List.getElem?_eq_none (by simp;omega)]
theorem xH{w:World}{B g cap:Nat}{V:List Sl}(h:zK w B (.slice (some ⟨g,0,none⟩) V.length cap) V):bL w g cap V [] 0/\V.length<=cap:=by
 rcases h.own.2 with ⟨e0,-⟩|⟨g',cap',cur,e0,KF,hh,h1,h2,h3,h4⟩
 ·cases e0
 injection e0 with e1 _ e2;injection e1 with e1;injection e1 with e1;subst e1 e2;refine⟨⟨cur,hh,by simpa using h3,λj hj=>by simp at hj,λj hj _=>?_⟩,h1⟩;have e:(cur.toList.take (V.length*1))[j]?=(V.map Sl.v)[j]?:=by rw [h4]
 rw [List.getElem?_take_of_lt (by omega),Array.getElem?_toList] at e;rw [e];simp [hj]
theorem bL.take{w:World}{g cap:Nat}{V:List Sl}(h:bL w g cap V [] 0)(k:Nat):bL w g cap V (V.take k) k:=by
 obtain⟨cur,h1,h2,h3,h4⟩:=h;refine⟨cur,h1,h2,λj hj=>?_,λj hj _=>h4 j hj (Nat.zero_le _)⟩;have hj':j<V.length:=by simp at hj;omega
 rw [h4 j hj' (Nat.zero_le _),List.getElem_take]
theorem bL.forget{w:World}{g cap m:Nat}{V Y:List Sl}(h:bL w g cap V Y m):bL w g cap [] Y 0:=by
 obtain⟨cur,h1,h2,h3,h4⟩:=h;exact⟨cur,h1,h2,h3,λj hj=>by simp at hj⟩
theorem bL.there{w:World}{g cap m:Nat}{V Y:List Sl}(h:bL w g cap V Y m){j:Nat}(hj:j<cap):(∃v,w.cell? ⟨g,j,none⟩=some v)/\w.frozen? ⟨g,j,none⟩=false:=by
 obtain⟨cur,h1,h2,-,-⟩:=h;exact⟨⟨cur[j]'(by omega),by simp [World.cell?,h1,show j<cur.size by omega]⟩,by simp [World.frozen?,h1]⟩
theorem EM(w:World):(zeroValue 30).run Tryz.prog w = .ok (.slice none 0 0) w:=by kernel_rfl
theorem xU{V:List Sl}{p:Sl}{k:Nat}(h:k<V.length)(h0:zx V[k].P p.P=0)(he:z8 V=V.take k ++ goL p (V.drop k)):z8 V=V.take k ++ goL V[k] (V.drop (k+1)):=by
 rw [he,Co h h0]
theorem tV(w:World)(B g cap:Nat)(V:List Sl)(h:zK w B (.slice (some ⟨g,0,none⟩) V.length cap) V)(hs:V.length<=5864062014634):
 Calls Tryz.prog 137 #[.slice (some ⟨g,0,none⟩) V.length cap,.func (.func 138) #[] #[]] w λe w' =>
  e = .returned (.slice (some ⟨g,0,none⟩) (z8 V).length cap)/\zK w' B (.slice (some ⟨g,0,none⟩) (z8 V).length cap) (z8 V)/\w.grownBy w' (some g):=by
 have HR:=O (xH h).1;have IX:=(xH h).2;have HH:=O h;clear h;by_cases h2:V.length<2
 ·have HC:=O (ov h2);go_enter Tryz.func137,Tryz.ntmps137;go_wp2;go_ret;rw [HC.o];exact⟨rfl,HH.o,World.grownBy.refl _ _⟩
 ·go_enter Tryz.func137,Tryz.ntmps137;go_wp2;go_loopw [5] (λi wr=>∃k:Nat,1<=k/\k<=V.length/\i = .int .i64 k/\Hid (∃p,V[k-1]?=some p/\z8 V=V.take k ++ goL p (V.drop k))/\Hid (Below w.heap.size w wr)) (λi _=>V.length-(intOf i).toNat)
  case atStart=>exact⟨1,Nat.le_refl _,by omega,rfl,⟨V[0],by simp,o4 (by omega)⟩,Below.refl _ _⟩
  case round =>
   obtain⟨k,GF,hk2,rfl,hc,hb⟩:=hrel;by_cases hlt:k<V.length
   ·obtain⟨a1,f1⟩:=(HR.o.keep hb.o).cell hlt (Nat.zero_le _);obtain⟨a0,f0⟩:=(HR.o.keep hb.o).cell (j:=k-1) (by omega) (Nat.zero_le _);have n1:=(HH.o.each _ (List.getElem_mem hlt)).keep hb.o;have n0:=(HH.o.each _ (List.getElem_mem (show k-1<V.length by omega))).keep hb.o;have s1:=rq (w:=wr) (λw' h=>Dx V[k] V[k-1] w' (n1.keep h) (n0.keep h));clear n1 n0;unfold Sl.v at a1 a0 s1;have k1:=cell_regrown a1;have k0:=cell_regrown a0;go_wp2_with fail;refine wp_region_quiet_below (by kernel_rfl) (by kernel_rfl) ?_
    repeat (first|go_big_quiet_step (exact s1 _ _)|quiet_step (exact s1 _ _))
    refine wpQuiet_nil ?_;intro w1 hw';have B1:=O (show Below wr.heap.size wr w1 by obtain⟨⟨d,os⟩,rfl⟩:=hw';exact below_regrown _ _ _);clear hw';clear s1 k1 k0 a1 a0 f1 f0;by_cases h0:zx V[k].P V[k-1].P=0
    ·have e0:(zx V[k].P V[k-1].P==0)=true:=by rw [h0];rfl
     have HI:=O (show(V.take k).length=k/\∃p,V[k+1-1]?=some p/\z8 V=V.take k ++ goL p (V.drop (k+1)) by
      obtain⟨p,hp,he⟩:=hc.o
      have fj:V[k-1]=p:=by
       rw [List.getElem?_eq_getElem (by omega)] at hp;injection hp
      subst fj
      exact⟨by simp;omega,V[k],by simp [hlt],xU hlt h0 he⟩)
     have HB:=Mx hb B1 (Nat.le_refl _);have R1:=O ((HR.o.keep HB.o).take k);have G1:=O (zj HB.o (some g));rw [e0];clear hc hb B1 h0 e0;have hlc:k<cap:=by omega
     go_wp2;go_loopw [5,7] (λi j wr=>∃(kk k2:Nat) (Y:List Sl),i = .int .i64 kk/\j = .int .i64 k2/\1<=k2/\k+k2<=V.length/\kk<=k+k2-1/\Hid (Y.length=kk/\∃p,V[k+k2-1]?=some p/\z8 V=Y ++ goL p (V.drop (k+k2)))/\Hid (bL wr g cap V Y (k+k2-1))/\Hid (w.grownBy wr (some g))) (λ_ j _=>V.length-(intOf j).toNat)
     case atStart=>exact⟨k,1,V.take k,rfl,rfl,Nat.le_refl _,by omega,by omega,HI,R1,G1⟩
     case round =>
      obtain⟨kk,k2,Y,rfl,rfl,g1,g2,g3,hI,hR,hG⟩:=hrel;by_cases hlt2:k+k2<V.length
      ·obtain⟨a1,f1⟩:=hR.o.cell hlt2 (by omega);obtain⟨a0,f0⟩:=hR.o.cell (j:=k+k2-1) (by omega) (by omega);have n1:=(HH.o.each _ (List.getElem_mem hlt2)).row hG.o (HH.o.apart _ (List.getElem_mem hlt2));have n0:=(HH.o.each _ (List.getElem_mem (show k+k2-1<V.length by omega))).row hG.o (HH.o.apart _ (List.getElem_mem (show k+k2-1<V.length by omega)));have s1:=rq (w:=wr) (λw' h=>Dx V[k+k2] V[k+k2-1] w' (n1.keep h) (n0.keep h));clear n1 n0;unfold Sl.v at a1 a0 s1;have a0':wr.cell? ⟨g,k+(k2-1),none⟩=some (.slice V[k+k2-1].A V[k+k2-1].n V[k+k2-1].c):=by rw [show k+(k2-1)=k+k2-1 by omega];exact a0
       have f0':wr.frozen? ⟨g,k+(k2-1),none⟩=false:=by rw [show k+(k2-1)=k+k2-1 by omega];exact f0
       clear a0 f0;have k1:=cell_regrown a1;have k0:=cell_regrown a0';go_wp2_with fail;refine wp_region_quiet_below (by kernel_rfl) (by kernel_rfl) ?_
       repeat (first|go_big_quiet_step (exact s1 _ _)|quiet_step (exact s1 _ _))
       refine wpQuiet_nil ?_;intro w1 hw';have B1:=O (show Below wr.heap.size wr w1 by obtain⟨⟨d,os⟩,rfl⟩:=hw';exact below_regrown _ _ _);clear hw';clear s1 k1 k0 a1 a0' f1 f0';have G2:=O (hG.o.trans (zj B1.o (some g)));have R2:=O (hR.o.keep B1.o);clear hG hR B1;by_cases h0:zx V[k+k2].P V[k+k2-1].P=0
       ·have e0:(zx V[k+k2].P V[k+k2-1].P==0)=true:=by rw [h0];rfl
        have HJ:=O (show Y.length=kk/\∃p,V[k+(k2+1)-1]?=some p/\z8 V=Y ++ goL p (V.drop (k+(k2+1))) by
         obtain⟨hl,p,hp,he⟩:=hI.o
         have fj:V[k+k2-1]=p:=by
          rw [List.getElem?_eq_getElem (by omega)] at hp;injection hp
         subst fj
         refine⟨hl,V[k+k2],by rw [show k+(k2+1)-1=k+k2 by omega];exact List.getElem?_eq_getElem hlt2,?_⟩
         rw [he,Co hlt2 h0];rfl)
        have R3:=O (show bL w1 g cap V Y (k+(k2+1)-1) by
         have:=R2.o.skip
         rwa [show k+k2-1+1=k+(k2+1)-1 by omega] at this)
        rw [e0];clear hI R2 h0 e0;go_wp2;go_roundw
        case rel=>exact⟨kk,k2+1,Y,rfl,by go_num,by omega,by omega,by omega,HJ,R3,G2⟩
        case measure=>simp [intOf];omega
       ·have e0:(zx V[k+k2].P V[k+k2-1].P==0)=false:=beq_eq_false_iff_ne.2 h0;have HJ:=O (show(Y ++ [V[k+k2]]).length=kk+1/\∃p,V[k+(k2+1)-1]?=some p/\z8 V=(Y ++ [V[k+k2]])++ goL p (V.drop (k+(k2+1))) by
         obtain⟨hl,p,hp,he⟩:=hI.o
         have fj:V[k+k2-1]=p:=by
          rw [List.getElem?_eq_getElem (by omega)] at hp;injection hp
         subst fj
         refine⟨by simp [hl],V[k+k2],by rw [show k+(k2+1)-1=k+k2 by omega];exact List.getElem?_eq_getElem hlt2,?_⟩
         rw [he,DN hlt2 h0,List.append_assoc];rfl)
        have R3:=O (show bL (w1.setCell ⟨g,kk,none⟩ V[k+k2].v) g cap V (Y ++ [V[k+k2]]) (k+(k2+1)-1) by
         have:=R2.o.put V[k+k2] (by rw [hI.o.1];omega) (by rw [hI.o.1];omega)
         rwa [show k+k2-1+1=k+(k2+1)-1 by omega,hI.o.1] at this)
        have G3:=O (G2.o.trans (pZ w1 g kk V[k+k2].v));obtain⟨a1,f1⟩:=R2.o.cell hlt2 (by omega);obtain⟨⟨vk,ak⟩,fk⟩:=R2.o.there (j:=kk) (by omega);unfold Sl.v at a1;rw [e0];clear hI R2 G2 h0 e0;go_wp2;go_roundw
        case rel=>exact⟨kk+1,k2+1,_,by go_num,by go_num,by omega,by omega,by omega,HJ,R3,G3⟩
        case measure=>simp [intOf];omega
      ·have HY:=O (show z8 V=Y/\Y.length=kk by
        obtain⟨hl,p,hp,he⟩:=hI.o
        exact⟨by rw [he,xp (by omega),List.append_nil],hl⟩)
       have kW:∀ty,(Builtin.clear_ #[54] ty #[.slice (some ⟨g,kk,none⟩) (V.length-kk) (cap-kk)]).run Tryz.prog wr = .ok (.tuple #[]) (wr.setCells g kk (List.replicate (V.length-kk) (.slice none 0 0))):=
        λty=>Lib.run_clear_slice wr _ _ ty _ Tryz.underlying54 EM rfl rfl g kk _ _ (by omega) (λj hj=>by obtain⟨⟨v,q⟩,-⟩:=hR.o.there (j:=kk+j) (by omega);rw [q];rfl) (λj hj=>(hR.o.there (j:=kk+j) (by omega)).2)
       have G2:=O (hG.o.trans (nJ g (List.replicate (V.length-kk) (.slice none 0 0)) kk wr));have R2:=O (bL.clear (List.replicate (V.length-kk) (.slice none 0 0)) kk wr hR.o.forget (by rw [HY.o.2];exact Nat.le_refl _));clear hI hR hG;go_wp2;go_ret;have hl:=HY.o.2;have hy:=HY.o.1;refine⟨by rw [hy,hl];rfl,?_,G2.o⟩;rw [hy];exact bL.own HH.o R2.o G2.o (λx hx=>k6 (by rw [hy];exact hx)) (by omega)
    ·have e0:(zx V[k].P V[k-1].P==0)=false:=beq_eq_false_iff_ne.2 h0;have HC:=O (show∃p,V[k]?=some p/\z8 V=V.take (k+1)++ goL p (V.drop (k+1)) by
      obtain⟨p,hp,he⟩:=hc.o
      have fj:V[k-1]=p:=by
       rw [List.getElem?_eq_getElem (by omega)] at hp;injection hp
      subst fj
      refine⟨V[k],by simp [hlt],?_⟩
      rw [he,DN hlt h0,<-List.take_append_getElem hlt,List.append_assoc]
      rfl)
     rw [e0];clear hc;have HB:=Mx hb B1 (Nat.le_refl _);clear hb B1;go_wp2;go_roundw
     case rel=>exact⟨k+1,by omega,by omega,by go_num,HC,HB⟩
     case measure=>simp [intOf];omega
   ·have HC:=O (show z8 V=V by
     obtain⟨p,hp,he⟩:=hc.o
     rw [he,xp (by omega),List.take_of_length_le (by omega),List.append_nil])
    clear hc;go_wp2;go_ret;rw [HC.o];exact⟨rfl,HH.o.keep hb.o,zj hb.o _⟩
theorem jD.cells{w:World}{a:Addr}{V:List Sl}(h:jD w (some a) V):∀j u,(V.map Sl.v)[j]?=some u->w.cell? (a.add j)=some u:=by
 intro j u hu;rw [List.getElem?_map] at hu;rcases hv:V[j]? with _|r
 ·rw [hv] at hu;cases hu
 ·rw [hv] at hu;simp only [Option.map_some,Option.some.injEq] at hu;subst hu;obtain⟨b,e,q,-⟩:=h j r hv;injection e with e;subst e;exact q
def vx(w:World)(V:List Sl)(e:Ending)(w':World):Prop:=∃v,e = .returned v/\zK w' w.heap.size v V/\Below w.heap.size w w'
theorem yP(A:Option Addr)(n c:Nat)(V:List Sl)(w:World)(hn:n=V.length)(hm:n*24<=140737488355328)(h:jD w A V):
 Calls Tryz.prog 136 #[.slice A n c] w (vx w V):=by
 obtain⟨i0,hi,hz0,hz1,hz2⟩:=info_parts kE;subst hn;rcases A with _|a
 ·have h0:V = []:=by
   rcases V with _|⟨r,V⟩
   ·rfl
   ·obtain⟨a,e,-⟩:=h 0 r rfl;cases e
  subst h0;have hnil:=λw:World=>Lib.run_eql_slice_nil (P:=Tryz.prog) w 54 30 none 0 c 0 0 Tryz.underlying54;simp only [Option.isNone_none] at hnil;show Calls _ _ #[.slice none 0 c] w _;clear h;go_enter Tryz.func136,Tryz.ntmps136;go_wp2_with fail;go_ret;exact⟨_,rfl,zK.nil _ _,Below.refl _ _⟩
 ·have hnil:=λw:World=>Lib.run_eql_slice_nil (P:=Tryz.prog) w 54 30 (some a) V.length c 0 0 Tryz.underlying54;simp only [Option.isNone_some] at hnil;have HC:=O (λw' hb=>(h.keep (w':=w') hb).cells);have HE:=O (show∀r∈V,Ns w r.A r.n r.c r.P from λr hr=>by
   obtain⟨k,hk,rfl⟩:=List.getElem_of_mem hr
   obtain⟨-,-,-,q⟩:=h.at hk
   exact q)
  have hB:∀W:World,(W.alloc (.cells #[] 30)).ownsRow W.heap.size 30 1 (.slice (some ⟨W.heap.size,0,none⟩) 0 0) 0 []:=λW =>
   ⟨rfl,.inr ⟨_,0,#[],rfl,Nat.le_refl _,heap_alloc_new W _,Nat.le_refl _,by unfold maxLen;omega,rfl,rfl⟩⟩
  clear h;go_enter Tryz.func136,Tryz.ntmps136;go_wp2_with (at_builtin;refine wpList_append_own_at _ rfl _ _ 54 rfl w.heap.size 30 i0 _ 1 24 Tryz.underlying54 hi hz0 hz1 hz2 rfl (by decide) _ 0 [] rfl (hB w) a V.length c (V.map Sl.v) rfl (by simp) (HC.o _ (za _ _)) (by intro u hu;obtain⟨r,-,rfl⟩:=List.mem_map.1 hu;rfl) ?c1 ?c2 ?c3 ?_)
  case c1=>unfold maxLen;omega
  case c2=>omega
  case c3=>simp
  intro v1 w1 hown hgrow _ hat;have B1:=O ((za w (.cells #[] 30)).grown hgrow (by simp) (λk hk=>by simp [Value.ownBlock] at hk;omega));have O1:=O (show zK w1 w.heap.size v1 V from⟨by simpa using hown,λr hr=>(HE.o r hr).keep B1.o,λr hr h0 a' ea q=>by
   have:=jb hown a'.block q
   have:=(HE.o r hr).at_.lt h0 a' ea
   omega⟩)
  clear hown hgrow hat hnil;go_wp2_with fail;go_ret;exact⟨_,rfl,O1.o,B1.o⟩
end Go.Proofs.YthidiimbeaabhaaGreatDoor
namespace Go.Wk
end Go.Wk
namespace Go.Proofs.YthidiimbeaabhaaGreatDoor
open Go.RowKit Go.Wk Go.Sort
def dx(V:List Sl):Int:=dW (V.map (·.P))
theorem tj{V:List Sl}{k:Nat}(h:k<V.length):dx (V.drop k)=or2 (zc V[k].P) (dx (V.drop (k+1))):=by
 unfold dx;rw [List.drop_eq_getElem_cons h];rfl
theorem ri{V:List Sl}{k:Nat}(h:V.length<=k):dx (V.drop k)=0:=by
 unfold dx;rw [List.drop_of_length_le h];rfl
def Dd(w:World)(B:Nat)(v:Value)(V:List Sl)(e:Ending)(w':World):Prop :=
 e = .returned (.tuple #[])/\∃V':List Sl,V'.Perm V/\V'.Pairwise (λa b=>zx a.P b.P<=0)/\zK w' B v V'/\w.grownBy w' v.ownBlock
theorem ti{V:List Sl}(h:tH V):V.Pairwise (λa b=>zx a.P b.P<=0):=
 List.pairwise_iff_getElem.2 λi j _ hj hij=>h i j hij hj
theorem Bd(w:World)(B:Nat)(v:Value)(V:List Sl)(h:zK w B v V)(hs:V.length<=5864062014634):
 Calls Tryz.prog 103 #[v,.func (.func 113) #[] #[]] w (Dd w B v V):=by
 rcases h.own.2 with ⟨rfl,h0⟩|⟨g,cap,cur,rfl,_⟩
 ·have:V = []:=List.eq_nil_of_length_eq_zero h0;subst this;exact(xR w none 0 _).mono λe w' ⟨h1,h2⟩=>⟨h1,[],List.Perm.refl _,List.Pairwise.nil,by rw [h2];exact h,by rw [h2];exact World.grownBy.refl _ _⟩
 ·exact(D5 w B g cap V h hs).mono λe w' ⟨h1,V',h2,h3,h4,h5⟩=>⟨h1,V',h2,ti h3,h4,h5⟩
def sx(w:World)(B:Nat)(v:Value)(V:List Sl)(e:Ending)(w':World):Prop:=∃v',e = .returned v'/\zK w' B v' (z8 V)/\w.grownBy w' v.ownBlock
theorem tB(w:World):Calls Tryz.prog 137 #[.slice none 0 0,.func (.func 138) #[] #[]] w λe w'=>e = .returned (.slice none 0 0)/\w=w':=by
 go_enter Tryz.func137,Tryz.ntmps137;go_wp2;go_ret;exact⟨rfl,rfl⟩
theorem su(w:World)(B:Nat)(v:Value)(V:List Sl)(h:zK w B v V)(hs:V.length<=5864062014634):
 Calls Tryz.prog 137 #[v,.func (.func 138) #[] #[]] w (sx w B v V):=by
 rcases h.own.2 with ⟨rfl,h0⟩|⟨g,cap,cur,rfl,_⟩
 ·have:V = []:=List.eq_nil_of_length_eq_zero h0;subst this;exact(tB w).mono λe w' ⟨h1,h2⟩=>⟨_,h1,by rw [<-h2];exact zK.nil _ _,by rw [<-h2];exact World.grownBy.refl _ _⟩
 ·exact(tV w B g cap V h hs).mono λe w' ⟨h1,h2,h3⟩=>⟨_,h1,h2,h3⟩
def sY(w:World)(L:List (List Nd))(e:Ending)(w':World):Prop :=
 ∃(A:Option Addr) (n c:Nat),e = .returned (.tuple #[.slice A n c,zM (setE L)])/\Ns w' A n c (ga L)/\(∀a,A=some a->w.heap.size<=a.block)/\Below w.heap.size w w'
theorem ic(w:World):Ns w none 0 0 []:=⟨rfl,Nat.le_refl _,Nat.zero_le _,λk x hx=>by simp at hx,λx hx=>by cases hx⟩
def gJ(n:Nat)(L:List (List Nd))(k:Nat):List Nd:=aI n ::(L.take k).flatten
theorem yG{n:Nat}{L:List (List Nd)}{k:Nat}(h:k<L.length):gJ n L (k+1)=gJ n L k ++ L[k]:=by
 unfold gJ;rw [<-List.take_append_getElem h,List.flatten_append];simp
theorem CX{n:Nat}{L:List (List Nd)}(k:Nat):(gJ n L k).length<=L.flatten.length+1:=by
 unfold gJ
 conv=>rhs;rw [<-List.take_append_drop k L]
 rw [List.flatten_append];simp only [List.length_cons,List.length_append];omega
theorem Cl{n:Nat}{L:List (List Nd)}{k:Nat}(h:L.length<=k):gJ n L k=aI n :: L.flatten:=by
 unfold gJ;rw [List.take_of_length_le h]
theorem yn{L:List (List Nd)}(h:∀P∈L,jZ P):jZ L.flatten:=λx hx=>let ⟨P,hP,hx⟩:=List.mem_flatten.1 hx;h P hP x hx
theorem FN{n:Nat}{L:List (List Nd)}(hn:n<=5864062014634)(h:∀P∈L,jZ P):jZ (aI n :: L.flatten):=by
 intro x hx;rcases List.mem_cons.1 hx with rfl|hx
 ·exact⟨Nat.zero_le _,Nat.zero_le _,by show _<=(n:Int);omega,by show(n:Int)<=_;omega⟩
 ·exact yn h x hx
theorem xw(w:World)(x:Nd):(w.alloc (.cells #[.int .i64 x.op,.int .i64 x.n,.string x.s,.string x.t] 47)).ownsRow w.heap.size 47 4 (.slice (some ⟨w.heap.size,0,none⟩) 1 1) 1 (zH [x]):=
 ⟨rfl,.inr ⟨_,1,_,rfl,Nat.le_refl _,heap_alloc_new w _,Nat.le_refl _,by unfold maxLen;omega,rfl,rfl⟩⟩
theorem jD.nds{w:World}{A:Option Addr}{V:List Sl}(h:jD w A V):∀P∈V.map Sl.P,jZ P:=by
 intro P hP;obtain⟨r,hr,rfl⟩:=List.mem_map.1 hP;obtain⟨k,hk,rfl⟩:=List.getElem_of_mem hr;obtain⟨-,-,-,q⟩:=h.at hk;exact q.ok
theorem uO(A:Option Addr)(n c:Nat)(V:List Sl)(w:World)(hn:n=V.length)(hm:n<=5864062014634)(hV:jD w A V):
 Calls Tryz.prog 106 #[.slice A n c] w (sY w (V.map Sl.P)):=by
 obtain⟨i0,hi,hz0,hz1,hz2⟩:=info_parts kC;have HV:=O hV;have HN:=O hn;clear hV hn;go_enter Tryz.func106,Tryz.ntmps106;go_wp2_with fail;go_loopw [5,6,13] (λ_ _ i wr=>∃k:Nat,k<=n/\i = .int .i64 k/\Hid (dx V=dx (V.drop k))/\Hid (Below w.heap.size w wr)) (λ_ _ i _=>n-(intOf i).toNat)
 case atStart=>exact⟨0,Nat.zero_le _,rfl,rfl,Below.refl _ _⟩
 case round =>
  obtain⟨k,hk,rfl,hE,hB⟩:=hrel;by_cases hlt:k<n
  ·have h1:k<V.length:=by rw [<-HN.o];exact hlt
   obtain⟨a,rfl,q,hs⟩:=(HV.o.keep hB.o).at h1;have HA:=O (hE.o.trans (tj h1));have C:=O (zI hs);generalize V[k]=r at *;clear hE hs;by_cases h0:zc r.P=0
   ·rw [h0,zf] at C;rw [h0] at HA;clear h0;go_wp2_with fail;refine(C.o).mono ?_;rintro e w1 ⟨rfl,b1⟩;go_wp2_with fail;go_roundw
    case rel=>exact⟨k+1,by omega,by go_num,HA,bh hB b1⟩
    case measure=>simp [intOf];omega
   ·have HE:=O (show setE (V.map Sl.P)=zc r.P/\setE (V.map Sl.P)≠0 by
     have e:dW (V.map Sl.P)=zc r.P:=HA.o.trans (zG h0 _)
     have e2:setE (V.map Sl.P)=zc r.P:=by unfold setE;rw [e,zG h0]
     exact⟨e2,by rw [e2];exact h0⟩)
    have Ha:=zl h0;have j7:=O (zl h0);rw [Ha] at C;clear h0 Ha;go_wp2_with fail;refine(C.o).mono ?_;rintro e w1 ⟨rfl,b1⟩;go_wp2_with fail;go_ret2;refine⟨none,0,0,by rw [HE.o.1,j7.o];rfl,by rw [uj HE.o.2];exact ic _,(λa e=>nomatch e),(bh hB b1).o⟩
  ·have HF:=O (show dW (V.map Sl.P)=0 from hE.o.trans (ri (by rw [<-HN.o];omega)));have C1:=O (yP A n c V wr HN.o (by omega) (HV.o.keep hB.o));clear hE;go_wp2_with fail;refine C1.o.mono ?_;rintro e w1 ⟨v,rfl,uM,b1⟩;have C2:=O (Bd w1 wr.heap.size v V uM (by rw [<-HN.o];exact hm));have LH:=O (jb uM.own);have B1:=O b1;clear uM b1;go_wp2_with fail;refine C2.o.mono ?_;rintro e w2 ⟨rfl,V',hp,Kx,AG,hg2⟩;have C3:=O (su w2 wr.heap.size v V' AG (by rw [hp.length_eq,<-HN.o];exact hm));have B2:=O (B1.o.grown hg2 B1.o.size LH.o);have HS:=O (show(z8 V').map Sl.P=eZ (V.map Sl.P) by
    rw [sM Kx]
    exact uQ λx=>(hp.map Sl.P).mem_iff)
   have HL:=O (show(z8 V').length<=n by have:=rX V';rw [hp.length_eq,<-HN.o] at this;exact this);clear hp Kx AG hg2 C1 C2 B1;go_wp2_with fail;refine C3.o.mono ?_;rintro e w3 ⟨v3,rfl,Kc,hg3⟩;have B3:=O (hB.o.trans ((B2.o.grown hg3 B2.o.size LH.o).mono hB.o.size));obtain⟨A3,c3,rfl,-,hS3⟩:=Kc.at
   generalize z8 V'=U at *;have HU:=O hS3;have hUn:=HL.o;clear Kc hg3 hS3 C3 B2 LH hB HL;have R0:=O (xw w3 (aI U.length));have HP:=O (show∀r∈U,zc r.P=0 from λr hr=>lh.1 HF.o r.P (i4.1 (by rw [<-HS.o];exact List.mem_map_of_mem hr)));go_wp2_with fail;go_loopw [8,10,35] (λv _ i wr=>∃k:Nat,k<=U.length/\i = .int .i64 k/\Hid ((gJ U.length (U.map Sl.P) k).length<=200/\wr.ownsRow w3.heap.size 47 4 v (gJ U.length (U.map Sl.P) k).length (zH (gJ U.length (U.map Sl.P) k)))/\Hid (Below w3.heap.size w3 wr)) (λ_ _ i _=>U.length-(intOf i).toNat)
   case atStart=>exact⟨0,Nat.zero_le _,rfl,⟨by simp [gJ],R0.o⟩,za _ _⟩
   case round =>
    obtain⟨k,hk,rfl,hR,hB⟩:=hrel;have hsz:=hB.o.size;by_cases hlt:k<U.length
    ·have wM:k<(U.map Sl.P).length:=by rw [List.length_map];exact hlt
     have HO:=O (yG (n:=U.length) wM);obtain⟨a,rfl,q,hs⟩:=(HU.o.keep hB.o).at hlt;have hv:=HP.o _ (List.getElem_mem hlt);have hg:(U.map Sl.P)[k]=U[k].P:=by simp
     rw [hg] at HO;clear hg;generalize U[k]=r at *;obtain⟨hl2,hV2⟩:=zL.1 hv;obtain⟨a2,ea,-⟩:=hs.at_.nd hV2.pos;rw [ea] at q;have HC:=O (show∀j u,(zH r.P)[j]?=some u->wr.cell? (a2.add j)=some u from by
      have:=hs.at_
      rw [ea] at this
      exact this.cells)
     have GR:=O hs.len;have hrn:r.n<=200:=by rw [hs.len];exact hl2
     have hol:=hR.o.1;clear hs hv hl2 hV2 ea;go_wp2_with (at_builtin;refine wpList_append_own _ rfl _ _ 30 rfl w3.heap.size 47 i0 _ 4 48 Tryz.underlying30 hi hz0 hz1 hz2 rfl (by decide) _ (gJ U.length (U.map Sl.P) k).length (zH (gJ U.length (U.map Sl.P) k)) rfl hR.o.2 a2 r.n r.c (zH r.P) rfl (by rw [az,GR.o]) HC.o (bR _) ?c1 ?c2 ?c3 ?_)
     case c1=>unfold maxLen;omega
     case c2=>omega
     case c3=>exact hsz
     intro v1 w5 hown hgrow _;have B5:=O (hB.o.grown hgrow hsz (jb hR.o.2));rw [GR.o,<-bi,<-List.length_append,<-HO.o] at hown;have OW:=O hown;obtain⟨A5,c5,rfl,-⟩:=a6 hown;have OL:=O (CX (n:=U.length) (L:=U.map Sl.P) (k+1));generalize hX:gJ U.length (U.map Sl.P) (k+1)=X at *;have HX:=O hX;clear hown hgrow hX hB hR HO HC q;by_cases cR:200<X.length
     ·have HE:=O (show setE (V.map Sl.P)=4 by
       unfold setE
       rw [HF.o,zn,<-HS.o,if_pos (by have:=OL.o;omega)])
      go_wp2_with fail;go_ret2;refine⟨none,0,0,by rw [HE.o];rfl,by rw [uj (by rw [HE.o];decide)];exact ic _,(λa e=>nomatch e),B3.o.trans (B5.o.mono B3.o.size)⟩
     ·go_wp2_with fail;go_roundw
      case rel=>exact⟨k+1,by omega,by go_num,O (by rw [HX.o];exact⟨by omega,OW.o⟩),B5⟩
      case measure=>simp [intOf];omega
    ·obtain⟨A5,c5,rfl,Jl,JI,Ki⟩:=a6 hR.o.2;have Je:=O (show∀a,A5=some a->w.heap.size<=a.block from λa e=>Nat.le_trans B3.o.size (Ki a e));have HX:=O (Cl (n:=U.length) (L:=U.map Sl.P) (k:=k) (by rw [List.length_map];omega));have HE:=O (show setE (V.map Sl.P)=0 by
      refine qd.2 ⟨HF.o,?_⟩
      have:=hR.o.1
      rw [HX.o,HS.o] at this
      simpa using this)
     have NN:=O (show Ns wr A5 (gJ U.length (U.map Sl.P) k).length c5 (ga (V.map Sl.P)) by
      have e:ga (V.map Sl.P)=gJ U.length (U.map Sl.P) k:=by
       rw [HX.o,xG HE.o,<-HS.o,List.length_map]
      rw [e]
      refine⟨rfl,Jl,by have:=hR.o.1;unfold maxLen;omega,JI,?_⟩
      rw [HX.o]
      exact FN (by omega) HU.o.nds)
     have B6:=O (B3.o.trans (hB.o.mono B3.o.size));clear hR hB Jl JI Ki;go_wp2_with fail;go_ret2;exact⟨A5,_,c5,by rw [HE.o];rfl,NN.o,Je.o,B6.o⟩
end Go.Proofs.YthidiimbeaabhaaGreatDoor
namespace Go.Proofs.YthidiimbeaabhaaGreatDoor
open Go.RowKit Go.Shelf Go.Wk
attribute [local go_sem] Oper.semAt_some
theorem wJ(F:Fence)(n:Nat)(h7:F.fn 172)(hro:F.round=none)(hn:1<=n)(l Bs n₀:Nat)(a:Addr)(len cap:Nat)(N:List ByteArray)(hlen:len=N.length)(hreach:len*16<=140737488351232)(hb:a.block<n₀)(J Jx:List ByteArray->World->Prop)
 (hY:∀pre x W,J pre W->pre.length<len->YieldAt F (n-1) Tryz.prog l #[.string x] W λe W' =>
  (e = .returned (.bool true)/\J (pre ++ [x]) W'/\Below n₀ W W')\/(e = .returned (.bool false)/\Jx (pre ++ [x]) W'))
 (W:World) (hBs:W.cell? ⟨Bs,0,none⟩=some (.slice (some a) len cap)) (hc:∀j,(h:j<N.length)->W.cell? (a.add j)=some (.string N[j])) (h0:J [] W):
 CallsIn F n Tryz.prog 172 #[.func (.yield l) #[] #[],.pointer (some ⟨Bs,0,none⟩)] W λe W'=>(∃v,e = .returned v)/\
  ((∃ys,ys=N/\J ys W')\/(∃pre,pre <+: N/\Jx pre W')):=by
 refine callsIn_of_wp Tryz.func172 rfl h7 ?_ hro;simp only [Tryz.ntmps172,List.size_toArray,List.length_cons,List.length_nil,Nat.reduceAdd,Nat.reduceSub,Array.replicate_succ,Array.replicate_zero,List.push_toArray,List.append_toArray,List.nil_append,List.cons_append];have HL:=O hlen;clear hlen;gi_wp2;gi_loopw [7] (λi wr=>∃k:Nat,k<=len/\i = .int .i64 k/\J (N.take k) wr/\Below n₀ W wr)
  (λi _=>len-(intOf i).toNat)
 case atStart=>exact⟨0,Nat.zero_le _,rfl,h0,Below.refl _ _⟩
 case round =>
  obtain⟨k,hk,rfl,hJs,lZ⟩:=hrel;by_cases hlt:k<len
  ·have hkN:k<N.length:=by rw [<-HL.o];exact hlt
   have hcx':wr.cell? (a.add k)=some (.string N[k]):=(lZ.cell (p:=a.add k) (by unfold Addr.add;split <;> exact hb)).trans (hc k hkN);obtain⟨fn,tmps,assign,H9,hy,hR⟩:=hY _ N[k] wr hJs (by rw [List.length_take];omega);rw [List.take_append_getElem hkN] at hR;gi_wp2;refine hR.mono ?_;rintro e W3 (⟨rfl,hJ3,hk3⟩|⟨rfl,hJx3⟩)
   ·gi_wp2;go_roundw
    case rel=>exact⟨k+1,by omega,by simp,hJ3,lZ.trans hk3⟩
    case measure=>simp [intOf];omega
   ·gi_wp2;refine bodyPost_ret (results_none rfl _ _ _) rfl ?_;exact⟨⟨_,rfl⟩,.inr ⟨_,List.take_prefix _ _,hJx3⟩⟩
  ·obtain rfl:k=len:=by omega
   rw [List.take_of_length_le (by rw [<-HL.o];exact Nat.le_refl _)] at hJs;gi_wp2;go_end0;exact⟨⟨_,rfl⟩,.inl ⟨_,rfl,hJs⟩⟩
theorem lX(F:Fence)(n:Nat)(h7:F.fn 172)(hro:F.round=none)(l Bs:Nat)(A:Option Addr)(cap:Nat)(J:List ByteArray->World->Prop)(W:World)(hBs:W.cell? ⟨Bs,0,none⟩=some (.slice A 0 cap))(h0:J [] W):
 CallsIn F n Tryz.prog 172 #[.func (.yield l) #[] #[],.pointer (some ⟨Bs,0,none⟩)] W λe W'=>(∃v,e = .returned v)/\J [] W':=by
 refine callsIn_of_wp Tryz.func172 rfl h7 ?_ hro;simp only [Tryz.ntmps172,List.size_toArray,List.length_cons,List.length_nil,Nat.reduceAdd,Nat.reduceSub,Array.replicate_succ,Array.replicate_zero,List.push_toArray,List.append_toArray,List.nil_append,List.cons_append];gi_wp2;gi_loopw [7] (λi wr=>i = .int .i64 0/\J [] wr) (λ_ _=>0)
 case atStart=>exact⟨rfl,h0⟩
 case round =>
  obtain⟨rfl,hJs⟩:=hrel;gi_wp2;go_end0;exact⟨⟨_,rfl⟩,hJs⟩
theorem Aq(F:Fence)(n:Nat)(h5:F.fn 145)(hro:F.round=none)(a:Option Addr)(len cap:Nat)(w:World):
 CallsIn F n Tryz.prog 145 #[.slice a len cap] w λe w'=>e = .returned (.func (.func 172) #[] #[.pointer (some ⟨w.heap.size,0,none⟩)])/\w'=w.alloc (.cells #[.slice a len cap] 38):=by
 refine callsIn_of_wp Tryz.func145 rfl h5 ?_ hro;simp only [Tryz.ntmps145,List.size_toArray,List.length_cons,List.length_nil,Nat.reduceAdd,Nat.reduceSub,Array.replicate_succ,Array.replicate_zero,List.push_toArray,List.append_toArray,List.nil_append,List.cons_append];gi_wp2;go_ret;exact⟨rfl,rfl⟩
theorem re(F:Fence)(n:Nat)(h7:F.fn 172)(hro:F.round=none)(hn:1<=n)(Bs n₀:Nat)(A:Option Addr)(cap:Nat)(N:List ByteArray)(hreach:N.length*16<=140737488351232)(w:World)(hBs:Bs<w.heap.size)
 (hc:w.cell? ⟨Bs,0,none⟩=some (.slice A N.length cap)) (hI:oh w A N) (hA:∀a,A=some a->0<N.length->a.block<n₀):
 SeqStopsK F n Tryz.prog 172 #[.pointer (some ⟨Bs,0,none⟩)] (λx:ByteArray=>#[Value.string x]) (Below n₀) (λys=>ys=N) (λpre=>pre <+: N) N.length w:=λl J Jx W hW _ _ hY h0=>by
 have hc':=(hW.cell (p:=⟨Bs,0,none⟩) hBs).trans hc
 have hI':=hI.keep hW
 by_cases hz:0<N.length
 ·obtain⟨a,rfl,-⟩:=hI' 0 N[0] (List.getElem?_eq_getElem hz)
  have hcs:∀j,(h:j<N.length)->W.cell? (a.add j)=some (.string N[j]):=λj h=>by
   obtain⟨a2,e,c⟩:=hI' j N[j] (List.getElem?_eq_getElem h);injection e with e;subst e;exact c
  exact wJ F n h7 hro hn l Bs n₀ a N.length cap N rfl hreach (hA a rfl hz) J Jx hY W hc' hcs h0
 ·have:N = []:=List.eq_nil_of_length_eq_zero (by omega)
  subst this;exact(lX F n h7 hro l Bs A cap J W hc' h0).mono λe W' ⟨he,hj⟩=>⟨he,.inl ⟨_,rfl,hj⟩⟩
end Go.Proofs.YthidiimbeaabhaaGreatDoor
namespace Go.Proofs.YthidiimbeaabhaaGreatDoor
open Go.RowKit Go.Shelf Go.Wk Go.Sort
attribute [local go_sem] Oper.semAt_some
theorem qB(F:Fence)(n:Nat)(h3:F.fn 188)(hro:F.round=none)(hn:3<=n)(gf:Nat)(lb:Array Value)(hFg:F.fn gf)(eg:∀args w,(callFunc gf args).run Tryz.prog w = .ok (.enter gf args) w)
 (n₀:Nat) (N:List ByteArray) (hreach:N.length*16<=140737488351232) (w:World) (hn₀:n₀<=w.heap.size) (hseq:SeqStopsK F (n-1) Tryz.prog gf lb (λx:ByteArray=>#[Value.string x]) (Below n₀) (λys=>ys=N) (λpre=>pre <+: N) N.length w):
 CallsIn F n Tryz.prog 188 #[.slice none 0 0,.func (.func gf) #[] lb] w λe w'=>∃v,e = .returned v/\w'.ownsRow w.heap.size 9 1 v N.length (N.map Value.string)/\(v = .slice none 0 0↔N = [])/\Below w.heap.size w w':=by
 have h1:1<=n:=by omega
 obtain⟨i0,hi,hz0,hz1,hz2⟩:=info_parts iL;refine callsIn_of_wp_marks Tryz.func188 rfl h3 ?_ hro;simp only [Tryz.ntmps188,List.size_toArray,List.length_cons,List.length_nil,Nat.reduceAdd,Nat.reduceSub,Array.replicate_succ,Array.replicate_zero,List.push_toArray,List.append_toArray,List.nil_append,List.cons_append];gi_wp2;have bO:=Boxed.new w 38 (.slice none 0 0);have hB0:Below w.heap.size w (w.alloc (.cells #[.slice none 0 0] 38)):=(Below.refl _ w).alloc (Nat.le_refl _) _;refine wpIn_rangeFunc_ownG hro h1 (gf:=gf) (lb:=lb) rfl hFg eg hseq belowK_t (belowK_b (by simp;omega)) hB0 (λ_=>rfl)
  (λpre W=>(∃v,Boxed W w.heap.size 38 v/\W.ownsRow w.heap.size 9 1 v pre.length (pre.map Value.string)/\(v = .slice none 0 0↔pre = []))/\Below w.heap.size w W)
  (λ_ _ _=>False)
  (OwnFrom.and (Own.from (holdsRow_own w.heap.size w.heap.size 38 9 1 (λpre:List ByteArray=>pre.length) (λpre=>pre.map Value.string) (λpre v=>v = .slice none 0 0↔pre = [])) _) (ownFrom_below (Nat.le_refl _) (by simp)))
  (λ_ _ _ _ _ hs _ _=>hs)
  ⟨⟨_,bO,World.ownsRow_nil _ _ _ _,by simp⟩,hB0⟩
  (λx => { tmps:=#[.slice none 0 0,.func (.func gf) #[] lb,.pointer (some ⟨w.heap.size,0,none⟩),undef,.slice none 0 0,.string x,.func (.func gf) #[] lb,.string x,undef,undef,undef,undef,undef],defers := [] }) ?assign ?H9 ?done ?stop
 case assign =>
  intro l x W K hK;gi_wp2;exact hK
 case H9 =>
  rintro l pre x W ⟨⟨v,hv,hrow,hnil⟩,hB⟩ hlt;have hc:=hv.cell;gi_wp2_with (gi_at_builtin;refine wpListIn_append_own _ rfl _ _ 38 rfl w.heap.size 9 i0 (.string ⟨#[]⟩) 1 16 Tryz.underlying38 hi hz0 hz1 hz2 rfl (by decide) _ _ _ rfl (hrow.alloc _) ⟨W.heap.size,0,none⟩ 1 1 [.string x] rfl rfl (cell_one_new _ _ _) (by simp [Value.oneCell']) (by unfold maxLen;omega) (by omega) (by have:=hB.size;simp;omega) ?_;intro v' w1 hown' hgrow _;obtain⟨g',cap',rfl⟩:=ownsRow_succ hown';obtain⟨hv1,hv2,hr2,hk2,hb2⟩:=hv.appended (by decide) hrow hB.size (Nat.le_refl _) hown' hgrow;have hc1:=hv1.cell;have Lf:=hv1.frozen);exact⟨hk2.from _,hb2.mono hn₀,⟨_,hv2,by simpa using hr2,by simp⟩,hB.trans hb2⟩
 case done =>
  rintro D ys W hD rfl ⟨⟨v,hv,hrow,hnil⟩,hB⟩ hK;have hc:=hv.cell;gi_wp2;refine⟨by simp,.inl ⟨_,_,rfl,run_takeDeferred hK,?_⟩⟩;exact⟨_,results_tmp rfl _ _ _,v,rfl,ownsRow_putObj hrow _ hK rfl,hnil,hB.trans (belowK_b (w:=w) (Nat.le_refl _) W D _ _ (by simp at hD;omega) hK rfl rfl)⟩
 case stop =>
  rintro D c pre W _ _ h _;exact h.elim
theorem vH(F:Fence)(n:Nat)(h8:F.fn 170)(h3:F.fn 188)(hro:F.round=none)(hn:4<=n)(gf:Nat)(lb:Array Value)(hFg:F.fn gf)(eg:∀args w,(callFunc gf args).run Tryz.prog w = .ok (.enter gf args) w)
 (n₀:Nat) (N:List ByteArray) (hreach:N.length*16<=140737488351232) (w:World) (hn₀:n₀<=w.heap.size) (hseq:SeqStopsK F (n-1-1) Tryz.prog gf lb (λx:ByteArray=>#[Value.string x]) (Below n₀) (λys=>ys=N) (λpre=>pre <+: N) N.length w):
 CallsIn F n Tryz.prog 170 #[.func (.func gf) #[] lb] w λe w'=>∃v,e = .returned v/\w'.ownsRow w.heap.size 9 1 v N.length (N.map Value.string)/\(v = .slice none 0 0↔N = [])/\Below w.heap.size w w':=by
 have h1:1<=n:=by omega
 refine callsIn_of_wp Tryz.func170 rfl h8 ?_ hro;simp only [Tryz.ntmps170,List.size_toArray,List.length_cons,List.length_nil,Nat.reduceAdd,Nat.reduceSub,Array.replicate_succ,Array.replicate_zero,List.push_toArray,List.append_toArray,List.nil_append,List.cons_append];gi_wp2_with (gi_at_call 188;refine(qB F (n-1) h3 hro (by omega) gf lb hFg eg n₀ N hreach _ hn₀ hseq).mono ?_;rintro e w1 ⟨v,rfl,hrow,hnil,hb⟩);go_ret;exact⟨v,rfl,hrow,hnil,hb⟩
def mr(N:List ByteArray):List (List UInt8):=(N.map λx=>x.data.toList).mergeSort λx y=>decide (x<=y)
theorem qX(N:List ByteArray):(mr N).length=N.length:=by simp [mr]
theorem x9(N:List ByteArray):(N.map λx=>x.data.toList).map encStr=N.map Value.string:=by
 rw [List.map_map];apply List.map_congr_left;intro x _;simp [encStr]
theorem uA(Bs n₀:Nat)(A:Option Addr)(cap:Nat)(N:List ByteArray)(hreach:N.length*16<=140737488351232)(w:World)(hBs:Bs<w.heap.size)(hn₀:n₀<=w.heap.size)
 (hc:w.cell? ⟨Bs,0,none⟩=some (.slice A N.length cap)) (hI:oh w A N) (hA:∀a,A=some a->0<N.length->a.block<n₀):
 Calls Tryz.prog 144 #[.func (.func 172) #[] #[.pointer (some ⟨Bs,0,none⟩)]] w λe w'=>∃v,e = .returned v/\w'.ownsRow w.heap.size 9 1 v N.length ((mr N).map encStr)/\Below w.heap.size w w':=by
 have hC:=callsIn_wide.1 (vH Fence.wide 9 trivial trivial rfl (by omega) 172 #[.pointer (some ⟨Bs,0,none⟩)] trivial (enters_of Tryz.func172 (by kernel_rfl) rfl) n₀ N hreach w hn₀ (re Fence.wide 7 trivial rfl (by omega) Bs n₀ A cap N hreach w hBs hc hI hA));have HC:=O hC;have HR:=O hreach;clear hC hI hA hc hreach;go_enter Tryz.func144,Tryz.ntmps144;go_wp2_with fail;refine(HC.o).mono ?_;rintro e w1 ⟨v,rfl,hrow,hnil,hb⟩;rcases hrow.2 with ⟨rfl,hz⟩|⟨gb,cp,cur,rfl,hbase,hgb,r1,r2,r3,r4⟩
 ·have hss:N = []:=List.eq_nil_of_length_eq_zero hz;subst hss;go_wp2_with fail;refine(Tryz.slices_Sort_string_none none 0 w1).mono ?_;rintro e w2 ⟨rfl,rfl⟩;go_wp2_with fail;go_ret;exact⟨_,rfl,by simpa [mr] using hrow,hb⟩
 ·have r5:=r4;rw [<-x9] at r5;have hlen:(N.map λx=>x.data.toList).length=N.length:=List.length_map _;have hH:Holds encStr w1 gb 0 (N.map λx=>x.data.toList).toArray:=holds_of_block hgb (by rw [hlen];simpa using r5);have hgl:gb<w1.heap.size:=(Array.getElem?_eq_some_iff.1 hgb).1;have cS:=O (Tryz.slices_Sort_string gb 0 cp _ w1 hH hgl (by rw [hlen];have:=HR.o;omega));rw [hlen] at cS;go_wp2_with fail;refine(cS.o).mono ?_;rintro e w2 ⟨rfl,nn,os,rfl⟩;go_wp2_with fail;go_ret;refine⟨_,rfl,?_,hb.grown (grownBy_sorted _) hb.size (λj hj=>by cases hj;exact hbase)⟩;have:=ownsRow_sorted (w:=w1) (n:=nn) (os:=os) (ss:=N.map λx=>x.data.toList) (ts:=mr N) (by rw [qX,hlen]) hbase hgb (by rw [hlen];exact r1) r2 r3;rw [hlen] at this;exact this
end Go.Proofs.YthidiimbeaabhaaGreatDoor
