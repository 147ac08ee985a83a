/-
  slices.SortFunc over slices of nodes by val.order. Plain: a list of values ..
-/
import Derived.Shelf.SlSortCmp.NoneTotal
import Derived.Test.YtokiogmfgpidmaaGreatDoorQ28
import Derived.Test.YtokiogmfgpidmaaGreatDoorQ29
set_option maxRecDepth 100000
set_option maxHeartbeats 4000000
namespace Go.Proofs.YtokiogmfgpidmaaGreatDoor
open Go.RowKit Go.Wk Go.Sort Go.Shelf
section
variable {α:Type} [Inhabited α] {enc:α->Value}
theorem E8{w:World}{g n:Nat}{os:Array Obj}{cur:Array Value}{e:TypeId}{fr:Nat × Nat}(d:Array α)(hb:w.heap[g]?=some (.cells cur e fr)):
 (sortWorld enc w g 0 n d os).heap[g]?=some (.cells (putCells enc 0 d cur) e fr):=by
 have hg:g<w.heap.size:=(Array.getElem?_eq_some_iff.1 hb).1;unfold sortWorld;rw [heap_grow_old _ _ (by simpa using hg)];simp [putRow,mapBlock,Sort.ahead,Array.getElem?_modify,hb,onCells]
theorem fQ{w:World}{g n:Nat}{os:Array Obj}(d:Array α):w.grownBy (sortWorld enc w g 0 n d os) (some g):=by
 unfold sortWorld;refine⟨rfl,rfl,rfl,by simp,λk hk hne=>?_⟩;rw [heap_grow_old _ _ (by simpa using hk)];have:g≠k:=λe=>hne (by rw [e]);simp [putRow,mapBlock,Sort.ahead,Array.getElem?_modify,this]
theorem Dl(cur:Array Value)(ts:List α)(h:ts.length<=cur.size):(putCells enc 0 ts.toArray cur).toList.take ts.length=ts.map enc:=by
 apply List.ext_getElem?;intro j;by_cases hj:j<ts.length
 ·rw [List.getElem?_take_of_lt hj,Array.getElem?_toList];simp [putCells,hj,show j<cur.size by omega]
 ·rw [List.getElem?_take_eq_none (by omega),List.getElem?_eq_none (by simp;omega)]
theorem BF{w:World}{g:Nat}{cur:Array Value}{e:TypeId}{ts:List α}(hb:w.heap[g]?=some (.cells cur e (0,0)))(ht:cur.toList.take ts.length=ts.map enc):Holds enc w g 0 ts.toArray:=by
 intro j hj;have hj':j<ts.length:=by simpa using hj
 refine⟨?_,by simp [World.frozen?,hb]⟩;have h1:(cur.toList.take ts.length)[j]?=(ts.map enc)[j]?:=by rw [ht]
 rw [List.getElem?_take_of_lt hj'] at h1;simp only [World.cell?,hb,Nat.zero_add];simp only [Option.isSome_none,Bool.false_eq_true,if_false];rw [<-Array.getElem?_toList,h1];simp [hj']
end
abbrev m7 (w:World) (g:Nat):Type := { r:Sl // Ns w r.A r.n r.c r.P/\aG r (some g)}
instance (w:World) (g:Nat):Inhabited (m7 w g):=⟨⟨⟨none,0,0,[]⟩,⟨rfl,Nat.le_refl _,Nat.zero_le _,λk x hx=>by simp at hx,λx hx=>by cases hx⟩,λh=>by simp at h⟩⟩
def xg(w:World)(g:Nat)(x:m7 w g):Value:=x.1.v
def gCf(w:World)(g:Nat)(x y:m7 w g):Int:=zC x.1.P y.1.P
theorem Lu(w:World)(g:Nat):SWO (ltOf (gCf w g)) where
 irrefl x:=by unfold ltOf gCf;rw [z7.self];rfl
 trans x y z h1 h2:=by
  unfold ltOf gCf at *;simp only [decide_eq_true_eq] at *;exact z7.lt_le h1 (by omega)
 ntrans x y z h1 h2:=by
  unfold ltOf gCf at *;simp only [decide_eq_false_iff_not] at *;have a1:=z7.anti x.1.P y.1.P;have a2:=z7.anti y.1.P z.1.P;have a3:=z7.anti x.1.P z.1.P;have:=z7.trans z.1.P y.1.P x.1.P (by omega) (by omega);omega
theorem pW{w:World}{r s:Sl}(h:Ns w r.A r.n r.c r.P)(k:Ns w s.A s.n s.c s.P):
 Calls Tryz.prog 136 #[r.v,s.v] w λe w'=>e = .returned (.int .i64 (zC r.P s.P))/\ke w w' :=
 ye r.A s.A r.n s.n r.c s.c r.P s.P w h.len k.len h.max k.max h.at_ k.at_
theorem Lk(w:World)(g size:Nat):CmpLays1 Tryz.prog 136 #[] (xg w g) (gCf w g) g 0 size w:=by
 intro m os dk _ x y;have n1:=Ns.row (r:=x.1) x.2.1 (fQ (enc:=xg w g) (n:=m) (os:=os) dk) x.2.2;have n2:=Ns.row (r:=y.1) y.2.1 (fQ (enc:=xg w g) (n:=m) (os:=os) dk) y.2.2;exact(pW n1 n2).mono λe w' ⟨h1,h2⟩=>⟨h1,h2.grow⟩
theorem AM{β:Type}{p:β->Prop}(V:List β)(h:∀r∈V,p r):∃L:List { r:β // p r },L.map (λx=>x.1)=V:=by
 induction V with
 | nil=>exact⟨[],rfl⟩
 | cons r V ih =>
  obtain⟨L,hL⟩:=ih (λx hx=>h x (by simp [hx]))
  exact⟨⟨r,h r (by simp)⟩:: L,by simp [hL]⟩
def vh(V:List Sl):Prop:=∀i j (hij:i<j) (hj:j<V.length),zC (V[i]'(by omega)).P V[j].P<=0
theorem FN(w:World)(B g cap:Nat)(V:List Sl)(h:zO w B (.slice (some ⟨g,0,none⟩) V.length cap) V)(hs:V.length<=5864062014634):
 Calls Tryz.prog 165 #[.slice (some ⟨g,0,none⟩) V.length cap,.func (.func 136) #[] #[]] w λe w' =>
  e = .returned (.tuple #[])/\∃V':List Sl,V'.Perm V/\vh V'/\zO w' B (.slice (some ⟨g,0,none⟩) V.length cap) V'/\w.grownBy w' (some g):=by
 have hgood:∀r∈V,Ns w r.A r.n r.c r.P/\aG r (some g):=λr hr=>⟨h.each r hr,h.apart r hr⟩
 obtain⟨L,hL⟩:∃L:List (m7 w g),L.map (λx=>x.1)=V:=AM V hgood;have NY:L.length=V.length:=by rw [<-hL];simp
 rcases h.own.2 with ⟨e0,-⟩|⟨g',cap',cur,e0,ML,hh,h1,h2,h3,h4⟩
 ·cases e0
 injection e0 with e1 _ e2;injection e1 with e1;injection e1 with e1;subst e1 e2;have hEnc:L.map (xg w g)=V.map Sl.v:=by rw [<-hL,List.map_map];rfl
 have hH:Holds (xg w g) w g 0 L.toArray:=BF hh (by rw [hEnc,NY];simpa using h4);have eg:∀args w,(callFunc 136 args).run Tryz.prog w = .ok (.enter 136 args) w:=enters_of Tryz.func136 (by kernel_rfl) rfl;have hcon:=Any.slices_SortFunc Tryz.sortF (xg w g) (λ_=>rfl) (gCf w g) (Lu w g) 136 #[] g 0 cap L.toArray w eg (Lk w g _) hH (Array.getElem?_eq_some_iff.1 hh).1 (by simp;omega);change Calls Tryz.prog 165 _ _ _ at hcon;have hsz:L.toArray.size=V.length:=by simp [NY]
 rw [hsz] at hcon;refine hcon.mono ?_;rintro e w' ⟨he,d',n,os,hp,Ng,rfl⟩;refine⟨he,d'.toList.map (λx=>x.1),?_,?_,?_,fQ d'⟩
 ·obtain⟨q1,-,q3⟩:=hp;have a1:(d'.extract 0 V.length).toList=d'.toList:=by
   rw [Array.toList_extract];simp only [List.extract,Nat.sub_zero,List.drop_zero];exact List.take_of_length_le (by simp;omega)
  have a2:(L.toArray.extract 0 V.length).toList=L:=by
   rw [Array.toList_extract];simp [List.extract,<-NY]
  rw [a1,a2] at q3;have:=q3.map (λx:m7 w g=>x.1);rw [hL] at this;exact this
 ·intro i j hij hj;have hj':j<d'.size:=by simpa using hj
  have hd:d'.size=V.length:=hp.1.trans hsz;have:=Ng i j (Nat.zero_le _) hij (by omega);unfold ltOf gCf at this;simp only [decide_eq_false_iff_not] at this;have b1:=z7.anti (d'[j]!).1.P (d'[i]!).1.P;have g1:(d'.toList.map (λx=>x.1))[i]'(by simp;omega)=(d'[i]!).1:=by simp [show i<d'.size by omega]
  have g2:(d'.toList.map (λx=>x.1))[j]=(d'[j]!).1:=by simp [hj']
  rw [g1,g2];omega
 ·have hd:d'.size=V.length:=hp.1.trans hsz;have hdl:d'.toList.length=V.length:=by simpa using hd
  refine⟨⟨by simp [hd],.inr ⟨g,cap,_,by simp [hd],ML,E8 d' hh,by simpa [hd] using h1,h2,by simp [putCells,h3],?_⟩⟩,?_,?_⟩
  ·have:=Dl (enc:=xg w g) cur d'.toList (by rw [h3];omega);rw [hdl] at this;simp only [List.length_map,hdl,Nat.mul_one];rw [show d'.toList.toArray=d' from by simp] at this;rw [this,List.map_map];rfl
  ·intro r hr;obtain⟨x,hx,rfl⟩:=List.mem_map.1 hr;exact Ns.row (r:=x.1) x.2.1 (fQ d') x.2.2
  ·intro r hr;obtain⟨x,hx,rfl⟩:=List.mem_map.1 hr;exact x.2.2
theorem BV(w:World)(p:Option Addr)(cap:Nat)(fv:Value):
 Calls Tryz.prog 165 #[.slice p 0 cap,fv] w λe w'=>e = .returned (.tuple #[])/\w'=w :=
 AnyF.slices_SortFunc_none (ρ:=Tryz.sortF_ren) { Tryz.sortF with } p cap fv w
end Go.Proofs.YtokiogmfgpidmaaGreatDoor
namespace Go.Proofs.YtokiogmfgpidmaaGreatDoor
open Go.RowKit Go.Wk Go.Sort
def goL(p:Sl):List Sl->List Sl
 | [] => []
 | b :: r=>if zC b.P p.P=0 then goL b r else b :: goL b r
def jb:List Sl->List Sl
 | [] => []
 | a :: r=>a :: goL a r
theorem FZ{V:List Sl}{p:Sl}{k:Nat}(h:k<V.length)(he:zC V[k].P p.P=0):goL p (V.drop k)=goL V[k] (V.drop (k+1)):=by
 rw [List.drop_eq_getElem_cons h];simp only [goL,he,if_true]
theorem D9{V:List Sl}{p:Sl}{k:Nat}(h:k<V.length)(he:zC V[k].P p.P≠0):goL p (V.drop k)=V[k] :: goL V[k] (V.drop (k+1)):=by
 rw [List.drop_eq_getElem_cons h];simp only [goL,he,if_false]
theorem yy{V:List Sl}{p:Sl}{k:Nat}(h:V.length<=k):goL p (V.drop k)= []:=by
 rw [List.drop_of_length_le h];rfl
theorem oG{V:List Sl}(h:0<V.length):jb V=V.take 1 ++ goL V[0] (V.drop 1):=by
 rcases V with _|⟨a,r⟩
 ·simp at h
 ·rfl
theorem pq{V:List Sl}(h:V.length<2):jb V=V:=by
 rcases V with _|⟨a,_|⟨b,r⟩⟩
 ·rfl
 ·rfl
 ·simp at h;omega
theorem Ip(r:List Sl):∀p x,x∈goL p r->x∈r:=by
 induction r with
 | nil=>intro p x h;cases h
 | cons b r ih =>
  intro p x h
  simp only [goL] at h
  split at h
  ·exact List.mem_cons_of_mem _ (ih _ _ h)
  ·rcases List.mem_cons.1 h with rfl|h
   ·simp
   ·exact List.mem_cons_of_mem _ (ih _ _ h)
theorem kW{V:List Sl}{x:Sl}(h:x∈jb V):x∈V:=by
 rcases V with _|⟨a,r⟩
 ·cases h
 ·rcases List.mem_cons.1 h with rfl|h
  ·simp
  ·exact List.mem_cons_of_mem _ (Ip _ _ _ h)
theorem Ia(r:List Sl):∀p,(goL p r).length<=r.length:=by
 induction r with
 | nil=>intro p;simp [goL]
 | cons b r ih =>
  intro p
  simp only [goL]
  split
  ·have:=ih b;simp;omega
  ·have:=ih b;simp;omega
theorem ul(V:List Sl):(jb V).length<=V.length:=by
 rcases V with _|⟨a,r⟩
 ·simp [jb]
 ·have:=Ia r a;simp [jb];omega
theorem J0(r:List Sl):∀p:Sl,(p :: r).Pairwise (λa b=>zC a.P b.P<=0)->Up (p.P ::(goL p r).map Sl.P)/\∀x∈r,x.P∈p.P ::(goL p r).map Sl.P:=by
 induction r with
 | nil=>intro p _;exact⟨trivial,λx hx=>by cases hx⟩
 | cons b r ih =>
  intro p h
  obtain⟨h1,h2⟩:=List.pairwise_cons.1 h
  obtain⟨i1,i2⟩:=ih b h2
  have hle:=h1 b (by simp)
  have ha:=z7.anti p.P b.P
  simp only [goL]
  split
  ·rename_i h0
   have e:=(z7.zero b.P p.P).1 h0;rw [e] at i1 i2;refine⟨i1,λx hx=>?_⟩;rcases List.mem_cons.1 hx with rfl|hx
   ·rw [e];simp
   ·exact i2 x hx
  ·rename_i h0
   refine⟨⟨by omega,i1⟩,λx hx=>?_⟩;rcases List.mem_cons.1 hx with rfl|hx
   ·simp
   ·exact List.mem_cons_of_mem _ (i2 x hx)
theorem uI{V:List Sl}(h:V.Pairwise (λa b=>zC a.P b.P<=0)):(jb V).map Sl.P=cT (V.map Sl.P):=by
 rcases V with _|⟨a,r⟩
 ·rfl
 obtain⟨h1,h2⟩:=J0 r a h;refine(sk h1 λx=>⟨λhx=>?_,λhx=>?_⟩).symm
 ·obtain⟨y,hy,rfl⟩:∃y∈jb (a :: r),y.P=x:=List.mem_map.1 hx;exact List.mem_map_of_mem (kW hy)
 ·obtain⟨y,hy,rfl⟩:=List.mem_map.1 hx;rcases List.mem_cons.1 hy with rfl|hy
  ·simp
  ·exact h2 y hy
theorem DZ(r s:Sl)(w:World)(h:Ns w r.A r.n r.c r.P)(k:Ns w s.A s.n s.c s.P):
 Calls Tryz.prog 167 #[r.v,s.v] w λe w'=>e = .returned (.bool (zC r.P s.P==0))/\Below w.heap.size w w':=by
 have HC:=O (pW h k);clear h k;unfold Sl.v at HC ⊢;go_enter Tryz.func167,Tryz.ntmps167;go_wp2_with fail;refine HC.o.mono ?_;rintro e w1 ⟨rfl,hb⟩;have HB:=O hb.b;clear hb HC;go_wp2_with fail;go_ret;exact⟨rfl,HB.o⟩
def bA(w:World)(g cap:Nat)(V Y:List Sl)(m:Nat):Prop :=
 ∃cur,w.heap[g]?=some (.cells cur 22 (0,0))/\cur.size=cap/\(∀j (h:j<Y.length),cur[j]?=some Y[j].v)/\∀j (h:j<V.length),m<=j->cur[j]?=some V[j].v
theorem bA.keep{w w':World}{g cap m:Nat}{V Y:List Sl}(h:bA w g cap V Y m)(hb:Below w.heap.size w w'):bA w' g cap V Y m:=by
 obtain⟨cur,h1,h2⟩:=h;exact⟨cur,by rw [(zj hb none).block g (Array.getElem?_eq_some_iff.1 h1).1 (by simp)];exact h1,h2⟩
theorem bA.cell{w:World}{g cap m:Nat}{V Y:List Sl}(h:bA w g cap V Y m){j:Nat}(hj:j<V.length)(hm:m<=j):w.cell? ⟨g,j,none⟩=some V[j].v/\w.frozen? ⟨g,j,none⟩=false:=by
 obtain⟨cur,h1,-,-,h4⟩:=h;exact⟨by simp [World.cell?,h1,h4 j hj hm],by simp [World.frozen?,h1]⟩
theorem bA.skip{w:World}{g cap m:Nat}{V Y:List Sl}(h:bA w g cap V Y m):bA w g cap V Y (m+1):=by
 obtain⟨cur,h1,h2,h3,h4⟩:=h;exact⟨cur,h1,h2,h3,λj hj hm=>h4 j hj (by omega)⟩
theorem bA.put{w:World}{g cap m:Nat}{V Y:List Sl}(h:bA w g cap V Y m)(r:Sl)(hY:Y.length<=m)(hc:Y.length<cap):bA (w.setCell ⟨g,Y.length,none⟩ r.v) g cap V (Y ++ [r]) (m+1):=by
 obtain⟨cur,h1,h2,h3,h4⟩:=h;refine⟨cur.setIfInBounds Y.length r.v,?_,by simpa using h2,λj hj=>?_,λj hj hm=>?_⟩
 ·rw [setCell_eq];simp [mapBlock,Array.getElem?_modify,h1,onCells]
 ·by_cases e:j=Y.length
  ·subst e;simp [show Y.length<cur.size by omega]
  ·have:j<Y.length:=by simp at hj;omega
   rw [Array.getElem?_setIfInBounds_ne (by omega),h3 j this];simp [List.getElem_append_left this]
 ·rw [Array.getElem?_setIfInBounds_ne (by omega)];exact h4 j hj (by omega)
theorem bA.clear{g cap:Nat}{Y:List Sl}:∀(vs:List Value) (o:Nat) (w:World),bA w g cap [] Y 0->Y.length<=o->bA (w.setCells g o vs) g cap [] Y 0
 | [],_,_,h,_=>h
 | v :: r,o,w,h,ho=>by
  refine bA.clear r (o+1) _ ?_ (by omega);obtain⟨cur,h1,h2,h3,-⟩:=h;refine⟨cur.setIfInBounds o v,?_,by simpa using h2,λj hj=>?_,λj hj=>by simp at hj⟩
  ·rw [setCell_eq];simp [mapBlock,Array.getElem?_modify,h1,onCells]
  ·rw [Array.getElem?_setIfInBounds_ne (by omega)];exact h3 j hj
theorem pK(w:World)(g o:Nat)(v:Value):w.grownBy (w.setCell ⟨g,o,none⟩ v) (some g):=by
 rw [setCell_eq];refine⟨rfl,rfl,rfl,by simp [mapBlock],λk hk hne=>?_⟩;have:g≠k:=λe=>hne (by rw [e]);simp [mapBlock,Array.getElem?_modify,this]
theorem mL(g:Nat):∀(vs:List Value) (o:Nat) (w:World),w.grownBy (w.setCells g o vs) (some g)
 | [],_,w=>World.grownBy.refl w _
 | v :: r,o,w=>(pK w g o v).trans (mL g r (o+1) _)
theorem bA.own{w w':World}{B g cap m n:Nat}{V Y U:List Sl}(h:zO w B (.slice (some ⟨g,0,none⟩) n cap) V)(hc:bA w' g cap U Y m)(hg:w.grownBy w' (some g))(hY:∀x∈Y,x∈V)(hl:Y.length<=n):zO w' B (.slice (some ⟨g,0,none⟩) Y.length cap) Y:=by
 obtain⟨cur,c1,c2,c3,-⟩:=hc;rcases h.own.2 with ⟨e0,-⟩|⟨g',cap',cur',e0,ML,hh,h1,h2,h3,h4⟩
 ·cases e0
 injection e0 with e1 _ e2;injection e1 with e1;injection e1 with e1;subst e1 e2;refine⟨⟨by simp,.inr ⟨g,cap,cur,rfl,ML,c1,by have:=h.own.1;omega,h2,by simpa using c2,?_⟩⟩,λr hr=>(h.each r (hY r hr)).row hg (h.apart r (hY r hr)),λr hr=>h.apart r (hY r hr)⟩;apply List.ext_getElem?;intro j;by_cases hj:j<Y.length
 ·rw [List.getElem?_take_of_lt (by omega),Array.getElem?_toList,c3 j hj];simp [hj]
 ·rw [List.getElem?_take_eq_none (by omega),List.getElem?_eq_none (by simp;omega)]
theorem yD{w:World}{B g cap:Nat}{V:List Sl}(h:zO w B (.slice (some ⟨g,0,none⟩) V.length cap) V):bA w g cap V [] 0/\V.length<=cap:=by
 rcases h.own.2 with ⟨e0,-⟩|⟨g',cap',cur,e0,ML,hh,h1,h2,h3,h4⟩
 ·cases e0
 injection e0 with e1 _ e2;injection e1 with e1;injection e1 with e1;subst e1 e2;refine⟨⟨cur,hh,by simpa using h3,λj hj=>by simp at hj,λj hj _=>?_⟩,h1⟩;have e:(cur.toList.take (V.length*1))[j]?=(V.map Sl.v)[j]?:=by rw [h4]
 rw [List.getElem?_take_of_lt (by omega),Array.getElem?_toList] at e;rw [e];simp [hj]
theorem bA.take{w:World}{g cap:Nat}{V:List Sl}(h:bA w g cap V [] 0)(k:Nat):bA w g cap V (V.take k) k:=by
 obtain⟨cur,h1,h2,h3,h4⟩:=h;refine⟨cur,h1,h2,λj hj=>?_,λj hj _=>h4 j hj (Nat.zero_le _)⟩;have hj':j<V.length:=by simp at hj;omega
 rw [h4 j hj' (Nat.zero_le _),List.getElem_take]
theorem bA.forget{w:World}{g cap m:Nat}{V Y:List Sl}(h:bA w g cap V Y m):bA w g cap [] Y 0:=by
 obtain⟨cur,h1,h2,h3,h4⟩:=h;exact⟨cur,h1,h2,h3,λj hj=>by simp at hj⟩
theorem bA.there{w:World}{g cap m:Nat}{V Y:List Sl}(h:bA w g cap V Y m){j:Nat}(hj:j<cap):(∃v,w.cell? ⟨g,j,none⟩=some v)/\w.frozen? ⟨g,j,none⟩=false:=by
 obtain⟨cur,h1,h2,-,-⟩:=h;exact⟨⟨cur[j]'(by omega),by simp [World.cell?,h1,show j<cur.size by omega]⟩,by simp [World.frozen?,h1]⟩
theorem Il(w:World):(zeroValue 22).run Tryz.prog w = .ok (.slice none 0 0) w:=by kernel_rfl
theorem Cw{V:List Sl}{p:Sl}{k:Nat}(h:k<V.length)(h0:zC V[k].P p.P=0)(he:jb V=V.take k ++ goL p (V.drop k)):jb V=V.take k ++ goL V[k] (V.drop (k+1)):=by
 rw [he,FZ h h0]
theorem uo(w:World)(B g cap:Nat)(V:List Sl)(h:zO w B (.slice (some ⟨g,0,none⟩) V.length cap) V)(hs:V.length<=5864062014634):
 Calls Tryz.prog 166 #[.slice (some ⟨g,0,none⟩) V.length cap,.func (.func 167) #[] #[]] w λe w' =>
  e = .returned (.slice (some ⟨g,0,none⟩) (jb V).length cap)/\zO w' B (.slice (some ⟨g,0,none⟩) (jb V).length cap) (jb V)/\w.grownBy w' (some g):=by
 have HR:=O (yD h).1;have IJ:=(yD h).2;have HH:=O h;clear h;by_cases h2:V.length<2
 ·have HC:=O (pq h2);go_enter Tryz.func166,Tryz.ntmps166;go_wp2;go_ret;rw [HC.o];exact⟨rfl,HH.o,World.grownBy.refl _ _⟩
 ·go_enter Tryz.func166,Tryz.ntmps166;go_wp2;go_loopw [5] (λi wr=>∃k:Nat,1<=k/\k<=V.length/\i = .int .i64 k/\Hid (∃p,V[k-1]?=some p/\jb V=V.take k ++ goL p (V.drop k))/\Hid (Below w.heap.size w wr)) (λi _=>V.length-(intOf i).toNat)
  case atStart=>exact⟨1,Nat.le_refl _,by omega,rfl,⟨V[0],by simp,oG (by omega)⟩,Below.refl _ _⟩
  case round =>
   obtain⟨k,Gr,hk2,rfl,hc,hb⟩:=hrel;by_cases hlt:k<V.length
   ·obtain⟨a1,f1⟩:=(HR.o.keep hb.o).cell hlt (Nat.zero_le _);obtain⟨a0,f0⟩:=(HR.o.keep hb.o).cell (j:=k-1) (by omega) (Nat.zero_le _);have n1:=(HH.o.each _ (List.getElem_mem hlt)).keep hb.o;have n0:=(HH.o.each _ (List.getElem_mem (show k-1<V.length by omega))).keep hb.o;have s1:=rq (w:=wr) (λw' h=>DZ V[k] V[k-1] w' (n1.keep h) (n0.keep h));clear n1 n0;unfold Sl.v at a1 a0 s1;have k1:=cell_regrown a1;have k0:=cell_regrown a0;go_wp2_with fail;refine wp_region_quiet_below (by kernel_rfl) (by kernel_rfl) ?_
    repeat (first|go_big_quiet_step (exact s1 _ _)|quiet_step (exact s1 _ _))
    refine wpQuiet_nil ?_;intro w1 hw';have B1:=O (show Below wr.heap.size wr w1 by obtain⟨⟨d,os⟩,rfl⟩:=hw';exact below_regrown _ _ _);clear hw';clear s1 k1 k0 a1 a0 f1 f0;by_cases h0:zC V[k].P V[k-1].P=0
    ·have e0:(zC V[k].P V[k-1].P==0)=true:=by rw [h0];rfl
     have HI:=O (show(V.take k).length=k/\∃p,V[k+1-1]?=some p/\jb V=V.take k ++ goL p (V.drop (k+1)) by
      obtain⟨p,hp,he⟩:=hc.o
      have eO:V[k-1]=p:=by
       rw [List.getElem?_eq_getElem (by omega)] at hp;injection hp
      subst eO
      exact⟨by simp;omega,V[k],by simp [hlt],Cw hlt h0 he⟩)
     have HB:=wG hb B1 (Nat.le_refl _);have R1:=O ((HR.o.keep HB.o).take k);have G1:=O (zj HB.o (some g));rw [e0];clear hc hb B1 h0 e0;have hlc:k<cap:=by omega
     go_wp2;go_loopw [5,7] (λi j wr=>∃(kk k2:Nat) (Y:List Sl),i = .int .i64 kk/\j = .int .i64 k2/\1<=k2/\k+k2<=V.length/\kk<=k+k2-1/\Hid (Y.length=kk/\∃p,V[k+k2-1]?=some p/\jb V=Y ++ goL p (V.drop (k+k2)))/\Hid (bA wr g cap V Y (k+k2-1))/\Hid (w.grownBy wr (some g))) (λ_ j _=>V.length-(intOf j).toNat)
     case atStart=>exact⟨k,1,V.take k,rfl,rfl,Nat.le_refl _,by omega,by omega,HI,R1,G1⟩
     case round =>
      obtain⟨kk,k2,Y,rfl,rfl,g1,g2,g3,hI,hR,hG⟩:=hrel;by_cases hlt2:k+k2<V.length
      ·obtain⟨a1,f1⟩:=hR.o.cell hlt2 (by omega);obtain⟨a0,f0⟩:=hR.o.cell (j:=k+k2-1) (by omega) (by omega);have n1:=(HH.o.each _ (List.getElem_mem hlt2)).row hG.o (HH.o.apart _ (List.getElem_mem hlt2));have n0:=(HH.o.each _ (List.getElem_mem (show k+k2-1<V.length by omega))).row hG.o (HH.o.apart _ (List.getElem_mem (show k+k2-1<V.length by omega)));have s1:=rq (w:=wr) (λw' h=>DZ V[k+k2] V[k+k2-1] w' (n1.keep h) (n0.keep h));clear n1 n0;unfold Sl.v at a1 a0 s1;have a0':wr.cell? ⟨g,k+(k2-1),none⟩=some (.slice V[k+k2-1].A V[k+k2-1].n V[k+k2-1].c):=by rw [show k+(k2-1)=k+k2-1 by omega];exact a0
       have f0':wr.frozen? ⟨g,k+(k2-1),none⟩=false:=by rw [show k+(k2-1)=k+k2-1 by omega];exact f0
       clear a0 f0;have k1:=cell_regrown a1;have k0:=cell_regrown a0';go_wp2_with fail;refine wp_region_quiet_below (by kernel_rfl) (by kernel_rfl) ?_
       repeat (first|go_big_quiet_step (exact s1 _ _)|quiet_step (exact s1 _ _))
       refine wpQuiet_nil ?_;intro w1 hw';have B1:=O (show Below wr.heap.size wr w1 by obtain⟨⟨d,os⟩,rfl⟩:=hw';exact below_regrown _ _ _);clear hw';clear s1 k1 k0 a1 a0' f1 f0';have G2:=O (hG.o.trans (zj B1.o (some g)));have R2:=O (hR.o.keep B1.o);clear hG hR B1;by_cases h0:zC V[k+k2].P V[k+k2-1].P=0
       ·have e0:(zC V[k+k2].P V[k+k2-1].P==0)=true:=by rw [h0];rfl
        have HJ:=O (show Y.length=kk/\∃p,V[k+(k2+1)-1]?=some p/\jb V=Y ++ goL p (V.drop (k+(k2+1))) by
         obtain⟨hl,p,hp,he⟩:=hI.o
         have eO:V[k+k2-1]=p:=by
          rw [List.getElem?_eq_getElem (by omega)] at hp;injection hp
         subst eO
         refine⟨hl,V[k+k2],by rw [show k+(k2+1)-1=k+k2 by omega];exact List.getElem?_eq_getElem hlt2,?_⟩
         rw [he,FZ hlt2 h0];rfl)
        have R3:=O (show bA w1 g cap V Y (k+(k2+1)-1) by
         have:=R2.o.skip
         rwa [show k+k2-1+1=k+(k2+1)-1 by omega] at this)
        rw [e0];clear hI R2 h0 e0;go_wp2;go_roundw
        case rel=>exact⟨kk,k2+1,Y,rfl,by go_num,by omega,by omega,by omega,HJ,R3,G2⟩
        case measure=>simp [intOf];omega
       ·have e0:(zC V[k+k2].P V[k+k2-1].P==0)=false:=beq_eq_false_iff_ne.2 h0;have HJ:=O (show(Y ++ [V[k+k2]]).length=kk+1/\∃p,V[k+(k2+1)-1]?=some p/\jb V=(Y ++ [V[k+k2]])++ goL p (V.drop (k+(k2+1))) by
         obtain⟨hl,p,hp,he⟩:=hI.o
         have eO:V[k+k2-1]=p:=by
          rw [List.getElem?_eq_getElem (by omega)] at hp;injection hp
         subst eO
         refine⟨by simp [hl],V[k+k2],by rw [show k+(k2+1)-1=k+k2 by omega];exact List.getElem?_eq_getElem hlt2,?_⟩
         rw [he,D9 hlt2 h0,List.append_assoc];rfl)
        have R3:=O (show bA (w1.setCell ⟨g,kk,none⟩ V[k+k2].v) g cap V (Y ++ [V[k+k2]]) (k+(k2+1)-1) by
         have:=R2.o.put V[k+k2] (by rw [hI.o.1];omega) (by rw [hI.o.1];omega)
         rwa [show k+k2-1+1=k+(k2+1)-1 by omega,hI.o.1] at this)
        have G3:=O (G2.o.trans (pK w1 g kk V[k+k2].v));obtain⟨a1,f1⟩:=R2.o.cell hlt2 (by omega);obtain⟨⟨vk,ak⟩,fk⟩:=R2.o.there (j:=kk) (by omega);unfold Sl.v at a1;rw [e0];clear hI R2 G2 h0 e0;go_wp2;go_roundw
        case rel=>exact⟨kk+1,k2+1,_,by go_num,by go_num,by omega,by omega,by omega,HJ,R3,G3⟩
        case measure=>simp [intOf];omega
      ·have HY:=O (show jb V=Y/\Y.length=kk by
        obtain⟨hl,p,hp,he⟩:=hI.o
        exact⟨by rw [he,yy (by omega),List.append_nil],hl⟩)
       have yo:∀ty,(Builtin.clear_ #[84] ty #[.slice (some ⟨g,kk,none⟩) (V.length-kk) (cap-kk)]).run Tryz.prog wr = .ok (.tuple #[]) (wr.setCells g kk (List.replicate (V.length-kk) (.slice none 0 0))):=
        λty=>Lib.run_clear_slice wr _ _ ty _ Tryz.underlying84 Il rfl rfl g kk _ _ (by omega) (λj hj=>by obtain⟨⟨v,q⟩,-⟩:=hR.o.there (j:=kk+j) (by omega);rw [q];rfl) (λj hj=>(hR.o.there (j:=kk+j) (by omega)).2)
       have G2:=O (hG.o.trans (mL g (List.replicate (V.length-kk) (.slice none 0 0)) kk wr));have R2:=O (bA.clear (List.replicate (V.length-kk) (.slice none 0 0)) kk wr hR.o.forget (by rw [HY.o.2];exact Nat.le_refl _));clear hI hR hG;go_wp2;go_ret;have hl:=HY.o.2;have hy:=HY.o.1;refine⟨by rw [hy,hl];rfl,?_,G2.o⟩;rw [hy];exact bA.own HH.o R2.o G2.o (λx hx=>kW (by rw [hy];exact hx)) (by omega)
    ·have e0:(zC V[k].P V[k-1].P==0)=false:=beq_eq_false_iff_ne.2 h0;have HC:=O (show∃p,V[k]?=some p/\jb V=V.take (k+1)++ goL p (V.drop (k+1)) by
      obtain⟨p,hp,he⟩:=hc.o
      have eO:V[k-1]=p:=by
       rw [List.getElem?_eq_getElem (by omega)] at hp;injection hp
      subst eO
      refine⟨V[k],by simp [hlt],?_⟩
      rw [he,D9 hlt h0,<-List.take_append_getElem hlt,List.append_assoc]
      rfl)
     rw [e0];clear hc;have HB:=wG hb B1 (Nat.le_refl _);clear hb B1;go_wp2;go_roundw
     case rel=>exact⟨k+1,by omega,by omega,by go_num,HC,HB⟩
     case measure=>simp [intOf];omega
   ·have HC:=O (show jb V=V by
     obtain⟨p,hp,he⟩:=hc.o
     rw [he,yy (by omega),List.take_of_length_le (by omega),List.append_nil])
    clear hc;go_wp2;go_ret;rw [HC.o];exact⟨rfl,HH.o.keep hb.o,zj hb.o _⟩
theorem aw.cells{w:World}{a:Addr}{V:List Sl}(h:aw w (some a) V):∀j u,(V.map Sl.v)[j]?=some u->w.cell? (a.add j)=some u:=by
 intro j u hu;rw [List.getElem?_map] at hu;rcases hv:V[j]? with _|r
 ·rw [hv] at hu;cases hu
 ·rw [hv] at hu;simp only [Option.map_some,Option.some.injEq] at hu;subst hu;obtain⟨b,e,q,-⟩:=h j r hv;injection e with e;subst e;exact q
def wv(w:World)(V:List Sl)(e:Ending)(w':World):Prop:=∃v,e = .returned v/\zO w' w.heap.size v V/\Below w.heap.size w w'
theorem BO(A:Option Addr)(n c:Nat)(V:List Sl)(w:World)(hn:n=V.length)(hm:n*24<=140737488355328)(h:aw w A V):
 Calls Tryz.prog 164 #[.slice A n c] w (wv w V):=by
 obtain⟨i0,hi,hz0,hz1,hz2⟩:=info_parts gz;subst hn;rcases A with _|a
 ·have h0:V = []:=by
   rcases V with _|⟨r,V⟩
   ·rfl
   ·obtain⟨a,e,-⟩:=h 0 r rfl;cases e
  subst h0;have hnil:=λw:World=>Lib.run_eql_slice_nil (P:=Tryz.prog) w 84 22 none 0 c 0 0 Tryz.underlying84;simp only [Option.isNone_none] at hnil;show Calls _ _ #[.slice none 0 c] w _;clear h;go_enter Tryz.func164,Tryz.ntmps164;go_wp2_with fail;go_ret;exact⟨_,rfl,zO.nil _ _,Below.refl _ _⟩
 ·have hnil:=λw:World=>Lib.run_eql_slice_nil (P:=Tryz.prog) w 84 22 (some a) V.length c 0 0 Tryz.underlying84;simp only [Option.isNone_some] at hnil;have HC:=O (λw' hb=>(h.keep (w':=w') hb).cells);have HE:=O (show∀r∈V,Ns w r.A r.n r.c r.P from λr hr=>by
   obtain⟨k,hk,rfl⟩:=List.getElem_of_mem hr
   obtain⟨-,-,-,q⟩:=h.at hk
   exact q)
  have hB:∀W:World,(W.alloc (.cells #[] 22)).ownsRow W.heap.size 22 1 (.slice (some ⟨W.heap.size,0,none⟩) 0 0) 0 []:=λW =>
   ⟨rfl,.inr ⟨_,0,#[],rfl,Nat.le_refl _,heap_alloc_new W _,Nat.le_refl _,by unfold maxLen;omega,rfl,rfl⟩⟩
  clear h;go_enter Tryz.func164,Tryz.ntmps164;go_wp2_with (at_builtin;refine wpList_append_own_at _ rfl _ _ 84 rfl w.heap.size 22 i0 _ 1 24 Tryz.underlying84 hi hz0 hz1 hz2 rfl (by decide) _ 0 [] rfl (hB w) a V.length c (V.map Sl.v) rfl (by simp) (HC.o _ (zb _ _)) (by intro u hu;obtain⟨r,-,rfl⟩:=List.mem_map.1 hu;rfl) ?c1 ?c2 ?c3 ?_)
  case c1=>unfold maxLen;omega
  case c2=>omega
  case c3=>simp
  intro v1 w1 hown hgrow _ hat;have B1:=O ((zb w (.cells #[] 22)).grown hgrow (by simp) (λk hk=>by simp [Value.ownBlock] at hk;omega));have O1:=O (show zO w1 w.heap.size v1 V from⟨by simpa using hown,λr hr=>(HE.o r hr).keep B1.o,λr hr h0 a' ea q=>by
   have:=jm hown a'.block q
   have:=(HE.o r hr).at_.lt h0 a' ea
   omega⟩)
  clear hown hgrow hat hnil;go_wp2_with fail;go_ret;exact⟨_,rfl,O1.o,B1.o⟩
end Go.Proofs.YtokiogmfgpidmaaGreatDoor
namespace Go.Wk
end Go.Wk
namespace Go.Proofs.YtokiogmfgpidmaaGreatDoor
open Go.RowKit Go.Wk Go.Sort
end Go.Proofs.YtokiogmfgpidmaaGreatDoor
