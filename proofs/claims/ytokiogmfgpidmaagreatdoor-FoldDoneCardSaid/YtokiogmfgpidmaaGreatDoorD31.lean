/-
  slices.SortFunc over slices of nodes by val.order. Plain: a list of values ..
-/
import Derived.Shelf.SlSortCmp.NoneTotal
import Derived.Test.YtokiogmfgpidmaaGreatDoorD29
import Derived.Test.YtokiogmfgpidmaaGreatDoorD30
set_option maxRecDepth 100000
set_option maxHeartbeats 8000000
namespace Go.Proofs.YtokiogmfgpidmaaGreatDoor
open Go.RowKit Go.Wk Go.Sort Go.Shelf
section
variable {α:Type} [Inhabited α] {enc:α->Value}
theorem zi2{w:World}{g n:Nat}{os:Array Obj}{cur:Array Value}{e:TypeId}{fr:Nat × Nat}(d:Array α)(hb:w.heap[g]?=some (.cells cur e fr)):
 (sortWorld enc w g 0 n d os).heap[g]?=some (.cells (putCells enc 0 d cur) e fr):=by
 have hg:g<w.heap.size:=(Array.getElem?_eq_some_iff.1 hb).1;unfold sortWorld;rw [heap_grow_old _ _ (by simpa using hg)];simp [putRow,mapBlock,Sort.ahead,Array.getElem?_modify,hb,onCells]
theorem Oy{w:World}{g n:Nat}{os:Array Obj}(d:Array α):w.grownBy (sortWorld enc w g 0 n d os) (some g):=by
 unfold sortWorld;refine⟨rfl,rfl,rfl,by simp,λk hk hne=>?_⟩;rw [heap_grow_old _ _ (by simpa using hk)];have:g≠k:=λe=>hne (by rw [e]);simp [putRow,mapBlock,Sort.ahead,Array.getElem?_modify,this]
theorem ziy(cur:Array Value)(ts:List α)(h:ts.length<=cur.size):(putCells enc 0 ts.toArray cur).toList.take ts.length=ts.map enc:=by
 apply List.ext_getElem?;intro j;by_cases hj:j<ts.length
 ·rw [List.getElem?_take_of_lt hj,Array.getElem?_toList];simp [putCells,hj,show j<cur.size by omega]
 ·rw [List.getElem?_take_eq_none (by omega),List.getElem?_eq_none (by simp;omega)]
theorem zfn{w:World}{g:Nat}{cur:Array Value}{e:TypeId}{ts:List α}(hb:w.heap[g]?=some (.cells cur e (0,0)))(ht:cur.toList.take ts.length=ts.map enc):Holds enc w g 0 ts.toArray:=by
 intro j hj;have hj':j<ts.length:=by simpa using hj
 refine⟨?_,by simp [World.frozen?,hb]⟩;have h1:(cur.toList.take ts.length)[j]?=(ts.map enc)[j]?:=by rw [ht]
 rw [List.getElem?_take_of_lt hj'] at h1;simp only [World.cell?,hb,Nat.zero_add];simp only [Option.isSome_none,Bool.false_eq_true,if_false];rw [<-Array.getElem?_toList,h1];simp [hj']
end
abbrev Ve (w:World) (g:Nat):Type := { r:Sl // Ns w r.A r.n r.c r.P/\td r (some g)}
instance (w:World) (g:Nat):Inhabited (Ve w g):=⟨⟨⟨none,0,0,[]⟩,⟨rfl,Nat.le_refl _,Nat.zero_le _,λk x hx=>by simp at hx,λx hx=>by cases hx⟩,λh=>by simp at h⟩⟩
def zdY(w:World)(g:Nat)(x:Ve w g):Value:=x.1.v
def gCf(w:World)(g:Nat)(x y:Ve w g):Int:=zu x.1.P y.1.P
theorem zpm(w:World)(g:Nat):SWO (ltOf (gCf w g)) where
 irrefl x:=by unfold ltOf gCf;rw [zO.self];rfl
 trans x y z h1 h2:=by
  unfold ltOf gCf at *;simp only [decide_eq_true_eq] at *;exact zO.lt_le h1 (by omega)
 ntrans x y z h1 h2:=by
  unfold ltOf gCf at *;simp only [decide_eq_false_iff_not] at *;have a1:=zO.anti x.1.P y.1.P;have a2:=zO.anti y.1.P z.1.P;have a3:=zO.anti x.1.P z.1.P;have:=zO.trans z.1.P y.1.P x.1.P (by omega) (by omega);omega
theorem Xj{w:World}{r s:Sl}(h:Ns w r.A r.n r.c r.P)(k:Ns w s.A s.n s.c s.P):
 Calls Tryz.prog 136 #[r.v,s.v] w λe w'=>e = .returned (.int .i64 (zu r.P s.P))/\Rz w w' :=
 zcJ r.A s.A r.n s.n r.c s.c r.P s.P w h.len k.len h.max k.max h.at_ k.at_
theorem zpn(w:World)(g size:Nat):CmpLays1 Tryz.prog 136 #[] (zdY w g) (gCf w g) g 0 size w:=by
 intro m os dk _ x y;have n1:=Ns.row (r:=x.1) x.2.1 (Oy (enc:=zdY w g) (n:=m) (os:=os) dk) x.2.2;have n2:=Ns.row (r:=y.1) y.2.1 (Oy (enc:=zdY w g) (n:=m) (os:=os) dk) y.2.2;exact(Xj n1 n2).mono λe w' ⟨h1,h2⟩=>⟨h1,h2.grow⟩
theorem zgP{β:Type}{p:β->Prop}(V:List β)(h:∀r∈V,p r):∃L:List { r:β // p r },L.map (λx=>x.1)=V:=by
 induction V with
 | nil=>exact⟨[],rfl⟩
 | cons r V ih =>
  obtain⟨L,hL⟩:=ih (λx hx=>h x (by simp [hx]))
  exact⟨⟨r,h r (by simp)⟩:: L,by simp [hL]⟩
def Z7(V:List Sl):Prop:=∀i j (hij:i<j) (hj:j<V.length),zu (V[i]'(by omega)).P V[j].P<=0
theorem ziY(w:World)(B g cap:Nat)(V:List Sl)(h:zX w B (.slice (some ⟨g,0,none⟩) V.length cap) V)(hs:V.length<=5864062014634):
 Calls Tryz.prog 165 #[.slice (some ⟨g,0,none⟩) V.length cap,.func (.func 136) #[] #[]] w λe w' =>
  e = .returned (.tuple #[])/\∃V':List Sl,V'.Perm V/\Z7 V'/\zX w' B (.slice (some ⟨g,0,none⟩) V.length cap) V'/\w.grownBy w' (some g):=by
 have hgood:∀r∈V,Ns w r.A r.n r.c r.P/\td r (some g):=λr hr=>⟨h.each r hr,h.apart r hr⟩
 obtain⟨L,hL⟩:∃L:List (Ve w g),L.map (λx=>x.1)=V:=zgP V hgood;have hLl:L.length=V.length:=by rw [<-hL];simp
 rcases h.own.2 with ⟨e0,-⟩|⟨g',cap',cur,e0,hBg,hh,h1,h2,h3,h4⟩
 ·cases e0
 injection e0 with e1 _ e2;injection e1 with e1;injection e1 with e1;subst e1 e2;have hEnc:L.map (zdY w g)=V.map Sl.v:=by rw [<-hL,List.map_map];rfl
 have hH:Holds (zdY w g) w g 0 L.toArray:=zfn hh (by rw [hEnc,hLl];simpa using h4);have eg:∀args w,(callFunc 136 args).run Tryz.prog w = .ok (.enter 136 args) w:=enters_of Tryz.func136 (by kernel_rfl) rfl;have hcon:=Any.slices_SortFunc Tryz.sortF (zdY w g) (λ_=>rfl) (gCf w g) (zpm w g) 136 #[] g 0 cap L.toArray w eg (zpn w g _) hH (Array.getElem?_eq_some_iff.1 hh).1 (by simp;omega);change Calls Tryz.prog 165 _ _ _ at hcon;have hsz:L.toArray.size=V.length:=by simp [hLl]
 rw [hsz] at hcon;refine hcon.mono ?_;rintro e w' ⟨he,d',n,os,hp,hso,rfl⟩;refine⟨he,d'.toList.map (λx=>x.1),?_,?_,?_,Oy d'⟩
 ·obtain⟨q1,-,q3⟩:=hp;have a1:(d'.extract 0 V.length).toList=d'.toList:=by
   rw [Array.toList_extract];simp only [List.extract,Nat.sub_zero,List.drop_zero];exact List.take_of_length_le (by simp;omega)
  have a2:(L.toArray.extract 0 V.length).toList=L:=by
   rw [Array.toList_extract];simp [List.extract,<-hLl]
  rw [a1,a2] at q3;have:=q3.map (λx:Ve w g=>x.1);rw [hL] at this;exact this
 ·intro i j hij hj;have hj':j<d'.size:=by simpa using hj
  have hd:d'.size=V.length:=hp.1.trans hsz;have:=hso i j (Nat.zero_le _) hij (by omega);unfold ltOf gCf at this;simp only [decide_eq_false_iff_not] at this;have b1:=zO.anti (d'[j]!).1.P (d'[i]!).1.P;have g1:(d'.toList.map (λx=>x.1))[i]'(by simp;omega)=(d'[i]!).1:=by simp [show i<d'.size by omega]
  have g2:(d'.toList.map (λx=>x.1))[j]=(d'[j]!).1:=by simp [hj']
  rw [g1,g2];omega
 ·have hd:d'.size=V.length:=hp.1.trans hsz;have hdl:d'.toList.length=V.length:=by simpa using hd
  refine⟨⟨by simp [hd],.inr ⟨g,cap,_,by simp [hd],hBg,zi2 d' hh,by simpa [hd] using h1,h2,by simp [putCells,h3],?_⟩⟩,?_,?_⟩
  ·have:=ziy (enc:=zdY w g) cur d'.toList (by rw [h3];omega);rw [hdl] at this;simp only [List.length_map,hdl,Nat.mul_one];rw [show d'.toList.toArray=d' from by simp] at this;rw [this,List.map_map];rfl
  ·intro r hr;obtain⟨x,hx,rfl⟩:=List.mem_map.1 hr;exact Ns.row (r:=x.1) x.2.1 (Oy d') x.2.2
  ·intro r hr;obtain⟨x,hx,rfl⟩:=List.mem_map.1 hr;exact x.2.2
theorem zgI(w:World)(p:Option Addr)(cap:Nat)(fv:Value):
 Calls Tryz.prog 165 #[.slice p 0 cap,fv] w λe w'=>e = .returned (.tuple #[])/\w'=w :=
 AnyF.slices_SortFunc_none (ρ:=Tryz.sortF_ren) { Tryz.sortF with } p cap fv w
end Go.Proofs.YtokiogmfgpidmaaGreatDoor
namespace Go.Proofs.YtokiogmfgpidmaaGreatDoor
open Go.RowKit Go.Wk Go.Sort
def goL(p:Sl):List Sl->List Sl
 | [] => []
 | b :: r=>if zu b.P p.P=0 then goL b r else b :: goL b r
def js:List Sl->List Sl
 | [] => []
 | a :: r=>a :: goL a r
theorem ziE{V:List Sl}{p:Sl}{k:Nat}(h:k<V.length)(he:zu V[k].P p.P=0):goL p (V.drop k)=goL V[k] (V.drop (k+1)):=by
 rw [List.drop_eq_getElem_cons h];simp only [goL,he,if_true]
theorem ziZ{V:List Sl}{p:Sl}{k:Nat}(h:k<V.length)(he:zu V[k].P p.P≠0):goL p (V.drop k)=V[k] :: goL V[k] (V.drop (k+1)):=by
 rw [List.drop_eq_getElem_cons h];simp only [goL,he,if_false]
theorem zeN{V:List Sl}{p:Sl}{k:Nat}(h:V.length<=k):goL p (V.drop k)= []:=by
 rw [List.drop_of_length_le h];rfl
theorem Wj{V:List Sl}(h:0<V.length):js V=V.take 1 ++ goL V[0] (V.drop 1):=by
 rcases V with _|⟨a,r⟩
 ·simp at h
 ·rfl
theorem VY{V:List Sl}(h:V.length<2):js V=V:=by
 rcases V with _|⟨a,_|⟨b,r⟩⟩
 ·rfl
 ·rfl
 ·simp at h;omega
theorem zly(r:List Sl):∀p x,x∈goL p r->x∈r:=by
 induction r with
 | nil=>intro p x h;cases h
 | cons b r ih =>
  intro p x h
  simp only [goL] at h
  split at h
  ·exact List.mem_cons_of_mem _ (ih _ _ h)
  ·rcases List.mem_cons.1 h with rfl|h
   ·simp
   ·exact List.mem_cons_of_mem _ (ih _ _ h)
theorem RI{V:List Sl}{x:Sl}(h:x∈js V):x∈V:=by
 rcases V with _|⟨a,r⟩
 ·cases h
 ·rcases List.mem_cons.1 h with rfl|h
  ·simp
  ·exact List.mem_cons_of_mem _ (zly _ _ _ h)
theorem zkX(r:List Sl):∀p,(goL p r).length<=r.length:=by
 induction r with
 | nil=>intro p;simp [goL]
 | cons b r ih =>
  intro p
  simp only [goL]
  split
  ·have:=ih b;simp;omega
  ·have:=ih b;simp;omega
theorem zbS(V:List Sl):(js V).length<=V.length:=by
 rcases V with _|⟨a,r⟩
 ·simp [js]
 ·have:=zkX r a;simp [js];omega
theorem zm9(r:List Sl):∀p:Sl,(p :: r).Pairwise (λa b=>zu a.P b.P<=0)->Up (p.P ::(goL p r).map Sl.P)/\∀x∈r,x.P∈p.P ::(goL p r).map Sl.P:=by
 induction r with
 | nil=>intro p _;exact⟨trivial,λx hx=>by cases hx⟩
 | cons b r ih =>
  intro p h
  obtain⟨h1,h2⟩:=List.pairwise_cons.1 h
  obtain⟨i1,i2⟩:=ih b h2
  have hle:=h1 b (by simp)
  have ha:=zO.anti p.P b.P
  simp only [goL]
  split
  ·rename_i h0
   have e:=(zO.zero b.P p.P).1 h0;rw [e] at i1 i2;refine⟨i1,λx hx=>?_⟩;rcases List.mem_cons.1 hx with rfl|hx
   ·rw [e];simp
   ·exact i2 x hx
  ·rename_i h0
   refine⟨⟨by omega,i1⟩,λx hx=>?_⟩;rcases List.mem_cons.1 hx with rfl|hx
   ·simp
   ·exact List.mem_cons_of_mem _ (i2 x hx)
theorem zca{V:List Sl}(h:V.Pairwise (λa b=>zu a.P b.P<=0)):(js V).map Sl.P=jT (V.map Sl.P):=by
 rcases V with _|⟨a,r⟩
 ·rfl
 obtain⟨h1,h2⟩:=zm9 r a h;refine(Ze h1 λx=>⟨λhx=>?_,λhx=>?_⟩).symm
 ·obtain⟨y,hy,rfl⟩:∃y∈js (a :: r),y.P=x:=List.mem_map.1 hx;exact List.mem_map_of_mem (RI hy)
 ·obtain⟨y,hy,rfl⟩:=List.mem_map.1 hx;rcases List.mem_cons.1 hy with rfl|hy
  ·simp
  ·exact h2 y hy
theorem zjH(r s:Sl)(w:World)(h:Ns w r.A r.n r.c r.P)(k:Ns w s.A s.n s.c s.P):
 Calls Tryz.prog 167 #[r.v,s.v] w λe w'=>e = .returned (.bool (zu r.P s.P==0))/\Below w.heap.size w w':=by
 have HC:=O (Xj h k);clear h k;unfold Sl.v at HC ⊢;go_enter Tryz.func167,Tryz.ntmps167;go_wp2_with fail;refine HC.o.mono ?_;rintro e w1 ⟨rfl,hb⟩;have HB:=O hb.b;clear hb HC;go_wp2_with fail;go_ret;exact⟨rfl,HB.o⟩
def Gk(w:World)(g cap:Nat)(V Y:List Sl)(m:Nat):Prop :=
 ∃cur,w.heap[g]?=some (.cells cur 22 (0,0))/\cur.size=cap/\(∀j (h:j<Y.length),cur[j]?=some Y[j].v)/\∀j (h:j<V.length),m<=j->cur[j]?=some V[j].v
theorem Gk.keep{w w':World}{g cap m:Nat}{V Y:List Sl}(h:Gk w g cap V Y m)(hb:Below w.heap.size w w'):Gk w' g cap V Y m:=by
 obtain⟨cur,h1,h2⟩:=h;exact⟨cur,by rw [(zA hb none).block g (Array.getElem?_eq_some_iff.1 h1).1 (by simp)];exact h1,h2⟩
theorem Gk.cell{w:World}{g cap m:Nat}{V Y:List Sl}(h:Gk w g cap V Y m){j:Nat}(hj:j<V.length)(hm:m<=j):w.cell? ⟨g,j,none⟩=some V[j].v/\w.frozen? ⟨g,j,none⟩=false:=by
 obtain⟨cur,h1,-,-,h4⟩:=h;exact⟨by simp [World.cell?,h1,h4 j hj hm],by simp [World.frozen?,h1]⟩
theorem Gk.skip{w:World}{g cap m:Nat}{V Y:List Sl}(h:Gk w g cap V Y m):Gk w g cap V Y (m+1):=by
 obtain⟨cur,h1,h2,h3,h4⟩:=h;exact⟨cur,h1,h2,h3,λj hj hm=>h4 j hj (by omega)⟩
theorem Gk.put{w:World}{g cap m:Nat}{V Y:List Sl}(h:Gk w g cap V Y m)(r:Sl)(hY:Y.length<=m)(hc:Y.length<cap):Gk (w.setCell ⟨g,Y.length,none⟩ r.v) g cap V (Y ++ [r]) (m+1):=by
 obtain⟨cur,h1,h2,h3,h4⟩:=h;refine⟨cur.setIfInBounds Y.length r.v,?_,by simpa using h2,λj hj=>?_,λj hj hm=>?_⟩
 ·rw [setCell_eq];simp [mapBlock,Array.getElem?_modify,h1,onCells]
 ·by_cases e:j=Y.length
  ·subst e;simp [show Y.length<cur.size by omega]
  ·have:j<Y.length:=by simp at hj;omega
   rw [Array.getElem?_setIfInBounds_ne (by omega),h3 j this];simp [List.getElem_append_left this]
 ·rw [Array.getElem?_setIfInBounds_ne (by omega)];exact h4 j hj (by omega)
theorem Gk.clear{g cap:Nat}{Y:List Sl}:∀(vs:List Value) (o:Nat) (w:World),Gk w g cap [] Y 0->Y.length<=o->Gk (w.setCells g o vs) g cap [] Y 0
 | [],_,_,h,_=>h
 | v :: r,o,w,h,ho=>by
  refine Gk.clear r (o+1) _ ?_ (by omega);obtain⟨cur,h1,h2,h3,-⟩:=h;refine⟨cur.setIfInBounds o v,?_,by simpa using h2,λj hj=>?_,λj hj=>by simp at hj⟩
  ·rw [setCell_eq];simp [mapBlock,Array.getElem?_modify,h1,onCells]
  ·rw [Array.getElem?_setIfInBounds_ne (by omega)];exact h3 j hj
theorem WX(w:World)(g o:Nat)(v:Value):w.grownBy (w.setCell ⟨g,o,none⟩ v) (some g):=by
 rw [setCell_eq];refine⟨rfl,rfl,rfl,by simp [mapBlock],λk hk hne=>?_⟩;have:g≠k:=λe=>hne (by rw [e]);simp [mapBlock,Array.getElem?_modify,this]
theorem UQ(g:Nat):∀(vs:List Value) (o:Nat) (w:World),w.grownBy (w.setCells g o vs) (some g)
 | [],_,w=>World.grownBy.refl w _
 | v :: r,o,w=>(WX w g o v).trans (UQ g r (o+1) _)
theorem Gk.own{w w':World}{B g cap m n:Nat}{V Y U:List Sl}(h:zX w B (.slice (some ⟨g,0,none⟩) n cap) V)(hc:Gk w' g cap U Y m)(hg:w.grownBy w' (some g))(hY:∀x∈Y,x∈V)(hl:Y.length<=n):zX w' B (.slice (some ⟨g,0,none⟩) Y.length cap) Y:=by
 obtain⟨cur,c1,c2,c3,-⟩:=hc;rcases h.own.2 with ⟨e0,-⟩|⟨g',cap',cur',e0,hBg,hh,h1,h2,h3,h4⟩
 ·cases e0
 injection e0 with e1 _ e2;injection e1 with e1;injection e1 with e1;subst e1 e2;refine⟨⟨by simp,.inr ⟨g,cap,cur,rfl,hBg,c1,by have:=h.own.1;omega,h2,by simpa using c2,?_⟩⟩,λr hr=>(h.each r (hY r hr)).row hg (h.apart r (hY r hr)),λr hr=>h.apart r (hY r hr)⟩;apply List.ext_getElem?;intro j;by_cases hj:j<Y.length
 ·rw [List.getElem?_take_of_lt (by omega),Array.getElem?_toList,c3 j hj];simp [hj]
 ·rw [List.getElem?_take_eq_none (by omega),List.getElem?_eq_none (by simp;omega)]
theorem ze6{w:World}{B g cap:Nat}{V:List Sl}(h:zX w B (.slice (some ⟨g,0,none⟩) V.length cap) V):Gk w g cap V [] 0/\V.length<=cap:=by
 rcases h.own.2 with ⟨e0,-⟩|⟨g',cap',cur,e0,hBg,hh,h1,h2,h3,h4⟩
 ·cases e0
 injection e0 with e1 _ e2;injection e1 with e1;injection e1 with e1;subst e1 e2;refine⟨⟨cur,hh,by simpa using h3,λj hj=>by simp at hj,λj hj _=>?_⟩,h1⟩;have e:(cur.toList.take (V.length*1))[j]?=(V.map Sl.v)[j]?:=by rw [h4]
 rw [List.getElem?_take_of_lt (by omega),Array.getElem?_toList] at e;rw [e];simp [hj]
theorem Gk.take{w:World}{g cap:Nat}{V:List Sl}(h:Gk w g cap V [] 0)(k:Nat):Gk w g cap V (V.take k) k:=by
 obtain⟨cur,h1,h2,h3,h4⟩:=h;refine⟨cur,h1,h2,λj hj=>?_,λj hj _=>h4 j hj (Nat.zero_le _)⟩;have hj':j<V.length:=by simp at hj;omega
 rw [h4 j hj' (Nat.zero_le _),List.getElem_take]
theorem Gk.forget{w:World}{g cap m:Nat}{V Y:List Sl}(h:Gk w g cap V Y m):Gk w g cap [] Y 0:=by
 obtain⟨cur,h1,h2,h3,h4⟩:=h;exact⟨cur,h1,h2,h3,λj hj=>by simp at hj⟩
theorem Gk.there{w:World}{g cap m:Nat}{V Y:List Sl}(h:Gk w g cap V Y m){j:Nat}(hj:j<cap):(∃v,w.cell? ⟨g,j,none⟩=some v)/\w.frozen? ⟨g,j,none⟩=false:=by
 obtain⟨cur,h1,h2,-,-⟩:=h;exact⟨⟨cur[j]'(by omega),by simp [World.cell?,h1,show j<cur.size by omega]⟩,by simp [World.frozen?,h1]⟩
theorem zlO(w:World):(zeroValue 22).run Tryz.prog w = .ok (.slice none 0 0) w:=by kernel_rfl
theorem zgf{V:List Sl}{p:Sl}{k:Nat}(h:k<V.length)(h0:zu V[k].P p.P=0)(he:js V=V.take k ++ goL p (V.drop k)):js V=V.take k ++ goL V[k] (V.drop (k+1)):=by
 rw [he,ziE h h0]
theorem zbR(w:World)(B g cap:Nat)(V:List Sl)(h:zX w B (.slice (some ⟨g,0,none⟩) V.length cap) V)(hs:V.length<=5864062014634):
 Calls Tryz.prog 166 #[.slice (some ⟨g,0,none⟩) V.length cap,.func (.func 167) #[] #[]] w λe w' =>
  e = .returned (.slice (some ⟨g,0,none⟩) (js V).length cap)/\zX w' B (.slice (some ⟨g,0,none⟩) (js V).length cap) (js V)/\w.grownBy w' (some g):=by
 have HR:=O (ze6 h).1;have zhh:=(ze6 h).2;have HH:=O h;clear h;by_cases h2:V.length<2
 ·have HC:=O (VY h2);go_enter Tryz.func166,Tryz.ntmps166;go_wp2;go_ret;rw [HC.o];exact⟨rfl,HH.o,World.grownBy.refl _ _⟩
 ·go_enter Tryz.func166,Tryz.ntmps166;go_wp2;go_loopw [5] (λi wr=>∃k:Nat,1<=k/\k<=V.length/\i = .int .i64 k/\Hid (∃p,V[k-1]?=some p/\js V=V.take k ++ goL p (V.drop k))/\Hid (Below w.heap.size w wr)) (λi _=>V.length-(intOf i).toNat)
  case atStart=>exact⟨1,Nat.le_refl _,by omega,rfl,⟨V[0],by simp,Wj (by omega)⟩,Below.refl _ _⟩
  case round =>
   obtain⟨k,hk1,hk2,rfl,hc,hb⟩:=hrel;by_cases hlt:k<V.length
   ·obtain⟨a1,f1⟩:=(HR.o.keep hb.o).cell hlt (Nat.zero_le _);obtain⟨a0,f0⟩:=(HR.o.keep hb.o).cell (j:=k-1) (by omega) (Nat.zero_le _);have n1:=(HH.o.each _ (List.getElem_mem hlt)).keep hb.o;have n0:=(HH.o.each _ (List.getElem_mem (show k-1<V.length by omega))).keep hb.o;have s1:=rq (w:=wr) (λw' h=>zjH V[k] V[k-1] w' (n1.keep h) (n0.keep h));clear n1 n0;unfold Sl.v at a1 a0 s1;have k1:=cell_regrown a1;have k0:=cell_regrown a0;go_wp2_with fail;refine wp_region_quiet_below (by kernel_rfl) (by kernel_rfl) ?_
    repeat (first|go_big_quiet_step (exact s1 _ _)|quiet_step (exact s1 _ _))
    refine wpQuiet_nil ?_;intro w1 hw';have B1:=O (show Below wr.heap.size wr w1 by obtain⟨⟨d,os⟩,rfl⟩:=hw';exact below_regrown _ _ _);clear hw';clear s1 k1 k0 a1 a0 f1 f0;by_cases h0:zu V[k].P V[k-1].P=0
    ·have e0:(zu V[k].P V[k-1].P==0)=true:=by rw [h0];rfl
     have HI:=O (show(V.take k).length=k/\∃p,V[k+1-1]?=some p/\js V=V.take k ++ goL p (V.drop (k+1)) by
      obtain⟨p,hp,he⟩:=hc.o
      have Iy:V[k-1]=p:=by
       rw [List.getElem?_eq_getElem (by omega)] at hp;injection hp
      subst Iy
      exact⟨by simp;omega,V[k],by simp [hlt],zgf hlt h0 he⟩)
     have HB:=oz hb B1 (Nat.le_refl _);have R1:=O ((HR.o.keep HB.o).take k);have G1:=O (zA HB.o (some g));rw [e0];clear hc hb B1 h0 e0;have hlc:k<cap:=by omega
     go_wp2;go_loopw [5,7] (λi j wr=>∃(kk k2:Nat) (Y:List Sl),i = .int .i64 kk/\j = .int .i64 k2/\1<=k2/\k+k2<=V.length/\kk<=k+k2-1/\Hid (Y.length=kk/\∃p,V[k+k2-1]?=some p/\js V=Y ++ goL p (V.drop (k+k2)))/\Hid (Gk wr g cap V Y (k+k2-1))/\Hid (w.grownBy wr (some g))) (λ_ j _=>V.length-(intOf j).toNat)
     case atStart=>exact⟨k,1,V.take k,rfl,rfl,Nat.le_refl _,by omega,by omega,HI,R1,G1⟩
     case round =>
      obtain⟨kk,k2,Y,rfl,rfl,g1,g2,g3,hI,hR,hG⟩:=hrel;by_cases hlt2:k+k2<V.length
      ·obtain⟨a1,f1⟩:=hR.o.cell hlt2 (by omega);obtain⟨a0,f0⟩:=hR.o.cell (j:=k+k2-1) (by omega) (by omega);have n1:=(HH.o.each _ (List.getElem_mem hlt2)).row hG.o (HH.o.apart _ (List.getElem_mem hlt2));have n0:=(HH.o.each _ (List.getElem_mem (show k+k2-1<V.length by omega))).row hG.o (HH.o.apart _ (List.getElem_mem (show k+k2-1<V.length by omega)));have s1:=rq (w:=wr) (λw' h=>zjH V[k+k2] V[k+k2-1] w' (n1.keep h) (n0.keep h));clear n1 n0;unfold Sl.v at a1 a0 s1;have a0':wr.cell? ⟨g,k+(k2-1),none⟩=some (.slice V[k+k2-1].A V[k+k2-1].n V[k+k2-1].c):=by rw [show k+(k2-1)=k+k2-1 by omega];exact a0
       have f0':wr.frozen? ⟨g,k+(k2-1),none⟩=false:=by rw [show k+(k2-1)=k+k2-1 by omega];exact f0
       clear a0 f0;have k1:=cell_regrown a1;have k0:=cell_regrown a0';go_wp2_with fail;refine wp_region_quiet_below (by kernel_rfl) (by kernel_rfl) ?_
       repeat (first|go_big_quiet_step (exact s1 _ _)|quiet_step (exact s1 _ _))
       refine wpQuiet_nil ?_;intro w1 hw';have B1:=O (show Below wr.heap.size wr w1 by obtain⟨⟨d,os⟩,rfl⟩:=hw';exact below_regrown _ _ _);clear hw';clear s1 k1 k0 a1 a0' f1 f0';have G2:=O (hG.o.trans (zA B1.o (some g)));have R2:=O (hR.o.keep B1.o);clear hG hR B1;by_cases h0:zu V[k+k2].P V[k+k2-1].P=0
       ·have e0:(zu V[k+k2].P V[k+k2-1].P==0)=true:=by rw [h0];rfl
        have HJ:=O (show Y.length=kk/\∃p,V[k+(k2+1)-1]?=some p/\js V=Y ++ goL p (V.drop (k+(k2+1))) by
         obtain⟨hl,p,hp,he⟩:=hI.o
         have Iy:V[k+k2-1]=p:=by
          rw [List.getElem?_eq_getElem (by omega)] at hp;injection hp
         subst Iy
         refine⟨hl,V[k+k2],by rw [show k+(k2+1)-1=k+k2 by omega];exact List.getElem?_eq_getElem hlt2,?_⟩
         rw [he,ziE hlt2 h0];rfl)
        have R3:=O (show Gk w1 g cap V Y (k+(k2+1)-1) by
         have:=R2.o.skip
         rwa [show k+k2-1+1=k+(k2+1)-1 by omega] at this)
        rw [e0];clear hI R2 h0 e0;go_wp2;go_roundw
        case rel=>exact⟨kk,k2+1,Y,rfl,by go_num,by omega,by omega,by omega,HJ,R3,G2⟩
        case measure=>simp [intOf];omega
       ·have e0:(zu V[k+k2].P V[k+k2-1].P==0)=false:=beq_eq_false_iff_ne.2 h0;have HJ:=O (show(Y ++ [V[k+k2]]).length=kk+1/\∃p,V[k+(k2+1)-1]?=some p/\js V=(Y ++ [V[k+k2]])++ goL p (V.drop (k+(k2+1))) by
         obtain⟨hl,p,hp,he⟩:=hI.o
         have Iy:V[k+k2-1]=p:=by
          rw [List.getElem?_eq_getElem (by omega)] at hp;injection hp
         subst Iy
         refine⟨by simp [hl],V[k+k2],by rw [show k+(k2+1)-1=k+k2 by omega];exact List.getElem?_eq_getElem hlt2,?_⟩
         rw [he,ziZ hlt2 h0,List.append_assoc];rfl)
        have R3:=O (show Gk (w1.setCell ⟨g,kk,none⟩ V[k+k2].v) g cap V (Y ++ [V[k+k2]]) (k+(k2+1)-1) by
         have:=R2.o.put V[k+k2] (by rw [hI.o.1];omega) (by rw [hI.o.1];omega)
         rwa [show k+k2-1+1=k+(k2+1)-1 by omega,hI.o.1] at this)
        have G3:=O (G2.o.trans (WX w1 g kk V[k+k2].v));obtain⟨a1,f1⟩:=R2.o.cell hlt2 (by omega);obtain⟨⟨vk,ak⟩,fk⟩:=R2.o.there (j:=kk) (by omega);unfold Sl.v at a1;rw [e0];clear hI R2 G2 h0 e0;go_wp2;go_roundw
        case rel=>exact⟨kk+1,k2+1,_,by go_num,by go_num,by omega,by omega,by omega,HJ,R3,G3⟩
        case measure=>simp [intOf];omega
      ·have HY:=O (show js V=Y/\Y.length=kk by
        obtain⟨hl,p,hp,he⟩:=hI.o
        exact⟨by rw [he,zeN (by omega),List.append_nil],hl⟩)
       have hcl:∀ty,(Builtin.clear_ #[84] ty #[.slice (some ⟨g,kk,none⟩) (V.length-kk) (cap-kk)]).run Tryz.prog wr = .ok (.tuple #[]) (wr.setCells g kk (List.replicate (V.length-kk) (.slice none 0 0))):=
        λty=>Lib.run_clear_slice wr _ _ ty _ Tryz.underlying84 zlO rfl rfl g kk _ _ (by omega) (λj hj=>by obtain⟨⟨v,q⟩,-⟩:=hR.o.there (j:=kk+j) (by omega);rw [q];rfl) (λj hj=>(hR.o.there (j:=kk+j) (by omega)).2)
       have G2:=O (hG.o.trans (UQ g (List.replicate (V.length-kk) (.slice none 0 0)) kk wr));have R2:=O (Gk.clear (List.replicate (V.length-kk) (.slice none 0 0)) kk wr hR.o.forget (by rw [HY.o.2];exact Nat.le_refl _));clear hI hR hG;go_wp2;go_ret;have hl:=HY.o.2;have hy:=HY.o.1;refine⟨by rw [hy,hl];rfl,?_,G2.o⟩;rw [hy];exact Gk.own HH.o R2.o G2.o (λx hx=>RI (by rw [hy];exact hx)) (by omega)
    ·have e0:(zu V[k].P V[k-1].P==0)=false:=beq_eq_false_iff_ne.2 h0;have HC:=O (show∃p,V[k]?=some p/\js V=V.take (k+1)++ goL p (V.drop (k+1)) by
      obtain⟨p,hp,he⟩:=hc.o
      have Iy:V[k-1]=p:=by
       rw [List.getElem?_eq_getElem (by omega)] at hp;injection hp
      subst Iy
      refine⟨V[k],by simp [hlt],?_⟩
      rw [he,ziZ hlt h0,<-List.take_append_getElem hlt,List.append_assoc]
      rfl)
     rw [e0];clear hc;have HB:=oz hb B1 (Nat.le_refl _);clear hb B1;go_wp2;go_roundw
     case rel=>exact⟨k+1,by omega,by omega,by go_num,HC,HB⟩
     case measure=>simp [intOf];omega
   ·have HC:=O (show js V=V by
     obtain⟨p,hp,he⟩:=hc.o
     rw [he,zeN (by omega),List.take_of_length_le (by omega),List.append_nil])
    clear hc;go_wp2;go_ret;rw [HC.o];exact⟨rfl,HH.o.keep hb.o,zA hb.o _⟩
theorem ou.cells{w:World}{a:Addr}{V:List Sl}(h:ou w (some a) V):∀j u,(V.map Sl.v)[j]?=some u->w.cell? (a.add j)=some u:=by
 intro j u hu;rw [List.getElem?_map] at hu;rcases hv:V[j]? with _|r
 ·rw [hv] at hu;cases hu
 ·rw [hv] at hu;simp only [Option.map_some,Option.some.injEq] at hu;subst hu;obtain⟨b,e,q,-⟩:=h j r hv;injection e with e;subst e;exact q
def zdl(w:World)(V:List Sl)(e:Ending)(w':World):Prop:=∃v,e = .returned v/\zX w' w.heap.size v V/\Below w.heap.size w w'
theorem zfC(A:Option Addr)(n c:Nat)(V:List Sl)(w:World)(hn:n=V.length)(hm:n*24<=140737488355328)(h:ou w A V):
 Calls Tryz.prog 164 #[.slice A n c] w (zdl w V):=by
 obtain⟨i0,hi,hz0,hz1,hz2⟩:=info_parts ML;subst hn;rcases A with _|a
 ·have h0:V = []:=by
   rcases V with _|⟨r,V⟩
   ·rfl
   ·obtain⟨a,e,-⟩:=h 0 r rfl;cases e
  subst h0;have hnil:=λw:World=>Lib.run_eql_slice_nil (P:=Tryz.prog) w 84 22 none 0 c 0 0 Tryz.underlying84;simp only [Option.isNone_none] at hnil;show Calls _ _ #[.slice none 0 c] w _;clear h;go_enter Tryz.func164,Tryz.ntmps164;go_wp2_with fail;go_ret;exact⟨_,rfl,zX.nil _ _,Below.refl _ _⟩
 ·have hnil:=λw:World=>Lib.run_eql_slice_nil (P:=Tryz.prog) w 84 22 (some a) V.length c 0 0 Tryz.underlying84;simp only [Option.isNone_some] at hnil;have HC:=O (λw' hb=>(h.keep (w':=w') hb).cells);have HE:=O (show∀r∈V,Ns w r.A r.n r.c r.P from λr hr=>by
   obtain⟨k,hk,rfl⟩:=List.getElem_of_mem hr
   obtain⟨-,-,-,q⟩:=h.at hk
   exact q)
  have hB:∀W:World,(W.alloc (.cells #[] 22)).ownsRow W.heap.size 22 1 (.slice (some ⟨W.heap.size,0,none⟩) 0 0) 0 []:=λW =>
   ⟨rfl,.inr ⟨_,0,#[],rfl,Nat.le_refl _,heap_alloc_new W _,Nat.le_refl _,by unfold maxLen;omega,rfl,rfl⟩⟩
  clear h;go_enter Tryz.func164,Tryz.ntmps164;go_wp2_with (at_builtin;refine wpList_append_own_at _ rfl _ _ 84 rfl w.heap.size 22 i0 _ 1 24 Tryz.underlying84 hi hz0 hz1 hz2 rfl (by decide) _ 0 [] rfl (hB w) a V.length c (V.map Sl.v) rfl (by simp) (HC.o _ (zb _ _)) (by intro u hu;obtain⟨r,-,rfl⟩:=List.mem_map.1 hu;rfl) ?c1 ?c2 ?c3 ?_)
  case c1=>unfold maxLen;omega
  case c2=>omega
  case c3=>simp
  intro v1 w1 hown hgrow _ hat;have B1:=O ((zb w (.cells #[] 22)).grown hgrow (by simp) (λk hk=>by simp [Value.ownBlock] at hk;omega));have O1:=O (show zX w1 w.heap.size v1 V from⟨by simpa using hown,λr hr=>(HE.o r hr).keep B1.o,λr hr h0 a' ea q=>by
   have:=zR hown a'.block q
   have:=(HE.o r hr).at_.lt h0 a' ea
   omega⟩)
  clear hown hgrow hat hnil;go_wp2_with fail;go_ret;exact⟨_,rfl,O1.o,B1.o⟩
theorem RZ{P Q:List Nd}{k:Nat}(h:P.length<=k\/Q.length<=k)(h1:k<=P.length)(h2:k<=Q.length):zu (P.drop k) (Q.drop k)=Gl P.length Q.length:=by
 by_cases a:P.length<=k
 ·by_cases b:Q.length<=k
  ·rw [Gv a b];unfold Gl;split <;>(try split)<;> omega
  ·rw [Np a (by omega)];unfold Gl;rw [if_pos (by omega)]
 ·rw [NR (by omega) (by omega)];unfold Gl;rw [if_neg (by omega),if_pos (by omega)]
theorem Ot(A B:Option Addr)(n m c d:Nat)(P Q:List Nd)(w:World)(hn:n=P.length)(hm:m=Q.length)(hln:n<=maxLen)(_hlm:m<=maxLen)(hP:jt w A P)(hQ:jt w B Q)(oP:gh P)(oQ:gh Q):
 Calls Tryz.prog 70 #[.slice A n c,.slice B m d] w λe w'=>e = .returned (.int .i64 (zu P Q))/\Below w.heap.size w w':=by
 unfold maxLen at hln _hlm;have HN:=O hn;have HM:=O hm;have HP:=O hP;have HQ:=O hQ;have OP:=O oP;have OQ:=O oQ;clear hn hm hP hQ oP oQ;go_enter Tryz.func70,Tryz.ntmps70;go_wp2_with fail;go_loopw [4,5] (λ_ i wr=>∃k:Nat,k<=n/\k<=m/\i = .int .i64 k/\Hid (zu P Q=zu (P.drop k) (Q.drop k))/\Hid (Below w.heap.size w wr)) (λ_ i _=>n-(intOf i).toNat)
 case atStart=>exact⟨0,Nat.zero_le _,Nat.zero_le _,rfl,rfl,Below.refl _ _⟩
 case round =>
  obtain⟨k,hkn,hkm,rfl,hc,yj⟩:=hrel;by_cases h1:k<n
  ·have XC:k<P.length:=by rw [<-HN.o];exact h1
   obtain⟨a,rfl,D⟩:=(HP.o.keep yj.o).nd XC;by_cases h2:k<m
   ·have h2':k<Q.length:=by rw [<-HM.o];exact h2
    obtain⟨b,rfl,E⟩:=(HQ.o.keep yj.o).nd h2';have HA:=O (hc.o.trans (IR XC h2'));have N1:=λw=>Gr P[k].op Q[k].op w;have N2:=λw=>Gr P[k].n Q[k].n w;have N3:=λw=>Mj P[k].s Q[k].s w (OP.o.at XC).s (OQ.o.at h2').s;have N4:=λw=>Mj P[k].t Q[k].t w (OP.o.at XC).t (OQ.o.at h2').t;have HX:NH P[k] Q[k]=or4 (Gl P[k].op Q[k].op) (Gl P[k].n Q[k].n) (jh P[k].s Q[k].s) (jh P[k].t Q[k].t):=rfl;rw [HX] at HA;generalize P[k]=x at *;generalize Q[k]=y at *;generalize Gl x.op y.op=v1 at *;generalize Gl x.n y.n=v2 at *;generalize jh x.s y.s=v3 at *;generalize jh x.t y.t=v4 at *;clear hc HX;have k1:=cell_regrown D.c0;have k2:=cell_regrown E.c0;have s1:=rqs (w:=wr) N1;have M2:=O N2;have M3:=O N3;have M4:=O N4;have HD:=O D;have HE:=O E;clear N1 N2 N3 N4 D E;go_wp2_with fail;refine wp_region_quiet_below (by kernel_rfl) (by kernel_rfl) ?_
    repeat (first|go_big_quiet_step (exact s1 _ _)|quiet_step (exact s1 _ _))
    refine wpQuiet_nil ?_;intro w1 hw';have B1:=O (show Below wr.heap.size wr w1 by obtain⟨⟨d,os⟩,rfl⟩:=hw';exact below_regrown _ _ _);clear hw';clear k1 k2 s1;by_cases e1:v1=0
    ·subst e1;have k1:=cell_regrown (HD.o.keep B1.o).c1;have k2:=cell_regrown (HE.o.keep B1.o).c1;have s1:=rqs (w:=w1) M2.o;go_wp2_with fail;refine wp_region_quiet_below (by kernel_rfl) (by kernel_rfl) ?_
     repeat (first|go_big_quiet_step (exact s1 _ _)|quiet_step (exact s1 _ _))
     refine wpQuiet_nil ?_;intro w2 hw';have B2:=O (show Below w1.heap.size w1 w2 by obtain⟨⟨d,os⟩,rfl⟩:=hw';exact below_regrown _ _ _);clear hw';replace B2:=bh B1 B2.o;clear k1 k2 s1;by_cases e2:v2=0
     ·subst e2;have k1:=cell_regrown (HD.o.keep B2.o).c2;have k2:=cell_regrown (HE.o.keep B2.o).c2;have s1:=rq (w:=w2) (λw' _=>M3.o w');go_wp2_with fail;refine wp_region_quiet_below (by kernel_rfl) (by kernel_rfl) ?_
      repeat (first|go_big_quiet_step (exact s1 _ _)|quiet_step (exact s1 _ _))
      refine wpQuiet_nil ?_;intro w3 hw';have B3:=O (show Below w2.heap.size w2 w3 by obtain⟨⟨d,os⟩,rfl⟩:=hw';exact below_regrown _ _ _);clear hw';replace B3:=bh B2 B3.o;clear k1 k2 s1;by_cases e3:v3=0
      ·subst e3;have k1:=cell_regrown (HD.o.keep B3.o).c3;have k2:=cell_regrown (HE.o.keep B3.o).c3;have s1:=rq (w:=w3) (λw' _=>M4.o w');go_wp2_with fail;refine wp_region_quiet_below (by kernel_rfl) (by kernel_rfl) ?_
       repeat (first|go_big_quiet_step (exact s1 _ _)|quiet_step (exact s1 _ _))
       refine wpQuiet_nil ?_;intro w4 hw';have B4:=O (show Below w3.heap.size w3 w4 by obtain⟨⟨d,os⟩,rfl⟩:=hw';exact below_regrown _ _ _);clear hw';replace B4:=bh B3 B4.o;clear k1 k2 s1;by_cases e4:v4=0
       ·subst e4;have HB:=O (HA.o.trans (show _=zu (P.drop (k+1)) (Q.drop (k+1)) from rfl));go_wp2_with fail;go_roundw
        case rel=>exact⟨k+1,by omega,by omega,by go_num,HB,oz yj B4 (Nat.le_refl _)⟩
        case measure=>simp [intOf];omega
       ·have HB:=O (HA.o.trans (show _=v4 by unfold or4;rw [zM,zM,zM,jw e4]));have e4':(v4 != 0)=true:=by rw [bne_iff_ne];exact e4
        clear e4;go_wp2_with fail;go_ret;exact⟨jb HB.o.symm,(oz yj B4 (Nat.le_refl _)).o⟩
      ·have HB:=O (HA.o.trans (show _=v3 by unfold or4;rw [zM,zM,jw e3,jw e3]));have e3':(v3 != 0)=true:=by rw [bne_iff_ne];exact e3
       have e3'':(v3==0)=false:=beq_eq_false_iff_ne.2 e3;clear e3;go_wp2_with fail;go_ret;exact⟨jb HB.o.symm,(oz yj B3 (Nat.le_refl _)).o⟩
     ·have HB:=O (HA.o.trans (show _=v2 by unfold or4;rw [zM,jw e2,jw e2]));have e3':(v2 != 0)=true:=by rw [bne_iff_ne];exact e2
      have e3'':(v2==0)=false:=beq_eq_false_iff_ne.2 e2;clear e2;go_wp2_with fail;go_ret;exact⟨jb HB.o.symm,(oz yj B2 (Nat.le_refl _)).o⟩
    ·have HB:=O (HA.o.trans (show _=v1 by unfold or4;rw [jw e1,jw e1]));have e3':(v1 != 0)=true:=by rw [bne_iff_ne];exact e1
     have e3'':(v1==0)=false:=beq_eq_false_iff_ne.2 e1;clear e1;go_wp2_with fail;go_ret;exact⟨jb HB.o.symm,(oz yj B1 (Nat.le_refl _)).o⟩
   ·have HB:=O (hc.o.trans (RZ (.inr (by rw [<-HM.o];omega)) (by rw [<-HN.o];omega) (by rw [<-HM.o];omega)));rw [<-HN.o,<-HM.o] at HB;clear hc;go_wp2_with fail;refine(Gr _ _ _).mono ?_;rintro e w1 ⟨rfl,rfl⟩;go_wp2_with fail;go_ret;exact⟨jb HB.o.symm,yj.o⟩
  ·have HB:=O (hc.o.trans (RZ (.inl (by rw [<-HN.o];omega)) (by rw [<-HN.o];omega) (by rw [<-HM.o];omega)));rw [<-HN.o,<-HM.o] at HB;clear hc;go_wp2_with fail;refine(Gr _ _ _).mono ?_;rintro e w1 ⟨rfl,rfl⟩;go_wp2_with fail;go_ret;exact⟨jb HB.o.symm,yj.o⟩
end Go.Proofs.YtokiogmfgpidmaaGreatDoor
namespace Go.Wk
def vU(v:List Nd)(m p:Nat):Option Nat :=
 match v[p]? with
 | none=>none
 | some x=>if decide (x.op=7)&& zq x then zl v m (p+1) else none
def Jn:Option Nat->Int
 | none => -1
 | some e=>e
theorem Wl{s:ByteArray}(h:zh s=0):0<s.size:=by
 rcases Nat.eq_zero_or_pos s.size with h0|h0
 ·exfalso;unfold zh at h;rw [Mw h0] at h;simp at h
 ·exact h0
theorem zdh{s:ByteArray}(h:0<s.size):jh .empty s<0:=by
 unfold jh;rcases hl:s.data.toList with _|⟨x,l⟩
 ·have:s.data.toList.length=0:=by rw [hl];rfl
  rw [Array.length_toList] at this;have h':0<s.data.size:=h;omega
 ·show Lib.compareBytes [] (x :: l)<0;simp [Lib.compareBytes]
theorem zf2{x:Nd}(h7:x.op=7)(hs:zq x=true):jh .empty x.s<0:=by
 unfold zq at hs;rw [h7] at hs;simp at hs;exact zdh (Wl hs.2)
theorem VZ{v:List Nd}{m q e:Nat}(h:vU v m q=some e):∃hq:q<v.length,v[q].op=7/\zq v[q]=true/\zl v m (q+1)=some e:=by
 unfold vU at h;by_cases hq:q<v.length
 ·rw [List.getElem?_eq_getElem hq] at h;simp only at h;split at h
  ·rename_i hc;simp at hc;exact⟨hq,hc.1,hc.2,h⟩
  ·cases h
 ·rw [List.getElem?_eq_none (by omega)] at h;cases h
theorem Zf{v:List Nd}{N k m:Nat}{last:ByteArray}{q:Nat}(hk:k<N)(h:vU v m q=none):zV v (zl v m) (N-k) last q=none:=by
 rcases hf:bJ v last q with _|s
 ·exact Gq hk hf
 ·refine Qt hk hf ?_;unfold bJ at hf;unfold vU at h;split at hf
  ·cases hf
  ·rename_i x hx;rw [hx] at h;simp only at h;split at hf
   ·rename_i hc;simp only [Bool.and_eq_true] at hc;rw [if_pos (by rw [hc.1.1,hc.1.2];rfl)] at h;exact h
   ·cases hf
end Go.Wk
namespace Go.Proofs.YtokiogmfgpidmaaGreatDoor
open Go.RowKit Go.Wk Go.Sort
theorem PX(w:World)(x:Nd)(t:TypeId):Nd4 (w.alloc (.cells #[.int .i64 x.op,.int .i64 x.n,.string x.s,.string x.t] t)) ⟨w.heap.size,0,none⟩ x :=
 ⟨by simp,by simp,by simp,by simp⟩
theorem zeF(A:Option Addr)(n c p:Nat)(f:Bool)(w:World)(h:n<=p):
 Calls Tryz.prog 37 #[.slice A n c,.int .i64 p,.bool f] w λe w'=>e = .returned (.int .i64 (Jn none))/\Below w.heap.size w w':=by
 go_enter Tryz.func37,Tryz.ntmps37;go_wp2_with fail;go_ret;exact⟨rfl,Below.refl _ _⟩
theorem YH(a:Addr)(n c p:Nat)(f:Bool)(x:Nd)(w:World)(hp:p<n)(hD:Nd4 w (a.add (p*4)) x)(hO:Kb x)(h:(zq x &&(decide (x.op=7)==f))=false):
 Calls Tryz.prog 37 #[.slice (some a) n c,.int .i64 p,.bool f] w λe w'=>e = .returned (.int .i64 (Jn none))/\Below w.heap.size w w':=by
 have V:=O (λw=>CJ x w hO.s hO.t);unfold ndV at V;obtain⟨d0,d1,d2,d3⟩:=hD;by_cases hs:zq x=true
 ·rw [hs] at V h;have h7:(x.op==7)= !f:=by
   have:(x.op==7)=decide (x.op=7):=rfl;rw [this];rcases hd:decide (x.op=7)<;> rcases f <;> simp_all
  clear h hs hO;cases f
  all_goals
   simp only [Bool.not_true,Bool.not_false] at h7;go_enter Tryz.func37,Tryz.ntmps37;go_wp2_with fail;refine(V.o _).mono ?_;rintro e w1 ⟨rfl,hb⟩;obtain⟨x0,x1,x2,x3⟩:=(PX w x 28).keep hb;have B:=O (zx hb);clear hb;go_wp2_with fail;go_ret;exact⟨rfl,B.o⟩
 ·rw [Bool.not_eq_true] at hs;rw [hs] at V;clear h hs hO;go_enter Tryz.func37,Tryz.ntmps37;go_wp2_with fail;refine(V.o _).mono ?_;rintro e w1 ⟨rfl,hb⟩;go_wp2_with fail;go_ret;exact⟨rfl,zx hb⟩
theorem zhv(a:Addr)(n c p:Nat)(x:Nd)(w:World)(hm:n<=maxLen)(hp:p<n)(hD:Nd4 w (a.add (p*4)) x)(hO:Kb x)(hs:zq x=true)(h5:(x.op==5)=false)(h6:(x.op==6)=false)(h7:(x.op==7)=false):
 Calls Tryz.prog 37 #[.slice (some a) n c,.int .i64 p,.bool false] w λe w'=>e = .returned (.int .i64 (Jn (some (p+1))))/\Below w.heap.size w w':=by
 unfold maxLen at hm;have V:=O (λw=>CJ x w hO.s hO.t);unfold ndV at V;obtain⟨d0,d1,d2,d3⟩:=hD;rw [hs] at V;have g5:(x.op != 5)=true:=by simp only [bne,h5];rfl
 have g6:(x.op != 6)=true:=by simp only [bne,h6];rfl
 clear hs hO;go_enter Tryz.func37,Tryz.ntmps37;go_wp2_with fail;refine(V.o _).mono ?_;rintro e w1 ⟨rfl,hb⟩;obtain⟨x0,x1,x2,x3⟩:=(PX w x 28).keep hb;have B:=O (zx hb);clear hb;go_wp2_with fail;go_ret;exact⟨rfl,B.o⟩
def znl(P:List Nd)(A:Option Addr)(n c:Nat)(m:Nat):Prop :=
 (∀(q:Nat) (w:World),jt w A P->n-q<m->Calls Tryz.prog 37 #[.slice A n c,.int .i64 q,.bool false] w λe w'=>e = .returned (.int .i64 (Jn (zl P m q)))/\Below w.heap.size w w')/\
 (∀(q:Nat) (w:World),jt w A P->n-q<=m->Calls Tryz.prog 37 #[.slice A n c,.int .i64 q,.bool true] w λe w'=>e = .returned (.int .i64 (Jn (vU P m q)))/\Below w.heap.size w w')
theorem zgO(a:Addr)(n c p:Nat)(x:Nd)(r:Option Nat)(w:World)(hm:n<=maxLen)(hp:p<n)(hD:Nd4 w (a.add (p*4)) x)(hO:Kb x)(hs:zq x=true)(h7:x.op=7)
 (C:Hid (∀w',Below w.heap.size w w'->Calls Tryz.prog 37 #[.slice (some a) n c,.int .i64 ((p:Int)+1),.bool false] w' λe w''=>e = .returned (.int .i64 (Jn r))/\Below w'.heap.size w' w'')):
 Calls Tryz.prog 37 #[.slice (some a) n c,.int .i64 p,.bool true] w λe w'=>e = .returned (.int .i64 (Jn r))/\Below w.heap.size w w':=by
 unfold maxLen at hm;have V:=O (λw=>CJ x w hO.s hO.t);unfold ndV at V;obtain⟨d0,d1,d2,d3⟩:=hD;rw [hs] at V;rw [h7] at V d0;have X:=O h7;clear hs hO h7;go_enter Tryz.func37,Tryz.ntmps37;go_wp2_with fail;refine(V.o _).mono ?_;rintro e w1 ⟨rfl,hb⟩;have D:=(PX w x 28)
 rw [X.o] at D;obtain⟨x0,x1,x2,x3⟩:=D.keep hb;rw [X.o] at x0;have B:=O (zx hb);clear hb D;go_wp2_with fail;refine(C.o _ B.o).mono ?_;rintro e w2 ⟨rfl,b2⟩;go_wp2_with fail;go_ret;exact⟨rfl,(bh B b2).o⟩
theorem zlo(a:Addr)(P:List Nd)(n c p m:Nat)(w:World)(hn:n=P.length)(hc:n<=c)(hm:n<=maxLen)(hp:p<n)(hP:jt w (some a) P)(hO:gh P)(hs:zq (P[p]'(by omega))=true)
 (h5:(P[p]'(by omega)).op=5) (ih:znl P (some a) n c m) (hfu:n-p<m+1):
 Calls Tryz.prog 37 #[.slice (some a) n c,.int .i64 p,.bool false] w λe w'=>e = .returned (.int .i64 (Jn (zY P (zl P m) (P[p]'(by omega)).n.toNat none (p+1))))/\Below w.heap.size w w':=by
 have HM:=O hm;unfold maxLen at hm;have HP:=O hP;have HN:=O hn;have HO:=O hO;have IH:=O ih;have Iy:p<P.length:=by omega
 obtain⟨b,hb0,D⟩:=hP.nd Iy;injection hb0 with hb0;subst hb0;have V:=O (λw=>CJ P[p] w (hO.at Iy).s (hO.at Iy).t);unfold ndV at V;obtain⟨d0,d1,d2,d3⟩:=D;obtain⟨-,-,-,hhi⟩:=hO.at Iy;rw [hs] at V;rw [h5] at V d0;have D0:=PX w P[p] 28;rw [h5] at D0;have X:=O h5;generalize P[p]=x at *;have hx0:0<=x.n:=by
  unfold zq at hs;rw [h5] at hs;simp at hs;exact hs.1.1
 clear hs hO h5 hP hn ih;go_enter Tryz.func37,Tryz.ntmps37;go_wp2_with fail;refine(V.o _).mono ?_;rintro e w1 ⟨rfl,hb⟩;have D1:=O (D0.keep hb);obtain⟨x0,x1,x2,x3⟩:=D1.o;rw [X.o] at x0;have B:=O (zx hb);clear hb D0;go_wp2_with fail;clear x0 x1 x2 x3 d0 d1 d2 d3;go_loopw [8,9,10,11] (λen la i _ wr=>∃(k q:Nat) (lo:Option Nat),en = .int .i64 q/\la = .int .i64 (Jn lo)/\i = .int .i64 k/\(k:Int)<=x.n/\Hid (∀l,lo=some l->l<q)/\q<=n/\p<q/\
  Hid (zY P (zl P m) x.n.toNat none (p+1)=zY P (zl P m) (x.n.toNat-k) lo q)/\Hid (Nd4 wr ⟨w.heap.size,0,none⟩ x)/\Hid (Below w.heap.size w wr)) (λ_ _ i _ _=>(x.n-intOf i).toNat)
 case atStart=>exact⟨0,p+1,none,by go_num,rfl,rfl,hx0,(by intro l hl;cases hl),by omega,by omega,rfl,D1.o,B.o⟩
 case round =>
  obtain⟨k,q,lo,rfl,rfl,rfl,hk,SV,hq,hpq,hE,hD,hB⟩:=hrel;obtain⟨x0,x1,x2,x3⟩:=hD.o;rw [X.o] at x0;by_cases hlt:(k:Int)<x.n
  ·have N:=O (HP.o.keep hB.o);have C:=O (IH.o.1 q wr N.o (by omega));rcases hf:zl P m q with _|e
   ·have HF:=O (hE.o.trans (Ql (by omega) hf));rw [hf] at C;simp only [Jn] at C;clear hf hE;go_wp2_with fail;refine(C.o).mono ?_;rintro e w2 ⟨rfl,b2⟩;go_wp2_with fail;go_ret;exact⟨jb (by rw [HF.o];rfl),(hB.o.trans (b2.mono hB.o.size))⟩
   ·have HF:=O hf;have hpe:=jN _ _ _ hf;rw [<-HN.o] at hpe;rw [hf] at C;simp only [Jn] at C;clear hf;rcases lo with _|l
    ·have HG:=O (hE.o.trans (Kf (by omega) HF.o rfl));clear hE SV;simp only [Jn];go_wp2_with fail;refine(C.o).mono ?_;rintro e w2 ⟨rfl,b2⟩;have B2:=O (hB.o.trans (b2.mono hB.o.size));have D2:=O (hD.o.keep b2);clear b2 x0 x1 x2 x3;go_wp2_with fail;refine wp_region_quiet_below (by kernel_rfl) (by kernel_rfl) ?_
     repeat (first|go_big_quiet_step (fail)|quiet_step (fail))
     refine wpQuiet_nil ?_;intro w3 hw';have B3:=O (show Below w2.heap.size w2 w3 by obtain⟨⟨d,os⟩,rfl⟩:=hw';exact below_regrown _ _ _);clear hw';go_wp2_with fail;refine wp_region_quiet_below (by kernel_rfl) (by kernel_rfl) ?_
     repeat (first|go_big_quiet_step (fail)|quiet_step (fail))
     refine wpQuiet_nil ?_;intro w4 hw';have B4:=O (show Below w3.heap.size w3 w4 by obtain⟨⟨d,os⟩,rfl⟩:=hw';exact below_regrown _ _ _);clear hw';go_wp2_with fail;go_roundw
     case rel=>exact⟨k+1,e,some q,rfl,rfl,by go_num,by omega,(by intro l hl;cases hl;exact hpe.1),by omega,by omega,HG,O ((D2.o.keep B3.o).keep B4.o),oz (oz B2 B3 (Nat.le_refl _)) B4 (Nat.le_refl _)⟩
     case measure=>simp [intOf];omega
    ·have hlq:=SV.o l rfl;clear SV;have sN:=λw2 (hb:Below wr.heap.size wr w2)=>Ot (some (a.add (l*4))) (some (a.add (q*4))) (q-l) (e-q) (c-l) (c-q) (seg P l q) (seg P q e) w2 (jL (by rw [<-HN.o];omega)).symm (jL (by rw [<-HN.o];omega)).symm (Nat.le_trans (by omega) HM.o) (Nat.le_trans (by omega) HM.o)
      ((N.o.keep hb).seg l q) ((N.o.keep hb).seg q e) (HO.o.seg l q) (HO.o.seg q e)
     have hr:Qc P (some l) q e=decide (zu (seg P l q) (seg P q e)<0):=rfl;generalize zu (seg P l q) (seg P q e)=v at *;have SN:=O sN;simp only [Jn];clear sN;by_cases hv:v<0
     ·have HG:=O (hE.o.trans (Kf (by omega) HF.o (by rw [hr];exact decide_eq_true hv)));clear hE hr;go_wp2_with fail;refine(C.o).mono ?_;rintro e w2 ⟨rfl,b2⟩;have B2:=O (hB.o.trans (b2.mono hB.o.size));have D2:=O (hD.o.keep b2);have k0:=cell_regrown D2.o.c0;rw [X.o] at k0;have s1:=rq (w:=w2) (λw' h=>SN.o w' (b2.trans (h.mono b2.size)));clear b2 x0 x1 x2 x3;go_wp2_with fail;refine wp_region_quiet_below (by kernel_rfl) (by kernel_rfl) ?_
      repeat (first|go_big_quiet_step (exact s1 _ _)|quiet_step (exact s1 _ _))
      refine wpQuiet_nil ?_;intro w3 hw';have B3:=O (show Below w2.heap.size w2 w3 by obtain⟨⟨d,os⟩,rfl⟩:=hw';exact below_regrown _ _ _);clear hw';clear k0 s1;have k0:=cell_regrown (D2.o.keep B3.o).c0;rw [X.o] at k0;go_wp2_with fail;refine wp_region_quiet_below (by kernel_rfl) (by kernel_rfl) ?_
      repeat (first|go_big_quiet_step (fail)|quiet_step (fail))
      refine wpQuiet_nil ?_;intro w4 hw';have B4:=O (show Below w3.heap.size w3 w4 by obtain⟨⟨d,os⟩,rfl⟩:=hw';exact below_regrown _ _ _);clear hw';go_wp2_with fail;go_roundw
      case rel=>exact⟨k+1,e,some q,rfl,rfl,by go_num,by omega,(by intro l hl;cases hl;exact hpe.1),by omega,by omega,HG,O ((D2.o.keep B3.o).keep B4.o),oz (oz B2 B3 (Nat.le_refl _)) B4 (Nat.le_refl _)⟩
      case measure=>simp [intOf];omega
     ·have HG:=O (hE.o.trans (P7 (by omega) HF.o (by rw [hr];exact decide_eq_false hv)));clear hE hr;go_wp2_with fail;refine(C.o).mono ?_;rintro e w2 ⟨rfl,b2⟩;have B2:=O (hB.o.trans (b2.mono hB.o.size));have D2:=O (hD.o.keep b2);have k0:=cell_regrown D2.o.c0;rw [X.o] at k0;have s1:=rq (w:=w2) (λw' h=>SN.o w' (b2.trans (h.mono b2.size)));clear b2 x0 x1 x2 x3;go_wp2_with fail;refine wp_region_quiet_below (by kernel_rfl) (by kernel_rfl) ?_
      repeat (first|go_big_quiet_step (exact s1 _ _)|quiet_step (exact s1 _ _))
      refine wpQuiet_nil ?_;intro w3 hw';have B3:=O (show Below w2.heap.size w2 w3 by obtain⟨⟨d,os⟩,rfl⟩:=hw';exact below_regrown _ _ _);clear hw';clear k0 s1;go_wp2_with fail;go_ret;exact⟨jb (by rw [HG.o];rfl),(oz B2 B3 (Nat.le_refl _)).o⟩
  ·have HG:=O (hE.o.trans (by rw [show x.n.toNat-k=0 by omega];rfl:_=some q));clear hE SV;go_wp2_with fail;go_ret;exact⟨jb (by rw [HG.o];rfl),hB.o⟩
theorem zlL(a:Addr)(P:List Nd)(n c p m:Nat)(w:World)(hn:n=P.length)(_hc:n<=c)(hm:n<=maxLen)(hp:p<n)(hP:jt w (some a) P)(hO:gh P)(hs:zq (P[p]'(by omega))=true)
 (h5:(P[p]'(by omega)).op=6) (ih:znl P (some a) n c m) (hfu:n-p<m+1):
 Calls Tryz.prog 37 #[.slice (some a) n c,.int .i64 p,.bool false] w λe w'=>e = .returned (.int .i64 (Jn (zV P (zl P m) (P[p]'(by omega)).n.toNat .empty (p+1))))/\Below w.heap.size w w':=by
 have HM:=O hm;unfold maxLen at hm;have HP:=O hP;have HN:=O hn;have HO:=O hO;have IH:=O ih;have Iy:p<P.length:=by omega
 obtain⟨b,hb0,D⟩:=hP.nd Iy;injection hb0 with hb0;subst hb0;have V:=O (λw=>CJ P[p] w (hO.at Iy).s (hO.at Iy).t);unfold ndV at V;obtain⟨d0,d1,d2,d3⟩:=D;obtain⟨-,-,-,hhi⟩:=hO.at Iy;rw [hs] at V;rw [h5] at V d0;have D0:=PX w P[p] 28;rw [h5] at D0;have X:=O h5;generalize P[p]=x at *;have hx0:0<=x.n:=by
  unfold zq at hs;rw [h5] at hs;simp at hs;exact hs.1.1
 clear hs hO h5 hP hn ih;go_enter Tryz.func37,Tryz.ntmps37;go_wp2_with fail;refine(V.o _).mono ?_;rintro e w1 ⟨rfl,hb⟩;have D1:=O (D0.keep hb);obtain⟨x0,x1,x2,x3⟩:=D1.o;rw [X.o] at x0;have B:=O (zx hb);clear hb D0;go_wp2_with fail;clear x0 x1 x2 x3 d0 d1 d2 d3;go_loopw [8,9,10,11] (λen la i _ wr=>∃(k q:Nat) (lo:Option Nat) (ls:ByteArray),en = .int .i64 q/\la = .int .i64 (Jn lo)/\i = .int .i64 k/\(k:Int)<=x.n/\Hid ((lo=none/\ls = .empty)\/∃(l:Nat) (h:l<P.length),lo=some l/\P[l].s=ls)/\q<=n/\p<q/\
  Hid (zV P (zl P m) x.n.toNat .empty (p+1)=zV P (zl P m) (x.n.toNat-k) ls q)/\Hid (Nd4 wr ⟨w.heap.size,0,none⟩ x)/\Hid (Below w.heap.size w wr)) (λ_ _ i _ _=>(x.n-intOf i).toNat)
 case atStart=>exact⟨0,p+1,none,.empty,by go_num,rfl,rfl,hx0,.inl ⟨rfl,rfl⟩,by omega,by omega,rfl,D1.o,B.o⟩
 case round =>
  obtain⟨k,q,lo,ls,rfl,rfl,rfl,hk,SV,hq,hpq,hE,hD,hB⟩:=hrel;obtain⟨x0,x1,x2,x3⟩:=hD.o;rw [X.o] at x0;by_cases hlt:(k:Int)<x.n
  ·have N:=O (HP.o.keep hB.o);have C:=O (IH.o.2 q wr N.o (by omega));rcases hf:vU P m q with _|e
   ·have HF:=O (hE.o.trans (Zf (by omega) hf));rw [hf] at C;simp only [Jn] at C;clear hf hE;go_wp2_with fail;refine(C.o).mono ?_;rintro e w2 ⟨rfl,b2⟩;go_wp2_with fail;go_ret;exact⟨jb (by rw [HF.o];rfl),(hB.o.trans (b2.mono hB.o.size))⟩
   ·obtain⟨hq',f7,fs,fe⟩:=VZ hf;have hpe:=jN _ _ _ fe;rw [<-HN.o] at hpe;rw [hf] at C;simp only [Jn] at C;have FP:=O (zf2 f7 fs);have HY:=O (show∀s0,jh s0 P[q].s<0->bJ P s0 q=some P[q].s from λs0 h=>RU hq' (by rw [f7,fs,decide_eq_true h];rfl));have HZ:=O (show∀s0,¬jh s0 P[q].s<0->bJ P s0 q=none from λs0 h=>Pg hq' (by rw [decide_eq_false h];simp));have FE:=O fe;have HQ:=O hq';have hqn:q<n:=by omega
    clear hf f7 fs fe;rcases SV.o with ⟨rfl,rfl⟩|⟨l,hl,rfl,rfl⟩
    ·have HG:=O (hE.o.trans (Nf (by omega) (HY.o _ FP.o) FE.o));clear hE SV;simp only [Jn];go_wp2_with fail;refine(C.o).mono ?_;rintro e w2 ⟨rfl,b2⟩;have B2:=O (hB.o.trans (b2.mono hB.o.size));have D2:=O (hD.o.keep b2);clear b2 x0 x1 x2 x3;go_wp2_with fail;refine wp_region_quiet_below (by kernel_rfl) (by kernel_rfl) ?_
     repeat (first|go_big_quiet_step (fail)|quiet_step (fail))
     refine wpQuiet_nil ?_;intro w3 hw';have B3:=O (show Below w2.heap.size w2 w3 by obtain⟨⟨d,os⟩,rfl⟩:=hw';exact below_regrown _ _ _);clear hw';go_wp2_with fail;refine wp_region_quiet_below (by kernel_rfl) (by kernel_rfl) ?_
     repeat (first|go_big_quiet_step (fail)|quiet_step (fail))
     refine wpQuiet_nil ?_;intro w4 hw';have B4:=O (show Below w3.heap.size w3 w4 by obtain⟨⟨d,os⟩,rfl⟩:=hw';exact below_regrown _ _ _);clear hw';go_wp2_with fail;go_roundw
     case rel=>exact⟨k+1,e,some q,_,rfl,rfl,by go_num,by omega,.inr ⟨q,HQ.o,rfl,rfl⟩,by omega,by omega,HG,O ((D2.o.keep B3.o).keep B4.o),oz (oz B2 B3 (Nat.le_refl _)) B4 (Nat.le_refl _)⟩
     case measure=>simp [intOf];omega
    ·have sN:=O (λw2=>Mj P[l].s P[q].s w2 (HO.o.at hl).s (HO.o.at hq').s);have hln:l<n:=by rw [HN.o];exact hl
     have E1:=O (show∀w2,Below wr.heap.size wr w2->Nd4 w2 (a.add (l*4)) P[l] from λw2 hb=>by
      obtain⟨a',e',h⟩:=(N.o.keep hb).nd hl;cases e';exact h)
     have E2:=O (show∀w2,Below wr.heap.size wr w2->Nd4 w2 (a.add (q*4)) P[q] from λw2 hb=>by
      obtain⟨a',e',h⟩:=(N.o.keep hb).nd hq';cases e';exact h)
     have hkN:k<x.n.toNat:=by omega
     have zog:=O (λh:jh P[l].s P[q].s<0=>hE.o.trans (Nf hkN (HY.o _ h) FE.o));have hno:=O (λh:¬jh P[l].s P[q].s<0=>hE.o.trans (Gq (f:=zl P m) hkN (HZ.o P[l].s h)));have HQQ:=O (show∃h:q<P.length,P[q].s=P[q].s from⟨HQ.o,rfl⟩);generalize hyl:P[l]=y at *;generalize hzl:P[q]=z at *;have HZL:=O hzl;generalize jh y.s z.s=v at *;clear hE SV hyl hzl HY HZ FP;simp only [Jn];by_cases hv:v<0
     ·have HG:=O (zog.o hv);clear zog hno;go_wp2_with fail;refine(C.o).mono ?_;rintro e w2 ⟨rfl,b2⟩;have B2:=O (hB.o.trans (b2.mono hB.o.size));have D2:=O (hD.o.keep b2);have b2':=O b2;have k0:=cell_regrown D2.o.c0;rw [X.o] at k0;clear b2 x0 x1 x2 x3;go_wp2_with fail;refine wp_region_quiet_below (by kernel_rfl) (by kernel_rfl) ?_
      repeat (first|go_big_quiet_step (fail)|quiet_step (fail))
      refine wpQuiet_nil ?_;intro w3 hw';have B3:=O (show Below w2.heap.size w2 w3 by obtain⟨⟨d,os⟩,rfl⟩:=hw';exact below_regrown _ _ _);clear hw';clear k0;have k0:=cell_regrown (D2.o.keep B3.o).c0;rw [X.o] at k0;have b3':=bh b2' B3.o;have k1:=cell_regrown (E1.o _ b3'.o).c2;have k2:=cell_regrown (E2.o _ b3'.o).c2;have s1:=rq (w:=w3) (λw' _=>sN.o w');go_wp2_with fail;refine wp_region_quiet_below (by kernel_rfl) (by kernel_rfl) ?_
      repeat (first|go_big_quiet_step (exact s1 _ _)|quiet_step (exact s1 _ _))
      refine wpQuiet_nil ?_;intro w4 hw';have B4:=O (show Below w3.heap.size w3 w4 by obtain⟨⟨d,os⟩,rfl⟩:=hw';exact below_regrown _ _ _);clear hw';clear k0 k1 k2 s1;go_wp2_with fail;go_roundw
      case rel=>exact⟨k+1,e,some q,_,rfl,rfl,by go_num,by omega,.inr ⟨q,HQ.o,rfl,congrArg Nd.s HZL.o⟩,by omega,by omega,HG,O ((D2.o.keep B3.o).keep B4.o),oz (oz B2 B3 (Nat.le_refl _)) B4 (Nat.le_refl _)⟩
      case measure=>simp [intOf];omega
     ·have HG:=O (hno.o hv);clear zog hno;go_wp2_with fail;refine(C.o).mono ?_;rintro e w2 ⟨rfl,b2⟩;have B2:=O (hB.o.trans (b2.mono hB.o.size));have D2:=O (hD.o.keep b2);have b2':=O b2;have k0:=cell_regrown D2.o.c0;rw [X.o] at k0;clear b2 x0 x1 x2 x3;go_wp2_with fail;refine wp_region_quiet_below (by kernel_rfl) (by kernel_rfl) ?_
      repeat (first|go_big_quiet_step (fail)|quiet_step (fail))
      refine wpQuiet_nil ?_;intro w3 hw';have B3:=O (show Below w2.heap.size w2 w3 by obtain⟨⟨d,os⟩,rfl⟩:=hw';exact below_regrown _ _ _);clear hw';clear k0;have k0:=cell_regrown (D2.o.keep B3.o).c0;rw [X.o] at k0;have b3':=bh b2' B3.o;have k1:=cell_regrown (E1.o _ b3'.o).c2;have k2:=cell_regrown (E2.o _ b3'.o).c2;have s1:=rq (w:=w3) (λw' _=>sN.o w');go_wp2_with fail;refine wp_region_quiet_below (by kernel_rfl) (by kernel_rfl) ?_
      repeat (first|go_big_quiet_step (exact s1 _ _)|quiet_step (exact s1 _ _))
      refine wpQuiet_nil ?_;intro w4 hw';have B4:=O (show Below w3.heap.size w3 w4 by obtain⟨⟨d,os⟩,rfl⟩:=hw';exact below_regrown _ _ _);clear hw';clear k0 k1 k2 s1;go_wp2_with fail;go_ret;exact⟨jb (by rw [HG.o];rfl),(oz (oz B2 B3 (Nat.le_refl _)) B4 (Nat.le_refl _)).o⟩
  ·have HG:=O (hE.o.trans (by rw [show x.n.toNat-k=0 by omega];rfl:_=some q));clear hE SV;go_wp2_with fail;go_ret;exact⟨jb (by rw [HG.o];rfl),hB.o⟩
end Go.Proofs.YtokiogmfgpidmaaGreatDoor
