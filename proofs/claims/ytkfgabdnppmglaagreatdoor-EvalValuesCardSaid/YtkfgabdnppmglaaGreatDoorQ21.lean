/-
  slices.SortFunc over slices of nodes by val.order. Plain: a list of values without what is as the one before it. slices.CompactFunc over slices of nodes, with ..
-/
import Derived.Shelf.SlSortCmp.NoneTotal
import Derived.Test.YtkfgabdnppmglaaGreatDoorQ1
import Derived.Test.YtkfgabdnppmglaaGreatDoorQ2
import Derived.Test.YtkfgabdnppmglaaGreatDoorQ18
import Derived.Test.YtkfgabdnppmglaaGreatDoorQ19
import Derived.Test.YtkfgabdnppmglaaGreatDoorQ20
set_option maxRecDepth 100000
set_option maxHeartbeats 8000000
namespace Go.Proofs.YtkfgabdnppmglaaGreatDoor
open Go.RowKit Go.Wk Go.Sort Go.Shelf
section
variable {α:Type} [Inhabited α] {enc:α→Value}
theorem zr0{w:World}{g n:Nat}{os:Array Obj}{cur:Array Value}{e:TypeId}{fr:Nat × Nat}(d:Array α)(hb:w.heap[g]?=some (.cells cur e fr)):
 (sortWorld enc w g 0 n d os).heap[g]?=some (.cells (putCells enc 0 d cur) e fr):=by
 have hg:g<w.heap.size:=(Array.getElem?_eq_some_iff.1 hb).1;unfold sortWorld;rw [heap_grow_old _ _ (by simpa using hg)];simp [putRow,mapBlock,Sort.ahead,Array.getElem?_modify,hb,onCells]
theorem zee{w:World}{g n:Nat}{os:Array Obj}(d:Array α):w.grownBy (sortWorld enc w g 0 n d os) (some g):=by
 unfold sortWorld;refine⟨rfl,rfl,rfl,by simp,fun k hk hne=>?_⟩;rw [heap_grow_old _ _ (by simpa using hk)];have:g≠k:=fun e=>hne (by rw [e]);simp [putRow,mapBlock,Sort.ahead,Array.getElem?_modify,this]
theorem zrK(cur:Array Value)(ts:List α)(h:ts.length≤cur.size):(putCells enc 0 ts.toArray cur).toList.take ts.length=ts.map enc:=by
 apply List.ext_getElem?;intro j;by_cases hj:j<ts.length
 ·rw [List.getElem?_take_of_lt hj,Array.getElem?_toList];simp [putCells,hj,show j<cur.size by omega]
 ·rw [List.getElem?_take_eq_none (by omega),List.getElem?_eq_none (by simp;omega)]
theorem zpL{w:World}{g:Nat}{cur:Array Value}{e:TypeId}{ts:List α}(hb:w.heap[g]?=some (.cells cur e (0,0)))(ht:cur.toList.take ts.length=ts.map enc):Holds enc w g 0 ts.toArray:=by
 intro j hj;have hj':j<ts.length:=by simpa using hj
 refine⟨?_,by simp [World.frozen?,hb]⟩;have h1:(cur.toList.take ts.length)[j]?=(ts.map enc)[j]?:=by rw [ht]
 rw [List.getElem?_take_of_lt hj'] at h1;simp only [World.cell?,hb,Nat.zero_add];simp only [Option.isSome_none,Bool.false_eq_true,if_false];rw [←Array.getElem?_toList,h1];simp [hj']
end
abbrev zh2 (w:World) (g:Nat):Type := { r:Sl // Ns w r.A r.n r.c r.P∧zaC r (some g)}
instance (w:World) (g:Nat):Inhabited (zh2 w g):=⟨⟨⟨none,0,0,[]⟩,⟨rfl,Nat.le_refl _,Nat.zero_le _,fun k x hx=>by simp at hx,fun x hx=>by cases hx⟩,fun h=>by simp at h⟩⟩
def znn(w:World)(g:Nat)(x:zh2 w g):Value:=x.1.v
def gCf(w:World)(g:Nat)(x y:zh2 w g):Int:=zu x.1.P y.1.P
theorem zvb(w:World)(g:Nat):SWO (ltOf (gCf w g)) where
 irrefl x:=by unfold ltOf gCf;rw [zV.self];rfl
 trans x y z h1 h2:=by
  unfold ltOf gCf at *;simp only [decide_eq_true_eq] at *;exact zV.lt_le h1 (by omega)
 ntrans x y z h1 h2:=by
  unfold ltOf gCf at *;simp only [decide_eq_false_iff_not] at *;have a1:=zV.anti x.1.P y.1.P;have a2:=zV.anti y.1.P z.1.P;have a3:=zV.anti x.1.P z.1.P;have:=zV.trans z.1.P y.1.P x.1.P (by omega) (by omega);omega
theorem zjF{w:World}{r s:Sl}(h:Ns w r.A r.n r.c r.P)(k:Ns w s.A s.n s.c s.P):
 Calls Tryz.prog 116 #[r.v,s.v] w fun e w'=>e = .returned (.int .i64 (zu r.P s.P))∧zfQ w w' :=
 znJ r.A s.A r.n s.n r.c s.c r.P s.P w h.len k.len h.max k.max h.at_ k.at_
theorem zve(w:World)(g size:Nat):CmpLays1 Tryz.prog 116 #[] (znn w g) (gCf w g) g 0 size w:=by
 intro m os dk _ x y;have n1:=Ns.row (r:=x.1) x.2.1 (zee (enc:=znn w g) (n:=m) (os:=os) dk) x.2.2;have n2:=Ns.row (r:=y.1) y.2.1 (zee (enc:=znn w g) (n:=m) (os:=os) dk) y.2.2;exact(zjF n1 n2).mono fun e w' ⟨h1,h2⟩=>⟨h1,h2.grow⟩
theorem zqC{β:Type}{p:β→Prop}(V:List β)(h:∀r∈V,p r):∃L:List { r:β // p r },L.map (fun x=>x.1)=V:=by
 induction V with
 | nil=>exact⟨[],rfl⟩
 | cons r V ih =>
  obtain⟨L,hL⟩:=ih (fun x hx=>h x (by simp [hx]))
  exact⟨⟨r,h r (by simp)⟩:: L,by simp [hL]⟩
def zlN(V:List Sl):Prop:=∀i j (hij:i<j) (hj:j<V.length),zu (V[i]'(by omega)).P V[j].P≤0
theorem zrd(w:World)(B g cap:Nat)(V:List Sl)(h:zT w B (.slice (some ⟨g,0,none⟩) V.length cap) V)(hs:V.length≤5864062014634):
 Calls Tryz.prog 149 #[.slice (some ⟨g,0,none⟩) V.length cap,.func (.func 116) #[] #[]] w fun e w' =>
  e = .returned (.tuple #[])∧∃V':List Sl,V'.Perm V∧zlN V'∧zT w' B (.slice (some ⟨g,0,none⟩) V.length cap) V'∧w.grownBy w' (some g):=by
 have hgood:∀r∈V,Ns w r.A r.n r.c r.P∧zaC r (some g):=fun r hr=>⟨h.each r hr,h.apart r hr⟩
 obtain⟨L,hL⟩:∃L:List (zh2 w g),L.map (fun x=>x.1)=V:=zqC V hgood;have hLl:L.length=V.length:=by rw [←hL];simp
 rcases h.own.2 with ⟨e0,-⟩|⟨g',cap',cur,e0,hBg,hh,h1,h2,h3,h4⟩
 ·cases e0
 injection e0 with e1 _ e2;injection e1 with e1;injection e1 with e1;subst e1 e2;have hEnc:L.map (znn w g)=V.map Sl.v:=by rw [←hL,List.map_map];rfl
 have hH:Holds (znn w g) w g 0 L.toArray:=zpL hh (by rw [hEnc,hLl];simpa using h4);have eg:∀args w,(callFunc 116 args).run Tryz.prog w = .ok (.enter 116 args) w:=enters_of Tryz.func116 (by kernel_rfl) rfl;have hcon:=Any.slices_SortFunc Tryz.sortF (znn w g) (fun _=>rfl) (gCf w g) (zvb w g) 116 #[] g 0 cap L.toArray w eg (zve w g _) hH (Array.getElem?_eq_some_iff.1 hh).1 (by simp;omega);change Calls Tryz.prog 149 _ _ _ at hcon;have hsz:L.toArray.size=V.length:=by simp [hLl]
 rw [hsz] at hcon;refine hcon.mono ?_;rintro e w' ⟨he,d',n,os,hp,hso,rfl⟩;refine⟨he,d'.toList.map (fun x=>x.1),?_,?_,?_,zee d'⟩
 ·obtain⟨q1,-,q3⟩:=hp;have a1:(d'.extract 0 V.length).toList=d'.toList:=by
   rw [Array.toList_extract];simp only [List.extract,Nat.sub_zero,List.drop_zero];exact List.take_of_length_le (by simp;omega)
  have a2:(L.toArray.extract 0 V.length).toList=L:=by
   rw [Array.toList_extract];simp [List.extract,←hLl]
  rw [a1,a2] at q3;have:=q3.map (fun x:zh2 w g=>x.1);rw [hL] at this;exact this
 ·intro i j hij hj;have hj':j<d'.size:=by simpa using hj
  have hd:d'.size=V.length:=hp.1.trans hsz;have:=hso i j (Nat.zero_le _) hij (by omega);unfold ltOf gCf at this;simp only [decide_eq_false_iff_not] at this;have b1:=zV.anti (d'[j]!).1.P (d'[i]!).1.P;have g1:(d'.toList.map (fun x=>x.1))[i]'(by simp;omega)=(d'[i]!).1:=by simp [show i<d'.size by omega]
  have g2:(d'.toList.map (fun x=>x.1))[j]=(d'[j]!).1:=by simp [hj']
  rw [g1,g2];omega
 ·have hd:d'.size=V.length:=hp.1.trans hsz;have hdl:d'.toList.length=V.length:=by simpa using hd
  refine⟨⟨by simp [hd],.inr ⟨g,cap,_,by simp [hd],hBg,zr0 d' hh,by simpa [hd] using h1,h2,by simp [putCells,h3],?_⟩⟩,?_,?_⟩
  ·have:=zrK (enc:=znn w g) cur d'.toList (by rw [h3];omega);rw [hdl] at this;simp only [List.length_map,hdl,Nat.mul_one];rw [show d'.toList.toArray=d' from by simp] at this;rw [this,List.map_map];rfl
  ·intro r hr;obtain⟨x,hx,rfl⟩:=List.mem_map.1 hr;exact Ns.row (r:=x.1) x.2.1 (zee d') x.2.2
  ·intro r hr;obtain⟨x,hx,rfl⟩:=List.mem_map.1 hr;exact x.2.2
theorem zpK(w:World)(p:Option Addr)(cap:Nat)(fv:Value):
 Calls Tryz.prog 149 #[.slice p 0 cap,fv] w fun e w'=>e = .returned (.tuple #[])∧w'=w :=
 AnyF.slices_SortFunc_none (ρ:=Tryz.sortF_ren) { Tryz.sortF with } p cap fv w
end Go.Proofs.YtkfgabdnppmglaaGreatDoor
namespace Go.Proofs.YtkfgabdnppmglaaGreatDoor
open Go.RowKit Go.Wk Go.Sort
def goL(p:Sl):List Sl→List Sl
 | [] => []
 | b :: r=>if zu b.P p.P=0 then goL b r else b :: goL b r
def jo:List Sl→List Sl
 | [] => []
 | a :: r=>a :: goL a r
theorem zrR{V:List Sl}{p:Sl}{k:Nat}(h:k<V.length)(he:zu V[k].P p.P=0):goL p (V.drop k)=goL V[k] (V.drop (k+1)):=by
 rw [List.drop_eq_getElem_cons h];simp only [goL,he,if_true]
theorem zsu{V:List Sl}{p:Sl}{k:Nat}(h:k<V.length)(he:zu V[k].P p.P≠0):goL p (V.drop k)=V[k] :: goL V[k] (V.drop (k+1)):=by
 rw [List.drop_eq_getElem_cons h];simp only [goL,he,if_false]
theorem zoM{V:List Sl}{p:Sl}{k:Nat}(h:V.length≤k):goL p (V.drop k)= []:=by
 rw [List.drop_of_length_le h];rfl
theorem zjr{V:List Sl}(h:0<V.length):jo V=V.take 1 ++ goL V[0] (V.drop 1):=by
 rcases V with _|⟨a,r⟩
 ·simp at h
 ·rfl
theorem zjy{V:List Sl}(h:V.length<2):jo V=V:=by
 rcases V with _|⟨a,_|⟨b,r⟩⟩
 ·rfl
 ·rfl
 ·simp at h;omega
theorem zs7(r:List Sl):∀p x,x∈goL p r→x∈r:=by
 induction r with
 | nil=>intro p x h;cases h
 | cons b r ih =>
  intro p x h
  simp only [goL] at h
  split at h
  ·exact List.mem_cons_of_mem _ (ih _ _ h)
  ·rcases List.mem_cons.1 h with rfl|h
   ·simp
   ·exact List.mem_cons_of_mem _ (ih _ _ h)
theorem zgs{V:List Sl}{x:Sl}(h:x∈jo V):x∈V:=by
 rcases V with _|⟨a,r⟩
 ·cases h
 ·rcases List.mem_cons.1 h with rfl|h
  ·simp
  ·exact List.mem_cons_of_mem _ (zs7 _ _ _ h)
theorem ztO(r:List Sl):∀p,(goL p r).length≤r.length:=by
 induction r with
 | nil=>intro p;simp [goL]
 | cons b r ih =>
  intro p
  simp only [goL]
  split
  ·have:=ih b;simp;omega
  ·have:=ih b;simp;omega
theorem zna(V:List Sl):(jo V).length≤V.length:=by
 rcases V with _|⟨a,r⟩
 ·simp [jo]
 ·have:=ztO r a;simp [jo];omega
theorem zum(r:List Sl):∀p:Sl,(p :: r).Pairwise (fun a b=>zu a.P b.P≤0)→Up (p.P ::(goL p r).map Sl.P)∧∀x∈r,x.P∈p.P ::(goL p r).map Sl.P:=by
 induction r with
 | nil=>intro p _;exact⟨trivial,fun x hx=>by cases hx⟩
 | cons b r ih =>
  intro p h
  obtain⟨h1,h2⟩:=List.pairwise_cons.1 h
  obtain⟨i1,i2⟩:=ih b h2
  have hle:=h1 b (by simp)
  have ha:=zV.anti p.P b.P
  simp only [goL]
  split
  ·rename_i h0
   have e:=(zV.zero b.P p.P).1 h0;rw [e] at i1 i2;refine⟨i1,fun x hx=>?_⟩;rcases List.mem_cons.1 hx with rfl|hx
   ·rw [e];simp
   ·exact i2 x hx
  ·rename_i h0
   refine⟨⟨by omega,i1⟩,fun x hx=>?_⟩;rcases List.mem_cons.1 hx with rfl|hx
   ·simp
   ·exact List.mem_cons_of_mem _ (i2 x hx)
theorem zlt{V:List Sl}(h:V.Pairwise (fun a b=>zu a.P b.P≤0)):(jo V).map Sl.P=jU (V.map Sl.P):=by
 rcases V with _|⟨a,r⟩
 ·rfl
 obtain⟨h1,h2⟩:=zum r a h;refine(zo1 h1 fun x=>⟨fun hx=>?_,fun hx=>?_⟩).symm
 ·obtain⟨y,hy,rfl⟩:∃y∈jo (a :: r),y.P=x:=List.mem_map.1 hx;exact List.mem_map_of_mem (zgs hy)
 ·obtain⟨y,hy,rfl⟩:=List.mem_map.1 hx;rcases List.mem_cons.1 hy with rfl|hy
  ·simp
  ·exact h2 y hy
theorem zq5(r s:Sl)(w:World)(h:Ns w r.A r.n r.c r.P)(k:Ns w s.A s.n s.c s.P):
 Calls Tryz.prog 151 #[r.v,s.v] w fun e w'=>e = .returned (.bool (zu r.P s.P==0))∧Below w.heap.size w w':=by
 have HC:=hi9 (zjF h k);clear h k;unfold Sl.v at HC ⊢;go_enter Tryz.func151,Tryz.ntmps151;go_wp2_with fail;refine HC.out.mono ?_;rintro e w1 ⟨rfl,hb⟩;have HB:=hi9 hb.b;clear hb HC;go_wp2_with fail;go_ret;exact⟨rfl,HB.out⟩
def zbo(w:World)(g cap:Nat)(V Y:List Sl)(m:Nat):Prop :=
 ∃cur,w.heap[g]?=some (.cells cur 25 (0,0))∧cur.size=cap∧(∀j (h:j<Y.length),cur[j]?=some Y[j].v)∧∀j (h:j<V.length),m≤j→cur[j]?=some V[j].v
theorem zbo.keep{w w':World}{g cap m:Nat}{V Y:List Sl}(h:zbo w g cap V Y m)(hb:Below w.heap.size w w'):zbo w' g cap V Y m:=by
 obtain⟨cur,h1,h2⟩:=h;exact⟨cur,by rw [(zh hb none).block g (Array.getElem?_eq_some_iff.1 h1).1 (by simp)];exact h1,h2⟩
theorem zbo.cell{w:World}{g cap m:Nat}{V Y:List Sl}(h:zbo w g cap V Y m){j:Nat}(hj:j<V.length)(hm:m≤j):w.cell? ⟨g,j,none⟩=some V[j].v∧w.frozen? ⟨g,j,none⟩=false:=by
 obtain⟨cur,h1,-,-,h4⟩:=h;exact⟨by simp [World.cell?,h1,h4 j hj hm],by simp [World.frozen?,h1]⟩
theorem zbo.skip{w:World}{g cap m:Nat}{V Y:List Sl}(h:zbo w g cap V Y m):zbo w g cap V Y (m+1):=by
 obtain⟨cur,h1,h2,h3,h4⟩:=h;exact⟨cur,h1,h2,h3,fun j hj hm=>h4 j hj (by omega)⟩
theorem zbo.put{w:World}{g cap m:Nat}{V Y:List Sl}(h:zbo w g cap V Y m)(r:Sl)(hY:Y.length≤m)(hc:Y.length<cap):zbo (w.setCell ⟨g,Y.length,none⟩ r.v) g cap V (Y ++ [r]) (m+1):=by
 obtain⟨cur,h1,h2,h3,h4⟩:=h;refine⟨cur.setIfInBounds Y.length r.v,?_,by simpa using h2,fun j hj=>?_,fun j hj hm=>?_⟩
 ·rw [setCell_eq];simp [mapBlock,Array.getElem?_modify,h1,onCells]
 ·by_cases e:j=Y.length
  ·subst e;simp [show Y.length<cur.size by omega]
  ·have:j<Y.length:=by simp at hj;omega
   rw [Array.getElem?_setIfInBounds_ne (by omega),h3 j this];simp [List.getElem_append_left this]
 ·rw [Array.getElem?_setIfInBounds_ne (by omega)];exact h4 j hj (by omega)
theorem zbo.clear{g cap:Nat}{Y:List Sl}:∀(vs:List Value) (o:Nat) (w:World),zbo w g cap [] Y 0→Y.length≤o→zbo (w.setCells g o vs) g cap [] Y 0
 | [],_,_,h,_=>h
 | v :: r,o,w,h,ho=>by
  refine zbo.clear r (o+1) _ ?_ (by omega);obtain⟨cur,h1,h2,h3,-⟩:=h;refine⟨cur.setIfInBounds o v,?_,by simpa using h2,fun j hj=>?_,fun j hj=>by simp at hj⟩
  ·rw [setCell_eq];simp [mapBlock,Array.getElem?_modify,h1,onCells]
  ·rw [Array.getElem?_setIfInBounds_ne (by omega)];exact h3 j hj
theorem zjI(w:World)(g o:Nat)(v:Value):w.grownBy (w.setCell ⟨g,o,none⟩ v) (some g):=by
 rw [setCell_eq];refine⟨rfl,rfl,rfl,by simp [mapBlock],fun k hk hne=>?_⟩;have:g≠k:=fun e=>hne (by rw [e]);simp [mapBlock,Array.getElem?_modify,this]
theorem zh4(g:Nat):∀(vs:List Value) (o:Nat) (w:World),w.grownBy (w.setCells g o vs) (some g)
 | [],_,w=>World.grownBy.refl w _
 | v :: r,o,w=>(zjI w g o v).trans (zh4 g r (o+1) _)
theorem zbo.own{w w':World}{B g cap m n:Nat}{V Y U:List Sl}(h:zT w B (.slice (some ⟨g,0,none⟩) n cap) V)(hc:zbo w' g cap U Y m)(hg:w.grownBy w' (some g))(hY:∀x∈Y,x∈V)(hl:Y.length≤n):zT w' B (.slice (some ⟨g,0,none⟩) Y.length cap) Y:=by
 obtain⟨cur,c1,c2,c3,-⟩:=hc;rcases h.own.2 with ⟨e0,-⟩|⟨g',cap',cur',e0,hBg,hh,h1,h2,h3,h4⟩
 ·cases e0
 injection e0 with e1 _ e2;injection e1 with e1;injection e1 with e1;subst e1 e2;refine⟨⟨by simp,.inr ⟨g,cap,cur,rfl,hBg,c1,by have:=h.own.1;omega,h2,by simpa using c2,?_⟩⟩,fun r hr=>(h.each r (hY r hr)).row hg (h.apart r (hY r hr)),fun r hr=>h.apart r (hY r hr)⟩;apply List.ext_getElem?;intro j;by_cases hj:j<Y.length
 ·rw [List.getElem?_take_of_lt (by omega),Array.getElem?_toList,c3 j hj];simp [hj]
 ·rw [List.getElem?_take_eq_none (by omega),List.getElem?_eq_none (by simp;omega)]
theorem zo9{w:World}{B g cap:Nat}{V:List Sl}(h:zT w B (.slice (some ⟨g,0,none⟩) V.length cap) V):zbo w g cap V [] 0∧V.length≤cap:=by
 rcases h.own.2 with ⟨e0,-⟩|⟨g',cap',cur,e0,hBg,hh,h1,h2,h3,h4⟩
 ·cases e0
 injection e0 with e1 _ e2;injection e1 with e1;injection e1 with e1;subst e1 e2;refine⟨⟨cur,hh,by simpa using h3,fun j hj=>by simp at hj,fun j hj _=>?_⟩,h1⟩;have e:(cur.toList.take (V.length*1))[j]?=(V.map Sl.v)[j]?:=by rw [h4]
 rw [List.getElem?_take_of_lt (by omega),Array.getElem?_toList] at e;rw [e];simp [hj]
theorem zbo.take{w:World}{g cap:Nat}{V:List Sl}(h:zbo w g cap V [] 0)(k:Nat):zbo w g cap V (V.take k) k:=by
 obtain⟨cur,h1,h2,h3,h4⟩:=h;refine⟨cur,h1,h2,fun j hj=>?_,fun j hj _=>h4 j hj (Nat.zero_le _)⟩;have hj':j<V.length:=by simp at hj;omega
 rw [h4 j hj' (Nat.zero_le _),List.getElem_take]
theorem zbo.forget{w:World}{g cap m:Nat}{V Y:List Sl}(h:zbo w g cap V Y m):zbo w g cap [] Y 0:=by
 obtain⟨cur,h1,h2,h3,h4⟩:=h;exact⟨cur,h1,h2,h3,fun j hj=>by simp at hj⟩
theorem zbo.there{w:World}{g cap m:Nat}{V Y:List Sl}(h:zbo w g cap V Y m){j:Nat}(hj:j<cap):(∃v,w.cell? ⟨g,j,none⟩=some v)∧w.frozen? ⟨g,j,none⟩=false:=by
 obtain⟨cur,h1,h2,-,-⟩:=h;exact⟨⟨cur[j]'(by omega),by simp [World.cell?,h1,show j<cur.size by omega]⟩,by simp [World.frozen?,h1]⟩
theorem zua(w:World):(zeroValue 25).run Tryz.prog w = .ok (.slice none 0 0) w:=by kernel_rfl
theorem zqa{V:List Sl}{p:Sl}{k:Nat}(h:k<V.length)(h0:zu V[k].P p.P=0)(he:jo V=V.take k ++ goL p (V.drop k)):jo V=V.take k ++ goL V[k] (V.drop (k+1)):=by
 rw [he,zrR h h0]
theorem zlj(w:World)(B g cap:Nat)(V:List Sl)(h:zT w B (.slice (some ⟨g,0,none⟩) V.length cap) V)(hs:V.length≤5864062014634):
 Calls Tryz.prog 150 #[.slice (some ⟨g,0,none⟩) V.length cap,.func (.func 151) #[] #[]] w fun e w' =>
  e = .returned (.slice (some ⟨g,0,none⟩) (jo V).length cap)∧zT w' B (.slice (some ⟨g,0,none⟩) (jo V).length cap) (jo V)∧w.grownBy w' (some g):=by
 have HR:=hi9 (zo9 h).1;have hcap:=(zo9 h).2;have HH:=hi9 h;clear h;by_cases h2:V.length<2
 ·have HC:=hi9 (zjy h2);go_enter Tryz.func150,Tryz.ntmps150;go_wp2;go_ret;rw [HC.out];exact⟨rfl,HH.out,World.grownBy.refl _ _⟩
 ·go_enter Tryz.func150,Tryz.ntmps150;go_wp2;go_loopw [5] (fun i wr=>∃k:Nat,1≤k∧k≤V.length∧i = .int .i64 k∧Hid (∃p,V[k-1]?=some p∧jo V=V.take k ++ goL p (V.drop k))∧Hid (Below w.heap.size w wr)) (fun i _=>V.length-(intOf i).toNat)
  case atStart=>exact⟨1,Nat.le_refl _,by omega,rfl,⟨V[0],by simp,zjr (by omega)⟩,Below.refl _ _⟩
  case round =>
   obtain⟨k,hk1,hk2,rfl,hc,hb⟩:=hrel;by_cases hlt:k<V.length
   ·obtain⟨a1,f1⟩:=(HR.out.keep hb.out).cell hlt (Nat.zero_le _);obtain⟨a0,f0⟩:=(HR.out.keep hb.out).cell (j:=k-1) (by omega) (Nat.zero_le _);have n1:=(HH.out.each _ (List.getElem_mem hlt)).keep hb.out;have n0:=(HH.out.each _ (List.getElem_mem (show k-1<V.length by omega))).keep hb.out;have s1:=rq (w:=wr) (fun w' h=>zq5 V[k] V[k-1] w' (n1.keep h) (n0.keep h));clear n1 n0;unfold Sl.v at a1 a0 s1;have k1:=cell_regrown a1;have k0:=cell_regrown a0;go_wp2_with fail;refine wp_region_quiet_below (by kernel_rfl) (by kernel_rfl) ?_
    repeat (first|go_big_quiet_step (exact s1 _ _)|quiet_step (exact s1 _ _))
    refine wpQuiet_nil ?_;intro w1 hw';have B1:=hi9 (show Below wr.heap.size wr w1 by obtain⟨⟨d,os⟩,rfl⟩:=hw';exact below_regrown _ _ _);clear hw';clear s1 k1 k0 a1 a0 f1 f0;by_cases h0:zu V[k].P V[k-1].P=0
    ·have e0:(zu V[k].P V[k-1].P==0)=true:=by rw [h0];rfl
     have HI:=hi9 (show(V.take k).length=k∧∃p,V[k+1-1]?=some p∧jo V=V.take k ++ goL p (V.drop (k+1)) by
      obtain⟨p,hp,he⟩:=hc.out
      have hp':V[k-1]=p:=by
       rw [List.getElem?_eq_getElem (by omega)] at hp;injection hp
      subst hp'
      exact⟨by simp;omega,V[k],by simp [hlt],zqa hlt h0 he⟩)
     have HB:=j2 hb B1 (Nat.le_refl _);have R1:=hi9 ((HR.out.keep HB.out).take k);have G1:=hi9 (zh HB.out (some g));rw [e0];clear hc hb B1 h0 e0;have hlc:k<cap:=by omega
     go_wp2;go_loopw [5,7] (fun i j wr=>∃(kk k2:Nat) (Y:List Sl),i = .int .i64 kk∧j = .int .i64 k2∧1≤k2∧k+k2≤V.length∧kk≤k+k2-1∧Hid (Y.length=kk∧∃p,V[k+k2-1]?=some p∧jo V=Y ++ goL p (V.drop (k+k2)))∧Hid (zbo wr g cap V Y (k+k2-1))∧Hid (w.grownBy wr (some g))) (fun _ j _=>V.length-(intOf j).toNat)
     case atStart=>exact⟨k,1,V.take k,rfl,rfl,Nat.le_refl _,by omega,by omega,HI,R1,G1⟩
     case round =>
      obtain⟨kk,k2,Y,rfl,rfl,g1,g2,g3,hI,hR,hG⟩:=hrel;by_cases hlt2:k+k2<V.length
      ·obtain⟨a1,f1⟩:=hR.out.cell hlt2 (by omega);obtain⟨a0,f0⟩:=hR.out.cell (j:=k+k2-1) (by omega) (by omega);have n1:=(HH.out.each _ (List.getElem_mem hlt2)).row hG.out (HH.out.apart _ (List.getElem_mem hlt2));have n0:=(HH.out.each _ (List.getElem_mem (show k+k2-1<V.length by omega))).row hG.out (HH.out.apart _ (List.getElem_mem (show k+k2-1<V.length by omega)));have s1:=rq (w:=wr) (fun w' h=>zq5 V[k+k2] V[k+k2-1] w' (n1.keep h) (n0.keep h));clear n1 n0;unfold Sl.v at a1 a0 s1;have a0':wr.cell? ⟨g,k+(k2-1),none⟩=some (.slice V[k+k2-1].A V[k+k2-1].n V[k+k2-1].c):=by rw [show k+(k2-1)=k+k2-1 by omega];exact a0
       have f0':wr.frozen? ⟨g,k+(k2-1),none⟩=false:=by rw [show k+(k2-1)=k+k2-1 by omega];exact f0
       clear a0 f0;have k1:=cell_regrown a1;have k0:=cell_regrown a0';go_wp2_with fail;refine wp_region_quiet_below (by kernel_rfl) (by kernel_rfl) ?_
       repeat (first|go_big_quiet_step (exact s1 _ _)|quiet_step (exact s1 _ _))
       refine wpQuiet_nil ?_;intro w1 hw';have B1:=hi9 (show Below wr.heap.size wr w1 by obtain⟨⟨d,os⟩,rfl⟩:=hw';exact below_regrown _ _ _);clear hw';clear s1 k1 k0 a1 a0' f1 f0';have G2:=hi9 (hG.out.trans (zh B1.out (some g)));have R2:=hi9 (hR.out.keep B1.out);clear hG hR B1;by_cases h0:zu V[k+k2].P V[k+k2-1].P=0
       ·have e0:(zu V[k+k2].P V[k+k2-1].P==0)=true:=by rw [h0];rfl
        have HJ:=hi9 (show Y.length=kk∧∃p,V[k+(k2+1)-1]?=some p∧jo V=Y ++ goL p (V.drop (k+(k2+1))) by
         obtain⟨hl,p,hp,he⟩:=hI.out
         have hp':V[k+k2-1]=p:=by
          rw [List.getElem?_eq_getElem (by omega)] at hp;injection hp
         subst hp'
         refine⟨hl,V[k+k2],by rw [show k+(k2+1)-1=k+k2 by omega];exact List.getElem?_eq_getElem hlt2,?_⟩
         rw [he,zrR hlt2 h0];rfl)
        have R3:=hi9 (show zbo w1 g cap V Y (k+(k2+1)-1) by
         have:=R2.out.skip
         rwa [show k+k2-1+1=k+(k2+1)-1 by omega] at this)
        rw [e0];clear hI R2 h0 e0;go_wp2;go_roundw
        case rel=>exact⟨kk,k2+1,Y,rfl,by go_num,by omega,by omega,by omega,HJ,R3,G2⟩
        case measure=>simp [intOf];omega
       ·have e0:(zu V[k+k2].P V[k+k2-1].P==0)=false:=beq_eq_false_iff_ne.2 h0;have HJ:=hi9 (show(Y ++ [V[k+k2]]).length=kk+1∧∃p,V[k+(k2+1)-1]?=some p∧jo V=(Y ++ [V[k+k2]])++ goL p (V.drop (k+(k2+1))) by
         obtain⟨hl,p,hp,he⟩:=hI.out
         have hp':V[k+k2-1]=p:=by
          rw [List.getElem?_eq_getElem (by omega)] at hp;injection hp
         subst hp'
         refine⟨by simp [hl],V[k+k2],by rw [show k+(k2+1)-1=k+k2 by omega];exact List.getElem?_eq_getElem hlt2,?_⟩
         rw [he,zsu hlt2 h0,List.append_assoc];rfl)
        have R3:=hi9 (show zbo (w1.setCell ⟨g,kk,none⟩ V[k+k2].v) g cap V (Y ++ [V[k+k2]]) (k+(k2+1)-1) by
         have:=R2.out.put V[k+k2] (by rw [hI.out.1];omega) (by rw [hI.out.1];omega)
         rwa [show k+k2-1+1=k+(k2+1)-1 by omega,hI.out.1] at this)
        have G3:=hi9 (G2.out.trans (zjI w1 g kk V[k+k2].v));obtain⟨a1,f1⟩:=R2.out.cell hlt2 (by omega);obtain⟨⟨vk,ak⟩,fk⟩:=R2.out.there (j:=kk) (by omega);unfold Sl.v at a1;rw [e0];clear hI R2 G2 h0 e0;go_wp2;go_roundw
        case rel=>exact⟨kk+1,k2+1,_,by go_num,by go_num,by omega,by omega,by omega,HJ,R3,G3⟩
        case measure=>simp [intOf];omega
      ·have HY:=hi9 (show jo V=Y∧Y.length=kk by
        obtain⟨hl,p,hp,he⟩:=hI.out
        exact⟨by rw [he,zoM (by omega),List.append_nil],hl⟩)
       have hcl:∀ty,(Builtin.clear_ #[69] ty #[.slice (some ⟨g,kk,none⟩) (V.length-kk) (cap-kk)]).run Tryz.prog wr = .ok (.tuple #[]) (wr.setCells g kk (List.replicate (V.length-kk) (.slice none 0 0))):=
        fun ty=>Lib.run_clear_slice wr _ _ ty _ Tryz.underlying69 zua rfl rfl g kk _ _ (by omega) (fun j hj=>by obtain⟨⟨v,q⟩,-⟩:=hR.out.there (j:=kk+j) (by omega);rw [q];rfl) (fun j hj=>(hR.out.there (j:=kk+j) (by omega)).2)
       have G2:=hi9 (hG.out.trans (zh4 g (List.replicate (V.length-kk) (.slice none 0 0)) kk wr))
       have R2:=hi9 (zbo.clear (List.replicate (V.length-kk) (.slice none 0 0)) kk wr hR.out.forget (by rw [HY.out.2];exact Nat.le_refl _))
       clear hI hR hG
       go_wp2
       go_ret
       have hl:=HY.out.2
       have hy:=HY.out.1
       refine⟨by rw [hy,hl];rfl,?_,G2.out⟩
       rw [hy]
       exact zbo.own HH.out R2.out G2.out (fun x hx=>zgs (by rw [hy];exact hx)) (by omega)
    ·have e0:(zu V[k].P V[k-1].P==0)=false:=beq_eq_false_iff_ne.2 h0;have HC:=hi9 (show∃p,V[k]?=some p∧jo V=V.take (k+1)++ goL p (V.drop (k+1)) by
      obtain⟨p,hp,he⟩:=hc.out
      have hp':V[k-1]=p:=by
       rw [List.getElem?_eq_getElem (by omega)] at hp;injection hp
      subst hp'
      refine⟨V[k],by simp [hlt],?_⟩
      rw [he,zsu hlt h0,←List.take_append_getElem hlt,List.append_assoc]
      rfl)
     rw [e0];clear hc;have HB:=j2 hb B1 (Nat.le_refl _);clear hb B1;go_wp2;go_roundw
     case rel=>exact⟨k+1,by omega,by omega,by go_num,HC,HB⟩
     case measure=>simp [intOf];omega
   ·have HC:=hi9 (show jo V=V by
     obtain⟨p,hp,he⟩:=hc.out
     rw [he,zoM (by omega),List.take_of_length_le (by omega),List.append_nil])
    clear hc
    go_wp2
    go_ret
    rw [HC.out]
    exact⟨rfl,HH.out.keep hb.out,zh hb.out _⟩
theorem zag.cells{w:World}{a:Addr}{V:List Sl}(h:zag w (some a) V):∀j u,(V.map Sl.v)[j]?=some u→w.cell? (a.add j)=some u:=by
 intro j u hu;rw [List.getElem?_map] at hu;rcases hv:V[j]? with _|r
 ·rw [hv] at hu;cases hu
 ·rw [hv] at hu;simp only [Option.map_some,Option.some.injEq] at hu;subst hu;obtain⟨b,e,q,-⟩:=h j r hv;injection e with e;subst e;exact q
def znF(w:World)(V:List Sl)(e:Ending)(w':World):Prop:=∃v,e = .returned v∧zT w' w.heap.size v V∧Below w.heap.size w w'
theorem zpN(A:Option Addr)(n c:Nat)(V:List Sl)(w:World)(hn:n=V.length)(hm:n*24≤140737488355328)(h:zag w A V):
 Calls Tryz.prog 148 #[.slice A n c] w (znF w V):=by
 obtain⟨i0,hi,hz0,hz1,hz2⟩:=info_parts zcP;subst hn;rcases A with _|a
 ·have h0:V = []:=by
   rcases V with _|⟨r,V⟩
   ·rfl
   ·obtain⟨a,e,-⟩:=h 0 r rfl;cases e
  subst h0
  have hnil:=fun w:World=>Lib.run_eql_slice_nil (P:=Tryz.prog) w 69 25 none 0 c 0 0 Tryz.underlying69
  simp only [Option.isNone_none] at hnil
  show Calls _ _ #[.slice none 0 c] w _
  clear h
  go_enter Tryz.func148,Tryz.ntmps148
  go_wp2_with fail
  go_ret
  exact⟨_,rfl,zT.nil _ _,Below.refl _ _⟩
 ·have hnil:=fun w:World=>Lib.run_eql_slice_nil (P:=Tryz.prog) w 69 25 (some a) V.length c 0 0 Tryz.underlying69;simp only [Option.isNone_some] at hnil;have HC:=hi9 (fun w' hb=>(h.keep (w':=w') hb).cells);have HE:=hi9 (show∀r∈V,Ns w r.A r.n r.c r.P from fun r hr=>by
   obtain⟨k,hk,rfl⟩:=List.getElem_of_mem hr
   obtain⟨-,-,-,q⟩:=h.at hk
   exact q)
  have hB:∀W:World,(W.alloc (.cells #[] 25)).ownsRow W.heap.size 25 1 (.slice (some ⟨W.heap.size,0,none⟩) 0 0) 0 []:=fun W =>
   ⟨rfl,.inr ⟨_,0,#[],rfl,Nat.le_refl _,heap_alloc_new W _,Nat.le_refl _,by unfold maxLen;omega,rfl,rfl⟩⟩
  clear h;go_enter Tryz.func148,Tryz.ntmps148;go_wp2_with (at_builtin;refine wpList_append_own_at _ rfl _ _ 69 rfl w.heap.size 25 i0 _ 1 24 Tryz.underlying69 hi hz0 hz1 hz2 rfl (by decide) _ 0 [] rfl (hB w) a V.length c (V.map Sl.v) rfl (by simp) (HC.out _ (zb _ _)) (by intro u hu;obtain⟨r,-,rfl⟩:=List.mem_map.1 hu;rfl) ?c1 ?c2 ?c3 ?_)
  case c1=>unfold maxLen;omega
  case c2=>omega
  case c3=>simp
  intro v1 w1 hown hgrow _ hat;have B1:=hi9 ((zb w (.cells #[] 25)).grown hgrow (by simp) (fun k hk=>by simp [Value.ownBlock] at hk;omega));have O1:=hi9 (show zT w1 w.heap.size v1 V from⟨by simpa using hown,fun r hr=>(HE.out r hr).keep B1.out,fun r hr h0 a' ea q=>by
   have:=zW hown a'.block q
   have:=(HE.out r hr).at_.lt h0 a' ea
   omega⟩)
  clear hown hgrow hat hnil;go_wp2_with fail;go_ret;exact⟨_,rfl,O1.out,B1.out⟩
def zjR(w:World)(L:List (List Nd))(N:List ByteArray)(e:Ending)(w':World):Prop :=
 ∃(v v':Value) (V:List Sl),e = .returned (.tuple #[v,v'])∧zT w' w.heap.size v V∧V.map Sl.P=L∧w'.ownsRow w.heap.size 9 1 v' N.length (N.map Value.string)∧(∀r∈V,∀a,r.A=some a→w.heap.size<a.block)∧Below w.heap.size w w'
theorem znh{w:World}{B B' n:Nat}{e:TypeId}{size:Nat}{v:Value}{xs:List Value}(h:w.ownsRow B e size v n xs)(hB:B'≤B):w.ownsRow B' e size v n xs:=by
 refine⟨h.1,?_⟩;rcases h.2 with h2|⟨g,cap,cur,hv,hg,r⟩
 ·exact .inl h2
 ·exact .inr ⟨g,cap,cur,hv,Nat.le_trans hB hg,r⟩
theorem zT.mono{w:World}{B B':Nat}{v:Value}{V:List Sl}(h:zT w B v V)(hB:B'≤B):zT w B' v V:=⟨znh h.own hB,h.each,h.apart⟩
theorem zby.row{w w':World}{R p:Nat}{v:Value}{g:Option Nat}(h:zby w R v p)(hg:w.grownBy w' g)(hne:some R≠g):zby w' R v p :=
 ⟨hg.cell h.c0 hne,hg.cell h.c1 hne,(World.frozen?_of_block (w:=w) (hg.block R h.lt hne)).trans h.f1⟩
def zgB(R:Nat)(V:List Sl):Prop:=∀r∈V,∀a,r.A=some a→R<a.block
theorem zgB.apart{R:Nat}{V:List Sl}(h:zgB R V):∀r∈V,zaC r (some R):=fun r hr _ a e q=>by
 have:=h r hr a e;injection q with q;omega
theorem zgB.snoc{R:Nat}{V:List Sl}{r:Sl}(h:zgB R V)(hr:∀a,r.A=some a→R<a.block):zgB R (V ++ [r]):=by
 intro x hx;rcases List.mem_append.1 hx with h1|h1
 ·exact h x h1
 ·simp only [List.mem_cons,List.not_mem_nil,or_false] at h1;subst h1;exact hr
theorem zex{w:World}{B n:Nat}{e:TypeId}{size:Nat}{v:Value}{xs:List Value}(h:w.ownsRow B e size v n xs){R:Nat}(hR:R<B):v.ownBlock=none∨v.ownBlock≠some R:=by
 rcases hv:v.ownBlock with _|g
 ·exact .inl rfl
 ·have:=zW h g hv;exact .inr (fun q=>by injection q with q;omega)
theorem zkR{w:World}{B n:Nat}{e:TypeId}{size:Nat}{v:Value}{xs:List Value}(h:w.ownsRow B e size v n xs){R:Nat}(hR:R<B):some R≠v.ownBlock:=by
 rcases zex h hR with h|h
 ·rw [h];simp
 ·exact fun q=>h q.symm
theorem zkP{w:World}{a:Addr}{n c:Nat}{P:List Nd}(h:Ns w (some a) n c P){i j:Nat}(h1:i≤j)(h2:j≤n):Ns w (some (a.add (i*4))) (j-i) (c-i) (seg P i j):=by
 have:=h.len;have:=h.cap;have:=h.max;exact⟨(jH (by omega)).symm,by omega,by omega,h.at_.seg i j,h.ok.seg i j⟩
theorem zgq{v:List Nd}{f:Nat→Option Nat}{N k:Nat}{q n:Nat}(hk:k<N)(h:∃lo,z7 v f (N-k) lo q=some n):
 ∃e,f q=some e∧(∃lo,z7 v f (N-(k+1)) lo e=some n)∧zaa v f (N-k) q=seg v q e :: zaa v f (N-(k+1)) e:=by
 obtain⟨lo,h⟩:=h;obtain⟨j,hj⟩:∃j,N-k=j+1:=⟨N-k-1,by omega⟩
 rw [hj] at h;rw [hj,show N-(k+1)=j by omega];simp only [z7] at h;rcases hf:f q with _|e
 ·rw [hf] at h;cases h
 ·rw [hf] at h;simp only at h;split at h
  ·exact⟨e,rfl,⟨_,h⟩,by simp only [zaa,hf]⟩
  ·cases h
theorem zqO(A:Option Addr)(n c:Nat)(P:List Nd)(w:World)(h:Ns w A n c P)(hv:zc P=0)(h5:zf P=5):
 Calls Tryz.prog 125 #[.slice A n c] w (zjR w (zl P) []):=by
 obtain⟨i0,hi,hz0,hz1,hz2⟩:=info_parts zcP;obtain⟨h200,hV⟩:=zP.1 hv;have hpos:=hV.pos;obtain⟨a,rfl,D⟩:=h.at_.nd hpos;have hn:=h.len;obtain⟨hs0,_,hop,hx0,hN⟩:=znf hV h5;have hE:zl P=zaa P (zn P (P.length+1)) P[0].n.toNat 1:=by unfold zl;rw [hN]
 rw [hN] at hs0;obtain⟨-,-,-,hhi⟩:=h.ok.at hpos;have K:=hi9 (fun q w' (hb:Below w.heap.size w w') rd hq=>zfu (some a) P n c w.heap.size hn h.cap h.max h.ok (fun h0 a' e=>by have:=h.at_.lt h0 a' e;omega) (P.length+1) q w' rd (h.at_.keep hb) (by omega:n-q<P.length+1));have HN:=hi9 h;have HL:=hi9 hn;have H0:=hi9 hs0;have HE:=hi9 hE;rw [show a.add (0*4)=a from rfl] at D;obtain⟨d0,d1,d2,d3⟩:=D;have r0:zby (w.alloc (.cells #[.slice (some a) n c,.int .i64 1] 122)) w.heap.size (.slice (some a) n c) 1:=⟨by simp,by simp,by simp⟩
 rw [hop] at d0;have d1':=fun o:Obj=>za (zb w o) d1;generalize P[0]=x at *;have hn200:n≤200:=by omega
 have hn1:0<n:=by omega
 clear h hv h5 hV hn hs0 hE hN h200 hop;go_enter Tryz.func125,Tryz.ntmps125;go_wp2_with fail;clear d1';go_loopw [2,3,12] (fun v v' i wr=>∃(k q:Nat) (V:List Sl),i = .int .i64 k∧v' = .slice none 0 0∧(k:Int)≤x.n∧q≤n∧k+1≤q∧V.length=k∧Hid (zl P=V.map Sl.P ++ zaa P (zn P (P.length+1)) (x.n.toNat-k) q)∧
  Hid (∃lo,z7 P (zn P (P.length+1)) (x.n.toNat-k) lo q=some P.length)∧Hid (zT wr (w.heap.size+1) v V)∧Hid (zgB w.heap.size V)∧Hid (zby wr w.heap.size (.slice (some a) n c) q)∧Hid (Below w.heap.size w wr)) (fun _ _ i _=>(x.n-intOf i).toNat)
 case atStart=>exact⟨0,1,[],rfl,rfl,hx0,hn1,by omega,rfl,HE.out,⟨none,H0.out⟩,zT.nil _ _,(by intro r hr;cases hr),r0,zb _ _⟩
 case round =>
  obtain⟨k,q,V,rfl,rfl,hk,hq,hkq,hVl,hE,hS,hO,hLt,hrd,hB⟩:=hrel;have e0:=za hB.out d0;by_cases hlt:(k:Int)<x.n
  ·obtain⟨e,hf,hS',hsp⟩:=zgq (by omega) hS.out;have hle:=jG _ _ _ hf;rw [←HL.out] at hle;have C:=hi9 (K.out q wr hB.out hrd.out (by rw [←HL.out];omega));rw [hf] at C;have HE2:=hi9 (hE.out.trans (by rw [hsp]:_=V.map Sl.P ++(seg P q e :: zaa P (zn P (P.length+1)) (x.n.toNat-(k+1)) e)));have HS2:=hi9 hS';clear hE hS hS' hsp hf;go_wp2_with fail;refine C.out.mono ?_;rintro e' w2 hpost;obtain⟨rfl,r2,g2⟩:=hpost;have B2:=hi9 (hB.out.trans (zaK g2 (Nat.le_refl _) hB.out.size));have O2:=hO.out.row g2 (zex hO.out.own (by omega)) hLt.out.apart;have CL:=hi9 (zgy (a.add (q*4)) (e-q) (c-q) (seg P q e) w2 (zkP (HN.out.keep B2.out) (by omega) hle.2) (by rw [jH (by rw [←HL.out];omega)];omega));have R2:=hi9 r2;have OO2:=hi9 O2;have hsz2:=B2.out.size;have hsz3:w.heap.size<w2.heap.size:=R2.out.lt;clear O2 r2 g2 hO hB hrd;go_wp2_with fail;refine CL.out.mono ?_;rintro e' w3 hpost;obtain⟨A3,c3,rfl,n3,l3,b3⟩:=hpost;have B3:=bh B2 b3;have hO3:=OO2.out.keep b3;have hR3:=R2.out.keep b3;have O3:=hi9 hO3;have R3:=hi9 hR3;have N3:=hi9 (show Ns w3 (⟨A3,(seg P q e).length,c3,seg P q e⟩:Sl).A _ _ _ from n3);have L3:=hi9 (hLt.out.snoc (r:=⟨A3,(seg P q e).length,c3,seg P q e⟩) (fun a' h'=>by have:=l3 a' h';omega));have A3p:Hid (zaC ⟨A3,(seg P q e).length,c3,seg P q e⟩ u2.ownBlock):=by
    intro h0 a' e' q';have h1:=zb4 OO2.out.own a'.block q';have h2:=l3 a' e';omega
   have hsz4:=B3.out.size;have hsz5:=b3.size;clear b3 n3 l3 hO3 hR3 OO2 R2 B2 hLt;go_wp2_with (at_builtin;refine wpList_append_own_at _ rfl _ _ 69 rfl (w.heap.size+1) 25 i0 _ 1 24 Tryz.underlying69 hi hz0 hz1 hz2 rfl (by decide) _ V.length (V.map Sl.v) rfl (O3.out.own.alloc _) ⟨_,0,none⟩ 1 1 [.slice A3 (seg P q e).length c3] rfl rfl (cell_one_new _ _ _) (by intro u hu;simp only [List.mem_cons,List.not_mem_nil,or_false] at hu;subst hu;rfl) ?c1 ?c2 ?c3 ?_)
   case c1=>unfold maxLen;omega
   case c2=>omega
   case c3=>simp;omega
   intro v1 w4 hown hgrow _ hat;have B4:=hi9 ((B3.out.alloc B3.out.size _).grown hgrow (by simp;omega) (fun g hg=>by have:=zW O3.out.own g hg;omega));have R4:=hi9 ((R3.out.keep (zb w3 _)).row hgrow (zkR O3.out.own (by omega)));have O4:=hi9 (O3.out.snoc (r:=⟨A3,(seg P q e).length,c3,seg P q e⟩) N3.out A3p.out (by rw [hVl];exact hown) hgrow (by simpa using hat));have HE4:=hi9 (HE2.out.trans (show _=(V ++ [(⟨A3,(seg P q e).length,c3,seg P q e⟩:Sl)]).map Sl.P ++ zaa P (zn P (P.length+1)) (x.n.toNat-(k+1)) e by simp));have hl4:(V ++ [(⟨A3,(seg P q e).length,c3,seg P q e⟩:Sl)]).length=k+1:=by simp [hVl]
   clear hown hgrow hat O3 R3 N3 A3p HE2 B3;go_wp2_with fail;go_roundw
   case rel=>exact⟨k+1,e,_,by go_num,rfl,by omega,by omega,by omega,hl4,HE4,HS2,O4,L3,R4,B4⟩
   case measure=>simp [intOf];omega
  ·have HG:=hi9 (hE.out.trans (show _=V.map Sl.P by rw [show x.n.toNat-k=0 by omega];simp [zaa]));clear hE hS hrd;go_wp2_with fail;go_ret2;exact⟨_,_,V,rfl,hO.out.mono (by omega),HG.out.symm,World.ownsRow_nil _ _ _ 1,hLt.out,hB.out⟩
end Go.Proofs.YtkfgabdnppmglaaGreatDoor
namespace Go.Wk
theorem zgz{v:List Nd}{f:Nat→Option Nat}{N k:Nat}{q n:Nat}(hk:k<N)(h:∃lo,zY v f (N-k) lo q=some n):
 ∃(hq:q<v.length) (e:Nat),f (q+1)=some e∧(∃lo,zY v f (N-(k+1)) lo e=some n)∧zac v f (N-k) q=(v[q].s,seg v (q+1) e):: zac v f (N-(k+1)) e:=by
 obtain⟨lo,h⟩:=h;obtain⟨j,hj⟩:∃j,N-k=j+1:=⟨N-k-1,by omega⟩
 rw [hj] at h;rw [hj,show N-(k+1)=j by omega];simp only [zY] at h;by_cases hq:q<v.length
 ·refine⟨hq,?_⟩;split at h
  ·cases h
  ·rename_i s hs;rcases hf:f (q+1) with _|e
   ·rw [hf] at h;cases h
   ·rw [hf] at h;exact⟨e,rfl,⟨_,h⟩,by simp only [zac,hf];unfold zqk;rw [List.getElem?_eq_getElem hq]⟩
 ·rw [zgM (by omega)] at h;cases h
end Go.Wk
namespace Go.Proofs.YtkfgabdnppmglaaGreatDoor
open Go.RowKit Go.Wk Go.Sort
structure jl(w:World)(B:Nat)(v v':Value)(V:List Sl)(N:List ByteArray):Prop where
 a:zT w B v V
 b:w.ownsRow B 9 1 v' N.length (N.map Value.string)
 ab:v.ownBlock=none∨v.ownBlock≠v'.ownBlock
 ap:∀r∈V,zaC r v'.ownBlock
theorem jl.keep{w w':World}{B:Nat}{v v':Value}{V:List Sl}{N:List ByteArray}(h:jl w B v v' V N)(hb:Below w.heap.size w w'):jl w' B v v' V N :=
 ⟨h.a.keep hb,jS h.b hb,h.ab,h.ap⟩
theorem jl.other{w w':World}{B R:Nat}{v v':Value}{V:List Sl}{N:List ByteArray}(h:jl w B v v' V N)(hg:w.grownBy w' (some R))(hR:R<B)(hL:zgB R V):jl w' B v v' V N :=
 ⟨h.a.row hg (zex h.a.own hR) hL.apart,h.b.kept hg (zex h.b hR),h.ab,h.ap⟩
theorem zdk:(Tryz.prog.info? 9).map (fun i=>(i.zero,i.size,i.bytes))=some (some (.string ⟨#[]⟩),1,16):=by kernel_rfl
theorem jl.name{w w':World}{B:Nat}{v v' v1:Value}{V:List Sl}{N:List ByteArray}{s:ByteArray}{o:Obj}(h:jl w B v v' V N)
 (hown:w'.ownsRow B 9 1 v1 (N.length+1) (N.map Value.string ++ [.string s])) (hg:(w.alloc o).grownBy w' v'.ownBlock) (hat:v1.ownBlock=v'.ownBlock∨v1.ownBlock=some (w.alloc o).heap.size):jl w' B v v1 V (N ++ [s]):=by
 have hba:Below w.heap.size w (w.alloc o):=zb w o;refine⟨(h.a.keep hba).row hg h.ab h.ap,by simpa using hown,?_,fun r hr h0 a e=>?_⟩
 ·rcases hv:v.ownBlock with _|g
  ·exact .inl rfl
  ·have hlt:=zb4 h.a.own g hv;refine .inr ?_;rcases hat with q|q
   ·rw [q,←hv];rcases h.ab with z|z
    ·rw [hv] at z;cases z
    ·exact z
   ·rw [q];intro z;injection z with z;simp at z;omega
 ·rcases hat with q|q
  ·rw [q];exact h.ap r hr h0 a e
  ·rw [q];have:=(h.a.each r hr).at_.lt h0 a e;intro z;injection z with z;simp at z;omega
theorem jl.part{w w':World}{B:Nat}{v v' v1:Value}{V:List Sl}{N:List ByteArray}{r:Sl}{o:Obj}(h:jl w B v v' V N)(hr:Ns w r.A r.n r.c r.P)(ha:zaC r v.ownBlock)(ha':zaC r v'.ownBlock)
 (hown:w'.ownsRow B 25 1 v1 (V.length+1) (V.map Sl.v ++ [r.v])) (hg:(w.alloc o).grownBy w' v.ownBlock) (hat:v1.ownBlock=v.ownBlock∨v1.ownBlock=some (w.alloc o).heap.size):jl w' B v1 v' (V ++ [r]) N:=by
 have hba:Below w.heap.size w (w.alloc o):=zb w o;refine⟨h.a.snoc hr ha hown hg hat,(jS h.b hba).kept hg ?_,?_,?_⟩
 ·rcases h.ab with z|z
  ·rw [z];cases v'.ownBlock <;> simp
  ·exact .inr (fun q=>z q.symm)
 ·rcases hv:v1.ownBlock with _|g
  ·exact .inl rfl
  ·refine .inr ?_;rcases hat with q|q
   ·rcases h.ab with z|z
    ·rw [hv,z] at q;cases q
    ·rw [←hv,q];exact z
   ·intro z;have:=zb4 h.b g z.symm;rw [hv] at q;injection q with q;simp at q;omega
 ·intro x hx;rcases List.mem_append.1 hx with h1|h1
  ·exact h.ap x h1
  ·simp only [List.mem_cons,List.not_mem_nil,or_false] at h1;subst h1;exact ha'
theorem zjX(A:Option Addr)(n c:Nat)(P:List Nd)(w:World)(h:Ns w A n c P)(hv:zc P=0)(h6:zf P=6):
 Calls Tryz.prog 125 #[.slice A n c] w (zjR w ((zR P).map (·.2)) ((zR P).map (·.1))):=by
 obtain⟨i0,hi,hz0,hz1,hz2⟩:=info_parts zcP;obtain⟨j0,hj,jz0,jz1,jz2⟩:=info_parts zdk;obtain⟨h200,hV⟩:=zP.1 hv;have hpos:=hV.pos;obtain⟨a,rfl,D⟩:=h.at_.nd hpos;have hn:=h.len;obtain⟨hs0,_,hop,hx0,hN⟩:=zl6 hV h6;have hE:zR P=zac P (zn P (P.length+1)) P[0].n.toNat 1:=by unfold zR;rw [hN]
 rw [hN] at hs0;obtain⟨-,-,-,hhi⟩:=h.ok.at hpos;have K:=hi9 (fun q w' (hb:Below w.heap.size w w') rd hq=>zfu (some a) P n c w.heap.size hn h.cap h.max h.ok (fun h0 a' e=>by have:=h.at_.lt h0 a' e;omega) (P.length+1) q w' rd (h.at_.keep hb) (by omega:n-q<P.length+1));have HN:=hi9 h;have HL:=hi9 hn;have H0:=hi9 hs0;have HE:=hi9 hE;rw [show a.add (0*4)=a from rfl] at D;obtain⟨d0,d1,d2,d3⟩:=D;have r0:zby (w.alloc (.cells #[.slice (some a) n c,.int .i64 1] 122)) w.heap.size (.slice (some a) n c) 1:=⟨by simp,by simp,by simp⟩
 rw [hop] at d0;have d1':=fun o:Obj=>za (zb w o) d1;generalize P[0]=x at *;have hn200:n≤200:=by omega
 have hn1:0<n:=by omega
 clear h hv h6 hV hn hs0 hE hN h200 hop;go_enter Tryz.func125,Tryz.ntmps125;go_wp2_with fail;clear d1';go_loopw [2,3,12] (fun v v' i wr=>∃(k q:Nat) (V:List Sl) (X:List (ByteArray × List Nd)),i = .int .i64 k∧(k:Int)≤x.n∧q≤n∧k+1≤q∧V.length=k∧X.length=k∧Hid (V.map Sl.P=X.map (·.2))∧Hid (zR P=X ++ zac P (zn P (P.length+1)) (x.n.toNat-k) q)∧
  Hid (∃lo,zY P (zn P (P.length+1)) (x.n.toNat-k) lo q=some P.length)∧Hid (jl wr (w.heap.size+1) v v' V (X.map (·.1)))∧Hid (zgB w.heap.size V)∧Hid (zby wr w.heap.size (.slice (some a) n c) q)∧Hid (Below w.heap.size w wr)) (fun _ _ i _=>(x.n-intOf i).toNat)
 case atStart=>exact⟨0,1,[],[],rfl,hx0,hn1,by omega,rfl,rfl,rfl,HE.out,⟨_,H0.out⟩,⟨zT.nil _ _,World.ownsRow_nil _ _ _ 1,.inl rfl,(by intro r hr;cases hr)⟩,(by intro r hr;cases hr),r0,zb _ _⟩
 case round =>
  obtain⟨k,q,V,X,rfl,hk,hq,hkq,hVl,hXl,hVX,hE,hS,hT,hLt,hrd,hB⟩:=hrel;have e0:=za hB.out d0;by_cases hlt:(k:Int)<x.n
  ·obtain⟨hq',e,hf,hS',hsp⟩:=zgz (by omega) hS.out;have hle:=jG _ _ _ hf;rw [←HL.out] at hle;have hqn:q<n:=by omega
   obtain⟨a',ha',⟨-,-,q2,-⟩⟩:=(HN.out.at_.keep hB.out).nd hq';injection ha' with ha';subst ha';have HE2:=hi9 (hE.out.trans (by rw [hsp]:_=X ++((P[q].s,seg P (q+1) e):: zac P (zn P (P.length+1)) (x.n.toNat-(k+1)) e)));have HS2:=hi9 hS';have HF:=hi9 hf;have hsg:(seg P (q+1) e).length=e-(q+1):=jH (by rw [←HL.out];omega);have HSG:=hi9 hsg;generalize P[q].s=nm at *;obtain⟨c0,c1,f1⟩:=hrd.out;have hsz1:=hB.out.size;have hRl:=hrd.out.lt;clear hE hS hS' hsp hf hsg;go_wp2_with (at_builtin;refine wpList_append_own_at _ rfl _ _ 70 rfl (w.heap.size+1) 9 j0 _ 1 16 Tryz.underlying70 hj jz0 jz1 jz2 rfl (by decide) _ (X.map (·.1)).length ((X.map (·.1)).map Value.string) rfl (hT.out.b.alloc _) ⟨_,0,none⟩ 1 1 [.string nm] rfl rfl (cell_one_new _ _ _) (by intro u hu;simp only [List.mem_cons,List.not_mem_nil,or_false] at hu;subst hu;rfl) ?c1 ?c2 ?c3 ?_)
   case c1=>simp;unfold maxLen;omega
   case c2=>simp;omega
   case c3=>simp;omega
   intro v1 w1 hown hgrow _ hat;have T1:=hi9 (hT.out.name (s:=nm) (by simpa [hXl] using hown) hgrow (by simpa using hat));have B1:=hi9 ((hB.out.alloc hB.out.size _).grown hgrow (by simp;omega) (fun g hg=>by have:=zW hT.out.b g hg;omega));have R1:=hi9 ((hrd.out.keep (zb wr _)).row hgrow (zkR hT.out.b (by omega)));have R2:=hi9 (R1.out.put (q+1));have T2:=hi9 (T1.out.other (R:=w.heap.size) (zJ w1 ⟨w.heap.size,1,none⟩ (.int .i64 (q+1:Nat))) (by omega) hLt.out);have B2:=hi9 (B1.out.setCell (p:=⟨w.heap.size,1,none⟩) (Nat.le_refl _) (.int .i64 (q+1:Nat)));have hRl1:=R1.out.lt;obtain⟨c0',c1',f1'⟩:=R1.out;have C:=hi9 (K.out (q+1) _ B2.out R2.out (by rw [←HL.out];omega));rw [HF.out] at C;clear hown hgrow hat hT hB hrd c0 c1 f1 q2 T1 B1 R1;go_wp2_with fail;refine C.out.mono ?_;rintro e' w3 hpost;obtain⟨rfl,r3,g3⟩:=hpost;have B3:=hi9 (B2.out.trans (zaK g3 (Nat.le_refl _) B2.out.size));have T3:=hi9 (T2.out.other g3 (by omega) hLt.out);have CL:=hi9 (zgy (a.add ((q+1)*4)) (e-(q+1)) (c-(q+1)) (seg P (q+1) e) w3 (zkP (HN.out.keep B3.out) (by omega) hle.2) (by rw [HSG.out];omega));have R3:=hi9 r3;have hsz2:=B3.out.size;have hsz3:w.heap.size<w3.heap.size:=R3.out.lt;clear r3 g3 T2 B2 R2 c0' c1' f1';go_wp2_with fail;refine CL.out.mono ?_;rintro e' w4 hpost;obtain⟨A3,c3,rfl,n3,l3,b4⟩:=hpost;have B4:=bh B3 b4;have T4:=hi9 (T3.out.keep b4);have R4:=hi9 (R3.out.keep b4);have N4:=hi9 (show Ns w4 (⟨A3,(seg P (q+1) e).length,c3,seg P (q+1) e⟩:Sl).A _ _ _ from n3);have L4:=hi9 (hLt.out.snoc (r:=⟨A3,(seg P (q+1) e).length,c3,seg P (q+1) e⟩) (fun a' h'=>by have:=l3 a' h';omega));have A4:Hid (zaC ⟨A3,(seg P (q+1) e).length,c3,seg P (q+1) e⟩ u2.ownBlock):=by
    intro h0 a' e' q';have h1:=zb4 T3.out.a.own a'.block q';have h2:=l3 a' e';omega
   have A5:Hid (zaC ⟨A3,(seg P (q+1) e).length,c3,seg P (q+1) e⟩ v1.ownBlock):=by
    intro h0 a' e' q';have h1:=zb4 T3.out.b a'.block q';have h2:=l3 a' e';omega
   have hsz4:=B4.out.size;have hsz5:=b4.size;clear b4 n3 l3 T3 R3 B3 hLt;go_wp2_with (at_builtin;refine wpList_append_own_at _ rfl _ _ 69 rfl (w.heap.size+1) 25 i0 _ 1 24 Tryz.underlying69 hi hz0 hz1 hz2 rfl (by decide) _ V.length (V.map Sl.v) rfl (T4.out.a.own.alloc _) ⟨_,0,none⟩ 1 1 [.slice A3 (seg P (q+1) e).length c3] rfl rfl (cell_one_new _ _ _) (by intro u hu;simp only [List.mem_cons,List.not_mem_nil,or_false] at hu;subst hu;rfl) ?d1 ?d2 ?d3 ?_)
   case d1=>unfold maxLen;omega
   case d2=>omega
   case d3=>simp;omega
   intro v2 w5 hown hgrow _ hat;have B5:=hi9 ((B4.out.alloc B4.out.size _).grown hgrow (by simp;omega) (fun g hg=>by have:=zW T4.out.a.own g hg;omega));have R5:=hi9 ((R4.out.keep (zb w4 _)).row hgrow (zkR T4.out.a.own (by omega)));have T5:=hi9 (T4.out.part (r:=⟨A3,(seg P (q+1) e).length,c3,seg P (q+1) e⟩) N4.out A4.out A5.out (by rw [hVl];exact hown) hgrow (by simpa using hat));have HE5:=hi9 (HE2.out.trans (show _=(X ++ [(nm,seg P (q+1) e)])++ zac P (zn P (P.length+1)) (x.n.toNat-(k+1)) e by simp));have hl5:(V ++ [(⟨A3,(seg P (q+1) e).length,c3,seg P (q+1) e⟩:Sl)]).length=k+1:=by simp [hVl]
   have hl6:(X ++ [(nm,seg P (q+1) e)]).length=k+1:=by simp [hXl]
   have HV5:=hi9 (show(V ++ [(⟨A3,(seg P (q+1) e).length,c3,seg P (q+1) e⟩:Sl)]).map Sl.P=(X ++ [(nm,seg P (q+1) e)]).map (·.2) by
    rw [List.map_append,List.map_append,hVX.out];rfl)
   have T6:=hi9 (show jl w5 (w.heap.size+1) v2 v1 (V ++ [(⟨A3,(seg P (q+1) e).length,c3,seg P (q+1) e⟩:Sl)]) ((X ++ [(nm,seg P (q+1) e)]).map (·.1)) by
    rw [List.map_append];exact T5.out)
   clear hown hgrow hat R4 N4 A4 A5 HE2 B4 T5;go_wp2_with fail;go_roundw
   case rel=>exact⟨k+1,e,_,_,by go_num,by omega,by omega,by omega,hl5,hl6,HV5,HE5,HS2,T6,L4,R5,B5⟩
   case measure=>simp [intOf];omega
  ·have HG:=hi9 (hE.out.trans (show _=X by rw [show x.n.toNat-k=0 by omega];simp [zac]));clear hE hS hrd;go_wp2_with fail;go_ret2;exact⟨_,_,V,rfl,hT.out.a.mono (by omega),by rw [HG.out];exact hVX.out,by rw [HG.out];exact znh hT.out.b (by omega),hLt.out,hB.out⟩
end Go.Proofs.YtkfgabdnppmglaaGreatDoor
