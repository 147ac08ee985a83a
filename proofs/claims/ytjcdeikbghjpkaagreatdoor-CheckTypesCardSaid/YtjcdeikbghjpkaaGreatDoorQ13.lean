/-
  Plain: a region that draws its order, whose reads come up in any order ahead of one call: what stands behind the reads is walked by hand, whether the call ..
-/
import Derived.Test.YtjcdeikbghjpkaaGreatDoorQ10
import Derived.Test.YtjcdeikbghjpkaaGreatDoorQ11
set_option maxRecDepth 100000
namespace Go.Wk
open Go Go.Sort Go.RowKit
section
variable {P:Program} {ops:Array Oper} {md:Region.Mode} {C:World→Prop} {R:Act→Prop} {M:Array Bool} {k:Nat}
def ziQ(P:Program)(md:Region.Mode)(ops:Array Oper)(C:World→Prop)(M:Array Bool)(R:Act→Prop):Nat→Array Bool→Act→Prop
 | 0,listed,a=>listed=M∧R a
 | fuel+1,listed,a=>Region.ready md ops listed≠ []∧∀i∈Region.ready md ops listed,qOp P ops C i (ziQ P md ops C M R fuel (listed.setIfInBounds i true)) a
theorem zip{n:Nat}{Q:Exit→Act→World→Prop}(hQ:∀a w,C w→R a→wpAny P md ops Q n M a w):∀(fuel:Nat) (listed:Array Bool) (a:Act) (w:World),C w→
 ziQ P md ops C M R fuel listed a→wpAny P md ops Q (fuel+n) listed a w
 | 0,_,a,w,hw,h=>by
  obtain⟨rfl,h⟩:=h;rw [Nat.zero_add];exact hQ a w hw h
 | fuel+1,_,_,_,hw,h=>by
  rw [show fuel+1+n=(fuel+n)+1 by omega];exact⟨fun h0=>absurd h0 h.1,fun i hi=>wpOp_of_qOp hw (fun a' w' hw'=>zip hQ fuel _ a' w' hw') (h.2 i hi)⟩
def zeB(md:Region.Mode)(ops:Array Oper)(listed:Array Bool):Prop:=∀(j:Nat) (o:Oper),ops[j]?=some o→listed[j]?=some true→∀e∈o.after,Region.binds md e=true→listed[e.on]?=some true
def zhZ(md:Region.Mode)(ops:Array Oper):Nat→Nat→Nat→Bool
 | 0,_,_=>false
 | f+1,k,i=>match ops[k]? with
  | some o=>o.after.any fun e=>Region.binds md e &&(decide (e.on=i)|| zhZ md ops f e.on i)
  | none=>false
theorem zf5{listed:Array Bool}(hc:zeB md ops listed){i:Nat}:∀(f k:Nat) (o:Oper),ops[k]?=some o→zhZ md ops f k i=true→(∀e∈o.after,Region.binds md e=true→listed[e.on]?=some true)→listed[i]?=some true
 | 0,_,_,_,h,_=>by cases h
 | f+1,k,o,ho,h,ha=>by
  unfold zhZ at h;rw [ho] at h;simp only at h;obtain⟨q,hq,he⟩:=Array.any_iff_exists.1 h;simp only [Bool.and_eq_true,Bool.or_eq_true,decide_eq_true_eq] at he;have hl:=ha _ (Array.getElem_mem hq) he.2.2.1;rcases he.2.2.2 with e1|e2
  ·rw [e1] at hl;exact hl
  ·cases f with
   | zero=>cases e2
   | succ f =>
    have e3:=e2
    unfold zhZ at e3
    split at e3
    ·rename_i o2 ho2
     exact zf5 hc (f+1) _ o2 ho2 e2 (hc _ o2 ho2 hl)
    ·cases e3
theorem zgI{listed:Array Bool}{j:Nat}(h:j∈Region.ready md ops listed):∃o,ops[j]?=some o∧∀e∈o.after,Region.binds md e=true→listed[e.on]?=some true:=by
 obtain⟨-,o,ho,hall⟩:=mem_ready.1 h;refine⟨o,ho,fun e he hb=>?_⟩;have h1:=hall e he hb;rcases Nat.lt_or_ge e.on listed.size with h'|h'
 ·simp [h'] at h1 ⊢;exact h1
 ·simp [Array.getElem?_eq_none h'] at h1
theorem zoE{listed:Array Bool}{j:Nat}(h:j∈Region.ready md ops listed):listed[j]?≠some true:=by
 have h0:=(mem_ready.1 h).1;intro h1;rcases Nat.lt_or_ge j listed.size with h'|h'
 ·simp [h'] at h0 h1;rw [h0] at h1;cases h1
 ·simp [Array.getElem?_eq_none h'] at h1
theorem zhC{listed:Array Bool}{i:Nat}(hc:zeB md ops listed)(hi:i∈Region.ready md ops listed):zeB md ops (listed.setIfInBounds i true):=by
 have up:∀ {j:Nat},listed[j]?=some true→(listed.setIfInBounds i true)[j]?=some true:=fun {j} h=>by
  rw [Array.getElem?_setIfInBounds];split
  ·rename_i e;subst e;split
   ·rfl
   ·rename_i hs;rw [Array.getElem?_eq_none (by omega)] at h;cases h
  ·exact h
 intro j o ho hj e he hb;by_cases hji:i=j
 ·subst hji;obtain⟨o',ho',hall⟩:=zgI hi;rw [ho] at ho';injection ho' with ho';subst ho';exact up (hall e he hb)
 ·rw [Array.getElem?_setIfInBounds,if_neg hji] at hj;exact up (hc j o ho hj e he hb)
theorem zko{i:Nat}{oi:Oper}{v:Value}(hi:ops[i]?=some oi)(hsel:∀(j:Nat) (o:Oper) cs b,ops[j]?=some o→o.op≠ .select cs b)(hM:Region.ready md ops M = [k]){f:Nat}(hn:zhZ md ops f k i=true):
 ∀(fuel:Nat) (listed:Array Bool) (a:Act),zeB md ops listed→
  (∀j oj,ops[j]?=some oj→j≠i→listed.getD j true=false→(∀e∈oj.after,Region.binds md e=true→e.on≠i)→oi.apart ops oj=true)→
  i∈Region.ready md ops listed→YieldsIn P ops C oi v a→
  ziQ P md ops C M R fuel (listed.setIfInBounds i true) (a.put oi.dst v)→ziQ P md ops C M R (fuel+1) listed a:=by
 intro fuel
 induction fuel with
 | zero =>
  intro listed a hc _ hr hy H
  refine⟨fun h=>(by rw [h] at hr;cases hr),fun j hj=>?_⟩
  by_cases hji:j=i
  ·subst hji;exact hy.qOp hi H
  ·have hj2:=ready_mono hj hji
   rw [H.1,hM] at hj2;obtain rfl:j=k:=by simpa using hj2
   obtain⟨o,ho,hall⟩:=zgI hj;exact absurd (zf5 hc f j o ho hn hall) (zoE hr)
 | succ fuel ih =>
  intro listed a hc hfree hr hy H
  refine⟨fun h=>(by rw [h] at hr;cases hr),fun j hj=>?_⟩
  by_cases hji:j=i
  ·subst hji;exact hy.qOp hi H
  ·have h1:=H.2 j (ready_mono hj hji)
   obtain⟨hjun,oj,hoj,hall⟩:=mem_ready.1 hj;have hnot:∀e∈oj.after,Region.binds md e=true→e.on≠i:=fun e he hb heq=>by
    have h1:=hall e he hb;have h0:=(mem_ready.1 hr).1;rw [heq] at h1;rcases Nat.lt_or_ge i listed.size with h'|h'
    ·simp [h'] at h0 h1;rw [h0] at h1;cases h1
    ·simp [Array.getElem?_eq_none h'] at h1
   have h2:=qOp_put hoj (hfree j oj hoj hji hjun hnot) (fun cs b=>hsel i oi cs b hi) (fun cs b=>hsel j oj cs b hoj) hy h1;have hfree':∀k ok,ops[k]?=some ok→k≠i→(listed.setIfInBounds j true).getD k true=false→
    (∀e∈ok.after,Region.binds md e=true→e.on≠i)→oi.apart ops ok=true:=fun k ok hk hki hun hno=>by
    refine hfree k ok hk hki ?_ hno
    by_cases hjk:j=k
    ·subst hjk;exact hjun
    ·rw [getD_set_ne true hjk] at hun;exact hun
   refine qOp_mono (fun a' h3=>ih (listed.setIfInBounds j true) a' (zhC hc hj) hfree' (ready_mono hr (Ne.symm hji)) h3.1 ?_) h2;rw [Array.setIfInBounds_comm _ _ hji];exact h3.2
def zfG:List Nat→Array Bool→Array Bool
 | [],m=>m
 | i :: is,m=>zfG is (m.setIfInBounds i true)
theorem zjv{rs:List Nat}:∀(is:List Nat) (listed:Array Bool),zep md ops rs is listed=true→Region.ready md ops (zfG is listed)=rs
 | [],_,h=>by simpa [zep,zfG] using h
 | i :: is,listed,h=>by
  simp only [zep,Bool.and_eq_true] at h;exact zjv is _ h.2
theorem zgL(hs:Region.noSelect ops=true){f:Nat}:∀(is:List Nat) (l:List Oper) (listed:Array Bool) (a:Act),is.map (fun i=>ops[i]?)=l.map some→
 zep md ops [k] is listed=true→(∀i∈is,zhZ md ops f k i=true)→zeB md ops listed→wpQuiet P ops C R l a→ziQ P md ops C (zfG is listed) R is.length listed a
 | [],[],listed,a,_,_,_,_,h=>⟨rfl,h⟩
 | [],_ :: _,_,_,hl,_,_,_,_=>by simp at hl
 | _ :: _,[],_,_,hl,_,_,_,_=>by simp at hl
 | i :: is,o :: l,listed,a,hl,hB,hn,hc,h=>by
  have hend:=zjv _ _ hB;simp only [List.map_cons,List.cons.injEq] at hl;obtain⟨h0,hl⟩:=hl;simp only [zep,Bool.and_eq_true] at hB;obtain⟨⟨hr,hf⟩,hB'⟩:=hB;have hst:qOp P ops C i (wpQuiet P ops C R l) a:=by unfold qOp;simp only [h0];exact h
  obtain⟨v,hy,hK⟩:=yieldsIn_of_qOp h0 hst;have hri:i∈Region.ready md ops listed:=by simpa using hr
  exact zko h0 (Region.noSelect_spec hs) hend (hn i (by simp)) is.length listed a hc (Region.free_spec h0 hf) hri hy
   (zgL hs is l _ _ hl hB' (fun j hj=>hn j (by simp [hj])) (zhC hc hri) hK)
theorem zbH{id:Nat}{Q:Exit→Act→World→Prop}{a:Act}{w:World}(is:List Nat)(k n:Nat){l:List Oper}(hm:P.follows .mixedOrders=true)
 (hB:(Region.noSelect ops && decide (is.length+n=ops.size)&& zep .any ops [k] is (Array.replicate ops.size false)&& is.all fun i=>zhZ .any ops ops.size k i)=true)
 (hl:is.map (fun i=>ops[i]?)=l.map some) (C:World→Prop) (hC:C { w with drawn:=w.drawn+1 })
 (h:wpQuiet P ops C (fun a'=>∀w',C w'→zbR P .any ops Q (fun _=>True) ops.size n (zfG is (Array.replicate ops.size false)) a' w') l a):(Code.region id ops true).wp P Q a w:=by
 simp only [Bool.and_eq_true,decide_eq_true_eq,List.all_eq_true] at hB;obtain⟨⟨⟨h1,h2⟩,h3⟩,h4⟩:=hB;refine wp_region_any hm ?_;have hc:zeB .any ops (Array.replicate ops.size false):=fun j o _ hj=>by
  rw [Array.getElem?_replicate] at hj;split at hj <;> cases hj
 have h5:=zgL (P:=P) (C:=C) (md := .any) h1 (f:=ops.size) is l (Array.replicate ops.size false) a hl h3 h4 hc h;have h6:=zip (n:=n) (Q:=Q) (fun a w hw hr=>zfl _ _ _ _ (hr w hw)) is.length (Array.replicate ops.size false) a _ hC h5;rw [h2] at h6;exact h6
theorem zJ{Q:Exit→Act→World→Prop}{S:World→Prop}{L i:Nat}{oi:Oper}{v:Value}{fuel:Nat}{listed:Array Bool}{a:Act}{w:World}(hi:ops[i]?=some oi)
 (hs:Region.noSelect ops=true) (hf:Region.free md ops listed i=true) (hr:(Region.ready md ops listed).contains i=true) (hw:ops.size≤L)
 (hQ:∀c a w,Q (.panic c) (a.put oi.dst v) w→Q (.panic c) a w) (hy:YieldsIf P ops S oi v a) (hS:S w)
 (h:zbR P md ops Q S L fuel (listed.setIfInBounds i true) (a.put oi.dst v) w):zbR P md ops Q S L (fuel+1) listed a w :=
 zf2 hi (Region.noSelect_spec hs) hQ (fun o ho=>by rw [Array.getElem?_eq_none hw] at ho;cases ho) fuel listed a w (Region.free_spec hi hf) (by simpa using hr) hy hS h
end
end Go.Wk
