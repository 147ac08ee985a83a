/-
  Plain: a region that draws its order; what its reads tell hangs on a condition ..
-/
import Derived.Deep.RegionHeld3
set_option maxRecDepth 100000
namespace Go.Wk
open Go
section
variable {P:Program} {ops:Array Oper} {Q:Exit->Act->World->Prop} {md:Region.Mode} {S:World->Prop} {L:Nat}
def cV(P:Program)(md:Region.Mode)(ops:Array Oper)(Q:Exit->Act->World->Prop)(S:World->Prop)(L:Nat):Nat->Array Bool->Act->World->Prop
 | 0,listed,a,w=>Region.ready md ops listed = []/\Q .normal a w
 | fuel+1,listed,a,w =>
  (Region.ready md ops listed = []->Q .normal a w)/\
  ∀i∈Region.ready md ops listed,wpOp P ops Q i (λa' w'=>(i≠L->S w')/\cV P md ops Q S L fuel (listed.setIfInBounds i true) a' w') a w
theorem nY:∀(fuel:Nat) (listed:Array Bool) (a:Act) (w:World),cV P md ops Q S L fuel listed a w->wpAny P md ops Q fuel listed a w
 | 0,_,_,_,h=>h
 | fuel+1,_,_,_,h=>⟨h.1,λi hi=>wpOp_mono (λa' w' h'=>nY fuel _ a' w' h'.2) (h.2 i hi)⟩
theorem rN{i:Nat}{oi:Oper}{v:Value}(hi:ops[i]?=some oi)(hsel:∀(j:Nat) (o:Oper) cs b,ops[j]?=some o->o.op≠ .select cs b)
 (hQ:∀c a w,Q (.panic c) (a.put oi.dst v) w->Q (.panic c) a w) (hL:∀o,ops[L]?=some o->∃e∈o.after,Region.binds md e=true/\e.on=i):
 ∀(fuel:Nat) (listed:Array Bool) (a:Act) (w:World),
  (∀j oj,ops[j]?=some oj->j≠i->listed.getD j true=false->(∀e∈oj.after,Region.binds md e=true->e.on≠i)->oi.apart ops oj=true)->
  i∈Region.ready md ops listed->YieldsIf P ops S oi v a->S w->
  cV P md ops Q S L fuel (listed.setIfInBounds i true) (a.put oi.dst v) w->cV P md ops Q S L (fuel+1) listed a w:=by
 intro fuel
 induction fuel with
 | zero =>
  intro listed a w _ hr hy hS H
  refine⟨λh=>(by rw [h] at hr;cases hr),λj hj=>?_⟩
  by_cases hji:j=i
  ·subst hji;exact hy.wpOp hi hS ⟨λ_=>hS,H⟩
  ·have:=ready_mono hj hji
   rw [H.1] at this;cases this
 | succ fuel ih =>
  intro listed a w hfree hr hy hS H
  refine⟨λh=>(by rw [h] at hr;cases hr),λj hj=>?_⟩
  by_cases hji:j=i
  ·subst hji;exact hy.wpOp hi hS ⟨λ_=>hS,H⟩
  ·have h1:=H.2 j (ready_mono hj hji)
   obtain⟨Eb,oj,G',hall⟩:=mem_ready.1 hj;have AA:∀e∈oj.after,Region.binds md e=true->e.on≠i:=λe he hb heq=>by
    have h1:=hall e he hb;have h0:=(mem_ready.1 hr).1;rw [heq] at h1;rcases Nat.lt_or_ge i listed.size with h'|h'
    ·simp [h'] at h0 h1;rw [h0] at h1;cases h1
    ·simp [Array.getElem?_eq_none h'] at h1
   have hjL:j≠L:=λe=>by
    subst e;obtain⟨e,he,hb,hon⟩:=hL oj G';exact AA e he hb hon
   have h2:=wpOp_putIf G' (hfree j oj G' hji Eb AA) (λcs b=>hsel i oi cs b hi) (λcs b=>hsel j oj cs b G') hQ hy h1;have wO:∀k ok,ops[k]?=some ok->k≠i->(listed.setIfInBounds j true).getD k true=false->
    (∀e∈ok.after,Region.binds md e=true->e.on≠i)->oi.apart ops ok=true:=λk ok hk Lk od hno=>by
    refine hfree k ok hk Lk ?_ hno
    by_cases hjk:j=k
    ·subst hjk;exact Eb
    ·rw [getD_set_ne true hjk] at od;exact od
   refine wpOp_mono (λa' w' h3=>⟨h3.2.1,ih (listed.setIfInBounds j true) a' w' wO (ready_mono hr (Ne.symm hji)) h3.1 (h3.2.1 hjL) ?_⟩) h2;rw [Array.setIfInBounds_comm _ _ hji];exact h3.2.2
def xd(md:Region.Mode)(ops:Array Oper)(L i:Nat):Bool:=match ops[L]? with
 | some o=>o.after.any λe=>Region.binds md e && decide (e.on=i)
 | none=>false
theorem ve{i:Nat}(h:xd md ops L i=true):∀o,ops[L]?=some o->∃e∈o.after,Region.binds md e=true/\e.on=i:=λo ho=>by
 unfold xd at h;rw [ho] at h;simp only at h;obtain⟨k,hk,he⟩:=Array.any_iff_exists.1 h;simp only [Bool.and_eq_true,decide_eq_true_eq] at he;exact⟨_,Array.getElem_mem hk,he.2.2⟩
theorem aH{α:Type}:(∀(l:List α) (i:Nat) (x:α),l.toArray.setIfInBounds i x=(l.set i x).toArray)/\(∀(y x:α) (l:List α),(y :: l).set 0 x=x :: l)/\∀(y x:α) (l:List α) (n:Nat),(y :: l).set (n+1) x=y :: l.set n x :=
 ⟨λl i x=>by simp,λ_ _ _=>rfl,λ_ _ _ _=>rfl⟩
theorem uB{i:Nat}{oi:Oper}{v:Value}{fuel:Nat}{listed:Array Bool}{a:Act}{w:World}(hi:ops[i]?=some oi)
 (hs:Region.noSelect ops=true) (hf:Region.free md ops listed i=true) (hr:(Region.ready md ops listed).contains i=true) (hw:xd md ops L i=true)
 (hQ:∀c a w,Q (.panic c) (a.put oi.dst v) w->Q (.panic c) a w) (hy:YieldsIf P ops S oi v a) (hS:S w)
 (h:cV P md ops Q S L fuel (listed.setIfInBounds i true) (a.put oi.dst v) w):cV P md ops Q S L (fuel+1) listed a w :=
 rN hi (Region.noSelect_spec hs) hQ (ve hw) fuel listed a w (Region.free_spec hi hf) (by simpa using hr) hy hS h
theorem jw(i:Nat)(t:Tmp)(v:Value){op:Op}{ty:TypeId}{ps:String}{af:Array Edge}{gd:Option (Nat × Bool)}{fuel:Nat}{listed:Array Bool}{a:Act}{w:World}(hi:ops[i]?=some ⟨some t,op,ty,ps,af,gd⟩)
 (hy:∀w,S w->(execOp a.eval ⟨some t,op,ty,ps,af,gd⟩).run P w = .ok (.value v) w) (hS:S w)
 (h:cV P md ops Q S L fuel (listed.setIfInBounds i true) (a.put (some t) v) w)
 (hs:Region.noSelect ops=true:=by kernel_rfl) (hf:Region.free md ops listed i=true:=by kernel_rfl) (hr:(Region.ready md ops listed).contains i=true:=by kernel_rfl) (hw:xd md ops L i=true:=by kernel_rfl)
 (hQ:∀c a w,Q (.panic c) (a.put (some t) v) w->Q (.panic c) a w:=by exact λ_ _ _ h=>h)
 (hg:Region.wanted ⟨some t,op,ty,ps,af,gd⟩ (yielded ops a.tmps)=true:=by rfl):cV P md ops Q S L (fuel+1) listed a w :=
 uB hi hs hf hr hw hQ (.inl ⟨hg,hy⟩) hS h
theorem aX{i:Nat}{o:Oper}{fuel:Nat}{listed:Array Bool}{a:Act}{w:World}(hr:Region.ready md ops listed = [i])(ho:ops[i]?=some o)
 (h:∀K':Act->World->Prop,Shut (∀a w,(i≠L->S w)->cV P md ops Q S L fuel (listed.setIfInBounds i true) a w->K' a w)->if Region.wanted o (yielded ops a.tmps)=true then Oper.wp P o a w K' Q else K' (a.put o.dst undef) w):
 cV P md ops Q S L (fuel+1) listed a w :=
 ⟨λh0=>(by rw [hr] at h0;cases h0),λj hj=>by
  rw [hr] at hj
  have:j=i:=by simpa using hj
  subst this
  exact wpOp_step ho (λK' hK=>h K' (λa w hS hW=>hK a w ⟨hS,hW⟩))⟩
theorem ll{fuel:Nat}{listed:Array Bool}{a:Act}{w:World}(hr:Region.ready md ops listed = [])(h:Q .normal a w):cV P md ops Q S L fuel listed a w:=by
 cases fuel with
 | zero=>exact⟨hr,h⟩
 | succ n=>exact⟨λ_=>h,by rw [hr];simp⟩
theorem lz(S:World->Prop)(L:Nat){id:Nat}{a:Act}{w:World}(hm:P.follows .mixedOrders=true)(hS:S w.drew)
 (h:S w.drew->cV P .any ops Q S L ops.size (Array.replicate ops.size false) a w.drew):(Code.region id ops true).wp P Q a w :=
 wp_region_any hm (nY _ _ _ _ (h hS))
end
end Go.Wk
