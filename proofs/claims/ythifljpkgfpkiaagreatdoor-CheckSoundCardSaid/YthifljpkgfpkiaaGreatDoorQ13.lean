/-
  Plain: a region that draws its order, whose reads come up in any order ahead of ..
-/
import Derived.Test.YthifljpkgfpkiaaGreatDoorQ8
import Derived.Test.YthifljpkgfpkiaaGreatDoorQ9
set_option maxRecDepth 100000
namespace Go.Wk
open Go Go.Sort Go.RowKit
section
variable {P:Program} {ops:Array Oper} {md:Region.Mode} {C:World->Prop} {R:Act->Prop} {M:Array Bool} {k:Nat}
def tK(P:Program)(md:Region.Mode)(ops:Array Oper)(C:World->Prop)(M:Array Bool)(R:Act->Prop):Nat->Array Bool->Act->Prop
 | 0,listed,a=>listed=M/\R a
 | fuel+1,listed,a=>Region.ready md ops listed≠ []/\∀i∈Region.ready md ops listed,qOp P ops C i (tK P md ops C M R fuel (listed.setIfInBounds i true)) a
theorem vC{n:Nat}{Q:Exit->Act->World->Prop}(hQ:∀a w,C w->R a->wpAny P md ops Q n M a w):∀(fuel:Nat) (listed:Array Bool) (a:Act) (w:World),C w->
 tK P md ops C M R fuel listed a->wpAny P md ops Q (fuel+n) listed a w
 | 0,_,a,w,hw,h=>by
  obtain⟨rfl,h⟩:=h;rw [Nat.zero_add];exact hQ a w hw h
 | fuel+1,_,_,_,hw,h=>by
  rw [show fuel+1+n=(fuel+n)+1 by omega];exact⟨λh0=>absurd h0 h.1,λi hi=>wpOp_of_qOp hw (λa' w' hw'=>vC hQ fuel _ a' w' hw') (h.2 i hi)⟩
def ml(md:Region.Mode)(ops:Array Oper)(listed:Array Bool):Prop:=∀(j:Nat) (o:Oper),ops[j]?=some o->listed[j]?=some true->∀e∈o.after,Region.binds md e=true->listed[e.on]?=some true
def u7(md:Region.Mode)(ops:Array Oper):Nat->Nat->Nat->Bool
 | 0,_,_=>false
 | f+1,k,i=>match ops[k]? with
  | some o=>o.after.any λe=>Region.binds md e &&(decide (e.on=i)|| u7 md ops f e.on i)
  | none=>false
theorem pE{listed:Array Bool}(hc:ml md ops listed){i:Nat}:∀(f k:Nat) (o:Oper),ops[k]?=some o->u7 md ops f k i=true->(∀e∈o.after,Region.binds md e=true->listed[e.on]?=some true)->listed[i]?=some true
 | 0,_,_,_,h,_=>by cases h
 | f+1,k,o,ho,h,ha=>by
  unfold u7 at h;rw [ho] at h;simp only at h;obtain⟨q,hq,he⟩:=Array.any_iff_exists.1 h;simp only [Bool.and_eq_true,Bool.or_eq_true,decide_eq_true_eq] at he;have hl:=ha _ (Array.getElem_mem hq) he.2.2.1;rcases he.2.2.2 with e1|e2
  ·rw [e1] at hl;exact hl
  ·cases f with
   | zero=>cases e2
   | succ f =>
    have e3:=e2
    unfold u7 at e3
    split at e3
    ·rename_i o2 UP
     exact pE hc (f+1) _ o2 UP e2 (hc _ o2 UP hl)
    ·cases e3
theorem re{listed:Array Bool}{j:Nat}(h:j∈Region.ready md ops listed):∃o,ops[j]?=some o/\∀e∈o.after,Region.binds md e=true->listed[e.on]?=some true:=by
 obtain⟨-,o,ho,hall⟩:=mem_ready.1 h;refine⟨o,ho,λe he hb=>?_⟩;have h1:=hall e he hb;rcases Nat.lt_or_ge e.on listed.size with h'|h'
 ·simp [h'] at h1 ⊢;exact h1
 ·simp [Array.getElem?_eq_none h'] at h1
theorem Mn{listed:Array Bool}{j:Nat}(h:j∈Region.ready md ops listed):listed[j]?≠some true:=by
 have h0:=(mem_ready.1 h).1;intro h1;rcases Nat.lt_or_ge j listed.size with h'|h'
 ·simp [h'] at h0 h1;rw [h0] at h1;cases h1
 ·simp [Array.getElem?_eq_none h'] at h1
theorem uB{listed:Array Bool}{i:Nat}(hc:ml md ops listed)(hi:i∈Region.ready md ops listed):ml md ops (listed.setIfInBounds i true):=by
 have up:∀ {j:Nat},listed[j]?=some true->(listed.setIfInBounds i true)[j]?=some true:=λ{j} h=>by
  rw [Array.getElem?_setIfInBounds];split
  ·rename_i e;subst e;split
   ·rfl
   ·rename_i hs;rw [Array.getElem?_eq_none (by omega)] at h;cases h
  ·exact h
 intro j o ho hj e he hb;by_cases hji:i=j
 ·subst hji;obtain⟨o',Y',hall⟩:=re hi;rw [ho] at Y';injection Y' with Y';subst Y';exact up (hall e he hb)
 ·rw [Array.getElem?_setIfInBounds,if_neg hji] at hj;exact up (hc j o ho hj e he hb)
theorem AE{i:Nat}{oi:Oper}{v:Value}(hi:ops[i]?=some oi)(hsel:∀(j:Nat) (o:Oper) cs b,ops[j]?=some o->o.op≠ .select cs b)(hM:Region.ready md ops M = [k]){f:Nat}(hn:u7 md ops f k i=true):
 ∀(fuel:Nat) (listed:Array Bool) (a:Act),ml md ops listed->
  (∀j oj,ops[j]?=some oj->j≠i->listed.getD j true=false->(∀e∈oj.after,Region.binds md e=true->e.on≠i)->oi.apart ops oj=true)->
  i∈Region.ready md ops listed->YieldsIn P ops C oi v a->
  tK P md ops C M R fuel (listed.setIfInBounds i true) (a.put oi.dst v)->tK P md ops C M R (fuel+1) listed a:=by
 intro fuel
 induction fuel with
 | zero =>
  intro listed a hc _ hr hy H
  refine⟨λh=>(by rw [h] at hr;cases hr),λj hj=>?_⟩
  by_cases hji:j=i
  ·subst hji;exact hy.qOp hi H
  ·have hj2:=ready_mono hj hji
   rw [H.1,hM] at hj2;obtain rfl:j=k:=by simpa using hj2
   obtain⟨o,ho,hall⟩:=re hj;exact absurd (pE hc f j o ho hn hall) (Mn hr)
 | succ fuel ih =>
  intro listed a hc hfree hr hy H
  refine⟨λh=>(by rw [h] at hr;cases hr),λj hj=>?_⟩
  by_cases hji:j=i
  ·subst hji;exact hy.qOp hi H
  ·have h1:=H.2 j (ready_mono hj hji)
   obtain⟨FG,oj,MQ,hall⟩:=mem_ready.1 hj;have Fz:∀e∈oj.after,Region.binds md e=true->e.on≠i:=λe he hb heq=>by
    have h1:=hall e he hb;have h0:=(mem_ready.1 hr).1;rw [heq] at h1;rcases Nat.lt_or_ge i listed.size with h'|h'
    ·simp [h'] at h0 h1;rw [h0] at h1;cases h1
    ·simp [Array.getElem?_eq_none h'] at h1
   have h2:=qOp_put MQ (hfree j oj MQ hji FG Fz) (λcs b=>hsel i oi cs b hi) (λcs b=>hsel j oj cs b MQ) hy h1;have we:∀k ok,ops[k]?=some ok->k≠i->(listed.setIfInBounds j true).getD k true=false->
    (∀e∈ok.after,Region.binds md e=true->e.on≠i)->oi.apart ops ok=true:=λk ok hk Xb BS hno=>by
    refine hfree k ok hk Xb ?_ hno
    by_cases hjk:j=k
    ·subst hjk;exact FG
    ·rw [getD_set_ne true hjk] at BS;exact BS
   refine qOp_mono (λa' h3=>ih (listed.setIfInBounds j true) a' (uB hc hj) we (ready_mono hr (Ne.symm hji)) h3.1 ?_) h2;rw [Array.setIfInBounds_comm _ _ hji];exact h3.2
def pO:List Nat->Array Bool->Array Bool
 | [],m=>m
 | i :: is,m=>pO is (m.setIfInBounds i true)
theorem ye{rs:List Nat}:∀(is:List Nat) (listed:Array Bool),lU md ops rs is listed=true->Region.ready md ops (pO is listed)=rs
 | [],_,h=>by simpa [lU,pO] using h
 | i :: is,listed,h=>by
  simp only [lU,Bool.and_eq_true] at h;exact ye is _ h.2
theorem rA(hs:Region.noSelect ops=true){f:Nat}:∀(is:List Nat) (l:List Oper) (listed:Array Bool) (a:Act),is.map (λi=>ops[i]?)=l.map some->
 lU md ops [k] is listed=true->(∀i∈is,u7 md ops f k i=true)->ml md ops listed->wpQuiet P ops C R l a->tK P md ops C (pO is listed) R is.length listed a
 | [],[],listed,a,_,_,_,_,h=>⟨rfl,h⟩
 | [],_ :: _,_,_,hl,_,_,_,_=>by simp at hl
 | _ :: _,[],_,_,hl,_,_,_,_=>by simp at hl
 | i :: is,o :: l,listed,a,hl,hB,hn,hc,h=>by
  have hend:=ye _ _ hB;simp only [List.map_cons,List.cons.injEq] at hl;obtain⟨h0,hl⟩:=hl;simp only [lU,Bool.and_eq_true] at hB;obtain⟨⟨hr,hf⟩,hB'⟩:=hB;have hst:qOp P ops C i (wpQuiet P ops C R l) a:=by unfold qOp;simp only [h0];exact h
  obtain⟨v,hy,hK⟩:=yieldsIn_of_qOp h0 hst;have hri:i∈Region.ready md ops listed:=by simpa using hr
  exact AE h0 (Region.noSelect_spec hs) hend (hn i (by simp)) is.length listed a hc (Region.free_spec h0 hf) hri hy
   (rA hs is l _ _ hl hB' (λj hj=>hn j (by simp [hj])) (uB hc hri) hK)
theorem dR{id:Nat}{Q:Exit->Act->World->Prop}{a:Act}{w:World}(is:List Nat)(k n:Nat){l:List Oper}(hm:P.follows .mixedOrders=true)
 (hB:(Region.noSelect ops && decide (is.length+n=ops.size)&& lU .any ops [k] is (Array.replicate ops.size false)&& is.all λi=>u7 .any ops ops.size k i)=true)
 (hl:is.map (λi=>ops[i]?)=l.map some) (C:World->Prop) (hC:C { w with drawn:=w.drawn+1 })
 (h:wpQuiet P ops C (λa'=>∀w',C w'->co P .any ops Q (λ_=>True) ops.size n (pO is (Array.replicate ops.size false)) a' w') l a):(Code.region id ops true).wp P Q a w:=by
 simp only [Bool.and_eq_true,decide_eq_true_eq,List.all_eq_true] at hB;obtain⟨⟨⟨h1,h2⟩,h3⟩,h4⟩:=hB;refine wp_region_any hm ?_;have hc:ml .any ops (Array.replicate ops.size false):=λj o _ hj=>by
  rw [Array.getElem?_replicate] at hj;split at hj <;> cases hj
 have h5:=rA (P:=P) (C:=C) (md := .any) h1 (f:=ops.size) is l (Array.replicate ops.size false) a hl h3 h4 hc h;have h6:=vC (n:=n) (Q:=Q) (λa w hw hr=>nP _ _ _ _ (hr w hw)) is.length (Array.replicate ops.size false) a _ hC h5;rw [h2] at h6;exact h6
theorem yJ{Q:Exit->Act->World->Prop}{S:World->Prop}{L i:Nat}{oi:Oper}{v:Value}{fuel:Nat}{listed:Array Bool}{a:Act}{w:World}(hi:ops[i]?=some oi)
 (hs:Region.noSelect ops=true) (hf:Region.free md ops listed i=true) (hr:(Region.ready md ops listed).contains i=true) (hw:ops.size<=L)
 (hQ:∀c a w,Q (.panic c) (a.put oi.dst v) w->Q (.panic c) a w) (hy:YieldsIf P ops S oi v a) (hS:S w)
 (h:co P md ops Q S L fuel (listed.setIfInBounds i true) (a.put oi.dst v) w):co P md ops Q S L (fuel+1) listed a w :=
 o8 hi (Region.noSelect_spec hs) hQ (λo ho=>by rw [Array.getElem?_eq_none hw] at ho;cases ho) fuel listed a w (Region.free_spec hi hf) (by simpa using hr) hy hS h
theorem ji{Q:Exit->Act->World->Prop}{S:World->Prop}{L:Nat}(i:Nat)(v:Value){oi:Oper}{fuel:Nat}{listed:Array Bool}{a:Act}{w:World}(hi:ops[i]?=some oi)
 (hy:∀w,S w->(execOp a.eval oi).run P w = .ok (.value v) w) (hS:S w)
 (h:co P md ops Q S L fuel (listed.setIfInBounds i true) (a.put oi.dst v) w)
 (hs:Region.noSelect ops=true:=by kernel_rfl) (hf:Region.free md ops listed i=true:=by kernel_rfl) (hr:(Region.ready md ops listed).contains i=true:=by kernel_rfl) (hw:ops.size<=L:=by exact Nat.le_refl _)
 (hQ:∀c a w,Q (.panic c) (a.put oi.dst v) w->Q (.panic c) a w:=by exact λ_ _ _ h=>h)
 (hg:Region.wanted oi (yielded ops a.tmps)=true:=by rfl):co P md ops Q S L (fuel+1) listed a w :=
 yJ hi hs hf hr hw hQ (.inl ⟨hg,hy⟩) hS h
end
end Go.Wk
