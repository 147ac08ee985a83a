/-
  Plain: a region that draws its order, and out of which a panic leads whatever ..
-/
import Derived.Lib.QuietBelow
set_option maxRecDepth 100000
namespace Go.Wk
open Go Go.Sort Go.RowKit
section
variable {P:Program} {ops:Array Oper} {md:Region.Mode} {C:World->Prop} {T:List PanicEntry->World->Prop}
def dz(P:Program)(C:World->Prop)(T:List PanicEntry->World->Prop)(o:Oper)(a:Act):Prop :=
 ∀w,C w->o.wp P a w (λ_ _=>False) (λx _ w'=>∃ch,x = .panic ch/\T ch w')
theorem dz.wp{o:Oper}{a:Act}{w:World}{K:Act->World->Prop}{Q:Exit->Act->World->Prop}(h:dz P C T o a)(hw:C w)
 (hT:∀ch w',T ch w'->Q (.panic ch) a w'):o.wp P a w K Q:=by
 have h:=h w hw;unfold Oper.wp at *;generalize (execOp a.eval o).run P w=r at *
 cases r with
 | ok n w' =>
  cases n <;> simp only [Oper.upon] at h ⊢
  ·exact h.mono λe w'' he=>by
    cases e with
    | returned v=>exact he.elim
    | panicked ch=>obtain⟨ch',e1,h1⟩:=he;injection e1 with e1;subst e1;exact hT _ _ h1
    | outgrown=>obtain⟨_,_,ch,e1,_⟩:=he;cases e1
  ·exact Rows.mono h (λ_ _ he=>he.elim)
 | halt x w' =>
  cases x <;> simp only [Oper.upon] at h ⊢
  obtain⟨ch,e1,h1⟩:=h
  injection e1 with e1
  subst e1
  exact hT _ _ h1
def tOp(P:Program)(ops:Array Oper)(C:World->Prop)(T:List PanicEntry->World->Prop)(i:Nat)(K:Act->Prop)(a:Act):Prop :=
 match ops[i]? with
 | none=>K a
 | some o=>if Region.wanted o (yielded ops a.tmps)=true then(o.quiet P a C K\/dz P C T o a) else K (a.put o.dst undef)
theorem Ea{i:Nat}{a:Act}{K K':Act->Prop}(h:∀a,K a->K' a)(hh:tOp P ops C T i K a):tOp P ops C T i K' a:=by
 unfold tOp at *;split
 ·exact h _ (by simpa [*] using hh)
 ·rename_i o ho;simp only [ho] at hh;split
  ·rename_i hw;simp only [hw,if_true] at hh;exact hh.imp (Oper.quiet_mono h) id
  ·rename_i hw;simp only [hw] at hh;exact h _ hh
def kF(P:Program)(md:Region.Mode)(ops:Array Oper)(C:World->Prop)(T:List PanicEntry->World->Prop):Nat->Array Bool->Act->Prop
 | 0,_,_=>False
 | fuel+1,listed,a=>Region.ready md ops listed≠ []/\∀i∈Region.ready md ops listed,tOp P ops C T i (kF P md ops C T fuel (listed.setIfInBounds i true)) a
theorem nX(a:Act)(d:Option Tmp)(v:Value):(a.put d v).defers=a.defers:=by
 cases d <;> rfl
theorem eO{Q:Exit->Act->World->Prop}{D:List Deferred}(hT:∀a ch w',a.defers=D->T ch w'->Q (.panic ch) a w'):∀(fuel:Nat) (listed:Array Bool) (a:Act) (w:World),C w->a.defers=D->
 kF P md ops C T fuel listed a->wpAny P md ops Q fuel listed a w
 | 0,_,_,_,_,_,h=>h.elim
 | fuel+1,listed,a,w,hw,hd,h=>⟨λh0=>absurd h0 h.1,λi hi=>by
  have h2:=h.2 i hi
  unfold tOp at h2
  unfold wpOp
  split
  ·rename_i ho;simp only [ho] at h2;exact eO hT fuel _ a w hw hd h2
  ·rename_i o ho
   simp only [ho] at h2
   split
   ·rename_i hwd
    simp only [hwd,if_true] at h2
    refine .inl ?_
    rcases h2 with h3|h3
    ·have h4:o.quiet P a C (λa'=>a'.defers=D/\kF P md ops C T fuel (listed.setIfInBounds i true) a'):=by
      obtain⟨v,k1,k2⟩:=h3
      exact⟨v,k1,(nX _ _ _).trans hd,k2⟩
     exact Oper.wp_of_quiet hw (λa' w' hw' hk=>eO hT fuel _ a' w' hw' hk.1 hk.2) h4
    ·exact h3.wp hw (λch w' ht=>hT a ch w' hd ht)
   ·rename_i hwd
    simp only [hwd] at h2
    exact eO hT fuel _ _ w hw ((nX _ _ _).trans hd) h2⟩
theorem pi{i:Nat}{o:Oper}{v:Value}{a:Act}(hi:ops[i]?=some o)(hy:YieldsIn P ops C o v a){K:Act->Prop}(h:K (a.put o.dst v)):tOp P ops C T i K a:=by
 unfold tOp;simp only [hi];rcases hy with ⟨hw,hv⟩|⟨hw,rfl⟩
 ·simp only [hw,if_true];exact .inl ⟨v,hv,h⟩
 ·simp only [hw,Bool.false_eq_true,if_false];exact h
theorem rA{oi oj:Oper}{v:Value}(h1:∀d,oi.dst=some d->d ∉ oj.looksAt ops)(hsj:∀cs b,oj.op≠ .select cs b){a:Act}
 (h:dz P C T oj (a.put oi.dst v)):dz P C T oj a:=λw hw=>by
 have h:=h w hw
 unfold Oper.wp at *
 rw [execOp_put oj hsj a oi.dst v h1] at h
 generalize (execOp a.eval oj).run P w=r at *
 cases r with
 | ok n w'=>cases n <;> simp only [Oper.upon] at h ⊢ <;> exact h
 | halt x w'=>cases x <;> simp only [Oper.upon] at h ⊢ <;> exact h
theorem FV{j:Nat}{oi oj:Oper}{v:Value}(hj:ops[j]?=some oj)(hap:oi.apart ops oj=true)
 (hsi:∀cs b,oi.op≠ .select cs b) (hsj:∀cs b,oj.op≠ .select cs b) {K:Act->Prop} {a:Act}
 (hy:YieldsIn P ops C oi v a) (h:tOp P ops C T j K (a.put oi.dst v)):
 tOp P ops C T j (λa'=>YieldsIn P ops C oi v a'/\K (a'.put oi.dst v)) a:=by
 obtain⟨h1,h2,h3⟩:=Oper.apart_spec hap;have keep:∀(a:Act),YieldsIn P ops C oi v a->∀u,YieldsIn P ops C oi v (a.put oj.dst u):=λa hy u =>
  hy.of_same (execOp_put oi hsi a oj.dst u h3) (wanted_put oi a oj.dst u h3)
 unfold tOp at *;simp only [hj] at *;rw [wanted_put oj a oi.dst v h1] at h;split
 ·rename_i hw;simp only [hw,if_true] at h;rcases h with ⟨u,hu,hn⟩|h
  ·refine .inl ⟨u,λw hw'=>?_,keep a hy u,by rw [<-Act.put_comm a v u h2];exact hn⟩;have:=hu w hw';unfold Oper.quietAt at *;rwa [execOp_put oj hsj a oi.dst v h1] at this
  ·exact .inr (rA h1 hsj h)
 ·rename_i hw;simp only [hw] at h;exact⟨keep a hy _,by rw [<-Act.put_comm a v undef h2];exact h⟩
theorem q9{i:Nat}{oi:Oper}{v:Value}(hi:ops[i]?=some oi)(hsel:∀(j:Nat) (o:Oper) cs b,ops[j]?=some o->o.op≠ .select cs b):
 ∀(fuel:Nat) (listed:Array Bool) (a:Act),
  (∀j oj,ops[j]?=some oj->j≠i->listed.getD j true=false->(∀e∈oj.after,Region.binds md e=true->e.on≠i)->oi.apart ops oj=true)->
  i∈Region.ready md ops listed->YieldsIn P ops C oi v a->
  kF P md ops C T fuel (listed.setIfInBounds i true) (a.put oi.dst v)->kF P md ops C T (fuel+1) listed a:=by
 intro fuel
 induction fuel with
 | zero =>
  intro listed a _ hr hy H
  exact H.elim
 | succ fuel ih =>
  intro listed a hfree hr hy H
  refine⟨λh=>(by rw [h] at hr;cases hr),λj hj=>?_⟩
  by_cases hji:j=i
  ·subst hji;exact pi hi hy H
  ·have h1:=H.2 j (ready_mono hj hji)
   obtain⟨Eb,oj,G',hall⟩:=mem_ready.1 hj;have AA:∀e∈oj.after,Region.binds md e=true->e.on≠i:=λe he hb heq=>by
    have h1:=hall e he hb;have h0:=(mem_ready.1 hr).1;rw [heq] at h1;rcases Nat.lt_or_ge i listed.size with h'|h'
    ·simp [h'] at h0 h1;rw [h0] at h1;cases h1
    ·simp [Array.getElem?_eq_none h'] at h1
   have h2:=FV G' (hfree j oj G' hji Eb AA) (λcs b=>hsel i oi cs b hi) (λcs b=>hsel j oj cs b G') hy h1;have wO:∀k ok,ops[k]?=some ok->k≠i->(listed.setIfInBounds j true).getD k true=false->
    (∀e∈ok.after,Region.binds md e=true->e.on≠i)->oi.apart ops ok=true:=λk ok hk Lk od hno=>by
    refine hfree k ok hk Lk ?_ hno
    by_cases hjk:j=k
    ·subst hjk;exact Eb
    ·rw [getD_set_ne true hjk] at od;exact od
   refine Ea (λa' h3=>ih (listed.setIfInBounds j true) a' wO (ready_mono hr (Ne.symm hji)) h3.1 ?_) h2;rw [Array.setIfInBounds_comm _ _ hji];exact h3.2
def s9(md:Region.Mode)(ops:Array Oper)(rs:List Nat):List Nat->Array Bool->Bool
 | [],listed=>Region.ready md ops listed==rs
 | i :: is,listed=>(Region.ready md ops listed).contains i && Region.free md ops listed i && s9 md ops rs is (listed.setIfInBounds i true)
def fU(P:Program)(ops:Array Oper)(C:World->Prop)(T:List PanicEntry->World->Prop)(a:Act):List Nat->Prop
 | []=>True
 | i :: is=>(∀o,ops[i]?=some o->Region.wanted o (yielded ops a.tmps)=true/\dz P C T o a)/\fU P ops C T a is
theorem fU.at{a:Act}:∀ {rs:List Nat},fU P ops C T a rs->∀i∈rs,∀o,ops[i]?=some o->Region.wanted o (yielded ops a.tmps)=true/\dz P C T o a
 | [],_,_,hi=>nomatch hi
 | _ :: _,h,i,hi=>by
  rcases List.mem_cons.1 hi with rfl|hi
  ·exact h.1
  ·exact fU.at h.2 i hi
theorem lg{rs:List Nat}(hne:rs≠ [])(hs:Region.noSelect ops=true)(k:Nat):∀(is:List Nat) (l:List Oper) (listed:Array Bool) (a:Act),is.map (λi=>ops[i]?)=l.map some->
 s9 md ops rs is listed=true->wpQuiet P ops C (λa'=>fU P ops C T a' rs) l a->kF P md ops C T (is.length+k+1) listed a
 | [],[],listed,a,_,hB,h=>by
  have hB:Region.ready md ops listed=rs:=by simpa [s9] using hB
  rw [show [].length+k+1=k+1 by simp];refine⟨by rw [hB];exact hne,λi hi=>?_⟩;rw [hB] at hi;unfold tOp;obtain⟨-,o,ho,-⟩:=mem_ready.1 (hB ▸ hi:i∈Region.ready md ops listed);obtain⟨h1,h2⟩:=fU.at h i hi o ho;simp only [ho,h1,if_true];exact .inr h2
 | [],_ :: _,_,_,hl,_,_=>by simp at hl
 | _ :: _,[],_,_,hl,_,_=>by simp at hl
 | i :: is,o :: l,listed,a,hl,hB,h=>by
  simp only [List.map_cons,List.cons.injEq] at hl;obtain⟨h0,hl⟩:=hl;simp only [s9,Bool.and_eq_true] at hB;obtain⟨⟨hr,hf⟩,hB'⟩:=hB;have hst:qOp P ops C i (wpQuiet P ops C (λa'=>fU P ops C T a' rs) l) a:=by unfold qOp;simp only [h0];exact h
  obtain⟨v,hy,hK⟩:=yieldsIn_of_qOp h0 hst;rw [show(i :: is).length+k+1=(is.length+k+1)+1 by simp;omega];exact q9 h0 (Region.noSelect_spec hs) (is.length+k+1) listed a (Region.free_spec h0 hf) (by simpa using hr) hy
   (lg hne hs k is l _ _ hl hB' hK)
theorem aN{id:Nat}{Q:Exit->Act->World->Prop}{a:Act}{w:World}(is rs:List Nat){l:List Oper}(hm:P.follows .mixedOrders=true)(hne:rs≠ [])
 (hB:(Region.noSelect ops && decide (is.length<ops.size)&& s9 .any ops rs is (Array.replicate ops.size false))=true)
 (hl:is.map (λi=>ops[i]?)=l.map some) (C:World->Prop) (T:List PanicEntry->World->Prop) (hC:C { w with drawn:=w.drawn+1 }) (hT:∀a' ch w',a'.defers=a.defers->T ch w'->Q (.panic ch) a' w')
 (h:wpQuiet P ops C (λa'=>fU P ops C T a' rs) l a):(Code.region id ops true).wp P Q a w:=by
 simp only [Bool.and_eq_true,decide_eq_true_eq] at hB;obtain⟨⟨h1,h2⟩,h3⟩:=hB;refine wp_region_any hm (eO hT _ _ _ _ hC rfl ?_);have:=lg (P:=P) (C:=C) (T:=T) (md := .any) hne h1 (ops.size-is.length-1) is l (Array.replicate ops.size false) a hl h3 h;rwa [show is.length+(ops.size-is.length-1)+1=ops.size by omega] at this
end
end Go.Wk
