/-
  No expression tells the error 0. No program in sight. Plain: sets of values: ..
-/
import Derived.Test.YthifljpkgfpkiaaGreatDoorQ45
set_option maxRecDepth 100000
set_option maxHeartbeats 4000000
namespace Go.Proofs.YthifljpkgfpkiaaGreatDoor
open Go.RowKit Go.Wk
theorem oR{e:Int}{b:Bool}:aJ e b≠ .error 0:=λh=>by
 unfold aJ at h;split at h
 ·cases h
 ·rename_i hn;injection h with h;exact hn h
theorem l7{e:Int}{V:List Nd}:jx e V≠ .error 0:=λh=>by
 unfold jx at h;split at h
 ·cases h
 ·rename_i hn;injection h with h;exact hn h
theorem Kj{σ:Env}{s:ByteArray}:bp σ s≠ .error 0:=λh=>by
 unfold bp at h
 repeat (split at h;· cases h)
 injection h with h;cases h
theorem h9{k:Int}(hk:k≠0):(Except.error k:Res)≠ .error 0:=λh=>by injection h with h;exact hk h
theorem RO{E:List En}{V:List Nd}:cf E V≠ .error 0:=λh=>by
 unfold cf at h;split at h
 ·cases h
 ·split at h
  ·cases h
  ·injection h with h;cases h
theorem Sr{E:List En}{n:Nd}{V:List Nd}:bq E n V≠ .error 0:=λh=>by
 unfold bq at h;split at h
 ·split at h
  ·cases h
  ·exact h9 (by decide) h
 ·split at h
  ·split at h
   ·exact l7 h
   ·exact h9 (by decide) h
  ·split at h
   ·split at h
    ·exact oR h
    ·exact h9 (by decide) h
   ·split at h
    ·split at h
     ·cases h
     ·exact h9 (by decide) h
    ·rcases hr:cf E V with e|(_|r)
     ·rw [hr] at h;simp only at h;injection h with h;subst h;exact RO hr
     ·rw [hr] at h;simp only at h;split at h
      ·cases h
      ·exact h9 (by decide) h
     ·rw [hr] at h;simp only at h;split at h
      ·cases h
      ·exact l7 h
theorem RI{E:List En}{op:Int}{A B:List Nd}:aS E op A B≠ .error 0:=λh=>by
 unfold aS at h;split at h
 ·cases h
 ·split at h
  ·unfold inX at h;split at h
   ·cases h
   ·exact h9 (by decide) h
  ·split at h
   ·exact oR h
   ·split at h
    ·exact oR h
    ·split at h
     ·exact oR h
     ·split at h
      ·split at h
       ·cases h
       ·split at h
        ·cases h
        ·exact l7 h
      ·exact h9 (by decide) h
theorem JJ{σ:Env}:∀(ps:Exs) (L:List (List Nd)),evS σ ps = .ok L->L.length=ps.len
 | .nil,L,h=>by
  unfold evS at h;injection h with h;subst h;rfl
 | .cons x r,L,h=>by
  unfold evS at h;rcases hx:evX σ x with e|W
  ·rw [hx] at h;cases h
  ·rw [hx] at h;simp only at h;rcases hr:evS σ r with e|M
   ·rw [hr] at h;cases h
   ·rw [hr] at h;simp only at h;injection h with h;subst h;simp only [List.length_cons,Exs.len,JJ r M hr]
mutual
theorem qu{σ:Env}:∀(x:Ex),x.valid false->evX σ x≠ .error 0
 | .node n ps,hv=>λh=>by
  obtain⟨h1,h2,h3⟩:=hv;unfold bP at h1;rw [Bool.and_eq_true] at h1;obtain⟨hf,h7⟩:=h1;have h7':n.op≠7:=by simpa using h7
  unfold evX at h;split at h
  ·cases h
  ·rename_i g14;split at h
   ·exact Kj h
   ·rename_i g8;split at h
    ·rename_i g;have hr:jG n=false:=decide_eq_false (by omega);have hl:(ps.len:Int)=2:=by
      rw [h2];unfold zG;rw [if_neg (by omega),if_neg (by omega),if_neg (by omega),if_neg (by omega),if_pos (by omega)]
     rw [hr] at h3;exact Cj ps _ h3 (by omega) _ h
    ·rename_i g11;split at h
     ·rename_i g;have hr:jG n=false:=decide_eq_false (by omega);have hl:(ps.len:Int)=3:=by
       rw [h2];unfold zG;rw [if_neg (by omega),if_neg (by omega),if_neg (by omega),if_pos (by omega)]
      rw [hr] at h3;exact Tu ps _ h3 (by omega) h
     ·rename_i g13;split at h
      ·rename_i g6;have hr:jG n=true:=decide_eq_true g6;rw [hr] at h3;rcases hF:evF σ ps with e|L
       ·rw [hF] at h;simp only at h;injection h with h;subst h;exact QM ps _ h3 hF
       ·rw [hF] at h;exact l7 h
      ·rename_i g6;have hr:jG n=false:=decide_eq_false g6;rw [hr] at h3;rcases hS:evS σ ps with e|L
       ·rw [hS] at h;simp only at h;injection h with h;subst h;exact Nb ps _ h3 hS
       ·rw [hS] at h;simp only at h;split at h
        ·exact l7 h
        ·rename_i g5;have hL:=JJ ps L hS;have hlen:ps.len=1\/ps.len=2:=by
          unfold zG at h2;rw [if_neg (by omega),if_neg (by omega)] at h2;split at h2
          ·omega
          ·split at h2
           ·omega
           ·omega
         match L,hL with
         | [],hL=>simp only [List.length_nil] at hL;omega
         | [V],_=>exact Sr h
         | [A,B],_=>exact RI h
         | _ :: _ :: _ :: _,hL=>simp only [List.length_cons] at hL;omega
theorem Cj{σ:Env}:∀(ps:Exs) (s:ByteArray),ps.valid false s->2<=ps.len->∀(o:Bool),zZ σ o ps≠ .error 0
 | .nil,_,_,hl,_=>λ_=>by simp only [Exs.len] at hl;omega
 | .cons a r,s,hv,hl,o=>λh=>by
  simp only [Exs.len] at hl;unfold zZ at h;rcases ha:evX σ a with e|W
  ·rw [ha] at h;simp only at h;injection h with h;subst h;exact qu a hv.2.1 ha
  ·rw [ha] at h;simp only at h;split at h
   ·split at h
    ·cases h
    ·exact JU r _ hv.2.2 (by omega) h
   ·exact h9 (by decide) h
theorem JU{σ:Env}:∀(ps:Exs) (s:ByteArray),ps.valid false s->1<=ps.len->aY σ ps≠ .error 0
 | .nil,_,_,hl=>λ_=>by simp only [Exs.len] at hl;omega
 | .cons b r,s,hv,hl=>λh=>by
  unfold aY at h;rcases hb:evX σ b with e|W
  ·rw [hb] at h;simp only at h;injection h with h;subst h;exact qu b hv.2.1 hb
  ·rw [hb] at h;simp only at h;split at h
   ·cases h
   ·exact h9 (by decide) h
theorem Tu{σ:Env}:∀(ps:Exs) (s:ByteArray),ps.valid false s->3<=ps.len->lj σ ps≠ .error 0
 | .nil,_,_,hl=>λ_=>by simp only [Exs.len] at hl;omega
 | .cons b r,s,hv,hl=>λh=>by
  simp only [Exs.len] at hl;unfold lj at h;rcases hb:evX σ b with e|W
  ·rw [hb] at h;simp only at h;injection h with h;subst h;exact qu b hv.2.1 hb
  ·rw [hb] at h;simp only at h;split at h
   ·split at h
    ·exact vX r _ hv.2.2 (by omega) h
    ·exact OK r _ hv.2.2 (by omega) h
   ·exact h9 (by decide) h
theorem vX{σ:Env}:∀(ps:Exs) (s:ByteArray),ps.valid false s->1<=ps.len->k9 σ ps≠ .error 0
 | .nil,_,_,hl=>λ_=>by simp only [Exs.len] at hl;omega
 | .cons a r,s,hv,hl=>λh=>by
  unfold k9 at h;exact qu a hv.2.1 h
theorem OK{σ:Env}:∀(ps:Exs) (s:ByteArray),ps.valid false s->2<=ps.len->rk σ ps≠ .error 0
 | .nil,_,_,hl=>λ_=>by simp only [Exs.len] at hl;omega
 | .cons a r,s,hv,hl=>λh=>by
  simp only [Exs.len] at hl;unfold rk at h;exact vX r _ hv.2.2 (by omega) h
theorem Nb{σ:Env}:∀(ps:Exs) (s:ByteArray),ps.valid false s->evS σ ps≠ .error 0
 | .nil,_,_=>λh=>by unfold evS at h;cases h
 | .cons x r,s,hv=>λh=>by
  unfold evS at h;rcases hx:evX σ x with e|W
  ·rw [hx] at h;simp only at h;injection h with h;subst h;exact qu x hv.2.1 hx
  ·rw [hx] at h;simp only at h;rcases hr:evS σ r with e|M
   ·rw [hr] at h;simp only at h;injection h with h;subst h;exact Nb r _ hv.2.2 hr
   ·rw [hr] at h;cases h
theorem QM{σ:Env}:∀(ps:Exs) (s:ByteArray),ps.valid true s->evF σ ps≠ .error 0
 | .nil,_,_=>λh=>by unfold evF at h;cases h
 | .cons x r,s,hv=>λh=>by
  unfold evF at h;rcases hx:ni σ x with e|W
  ·rw [hx] at h;simp only at h;injection h with h;subst h;exact NG x hv.2.1 hx
  ·rw [hx] at h;simp only at h;rcases hr:evF σ r with e|M
   ·rw [hr] at h;simp only at h;injection h with h;subst h;exact QM r _ hv.2.2 hr
   ·rw [hr] at h;cases h
theorem NG{σ:Env}:∀(x:Ex),x.valid true->ni σ x≠ .error 0
 | .node n ps,hv=>λh=>by
  obtain⟨h1,h2,h3⟩:=hv;unfold bP at h1;rw [Bool.and_eq_true] at h1;have h7:n.op=7:=by simpa using h1.2
  have hr:jG n=false:=decide_eq_false (by omega);have hl:(ps.len:Int)=1:=by
   rw [h2];unfold zG;rw [if_neg (by omega),if_neg (by omega),if_pos (by omega)]
  rw [hr] at h3;unfold ni at h;exact vX ps _ h3 (by omega) h
end
noncomputable def upF(σ:Env)(P:List Nd):Int:=or2 (jU σ.E) (or2 (oS σ.who σ.act σ.what σ.ctx) (jz P))
noncomputable def dl(σ:Env)(P:List Nd):Res:=if upF σ P=0 then(match py P with|some x=>evX σ x|none => .error 1) else .error (upF σ P)
def VU:Res->Int
 | .ok _=>0
 | .error e=>e
def Zx:Res->List Nd
 | .ok V=>V
 | .error _ => []
theorem Qm{σ:Env}(h1:jU σ.E=0)(h2:oS σ.who σ.act σ.what σ.ctx=0):gQ σ:=by
 unfold oS at h2;obtain⟨a1,h2⟩:=zB.1 h2;obtain⟨a2,h2⟩:=zB.1 h2;obtain⟨a3,h2⟩:=zB.1 h2;obtain⟨a4,a5⟩:=zB.1 h2;refine⟨h1,a1,a2,a3,a4,?_⟩;by_cases g:zg σ.ctx=6
 ·exact g
 ·rw [if_neg g] at a5;cases a5
theorem Pp{σ:Env}{P:List Nd}(h:upF σ P=0):gQ σ/\P.length<=200/\∃x:Ex,x.valid false/\P=x.flat:=by
 unfold upF at h;obtain⟨h1,h⟩:=zB.1 h;obtain⟨h2,h3⟩:=zB.1 h;exact⟨Qm h1 h2,cB.1 h3⟩
theorem xi{σ:Env}{P:List Nd}{x:Ex}(h:upF σ P=0)(hx:x.valid false)(e:P=x.flat):dl σ P=evX σ x:=by
 unfold dl;rw [if_pos h,fC.2 ⟨hx,e⟩]
end Go.Proofs.YthifljpkgfpkiaaGreatDoor
namespace Go.Wk
section
variable {P Q:List Nd} (h:aO P Q=0)
include h
end
end Go.Wk
namespace Go.Proofs.YthifljpkgfpkiaaGreatDoor
open Go.RowKit Go.Wk
def setX(L:List Ex):Ex := .node ⟨5,L.length,emp,emp⟩ (match L with
 | [a,b] => .cons a (.cons b .nil)
 | [a,b,c] => .cons a (.cons b (.cons c .nil))
 | _ => .nil)
theorem E7(p:List Nd):∀l:List (List Nd),(vH p l).length<=l.length+1
 | []=>by simp [vH]
 | q :: r=>by
  have:=E7 p r;simp only [vH];split
  ·simp
  ·split
   ·simp
   ·simp only [List.length_cons];omega
theorem Fp:∀l:List (List Nd),(fh l).length<=l.length
 | []=>by simp [fh]
 | p :: r=>by
  have h1:=Fp r;have h2:=E7 p (fh r);simp only [fh,List.length_cons];omega
theorem pJ:∀l:List (List Nd),(∀x∈l,x.length=1)->l.flatten.length=l.length
 | [],_=>rfl
 | x :: r,h=>by
  have h1:=h x (by simp);have h2:=pJ r λy hy=>h y (by simp [hy]);simp only [List.flatten_cons,List.length_append,List.length_cons];omega
theorem EN{T:List Ud}(h:∀t∈T,zN t=0)(hl:T.length<=199):setE (T.map ib)=0:=by
 refine qS.2 ⟨gY.2 λP hP=>?_,?_⟩
 ·obtain⟨t,ht,rfl⟩:=List.mem_map.1 hP;exact su (h t ht)
 ·rw [pJ _ λx hx=>by
   obtain⟨t,-,rfl⟩:=List.mem_map.1 (dC.1 hx)
   rfl]
  have:=Fp (T.map ib);rw [List.length_map] at this;omega
def wt(u:Ud):Ex := .node ⟨4,0,u.1,u.2⟩ .nil
theorem qN(u:Ud):(wt u).flat=ib u:=by simp [wt,Ex.flat,Exs.flat,ib]
theorem I5(σ:Env)(u:Ud):evX σ (wt u)= .ok (wt u).flat:=by
 rw [qN];unfold wt;rw [evX,if_pos (show(1:Int)<=4/\(4:Int)<=4 by decide)];rfl
def P8(T:List Ud):Ex := .node ⟨5,T.length,emp,emp⟩ (CB (T.map wt))
theorem Na(σ:Env){T:List Ud}(h:∀t∈T,zN t=0)(hl:T.length<=199):evX σ (P8 T)= .ok (kr (T.map ib)):=by
 unfold P8;rw [evX];have e5:(⟨5,(T.length:Int),emp,emp⟩:Nd).op=5:=rfl;rw [e5,if_neg (by decide),if_neg (by decide),if_neg (by decide),if_neg (by decide),if_neg (by decide)];rw [Oi σ (T.map wt) λx hx=>by
  obtain⟨t,-,rfl⟩:=List.mem_map.1 hx
  exact I5 σ t]
 rw [List.map_map,show Ex.flat ∘ wt=ib from funext qN];simp only [if_true];unfold jx;rw [if_pos (EN h hl)]
theorem jB(σ:Env){u:Ud}{T:List Ud}(h:∀t∈T,zN t=0)(hl:T.length<=199):
 evX σ (ex2 20 (wt u) (P8 T))= .ok (zS (T.any λt=>inB σ.E u t)):=by
 unfold ex2;rw [evX];have e9:(zad 20).op=20:=rfl;rw [e9,if_neg (by decide),if_neg (by decide),if_neg (by decide),if_neg (by decide),if_neg (by decide)];have h1:evX σ (wt u)= .ok (ib u):=by rw [I5,qN]
 simp only [evS,h1,Na σ h hl];rw [if_neg (by decide)];simp only [vS];unfold aS;rw [e9,if_neg (by decide),if_pos rfl];obtain⟨-,s2,s3⟩:=tM (EN h hl);unfold inX aE;rw [if_pos s2,s3];have ha:zg (ib u)=4/\((fh (T.map ib)).all λt=>decide (zg t=4))=true:=by
  refine⟨rfl,List.all_eq_true.2 λx hx=>?_⟩;obtain⟨t,-,rfl⟩:=List.mem_map.1 (dC.1 hx);rfl
 rw [if_pos ha];have hb:((fh (T.map ib)).any λt=>inB σ.E (aF (ib u)) (aF t))=T.any λt=>inB σ.E u t:=by
  rw [Bool.eq_iff_iff,List.any_eq_true,List.any_eq_true];constructor
  ·rintro ⟨x,hx,hi⟩;obtain⟨t,ht,rfl⟩:=List.mem_map.1 (dC.1 hx);exact⟨t,ht,hi⟩
  ·rintro ⟨t,ht,hi⟩;exact⟨ib t,dC.2 (List.mem_map.2 ⟨t,ht,rfl⟩),hi⟩
 rw [hb]
end Go.Proofs.YthifljpkgfpkiaaGreatDoor
namespace Go.Proofs.YthifljpkgfpkiaaGreatDoor
open Go.RowKit Go.Wk Go.Sort
def pr(w:World)(r:Res)(e:Ending)(w':World):Prop:=∃A n c,e = .returned (.tuple #[.slice A n c,je (VU r)])/\Ns w' A n c (Zx r)/\Below w.heap.size w w'
theorem sC{w w':World}{k:Int}(hb:Below w.heap.size w w'):pr w (.error k) (.returned (.tuple #[.slice none 0 0,je k])) w':=⟨none,0,0,rfl,AZ w',hb⟩
def Sm(w:World)(q:Rq):World:=((w.alloc (.cells #[.string q.who.1,.string q.who.2,.string q.act.1,.string q.act.2,.string q.what.1,.string q.what.2,.slice q.NA q.nn q.nc] 31)).alloc (.cells #[.slice none 0 0] 29)).alloc (.cells #[.nilIface] 34)
structure Vw(w:World)(s:Nat)(q:Rq):Prop where
 vq:Vq w s q
 cv:w.cell? ⟨s+1,0,none⟩=some (.slice none 0 0)
 ce:w.cell? ⟨s+1+1,0,none⟩=some .nilIface
 zv:w.frozen? ⟨s+1,0,none⟩=false
 ze:w.frozen? ⟨s+1+1,0,none⟩=false
theorem Vw.keep{w w':World}{s:Nat}{q:Rq}(h:Vw w s q)(hb:Below w.heap.size w w'):Vw w' s q :=
 ⟨h.vq.keep hb,zb hb h.cv,zb hb h.ce,(hb.frozen (p:=⟨s+1,0,none⟩) (block_lt_of_cell h.cv)).trans h.zv,(hb.frozen (p:=⟨s+1+1,0,none⟩) (block_lt_of_cell h.ce)).trans h.ze⟩
theorem uy(w:World)(q:Rq):Below w.heap.size w (Sm w q):=
 (za w _).trans (((za _ _).mono (by simp)).trans ((za _ _).mono (by simp;omega)))
theorem EY(w:World)(q:Rq):Vw (Sm w q) w.heap.size q:=by
 have h1:=Ac w q 31;have h2:=(h1.keep (za _ (.cells #[.slice none 0 0] 29))).keep (za _ (.cells #[.nilIface] 34));refine⟨h2,?_,?_,?_,?_⟩
 ·have:=zb (za _ (.cells #[.nilIface] 34)) (zt (heap_alloc_last (w.alloc (.cells #[.string q.who.1,.string q.who.2,.string q.act.1,.string q.act.2,.string q.what.1,.string q.what.2,.slice q.NA q.nn q.nc] 31)) (.cells #[.slice none 0 0] 29)) (k:=0) (u := .slice none 0 0) rfl);rw [World.size_alloc] at this;exact this
 ·have:=zt (heap_alloc_last ((w.alloc (.cells #[.string q.who.1,.string q.who.2,.string q.act.1,.string q.act.2,.string q.what.1,.string q.what.2,.slice q.NA q.nn q.nc] 31)).alloc (.cells #[.slice none 0 0] 29)) (.cells #[.nilIface] 34)) (k:=0) (u := .nilIface) rfl;rw [World.size_alloc,World.size_alloc] at this;exact this
 ·have ha:(w.alloc (.cells #[.string q.who.1,.string q.who.2,.string q.act.1,.string q.act.2,.string q.what.1,.string q.what.2,.slice q.NA q.nn q.nc] 31)).heap.size=w.heap.size+1:=by simp
  exact((za _ _).frozen (p:=⟨w.heap.size+1,0,none⟩) (by simp)).trans (World.frozen?_alloc_at _ _ _ _ ha.symm)
 ·have ha:((w.alloc (.cells #[.string q.who.1,.string q.who.2,.string q.act.1,.string q.act.2,.string q.what.1,.string q.what.2,.slice q.NA q.nn q.nc] 31)).alloc (.cells #[.slice none 0 0] 29)).heap.size=w.heap.size+1+1:=by simp
  exact World.frozen?_alloc_at _ _ _ _ ha.symm
theorem pQ{w:World}{s:Nat}{q:Rq}(h:Vw w s q)(x y:Value):((w.setCell ⟨s+1,0,none⟩ x).setCell ⟨s+1+1,0,none⟩ y).cell? ⟨s+1,0,none⟩=some x/\((w.setCell ⟨s+1,0,none⟩ x).setCell ⟨s+1+1,0,none⟩ y).cell? ⟨s+1+1,0,none⟩=some y :=
 ⟨(World.cell?_setCell_other _ _ _ _ (by intro e;injection e with e;omega)).trans (World.cell?_setCell_same w _ _ h.cv),World.cell?_setCell_same _ _ _ ((World.cell?_setCell_other w _ _ _ (by intro e;injection e with e;omega)).trans h.ce)⟩
theorem Ln(EA:Option Addr)(en ec:Nat)(E:List En)(q:Rq)(A:Option Addr)(n c:Nat)(P:List Nd)(w:World)(hE:Es w EA en ec E)(hq:tr w q)(hP:Ns w A n c P)(hu:upF ⟨E,q.who,q.act,q.what,q.P⟩ P≠0):
 Calls Tryz.prog 8 #[.slice EA en ec,q.v,.slice A n c] w (pr w (dl ⟨E,q.who,q.act,q.what,q.P⟩ P)):=by
 have C1:=O (λw' (hb:Below w.heap.size w w')=>mq EA en ec E w' (hE.keep hb));have C2:=O (λw' (hb:Below w.heap.size w w')=>uT q w' (hq.keep hb));have C3:=O (λw' (hb:Below w.heap.size w w')=>nI A n c P w' (hP.keep hb));have HR:=O (show dl ⟨E,q.who,q.act,q.what,q.P⟩ P = .error (upF ⟨E,q.who,q.act,q.what,q.P⟩ P) by unfold dl;rw [if_neg hu]);have HU:=O (show upF ⟨E,q.who,q.act,q.what,q.P⟩ P=or2 (jU E) (or2 (oS q.who q.act q.what q.P) (jz P)) from rfl);have HN:=O hu;rw [HR.o];unfold Rq.v at C2 ⊢;generalize upF ⟨E,q.who,q.act,q.what,q.P⟩ P=U at *;generalize jU E=f1 at *;generalize oS q.who q.act q.what q.P=f2 at *;generalize jz P=f3 at *;have B0:=O (uy w q);have V0:=O (EY w q);unfold Sm at B0 V0;clear hE hq hP hu;go_enter_defers Tryz.func8,Tryz.ntmps8;go_wp2_with fail;refine(C1.o _ B0.o).mono ?_;rintro e w1 ⟨rfl,b1⟩;have B1:=bh B0 b1;have V1:=O (V0.o.keep b1);clear b1 B0 V0 C1;by_cases q1:f1=0
 case neg =>
  have hU:U=f1:=by rw [HU.o,zR q1]
  clear HU HN HR C2 C3;have cQ:=O (zm q1);rw [cQ.o];obtain⟨-,cv,ce,zv,ze⟩:=V1.o;have BP:=block_lt_of_cell cv;have hl2:=block_lt_of_cell ce;obtain⟨p1,p2⟩:=pQ V1.o (.slice none 0 0) (.iface 41 (.int .i64 f1));have BB:=O ((B1.o.setCell (p:=⟨w.heap.size+1,0,none⟩) (Nat.le_succ _) (.slice none 0 0)).setCell (p:=⟨w.heap.size+1+1,0,none⟩) (Nat.le_succ_of_le (Nat.le_succ _)) (.iface 41 (.int .i64 f1)));have HT:=O (sC (k:=f1) BB.o);rw [cQ.o] at HT;go_wp2_with fail;simp [bodyPostD,Leaves,results,Tryz.results8,go_sem,cv,ce];rw [hU];exact HT.o
 rw [q1,zj];obtain⟨⟨c0,c1,c2,c3,c4,c5,c6⟩,-,-,-,-⟩:=V1.o;go_wp2_with fail;refine(C2.o _ B1.o).mono ?_;rintro e w2 ⟨rfl,b2⟩;have B2:=bh B1 b2;have V2:=O (V1.o.keep b2);clear b2 B1 V1 C2 c0 c1 c2 c3 c4 c5 c6;by_cases q2:f2=0
 case neg =>
  have hU:U=f2:=by rw [HU.o,q1,zu,zR q2]
  clear HU HN HR C3;have cQ:=O (zm q2);rw [cQ.o];obtain⟨-,cv,ce,zv,ze⟩:=V2.o;have BP:=block_lt_of_cell cv;have hl2:=block_lt_of_cell ce;obtain⟨p1,p2⟩:=pQ V2.o (.slice none 0 0) (.iface 41 (.int .i64 f2));have BB:=O ((B2.o.setCell (p:=⟨w.heap.size+1,0,none⟩) (Nat.le_succ _) (.slice none 0 0)).setCell (p:=⟨w.heap.size+1+1,0,none⟩) (Nat.le_succ_of_le (Nat.le_succ _)) (.iface 41 (.int .i64 f2)));have HT:=O (sC (k:=f2) BB.o);rw [cQ.o] at HT;go_wp2_with fail;simp [bodyPostD,Leaves,results,Tryz.results8,go_sem,cv,ce];rw [hU];exact HT.o
 rw [q2,zj];go_wp2_with fail;refine(C3.o _ B2.o).mono ?_;rintro e w3 ⟨rfl,b3⟩;have B3:=bh B2 b3;have V3:=O (V2.o.keep b3);clear b3 B2 V2 C3;have hU:U=f3:=by rw [HU.o,q1,zu,q2,zu]
 have q3:f3≠0:=λq=>HN.o (hU.trans q);clear HU HN HR;have cQ:=O (zm q3);rw [cQ.o];obtain⟨-,cv,ce,zv,ze⟩:=V3.o;have BP:=block_lt_of_cell cv;have hl2:=block_lt_of_cell ce;obtain⟨p1,p2⟩:=pQ V3.o (.slice none 0 0) (.iface 41 (.int .i64 f3));have BB:=O ((B3.o.setCell (p:=⟨w.heap.size+1,0,none⟩) (Nat.le_succ _) (.slice none 0 0)).setCell (p:=⟨w.heap.size+1+1,0,none⟩) (Nat.le_succ_of_le (Nat.le_succ _)) (.iface 41 (.int .i64 f3)));have HT:=O (sC (k:=f3) BB.o);rw [cQ.o] at HT;go_wp2_with fail;simp [bodyPostD,Leaves,results,Tryz.results8,go_sem,cv,ce];rw [hU];exact HT.o
theorem Mr(EA:Option Addr)(en ec:Nat)(E:List En)(q:Rq)(A:Option Addr)(n c:Nat)(P:List Nd)(w:World)(hE:Es w EA en ec E)(hq:tr w q)(hP:Ns w A n c P)(hd:dW w)(hu:upF ⟨E,q.who,q.act,q.what,q.P⟩ P=0):
 Calls Tryz.prog 8 #[.slice EA en ec,q.v,.slice A n c] w (pr w (dl ⟨E,q.who,q.act,q.what,q.P⟩ P)):=by
 obtain⟨de,ci,x,hx,FN⟩:=Pp hu;have h1:jU E=0:=de.e;have h2:oS q.who q.act q.what q.P=0:=by
  unfold upF at hu;exact(zB.1 (zB.1 hu).2).1
 have h3:jz P=0:=cB.2 ⟨ci,x,hx,FN⟩;have C1:=O (λw' (hb:Below w.heap.size w w')=>mq EA en ec E w' (hE.keep hb));rw [h1,zj] at C1;have C2:=O (λw' (hb:Below w.heap.size w w')=>uT q w' (hq.keep hb));rw [h2,zj] at C2;have C3:=O (λw' (hb:Below w.heap.size w w')=>nI A n c P w' (hP.keep hb));rw [h3,zj] at C3;have HCX:=O (λw' (hb:Below w.heap.size w w')=>(⟨hE.keep hb,hq.keep hb,hP.keep hb,hd.keep hb,de⟩:LV w' ⟨EA,en,ec,E,q,A,n,c,P⟩));have HV:=O (show dl ⟨E,q.who,q.act,q.what,q.P⟩ P=evX ⟨E,q.who,q.act,q.what,q.P⟩ x from xi hu hx FN);have Ca:=O (λV (h:evX ⟨E,q.who,q.act,q.what,q.P⟩ x = .ok V)=>eh de x false hx V h);have HXA:=O (show XAt P 0 false x by rw [FN];exact XAt.all hx);have HLX:=O (show x.flat.length<=P.length from Nat.le_of_eq (by rw [FN]));have NX:=O (λ(W:World) (R:Nat)=>xB (W:=W) (R:=R) (k:=⟨EA,en,ec,E,q,A,n,c,P⟩) ci P.length);have B0:=O (uy w q);have V0:=O (EY w q);have hmf:∀(fn:Fn) (first cap:Array Value) (w:World),(Instr.makeFunc fn first cap).run Tryz.prog w = .ok (.func fn first cap) w:=λ_ _ _ _=>rfl;unfold Sm at B0 V0;unfold Rq.v at C2 ⊢;rw [HV.o];obtain⟨rr,mR⟩:∃rr:Res,rr=evX ⟨E,q.who,q.act,q.what,q.P⟩ x:=⟨_,rfl⟩
 rw [<-mR];have eZ:=O mR;clear hE hq hP hd hu de ci hx FN h1 h2 h3 mR;go_enter_defers Tryz.func8,Tryz.ntmps8;go_wp2_with fail;refine(C1.o _ B0.o).mono ?_;rintro e w1 ⟨rfl,b1⟩;have B1:=bh B0 b1;have V1:=O (V0.o.keep b1);clear b1 B0 V0 C1;obtain⟨⟨c0,c1,c2,c3,c4,c5,c6⟩,-,-,-,-⟩:=V1.o;go_wp2_with fail;refine(C2.o _ B1.o).mono ?_;rintro e w2 ⟨rfl,b2⟩;have B2:=bh B1 b2;have V2:=O (V1.o.keep b2);clear b2 B1 V1 C2 c0 c1 c2 c3 c4 c5 c6;go_wp2_with fail;refine(C3.o _ B2.o).mono ?_;rintro e w3 ⟨rfl,b3⟩;have B3:=bh B2 b3;have V3:=O (V2.o.keep b3);clear b3 B2 V2 C3;obtain⟨⟨c0,c1,c2,c3,c4,c5,c6⟩,-,-,-,-⟩:=V3.o;go_wp2_with fail;have hz:=World.size_alloc w3 (.cells #[.slice EA en ec,.string q.who.1,.string q.who.2,.string q.act.1,.string q.act.2,.string q.what.1,.string q.what.2,.slice q.NA q.nn q.nc,.slice A n c,.int .i64 0] 73);have E0:zW w3 (w3.alloc (.cells #[.slice EA en ec,.string q.who.1,.string q.who.2,.string q.act.1,.string q.act.2,.string q.what.1,.string q.what.2,.slice q.NA q.nn q.nc,.slice A n c,.int .i64 0] 73)) w3.heap.size ⟨EA,en,ec,E,q,A,n,c,P⟩ ((0:Nat):Int):=
  ⟨za w3 _,Nat.le_refl _,HCX.o w3 B3.o,⟨_,heap_alloc_last w3 _⟩⟩
 have K:=O (NX.o w3 w3.heap.size x 0 _ E0 HXA.o HLX.o);clear E0 c0 c1 c2 c3 c4 c5 c6;rw [show evX (Cx.env ⟨EA,en,ec,E,q,A,n,c,P⟩) x=rr from eZ.o.symm] at K;rcases rr with u|V
 ·unfold jd at K;refine K.o.mono ?_;rintro e w4 ⟨g4,rfl⟩;have b4:Below w3.heap.size w3 w4:=(za w3 _).trans ((jE g4 (Nat.le_refl _) (by rw [hz];omega)));have V4:=O (V3.o.keep b4);have B4:=bh B3 b4;have Ui:u≠0:=λz=>qu x HXA.o.valid (eZ.o.symm.trans (by rw [z]));clear g4 b4 K V3 B3 hz eZ;obtain⟨-,cv,ce,zv,ze⟩:=V4.o;have BP:=block_lt_of_cell cv;have hl2:=block_lt_of_cell ce;go_wp2_with fail;refine leaves_cons (f:=23) (args:=#[.pointer (some ⟨w.heap.size+1,0,none⟩),.pointer (some ⟨w.heap.size+1+1,0,none⟩)]) (by simp) (by simp [go_sem]) ?_;refine(Bh (w.heap.size+1) (w.heap.size+1+1) u _ _ [] w4 cv zv ce ze (by omega)).mono ?_;rintro e u' w5 ⟨rfl,rfl,rfl⟩;obtain⟨p1,p2⟩:=pQ V4.o (.slice none 0 0) (.iface 41 (.int .i64 u));have BB:=(B4.o.setCell (p:=⟨w.heap.size+1,0,none⟩) (Nat.le_succ _) (.slice none 0 0)).setCell (p:=⟨w.heap.size+1+1,0,none⟩) (Nat.le_succ_of_le (Nat.le_succ _)) (.iface 41 (.int .i64 u));have HT:=sC (k:=u) BB;rw [zm Ui] at HT;simp [Leaves,settle,results,Tryz.results8,go_sem,p1,p2];exact HT
 ·unfold jd at K;have vV:=Ca.o V eZ.o.symm;have pV:=fo vV;have lV:=(zy.1 vV).1;refine K.o.mono ?_;rintro e w4 ⟨g4,⟨A4,n4,c4,rfl,N4,-⟩,-⟩;have b4:Below w3.heap.size w3 w4:=(za w3 _).trans ((jE g4 (Nat.le_refl _) (by rw [hz];omega)));have V4:=O (V3.o.keep b4);have B4:=bh B3 b4;obtain⟨a4,rfl,-⟩:=aX N4 pV;have K2:=O (El a4 n4 c4 V w4 N4 (by omega));unfold Dc at K2;clear g4 b4 K V3 B3 hz eZ N4 vV pV;go_wp2_with fail;refine K2.o.mono ?_;rintro e w5 ⟨A5,c5,rfl,N5,F5,b5⟩;obtain⟨vl,X9⟩:∃vl,vl=V.length:=⟨_,rfl⟩
  rw [<-X9] at N5 lV ⊢;have V5:=O (V4.o.keep b5);have B5:=bh B4 b5;have UW:=O N5;obtain⟨-,cv0,ce0,-,-⟩:=V4.o;have YU:=block_lt_of_cell cv0;have hl4:=block_lt_of_cell ce0;have Wo:=O (show∀a,A5=some a->w.heap.size+1+1<a.block from λa e=>Nat.lt_of_lt_of_le hl4 (F5 a e));obtain⟨-,cv,ce,zv,ze⟩:=V5.o;have BP:=block_lt_of_cell cv;have hl2:=block_lt_of_cell ce;obtain⟨p1,p2⟩:=pQ V5.o (.slice A5 vl c5) .nilIface;have N6:=O ((UW.o.but (zl w5 ⟨w.heap.size+1,0,none⟩ (.slice A5 vl c5)) (λ_ a e=>by have:=Wo.o a e;show a.block≠w.heap.size+1;omega)).but (zl _ ⟨w.heap.size+1+1,0,none⟩ .nilIface) (λ_ a e=>by have:=Wo.o a e;show a.block≠w.heap.size+1+1;omega));have BB:=O ((B5.o.setCell (p:=⟨w.heap.size+1,0,none⟩) (Nat.le_succ _) (.slice A5 vl c5)).setCell (p:=⟨w.heap.size+1+1,0,none⟩) (Nat.le_succ_of_le (Nat.le_succ _)) .nilIface);clear b5 N5 F5 V4 B4 K2 cv0 ce0 YU hl4 X9;go_wp2_with fail;refine leaves_cons (f:=23) (args:=#[.pointer (some ⟨w.heap.size+1,0,none⟩),.pointer (some ⟨w.heap.size+1+1,0,none⟩)]) (by simp) (by simp [go_sem]) ?_;refine(Hl ⟨w.heap.size+1,0,none⟩ ⟨w.heap.size+1+1,0,none⟩ _).mono ?_;rintro e u' w6 ⟨rfl,rfl,rfl⟩;simp [Leaves,settle,results,Tryz.results8,go_sem,p1,p2];exact⟨A5,vl,c5,rfl,N6.o,BB.o⟩
theorem Hz(EA:Option Addr)(en ec:Nat)(E:List En)(q:Rq)(A:Option Addr)(n c:Nat)(P:List Nd)(w:World)(hE:Es w EA en ec E)(hq:tr w q)(hP:Ns w A n c P)(hd:dW w):
 Calls Tryz.prog 8 #[.slice EA en ec,q.v,.slice A n c] w (pr w (dl ⟨E,q.who,q.act,q.what,q.P⟩ P)):=by
 by_cases hu:upF ⟨E,q.who,q.act,q.what,q.P⟩ P=0
 ·exact Mr EA en ec E q A n c P w hE hq hP hd hu
 ·exact Ln EA en ec E q A n c P w hE hq hP hu
end Go.Proofs.YthifljpkgfpkiaaGreatDoor
