/-
  Plain: the least type above two. No program in sight. Plain: the least type ..
-/
import Derived.Test.YthifljpkgfpkiaaGreatDoorQ5
set_option maxRecDepth 100000
namespace Go.Wk
def iC(s:ByteArray)(m:Bool)(k:Kd):Fl->Fl
 | .nil => .cons s m k .nil
 | .cons t m' k' r=>if js s t<0 then .cons s m k (.cons t m' k' r) else .cons t m' k' (iC s m k r)
def bC:Fl->Fl->Fl
 | .nil,_ => .nil
 | .cons s _ k r,f=>if(f.find s).isSome then bC r f else .cons s false k (bC r f)
mutual
def zI:Kd->Kd->Kd
 | .base x,b=>if x=49 then b else if du b then b else if isNone b then .base x else if x=48 then .base 48 else(match b with | .base y=>if x=y then .base x else .base 48|_ => .base 48)
 | .ent s,b=>if du b then b else if isNone b then .ent s else(match b with | .ent t=>if s=t then .ent s else .base 48|_ => .base 48)
 | .set p,b=>if du b then b else if isNone b then .set p else(match b with | .set q => .set (zI p q)|_ => .base 48)
 | .fs f,b=>if du b then b else if isNone b then .fs f else(match b with | .fs g => .fs (aQ f g (bC g f))|_ => .base 48)
def aQ:Fl->Fl->Fl->Fl
 | .nil,_,acc=>acc
 | .cons s m k r,g,acc=>match g.find s with
  | none=>iC s false k (aQ r g acc)
  | some (m',k')=>iC s (m && m') (zI k k') (aQ r g acc)
end
theorem od(s:ByteArray)(m:Bool)(k:Kd){t:ByteArray}(h:s≠t):∀f:Fl,(iC s m k f).find t=f.find t
 | .nil=>by simp [iC,Fl.find,h]
 | .cons u m' k' r=>by
  simp only [iC];split
  ·simp [Fl.find,h]
  ·simp only [Fl.find,od s m k h r]
theorem qM(s:ByteArray)(m:Bool)(k:Kd):∀f:Fl,f.find s=none->(iC s m k f).find s=some (m,k)
 | .nil,_=>by simp [iC,Fl.find]
 | .cons u m' k' r,h=>by
  simp only [Fl.find] at h;simp only [iC];split
  ·simp [Fl.find]
  ·by_cases e:u=s
   ·rw [if_pos e] at h;cases h
   ·rw [if_neg e] at h;simp only [Fl.find,if_neg e];exact qM s m k r h
theorem Dt(s:ByteArray)(m:Bool)(k:Kd):∀(f:Fl) (x:ByteArray),f.ascFrom x->js x s<0->f.find s=none->(iC s m k f).ascFrom x
 | .nil,_,_,h,_=>⟨h,trivial⟩
 | .cons u m' k' r,x,h1,h2,h3=>by
  simp only [Fl.find] at h3;simp only [iC];split
  ·rename_i hlt;exact⟨h2,hlt,h1.2⟩
  ·rename_i hlt;by_cases e:u=s
   ·rw [if_pos e] at h3;cases h3
   ·rw [if_neg e] at h3;refine⟨h1.1,Dt s m k r u h1.2 ?_ h3⟩;have a:=zw.anti s u;have z:js s u≠0:=λq=>e ((zw.zero _ _).1 q).symm;omega
theorem xA(s:ByteArray)(m:Bool)(k:Kd)(f:Fl)(h:f.asc)(hn:f.find s=none):(iC s m k f).asc:=by
 cases f with
 | nil=>exact trivial
 | cons u m' k' r =>
  simp only [Fl.find] at hn
  simp only [iC]
  split
  ·rename_i hlt;exact⟨hlt,h⟩
  ·rename_i hlt
   by_cases e:u=s
   ·rw [if_pos e] at hn;cases hn
   ·rw [if_neg e] at hn;refine Dt s m k r u h ?_ hn;have a:=zw.anti s u;have z:js s u≠0:=λq=>e ((zw.zero _ _).1 q).symm;omega
theorem Bu(s:ByteArray)(m:Bool)(k:Kd)(hk:k.ok):∀f:Fl,f.ok->(iC s m k f).ok
 | .nil,_=>⟨hk,trivial⟩
 | .cons u m' k' r,h=>by
  simp only [iC];split
  ·exact⟨hk,h⟩
  ·exact⟨h.1,Bu s m k hk r h.2⟩
theorem Nq{x y:ByteArray}{f:Fl}(h:f.ascFrom y)(hl:js x y<0):f.ascFrom x:=by
 cases f with
 | nil=>trivial
 | cons s m k r=>exact⟨zw.lt_le hl (by have:=h.1;omega),h.2⟩
theorem gk(f:Fl)(s:ByteArray):∀g:Fl,(bC g f).find s=if(f.find s).isSome=true then none else(g.find s).map λv=>(false,v.2)
 | .nil=>by simp [bC,Fl.find]
 | .cons t m k r=>by
  simp only [bC];split
  ·rename_i ht;rw [gk f s r];simp only [Fl.find];by_cases e:t=s
   ·subst e;rw [if_pos ht,if_pos ht]
   ·rw [if_neg e]
  ·rename_i ht;simp only [Fl.find];by_cases e:t=s
   ·subst e;rw [if_pos rfl,if_neg ht,if_pos rfl];rfl
   ·rw [if_neg e,if_neg e,gk f s r]
theorem mQ(f:Fl):∀(g:Fl) (x:ByteArray),g.ascFrom x->(bC g f).ascFrom x
 | .nil,_,_=>trivial
 | .cons t m k r,x,h=>by
  simp only [bC];split
  ·exact mQ f r x (Nq h.2 h.1)
  ·exact⟨h.1,mQ f r t h.2⟩
theorem Ha(f g:Fl)(h:g.asc):(bC g f).asc:=by
 cases g with
 | nil=>trivial
 | cons t m k r =>
  simp only [bC]
  split
  ·exact bT (mQ f r t h)
  ·exact mQ f r t h
theorem uV(f:Fl):∀g:Fl,g.ok->(bC g f).ok
 | .nil,_=>trivial
 | .cons t m k r,h=>by
  simp only [bC];split
  ·exact uV f r h.2
  ·exact⟨h.1,uV f r h.2⟩
theorem qO{s:ByteArray}{r:Fl}(h:r.ascFrom s):r.find s=none:=by
 rcases hf:r.find s with _|v
 ·rfl
 ·have:=gp h hf;rw [zw.self] at this;omega
theorem nF(g:Fl)(s:ByteArray):∀(f acc:Fl),f.asc->(∀t,(f.find t).isSome=true->acc.find t=none)->
 (aQ f g acc).find s=match f.find s with|none=>acc.find s|some (m,k)=>(match g.find s with|none=>some (false,k)|some (m',k')=>some (m && m',zI k k'))
 | .nil,acc,_,_=>by simp [aQ,Fl.find]
 | .cons t m k r,acc,h1,h2=>by
  have ih:=nF g s r acc (bT h1) (λu hu=>h2 u (by simp only [Fl.find];split <;> simp_all));have ht:r.find t=none:=qO h1;have hat:acc.find t=none:=h2 t (by simp [Fl.find]);by_cases e:t=s
  ·subst e;rw [ht] at ih;have ih':(aQ r g acc).find t=none:=ih.trans hat;simp only [aQ,Fl.find,if_pos];rcases hg:g.find t with _|⟨m',k'⟩
   ·exact qM t false k _ ih'
   ·exact qM t (m && m') (zI k k') _ ih'
  ·simp only [aQ,Fl.find,if_neg e];rw [<-ih];rcases hg:g.find t with _|⟨m',k'⟩
   ·exact od t false k e _
   ·exact od t _ _ e _
theorem yg(g:Fl):∀(f acc:Fl),f.asc->acc.asc->(∀t,(f.find t).isSome=true->acc.find t=none)->(aQ f g acc).asc
 | .nil,_,_,h,_=>by simpa [aQ] using h
 | .cons t m k r,acc,h1,h0,h2=>by
  have MM:∀u,(r.find u).isSome=true->acc.find u=none:=λu hu=>h2 u (by simp only [Fl.find];split <;> simp_all);have ih:=yg g r acc (bT h1) h0 MM;have hf:=nF g t r acc (bT h1) MM;rw [qO h1] at hf;have hn:(aQ r g acc).find t=none:=hf.trans (h2 t (by simp [Fl.find]));simp only [aQ];rcases hg:g.find t with _|⟨m',k'⟩
  ·exact xA t false k _ ih hn
  ·exact xA t _ _ _ ih hn
def jn(a b:Option (Bool × Kd)):Option (Bool × Kd):=match a,b with
 | some (m,k),some (m',k')=>some (m && m',zI k k')
 | some (_,k),none=>some (false,k)
 | none,some (_,k')=>some (false,k')
 | none,none=>none
theorem er{f g:Fl}(hf:f.asc)(s:ByteArray):(aQ f g (bC g f)).find s=jn (f.find s) (g.find s):=by
 have h2:∀t,(f.find t).isSome=true->(bC g f).find t=none:=λt ht=>by rw [gk,if_pos ht]
 rw [nF g s f _ hf h2];rcases h:f.find s with _|⟨m,k⟩
 ·rw [gk,h];rcases hg:g.find s with _|⟨m',k'⟩<;> simp [jn]
 ·rcases hg:g.find s with _|⟨m',k'⟩<;> simp [jn]
theorem lB{f g:Fl}(hf:f.asc)(hg:g.asc):(aQ f g (bC g f)).asc :=
 yg g f _ hf (Ha f g hg) λt ht=>by rw [gk,if_pos ht]
theorem fN{a b:Kd}(h:b = .base 48):zI a b = .base 48:=by
 subst h
 cases a with
 | base x=>simp only [zI];split <;> simp [du]
 | _=>simp [zI,du]
theorem ef{a b:Kd}(h:b = .base 49):zI a b=a:=by
 subst h
 cases a with
 | base x =>
  simp only [zI]
  split
  ·rename_i e;rw [e]
  ·simp [du,isNone]
 | _=>simp [zI,du,isNone]
theorem sL{b:Kd}(h:b≠ .base 48):du b=false:=by
 rcases e:du b with _|_
 ·rfl
 ·exact absurd (iN.1 e) h
theorem pB{b:Kd}(h:b≠ .base 49):isNone b=false:=by
 rcases e:isNone b with _|_
 ·rfl
 ·exact absurd (Is.1 e) h
open Classical in
theorem fE{x:Int}{b:Kd}(h1:b≠ .base 48)(h2:b≠ .base 49):zI (.base x) b=if x=49 then b else if b = .base x then .base x else .base 48:=by
 simp only [zI,sL h1,pB h2];by_cases e9:x=49
 ·rw [if_pos e9,if_pos e9]
 ·rw [if_neg e9,if_neg e9];simp only [Bool.false_eq_true,if_false]
  cases b with
  | base y =>
   by_cases e:x=y
   ·subst e;rw [if_neg (λe=>h1 (by rw [e])),if_pos rfl];simp
   ·rw [if_neg (show¬Kd.base y=Kd.base x from λq=>e (by injection q with q;exact q.symm))]
    simp [e]
  | _=>simp
open Classical in
theorem iD{s:ByteArray}{b:Kd}(h1:b≠ .base 48)(h2:b≠ .base 49):zI (.ent s) b=if b = .ent s then .ent s else .base 48:=by
 simp only [zI,sL h1,pB h2];simp only [Bool.false_eq_true,if_false]
 cases b with
 | ent t =>
  by_cases e:s=t
  ·subst e;simp
  ·have e':¬t=s:=λq=>e q.symm
   simp [e,e']
 | _=>simp
theorem fK{p:Kd}{b:Kd}(h1:b≠ .base 48)(h2:b≠ .base 49):(∃q,b = .set q/\zI (.set p) b = .set (zI p q))\/((∀q,b≠ .set q)/\zI (.set p) b = .base 48):=by
 simp only [zI,sL h1,pB h2]
 cases b with
 | set q=>exact .inl ⟨q,rfl,by simp⟩
 | _=>exact .inr ⟨(λq e=>by cases e),by simp⟩
theorem kP{f:Fl}{b:Kd}(h1:b≠ .base 48)(h2:b≠ .base 49):(∃g,b = .fs g/\zI (.fs f) b = .fs (aQ f g (bC g f)))\/((∀g,b≠ .fs g)/\zI (.fs f) b = .base 48):=by
 simp only [zI,sL h1,pB h2]
 cases b with
 | fs g=>exact .inl ⟨g,rfl,by simp⟩
 | _=>exact .inr ⟨(λq e=>by cases e),by simp⟩
theorem gi(a:Kd):zO a (.base 48)=true:=xW a _ rfl
theorem eE:∀(n:Nat) (a b:Kd),a.sz<=n->a.ok->b.ok->(zI a b).ok
 | 0,a,_,h,_,_=>by cases a <;> simp [Kd.sz] at h
 | n+1,a,b,h,ha,hb=>by
  by_cases h1:b = .base 48
  ·rw [fN h1];trivial
  by_cases h2:b = .base 49
  ·rw [ef h2];exact ha
  cases a with
  | base x =>
   rw [fE h1 h2]
   split
   ·exact hb
   ·split <;> trivial
  | ent s=>rw [iD h1 h2];split <;> trivial
  | set p =>
   simp only [Kd.sz] at h
   rcases fK (p:=p) h1 h2 with ⟨q,rfl,e⟩|⟨-,e⟩
   ·rw [e];exact eE n p q (by omega) ha hb
   ·rw [e];trivial
  | fs f =>
   simp only [Kd.sz] at h
   rcases kP (f:=f) h1 h2 with ⟨g,rfl,e⟩|⟨-,e⟩
   ·rw [e]
    refine⟨lB ha.1 hb.1,?_⟩;have key:∀(f' acc:Fl),f'.sz<=n->f'.ok->acc.ok->(aQ f' g acc).ok:=by
     intro f' acc hs ho hacc
     induction f' using Fl.rec (motive_1:=λ_=>True) with
     | nil=>simpa [aQ] using hacc
     | cons s m k r _ ih =>
      simp only [Fl.sz] at hs
      have ih:=ih (by omega) ho.2
      simp only [aQ]
      rcases hg:g.find s with _|⟨m',k'⟩
      ·exact Bu _ _ _ ho.1 _ ih
      ·exact Bu _ _ _ (eE n k k' (by omega) ho.1 (bg hb.2 hg)) _ ih
     | _=>trivial
    exact key f _ (by omega) ha.2 (uV f g hb.2)
   ·rw [e];trivial
theorem gI:∀(n:Nat) (a b:Kd),a.sz<=n->a.ok->b.ok->zO a (zI a b)=true/\zO b (zI a b)=true
 | 0,a,_,h,_,_=>by cases a <;> simp [Kd.sz] at h
 | n+1,a,b,h,ha,hb=>by
  by_cases h1:b = .base 48
  ·rw [fN h1,h1];exact⟨gi _,gi _⟩
  by_cases h2:b = .base 49
  ·rw [ef h2,h2];exact⟨jD _ a (Nat.le_refl _) ha,kD _ _ rfl⟩
  have rb:=jD _ b (Nat.le_refl _) hb
  cases a with
  | base x =>
   rw [fE h1 h2]
   split
   ·rename_i e;subst e;exact⟨kD _ _ rfl,rb⟩
   ·split
    ·rename_i e;rw [e];exact⟨jm.2 (.inr (.inr rfl)),jm.2 (.inr (.inr rfl))⟩
    ·exact⟨gi _,gi _⟩
  | ent s =>
   rw [iD h1 h2]
   split
   ·rename_i e;rw [e];exact⟨ao.2 (.inr rfl),ao.2 (.inr rfl)⟩
   ·exact⟨gi _,gi _⟩
  | set p =>
   simp only [Kd.sz] at h
   rcases fK (p:=p) h1 h2 with ⟨q,rfl,e⟩|⟨-,e⟩
   ·rw [e]
    obtain⟨u1,u2⟩:=gI n p q (by omega) ha hb;exact⟨jB.2 (.inr ⟨_,rfl,u1⟩),jB.2 (.inr ⟨_,rfl,u2⟩)⟩
   ·rw [e];exact⟨gi _,gi _⟩
  | fs f =>
   simp only [Kd.sz] at h
   rcases kP (f:=f) h1 h2 with ⟨g,rfl,e⟩|⟨-,e⟩
   ·rw [e]
    have hj:=lB ha.1 hb.1;refine⟨jW.2 (.inr ⟨_,rfl,(cZ ha.1 hj).2 ⟨λs m k hf=>?_,λs k hf=>?_⟩⟩),jW.2 (.inr ⟨_,rfl,(cZ hb.1 hj).2 ⟨λs m k hg=>?_,λs k hf=>?_⟩⟩)⟩
    ·rw [er ha.1,hf];rcases hg:g.find s with _|⟨m',k'⟩
     ·exact⟨false,k,rfl,λe=>(nomatch e),jD _ k (Nat.le_refl _) (bg ha.2 hf)⟩
     ·exact⟨_,_,rfl,λe=>by simp at e;exact e.1,(gI n k k' (by have:=dM hf;omega) (bg ha.2 hf) (bg hb.2 hg)).1⟩
    ·rw [er ha.1] at hf;rcases hq:f.find s with _|⟨m0,k0⟩
     ·rw [hq] at hf;rcases hg:g.find s with _|⟨m',k'⟩<;> rw [hg] at hf <;> simp [jn] at hf
     ·rfl
    ·rw [er ha.1,hg];rcases hf:f.find s with _|⟨m',k'⟩
     ·exact⟨false,k,rfl,λe=>(nomatch e),jD _ k (Nat.le_refl _) (bg hb.2 hg)⟩
     ·exact⟨_,_,rfl,λe=>by simp at e;exact e.2,(gI n k' k (by have:=dM hf;omega) (bg ha.2 hf) (bg hb.2 hg)).2⟩
    ·rw [er ha.1] at hf;rcases hg:g.find s with _|⟨m0,k0⟩
     ·rw [hg] at hf;rcases hq:f.find s with _|⟨m',k'⟩<;> rw [hq] at hf <;> simp [jn] at hf
     ·rfl
   ·rw [e];exact⟨gi _,gi _⟩
theorem eC:∀(n:Nat) (a b c:Kd),a.sz<=n->a.ok->b.ok->c.ok->zO a c=true->zO b c=true->zO (zI a b) c=true
 | 0,a,_,_,h,_,_,_,_,_=>by cases a <;> simp [Kd.sz] at h
 | n+1,a,b,c,h,ha,hb,hc,k1,k2=>by
  by_cases h1:b = .base 48
  ·rw [fN h1];rw [h1] at k2;exact k2
  by_cases h2:b = .base 49
  ·rw [ef h2];exact k1
  by_cases h3:c = .base 48
  ·rw [h3];exact gi _
  cases a with
  | base x =>
   rw [fE h1 h2]
   split
   ·exact k2
   ·rename_i hx
    rcases jm.1 k1 with e|e|e
    ·exact absurd e hx
    ·exact absurd e h3
    ·subst e
     cases b with
     | base y =>
      rcases jm.1 k2 with e|e|e
      ·subst e;exact absurd rfl h2
      ·exact absurd e h3
      ·injection e with e;subst e;rw [if_pos rfl];exact k1
     | ent t=>rcases ao.1 k2 with e|e <;> first|exact absurd e h3|cases e
     | set t=>rcases jB.1 k2 with e|⟨_,e,_⟩<;> first|exact absurd e h3|cases e
     | fs t=>rcases jW.1 k2 with e|⟨_,e,_⟩<;> first|exact absurd e h3|cases e
  | ent s =>
   rw [iD h1 h2]
   rcases ao.1 k1 with e|e
   ·exact absurd e h3
   ·subst e
    cases b with
    | base y =>
     rcases jm.1 k2 with e|e|e
     ·subst e;exact absurd rfl h2
     ·exact absurd e h3
     ·cases e
    | ent t =>
     rcases ao.1 k2 with e|e
     ·exact absurd e h3
     ·injection e with e;subst e;rw [if_pos rfl];exact k1
    | set t=>rcases jB.1 k2 with e|⟨_,e,_⟩<;> first|exact absurd e h3|cases e
    | fs t=>rcases jW.1 k2 with e|⟨_,e,_⟩<;> first|exact absurd e h3|cases e
  | set p =>
   simp only [Kd.sz] at h
   rcases jB.1 k1 with e|⟨r,rfl,k3⟩
   ·exact absurd e h3
   ·rcases fK (p:=p) h1 h2 with ⟨q,rfl,e⟩|⟨hno,e⟩
    ·rw [e];rcases jB.1 k2 with e|⟨r',e',k4⟩
     ·exact absurd e h3
     ·injection e' with e';subst e';exact jB.2 (.inr ⟨r,rfl,eC n p q r (by omega) ha hb hc k3 k4⟩)
    ·exfalso
     cases b with
     | base y =>
      rcases jm.1 k2 with e|e|e
      ·subst e;exact h2 rfl
      ·cases e
      ·cases e
     | ent t=>rcases ao.1 k2 with e|e <;> cases e
     | set t=>exact hno t rfl
     | fs t=>rcases jW.1 k2 with e|⟨_,e,_⟩<;> cases e
  | fs f =>
   simp only [Kd.sz] at h
   rcases jW.1 k1 with e|⟨r,rfl,k3⟩
   ·exact absurd e h3
   ·rcases kP (f:=f) h1 h2 with ⟨g,rfl,e⟩|⟨hno,e⟩
    ·rw [e];rcases jW.1 k2 with e|⟨r',e',k4⟩
     ·exact absurd e h3
     ·injection e' with e';subst e';obtain⟨p1,p2⟩:=(cZ ha.1 hc.1).1 k3;obtain⟨q1,q2⟩:=(cZ hb.1 hc.1).1 k4;refine jW.2 (.inr ⟨r,rfl,(cZ (lB ha.1 hb.1) hc.1).2 ⟨λs m k hj=>?_,λs k hr=>?_⟩⟩)
      ·rw [er ha.1] at hj;rcases hf:f.find s with _|⟨m1,k1'⟩
       ·rcases hg:g.find s with _|⟨m2,k2'⟩
        ·rw [hf,hg] at hj;simp [jn] at hj
        ·rw [hf,hg] at hj;simp only [jn,Option.some.injEq,Prod.mk.injEq] at hj;obtain⟨rfl,rfl⟩:=hj;obtain⟨m',k',hr,e1,e2⟩:=q1 s m2 k2' hg;refine⟨m',k',hr,λe=>?_,e2⟩;subst e;have:=p2 s k' hr;rw [hf] at this;cases this
       ·obtain⟨m',k',hr,e1,e2⟩:=p1 s m1 k1' hf;rcases hg:g.find s with _|⟨m2,k2'⟩
        ·rw [hf,hg] at hj;simp only [jn,Option.some.injEq,Prod.mk.injEq] at hj;obtain⟨rfl,rfl⟩:=hj;refine⟨m',k',hr,λe=>?_,e2⟩;subst e;have:=q2 s k' hr;rw [hg] at this;cases this
        ·rw [hf,hg] at hj;simp only [jn,Option.some.injEq,Prod.mk.injEq] at hj;obtain⟨rfl,rfl⟩:=hj;obtain⟨m'',k'',wh,e3,e4⟩:=q1 s m2 k2' hg;rw [hr] at wh;simp only [Option.some.injEq,Prod.mk.injEq] at wh;obtain⟨rfl,rfl⟩:=wh;exact⟨m',k',hr,λe=>by rw [e1 e,e3 e];rfl,eC n k1' k2' k' (by have:=dM hf;omega) (bg ha.2 hf) (bg hb.2 hg) (bg hc.2 hr) e2 e4⟩
      ·have h5:=p2 s k hr;rw [er ha.1];rcases hf:f.find s with _|⟨m1,k1'⟩
       ·rw [hf] at h5;cases h5
       ·rcases hg:g.find s with _|⟨m2,k2'⟩<;> rfl
    ·exfalso
     cases b with
     | base y =>
      rcases jm.1 k2 with e|e|e
      ·subst e;exact h2 rfl
      ·cases e
      ·cases e
     | ent t=>rcases ao.1 k2 with e|e <;> cases e
     | set t=>rcases jB.1 k2 with e|⟨_,e,_⟩<;> cases e
     | fs t=>exact hno t rfl
theorem yh{a b:Kd}(ha:a.ok)(hb:b.ok):zI a b=zI b a:=by
 obtain⟨u1,u2⟩:=gI _ a b (Nat.le_refl _) ha hb;obtain⟨v1,v2⟩:=gI _ b a (Nat.le_refl _) hb ha;have o1:=eE _ a b (Nat.le_refl _) ha hb;have o2:=eE _ b a (Nat.le_refl _) hb ha;exact kL _ _ _ (Nat.le_refl _) o1 o2 (eC _ a b _ (Nat.le_refl _) ha hb o2 v2 v1) (eC _ b a _ (Nat.le_refl _) hb ha o1 u2 u1)
theorem QK{a b:Kd}(ha:a.ok)(hb:b.ok):zI a b=a↔zO b a=true:=by
 obtain⟨u1,u2⟩:=gI _ a b (Nat.le_refl _) ha hb;constructor
 ·intro e;rw [e] at u2;exact u2
 ·intro h;exact kL _ _ _ (Nat.le_refl _) (eE _ a b (Nat.le_refl _) ha hb) ha (eC _ a b a (Nat.le_refl _) ha hb ha (jD _ a (Nat.le_refl _) ha) h) u1
end Go.Wk
namespace Go.Wk
def Fl.av:Fl->Prop
 | .nil=>True
 | .cons s _ k r=>zk s=0/\k.valid/\r.av
theorem Vu{s:ByteArray}(h:zk s=0):js emp s<0:=by
 have hne:s≠emp:=λe=>by subst e;exact absurd h (by decide)
 rcases zw.rng emp s with e|e|e
 ·omega
 ·exact absurd ((zw.zero _ _).1 e).symm hne
 ·exfalso;unfold js at e;have:emp.data.toList = []:=rfl;rw [this] at e
  cases hs:s.data.toList with
  | nil=>exact hne (bB (by rw [hs];rfl))
  | cons a l=>rw [hs] at e;simp [Lib.compareBytes] at e
theorem ii:∀(f:Fl) (x:ByteArray),f.validFrom x↔f.ascFrom x/\f.av
 | .nil,_=>by simp [Fl.validFrom,Fl.ascFrom,Fl.av]
 | .cons s m k r,x=>by
  simp only [Fl.validFrom,Fl.ascFrom,Fl.av,ii r s];constructor
  ·rintro ⟨a,b,c,d,e⟩;exact⟨⟨a,d⟩,b,c,e⟩
  ·rintro ⟨⟨a,d⟩,b,c,e⟩;exact⟨a,b,c,d,e⟩
theorem TZ:∀f:Fl,f.asc->f.av->f.ascFrom emp
 | .nil,_,_=>trivial
 | .cons _ _ _ _,h,hv=>⟨Vu hv.1,h⟩
theorem bw{f:Fl}:(Kd.fs f).valid↔f.asc/\f.av:=by
 simp only [Kd.valid,ii];exact⟨λ⟨a,b⟩=>⟨bT a,b⟩,λ⟨a,b⟩=>⟨TZ f a b,b⟩⟩
theorem vL:∀(n:Nat) (a:Kd),a.sz<=n->a.valid->a.ok
 | 0,a,h,_=>by cases a <;> simp [Kd.sz] at h
 | n+1,a,h,hv=>by
  cases a with
  | base x=>trivial
  | ent s=>trivial
  | set p=>simp only [Kd.sz] at h;exact vL n p (by omega) hv
  | fs f =>
   simp only [Kd.sz] at h
   obtain⟨h1,h2⟩:=bw.1 hv
   refine⟨h1,?_⟩
   have key:∀g:Fl,g.sz<=n->g.av->g.ok:=by
    intro g hs hg
    induction g using Fl.rec (motive_1:=λ_=>True) with
    | nil=>trivial
    | cons s m k r _ ih =>
     simp only [Fl.sz] at hs
     exact⟨vL n k (by omega) hg.2.1,ih (by omega) hg.2.2⟩
    | _=>trivial
   exact key f (by omega) h2
theorem Kd.valid.ok{a:Kd}(h:a.valid):a.ok:=vL _ a (Nat.le_refl _) h
theorem Al(s:ByteArray)(m:Bool)(k:Kd)(hs:zk s=0)(hk:k.valid):∀f:Fl,f.av->(iC s m k f).av
 | .nil,_=>⟨hs,hk,trivial⟩
 | .cons t m' k' r,h=>by
  simp only [iC];split
  ·exact⟨hs,hk,h⟩
  ·exact⟨h.1,h.2.1,Al s m k hs hk r h.2.2⟩
theorem um(f:Fl):∀g:Fl,g.av->(bC g f).av
 | .nil,_=>trivial
 | .cons t m k r,h=>by
  simp only [bC];split
  ·exact um f r h.2.2
  ·exact⟨h.1,h.2.1,um f r h.2.2⟩
theorem dX{f:Fl}(h:f.av){s:ByteArray}{m:Bool}{k:Kd}(hf:f.find s=some (m,k)):k.valid:=by
 induction f using Fl.rec (motive_1:=λ_=>True) with
 | nil=>cases hf
 | cons t m' k' r _ ih =>
  simp only [Fl.find] at hf
  split at hf
  ·injection hf with hf;injection hf with h1 h2;subst h2;exact h.2.1
  ·exact ih h.2.2 hf
 | _=>trivial
theorem cA:∀(n:Nat) (a b:Kd),a.sz<=n->a.valid->b.valid->(zI a b).valid
 | 0,a,_,h,_,_=>by cases a <;> simp [Kd.sz] at h
 | n+1,a,b,h,ha,hb=>by
  have IJ:(Kd.base 48).valid:=by show ah 48;decide
  by_cases h1:b = .base 48
  ·rw [fN h1];exact IJ
  by_cases h2:b = .base 49
  ·rw [ef h2];exact ha
  cases a with
  | base x =>
   rw [fE h1 h2]
   split
   ·exact hb
   ·split
    ·exact ha
    ·exact IJ
  | ent s =>
   rw [iD h1 h2]
   split
   ·exact ha
   ·exact IJ
  | set p =>
   simp only [Kd.sz] at h
   rcases fK (p:=p) h1 h2 with ⟨q,rfl,e⟩|⟨-,e⟩
   ·rw [e];exact cA n p q (by omega) ha hb
   ·rw [e];exact IJ
  | fs f =>
   simp only [Kd.sz] at h
   rcases kP (f:=f) h1 h2 with ⟨g,rfl,e⟩|⟨-,e⟩
   ·rw [e]
    obtain⟨fa,fv⟩:=bw.1 ha;obtain⟨ga,gv⟩:=bw.1 hb;refine bw.2 ⟨lB fa ga,?_⟩;have key:∀(f' acc:Fl),f'.sz<=n->f'.av->acc.av->(aQ f' g acc).av:=by
     intro f' acc hs ho hacc
     induction f' using Fl.rec (motive_1:=λ_=>True) with
     | nil=>simpa [aQ] using hacc
     | cons s m k r _ ih =>
      simp only [Fl.sz] at hs
      have ih:=ih (by omega) ho.2.2
      simp only [aQ]
      rcases hg:g.find s with _|⟨m',k'⟩
      ·exact Al _ _ _ ho.1 ho.2.1 _ ih
      ·exact Al _ _ _ ho.1 (cA n k k' (by omega) ho.2.1 (dX gv hg)) _ ih
     | _=>trivial
    exact key f _ (by omega) fv (um f g gv)
   ·rw [e];exact IJ
theorem vn{a b c:Kd}(ha:a.ok)(hb:b.ok)(hc:c.ok):zO (zI a b) c=true↔zO a c=true/\zO b c=true:=by
 obtain⟨u1,u2⟩:=gI _ a b (Nat.le_refl _) ha hb;have o:=eE _ a b (Nat.le_refl _) ha hb;constructor
 ·intro h;exact⟨cz _ a _ c (Nat.le_refl _) ha o hc u1 h,cz _ b _ c (Nat.le_refl _) hb o hc u2 h⟩
 ·rintro ⟨h1,h2⟩;exact eC _ a b c (Nat.le_refl _) ha hb hc h1 h2
theorem xw{a:Kd}(ha:a.ok):zI a a=a:=(QK ha ha).2 (jD _ a (Nat.le_refl _) ha)
abbrev Kfd:=ByteArray × Bool × Kd
def Fl.list:Fl->List Kfd
 | .nil => []
 | .cons s m k r=>(s,m,k):: r.list
theorem uH{f:Fl}:∀x:ByteArray,f.ascFrom x->(∀y∈f.list,js x y.1<0)/\f.list.Pairwise λa b=>js a.1 b.1<0:=by
 induction f using Fl.rec (motive_1:=λ_=>True) with
 | nil=>intro x _;exact⟨(λ_ hy=>nomatch hy),List.Pairwise.nil⟩
 | cons s m k r _ ih =>
  intro x h
  obtain⟨h1,h2⟩:=ih s h.2
  refine⟨λy hy=>?_,List.Pairwise.cons h1 h2⟩
  rcases List.mem_cons.1 hy with rfl|hy
  ·exact h.1
  ·exact zw.lt_le h.1 (by have:=h1 y hy;omega)
 | _=>trivial
theorem ud{f:Fl}(h:f.asc):f.list.Pairwise λa b=>js a.1 b.1<0:=by
 cases f with
 | nil=>exact List.Pairwise.nil
 | cons s m k r =>
  obtain⟨h1,h2⟩:=uH s h
  exact List.Pairwise.cons h1 h2
theorem bY{f:Fl}(h:f.asc){s:ByteArray}{m:Bool}{k:Kd}:f.find s=some (m,k)↔(s,m,k)∈f.list:=by
 induction f using Fl.rec (motive_1:=λ_=>True) with
 | nil=>simp [Fl.find,Fl.list]
 | cons t m' k' r _ ih =>
  have ih:=ih (bT h)
  simp only [Fl.find,Fl.list,List.mem_cons,Prod.mk.injEq]
  by_cases e:t=s
  ·subst e
   rw [if_pos rfl];simp only [Option.some.injEq,Prod.mk.injEq,true_and];constructor
   ·rintro ⟨rfl,rfl⟩;exact .inl ⟨rfl,rfl⟩
   ·rintro (⟨rfl,rfl⟩|hm)
    ·exact⟨rfl,rfl⟩
    ·have:=(uH t h).1 _ hm;rw [zw.self] at this;omega
  ·rw [if_neg e,ih]
   exact⟨.inr,λh=>h.resolve_left (λq=>e q.1.symm)⟩
 | _=>trivial
theorem yv{f:Fl}{s:ByteArray}:f.find s=none↔∀y∈f.list,y.1≠s:=by
 induction f using Fl.rec (motive_1:=λ_=>True) with
 | nil=>simp [Fl.find,Fl.list]
 | cons t m' k' r _ ih =>
  simp only [Fl.find,Fl.list,List.mem_cons]
  by_cases e:t=s
  ·subst e
   rw [if_pos rfl];exact⟨λh=>(nomatch h),λh=>absurd rfl (h (t,m',k') (.inl rfl))⟩
  ·rw [if_neg e,ih]
   constructor
   ·rintro h y (rfl|hy)
    ·exact e
    ·exact h y hy
   ·exact λh y hy=>h y (.inr hy)
 | _=>trivial
structure qF(L:List Kfd)(s:ByteArray)(lo hi:Nat):Prop where
 le:lo<=hi
 hi_:hi<=L.length
 low:∀i (h:i<L.length),i<lo->js L[i].1 s<0
 high:∀i (h:i<L.length),hi<=i->¬js L[i].1 s<0
theorem qF.start(L:List Kfd)(s:ByteArray):qF L s 0 L.length:=⟨Nat.zero_le _,Nat.le_refl _,λi _ h=>by omega,λi h h2=>by omega⟩
theorem qF.up{L:List Kfd}{s:ByteArray}{lo hi m:Nat}(h:qF L s lo hi)(hp:L.Pairwise λa b=>js a.1 b.1<0)(h1:lo<=m)(h2:m<hi)(hm:m<L.length)(hl:js L[m].1 s<0):qF L s (m+1) hi :=
 ⟨by omega,h.hi_,λi hi' hlt=>by
  rcases Nat.lt_or_ge i m with q|q
  ·have:=List.pairwise_iff_getElem.1 hp i m hi' hm q
   exact zw.lt_le this (by omega)
  ·have:i=m:=by omega
   subst this;exact hl,h.high⟩
theorem qF.down{L:List Kfd}{s:ByteArray}{lo hi m:Nat}(h:qF L s lo hi)(hp:L.Pairwise λa b=>js a.1 b.1<0)(h1:lo<=m)(h2:m<hi)(hm:m<L.length)(hl:¬js L[m].1 s<0):qF L s lo m :=
 ⟨h1,by omega,h.low,λi hi' WW=>by
  rcases Nat.lt_or_ge m i with q|q
  ·have:=List.pairwise_iff_getElem.1 hp m i hm hi' q
   intro hc
   exact hl (zw.lt_le this (by omega))
  ·have:i=m:=by omega
   subst this;exact hl⟩
theorem qF.found{L:List Kfd}{s:ByteArray}{lo:Nat}(h:qF L s lo lo)(hp:L.Pairwise λa b=>js a.1 b.1<0):(∀(hl:lo<L.length),L[lo].1=s->L[lo]∈L)/\((∀(hl:lo<L.length),L[lo].1≠s)->∀y∈L,y.1≠s):=by
 refine⟨λhl _=>List.getElem_mem hl,λhno y hy e=>?_⟩;obtain⟨i,hi,rfl⟩:=List.getElem_of_mem hy;rcases Nat.lt_trichotomy i lo with q|q|q
 ·have:=h.low i hi q;rw [e,zw.self] at this;omega
 ·subst q;exact hno hi e
 ·have h1:=List.pairwise_iff_getElem.1 hp lo i (by omega) hi q;have h2:=h.high lo (by omega) (Nat.le_refl _);rw [e] at h1;exact h2 h1
def gx:Fl->Fl->Nat
 | .nil,_=>0
 | .cons s _ _ r,g=>(match g.find s with|none=>0|some (_,k)=>k.sz)+gx r g
theorem Ag(s:ByteArray)(m:Bool)(k:Kd):∀f:Fl,(iC s m k f).sz=f.sz+k.sz+1
 | .nil=>by simp [iC,Fl.sz]
 | .cons t m' k' r=>by
  simp only [iC];split
  ·simp only [Fl.sz];omega
  ·simp only [Fl.sz,Ag s m k r];omega
theorem Ck:∀f:Fl,gx f .nil=0
 | .nil=>rfl
 | .cons s m k r=>by simp [gx,Fl.find,Ck r]
theorem xk(t:ByteArray)(m:Bool)(k:Kd)(r:Fl):∀f:Fl,f.asc->gx f (.cons t m k r)<=gx f r+(if(f.find t).isSome then k.sz else 0)
 | .nil,_=>by simp [gx]
 | .cons s m' k' f,h=>by
  have ih:=xk t m k r f (bT h);by_cases e:s=t
  ·subst e;have hn:f.find s=none:=qO h;rw [hn] at ih;simp only [gx,Fl.find,if_true,Option.isSome_some];simp only [Option.isSome_none,Bool.false_eq_true,if_false] at ih;omega
  ·have e2:¬t=s:=λq=>e q.symm;simp only [gx,Fl.find,if_neg e,if_neg e2];omega
theorem xU(f:Fl)(hf:f.asc):∀g:Fl,(bC g f).sz+gx f g<=g.sz
 | .nil=>by simp [bC,Fl.sz,Ck]
 | .cons t m k r=>by
  have ih:=xU f hf r;have h:=xk t m k r f hf;simp only [bC,Fl.sz];split
  ·rename_i hs;rw [if_pos hs] at h;omega
  ·rename_i hs;rw [if_neg hs] at h;simp only [Fl.sz];omega
theorem OU(k:Kd):1<=k.sz:=by cases k <;> simp [Kd.sz]
theorem Jy:∀n:Nat,(∀a b:Kd,a.sz<=n->a.ok->b.ok->(zI a b).sz<=a.sz+b.sz)/\(∀f g acc:Fl,f.sz<=n->f.asc->f.ok->g.ok->(aQ f g acc).sz<=f.sz+acc.sz+gx f g)
 | 0=>by
  refine⟨λa b h=>by cases a <;> simp [Kd.sz] at h,λf g acc h _ _ _=>?_⟩
  cases f with
  | nil=>simp [aQ,Fl.sz,gx]
  | cons s m k r=>simp [Fl.sz] at h
 | n+1=>by
  obtain⟨ihK,ihF⟩:=Jy n;refine⟨λa b h ha hb=>?_,λf g acc h hf de hg=>?_⟩
  ·have hpa:=OU a;by_cases h1:b = .base 48
   ·rw [fN h1];simp only [Kd.sz];omega
   by_cases h2:b = .base 49
   ·rw [ef h2];omega
   have hp:=OU b
   cases a with
   | base x =>
    rw [fE h1 h2]
    split
    ·omega
    ·split <;> simp only [Kd.sz] <;> omega
   | ent s =>
    rw [iD h1 h2]
    split <;> simp only [Kd.sz] <;> omega
   | set p =>
    simp only [Kd.sz] at h
    rcases fK (p:=p) h1 h2 with ⟨q,rfl,e⟩|⟨-,e⟩
    ·rw [e]
     have:=ihK p q (by omega) ha hb;simp only [Kd.sz];omega
    ·rw [e];simp only [Kd.sz];omega
   | fs f =>
    simp only [Kd.sz] at h
    rcases kP (f:=f) h1 h2 with ⟨g,rfl,e⟩|⟨-,e⟩
    ·rw [e]
     have:=ihF f g (bC g f) (by omega) ha.1 ha.2 hb.2;have:=xU f ha.1 g;simp only [Kd.sz];omega
    ·rw [e];simp only [Kd.sz];omega
  ·cases f with
   | nil=>simp only [aQ,Fl.sz,gx];omega
   | cons s m k r =>
    simp only [Fl.sz] at h
    have ih:=ihF r g acc (by omega) (bT hf) de.2 hg
    rcases hs:g.find s with _|⟨m',k'⟩
    ·simp only [aQ,hs,gx,Ag,Fl.sz];omega
    ·have:=ihK k k' (by omega) de.1 (bg hg hs)
     simp only [aQ,hs,gx,Ag,Fl.sz];omega
theorem Co{a b:Kd}(ha:a.ok)(hb:b.ok):(zI a b).sz<=a.sz+b.sz:=(Jy _).1 a b (Nat.le_refl _) ha hb
def ofL:List Kfd->Fl
 | [] => .nil
 | y :: r => .cons y.1 y.2.1 y.2.2 (ofL r)
theorem pS:∀L:List Kfd,(ofL L).list=L
 | []=>rfl
 | y :: r=>by simp [ofL,Fl.list,pS r]
theorem uM:∀f:Fl,ofL f.list=f
 | .nil=>rfl
 | .cons s m k r=>by simp [Fl.list,ofL,uM r]
theorem Aa:∀L:List Kfd,(L.Pairwise λa b=>js a.1 b.1<0)->(ofL L).asc/\∀x,(∀y∈L,js x y.1<0)->(ofL L).ascFrom x
 | [],_=>⟨trivial,λ_ _=>trivial⟩
 | y :: r,h=>by
  rw [List.pairwise_cons] at h;obtain⟨h1,h2⟩:=h;obtain⟨-,ih⟩:=Aa r h2;exact⟨ih y.1 h1,λx hx=>⟨hx y (by simp),ih y.1 h1⟩⟩
def yQ(L:List Kfd)(f:Fl):Fl:=ofL (L ++ f.list)
theorem Pk(f:Fl):yQ [] f=f:=by unfold yQ;rw [List.nil_append,uM]
theorem LW(L:List Kfd)(s:ByteArray)(b:Bool)(k:Kd)(f:Fl):yQ (L ++ [(s,b,k)]) f=yQ L (.cons s b k f):=by
 unfold yQ;rw [List.append_assoc];rfl
theorem QO(L:List Kfd):yQ L .nil=ofL L:=by unfold yQ;rw [Fl.list,List.append_nil]
def lJ(g:Fl)(y:Kfd):Kfd:=match g.find y.1 with
 | none=>(y.1,false,y.2.2)
 | some (m',k')=>(y.1,y.2.1 && m',zI y.2.2 k')
def Cg(f g:Fl):List Kfd:=f.list.map (lJ g)++(g.list.filter λy=>(f.find y.1).isNone).map λy=>(y.1,false,y.2.2)
theorem mj(g:Fl)(y:Kfd):(lJ g y).1=y.1:=by unfold lJ;split <;> rfl
theorem Et{f g:Fl}(hf:f.asc)(hg:g.asc)(s:ByteArray)(m:Bool)(k:Kd):(s,m,k)∈Cg f g↔(aQ f g (bC g f)).find s=some (m,k):=by
 rw [er hf];unfold Cg;rw [List.mem_append,List.mem_map,List.mem_map];constructor
 ·rintro (⟨⟨s',m',k'⟩,h1,h2⟩|⟨⟨s',m',k'⟩,h1,h2⟩)
  ·have h3:=(bY hf).2 h1;have hs:s'=s:=by have:=mj g (s',m',k');rw [h2] at this;exact this.symm
   subst hs;rw [h3];unfold lJ at h2;simp only at h2;rcases hg2:g.find s' with _|⟨m2,k2⟩
   ·rw [hg2] at h2;simp only [Prod.mk.injEq,true_and] at h2;simp [jn,h2]
   ·rw [hg2] at h2;simp only [Prod.mk.injEq,true_and] at h2;simp [jn,h2]
  ·rw [List.mem_filter] at h1;obtain⟨h1,h4⟩:=h1;have h3:=(bY hg).2 h1;simp only [Prod.mk.injEq] at h2;obtain⟨rfl,rfl,rfl⟩:=h2;simp only [Option.isNone_iff_eq_none] at h4;rw [h3,h4];rfl
 ·intro h;rcases hf2:f.find s with _|⟨m1,k1⟩
  ·rcases hg2:g.find s with _|⟨m2,k2⟩
   ·rw [hf2,hg2] at h;cases h
   ·rw [hf2,hg2] at h;simp only [jn,Option.some.injEq,Prod.mk.injEq] at h;refine .inr ⟨(s,m2,k2),List.mem_filter.2 ⟨(bY hg).1 hg2,by simp [hf2]⟩,by simp [h]⟩
  ·refine .inl ⟨(s,m1,k1),(bY hf).1 hf2,?_⟩;unfold lJ;simp only;rcases hg2:g.find s with _|⟨m2,k2⟩
   ·rw [hf2,hg2] at h;simp only [jn,Option.some.injEq,Prod.mk.injEq] at h;simp [h]
   ·rw [hf2,hg2] at h;simp only [jn,Option.some.injEq,Prod.mk.injEq] at h;simp [h]
theorem RZ{f g:Fl}:(Cg f g).length<=f.len+g.len:=by
 unfold Cg;rw [List.length_append,List.length_map,List.length_map];have h:=List.length_filter_le (λy:Kfd=>(f.find y.1).isNone) g.list;have h1:∀x:Fl,x.list.length=x.len:=λx=>by
  induction x using Fl.rec (motive_1:=λ_=>True) with
  | nil=>rfl
  | cons s m k r _ ih=>simp [Fl.len,Fl.list,ih]
  | _=>trivial
 have e1:=h1 f;have e2:=h1 g;omega
theorem Cu{f g:Fl}(hf:f.asc)(hg:g.asc){L:List Kfd}(hp:L.Perm (Cg f g))(hs:L.Pairwise λa b=>js a.1 b.1<=0):ofL L=aQ f g (bC g f):=by
 have hnd:L.Pairwise λa b=>js a.1 b.1<0:=by
  have hn:(Cg f g).Pairwise λa b=>a.1≠b.1:=by
   unfold Cg;rw [List.pairwise_append];refine⟨?_,?_,?_⟩
   ·rw [List.pairwise_map];refine(ud hf).imp λ{a b} h e=>?_;rw [mj,mj] at e;rw [e,zw.self] at h;omega
   ·rw [List.pairwise_map];refine((ud hg).filter _).imp λ{a b} h e=>?_;simp only at e;rw [e,zw.self] at h;omega
   ·intro a ha b hb e;rw [List.mem_map] at ha hb;obtain⟨x,hx,rfl⟩:=ha;obtain⟨y,hy,rfl⟩:=hb;rw [mj] at e;simp only at e;rw [List.mem_filter] at hy;have h1:f.find y.1=none:=by simpa using hy.2
    have h2:=(bY hf (s:=x.1) (m:=x.2.1) (k:=x.2.2)).2 hx;rw [e,h1] at h2;cases h2
  have hnL:L.Pairwise λa b=>a.1≠b.1:=hp.symm.pairwise hn (λ{a b} h=>λe=>h e.symm);refine(List.Pairwise.and hs hnL).imp λ{a b} ⟨h1,h2⟩=>?_;have:js a.1 b.1≠0:=λe=>h2 ((zw.zero _ _).1 e);omega
 have ho:=(Aa L hnd).1;refine Gn _ _ ho (lB hf hg) λs=>?_;rcases h:(aQ f g (bC g f)).find s with _|⟨m,k⟩
 ·rw [yv,pS];intro y hy e;have h2:=(Et hf hg y.1 y.2.1 y.2.2).1 (hp.mem_iff.1 hy);rw [e,h] at h2;cases h2
 ·rw [bY ho,pS];exact hp.mem_iff.2 ((Et hf hg s m k).2 h)
def Cy:List Nd->ByteArray
 | []=>emp
 | x :: _=>x.s
def sq(L:List Kd):Kd:=L.foldl zI (.base 49)
def lm:Nat->List Nd->Kd
 | 0,_ => .base 49
 | m+1,P =>
  if zg P=1 then .base 41 else if zg P=2 then .base 42 else if zg P=3 then .base 43 else if zg P=4 then .ent (Cy P)
  else if zg P=5 then .set (sq ((zn P).map (lm m)))
  else .fs (ofL ((zo P).map λx=>(x.1,true,lm m x.2)))
def jJ(P:List Nd):Kd:=lm (P.length+1) P
theorem C'{L:List (List Nd)}{Q:List Nd}(h:Q∈L):Q.length<=L.flatten.length:=by
 induction L with
 | nil=>cases h
 | cons a r ih =>
  rw [List.flatten_cons,List.length_append]
  rcases List.mem_cons.1 h with rfl|h
  ·omega
  ·have:=ih h;omega
theorem vB(L:List (List Nd)):L.flatten.length=(L.map List.length).sum:=by rw [List.length_flatten]
theorem Ld{L:List (ByteArray × List Nd)}{x:ByteArray × List Nd}(h:x∈L):x.2.length<(zV L).length:=by
 induction L with
 | nil=>cases h
 | cons a r ih =>
  simp only [zV,List.length_cons,List.length_append]
  rcases List.mem_cons.1 h with rfl|h
  ·omega
  ·have:=ih h;omega
theorem gu{P:List Nd}(h:IsV P)(h5:zg P=5){Q:List Nd}(hQ:Q∈zn P):Q.length<P.length:=by
 obtain⟨e,-,-,-⟩:=dc h h5;have:=C' hQ;rw [e,List.length_cons];omega
theorem gr{P:List Nd}(h:IsV P)(h6:zg P=6){x:ByteArray × List Nd}(hx:x∈zo P):x.2.length<P.length:=by
 obtain⟨e,-,-,-⟩:=dD h h6;have:=Ld hx;rw [e,List.length_cons];omega
theorem iM{P:List Nd}(h:IsV P):∃x r,P=x :: r/\zC x=true/\x.op≠7:=by
 have hp:=h.pos;unfold IsV at h;rcases P with _|⟨x,r⟩
 ·simp at hp
 refine⟨x,r,rfl,?_⟩;simp only [zq,List.getElem?_cons_zero] at h;by_cases hs:zC x=true
 ·refine⟨hs,λh7=>?_⟩;rw [if_pos hs,h7,if_neg (by decide),if_neg (by decide),if_pos rfl] at h;cases h
 ·rw [if_neg hs] at h;cases h
theorem vx{P:List Nd}(h:IsV P):zg P=1\/zg P=2\/zg P=3\/zg P=4\/zg P=5\/zg P=6:=by
 obtain⟨x,r,rfl,hs,h7⟩:=iM h;rw [rf];unfold zC at hs;by_cases h1:x.op=1
 ·omega
 by_cases h2:x.op=2
 ·omega
 by_cases h3:x.op=3
 ·omega
 by_cases h4:x.op=4
 ·omega
 by_cases h56:x.op=5\/x.op=6
 ·omega
 simp [h1,h2,h3,h4,h56,h7] at hs
theorem RX{P:List Nd}(h:IsV P)(h4:zg P=4):zk (Cy P)=0:=by
 obtain⟨x,r,rfl,hs,h7⟩:=iM h;rw [rf] at h4;unfold zC at hs;rw [if_neg (by omega),if_neg (by omega),if_neg (by omega),if_pos h4] at hs;simp only [Bool.and_eq_true,decide_eq_true_eq] at hs;exact hs.1.2
theorem mB:∀(m m':Nat) (P:List Nd),IsV P->P.length<m->P.length<m'->lm m P=lm m' P
 | 0,_,_,_,h,_=>by omega
 | _+1,0,_,_,_,h=>by omega
 | m+1,m'+1,P,hP,h,h'=>by
  have h6:=vx hP;unfold lm;by_cases h5:zg P=5
  ·have:(zn P).map (lm m)=(zn P).map (lm m'):=List.map_congr_left λQ hQ=>by
    have:=gu hP h5 hQ;exact mB m m' Q ((dc hP h5).2.2.1 Q hQ) (by omega) (by omega)
   simp [h5,this]
  ·by_cases h66:zg P=6
   ·have:((zo P).map λx=>(x.1,true,lm m x.2))=((zo P).map λx=>(x.1,true,lm m' x.2)):=List.map_congr_left λx hx=>by
     have:=gr hP h66 hx;rw [mB m m' x.2 ((dD hP h66).2.2.1 x hx).1 (by omega) (by omega)]
    simp [h66,this]
   ·split
    ·rfl
    ·split
     ·rfl
     ·split
      ·rfl
      ·split
       ·rfl
       ·omega
theorem ol{P:List Nd}(h:zg P=1):jJ P = .base 41:=by unfold jJ lm;simp [h]
theorem qQ{P:List Nd}(h:zg P=2):jJ P = .base 42:=by unfold jJ lm;simp [h]
theorem uP{P:List Nd}(h:zg P=3):jJ P = .base 43:=by unfold jJ lm;simp [h]
theorem oC{P:List Nd}(h:zg P=4):jJ P = .ent (Cy P):=by unfold jJ lm;simp [h]
theorem vK{P:List Nd}(hP:IsV P)(h:zg P=5):jJ P = .set (sq ((zn P).map jJ)):=by
 have:(zn P).map (lm P.length)=(zn P).map jJ:=List.map_congr_left λQ hQ=>by
  have:=gu hP h hQ;exact mB _ _ Q ((dc hP h).2.2.1 Q hQ) this (by omega)
 unfold jJ;rw [lm];simp [h,this];rfl
theorem vP{P:List Nd}(hP:IsV P)(h:zg P=6):jJ P = .fs (ofL ((zo P).map λx=>(x.1,true,jJ x.2))):=by
 have:((zo P).map λx=>(x.1,true,lm P.length x.2))=((zo P).map λx=>(x.1,true,jJ x.2)):=List.map_congr_left λx hx=>by
  have:=gr hP h hx;rw [mB P.length (x.2.length+1) x.2 ((dD hP h).2.2.1 x hx).1 this (by omega)];rfl
 unfold jJ;rw [lm];simp [h,this];rfl
theorem Ad(M:List Nd->Prop)(h1:∀P,IsV P->zg P≠5->zg P≠6->M P)(h5:∀P,IsV P->zg P=5->(∀Q∈zn P,M Q)->M P)(h6:∀P,IsV P->zg P=6->(∀x∈zo P,M x.2)->M P):
 ∀(n:Nat) (P:List Nd),P.length<=n->IsV P->M P
 | 0,P,h,hP=>by have:=hP.pos;omega
 | n+1,P,h,hP=>by
  by_cases e5:zg P=5
  ·exact h5 P hP e5 λQ hQ=>Ad M h1 h5 h6 n Q (by have:=gu hP e5 hQ;omega) ((dc hP e5).2.2.1 Q hQ)
  ·by_cases e6:zg P=6
   ·exact h6 P hP e6 λx hx=>Ad M h1 h5 h6 n x.2 (by have:=gr hP e6 hx;omega) ((dD hP e6).2.2.1 x hx).1
   ·exact h1 P hP e5 e6
theorem QB{M:List Nd->Prop}{P:List Nd}(hP:IsV P)(h1:∀P,IsV P->zg P≠5->zg P≠6->M P)(h5:∀P,IsV P->zg P=5->(∀Q∈zn P,M Q)->M P)(h6:∀P,IsV P->zg P=6->(∀x∈zo P,M x.2)->M P):M P :=
 Ad M h1 h5 h6 _ P (Nat.le_refl _) hP
theorem fW:∀(L:List Kd) (a:Kd),a.valid->(∀k∈L,k.valid)->(L.foldl zI a).valid
 | [],_,h,_=>h
 | k :: r,a,h,h2=>fW r _ (cA _ a k (Nat.le_refl _) h (h2 k (by simp))) λx hx=>h2 x (by simp [hx])
theorem lW:∀(L:List Kd) (a:Kd),a.ok->(∀k∈L,k.ok)->(L.foldl zI a).sz<=a.sz+(L.map Kd.sz).sum
 | [],a,_,_=>by simp
 | k :: r,a,h,h2=>by
  have h3:=Co h (h2 k (by simp));have:=lW r _ (eE _ a k (Nat.le_refl _) h (h2 k (by simp))) λx hx=>h2 x (by simp [hx]);simp only [List.foldl_cons,List.map_cons,List.sum_cons];omega
theorem Qs:∀L:List Kfd,(∀y∈L,zk y.1=0/\y.2.2.valid)->(ofL L).av
 | [],_=>trivial
 | y :: r,h=>⟨(h y (by simp)).1,(h y (by simp)).2,Qs r λx hx=>h x (by simp [hx])⟩
theorem Cc:∀(L:List (ByteArray × List Nd)) (x:ByteArray),UpB x L->(∀y∈L,js x y.1<0)/\L.Pairwise λa b=>js a.1 b.1<0
 | [],_,_=>⟨λ_ h=>(nomatch h),List.Pairwise.nil⟩
 | y :: r,x,h=>by
  obtain⟨h1,h2⟩:=h;obtain⟨h3,h4⟩:=Cc r y.1 h2;refine⟨λz hz=>?_,List.pairwise_cons.2 ⟨h3,h4⟩⟩;rcases List.mem_cons.1 hz with rfl|hz
  ·exact h1
  ·exact zw.lt_le h1 (by have:=h3 z hz;omega)
theorem IW{P:List Nd}(hP:IsV P)(h:zg P=6):(ofL ((zo P).map λx=>(x.1,true,jJ x.2))).asc:=by
 refine(Aa _ ?_).1;rw [List.pairwise_map];exact(Cc _ _ (dD hP h).2.2.2).2
theorem mJ{P:List Nd}(hP:IsV P):(jJ P).valid:=by
 refine QB (M:=λP=>(jJ P).valid) hP ?_ ?_ ?_
 ·intro P hP h5 h6;rcases vx hP with h|h|h|h|h|h
  ·rw [ol h];simp [Kd.valid,ah]
  ·rw [qQ h];simp [Kd.valid,ah]
  ·rw [uP h];simp [Kd.valid,ah]
  ·rw [oC h];exact RX hP h
  ·exact absurd h h5
  ·exact absurd h h6
 ·intro P hP h5 ih;rw [vK hP h5];exact fW _ _ (by simp [Kd.valid,ah]) λk hk=>by
   obtain⟨Q,hQ,rfl⟩:=List.mem_map.1 hk;exact ih Q hQ
 ·intro P hP h6 ih;rw [vP hP h6];refine bw.2 ⟨IW hP h6,Qs _ λy hy=>?_⟩;obtain⟨x,hx,rfl⟩:=List.mem_map.1 hy;exact⟨((dD hP h6).2.2.1 x hx).2,ih x hx⟩
theorem oc{P:List Nd}(hP:IsV P):(jJ P).ok:=(mJ hP).ok
theorem yD{α:Type}(f g:α->Nat):∀L:List α,(∀x∈L,f x<=g x)->(L.map f).sum<=(L.map g).sum
 | [],_=>Nat.le_refl _
 | x :: r,h=>by
  have h1:=h x (by simp);have h2:=yD f g r λy hy=>h y (by simp [hy]);simp only [List.map_cons,List.sum_cons];omega
theorem sH{α:Type}(f:α->Nat):∀L:List α,(L.map λx=>2*f x).sum=2*(L.map f).sum
 | []=>rfl
 | x :: r=>by simp only [List.map_cons,List.sum_cons,sH f r];omega
theorem Pr:∀L:List Kfd,(ofL L).sz=(L.map λy=>y.2.2.sz+1).sum
 | []=>rfl
 | y :: r=>by simp only [ofL,Fl.sz,List.map_cons,List.sum_cons,Pr r];omega
theorem ow:∀L:List (ByteArray × List Nd),(zV L).length=(L.map λx=>x.2.length+1).sum
 | []=>rfl
 | x :: r=>by simp only [zV,List.length_cons,List.length_append,List.map_cons,List.sum_cons,ow r];omega
theorem GG{P:List Nd}(hP:IsV P):(jJ P).sz<=2*P.length:=by
 refine QB (M:=λP=>(jJ P).sz<=2*P.length) hP ?_ ?_ ?_
 ·intro P hP h5 h6;have hp:=hP.pos;rcases vx hP with h|h|h|h|h|h
  ·rw [ol h];simp only [Kd.sz];omega
  ·rw [qQ h];simp only [Kd.sz];omega
  ·rw [uP h];simp only [Kd.sz];omega
  ·rw [oC h];simp only [Kd.sz];omega
  ·exact absurd h h5
  ·exact absurd h h6
 ·intro P hP h5 ih;rw [vK hP h5];obtain⟨e,-,hv,-⟩:=dc hP h5;have h1:=lW ((zn P).map jJ) (.base 49) trivial λk hk=>by
   obtain⟨Q,hQ,rfl⟩:=List.mem_map.1 hk;exact oc (hv Q hQ)
  rw [List.map_map] at h1;have h2:=yD (Kd.sz ∘ jJ) (λQ=>2*Q.length) (zn P) λQ hQ=>ih Q hQ;rw [sH] at h2;rw [e,List.length_cons,vB];simp only [Kd.sz,sq] at h1 ⊢;rw [<-e];omega
 ·intro P hP h6 ih;rw [vP hP h6];obtain⟨e,-,hv,-⟩:=dD hP h6;have h2:=yD (λx:ByteArray × List Nd=>(jJ x.2).sz+1) (λx=>2*(x.2.length+1)) (zo P) λx hx=>by have:=ih x hx;omega
  rw [sH] at h2;rw [e,List.length_cons,ow];simp only [Kd.sz,Pr,List.map_map,Function.comp_def];rw [<-e];omega
def eV(g:Fl)(y:Kfd):Bool:=match g.find y.1 with|none=>false|some (m',k')=>(!m' || y.2.1)&& zO y.2.2 k'
theorem tg(g:Fl):∀f:Fl,fc f g=f.list.all (eV g)
 | .nil=>rfl
 | .cons s m k r=>by
  rw [fc,tg g r,Fl.list,List.all_cons];rfl
theorem xN(f:Fl):∀g:Fl,kZ g f=g.list.all λy => !y.2.1 ||(f.find y.1).isSome
 | .nil=>rfl
 | .cons s m k r=>by
  rw [kZ,xN f r,Fl.list,List.all_cons]
theorem nE{α:Type}{p:α->Bool}{L:List α}{i:Nat}(hi:i<L.length)(h:(L.take i).all p=true)(hx:p L[i]=true):(L.take (i+1)).all p=true:=by
 rw [List.take_succ_eq_append_getElem hi,List.all_append,h,Bool.true_and,List.all_cons,hx];rfl
theorem Jg{α:Type}{p:α->Bool}{L:List α}{i:Nat}(hi:i<L.length)(hx:p L[i]=false):L.all p=false:=by
 rw [List.all_eq_false];exact⟨L[i],List.getElem_mem hi,by rw [hx];simp⟩
theorem eI{c:Kd}(hc:c.ok):∀(L:List Kd) (a:Kd),a.ok->(∀k∈L,k.ok)->(zO (L.foldl zI a) c=true↔zO a c=true/\∀k∈L,zO k c=true)
 | [],a,_,_=>by simp
 | k :: r,a,ha,h=>by
  rw [List.foldl_cons,eI hc r _ (eE _ a k (Nat.le_refl _) ha (h k (by simp))) (λx hx=>h x (by simp [hx])),vn ha (h k (by simp)) hc];constructor
  ·rintro ⟨⟨h1,h2⟩,h3⟩;refine⟨h1,λx hx=>?_⟩;rcases List.mem_cons.1 hx with rfl|hx
   ·exact h2
   ·exact h3 x hx
  ·rintro ⟨h1,h2⟩;exact⟨⟨h1,h2 k (by simp)⟩,λx hx=>h2 x (by simp [hx])⟩
theorem nf{P:List Nd}(hP:IsV P)(h:zg P=5){q:Kd}(hq:q.ok):zO (jJ P) (.set q)=true↔∀Q∈zn P,zO (jJ Q) q=true:=by
 have hv:=(dc hP h).2.2.1;rw [vK hP h,jB];unfold sq;constructor
 ·rintro (h1|⟨q',h1,h2⟩)
  ·cases h1
  ·injection h1 with h1;subst h1;rw [eI hq _ (.base 49) trivial (λk hk=>by obtain⟨Q,hQ,rfl⟩:=List.mem_map.1 hk;exact oc (hv Q hQ))] at h2;exact λQ hQ=>h2.2 _ (List.mem_map.2 ⟨Q,hQ,rfl⟩)
 ·intro h1;refine .inr ⟨q,rfl,?_⟩;rw [eI hq _ (.base 49) trivial (λk hk=>by obtain⟨Q,hQ,rfl⟩:=List.mem_map.1 hk;exact oc (hv Q hQ))];exact⟨kD _ _ rfl,λk hk=>by obtain⟨Q,hQ,rfl⟩:=List.mem_map.1 hk;exact h1 Q hQ⟩
theorem nD{P:List Nd}(hP:IsV P)(h:zg P=6){f:Fl}(hf:f.asc):zO (jJ P) (.fs f)=true↔
 (∀x∈zo P,∃m k,f.find x.1=some (m,k)/\zO (jJ x.2) k=true)/\(∀s k,f.find s=some (true,k)->∃x∈zo P,x.1=s):=by
 have ha:=IW hP h;have hm:∀s m k,(ofL ((zo P).map λx=>(x.1,true,jJ x.2))).find s=some (m,k)↔∃x∈zo P,x.1=s/\m=true/\k=jJ x.2:=λs m k=>by
  rw [bY ha,pS,List.mem_map];constructor
  ·rintro ⟨x,hx,e⟩;simp only [Prod.mk.injEq] at e;exact⟨x,hx,e.1,e.2.1.symm,e.2.2.symm⟩
  ·rintro ⟨x,hx,rfl,rfl,rfl⟩;exact⟨x,hx,rfl⟩
 rw [vP hP h,jW];constructor
 ·rintro (h1|⟨g,h1,h2,h3⟩)
  ·cases h1
  ·injection h1 with h1;subst h1;rw [km ha] at h2;rw [mD hf] at h3;refine⟨λx hx=>?_,λs k hs=>?_⟩
   ·obtain⟨m',k',e1,-,e2⟩:=h2 x.1 true (jJ x.2) ((hm _ _ _).2 ⟨x,hx,rfl,rfl,rfl⟩);exact⟨m',k',e1,e2⟩
   ·have:=h3 s k hs;rw [Option.isSome_iff_exists] at this;obtain⟨⟨m,k'⟩,e⟩:=this;obtain⟨x,hx,e1,-,-⟩:=(hm _ _ _).1 e;exact⟨x,hx,e1⟩
 ·rintro ⟨h1,h2⟩;refine .inr ⟨f,rfl,(km ha).2 λs m k hs=>?_,(mD hf).2 λs k hs=>?_⟩
  ·obtain⟨x,hx,rfl,rfl,rfl⟩:=(hm _ _ _).1 hs;obtain⟨m',k',e1,e2⟩:=h1 x hx;exact⟨m',k',e1,λ_=>rfl,e2⟩
  ·obtain⟨x,hx,rfl⟩:=h2 s k hs;rw [(hm _ _ _).2 ⟨x,hx,rfl,rfl,rfl⟩];rfl
end Go.Wk
