/-
  Plain: where types end among nodes, and where the fields of a record's type stand. No program in sight. Plain: below is an order of types. No program in sight. ..
-/
import Derived.Test.YtlkfaliomdbaoaaGreatDoorQ1
set_option maxRecDepth 100000
namespace Go.Wk
theorem zgZ{n n':Nat}{P r:List Nd}{k:Kd}(h:zs n P=some (k,r))(h':P.length≤n'):zs n' P=some (k,r):=by
 obtain⟨v,e⟩:=(zav n).1 P k r h;have hl:k.flat.length≤n':=by rw [e,List.length_append] at h';omega
 have:=(zch n').1 k r v hl;rwa [←e] at this
theorem ze1{n n' c:Nat}{x:ByteArray}{P r:List Nd}{f:Fl}(h:jj n c x P=some (f,r))(h':P.length≤n'):jj n' c x P=some (f,r):=by
 obtain⟨v,e1,e⟩:=(zav n).2 c x P f r h;have hl:f.flat.length≤n':=by rw [e,List.length_append] at h';omega
 have:=(zch n').2 f x r v hl;rwa [←e,e1] at this
theorem zg8{n n':Nat}{P:List Nd}(h:P.length≤n)(h':P.length≤n'):zs n P=zs n' P:=by
 rcases e:zs n P with _|⟨k,r⟩
 ·rcases e':zs n' P with _|⟨k,r⟩
  ·rfl
  ·rw [zgZ e' h] at e;cases e
 ·exact(zgZ e h').symm
theorem zjH{n n' c:Nat}{x:ByteArray}{P:List Nd}(h:P.length≤n)(h':P.length≤n'):jj n c x P=jj n' c x P:=by
 rcases e:jj n c x P with _|⟨k,r⟩
 ·rcases e':jj n' c x P with _|⟨k,r⟩
  ·rfl
  ·rw [ze1 e' h] at e;cases e
 ·exact(ze1 e h').symm
def zcq(m:Nat)(x:ByteArray):List Nd→Option (ByteArray × Bool × Kd × List Nd)
 | []=>none
 | y :: r=>if zke x y then(match zs m r with
  | none=>none
  | some (k,r')=>some (y.s,y.n==1,k,r')) else none
theorem zdr{n:Nat}{P r:List Nd}{k:Kd}(h:zs n P=some (k,r)):r.length<P.length:=by
 obtain⟨v,e⟩:=(zav n).1 P k r h;have h2:0<k.flat.length:=by cases k <;> simp [Kd.flat]
 rw [e,List.length_append];omega
theorem zgV{m:Nat}{x s:ByteArray}{b:Bool}{k:Kd}{Q r:List Nd}(h:zcq m x Q=some (s,b,k,r)):r.length+2≤Q.length:=by
 cases Q with
 | nil=>cases h
 | cons y Q =>
  simp only [zcq] at h
  split at h
  ·rcases hp:zs m Q with _|⟨k',r'⟩
   ·rw [hp] at h;cases h
   ·rw [hp] at h;simp only [Option.some.injEq,Prod.mk.injEq] at h;have:=zdr hp;rw [←h.2.2.2,List.length_cons];omega
  ·cases h
theorem zj6{m c:Nat}{x:ByteArray}{Q:List Nd}(h:Q.length≤m):jj m (c+1) x Q=(match zcq m x Q with
 | none=>none
 | some (s,b,k,r')=>match jj m c s r' with
  | none=>none
  | some (f,r'')=>some (.cons s b k f,r'')):=by
 cases Q with
 | nil=>cases m <;> rfl
 | cons y r =>
  rw [List.length_cons] at h
  cases m with
  | zero=>omega
  | succ m =>
   simp only [jj,zcq]
   by_cases hk:zke x y
   ·simp only [if_pos hk]
    rw [zg8 (n:=m) (n':=m+1) (by omega) (by omega)];rcases hp:zs (m+1) r with _|⟨k,r'⟩
    ·rfl
    ·have:=zdr hp;simp only;rw [zjH (n:=m) (n':=m+1) (by omega) (by omega)]
     try (rcases jj (m+1) c y.s r' with _|⟨f,r''⟩<;> rfl)
   ·simp only [if_neg hk]
theorem zgH{x:Int}(h:x=44∨x=45∨x=46):¬jm x:=by unfold jm;omega
def zn(t:List Nd):Int:=if 200<t.length then 4 else if(zcG t).isSome then 0 else 1
theorem zaE{t:List Nd}:zn t=0↔t.length≤200∧∃k:Kd,k.valid∧t=k.flat:=by
 unfold zn;by_cases h:200<t.length
 ·rw [if_pos h];omega
 ·rw [if_neg h];rcases hr:zcG t with _|k
  ·simp only [Option.isSome_none,Bool.false_eq_true,if_false];constructor
   ·intro q;omega
   ·rintro ⟨-,k,v,e⟩;rw [zbX.2 ⟨v,e⟩] at hr;cases hr
  ·simp only [Option.isSome_some,if_true,true_iff];exact⟨by omega,k,zbX.1 hr⟩
def zoE:Nat→Fl→List Nat
 | _,.nil => []
 | p,.cons _ _ k r=>p :: zoE (p+1+k.flat.length) r
theorem zbU{a:Kd}:zaM a=true↔a = .base 48:=by
 cases a with
 | base x=>simp [zaM]
 | _=>simp [zaM]
theorem zkl{a:Kd}:isNone a=true↔a = .base 49:=by
 cases a with
 | base x=>simp [isNone]
 | _=>simp [isNone]
theorem zX{x:Int}{b:Kd}:zG (.base x) b=true↔x=49∨b = .base 48∨b = .base x:=by
 simp only [zG,Bool.or_eq_true,beq_iff_eq,zbU,or_assoc]
 cases b with
 | base y =>
  have e:x=y↔y=x:=eq_comm
  simp [e]
 | _=>simp
theorem jJ{s:ByteArray}{b:Kd}:zG (.ent s) b=true↔b = .base 48∨b = .ent s:=by
 simp only [zG,Bool.or_eq_true,zbU]
 cases b with
 | ent t =>
  have e:s=t↔t=s:=eq_comm
  simp [e]
 | _=>simp
theorem jh{p:Kd}{b:Kd}:zG (.set p) b=true↔b = .base 48∨∃q,b = .set q∧zG p q=true:=by
 simp only [zG,Bool.or_eq_true,zbU]
 cases b with
 | set q=>simp
 | _=>simp
theorem ju{f:Fl}{b:Kd}:zG (.fs f) b=true↔b = .base 48∨∃g,b = .fs g∧zdT f g=true∧zgj g f=true:=by
 simp only [zG,Bool.or_eq_true,zbU]
 cases b with
 | fs g=>simp
 | _=>simp
def zqb(f g:Fl):Prop:=(∀s m k,f.find s=some (m,k)→∃m' k',g.find s=some (m',k')∧(m'=true→m=true)∧zG k k'=true)∧(∀s k,g.find s=some (true,k)→(f.find s).isSome=true)
theorem zaq{f g:Fl}(hf:f.asc)(hg:g.asc):zdT f g=true∧zgj g f=true↔zqb f g:=by
 rw [zcf hf,zdk hg];rfl
theorem zbP:∀(n:Nat) (a b c:Kd),a.sz≤n→a.ok→b.ok→c.ok→zG a b=true→zG b c=true→zG a c=true
 | 0,a,_,_,h,_,_,_,_,_=>by cases a <;> simp [Kd.sz] at h
 | n+1,a,b,c,h,ha,hb,hc,h1,h2=>by
  have hany:b = .base 48→c = .base 48:=fun e=>by
   subst e;rcases zX.1 h2 with h3|h3|h3
   ·cases h3
   ·exact h3
   ·exact h3
  cases a with
  | base x =>
   rcases zX.1 h1 with rfl|h3|h3
   ·exact zX.2 (.inl rfl)
   ·exact zX.2 (.inr (.inl (hany h3)))
   ·subst h3;exact h2
  | ent s =>
   rcases jJ.1 h1 with h3|h3
   ·exact jJ.2 (.inl (hany h3))
   ·subst h3;exact h2
  | set p =>
   simp only [Kd.sz] at h
   rcases jh.1 h1 with h3|⟨q,rfl,h3⟩
   ·exact jh.2 (.inl (hany h3))
   ·rcases jh.1 h2 with h4|⟨r,rfl,h4⟩
    ·exact jh.2 (.inl h4)
    ·exact jh.2 (.inr ⟨r,rfl,zbP n p q r (by omega) ha hb hc h3 h4⟩)
  | fs f =>
   simp only [Kd.sz] at h
   rcases ju.1 h1 with h3|⟨g,rfl,h3⟩
   ·exact ju.2 (.inl (hany h3))
   ·rcases ju.1 h2 with h4|⟨e,rfl,h4⟩
    ·exact ju.2 (.inl h4)
    ·obtain⟨p1,p2⟩:=(zaq ha.1 hb.1).1 h3;obtain⟨q1,q2⟩:=(zaq hb.1 hc.1).1 h4;refine ju.2 (.inr ⟨e,rfl,(zaq ha.1 hc.1).2 ⟨fun s m k hf=>?_,fun s k hf=>?_⟩⟩)
     ·obtain⟨m',k',hg,e1,e2⟩:=p1 s m k hf;obtain⟨m'',k'',he,e3,e4⟩:=q1 s m' k' hg;exact⟨m'',k'',he,fun e=>e1 (e3 e),zbP n k k' k'' (by have:=zbc hf;omega) (jD ha.2 hf) (jD hb.2 hg) (jD hc.2 he) e2 e4⟩
     ·have h5:=q2 s k hf;rcases hg:g.find s with _|⟨m',k'⟩
      ·rw [hg] at h5;cases h5
      ·obtain⟨m'',k'',he,e3,-⟩:=q1 s m' k' hg;rw [hf] at he;injection he with he;injection he with he1 he2;have:=e3 he1.symm;subst this;exact p2 s k' hg
theorem zkk:∀(f g:Fl),f.asc→g.asc→(∀s,f.find s=g.find s)→f=g
 | .nil,.nil,_,_,_=>rfl
 | .nil,.cons s m k r,_,_,h=>by have:=h s;simp [Fl.find] at this
 | .cons s m k r,.nil,_,_,h=>by have:=h s;simp [Fl.find] at this
 | .cons s m k r,.cons t m' k' r',h1,h2,h=>by
  have hs:=h s;have ht:=h t;have e:s=t:=by
   simp only [Fl.find,if_pos] at hs ht;by_cases e:t=s
   ·exact e.symm
   ·rw [if_neg e] at hs;have l1:=zbD h2 hs.symm;rw [if_neg (fun q=>e q.symm)] at ht;have l2:=zbD h1 ht;have:=zo.anti s t;omega
  subst e;simp only [Fl.find,if_pos,Option.some.injEq,Prod.mk.injEq] at hs;obtain⟨e1,e2⟩:=hs;have hr:r=r':=zkk r r' (jQ h1) (jQ h2) fun x=>by
   have hx:=h x;simp only [Fl.find] at hx;by_cases e:s=x
   ·subst e;rcases hg:r.find s with _|v
    ·rcases hg':r'.find s with _|v'
     ·rfl
     ·have:=zbD h2 hg';rw [zo.self] at this;omega
    ·have:=zbD h1 hg;rw [zo.self] at this;omega
   ·rwa [if_neg e,if_neg e] at hx
  rw [e1,e2,hr]
theorem zcu:∀(n:Nat) (a b:Kd),a.sz≤n→a.ok→b.ok→zG a b=true→zG b a=true→a=b
 | 0,a,_,h,_,_,_,_=>by cases a <;> simp [Kd.sz] at h
 | n+1,a,b,h,ha,hb,h1,h2=>by
  cases a with
  | base x =>
   rcases zX.1 h1 with rfl|h3|h3
   ·cases b with
    | base y =>
     rcases zX.1 h2 with h4|h4|h4
     ·rw [h4]
     ·cases h4
     ·exact h4
    | ent t=>rcases jJ.1 h2 with h4|h4 <;> cases h4
    | set t=>rcases jh.1 h2 with h4|⟨q,h4,_⟩<;> cases h4
    | fs t=>rcases ju.1 h2 with h4|⟨q,h4,_⟩<;> cases h4
   ·subst h3
    rcases zX.1 h2 with h4|h4|h4
    ·cases h4
    ·exact h4
    ·exact h4
   ·exact h3.symm
  | ent s =>
   rcases jJ.1 h1 with h3|h3
   ·subst h3
    rcases zX.1 h2 with h4|h4|h4 <;> cases h4
   ·exact h3.symm
  | set p =>
   simp only [Kd.sz] at h
   rcases jh.1 h1 with h3|⟨q,rfl,h3⟩
   ·subst h3
    rcases zX.1 h2 with h4|h4|h4 <;> cases h4
   ·rcases jh.1 h2 with h4|⟨r,h4,h5⟩
    ·cases h4
    ·injection h4 with h4;subst h4;rw [zcu n p q (by omega) ha hb h3 h5]
  | fs f =>
   simp only [Kd.sz] at h
   rcases ju.1 h1 with h3|⟨g,rfl,h3⟩
   ·subst h3
    rcases zX.1 h2 with h4|h4|h4 <;> cases h4
   ·rcases ju.1 h2 with h4|⟨e,h4,h5⟩
    ·cases h4
    ·injection h4 with h4;subst h4;obtain⟨p1,-⟩:=(zaq ha.1 hb.1).1 h3;obtain⟨q1,-⟩:=(zaq hb.1 ha.1).1 h5;congr 1;refine zkk f g ha.1 hb.1 fun s=>?_;rcases hf:f.find s with _|⟨m,k⟩
     ·rcases hg:g.find s with _|⟨m',k'⟩
      ·rfl
      ·obtain⟨_,_,e,_⟩:=q1 s m' k' hg;rw [hf] at e;cases e
     ·obtain⟨m',k',hg,e1,e2⟩:=p1 s m k hf;obtain⟨m2,k2,hf2,e3,e4⟩:=q1 s m' k' hg;rw [hf] at hf2;injection hf2 with hf2;injection hf2 with f1 f2;subst f1 f2;rw [hg,zcu n k k' (by have:=zbc hf;omega) (jD ha.2 hf) (jD hb.2 hg) e2 e4];have:m=m':=by cases m <;> cases m' <;> simp_all
      rw [this]
def zbV(s:ByteArray)(m:Bool)(k:Kd):Fl→Fl
 | .nil => .cons s m k .nil
 | .cons t m' k' r=>if je s t<0 then .cons s m k (.cons t m' k' r) else .cons t m' k' (zbV s m k r)
def jG:Fl→Fl→Fl
 | .nil,_ => .nil
 | .cons s _ k r,f=>if(f.find s).isSome then jG r f else .cons s false k (jG r f)
mutual
def zl:Kd→Kd→Kd
 | .base x,b=>if x=49 then b else if zaM b then b else if isNone b then .base x else if x=48 then .base 48 else(match b with | .base y=>if x=y then .base x else .base 48|_ => .base 48)
 | .ent s,b=>if zaM b then b else if isNone b then .ent s else(match b with | .ent t=>if s=t then .ent s else .base 48|_ => .base 48)
 | .set p,b=>if zaM b then b else if isNone b then .set p else(match b with | .set q => .set (zl p q)|_ => .base 48)
 | .fs f,b=>if zaM b then b else if isNone b then .fs f else(match b with | .fs g => .fs (jA f g (jG g f))|_ => .base 48)
def jA:Fl→Fl→Fl→Fl
 | .nil,_,acc=>acc
 | .cons s m k r,g,acc=>match g.find s with
  | none=>zbV s false k (jA r g acc)
  | some (m',k')=>zbV s (m && m') (zl k k') (jA r g acc)
end
theorem zdI(s:ByteArray)(m:Bool)(k:Kd){t:ByteArray}(h:s≠t):∀f:Fl,(zbV s m k f).find t=f.find t
 | .nil=>by simp [zbV,Fl.find,h]
 | .cons u m' k' r=>by
  simp only [zbV];split
  ·simp [Fl.find,h]
  ·simp only [Fl.find,zdI s m k h r]
theorem zew(s:ByteArray)(m:Bool)(k:Kd):∀f:Fl,f.find s=none→(zbV s m k f).find s=some (m,k)
 | .nil,_=>by simp [zbV,Fl.find]
 | .cons u m' k' r,h=>by
  simp only [Fl.find] at h;simp only [zbV];split
  ·simp [Fl.find]
  ·by_cases e:u=s
   ·rw [if_pos e] at h;cases h
   ·rw [if_neg e] at h;simp only [Fl.find,if_neg e];exact zew s m k r h
theorem ziZ(s:ByteArray)(m:Bool)(k:Kd):∀(f:Fl) (x:ByteArray),f.ascFrom x→je x s<0→f.find s=none→(zbV s m k f).ascFrom x
 | .nil,_,_,h,_=>⟨h,trivial⟩
 | .cons u m' k' r,x,h1,h2,h3=>by
  simp only [Fl.find] at h3;simp only [zbV];split
  ·rename_i hlt;exact⟨h2,hlt,h1.2⟩
  ·rename_i hlt;by_cases e:u=s
   ·rw [if_pos e] at h3;cases h3
   ·rw [if_neg e] at h3;refine⟨h1.1,ziZ s m k r u h1.2 ?_ h3⟩;have a:=zo.anti s u;have z:je s u≠0:=fun q=>e ((zo.zero _ _).1 q).symm;omega
theorem zhw(s:ByteArray)(m:Bool)(k:Kd)(f:Fl)(h:f.asc)(hn:f.find s=none):(zbV s m k f).asc:=by
 cases f with
 | nil=>exact trivial
 | cons u m' k' r =>
  simp only [Fl.find] at hn
  simp only [zbV]
  split
  ·rename_i hlt;exact⟨hlt,h⟩
  ·rename_i hlt
   by_cases e:u=s
   ·rw [if_pos e] at hn;cases hn
   ·rw [if_neg e] at hn;refine ziZ s m k r u h ?_ hn;have a:=zo.anti s u;have z:je s u≠0:=fun q=>e ((zo.zero _ _).1 q).symm;omega
theorem ziI(s:ByteArray)(m:Bool)(k:Kd)(hk:k.ok):∀f:Fl,f.ok→(zbV s m k f).ok
 | .nil,_=>⟨hk,trivial⟩
 | .cons u m' k' r,h=>by
  simp only [zbV];split
  ·exact⟨hk,h⟩
  ·exact⟨h.1,ziI s m k hk r h.2⟩
theorem znc{x y:ByteArray}{f:Fl}(h:f.ascFrom y)(hl:je x y<0):f.ascFrom x:=by
 cases f with
 | nil=>trivial
 | cons s m k r=>exact⟨zo.lt_le hl (by have:=h.1;omega),h.2⟩
theorem zbe(f:Fl)(s:ByteArray):∀g:Fl,(jG g f).find s=if(f.find s).isSome=true then none else(g.find s).map fun v=>(false,v.2)
 | .nil=>by simp [jG,Fl.find]
 | .cons t m k r=>by
  simp only [jG];split
  ·rename_i ht;rw [zbe f s r];simp only [Fl.find];by_cases e:t=s
   ·subst e;rw [if_pos ht,if_pos ht]
   ·rw [if_neg e]
  ·rename_i ht;simp only [Fl.find];by_cases e:t=s
   ·subst e;rw [if_pos rfl,if_neg ht,if_pos rfl];rfl
   ·rw [if_neg e,if_neg e,zbe f s r]
theorem zdj(f:Fl):∀(g:Fl) (x:ByteArray),g.ascFrom x→(jG g f).ascFrom x
 | .nil,_,_=>trivial
 | .cons t m k r,x,h=>by
  simp only [jG];split
  ·exact zdj f r x (znc h.2 h.1)
  ·exact⟨h.1,zdj f r t h.2⟩
theorem zkH(f g:Fl)(h:g.asc):(jG g f).asc:=by
 cases g with
 | nil=>trivial
 | cons t m k r =>
  simp only [jG]
  split
  ·exact jQ (zdj f r t h)
  ·exact zdj f r t h
theorem zf7(f:Fl):∀g:Fl,g.ok→(jG g f).ok
 | .nil,_=>trivial
 | .cons t m k r,h=>by
  simp only [jG];split
  ·exact zf7 f r h.2
  ·exact⟨h.1,zf7 f r h.2⟩
theorem zeA{s:ByteArray}{r:Fl}(h:r.ascFrom s):r.find s=none:=by
 rcases hf:r.find s with _|v
 ·rfl
 ·have:=zbD h hf;rw [zo.self] at this;omega
theorem zdD(g:Fl)(s:ByteArray):∀(f acc:Fl),f.asc→(∀t,(f.find t).isSome=true→acc.find t=none)→
 (jA f g acc).find s=match f.find s with|none=>acc.find s|some (m,k)=>(match g.find s with|none=>some (false,k)|some (m',k')=>some (m && m',zl k k'))
 | .nil,acc,_,_=>by simp [jA,Fl.find]
 | .cons t m k r,acc,h1,h2=>by
  have ih:=zdD g s r acc (jQ h1) (fun u hu=>h2 u (by simp only [Fl.find];split <;> simp_all));have ht:r.find t=none:=zeA h1;have hat:acc.find t=none:=h2 t (by simp [Fl.find]);by_cases e:t=s
  ·subst e;rw [ht] at ih;have ih':(jA r g acc).find t=none:=ih.trans hat;simp only [jA,Fl.find,if_pos];rcases hg:g.find t with _|⟨m',k'⟩
   ·exact zew t false k _ ih'
   ·exact zew t (m && m') (zl k k') _ ih'
  ·simp only [jA,Fl.find,if_neg e];rw [←ih];rcases hg:g.find t with _|⟨m',k'⟩
   ·exact zdI t false k e _
   ·exact zdI t _ _ e _
theorem zhK(g:Fl):∀(f acc:Fl),f.asc→acc.asc→(∀t,(f.find t).isSome=true→acc.find t=none)→(jA f g acc).asc
 | .nil,_,_,h,_=>by simpa [jA] using h
 | .cons t m k r,acc,h1,h0,h2=>by
  have hsub:∀u,(r.find u).isSome=true→acc.find u=none:=fun u hu=>h2 u (by simp only [Fl.find];split <;> simp_all);have ih:=zhK g r acc (jQ h1) h0 hsub;have hf:=zdD g t r acc (jQ h1) hsub;rw [zeA h1] at hf;have hn:(jA r g acc).find t=none:=hf.trans (h2 t (by simp [Fl.find]));simp only [jA];rcases hg:g.find t with _|⟨m',k'⟩
  ·exact zhw t false k _ ih hn
  ·exact zhw t _ _ _ ih hn
def jn(a b:Option (Bool × Kd)):Option (Bool × Kd):=match a,b with
 | some (m,k),some (m',k')=>some (m && m',zl k k')
 | some (_,k),none=>some (false,k)
 | none,some (_,k')=>some (false,k')
 | none,none=>none
theorem zaX{f g:Fl}(hf:f.asc)(s:ByteArray):(jA f g (jG g f)).find s=jn (f.find s) (g.find s):=by
 have h2:∀t,(f.find t).isSome=true→(jG g f).find t=none:=fun t ht=>by rw [zbe,if_pos ht]
 rw [zdD g s f _ hf h2];rcases h:f.find s with _|⟨m,k⟩
 ·rw [zbe,h];rcases hg:g.find s with _|⟨m',k'⟩<;> simp [jn]
 ·rcases hg:g.find s with _|⟨m',k'⟩<;> simp [jn]
theorem zcM{f g:Fl}(hf:f.asc)(hg:g.asc):(jA f g (jG g f)).asc :=
 zhK g f _ hf (zkH f g hg) fun t ht=>by rw [zbe,if_pos ht]
theorem zbm{a b:Kd}(h:b = .base 48):zl a b = .base 48:=by
 subst h
 cases a with
 | base x=>simp only [zl];split <;> simp [zaM]
 | _=>simp [zl,zaM]
theorem zaU{a b:Kd}(h:b = .base 49):zl a b=a:=by
 subst h
 cases a with
 | base x =>
  simp only [zl]
  split
  ·rename_i e;rw [e]
  ·simp [zaM,isNone]
 | _=>simp [zl,zaM,isNone]
theorem zfZ{b:Kd}(h:b≠ .base 48):zaM b=false:=by
 rcases e:zaM b with _|_
 ·rfl
 ·exact absurd (zbU.1 e) h
theorem zek{b:Kd}(h:b≠ .base 49):isNone b=false:=by
 rcases e:isNone b with _|_
 ·rfl
 ·exact absurd (zkl.1 e) h
open Classical in
theorem zbd{x:Int}{b:Kd}(h1:b≠ .base 48)(h2:b≠ .base 49):zl (.base x) b=if x=49 then b else if b = .base x then .base x else .base 48:=by
 simp only [zl,zfZ h1,zek h2];by_cases e9:x=49
 ·rw [if_pos e9,if_pos e9]
 ·rw [if_neg e9,if_neg e9];simp only [Bool.false_eq_true,if_false]
  cases b with
  | base y =>
   by_cases e:x=y
   ·subst e;rw [if_neg (fun e=>h1 (by rw [e])),if_pos rfl];simp
   ·rw [if_neg (show¬Kd.base y=Kd.base x from fun q=>e (by injection q with q;exact q.symm))]
    simp [e]
  | _=>simp
open Classical in
theorem zb6{s:ByteArray}{b:Kd}(h1:b≠ .base 48)(h2:b≠ .base 49):zl (.ent s) b=if b = .ent s then .ent s else .base 48:=by
 simp only [zl,zfZ h1,zek h2];simp only [Bool.false_eq_true,if_false]
 cases b with
 | ent t =>
  by_cases e:s=t
  ·subst e;simp
  ·have e':¬t=s:=fun q=>e q.symm
   simp [e,e']
 | _=>simp
theorem zbl{p:Kd}{b:Kd}(h1:b≠ .base 48)(h2:b≠ .base 49):(∃q,b = .set q∧zl (.set p) b = .set (zl p q))∨((∀q,b≠ .set q)∧zl (.set p) b = .base 48):=by
 simp only [zl,zfZ h1,zek h2]
 cases b with
 | set q=>exact .inl ⟨q,rfl,by simp⟩
 | _=>exact .inr ⟨(fun q e=>by cases e),by simp⟩
theorem zcj{f:Fl}{b:Kd}(h1:b≠ .base 48)(h2:b≠ .base 49):(∃g,b = .fs g∧zl (.fs f) b = .fs (jA f g (jG g f)))∨((∀g,b≠ .fs g)∧zl (.fs f) b = .base 48):=by
 simp only [zl,zfZ h1,zek h2]
 cases b with
 | fs g=>exact .inl ⟨g,rfl,by simp⟩
 | _=>exact .inr ⟨(fun q e=>by cases e),by simp⟩
theorem zbq(a:Kd):zG a (.base 48)=true:=zmR a _ rfl
theorem zbO:∀(n:Nat) (a b:Kd),a.sz≤n→a.ok→b.ok→(zl a b).ok
 | 0,a,_,h,_,_=>by cases a <;> simp [Kd.sz] at h
 | n+1,a,b,h,ha,hb=>by
  by_cases h1:b = .base 48
  ·rw [zbm h1];trivial
  by_cases h2:b = .base 49
  ·rw [zaU h2];exact ha
  cases a with
  | base x =>
   rw [zbd h1 h2]
   split
   ·exact hb
   ·split <;> trivial
  | ent s=>rw [zb6 h1 h2];split <;> trivial
  | set p =>
   simp only [Kd.sz] at h
   rcases zbl (p:=p) h1 h2 with ⟨q,rfl,e⟩|⟨-,e⟩
   ·rw [e];exact zbO n p q (by omega) ha hb
   ·rw [e];trivial
  | fs f =>
   simp only [Kd.sz] at h
   rcases zcj (f:=f) h1 h2 with ⟨g,rfl,e⟩|⟨-,e⟩
   ·rw [e]
    refine⟨zcM ha.1 hb.1,?_⟩;have key:∀(f' acc:Fl),f'.sz≤n→f'.ok→acc.ok→(jA f' g acc).ok:=by
     intro f' acc hs ho hacc
     induction f' using Fl.rec (motive_1:=fun _=>True) with
     | nil=>simpa [jA] using hacc
     | cons s m k r _ ih =>
      simp only [Fl.sz] at hs
      have ih:=ih (by omega) ho.2
      simp only [jA]
      rcases hg:g.find s with _|⟨m',k'⟩
      ·exact ziI _ _ _ ho.1 _ ih
      ·exact ziI _ _ _ (zbO n k k' (by omega) ho.1 (jD hb.2 hg)) _ ih
     | _=>trivial
    exact key f _ (by omega) ha.2 (zf7 f g hb.2)
   ·rw [e];trivial
theorem zcr:∀(n:Nat) (a b:Kd),a.sz≤n→a.ok→b.ok→zG a (zl a b)=true∧zG b (zl a b)=true
 | 0,a,_,h,_,_=>by cases a <;> simp [Kd.sz] at h
 | n+1,a,b,h,ha,hb=>by
  by_cases h1:b = .base 48
  ·rw [zbm h1,h1];exact⟨zbq _,zbq _⟩
  by_cases h2:b = .base 49
  ·rw [zaU h2,h2];exact⟨j9 _ a (Nat.le_refl _) ha,zdQ _ _ rfl⟩
  have rb:=j9 _ b (Nat.le_refl _) hb
  cases a with
  | base x =>
   rw [zbd h1 h2]
   split
   ·rename_i e;subst e;exact⟨zdQ _ _ rfl,rb⟩
   ·split
    ·rename_i e;rw [e];exact⟨zX.2 (.inr (.inr rfl)),zX.2 (.inr (.inr rfl))⟩
    ·exact⟨zbq _,zbq _⟩
  | ent s =>
   rw [zb6 h1 h2]
   split
   ·rename_i e;rw [e];exact⟨jJ.2 (.inr rfl),jJ.2 (.inr rfl)⟩
   ·exact⟨zbq _,zbq _⟩
  | set p =>
   simp only [Kd.sz] at h
   rcases zbl (p:=p) h1 h2 with ⟨q,rfl,e⟩|⟨-,e⟩
   ·rw [e]
    obtain⟨u1,u2⟩:=zcr n p q (by omega) ha hb;exact⟨jh.2 (.inr ⟨_,rfl,u1⟩),jh.2 (.inr ⟨_,rfl,u2⟩)⟩
   ·rw [e];exact⟨zbq _,zbq _⟩
  | fs f =>
   simp only [Kd.sz] at h
   rcases zcj (f:=f) h1 h2 with ⟨g,rfl,e⟩|⟨-,e⟩
   ·rw [e]
    have hj:=zcM ha.1 hb.1;refine⟨ju.2 (.inr ⟨_,rfl,(zaq ha.1 hj).2 ⟨fun s m k hf=>?_,fun s k hf=>?_⟩⟩),ju.2 (.inr ⟨_,rfl,(zaq hb.1 hj).2 ⟨fun s m k hg=>?_,fun s k hf=>?_⟩⟩)⟩
    ·rw [zaX ha.1,hf];rcases hg:g.find s with _|⟨m',k'⟩
     ·exact⟨false,k,rfl,fun e=>(nomatch e),j9 _ k (Nat.le_refl _) (jD ha.2 hf)⟩
     ·exact⟨_,_,rfl,fun e=>by simp at e;exact e.1,(zcr n k k' (by have:=zbc hf;omega) (jD ha.2 hf) (jD hb.2 hg)).1⟩
    ·rw [zaX ha.1] at hf;rcases hq:f.find s with _|⟨m0,k0⟩
     ·rw [hq] at hf;rcases hg:g.find s with _|⟨m',k'⟩<;> rw [hg] at hf <;> simp [jn] at hf
     ·rfl
    ·rw [zaX ha.1,hg];rcases hf:f.find s with _|⟨m',k'⟩
     ·exact⟨false,k,rfl,fun e=>(nomatch e),j9 _ k (Nat.le_refl _) (jD hb.2 hg)⟩
     ·exact⟨_,_,rfl,fun e=>by simp at e;exact e.2,(zcr n k' k (by have:=zbc hf;omega) (jD ha.2 hf) (jD hb.2 hg)).2⟩
    ·rw [zaX ha.1] at hf;rcases hg:g.find s with _|⟨m0,k0⟩
     ·rw [hg] at hf;rcases hq:f.find s with _|⟨m',k'⟩<;> rw [hq] at hf <;> simp [jn] at hf
     ·rfl
   ·rw [e];exact⟨zbq _,zbq _⟩
theorem zaO:∀(n:Nat) (a b c:Kd),a.sz≤n→a.ok→b.ok→c.ok→zG a c=true→zG b c=true→zG (zl a b) c=true
 | 0,a,_,_,h,_,_,_,_,_=>by cases a <;> simp [Kd.sz] at h
 | n+1,a,b,c,h,ha,hb,hc,k1,k2=>by
  by_cases h1:b = .base 48
  ·rw [zbm h1];rw [h1] at k2;exact k2
  by_cases h2:b = .base 49
  ·rw [zaU h2];exact k1
  by_cases h3:c = .base 48
  ·rw [h3];exact zbq _
  cases a with
  | base x =>
   rw [zbd h1 h2]
   split
   ·exact k2
   ·rename_i hx
    rcases zX.1 k1 with e|e|e
    ·exact absurd e hx
    ·exact absurd e h3
    ·subst e
     cases b with
     | base y =>
      rcases zX.1 k2 with e|e|e
      ·subst e;exact absurd rfl h2
      ·exact absurd e h3
      ·injection e with e;subst e;rw [if_pos rfl];exact k1
     | ent t=>rcases jJ.1 k2 with e|e <;> first|exact absurd e h3|cases e
     | set t=>rcases jh.1 k2 with e|⟨_,e,_⟩<;> first|exact absurd e h3|cases e
     | fs t=>rcases ju.1 k2 with e|⟨_,e,_⟩<;> first|exact absurd e h3|cases e
  | ent s =>
   rw [zb6 h1 h2]
   rcases jJ.1 k1 with e|e
   ·exact absurd e h3
   ·subst e
    cases b with
    | base y =>
     rcases zX.1 k2 with e|e|e
     ·subst e;exact absurd rfl h2
     ·exact absurd e h3
     ·cases e
    | ent t =>
     rcases jJ.1 k2 with e|e
     ·exact absurd e h3
     ·injection e with e;subst e;rw [if_pos rfl];exact k1
    | set t=>rcases jh.1 k2 with e|⟨_,e,_⟩<;> first|exact absurd e h3|cases e
    | fs t=>rcases ju.1 k2 with e|⟨_,e,_⟩<;> first|exact absurd e h3|cases e
  | set p =>
   simp only [Kd.sz] at h
   rcases jh.1 k1 with e|⟨r,rfl,k3⟩
   ·exact absurd e h3
   ·rcases zbl (p:=p) h1 h2 with ⟨q,rfl,e⟩|⟨hno,e⟩
    ·rw [e];rcases jh.1 k2 with e|⟨r',e',k4⟩
     ·exact absurd e h3
     ·injection e' with e';subst e';exact jh.2 (.inr ⟨r,rfl,zaO n p q r (by omega) ha hb hc k3 k4⟩)
    ·exfalso
     cases b with
     | base y =>
      rcases zX.1 k2 with e|e|e
      ·subst e;exact h2 rfl
      ·cases e
      ·cases e
     | ent t=>rcases jJ.1 k2 with e|e <;> cases e
     | set t=>exact hno t rfl
     | fs t=>rcases ju.1 k2 with e|⟨_,e,_⟩<;> cases e
  | fs f =>
   simp only [Kd.sz] at h
   rcases ju.1 k1 with e|⟨r,rfl,k3⟩
   ·exact absurd e h3
   ·rcases zcj (f:=f) h1 h2 with ⟨g,rfl,e⟩|⟨hno,e⟩
    ·rw [e];rcases ju.1 k2 with e|⟨r',e',k4⟩
     ·exact absurd e h3
     ·injection e' with e';subst e';obtain⟨p1,p2⟩:=(zaq ha.1 hc.1).1 k3;obtain⟨q1,q2⟩:=(zaq hb.1 hc.1).1 k4;refine ju.2 (.inr ⟨r,rfl,(zaq (zcM ha.1 hb.1) hc.1).2 ⟨fun s m k hj=>?_,fun s k hr=>?_⟩⟩)
      ·rw [zaX ha.1] at hj;rcases hf:f.find s with _|⟨m1,k1'⟩
       ·rcases hg:g.find s with _|⟨m2,k2'⟩
        ·rw [hf,hg] at hj;simp [jn] at hj
        ·rw [hf,hg] at hj;simp only [jn,Option.some.injEq,Prod.mk.injEq] at hj;obtain⟨rfl,rfl⟩:=hj;obtain⟨m',k',hr,e1,e2⟩:=q1 s m2 k2' hg;refine⟨m',k',hr,fun e=>?_,e2⟩;subst e;have:=p2 s k' hr;rw [hf] at this;cases this
       ·obtain⟨m',k',hr,e1,e2⟩:=p1 s m1 k1' hf;rcases hg:g.find s with _|⟨m2,k2'⟩
        ·rw [hf,hg] at hj;simp only [jn,Option.some.injEq,Prod.mk.injEq] at hj;obtain⟨rfl,rfl⟩:=hj;refine⟨m',k',hr,fun e=>?_,e2⟩;subst e;have:=q2 s k' hr;rw [hg] at this;cases this
        ·rw [hf,hg] at hj;simp only [jn,Option.some.injEq,Prod.mk.injEq] at hj;obtain⟨rfl,rfl⟩:=hj;obtain⟨m'',k'',hr',e3,e4⟩:=q1 s m2 k2' hg;rw [hr] at hr';simp only [Option.some.injEq,Prod.mk.injEq] at hr';obtain⟨rfl,rfl⟩:=hr';exact⟨m',k',hr,fun e=>by rw [e1 e,e3 e];rfl,zaO n k1' k2' k' (by have:=zbc hf;omega) (jD ha.2 hf) (jD hb.2 hg) (jD hc.2 hr) e2 e4⟩
      ·have h5:=p2 s k hr;rw [zaX ha.1];rcases hf:f.find s with _|⟨m1,k1'⟩
       ·rw [hf] at h5;cases h5
       ·rcases hg:g.find s with _|⟨m2,k2'⟩<;> rfl
    ·exfalso
     cases b with
     | base y =>
      rcases zX.1 k2 with e|e|e
      ·subst e;exact h2 rfl
      ·cases e
      ·cases e
     | ent t=>rcases jJ.1 k2 with e|e <;> cases e
     | set t=>rcases jh.1 k2 with e|⟨_,e,_⟩<;> cases e
     | fs t=>exact hno t rfl
theorem zhT{a b:Kd}(ha:a.ok)(hb:b.ok):zl a b=zl b a:=by
 obtain⟨u1,u2⟩:=zcr _ a b (Nat.le_refl _) ha hb;obtain⟨v1,v2⟩:=zcr _ b a (Nat.le_refl _) hb ha;have o1:=zbO _ a b (Nat.le_refl _) ha hb;have o2:=zbO _ b a (Nat.le_refl _) hb ha;exact zcu _ _ _ (Nat.le_refl _) o1 o2 (zaO _ a b _ (Nat.le_refl _) ha hb o2 v2 v1) (zaO _ b a _ (Nat.le_refl _) hb ha o1 u2 u1)
theorem zol{a b:Kd}(ha:a.ok)(hb:b.ok):zl a b=a↔zG b a=true:=by
 obtain⟨u1,u2⟩:=zcr _ a b (Nat.le_refl _) ha hb;constructor
 ·intro e;rw [e] at u2;exact u2
 ·intro h;exact zcu _ _ _ (Nat.le_refl _) (zbO _ a b (Nat.le_refl _) ha hb) ha (zaO _ a b a (Nat.le_refl _) ha hb ha (j9 _ a (Nat.le_refl _) ha) h) u1
end Go.Wk
namespace Go.Wk
def Fl.av:Fl→Prop
 | .nil=>True
 | .cons s _ k r=>zf s=0∧k.valid∧r.av
theorem zpz{s:ByteArray}(h:zf s=0):je emp s<0:=by
 have hne:s≠emp:=fun e=>by subst e;exact absurd h (by decide)
 rcases zo.rng emp s with e|e|e
 ·omega
 ·exact absurd ((zo.zero _ _).1 e).symm hne
 ·exfalso;unfold je at e;have:emp.data.toList = []:=rfl;rw [this] at e
  cases hs:s.data.toList with
  | nil=>exact hne (zah (by rw [hs];rfl))
  | cons a l=>rw [hs] at e;simp [Lib.compareBytes] at e
theorem zbS:∀(f:Fl) (x:ByteArray),f.validFrom x↔f.ascFrom x∧f.av
 | .nil,_=>by simp [Fl.validFrom,Fl.ascFrom,Fl.av]
 | .cons s m k r,x=>by
  simp only [Fl.validFrom,Fl.ascFrom,Fl.av,zbS r s];constructor
  ·rintro ⟨a,b,c,d,e⟩;exact⟨⟨a,d⟩,b,c,e⟩
  ·rintro ⟨⟨a,d⟩,b,c,e⟩;exact⟨a,b,c,d,e⟩
theorem zo2:∀f:Fl,f.asc→f.av→f.ascFrom emp
 | .nil,_,_=>trivial
 | .cons _ _ _ _,h,hv=>⟨zpz hv.1,h⟩
theorem zaI{f:Fl}:(Kd.fs f).valid↔f.asc∧f.av:=by
 simp only [Kd.valid,zbS];exact⟨fun⟨a,b⟩=>⟨jQ a,b⟩,fun⟨a,b⟩=>⟨zo2 f a b,b⟩⟩
theorem zgl:∀(n:Nat) (a:Kd),a.sz≤n→a.valid→a.ok
 | 0,a,h,_=>by cases a <;> simp [Kd.sz] at h
 | n+1,a,h,hv=>by
  cases a with
  | base x=>trivial
  | ent s=>trivial
  | set p=>simp only [Kd.sz] at h;exact zgl n p (by omega) hv
  | fs f =>
   simp only [Kd.sz] at h
   obtain⟨h1,h2⟩:=zaI.1 hv
   refine⟨h1,?_⟩
   have key:∀g:Fl,g.sz≤n→g.av→g.ok:=by
    intro g hs hg
    induction g using Fl.rec (motive_1:=fun _=>True) with
    | nil=>trivial
    | cons s m k r _ ih =>
     simp only [Fl.sz] at hs
     exact⟨zgl n k (by omega) hg.2.1,ih (by omega) hg.2.2⟩
    | _=>trivial
   exact key f (by omega) h2
theorem Kd.valid.ok{a:Kd}(h:a.valid):a.ok:=zgl _ a (Nat.le_refl _) h
theorem zh4(s:ByteArray)(m:Bool)(k:Kd)(hs:zf s=0)(hk:k.valid):∀f:Fl,f.av→(zbV s m k f).av
 | .nil,_=>⟨hs,hk,trivial⟩
 | .cons t m' k' r,h=>by
  simp only [zbV];split
  ·exact⟨hs,hk,h⟩
  ·exact⟨h.1,h.2.1,zh4 s m k hs hk r h.2.2⟩
theorem zhj(f:Fl):∀g:Fl,g.av→(jG g f).av
 | .nil,_=>trivial
 | .cons t m k r,h=>by
  simp only [jG];split
  ·exact zhj f r h.2.2
  ·exact⟨h.1,h.2.1,zhj f r h.2.2⟩
theorem zcm{f:Fl}(h:f.av){s:ByteArray}{m:Bool}{k:Kd}(hf:f.find s=some (m,k)):k.valid:=by
 induction f using Fl.rec (motive_1:=fun _=>True) with
 | nil=>cases hf
 | cons t m' k' r _ ih =>
  simp only [Fl.find] at hf
  split at hf
  ·injection hf with hf;injection hf with h1 h2;subst h2;exact h.2.1
  ·exact ih h.2.2 hf
 | _=>trivial
theorem zab:∀(n:Nat) (a b:Kd),a.sz≤n→a.valid→b.valid→(zl a b).valid
 | 0,a,_,h,_,_=>by cases a <;> simp [Kd.sz] at h
 | n+1,a,b,h,ha,hb=>by
  have h48:(Kd.base 48).valid:=by show jm 48;decide
  by_cases h1:b = .base 48
  ·rw [zbm h1];exact h48
  by_cases h2:b = .base 49
  ·rw [zaU h2];exact ha
  cases a with
  | base x =>
   rw [zbd h1 h2]
   split
   ·exact hb
   ·split
    ·exact ha
    ·exact h48
  | ent s =>
   rw [zb6 h1 h2]
   split
   ·exact ha
   ·exact h48
  | set p =>
   simp only [Kd.sz] at h
   rcases zbl (p:=p) h1 h2 with ⟨q,rfl,e⟩|⟨-,e⟩
   ·rw [e];exact zab n p q (by omega) ha hb
   ·rw [e];exact h48
  | fs f =>
   simp only [Kd.sz] at h
   rcases zcj (f:=f) h1 h2 with ⟨g,rfl,e⟩|⟨-,e⟩
   ·rw [e]
    obtain⟨fa,fv⟩:=zaI.1 ha;obtain⟨ga,gv⟩:=zaI.1 hb;refine zaI.2 ⟨zcM fa ga,?_⟩;have key:∀(f' acc:Fl),f'.sz≤n→f'.av→acc.av→(jA f' g acc).av:=by
     intro f' acc hs ho hacc
     induction f' using Fl.rec (motive_1:=fun _=>True) with
     | nil=>simpa [jA] using hacc
     | cons s m k r _ ih =>
      simp only [Fl.sz] at hs
      have ih:=ih (by omega) ho.2.2
      simp only [jA]
      rcases hg:g.find s with _|⟨m',k'⟩
      ·exact zh4 _ _ _ ho.1 ho.2.1 _ ih
      ·exact zh4 _ _ _ ho.1 (zab n k k' (by omega) ho.2.1 (zcm gv hg)) _ ih
     | _=>trivial
    exact key f _ (by omega) fv (zhj f g gv)
   ·rw [e];exact h48
theorem zg0{a b c:Kd}(ha:a.ok)(hb:b.ok)(hc:c.ok):zG (zl a b) c=true↔zG a c=true∧zG b c=true:=by
 obtain⟨u1,u2⟩:=zcr _ a b (Nat.le_refl _) ha hb;have o:=zbO _ a b (Nat.le_refl _) ha hb;constructor
 ·intro h;exact⟨zbP _ a _ c (Nat.le_refl _) ha o hc u1 h,zbP _ b _ c (Nat.le_refl _) hb o hc u2 h⟩
 ·rintro ⟨h1,h2⟩;exact zaO _ a b c (Nat.le_refl _) ha hb hc h1 h2
theorem zhE{a:Kd}(ha:a.ok):zl a a=a:=(zol ha ha).2 (j9 _ a (Nat.le_refl _) ha)
abbrev Kfd:=ByteArray × Bool × Kd
def Fl.list:Fl→List Kfd
 | .nil => []
 | .cons s m k r=>(s,m,k):: r.list
theorem zgB{f:Fl}:∀x:ByteArray,f.ascFrom x→(∀y∈f.list,je x y.1<0)∧f.list.Pairwise fun a b=>je a.1 b.1<0:=by
 induction f using Fl.rec (motive_1:=fun _=>True) with
 | nil=>intro x _;exact⟨(fun _ hy=>nomatch hy),List.Pairwise.nil⟩
 | cons s m k r _ ih =>
  intro x h
  obtain⟨h1,h2⟩:=ih s h.2
  refine⟨fun y hy=>?_,List.Pairwise.cons h1 h2⟩
  rcases List.mem_cons.1 hy with rfl|hy
  ·exact h.1
  ·exact zo.lt_le h.1 (by have:=h1 y hy;omega)
 | _=>trivial
theorem zga{f:Fl}(h:f.asc):f.list.Pairwise fun a b=>je a.1 b.1<0:=by
 cases f with
 | nil=>exact List.Pairwise.nil
 | cons s m k r =>
  obtain⟨h1,h2⟩:=zgB s h
  exact List.Pairwise.cons h1 h2
theorem zaj{f:Fl}(h:f.asc){s:ByteArray}{m:Bool}{k:Kd}:f.find s=some (m,k)↔(s,m,k)∈f.list:=by
 induction f using Fl.rec (motive_1:=fun _=>True) with
 | nil=>simp [Fl.find,Fl.list]
 | cons t m' k' r _ ih =>
  have ih:=ih (jQ h)
  simp only [Fl.find,Fl.list,List.mem_cons,Prod.mk.injEq]
  by_cases e:t=s
  ·subst e
   rw [if_pos rfl];simp only [Option.some.injEq,Prod.mk.injEq,true_and];constructor
   ·rintro ⟨rfl,rfl⟩;exact .inl ⟨rfl,rfl⟩
   ·rintro (⟨rfl,rfl⟩|hm)
    ·exact⟨rfl,rfl⟩
    ·have:=(zgB t h).1 _ hm;rw [zo.self] at this;omega
  ·rw [if_neg e,ih]
   exact⟨.inr,fun h=>h.resolve_left (fun q=>e q.1.symm)⟩
 | _=>trivial
theorem zhI{f:Fl}{s:ByteArray}:f.find s=none↔∀y∈f.list,y.1≠s:=by
 induction f using Fl.rec (motive_1:=fun _=>True) with
 | nil=>simp [Fl.find,Fl.list]
 | cons t m' k' r _ ih =>
  simp only [Fl.find,Fl.list,List.mem_cons]
  by_cases e:t=s
  ·subst e
   rw [if_pos rfl];exact⟨fun h=>(nomatch h),fun h=>absurd rfl (h (t,m',k') (.inl rfl))⟩
  ·rw [if_neg e,ih]
   constructor
   ·rintro h y (rfl|hy)
    ·exact e
    ·exact h y hy
   ·exact fun h y hy=>h y (.inr hy)
 | _=>trivial
structure zeK(L:List Kfd)(s:ByteArray)(lo hi:Nat):Prop where
 le:lo≤hi
 hi_:hi≤L.length
 low:∀i (h:i<L.length),i<lo→je L[i].1 s<0
 high:∀i (h:i<L.length),hi≤i→¬je L[i].1 s<0
theorem zeK.start(L:List Kfd)(s:ByteArray):zeK L s 0 L.length:=⟨Nat.zero_le _,Nat.le_refl _,fun i _ h=>by omega,fun i h h2=>by omega⟩
theorem zeK.up{L:List Kfd}{s:ByteArray}{lo hi m:Nat}(h:zeK L s lo hi)(hp:L.Pairwise fun a b=>je a.1 b.1<0)(h1:lo≤m)(h2:m<hi)(hm:m<L.length)(hl:je L[m].1 s<0):zeK L s (m+1) hi :=
 ⟨by omega,h.hi_,fun i hi' hlt=>by
  rcases Nat.lt_or_ge i m with q|q
  ·have:=List.pairwise_iff_getElem.1 hp i m hi' hm q
   exact zo.lt_le this (by omega)
  ·have:i=m:=by omega
   subst this;exact hl,h.high⟩
theorem zeK.down{L:List Kfd}{s:ByteArray}{lo hi m:Nat}(h:zeK L s lo hi)(hp:L.Pairwise fun a b=>je a.1 b.1<0)(h1:lo≤m)(h2:m<hi)(hm:m<L.length)(hl:¬je L[m].1 s<0):zeK L s lo m :=
 ⟨h1,by omega,h.low,fun i hi' hge=>by
  rcases Nat.lt_or_ge m i with q|q
  ·have:=List.pairwise_iff_getElem.1 hp m i hm hi' q
   intro hc
   exact hl (zo.lt_le this (by omega))
  ·have:i=m:=by omega
   subst this;exact hl⟩
theorem zeK.found{L:List Kfd}{s:ByteArray}{lo:Nat}(h:zeK L s lo lo)(hp:L.Pairwise fun a b=>je a.1 b.1<0):(∀(hl:lo<L.length),L[lo].1=s→L[lo]∈L)∧((∀(hl:lo<L.length),L[lo].1≠s)→∀y∈L,y.1≠s):=by
 refine⟨fun hl _=>List.getElem_mem hl,fun hno y hy e=>?_⟩;obtain⟨i,hi,rfl⟩:=List.getElem_of_mem hy;rcases Nat.lt_trichotomy i lo with q|q|q
 ·have:=h.low i hi q;rw [e,zo.self] at this;omega
 ·subst q;exact hno hi e
 ·have h1:=List.pairwise_iff_getElem.1 hp lo i (by omega) hi q;have h2:=h.high lo (by omega) (Nat.le_refl _);rw [e] at h1;exact h2 h1
end Go.Wk
