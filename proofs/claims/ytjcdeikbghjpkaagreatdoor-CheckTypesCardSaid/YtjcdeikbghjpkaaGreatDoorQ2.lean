/-
  Plain: where types end among nodes, and where the fields of a record's type stand. No program in sight. Plain: below is an order of types. No program in sight. ..
-/
import Derived.Test.YtjcdeikbghjpkaaGreatDoorQ1
set_option maxRecDepth 100000
namespace Go.Wk
theorem zh8{n n':Nat}{P r:List Nd}{k:Kd}(h:zw n P=some (k,r))(h':P.length≤n'):zw n' P=some (k,r):=by
 obtain⟨v,e⟩:=(zai n).1 P k r h;have hl:k.flat.length≤n':=by rw [e,List.length_append] at h';omega
 have:=(zcL n').1 k r v hl;rwa [←e] at this
theorem zgH{n n' c:Nat}{x:ByteArray}{P r:List Nd}{f:Fl}(h:js n c x P=some (f,r))(h':P.length≤n'):js n' c x P=some (f,r):=by
 obtain⟨v,e1,e⟩:=(zai n).2 c x P f r h;have hl:f.flat.length≤n':=by rw [e,List.length_append] at h';omega
 have:=(zcL n').2 f x r v hl;rwa [←e,e1] at this
theorem zcn{n n':Nat}{P:List Nd}(h:P.length≤n)(h':P.length≤n'):zw n P=zw n' P:=by
 rcases e:zw n P with _|⟨k,r⟩
 ·rcases e':zw n' P with _|⟨k,r⟩
  ·rfl
  ·rw [zh8 e' h] at e;cases e
 ·exact(zh8 e h').symm
theorem zel{n n' c:Nat}{x:ByteArray}{P:List Nd}(h:P.length≤n)(h':P.length≤n'):js n c x P=js n' c x P:=by
 rcases e:js n c x P with _|⟨k,r⟩
 ·rcases e':js n' c x P with _|⟨k,r⟩
  ·rfl
  ·rw [zgH e' h] at e;cases e
 ·exact(zgH e h').symm
def zdF(m:Nat)(x:ByteArray):List Nd→Option (ByteArray × Bool × Kd × List Nd)
 | []=>none
 | y :: r=>if zha x y then(match zw m r with
  | none=>none
  | some (k,r')=>some (y.s,y.n==1,k,r')) else none
theorem zeP{n:Nat}{P r:List Nd}{k:Kd}(h:zw n P=some (k,r)):r.length<P.length:=by
 obtain⟨v,e⟩:=(zai n).1 P k r h;have h2:0<k.flat.length:=by cases k <;> simp [Kd.flat]
 rw [e,List.length_append];omega
theorem ziA{m:Nat}{x s:ByteArray}{b:Bool}{k:Kd}{Q r:List Nd}(h:zdF m x Q=some (s,b,k,r)):r.length+2≤Q.length:=by
 cases Q with
 | nil=>cases h
 | cons y Q =>
  simp only [zdF] at h
  split at h
  ·rcases hp:zw m Q with _|⟨k',r'⟩
   ·rw [hp] at h;cases h
   ·rw [hp] at h;simp only [Option.some.injEq,Prod.mk.injEq] at h;have:=zeP hp;rw [←h.2.2.2,List.length_cons];omega
  ·cases h
theorem zld{m c:Nat}{x:ByteArray}{Q:List Nd}(h:Q.length≤m):js m (c+1) x Q=(match zdF m x Q with
 | none=>none
 | some (s,b,k,r')=>match js m c s r' with
  | none=>none
  | some (f,r'')=>some (.cons s b k f,r'')):=by
 cases Q with
 | nil=>cases m <;> rfl
 | cons y r =>
  rw [List.length_cons] at h
  cases m with
  | zero=>omega
  | succ m =>
   simp only [js,zdF]
   by_cases hk:zha x y
   ·simp only [if_pos hk]
    rw [zcn (n:=m) (n':=m+1) (by omega) (by omega)];rcases hp:zw (m+1) r with _|⟨k,r'⟩
    ·rfl
    ·have:=zeP hp;simp only;rw [zel (n:=m) (n':=m+1) (by omega) (by omega)]
     try (rcases js (m+1) c y.s r' with _|⟨f,r''⟩<;> rfl)
   ·simp only [if_neg hk]
def zae(t:List Nd)(p:Nat):Int:=match zw (t.length+1) (t.drop p) with
 | some (_,r)=>((t.length-r.length:Nat):Int)
 | none => -1
def zeh(t:List Nd)(c:Nat)(x:ByteArray)(p:Nat):Int:=match js (t.length+1) c x (t.drop p) with
 | some (_,r)=>((t.length-r.length:Nat):Int)
 | none => -1
theorem zeJ{t:List Nd}{p:Nat}{x:Nd}(h:t[p]?=some x):t.drop p=x :: t.drop (p+1):=by
 obtain⟨hp,e⟩:=List.getElem?_eq_some_iff.1 h;rw [←e];exact List.drop_eq_getElem_cons hp
theorem zqx{t:List Nd}{p:Nat}(h:t.length≤p):zae t p = -1:=by
 unfold zae;rw [List.drop_eq_nil_of_le h];rfl
theorem zjM{t:List Nd}{p:Nat}{x:Nd}(h:t[p]?=some x)(hb:jq x.op):zae t p=if x.n=0∧x.s=emp∧x.t=emp then((p+1:Nat):Int) else -1:=by
 have hp:=(List.getElem?_eq_some_iff.1 h).1;unfold zae;rw [zeJ h];simp only [zw,if_pos hb];by_cases hc:x.n=0∧x.s=emp∧x.t=emp
 ·rw [if_pos hc,if_pos hc];simp only [List.length_drop];congr 1;omega
 ·rw [if_neg hc,if_neg hc]
theorem zdb{x:Int}(h:x=44∨x=45∨x=46):¬jq x:=by unfold jq;omega
theorem zml{t:List Nd}{p:Nat}{x:Nd}(h:t[p]?=some x)(hb:x.op=44):zae t p=if x.n=0∧zd x.s=0∧x.t=emp then((p+1:Nat):Int) else -1:=by
 have hp:=(List.getElem?_eq_some_iff.1 h).1;unfold zae;rw [zeJ h];simp only [zw,if_neg (zdb (.inl hb)),if_pos hb];by_cases hc:x.n=0∧zd x.s=0∧x.t=emp
 ·rw [if_pos hc,if_pos hc];simp only [List.length_drop];congr 1;omega
 ·rw [if_neg hc,if_neg hc]
theorem zlJ{t:List Nd}{p:Nat}{x:Nd}(h:t[p]?=some x)(hb:x.op=45):zae t p=if x.n=0∧x.s=emp∧x.t=emp then zae t (p+1) else -1:=by
 unfold zae;rw [zeJ h];simp only [zw,if_neg (zdb (.inr (.inl hb))),if_neg (show¬x.op=44 by omega),if_pos hb];rw [zcn (n:=t.length) (n':=t.length+1) (by simp) (by simp;omega)];rcases zw (t.length+1) (t.drop (p+1)) with _|⟨k,r⟩
 ·simp
 ·by_cases hc:x.n=0∧x.s=emp∧x.t=emp
  ·simp only [if_pos hc]
  ·simp only [if_neg hc]
theorem zlZ{t:List Nd}{p:Nat}{x:Nd}(h:t[p]?=some x)(hb:x.op=46):zae t p=if 0≤x.n∧x.s=emp∧x.t=emp then zeh t x.n.toNat emp (p+1) else -1:=by
 unfold zae zeh;rw [zeJ h];simp only [zw,if_neg (zdb (.inr (.inr hb))),if_neg (show¬x.op=44 by omega),if_neg (show¬x.op=45 by omega),if_pos hb];rw [zel (n:=t.length) (n':=t.length+1) (by simp) (by simp;omega)];rcases js (t.length+1) x.n.toNat emp (t.drop (p+1)) with _|⟨k,r⟩
 ·simp
 ·by_cases hc:0≤x.n∧x.s=emp∧x.t=emp
  ·simp only [if_pos hc]
  ·simp only [if_neg hc]
theorem zjt{t:List Nd}{p:Nat}{x:Nd}(h:t[p]?=some x)(h1:¬jq x.op)(h2:x.op≠44)(h3:x.op≠45)(h4:x.op≠46):zae t p = -1:=by
 unfold zae;rw [zeJ h];simp only [zw,if_neg h1,if_neg h2,if_neg h3,if_neg h4]
theorem zoe{t:List Nd}{p:Nat}{x:ByteArray}(h:p≤t.length):zeh t 0 x p=(p:Int):=by
 unfold zeh;simp only [js,List.length_drop];congr 1;omega
theorem zqy{t:List Nd}{p c:Nat}{x:ByteArray}(h:t.length≤p):zeh t (c+1) x p = -1:=by
 unfold zeh;rw [List.drop_eq_nil_of_le h];rfl
theorem zr8{t:List Nd}{p:Nat}(h:0≤zae t p):∃e:Nat,zae t p=(e:Int)∧p<e∧e≤t.length:=by
 unfold zae at *;rcases hp:zw (t.length+1) (t.drop p) with _|⟨k,r⟩
 ·rw [hp] at h;simp at h
 ·rw [hp] at h;simp only at h ⊢;obtain⟨v,e⟩:=(zai _).1 _ _ _ hp;have h1:(t.drop p).length=k.flat.length+r.length:=by rw [e,List.length_append]
  rw [List.length_drop] at h1;have h2:0<k.flat.length:=by cases k <;> simp [Kd.flat]
  exact⟨_,rfl,by omega,by omega⟩
theorem zqF{t:List Nd}{p:Nat}(h:¬0≤zae t p):zae t p = -1:=by
 unfold zae at *;rcases hp:zw (t.length+1) (t.drop p) with _|⟨k,r⟩
 ·rfl
 ·rw [hp] at h;simp only at h;omega
theorem zjz{t:List Nd}{p c:Nat}{x:ByteArray}{y:Nd}(h:t[p]?=some y):zeh t (c+1) x p=if zha x y then(if 0≤zae t (p+1) then zeh t c y.s (zae t (p+1)).toNat else -1) else -1:=by
 have hp:=(List.getElem?_eq_some_iff.1 h).1;unfold zeh;rw [zeJ h];simp only [js];by_cases hk:zha x y
 ·simp only [if_pos hk];unfold zae;rw [zcn (n:=t.length) (n':=t.length+1) (by simp) (by simp;omega)];rcases hq:zw (t.length+1) (t.drop (p+1)) with _|⟨k,r⟩
  ·simp
  ·simp only;obtain⟨v,e⟩:=(zai _).1 _ _ _ hq;have h1:(t.drop (p+1)).length=k.flat.length+r.length:=by rw [e,List.length_append]
   rw [List.length_drop] at h1;rw [if_pos (by omega)];have h3:((t.length-r.length:Nat):Int).toNat=t.length-r.length:=rfl;rw [h3];have h2:t.drop (t.length-r.length)=r:=by
    have:t.drop (t.length-r.length)=(t.drop (p+1)).drop k.flat.length:=by rw [List.drop_drop];congr 1;omega
    rw [this,e,List.drop_left]
   rw [h2,zel (n:=t.length) (n':=t.length+1) (by omega) (by omega)];rcases js (t.length+1) c y.s r with _|⟨f,r'⟩<;> rfl
 ·simp only [if_neg hk]
def zo(t:List Nd):Int:=if 200<t.length then 4 else if(zcY t).isSome then 0 else 1
theorem zl9{t:List Nd}:zae t 0=(t.length:Int)↔(zcY t).isSome=true:=by
 unfold zae zcY;rw [List.drop_zero,zcn (n:=t.length+1) (n':=t.length) (by omega) (by omega)];rcases hp:zw t.length t with _|⟨k,r⟩
 ·simp
 ·simp only;obtain⟨v,e⟩:=(zai _).1 _ _ _ hp;have h1:t.length=k.flat.length+r.length:=by rw [←List.length_append,←e]
  have h2:0<k.flat.length:=by cases k <;> simp [Kd.flat]
  cases r with
  | nil=>simp
  | cons a r =>
   simp only [List.length_cons] at h1 ⊢
   simp
   omega
theorem zbB{t:List Nd}:zo t=0↔t.length≤200∧∃k:Kd,k.valid∧t=k.flat:=by
 unfold zo;by_cases h:200<t.length
 ·rw [if_pos h];omega
 ·rw [if_neg h];rcases hr:zcY t with _|k
  ·simp only [Option.isSome_none,Bool.false_eq_true,if_false];constructor
   ·intro q;omega
   ·rintro ⟨-,k,v,e⟩;rw [zdu.2 ⟨v,e⟩] at hr;cases hr
  ·simp only [Option.isSome_some,if_true,true_iff];exact⟨by omega,k,zdu.1 hr⟩
def zc6:Nat→Fl→List Nat
 | _,.nil => []
 | p,.cons _ _ k r=>p :: zc6 (p+1+k.flat.length) r
theorem zo2{t:List Nd}{p:Nat}{k:Kd}{r:List Nd}(hk:k.valid)(h:t.drop p=k.flat ++ r):zae t p=((p+k.flat.length:Nat):Int):=by
 have h1:(t.drop p).length=k.flat.length+r.length:=by rw [h,List.length_append]
 rw [List.length_drop] at h1;have h2:0<k.flat.length:=by cases k <;> simp [Kd.flat]
 have h3:=(zcL (t.length+1)).1 k r hk (by omega);unfold zae;rw [h,h3];simp only;congr 1;omega
theorem zc7{a:Kd}:za5 a=true↔a = .base 48:=by
 cases a with
 | base x=>simp [za5]
 | _=>simp [za5]
theorem zmG{a:Kd}:isNone a=true↔a = .base 49:=by
 cases a with
 | base x=>simp [isNone]
 | _=>simp [isNone]
theorem jQ{x:Int}{b:Kd}:belowK (.base x) b=true↔x=49∨b = .base 48∨b = .base x:=by
 simp only [belowK,Bool.or_eq_true,beq_iff_eq,zc7,or_assoc]
 cases b with
 | base y =>
  have e:x=y↔y=x:=eq_comm
  simp [e]
 | _=>simp
theorem za0{s:ByteArray}{b:Kd}:belowK (.ent s) b=true↔b = .base 48∨b = .ent s:=by
 simp only [belowK,Bool.or_eq_true,zc7]
 cases b with
 | ent t =>
  have e:s=t↔t=s:=eq_comm
  simp [e]
 | _=>simp
theorem zat{p:Kd}{b:Kd}:belowK (.set p) b=true↔b = .base 48∨∃q,b = .set q∧belowK p q=true:=by
 simp only [belowK,Bool.or_eq_true,zc7]
 cases b with
 | set q=>simp
 | _=>simp
theorem zaO{f:Fl}{b:Kd}:belowK (.fs f) b=true↔b = .base 48∨∃g,b = .fs g∧zeZ f g=true∧ziJ g f=true:=by
 simp only [belowK,Bool.or_eq_true,zc7]
 cases b with
 | fs g=>simp
 | _=>simp
def ztp(f g:Fl):Prop:=(∀s m k,f.find s=some (m,k)→∃m' k',g.find s=some (m',k')∧(m'=true→m=true)∧belowK k k'=true)∧(∀s k,g.find s=some (true,k)→(f.find s).isSome=true)
theorem zcM{f g:Fl}(hf:f.asc)(hg:g.asc):zeZ f g=true∧ziJ g f=true↔ztp f g:=by
 rw [zhY hf,zjS hg];rfl
theorem zm8:∀(f g:Fl),f.asc→g.asc→(∀s,f.find s=g.find s)→f=g
 | .nil,.nil,_,_,_=>rfl
 | .nil,.cons s m k r,_,_,h=>by have:=h s;simp [Fl.find] at this
 | .cons s m k r,.nil,_,_,h=>by have:=h s;simp [Fl.find] at this
 | .cons s m k r,.cons t m' k' r',h1,h2,h=>by
  have hs:=h s;have ht:=h t;have e:s=t:=by
   simp only [Fl.find,if_pos] at hs ht;by_cases e:t=s
   ·exact e.symm
   ·rw [if_neg e] at hs;have l1:=zcZ h2 hs.symm;rw [if_neg (fun q=>e q.symm)] at ht;have l2:=zcZ h1 ht;have:=zt.anti s t;omega
  subst e;simp only [Fl.find,if_pos,Option.some.injEq,Prod.mk.injEq] at hs;obtain⟨e1,e2⟩:=hs;have hr:r=r':=zm8 r r' (zaC h1) (zaC h2) fun x=>by
   have hx:=h x;simp only [Fl.find] at hx;by_cases e:s=x
   ·subst e;rcases hg:r.find s with _|v
    ·rcases hg':r'.find s with _|v'
     ·rfl
     ·have:=zcZ h2 hg';rw [zt.self] at this;omega
    ·have:=zcZ h1 hg;rw [zt.self] at this;omega
   ·rwa [if_neg e,if_neg e] at hx
  rw [e1,e2,hr]
theorem zdL:∀(n:Nat) (a b:Kd),a.sz≤n→a.ok→b.ok→belowK a b=true→belowK b a=true→a=b
 | 0,a,_,h,_,_,_,_=>by cases a <;> simp [Kd.sz] at h
 | n+1,a,b,h,ha,hb,h1,h2=>by
  cases a with
  | base x =>
   rcases jQ.1 h1 with rfl|h3|h3
   ·cases b with
    | base y =>
     rcases jQ.1 h2 with h4|h4|h4
     ·rw [h4]
     ·cases h4
     ·exact h4
    | ent t=>rcases za0.1 h2 with h4|h4 <;> cases h4
    | set t=>rcases zat.1 h2 with h4|⟨q,h4,_⟩<;> cases h4
    | fs t=>rcases zaO.1 h2 with h4|⟨q,h4,_⟩<;> cases h4
   ·subst h3
    rcases jQ.1 h2 with h4|h4|h4
    ·cases h4
    ·exact h4
    ·exact h4
   ·exact h3.symm
  | ent s =>
   rcases za0.1 h1 with h3|h3
   ·subst h3
    rcases jQ.1 h2 with h4|h4|h4 <;> cases h4
   ·exact h3.symm
  | set p =>
   simp only [Kd.sz] at h
   rcases zat.1 h1 with h3|⟨q,rfl,h3⟩
   ·subst h3
    rcases jQ.1 h2 with h4|h4|h4 <;> cases h4
   ·rcases zat.1 h2 with h4|⟨r,h4,h5⟩
    ·cases h4
    ·injection h4 with h4;subst h4;rw [zdL n p q (by omega) ha hb h3 h5]
  | fs f =>
   simp only [Kd.sz] at h
   rcases zaO.1 h1 with h3|⟨g,rfl,h3⟩
   ·subst h3
    rcases jQ.1 h2 with h4|h4|h4 <;> cases h4
   ·rcases zaO.1 h2 with h4|⟨e,h4,h5⟩
    ·cases h4
    ·injection h4 with h4;subst h4;obtain⟨p1,-⟩:=(zcM ha.1 hb.1).1 h3;obtain⟨q1,-⟩:=(zcM hb.1 ha.1).1 h5;congr 1;refine zm8 f g ha.1 hb.1 fun s=>?_;rcases hf:f.find s with _|⟨m,k⟩
     ·rcases hg:g.find s with _|⟨m',k'⟩
      ·rfl
      ·obtain⟨_,_,e,_⟩:=q1 s m' k' hg;rw [hf] at e;cases e
     ·obtain⟨m',k',hg,e1,e2⟩:=p1 s m k hf;obtain⟨m2,k2,hf2,e3,e4⟩:=q1 s m' k' hg;rw [hf] at hf2;injection hf2 with hf2;injection hf2 with f1 f2;subst f1 f2;rw [hg,zdL n k k' (by have:=zbG hf;omega) (zaJ ha.2 hf) (zaJ hb.2 hg) e2 e4];have:m=m':=by cases m <;> cases m' <;> simp_all
      rw [this]
def zdv(s:ByteArray)(m:Bool)(k:Kd):Fl→Fl
 | .nil => .cons s m k .nil
 | .cons t m' k' r=>if zO s t<0 then .cons s m k (.cons t m' k' r) else .cons t m' k' (zdv s m k r)
def jK:Fl→Fl→Fl
 | .nil,_ => .nil
 | .cons s _ k r,f=>if(f.find s).isSome then jK r f else .cons s false k (jK r f)
mutual
def zm:Kd→Kd→Kd
 | .base x,b=>if x=49 then b else if za5 b then b else if isNone b then .base x else if x=48 then .base 48 else(match b with | .base y=>if x=y then .base x else .base 48|_ => .base 48)
 | .ent s,b=>if za5 b then b else if isNone b then .ent s else(match b with | .ent t=>if s=t then .ent s else .base 48|_ => .base 48)
 | .set p,b=>if za5 b then b else if isNone b then .set p else(match b with | .set q => .set (zm p q)|_ => .base 48)
 | .fs f,b=>if za5 b then b else if isNone b then .fs f else(match b with | .fs g => .fs (jC f g (jK g f))|_ => .base 48)
def jC:Fl→Fl→Fl→Fl
 | .nil,_,acc=>acc
 | .cons s m k r,g,acc=>match g.find s with
  | none=>zdv s false k (jC r g acc)
  | some (m',k')=>zdv s (m && m') (zm k k') (jC r g acc)
end
theorem zfp(s:ByteArray)(m:Bool)(k:Kd){t:ByteArray}(h:s≠t):∀f:Fl,(zdv s m k f).find t=f.find t
 | .nil=>by simp [zdv,Fl.find,h]
 | .cons u m' k' r=>by
  simp only [zdv];split
  ·simp [Fl.find,h]
  ·simp only [Fl.find,zfp s m k h r]
theorem zgu(s:ByteArray)(m:Bool)(k:Kd):∀f:Fl,f.find s=none→(zdv s m k f).find s=some (m,k)
 | .nil,_=>by simp [zdv,Fl.find]
 | .cons u m' k' r,h=>by
  simp only [Fl.find] at h;simp only [zdv];split
  ·simp [Fl.find]
  ·by_cases e:u=s
   ·rw [if_pos e] at h;cases h
   ·rw [if_neg e] at h;simp only [Fl.find,if_neg e];exact zgu s m k r h
theorem zmh(s:ByteArray)(m:Bool)(k:Kd):∀(f:Fl) (x:ByteArray),f.ascFrom x→zO x s<0→f.find s=none→(zdv s m k f).ascFrom x
 | .nil,_,_,h,_=>⟨h,trivial⟩
 | .cons u m' k' r,x,h1,h2,h3=>by
  simp only [Fl.find] at h3;simp only [zdv];split
  ·rename_i hlt;exact⟨h2,hlt,h1.2⟩
  ·rename_i hlt;by_cases e:u=s
   ·rw [if_pos e] at h3;cases h3
   ·rw [if_neg e] at h3;refine⟨h1.1,zmh s m k r u h1.2 ?_ h3⟩;have a:=zt.anti s u;have z:zO s u≠0:=fun q=>e ((zt.zero _ _).1 q).symm;omega
theorem zj1(s:ByteArray)(m:Bool)(k:Kd)(f:Fl)(h:f.asc)(hn:f.find s=none):(zdv s m k f).asc:=by
 cases f with
 | nil=>exact trivial
 | cons u m' k' r =>
  simp only [Fl.find] at hn
  simp only [zdv]
  split
  ·rename_i hlt;exact⟨hlt,h⟩
  ·rename_i hlt
   by_cases e:u=s
   ·rw [if_pos e] at hn;cases hn
   ·rw [if_neg e] at hn;refine zmh s m k r u h ?_ hn;have a:=zt.anti s u;have z:zO s u≠0:=fun q=>e ((zt.zero _ _).1 q).symm;omega
theorem zk3(s:ByteArray)(m:Bool)(k:Kd)(hk:k.ok):∀f:Fl,f.ok→(zdv s m k f).ok
 | .nil,_=>⟨hk,trivial⟩
 | .cons u m' k' r,h=>by
  simp only [zdv];split
  ·exact⟨hk,h⟩
  ·exact⟨h.1,zk3 s m k hk r h.2⟩
theorem zqr{x y:ByteArray}{f:Fl}(h:f.ascFrom y)(hl:zO x y<0):f.ascFrom x:=by
 cases f with
 | nil=>trivial
 | cons s m k r=>exact⟨zt.lt_le hl (by have:=h.1;omega),h.2⟩
theorem zcI(f:Fl)(s:ByteArray):∀g:Fl,(jK g f).find s=if(f.find s).isSome=true then none else(g.find s).map fun v=>(false,v.2)
 | .nil=>by simp [jK,Fl.find]
 | .cons t m k r=>by
  simp only [jK];split
  ·rename_i ht;rw [zcI f s r];simp only [Fl.find];by_cases e:t=s
   ·subst e;rw [if_pos ht,if_pos ht]
   ·rw [if_neg e]
  ·rename_i ht;simp only [Fl.find];by_cases e:t=s
   ·subst e;rw [if_pos rfl,if_neg ht,if_pos rfl];rfl
   ·rw [if_neg e,if_neg e,zcI f s r]
theorem zey(f:Fl):∀(g:Fl) (x:ByteArray),g.ascFrom x→(jK g f).ascFrom x
 | .nil,_,_=>trivial
 | .cons t m k r,x,h=>by
  simp only [jK];split
  ·exact zey f r x (zqr h.2 h.1)
  ·exact⟨h.1,zey f r t h.2⟩
theorem znx(f g:Fl)(h:g.asc):(jK g f).asc:=by
 cases g with
 | nil=>trivial
 | cons t m k r =>
  simp only [jK]
  split
  ·exact zaC (zey f r t h)
  ·exact zey f r t h
theorem zi1(f:Fl):∀g:Fl,g.ok→(jK g f).ok
 | .nil,_=>trivial
 | .cons t m k r,h=>by
  simp only [jK];split
  ·exact zi1 f r h.2
  ·exact⟨h.1,zi1 f r h.2⟩
theorem zgd{s:ByteArray}{r:Fl}(h:r.ascFrom s):r.find s=none:=by
 rcases hf:r.find s with _|v
 ·rfl
 ·have:=zcZ h hf;rw [zt.self] at this;omega
theorem zeY(g:Fl)(s:ByteArray):∀(f acc:Fl),f.asc→(∀t,(f.find t).isSome=true→acc.find t=none)→
 (jC f g acc).find s=match f.find s with|none=>acc.find s|some (m,k)=>(match g.find s with|none=>some (false,k)|some (m',k')=>some (m && m',zm k k'))
 | .nil,acc,_,_=>by simp [jC,Fl.find]
 | .cons t m k r,acc,h1,h2=>by
  have ih:=zeY g s r acc (zaC h1) (fun u hu=>h2 u (by simp only [Fl.find];split <;> simp_all));have ht:r.find t=none:=zgd h1;have hat:acc.find t=none:=h2 t (by simp [Fl.find]);by_cases e:t=s
  ·subst e;rw [ht] at ih;have ih':(jC r g acc).find t=none:=ih.trans hat;simp only [jC,Fl.find,if_pos];rcases hg:g.find t with _|⟨m',k'⟩
   ·exact zgu t false k _ ih'
   ·exact zgu t (m && m') (zm k k') _ ih'
  ·simp only [jC,Fl.find,if_neg e];rw [←ih];rcases hg:g.find t with _|⟨m',k'⟩
   ·exact zfp t false k e _
   ·exact zfp t _ _ e _
theorem zjV(g:Fl):∀(f acc:Fl),f.asc→acc.asc→(∀t,(f.find t).isSome=true→acc.find t=none)→(jC f g acc).asc
 | .nil,_,_,h,_=>by simpa [jC] using h
 | .cons t m k r,acc,h1,h0,h2=>by
  have hsub:∀u,(r.find u).isSome=true→acc.find u=none:=fun u hu=>h2 u (by simp only [Fl.find];split <;> simp_all);have ih:=zjV g r acc (zaC h1) h0 hsub;have hf:=zeY g t r acc (zaC h1) hsub;rw [zgd h1] at hf;have hn:(jC r g acc).find t=none:=hf.trans (h2 t (by simp [Fl.find]));simp only [jC];rcases hg:g.find t with _|⟨m',k'⟩
  ·exact zj1 t false k _ ih hn
  ·exact zj1 t _ _ _ ih hn
def jn(a b:Option (Bool × Kd)):Option (Bool × Kd):=match a,b with
 | some (m,k),some (m',k')=>some (m && m',zm k k')
 | some (_,k),none=>some (false,k)
 | none,some (_,k')=>some (false,k')
 | none,none=>none
theorem zaV{f g:Fl}(hf:f.asc)(s:ByteArray):(jC f g (jK g f)).find s=jn (f.find s) (g.find s):=by
 have h2:∀t,(f.find t).isSome=true→(jK g f).find t=none:=fun t ht=>by rw [zcI,if_pos ht]
 rw [zeY g s f _ hf h2];rcases h:f.find s with _|⟨m,k⟩
 ·rw [zcI,h];rcases hg:g.find s with _|⟨m',k'⟩<;> simp [jn]
 ·rcases hg:g.find s with _|⟨m',k'⟩<;> simp [jn]
theorem zcG{f g:Fl}(hf:f.asc)(hg:g.asc):(jC f g (jK g f)).asc :=
 zjV g f _ hf (znx f g hg) fun t ht=>by rw [zcI,if_pos ht]
theorem zby{a b:Kd}(h:b = .base 48):zm a b = .base 48:=by
 subst h
 cases a with
 | base x=>simp only [zm];split <;> simp [za5]
 | _=>simp [zm,za5]
theorem za1{a b:Kd}(h:b = .base 49):zm a b=a:=by
 subst h
 cases a with
 | base x =>
  simp only [zm]
  split
  ·rename_i e;rw [e]
  ·simp [za5,isNone]
 | _=>simp [zm,za5,isNone]
theorem zhp{b:Kd}(h:b≠ .base 48):za5 b=false:=by
 rcases e:za5 b with _|_
 ·rfl
 ·exact absurd (zc7.1 e) h
theorem zfr{b:Kd}(h:b≠ .base 49):isNone b=false:=by
 rcases e:isNone b with _|_
 ·rfl
 ·exact absurd (zmG.1 e) h
open Classical in
theorem zci{x:Int}{b:Kd}(h1:b≠ .base 48)(h2:b≠ .base 49):zm (.base x) b=if x=49 then b else if b = .base x then .base x else .base 48:=by
 simp only [zm,zhp h1,zfr h2];by_cases e9:x=49
 ·rw [if_pos e9,if_pos e9]
 ·rw [if_neg e9,if_neg e9];simp only [Bool.false_eq_true,if_false]
  cases b with
  | base y =>
   by_cases e:x=y
   ·subst e;rw [if_neg (fun e=>h1 (by rw [e])),if_pos rfl];simp
   ·rw [if_neg (show¬Kd.base y=Kd.base x from fun q=>e (by injection q with q;exact q.symm))]
    simp [e]
  | _=>simp
open Classical in
theorem zdw{s:ByteArray}{b:Kd}(h1:b≠ .base 48)(h2:b≠ .base 49):zm (.ent s) b=if b = .ent s then .ent s else .base 48:=by
 simp only [zm,zhp h1,zfr h2];simp only [Bool.false_eq_true,if_false]
 cases b with
 | ent t =>
  by_cases e:s=t
  ·subst e;simp
  ·have e':¬t=s:=fun q=>e q.symm
   simp [e,e']
 | _=>simp
theorem zcE{p:Kd}{b:Kd}(h1:b≠ .base 48)(h2:b≠ .base 49):(∃q,b = .set q∧zm (.set p) b = .set (zm p q))∨((∀q,b≠ .set q)∧zm (.set p) b = .base 48):=by
 simp only [zm,zhp h1,zfr h2]
 cases b with
 | set q=>exact .inl ⟨q,rfl,by simp⟩
 | _=>exact .inr ⟨(fun q e=>by cases e),by simp⟩
theorem zdJ{f:Fl}{b:Kd}(h1:b≠ .base 48)(h2:b≠ .base 49):(∃g,b = .fs g∧zm (.fs f) b = .fs (jC f g (jK g f)))∨((∀g,b≠ .fs g)∧zm (.fs f) b = .base 48):=by
 simp only [zm,zhp h1,zfr h2]
 cases b with
 | fs g=>exact .inl ⟨g,rfl,by simp⟩
 | _=>exact .inr ⟨(fun q e=>by cases e),by simp⟩
theorem zcl(a:Kd):belowK a (.base 48)=true:=zol a _ rfl
theorem zfM:∀(n:Nat) (a b:Kd),a.sz≤n→a.ok→b.ok→(zm a b).ok
 | 0,a,_,h,_,_=>by cases a <;> simp [Kd.sz] at h
 | n+1,a,b,h,ha,hb=>by
  by_cases h1:b = .base 48
  ·rw [zby h1];trivial
  by_cases h2:b = .base 49
  ·rw [za1 h2];exact ha
  cases a with
  | base x =>
   rw [zci h1 h2]
   split
   ·exact hb
   ·split <;> trivial
  | ent s=>rw [zdw h1 h2];split <;> trivial
  | set p =>
   simp only [Kd.sz] at h
   rcases zcE (p:=p) h1 h2 with ⟨q,rfl,e⟩|⟨-,e⟩
   ·rw [e];exact zfM n p q (by omega) ha hb
   ·rw [e];trivial
  | fs f =>
   simp only [Kd.sz] at h
   rcases zdJ (f:=f) h1 h2 with ⟨g,rfl,e⟩|⟨-,e⟩
   ·rw [e]
    refine⟨zcG ha.1 hb.1,?_⟩;have key:∀(f' acc:Fl),f'.sz≤n→f'.ok→acc.ok→(jC f' g acc).ok:=by
     intro f' acc hs ho hacc
     induction f' using Fl.rec (motive_1:=fun _=>True) with
     | nil=>simpa [jC] using hacc
     | cons s m k r _ ih =>
      simp only [Fl.sz] at hs
      have ih:=ih (by omega) ho.2
      simp only [jC]
      rcases hg:g.find s with _|⟨m',k'⟩
      ·exact zk3 _ _ _ ho.1 _ ih
      ·exact zk3 _ _ _ (zfM n k k' (by omega) ho.1 (zaJ hb.2 hg)) _ ih
     | _=>trivial
    exact key f _ (by omega) ha.2 (zi1 f g hb.2)
   ·rw [e];trivial
theorem zez:∀(n:Nat) (a b:Kd),a.sz≤n→a.ok→b.ok→belowK a (zm a b)=true∧belowK b (zm a b)=true
 | 0,a,_,h,_,_=>by cases a <;> simp [Kd.sz] at h
 | n+1,a,b,h,ha,hb=>by
  by_cases h1:b = .base 48
  ·rw [zby h1,h1];exact⟨zcl _,zcl _⟩
  by_cases h2:b = .base 49
  ·rw [za1 h2,h2];exact⟨zaP _ a (Nat.le_refl _) ha,zhO _ _ rfl⟩
  have rb:=zaP _ b (Nat.le_refl _) hb
  cases a with
  | base x =>
   rw [zci h1 h2]
   split
   ·rename_i e;subst e;exact⟨zhO _ _ rfl,rb⟩
   ·split
    ·rename_i e;rw [e];exact⟨jQ.2 (.inr (.inr rfl)),jQ.2 (.inr (.inr rfl))⟩
    ·exact⟨zcl _,zcl _⟩
  | ent s =>
   rw [zdw h1 h2]
   split
   ·rename_i e;rw [e];exact⟨za0.2 (.inr rfl),za0.2 (.inr rfl)⟩
   ·exact⟨zcl _,zcl _⟩
  | set p =>
   simp only [Kd.sz] at h
   rcases zcE (p:=p) h1 h2 with ⟨q,rfl,e⟩|⟨-,e⟩
   ·rw [e]
    obtain⟨u1,u2⟩:=zez n p q (by omega) ha hb;exact⟨zat.2 (.inr ⟨_,rfl,u1⟩),zat.2 (.inr ⟨_,rfl,u2⟩)⟩
   ·rw [e];exact⟨zcl _,zcl _⟩
  | fs f =>
   simp only [Kd.sz] at h
   rcases zdJ (f:=f) h1 h2 with ⟨g,rfl,e⟩|⟨-,e⟩
   ·rw [e]
    have hj:=zcG ha.1 hb.1;refine⟨zaO.2 (.inr ⟨_,rfl,(zcM ha.1 hj).2 ⟨fun s m k hf=>?_,fun s k hf=>?_⟩⟩),zaO.2 (.inr ⟨_,rfl,(zcM hb.1 hj).2 ⟨fun s m k hg=>?_,fun s k hf=>?_⟩⟩)⟩
    ·rw [zaV ha.1,hf];rcases hg:g.find s with _|⟨m',k'⟩
     ·exact⟨false,k,rfl,fun e=>(nomatch e),zaP _ k (Nat.le_refl _) (zaJ ha.2 hf)⟩
     ·exact⟨_,_,rfl,fun e=>by simp at e;exact e.1,(zez n k k' (by have:=zbG hf;omega) (zaJ ha.2 hf) (zaJ hb.2 hg)).1⟩
    ·rw [zaV ha.1] at hf;rcases hq:f.find s with _|⟨m0,k0⟩
     ·rw [hq] at hf;rcases hg:g.find s with _|⟨m',k'⟩<;> rw [hg] at hf <;> simp [jn] at hf
     ·rfl
    ·rw [zaV ha.1,hg];rcases hf:f.find s with _|⟨m',k'⟩
     ·exact⟨false,k,rfl,fun e=>(nomatch e),zaP _ k (Nat.le_refl _) (zaJ hb.2 hg)⟩
     ·exact⟨_,_,rfl,fun e=>by simp at e;exact e.2,(zez n k' k (by have:=zbG hf;omega) (zaJ ha.2 hf) (zaJ hb.2 hg)).2⟩
    ·rw [zaV ha.1] at hf;rcases hg:g.find s with _|⟨m0,k0⟩
     ·rw [hg] at hf;rcases hq:f.find s with _|⟨m',k'⟩<;> rw [hq] at hf <;> simp [jn] at hf
     ·rfl
   ·rw [e];exact⟨zcl _,zcl _⟩
theorem zcp:∀(n:Nat) (a b c:Kd),a.sz≤n→a.ok→b.ok→c.ok→belowK a c=true→belowK b c=true→belowK (zm a b) c=true
 | 0,a,_,_,h,_,_,_,_,_=>by cases a <;> simp [Kd.sz] at h
 | n+1,a,b,c,h,ha,hb,hc,k1,k2=>by
  by_cases h1:b = .base 48
  ·rw [zby h1];rw [h1] at k2;exact k2
  by_cases h2:b = .base 49
  ·rw [za1 h2];exact k1
  by_cases h3:c = .base 48
  ·rw [h3];exact zcl _
  cases a with
  | base x =>
   rw [zci h1 h2]
   split
   ·exact k2
   ·rename_i hx
    rcases jQ.1 k1 with e|e|e
    ·exact absurd e hx
    ·exact absurd e h3
    ·subst e
     cases b with
     | base y =>
      rcases jQ.1 k2 with e|e|e
      ·subst e;exact absurd rfl h2
      ·exact absurd e h3
      ·injection e with e;subst e;rw [if_pos rfl];exact k1
     | ent t=>rcases za0.1 k2 with e|e <;> first|exact absurd e h3|cases e
     | set t=>rcases zat.1 k2 with e|⟨_,e,_⟩<;> first|exact absurd e h3|cases e
     | fs t=>rcases zaO.1 k2 with e|⟨_,e,_⟩<;> first|exact absurd e h3|cases e
  | ent s =>
   rw [zdw h1 h2]
   rcases za0.1 k1 with e|e
   ·exact absurd e h3
   ·subst e
    cases b with
    | base y =>
     rcases jQ.1 k2 with e|e|e
     ·subst e;exact absurd rfl h2
     ·exact absurd e h3
     ·cases e
    | ent t =>
     rcases za0.1 k2 with e|e
     ·exact absurd e h3
     ·injection e with e;subst e;rw [if_pos rfl];exact k1
    | set t=>rcases zat.1 k2 with e|⟨_,e,_⟩<;> first|exact absurd e h3|cases e
    | fs t=>rcases zaO.1 k2 with e|⟨_,e,_⟩<;> first|exact absurd e h3|cases e
  | set p =>
   simp only [Kd.sz] at h
   rcases zat.1 k1 with e|⟨r,rfl,k3⟩
   ·exact absurd e h3
   ·rcases zcE (p:=p) h1 h2 with ⟨q,rfl,e⟩|⟨hno,e⟩
    ·rw [e];rcases zat.1 k2 with e|⟨r',e',k4⟩
     ·exact absurd e h3
     ·injection e' with e';subst e';exact zat.2 (.inr ⟨r,rfl,zcp n p q r (by omega) ha hb hc k3 k4⟩)
    ·exfalso
     cases b with
     | base y =>
      rcases jQ.1 k2 with e|e|e
      ·subst e;exact h2 rfl
      ·cases e
      ·cases e
     | ent t=>rcases za0.1 k2 with e|e <;> cases e
     | set t=>exact hno t rfl
     | fs t=>rcases zaO.1 k2 with e|⟨_,e,_⟩<;> cases e
  | fs f =>
   simp only [Kd.sz] at h
   rcases zaO.1 k1 with e|⟨r,rfl,k3⟩
   ·exact absurd e h3
   ·rcases zdJ (f:=f) h1 h2 with ⟨g,rfl,e⟩|⟨hno,e⟩
    ·rw [e];rcases zaO.1 k2 with e|⟨r',e',k4⟩
     ·exact absurd e h3
     ·injection e' with e';subst e';obtain⟨p1,p2⟩:=(zcM ha.1 hc.1).1 k3;obtain⟨q1,q2⟩:=(zcM hb.1 hc.1).1 k4;refine zaO.2 (.inr ⟨r,rfl,(zcM (zcG ha.1 hb.1) hc.1).2 ⟨fun s m k hj=>?_,fun s k hr=>?_⟩⟩)
      ·rw [zaV ha.1] at hj;rcases hf:f.find s with _|⟨m1,k1'⟩
       ·rcases hg:g.find s with _|⟨m2,k2'⟩
        ·rw [hf,hg] at hj;simp [jn] at hj
        ·rw [hf,hg] at hj;simp only [jn,Option.some.injEq,Prod.mk.injEq] at hj;obtain⟨rfl,rfl⟩:=hj;obtain⟨m',k',hr,e1,e2⟩:=q1 s m2 k2' hg;refine⟨m',k',hr,fun e=>?_,e2⟩;subst e;have:=p2 s k' hr;rw [hf] at this;cases this
       ·obtain⟨m',k',hr,e1,e2⟩:=p1 s m1 k1' hf;rcases hg:g.find s with _|⟨m2,k2'⟩
        ·rw [hf,hg] at hj;simp only [jn,Option.some.injEq,Prod.mk.injEq] at hj;obtain⟨rfl,rfl⟩:=hj;refine⟨m',k',hr,fun e=>?_,e2⟩;subst e;have:=q2 s k' hr;rw [hg] at this;cases this
        ·rw [hf,hg] at hj;simp only [jn,Option.some.injEq,Prod.mk.injEq] at hj;obtain⟨rfl,rfl⟩:=hj;obtain⟨m'',k'',hr',e3,e4⟩:=q1 s m2 k2' hg;rw [hr] at hr';simp only [Option.some.injEq,Prod.mk.injEq] at hr';obtain⟨rfl,rfl⟩:=hr';exact⟨m',k',hr,fun e=>by rw [e1 e,e3 e];rfl,zcp n k1' k2' k' (by have:=zbG hf;omega) (zaJ ha.2 hf) (zaJ hb.2 hg) (zaJ hc.2 hr) e2 e4⟩
      ·have h5:=p2 s k hr;rw [zaV ha.1];rcases hf:f.find s with _|⟨m1,k1'⟩
       ·rw [hf] at h5;cases h5
       ·rcases hg:g.find s with _|⟨m2,k2'⟩<;> rfl
    ·exfalso
     cases b with
     | base y =>
      rcases jQ.1 k2 with e|e|e
      ·subst e;exact h2 rfl
      ·cases e
      ·cases e
     | ent t=>rcases za0.1 k2 with e|e <;> cases e
     | set t=>rcases zat.1 k2 with e|⟨_,e,_⟩<;> cases e
     | fs t=>exact hno t rfl
theorem zeD{a b:Kd}(ha:a.ok)(hb:b.ok):zm a b=zm b a:=by
 obtain⟨u1,u2⟩:=zez _ a b (Nat.le_refl _) ha hb;obtain⟨v1,v2⟩:=zez _ b a (Nat.le_refl _) hb ha;have o1:=zfM _ a b (Nat.le_refl _) ha hb;have o2:=zfM _ b a (Nat.le_refl _) hb ha;exact zdL _ _ _ (Nat.le_refl _) o1 o2 (zcp _ a b _ (Nat.le_refl _) ha hb o2 v2 v1) (zcp _ b a _ (Nat.le_refl _) hb ha o1 u2 u1)
theorem zpQ{a b:Kd}(ha:a.ok)(hb:b.ok):zm a b=a↔belowK b a=true:=by
 obtain⟨u1,u2⟩:=zez _ a b (Nat.le_refl _) ha hb;constructor
 ·intro e;rw [e] at u2;exact u2
 ·intro h;exact zdL _ _ _ (Nat.le_refl _) (zfM _ a b (Nat.le_refl _) ha hb) ha (zcp _ a b a (Nat.le_refl _) ha hb ha (zaP _ a (Nat.le_refl _) ha) h) u1
end Go.Wk
namespace Go.Wk
def Fl.av:Fl→Prop
 | .nil=>True
 | .cons s _ k r=>zd s=0∧k.valid∧r.av
theorem zsk{s:ByteArray}(h:zd s=0):zO emp s<0:=by
 have hne:s≠emp:=fun e=>by subst e;exact absurd h (by decide)
 rcases zt.rng emp s with e|e|e
 ·omega
 ·exact absurd ((zt.zero _ _).1 e).symm hne
 ·exfalso;unfold zO at e;have:emp.data.toList = []:=rfl;rw [this] at e
  cases hs:s.data.toList with
  | nil=>exact hne (zaD (by rw [hs];rfl))
  | cons a l=>rw [hs] at e;simp [Lib.compareBytes] at e
theorem zc3:∀(f:Fl) (x:ByteArray),f.validFrom x↔f.ascFrom x∧f.av
 | .nil,_=>by simp [Fl.validFrom,Fl.ascFrom,Fl.av]
 | .cons s m k r,x=>by
  simp only [Fl.validFrom,Fl.ascFrom,Fl.av,zc3 r s];constructor
  ·rintro ⟨a,b,c,d,e⟩;exact⟨⟨a,d⟩,b,c,e⟩
  ·rintro ⟨⟨a,d⟩,b,c,e⟩;exact⟨a,b,c,d,e⟩
theorem zru:∀f:Fl,f.asc→f.av→f.ascFrom emp
 | .nil,_,_=>trivial
 | .cons _ _ _ _,h,hv=>⟨zsk hv.1,h⟩
theorem zb5{f:Fl}:(Kd.fs f).valid↔f.asc∧f.av:=by
 simp only [Kd.valid,zc3];exact⟨fun⟨a,b⟩=>⟨zaC a,b⟩,fun⟨a,b⟩=>⟨zru f a b,b⟩⟩
theorem zhR:∀(n:Nat) (a:Kd),a.sz≤n→a.valid→a.ok
 | 0,a,h,_=>by cases a <;> simp [Kd.sz] at h
 | n+1,a,h,hv=>by
  cases a with
  | base x=>trivial
  | ent s=>trivial
  | set p=>simp only [Kd.sz] at h;exact zhR n p (by omega) hv
  | fs f =>
   simp only [Kd.sz] at h
   obtain⟨h1,h2⟩:=zb5.1 hv
   refine⟨h1,?_⟩
   have key:∀g:Fl,g.sz≤n→g.av→g.ok:=by
    intro g hs hg
    induction g using Fl.rec (motive_1:=fun _=>True) with
    | nil=>trivial
    | cons s m k r _ ih =>
     simp only [Fl.sz] at hs
     exact⟨zhR n k (by omega) hg.2.1,ih (by omega) hg.2.2⟩
    | _=>trivial
   exact key f (by omega) h2
theorem Kd.valid.ok{a:Kd}(h:a.valid):a.ok:=zhR _ a (Nat.le_refl _) h
theorem zkx(s:ByteArray)(m:Bool)(k:Kd)(hs:zd s=0)(hk:k.valid):∀f:Fl,f.av→(zdv s m k f).av
 | .nil,_=>⟨hs,hk,trivial⟩
 | .cons t m' k' r,h=>by
  simp only [zdv];split
  ·exact⟨hs,hk,h⟩
  ·exact⟨h.1,h.2.1,zkx s m k hs hk r h.2.2⟩
theorem ziB(f:Fl):∀g:Fl,g.av→(jK g f).av
 | .nil,_=>trivial
 | .cons t m k r,h=>by
  simp only [jK];split
  ·exact ziB f r h.2.2
  ·exact⟨h.1,h.2.1,ziB f r h.2.2⟩
theorem zdY{f:Fl}(h:f.av){s:ByteArray}{m:Bool}{k:Kd}(hf:f.find s=some (m,k)):k.valid:=by
 induction f using Fl.rec (motive_1:=fun _=>True) with
 | nil=>cases hf
 | cons t m' k' r _ ih =>
  simp only [Fl.find] at hf
  split at hf
  ·injection hf with hf;injection hf with h1 h2;subst h2;exact h.2.1
  ·exact ih h.2.2 hf
 | _=>trivial
theorem zay:∀(n:Nat) (a b:Kd),a.sz≤n→a.valid→b.valid→(zm a b).valid
 | 0,a,_,h,_,_=>by cases a <;> simp [Kd.sz] at h
 | n+1,a,b,h,ha,hb=>by
  have h48:(Kd.base 48).valid:=by show jq 48;decide
  by_cases h1:b = .base 48
  ·rw [zby h1];exact h48
  by_cases h2:b = .base 49
  ·rw [za1 h2];exact ha
  cases a with
  | base x =>
   rw [zci h1 h2]
   split
   ·exact hb
   ·split
    ·exact ha
    ·exact h48
  | ent s =>
   rw [zdw h1 h2]
   split
   ·exact ha
   ·exact h48
  | set p =>
   simp only [Kd.sz] at h
   rcases zcE (p:=p) h1 h2 with ⟨q,rfl,e⟩|⟨-,e⟩
   ·rw [e];exact zay n p q (by omega) ha hb
   ·rw [e];exact h48
  | fs f =>
   simp only [Kd.sz] at h
   rcases zdJ (f:=f) h1 h2 with ⟨g,rfl,e⟩|⟨-,e⟩
   ·rw [e]
    obtain⟨fa,fv⟩:=zb5.1 ha;obtain⟨ga,gv⟩:=zb5.1 hb;refine zb5.2 ⟨zcG fa ga,?_⟩;have key:∀(f' acc:Fl),f'.sz≤n→f'.av→acc.av→(jC f' g acc).av:=by
     intro f' acc hs ho hacc
     induction f' using Fl.rec (motive_1:=fun _=>True) with
     | nil=>simpa [jC] using hacc
     | cons s m k r _ ih =>
      simp only [Fl.sz] at hs
      have ih:=ih (by omega) ho.2.2
      simp only [jC]
      rcases hg:g.find s with _|⟨m',k'⟩
      ·exact zkx _ _ _ ho.1 ho.2.1 _ ih
      ·exact zkx _ _ _ ho.1 (zay n k k' (by omega) ho.2.1 (zdY gv hg)) _ ih
     | _=>trivial
    exact key f _ (by omega) fv (ziB f g gv)
   ·rw [e];exact h48
theorem zeE{a:Kd}(ha:a.ok):zm a a=a:=(zpQ ha ha).2 (zaP _ a (Nat.le_refl _) ha)
abbrev Kfd:=ByteArray × Bool × Kd
def Fl.list:Fl→List Kfd
 | .nil => []
 | .cons s m k r=>(s,m,k):: r.list
theorem zhz{f:Fl}:∀x:ByteArray,f.ascFrom x→(∀y∈f.list,zO x y.1<0)∧f.list.Pairwise fun a b=>zO a.1 b.1<0:=by
 induction f using Fl.rec (motive_1:=fun _=>True) with
 | nil=>intro x _;exact⟨(fun _ hy=>nomatch hy),List.Pairwise.nil⟩
 | cons s m k r _ ih =>
  intro x h
  obtain⟨h1,h2⟩:=ih s h.2
  refine⟨fun y hy=>?_,List.Pairwise.cons h1 h2⟩
  rcases List.mem_cons.1 hy with rfl|hy
  ·exact h.1
  ·exact zt.lt_le h.1 (by have:=h1 y hy;omega)
 | _=>trivial
theorem zfu{f:Fl}(h:f.asc):f.list.Pairwise fun a b=>zO a.1 b.1<0:=by
 cases f with
 | nil=>exact List.Pairwise.nil
 | cons s m k r =>
  obtain⟨h1,h2⟩:=zhz s h
  exact List.Pairwise.cons h1 h2
theorem zaX{f:Fl}(h:f.asc){s:ByteArray}{m:Bool}{k:Kd}:f.find s=some (m,k)↔(s,m,k)∈f.list:=by
 induction f using Fl.rec (motive_1:=fun _=>True) with
 | nil=>simp [Fl.find,Fl.list]
 | cons t m' k' r _ ih =>
  have ih:=ih (zaC h)
  simp only [Fl.find,Fl.list,List.mem_cons,Prod.mk.injEq]
  by_cases e:t=s
  ·subst e
   rw [if_pos rfl];simp only [Option.some.injEq,Prod.mk.injEq,true_and];constructor
   ·rintro ⟨rfl,rfl⟩;exact .inl ⟨rfl,rfl⟩
   ·rintro (⟨rfl,rfl⟩|hm)
    ·exact⟨rfl,rfl⟩
    ·have:=(zhz t h).1 _ hm;rw [zt.self] at this;omega
  ·rw [if_neg e,ih]
   exact⟨.inr,fun h=>h.resolve_left (fun q=>e q.1.symm)⟩
 | _=>trivial
theorem zeu{f:Fl}{s:ByteArray}:f.find s=none↔∀y∈f.list,y.1≠s:=by
 induction f using Fl.rec (motive_1:=fun _=>True) with
 | nil=>simp [Fl.find,Fl.list]
 | cons t m' k' r _ ih =>
  simp only [Fl.find,Fl.list,List.mem_cons]
  by_cases e:t=s
  ·subst e
   rw [if_pos rfl];exact⟨fun h=>(nomatch h),fun h=>absurd rfl (h (t,m',k') (.inl rfl))⟩
  ·rw [if_neg e,ih]
   constructor
   ·rintro h y (rfl|hy)
    ·exact e
    ·exact h y hy
   ·exact fun h y hy=>h y (.inr hy)
 | _=>trivial
structure zgB(L:List Kfd)(s:ByteArray)(lo hi:Nat):Prop where
 le:lo≤hi
 hi_:hi≤L.length
 low:∀i (h:i<L.length),i<lo→zO L[i].1 s<0
 high:∀i (h:i<L.length),hi≤i→¬zO L[i].1 s<0
theorem zgB.start(L:List Kfd)(s:ByteArray):zgB L s 0 L.length:=⟨Nat.zero_le _,Nat.le_refl _,fun i _ h=>by omega,fun i h h2=>by omega⟩
theorem zgB.up{L:List Kfd}{s:ByteArray}{lo hi m:Nat}(h:zgB L s lo hi)(hp:L.Pairwise fun a b=>zO a.1 b.1<0)(h1:lo≤m)(h2:m<hi)(hm:m<L.length)(hl:zO L[m].1 s<0):zgB L s (m+1) hi :=
 ⟨by omega,h.hi_,fun i hi' hlt=>by
  rcases Nat.lt_or_ge i m with q|q
  ·have:=List.pairwise_iff_getElem.1 hp i m hi' hm q
   exact zt.lt_le this (by omega)
  ·have:i=m:=by omega
   subst this;exact hl,h.high⟩
theorem zgB.down{L:List Kfd}{s:ByteArray}{lo hi m:Nat}(h:zgB L s lo hi)(hp:L.Pairwise fun a b=>zO a.1 b.1<0)(h1:lo≤m)(h2:m<hi)(hm:m<L.length)(hl:¬zO L[m].1 s<0):zgB L s lo m :=
 ⟨h1,by omega,h.low,fun i hi' hge=>by
  rcases Nat.lt_or_ge m i with q|q
  ·have:=List.pairwise_iff_getElem.1 hp m i hm hi' q
   intro hc
   exact hl (zt.lt_le this (by omega))
  ·have:i=m:=by omega
   subst this;exact hl⟩
theorem zgB.found{L:List Kfd}{s:ByteArray}{lo:Nat}(h:zgB L s lo lo)(hp:L.Pairwise fun a b=>zO a.1 b.1<0):(∀(hl:lo<L.length),L[lo].1=s→L[lo]∈L)∧((∀(hl:lo<L.length),L[lo].1≠s)→∀y∈L,y.1≠s):=by
 refine⟨fun hl _=>List.getElem_mem hl,fun hno y hy e=>?_⟩;obtain⟨i,hi,rfl⟩:=List.getElem_of_mem hy;rcases Nat.lt_trichotomy i lo with q|q|q
 ·have:=h.low i hi q;rw [e,zt.self] at this;omega
 ·subst q;exact hno hi e
 ·have h1:=List.pairwise_iff_getElem.1 hp lo i (by omega) hi q;have h2:=h.high lo (by omega) (Nat.le_refl _);rw [e] at h1;exact h2 h1
end Go.Wk
