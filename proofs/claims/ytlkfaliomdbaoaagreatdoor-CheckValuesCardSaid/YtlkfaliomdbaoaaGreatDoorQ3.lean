/-
  Plain: how great the least above two is; the fields as they come out of join's loops, and sorted. No program in sight. Plain: the parts of sets and records; ..
-/
import Derived.Test.YtlkfaliomdbaoaaGreatDoorQ1
import Derived.Test.YtlkfaliomdbaoaaGreatDoorQ2
set_option maxRecDepth 100000
namespace Go.Wk
def zbz:Fl→Fl→Nat
 | .nil,_=>0
 | .cons s _ _ r,g=>(match g.find s with|none=>0|some (_,k)=>k.sz)+zbz r g
theorem zh9(s:ByteArray)(m:Bool)(k:Kd):∀f:Fl,(zbV s m k f).sz=f.sz+k.sz+1
 | .nil=>by simp [zbV,Fl.sz]
 | .cons t m' k' r=>by
  simp only [zbV];split
  ·simp only [Fl.sz];omega
  ·simp only [Fl.sz,zh9 s m k r];omega
theorem zjV:∀f:Fl,zbz f .nil=0
 | .nil=>rfl
 | .cons s m k r=>by simp [zbz,Fl.find,zjV r]
theorem zhO(t:ByteArray)(m:Bool)(k:Kd)(r:Fl):∀f:Fl,f.asc→zbz f (.cons t m k r)≤zbz f r+(if(f.find t).isSome then k.sz else 0)
 | .nil,_=>by simp [zbz]
 | .cons s m' k' f,h=>by
  have ih:=zhO t m k r f (jQ h);by_cases e:s=t
  ·subst e;have hn:f.find s=none:=zeA h;rw [hn] at ih;simp only [zbz,Fl.find,if_true,Option.isSome_some];simp only [Option.isSome_none,Bool.false_eq_true,if_false] at ih;omega
  ·have e2:¬t=s:=fun q=>e q.symm;simp only [zbz,Fl.find,if_neg e,if_neg e2];omega
theorem zhP(f:Fl)(hf:f.asc):∀g:Fl,(jG g f).sz+zbz f g≤g.sz
 | .nil=>by simp [jG,Fl.sz,zjV]
 | .cons t m k r=>by
  have ih:=zhP f hf r;have h:=zhO t m k r f hf;simp only [jG,Fl.sz];split
  ·rename_i hs;rw [if_pos hs] at h;omega
  ·rename_i hs;rw [if_neg hs] at h;simp only [Fl.sz];omega
theorem zmZ(k:Kd):1≤k.sz:=by cases k <;> simp [Kd.sz]
theorem zlu:∀n:Nat,(∀a b:Kd,a.sz≤n→a.ok→b.ok→(zl a b).sz≤a.sz+b.sz)∧(∀f g acc:Fl,f.sz≤n→f.asc→f.ok→g.ok→(jA f g acc).sz≤f.sz+acc.sz+zbz f g)
 | 0=>by
  refine⟨fun a b h=>by cases a <;> simp [Kd.sz] at h,fun f g acc h _ _ _=>?_⟩
  cases f with
  | nil=>simp [jA,Fl.sz,zbz]
  | cons s m k r=>simp [Fl.sz] at h
 | n+1=>by
  obtain⟨ihK,ihF⟩:=zlu n;refine⟨fun a b h ha hb=>?_,fun f g acc h hf hok hg=>?_⟩
  ·have hpa:=zmZ a;by_cases h1:b = .base 48
   ·rw [zbm h1];simp only [Kd.sz];omega
   by_cases h2:b = .base 49
   ·rw [zaU h2];omega
   have hp:=zmZ b
   cases a with
   | base x =>
    rw [zbd h1 h2]
    split
    ·omega
    ·split <;> simp only [Kd.sz] <;> omega
   | ent s =>
    rw [zb6 h1 h2]
    split <;> simp only [Kd.sz] <;> omega
   | set p =>
    simp only [Kd.sz] at h
    rcases zbl (p:=p) h1 h2 with ⟨q,rfl,e⟩|⟨-,e⟩
    ·rw [e]
     have:=ihK p q (by omega) ha hb;simp only [Kd.sz];omega
    ·rw [e];simp only [Kd.sz];omega
   | fs f =>
    simp only [Kd.sz] at h
    rcases zcj (f:=f) h1 h2 with ⟨g,rfl,e⟩|⟨-,e⟩
    ·rw [e]
     have:=ihF f g (jG g f) (by omega) ha.1 ha.2 hb.2;have:=zhP f ha.1 g;simp only [Kd.sz];omega
    ·rw [e];simp only [Kd.sz];omega
  ·cases f with
   | nil=>simp only [jA,Fl.sz,zbz];omega
   | cons s m k r =>
    simp only [Fl.sz] at h
    have ih:=ihF r g acc (by omega) (jQ hf) hok.2 hg
    rcases hs:g.find s with _|⟨m',k'⟩
    ·simp only [jA,hs,zbz,zh9,Fl.sz];omega
    ·have:=ihK k k' (by omega) hok.1 (jD hg hs)
     simp only [jA,hs,zbz,zh9,Fl.sz];omega
theorem zjW{a b:Kd}(ha:a.ok)(hb:b.ok):(zl a b).sz≤a.sz+b.sz:=(zlu _).1 a b (Nat.le_refl _) ha hb
def ofL:List Kfd→Fl
 | [] => .nil
 | y :: r => .cons y.1 y.2.1 y.2.2 (ofL r)
theorem zd2:∀L:List Kfd,(ofL L).list=L
 | []=>rfl
 | y :: r=>by simp [ofL,Fl.list,zd2 r]
theorem zhe:∀f:Fl,ofL f.list=f
 | .nil=>rfl
 | .cons s m k r=>by simp [Fl.list,ofL,zhe r]
theorem ziK:∀L:List Kfd,(L.Pairwise fun a b=>je a.1 b.1<0)→(ofL L).asc∧∀x,(∀y∈L,je x y.1<0)→(ofL L).ascFrom x
 | [],_=>⟨trivial,fun _ _=>trivial⟩
 | y :: r,h=>by
  rw [List.pairwise_cons] at h;obtain⟨h1,h2⟩:=h;obtain⟨-,ih⟩:=ziK r h2;exact⟨ih y.1 h1,fun x hx=>⟨hx y (by simp),ih y.1 h1⟩⟩
def zil(L:List Kfd)(f:Fl):Fl:=ofL (L ++ f.list)
theorem znr(f:Fl):zil [] f=f:=by unfold zil;rw [List.nil_append,zhe]
theorem zl7(L:List Kfd)(s:ByteArray)(b:Bool)(k:Kd)(f:Fl):zil (L ++ [(s,b,k)]) f=zil L (.cons s b k f):=by
 unfold zil;rw [List.append_assoc];rfl
theorem zmW(L:List Kfd):zil L .nil=ofL L:=by unfold zil;rw [Fl.list,List.append_nil]
def zcR(g:Fl)(y:Kfd):Kfd:=match g.find y.1 with
 | none=>(y.1,false,y.2.2)
 | some (m',k')=>(y.1,y.2.1 && m',zl y.2.2 k')
def zjC(f g:Fl):List Kfd:=f.list.map (zcR g)++(g.list.filter fun y=>(f.find y.1).isNone).map fun y=>(y.1,false,y.2.2)
theorem zdg(g:Fl)(y:Kfd):(zcR g y).1=y.1:=by unfold zcR;split <;> rfl
theorem zi8{f g:Fl}(hf:f.asc)(hg:g.asc)(s:ByteArray)(m:Bool)(k:Kd):(s,m,k)∈zjC f g↔(jA f g (jG g f)).find s=some (m,k):=by
 rw [zaX hf];unfold zjC;rw [List.mem_append,List.mem_map,List.mem_map];constructor
 ·rintro (⟨⟨s',m',k'⟩,h1,h2⟩|⟨⟨s',m',k'⟩,h1,h2⟩)
  ·have h3:=(zaj hf).2 h1;have hs:s'=s:=by have:=zdg g (s',m',k');rw [h2] at this;exact this.symm
   subst hs;rw [h3];unfold zcR at h2;simp only at h2;rcases hg2:g.find s' with _|⟨m2,k2⟩
   ·rw [hg2] at h2;simp only [Prod.mk.injEq,true_and] at h2;simp [jn,h2]
   ·rw [hg2] at h2;simp only [Prod.mk.injEq,true_and] at h2;simp [jn,h2]
  ·rw [List.mem_filter] at h1;obtain⟨h1,h4⟩:=h1;have h3:=(zaj hg).2 h1;simp only [Prod.mk.injEq] at h2;obtain⟨rfl,rfl,rfl⟩:=h2;simp only [Option.isNone_iff_eq_none] at h4;rw [h3,h4];rfl
 ·intro h;rcases hf2:f.find s with _|⟨m1,k1⟩
  ·rcases hg2:g.find s with _|⟨m2,k2⟩
   ·rw [hf2,hg2] at h;cases h
   ·rw [hf2,hg2] at h;simp only [jn,Option.some.injEq,Prod.mk.injEq] at h;refine .inr ⟨(s,m2,k2),List.mem_filter.2 ⟨(zaj hg).1 hg2,by simp [hf2]⟩,by simp [h]⟩
  ·refine .inl ⟨(s,m1,k1),(zaj hf).1 hf2,?_⟩;unfold zcR;simp only;rcases hg2:g.find s with _|⟨m2,k2⟩
   ·rw [hf2,hg2] at h;simp only [jn,Option.some.injEq,Prod.mk.injEq] at h;simp [h]
   ·rw [hf2,hg2] at h;simp only [jn,Option.some.injEq,Prod.mk.injEq] at h;simp [h]
theorem zpf{f g:Fl}:(zjC f g).length≤f.len+g.len:=by
 unfold zjC;rw [List.length_append,List.length_map,List.length_map];have h:=List.length_filter_le (fun y:Kfd=>(f.find y.1).isNone) g.list;have h1:∀x:Fl,x.list.length=x.len:=fun x=>by
  induction x using Fl.rec (motive_1:=fun _=>True) with
  | nil=>rfl
  | cons s m k r _ ih=>simp [Fl.len,Fl.list,ih]
  | _=>trivial
 have e1:=h1 f;have e2:=h1 g;omega
theorem zjB{f g:Fl}(hf:f.asc)(hg:g.asc){L:List Kfd}(hp:L.Perm (zjC f g))(hs:L.Pairwise fun a b=>je a.1 b.1≤0):ofL L=jA f g (jG g f):=by
 have hnd:L.Pairwise fun a b=>je a.1 b.1<0:=by
  have hn:(zjC f g).Pairwise fun a b=>a.1≠b.1:=by
   unfold zjC;rw [List.pairwise_append];refine⟨?_,?_,?_⟩
   ·rw [List.pairwise_map];refine(zga hf).imp fun {a b} h e=>?_;rw [zdg,zdg] at e;rw [e,zo.self] at h;omega
   ·rw [List.pairwise_map];refine((zga hg).filter _).imp fun {a b} h e=>?_;simp only at e;rw [e,zo.self] at h;omega
   ·intro a ha b hb e;rw [List.mem_map] at ha hb;obtain⟨x,hx,rfl⟩:=ha;obtain⟨y,hy,rfl⟩:=hb;rw [zdg] at e;simp only at e;rw [List.mem_filter] at hy;have h1:f.find y.1=none:=by simpa using hy.2
    have h2:=(zaj hf (s:=x.1) (m:=x.2.1) (k:=x.2.2)).2 hx;rw [e,h1] at h2;cases h2
  have hnL:L.Pairwise fun a b=>a.1≠b.1:=hp.symm.pairwise hn (fun {a b} h=>fun e=>h e.symm);refine(List.Pairwise.and hs hnL).imp fun {a b} ⟨h1,h2⟩=>?_;have:je a.1 b.1≠0:=fun e=>h2 ((zo.zero _ _).1 e);omega
 have ho:=(ziK L hnd).1;refine zkk _ _ ho (zcM hf hg) fun s=>?_;rcases h:(jA f g (jG g f)).find s with _|⟨m,k⟩
 ·rw [zhI,zd2];intro y hy e;have h2:=(zi8 hf hg y.1 y.2.1 y.2.2).1 (hp.mem_iff.1 hy);rw [e,h] at h2;cases h2
 ·rw [zaj ho,zd2];exact hp.mem_iff.2 ((zi8 hf hg s m k).2 h)
def zk6(f:Nat→Option Nat):Prop:=∀p e,f p=some e→p<e
theorem jC(v:List Nd)(m:Nat):zk6 (zh v m):=fun p e h=>(jw m p e h).1
theorem zgv{v:List Nd}{f:Nat→Option Nat}(hf:zk6 f):∀k last p e,zI v f k last p=some e→p≤e:=by
 intro k
 induction k with
 | zero=>intro last p e h;simp only [zI,Option.some.injEq] at h;omega
 | succ k ih =>
  intro last p e h
  simp only [zI] at h
  split at h
  ·cases h
  ·rename_i q hq
   have:=hf p q hq;split at h
   ·have:=ih _ _ _ h;omega
   ·cases h
theorem zge{v:List Nd}{f:Nat→Option Nat}(hf:zk6 f):∀k last p e,zH v f k last p=some e→p≤e:=by
 intro k
 induction k with
 | zero=>intro last p e h;simp only [zH,Option.some.injEq] at h;omega
 | succ k ih =>
  intro last p e h
  simp only [zH] at h
  split at h
  ·cases h
  ·split at h
   ·cases h
   ·rename_i q hq;have:=hf _ q hq;have:=ih _ _ _ h;omega
def zc5(u v:List Nd)(a b L:Nat):Prop:=∀k,k<L→u[a+k]?=v[b+k]?
theorem zc5.symm{u v:List Nd}{a b L:Nat}(h:zc5 u v a b L):zc5 v u b a L:=fun k hk=>(h k hk).symm
theorem zc5.seg{u v:List Nd}{a b L:Nat}(h:zc5 u v a b L){i j:Nat}(hj:j≤L):seg u (a+i) (a+j)=seg v (b+i) (b+j):=by
 unfold Wk.seg;apply List.ext_getElem?;intro k;rw [List.getElem?_take,List.getElem?_take,show a+j-(a+i)=j-i by omega,show b+j-(b+i)=j-i by omega];by_cases hk:k<j-i
 ·rw [if_pos hk,if_pos hk,List.getElem?_drop,List.getElem?_drop,Nat.add_assoc,Nat.add_assoc];exact h (i+k) (by omega)
 ·rw [if_neg hk,if_neg hk]
section
variable {u v:List Nd} {a b L:Nat}
theorem zet(h:zc5 u v a b L){f g:Nat→Option Nat}(hf:zk6 f)(hg:∀p e,f (a+p)=some (a+e)→e≤L→g (b+p)=some (b+e)):
 ∀k (lo:Option Nat) p e,(∀l,lo=some l→l≤p)→zI u f k (lo.map (a+·)) (a+p)=some (a+e)→e≤L→zI v g k (lo.map (b+·)) (b+p)=some (b+e):=by
 intro k
 induction k with
 | zero=>intro lo p e _ h1 h2;simp only [zI,Option.some.injEq] at h1 ⊢;omega
 | succ k ih =>
  intro lo p e hlo h1 h2
  simp only [zI] at h1 ⊢
  split at h1
  ·cases h1
  ·rename_i q hq
   have hlt:=hf _ _ hq;obtain⟨s,rfl⟩:∃s,q=a+s:=⟨q-a,by omega⟩
   split at h1
   ·rename_i hr;have hge:=zgv hf _ _ _ _ h1;have hs:s≤L:=by omega
    rw [hg p s hq hs];simp only;have hr':zhJ v (lo.map (b+·)) (b+p) (b+s)=true:=by
     rw [←hr];rcases lo with _|l
     ·rfl
     ·have:=hlo l rfl;simp only [Option.map_some,zhJ];rw [h.seg (i:=l) (j:=p) (by omega),h.seg (i:=p) (j:=s) hs]
    rw [if_pos hr'];exact ih (some p) s e (fun l hl=>by cases hl;omega) h1 h2
   ·cases h1
theorem zh3(h:zc5 u v a b L){last:ByteArray}{p:Nat}(hp:p<L):jF u last (a+p)=jF v last (b+p):=by
 unfold jF;rw [h p hp]
theorem zed(h:zc5 u v a b L){f g:Nat→Option Nat}(hf:zk6 f)(hg:∀p e,f (a+p)=some (a+e)→e≤L→g (b+p)=some (b+e)):
 ∀k (last:ByteArray) p e,zH u f k last (a+p)=some (a+e)→e≤L→zH v g k last (b+p)=some (b+e):=by
 intro k
 induction k with
 | zero=>intro last p e h1 h2;simp only [zH,Option.some.injEq] at h1 ⊢;omega
 | succ k ih =>
  intro last p e h1 h2
  simp only [zH] at h1 ⊢
  split at h1
  ·cases h1
  ·rename_i s hs
   split at h1
   ·cases h1
   ·rename_i q hq;have hlt:=hf _ _ hq;obtain⟨r,rfl⟩:∃r,q=a+r:=⟨q-a,by omega⟩
    have hge:=zge hf _ _ _ _ h1;rw [←zh3 h (by omega:p<L),hs];have:=hg (p+1) r (by rw [←Nat.add_assoc];exact hq) (by omega);rw [←Nat.add_assoc] at this;simp only [this];exact ih s r e h1 h2
theorem zim(h:zc5 u v a b L):∀m p e,zh u m (a+p)=some (a+e)→e≤L→zh v m (b+p)=some (b+e):=by
 intro m
 induction m with
 | zero=>intro p e h1 _;cases h1
 | succ m ih =>
  intro p e h1 h2
  have hlt:=(jw _ _ _ h1).1
  have hp:=h p (by omega)
  simp only [zh] at h1 ⊢
  rw [←hp]
  split at h1
  ·cases h1
  ·rename_i x hx
   split at h1
   ·rename_i hs;simp only [hs,if_true];split at h1
    ·rename_i h5;rw [if_pos h5];have:=zet h (jC u m) ih x.n.toNat none (p+1) e (fun l hl=>by cases hl) (by rw [←Nat.add_assoc];exact h1) h2;rw [←Nat.add_assoc] at this;exact this
    ·rename_i h5;rw [if_neg h5];split at h1
     ·rename_i h6;rw [if_pos h6];have:=zed h (jC u m) ih x.n.toNat .empty (p+1) e (by rw [←Nat.add_assoc];exact h1) h2;rw [←Nat.add_assoc] at this;exact this
     ·rename_i h6;rw [if_neg h6];split at h1
      ·cases h1
      ·rename_i h7;rw [if_neg h7];simp only [Option.some.injEq] at h1 ⊢;omega
   ·cases h1
end
theorem zcx{v:List Nd}{f g:Nat→Option Nat}(hf:zk6 f){q0:Nat}(h:∀r,q0≤r→f r=g r):∀k lo q,q0≤q→zI v f k lo q=zI v g k lo q:=by
 intro k
 induction k with
 | zero=>intro lo q _;rfl
 | succ k ih =>
  intro lo q hq
  simp only [zI]
  rw [←h q hq]
  split
  ·rfl
  ·rename_i e he
   have:=hf _ _ he;rw [ih _ e (by omega)]
theorem zcz{v:List Nd}{f g:Nat→Option Nat}(hf:zk6 f){q0:Nat}(h:∀r,q0≤r→f r=g r):∀k lo q,q0≤q→zH v f k lo q=zH v g k lo q:=by
 intro k
 induction k with
 | zero=>intro lo q _;rfl
 | succ k ih =>
  intro lo q hq
  simp only [zH]
  split
  ·rfl
  ·rw [←h (q+1) (by omega)]
   split
   ·rfl
   ·rename_i e he;have:=hf _ _ he;rw [ih _ e (by omega)]
theorem zaF{v:List Nd}:∀m m' p,v.length-p<m→v.length-p<m'→zh v m p=zh v m' p:=by
 intro m
 induction m with
 | zero=>intro m' p h;omega
 | succ m ih =>
  intro m' p h1 h2
  obtain⟨k,rfl⟩:∃k,m'=k+1:=⟨m'-1,by omega⟩
  simp only [zh]
  by_cases hp:p<v.length
  ·rw [List.getElem?_eq_getElem hp]
   simp only;have hs:=zcx (v:=v) (jC v m) (q0:=p+1) (fun r hr=>ih k r (by omega) (by omega));have hr:=zcz (v:=v) (jC v m) (q0:=p+1) (fun r hr=>ih k r (by omega) (by omega));rw [hs _ _ _ (Nat.le_refl _),hr _ _ _ (Nat.le_refl _)]
  ·rw [List.getElem?_eq_none (by omega)]
def IsV(P:List Nd):Prop:=zh P (P.length+1) 0=some P.length
theorem zbf{P:List Nd}:zD P=0↔P.length≤200∧IsV P:=by
 unfold zD IsV;by_cases h:200<P.length
 ·rw [if_pos h];omega
 ·rw [if_neg h];by_cases hv:zh P (P.length+1) 0=some P.length
  ·rw [if_pos hv];exact⟨fun _=>⟨by omega,hv⟩,fun _=>rfl⟩
  ·rw [if_neg hv];exact⟨fun q=>by omega,fun q=>absurd q.2 hv⟩
theorem IsV.pos{P:List Nd}(h:IsV P):0<P.length:=(jw _ _ _ h).1
theorem zpy{v:List Nd}{p e k:Nat}(hk:k<e-p):(seg v p e)[k]?=v[p+k]?:=by
 unfold seg;rw [List.getElem?_take,if_pos hk,List.getElem?_drop]
theorem zgL(v:List Nd):zc5 v v 0 0 v.length:=fun _ _=>rfl
theorem ziy{v:List Nd}:∀m m' p e,m≤m'→zh v m p=some e→zh v m' p=some e:=by
 intro m
 induction m with
 | zero=>intro m' p e _ h;cases h
 | succ m ih =>
  intro m' p e hm h
  have hle:=(jw _ _ _ h).2
  obtain⟨k,rfl⟩:∃k,m'=k+1:=⟨m'-1,by omega⟩
  have ihk:∀p e,zh v m (0+p)=some (0+e)→e≤v.length→zh v k (0+p)=some (0+e):=fun p e h _=>by
   simp only [Nat.zero_add] at h ⊢;exact ih k p e (by omega) h
  have hS:=zet (zgL v) (jC v m) ihk
  have hR:=zed (zgL v) (jC v m) ihk
  simp only [Nat.zero_add] at hS hR
  rcases hx:v[p]? with _|x
  ·simp only [zh,hx] at h;cases h
  ·simp only [zh,hx] at h ⊢
   by_cases hs:zp x=true
   ·rw [if_pos hs] at h ⊢;by_cases h5:x.op=5
    ·rw [if_pos h5] at h ⊢;have:=hS x.n.toNat none (p+1) e (fun l hl=>by cases hl) h hle;exact this
    ·rw [if_neg h5] at h ⊢;by_cases h6:x.op=6
     ·rw [if_pos h6] at h ⊢;exact hR _ _ _ _ h hle
     ·rw [if_neg h6] at h ⊢;exact h
   ·rw [if_neg hs] at h;cases h
theorem zlN{v:List Nd}{m p e:Nat}(h:zh v m p=some e):IsV (seg v p e):=by
 have hle:=jw _ _ _ h;have hl:(seg v p e).length=e-p:=zaQ hle.2;have hA:zc5 v (seg v p e) p 0 (e-p):=fun k hk=>by rw [Nat.zero_add,zpy hk]
 have:=zim hA m 0 (e-p) (by rw [Nat.add_zero,h];congr 1;omega) (Nat.le_refl _);unfold IsV;rw [hl];have h2:zh (seg v p e) m 0=some (e-p):=by simpa using this
 have h3:=ziy m (m+(e-p)+1) 0 (e-p) (by omega) h2;rw [←h3];exact zaF _ _ _ (by omega) (by omega)
theorem zeU{s:ByteArray}(h:noB s=true):s=⟨#[]⟩:=by
 unfold noB at h;exact zah (List.eq_nil_of_length_eq_zero (by rw [Array.length_toList];exact of_decide_eq_true h))
def zam(v:List Nd)(f:Nat→Option Nat):Nat→Nat→List (List Nd)
 | 0,_ => []
 | k+1,p =>
  match f p with
  | none => []
  | some e=>seg v p e :: zam v f k e
def zoO(v:List Nd)(p:Nat):ByteArray :=
 match v[p]? with
 | none => .empty
 | some x=>x.s
def zan(v:List Nd)(f:Nat→Option Nat):Nat→Nat→List (ByteArray × List Nd)
 | 0,_ => []
 | k+1,p =>
  match f (p+1) with
  | none => []
  | some e=>(zoO v p,seg v (p+1) e):: zan v f k e
def ze3:List Nd→Nat
 | []=>0
 | x :: _=>x.n.toNat
def zk:List Nd→Int
 | []=>0
 | x :: _=>x.op
def zm(P:List Nd):List (List Nd):=zam P (zh P (P.length+1)) (ze3 P) 1
def zi(P:List Nd):List (ByteArray × List Nd):=zan P (zh P (P.length+1)) (ze3 P) 1
def Up:List (List Nd)→Prop
 | []=>True
 | [_]=>True
 | a :: b :: r=>z8 a b<0∧Up (b :: r)
def zof(o:Option (List Nd))(l:List (List Nd)):Prop:=match o with|none=>Up l|some a=>Up (a :: l)
def zcS(s:ByteArray):Nd:=⟨7,0,s,⟨#[]⟩⟩
def zaw:List (ByteArray × List Nd)→List Nd
 | [] => []
 | x :: r=>zcS x.1 ::(x.2 ++ zaw r)
def UpB(last:ByteArray):List (ByteArray × List Nd)→Prop
 | []=>True
 | x :: r=>je last x.1<0∧UpB x.1 r
theorem zjy{v:List Nd}{p q e:Nat}(h1:p≤q)(h2:q≤e):seg v p q ++ seg v q e=seg v p e:=by
 unfold seg;rw [show e-p=(q-p)+(e-q) by omega,List.take_add,List.drop_drop,show p+(q-p)=q by omega]
theorem zjD(v:List Nd)(p:Nat):seg v p p = []:=by unfold seg;simp
theorem znH{v:List Nd}{p e:Nat}(h:p<v.length)(h2:p<e):seg v p e=v[p] :: seg v (p+1) e:=by
 unfold seg;rw [List.drop_eq_getElem_cons h,show e-p=(e-(p+1))+1 by omega,List.take_succ_cons]
theorem zlS(v:List Nd)(p:Nat):seg v p v.length=v.drop p:=by
 unfold seg;rw [List.take_of_length_le (by simp)]
theorem zht{v:List Nd}{m:Nat}:∀k lo p e,(∀l,lo=some l→l≤p)→p≤v.length→zI v (zh v m) k lo p=some e→
 (zam v (zh v m) k p).length=k∧(zam v (zh v m) k p).flatten=seg v p e∧(∀Q∈zam v (zh v m) k p,IsV Q)∧zof (lo.map fun l=>seg v l p) (zam v (zh v m) k p):=by
 intro k
 induction k with
 | zero =>
  intro lo p e _ _ h
  simp only [zI,Option.some.injEq] at h
  subst h
  refine⟨rfl,by rw [zjD];rfl,(fun Q h=>by cases h),?_⟩
  rcases lo with _|l <;> trivial
 | succ k ih =>
  intro lo p e hlo hp h
  simp only [zI] at h
  simp only [zam]
  split at h
  ·cases h
  ·rename_i q hq
   have hle:=jw _ _ _ hq;split at h
   ·rename_i hr;obtain⟨h1,h2,h3,h4⟩:=ih (some p) q e (fun l hl=>by cases hl;omega) hle.2 h;have hge:=zgv (jC v m) _ _ _ _ h;(try rw [hq]);refine⟨by simp [h1],?_,?_,?_⟩
    ·rw [List.flatten_cons,h2,zjy (by omega) hge]
    ·intro Q hQ;rcases List.mem_cons.1 hQ with rfl|hQ
     ·exact zlN hq
     ·exact h3 Q hQ
    ·simp only [Option.map_some,zof] at h4;rcases lo with _|l
     ·exact h4
     ·simp only [zhJ,decide_eq_true_eq] at hr;exact⟨hr,h4⟩
   ·cases h
theorem zhv{v:List Nd}{m:Nat}:∀k last p e,p≤v.length→zH v (zh v m) k last p=some e→
 (zan v (zh v m) k p).length=k∧zaw (zan v (zh v m) k p)=seg v p e∧(∀x∈zan v (zh v m) k p,IsV x.2∧zf x.1=0)∧UpB last (zan v (zh v m) k p):=by
 intro k
 induction k with
 | zero =>
  intro last p e _ h
  simp only [zH,Option.some.injEq] at h
  subst h
  exact⟨rfl,by rw [zjD];rfl,(fun Q h=>by cases h),trivial⟩
 | succ k ih =>
  intro last p e hp h
  simp only [zH] at h
  simp only [zan]
  split at h
  ·cases h
  ·rename_i s hs
   split at h
   ·cases h
   ·rename_i q hq;have hle:=jw _ _ _ hq;obtain⟨h1,h2,h3,h4⟩:=ih s q e hle.2 h;have hge:=zge (jC v m) _ _ _ _ h;unfold jF at hs;split at hs
    ·cases hs
    ·rename_i x hx;split at hs
     ·rename_i hc;simp only [Option.some.injEq] at hs;subst hs;simp only [Bool.and_eq_true,decide_eq_true_eq] at hc;obtain⟨⟨c1,c2⟩,c3⟩:=hc;have hsh:=c2;unfold zp at hsh;rw [c1] at hsh;simp at hsh;obtain⟨⟨n1,n2⟩,n3⟩:=hsh;have hnm:zoO v p=x.s:=by unfold zoO;rw [hx]
      have hp':p<v.length:=(List.getElem?_eq_some_iff.1 hx).1;have hxe:v[p]=x:=by rw [List.getElem?_eq_getElem hp'] at hx;injection hx
      have hxf:x=zcS x.s:=Nd.ext4 c1 n1 rfl (zeU n2);(try rw [hq]);(try simp only);refine⟨by simp [h1],?_,?_,?_⟩
      ·rw [zaw,h2,hnm,zjy (by omega) hge,znH hp' (by omega),hxe,←hxf]
      ·intro y hy;rcases List.mem_cons.1 hy with rfl|hy
       ·exact⟨zlN hq,by rw [hnm];exact n3⟩
       ·exact h3 y hy
      ·simp only [UpB,hnm];exact⟨c3,h4⟩
     ·cases hs
def za1(n:Int):Nd:=⟨5,n,⟨#[]⟩,⟨#[]⟩⟩
def zaY(n:Int):Nd:=⟨6,n,⟨#[]⟩,⟨#[]⟩⟩
theorem zbA(x:Nd)(r:List Nd):zk (x :: r)=x.op:=rfl
theorem za0{P:List Nd}(h:IsV P)(h5:zk P=5):
 P=za1 (zm P).length ::(zm P).flatten∧(zm P).length=ze3 P∧(∀Q∈zm P,IsV Q)∧Up (zm P):=by
 have hpos:=h.pos;unfold IsV at h;rcases P with _|⟨x,r⟩
 ·simp at hpos
 have h5':x.op=5:=h5;simp only [zh,List.getElem?_cons_zero] at h;by_cases hs:zp x=true
 ·rw [if_pos hs,if_pos h5'] at h;unfold zp at hs;rw [h5'] at hs;simp at hs;have hx:x=za1 x.n:=Nd.ext4 h5' rfl (zeU hs.1.2) (zeU hs.2);have h':zI (x :: r) (zh (x :: r) ((x :: r).length+1)) x.n.toNat none 1=some (x :: r).length:=by
   rw [←h];exact(zcx (jC _ _) (q0:=1) (fun q hq=>zaF _ _ _ (by simp only [List.length_cons];omega) (by simp only [List.length_cons];omega)) _ _ _ (Nat.le_refl _))
  obtain⟨g1,g2,g3,g4⟩:=zht _ none 1 _ (fun l hl=>by cases hl) (by simp) h';have e:zm (x :: r)=zam (x :: r) (zh (x :: r) ((x :: r).length+1)) x.n.toNat 1:=rfl;rw [←e] at g1 g2 g3 g4;refine⟨?_,g1,g3,g4⟩;rw [g2,zlS,g1,Int.toNat_of_nonneg hs.1.1,←hx];rfl
 ·rw [if_neg hs] at h;cases h
theorem zaG{P:List Nd}(h:IsV P)(h6:zk P=6):
 P=zaY (zi P).length :: zaw (zi P)∧(zi P).length=ze3 P∧(∀x∈zi P,IsV x.2∧zf x.1=0)∧UpB .empty (zi P):=by
 have hpos:=h.pos;unfold IsV at h;rcases P with _|⟨x,r⟩
 ·simp at hpos
 have h6':x.op=6:=h6;simp only [zh,List.getElem?_cons_zero] at h;by_cases hs:zp x=true
 ·rw [if_pos hs,if_neg (by omega),if_pos h6'] at h;unfold zp at hs;rw [h6'] at hs;simp at hs;have hx:x=zaY x.n:=Nd.ext4 h6' rfl (zeU hs.1.2) (zeU hs.2);have h':zH (x :: r) (zh (x :: r) ((x :: r).length+1)) x.n.toNat .empty 1=some (x :: r).length:=by
   rw [←h];exact(zcz (jC _ _) (q0:=1) (fun q hq=>zaF _ _ _ (by simp only [List.length_cons];omega) (by simp only [List.length_cons];omega)) _ _ _ (Nat.le_refl _))
  obtain⟨g1,g2,g3,g4⟩:=zhv _ .empty 1 _ (by simp) h';have e:zi (x :: r)=zan (x :: r) (zh (x :: r) ((x :: r).length+1)) x.n.toNat 1:=rfl;rw [←e] at g1 g2 g3 g4;refine⟨?_,g1,g3,g4⟩;rw [g2,zlS,g1,Int.toNat_of_nonneg hs.1.1,←hx];rfl
 ·rw [if_neg hs] at h;cases h
theorem zmX{P:List Nd}(h:IsV P)(h5:zk P=5):zI P (zh P (P.length+1)) (ze3 P) none 1=some P.length∧∃hp:0<P.length,P[0].op=5∧0≤P[0].n∧ze3 P=P[0].n.toNat:=by
 have hpos:=h.pos;unfold IsV at h;rcases P with _|⟨x,r⟩
 ·simp at hpos
 have h5':x.op=5:=h5;simp only [zh,List.getElem?_cons_zero] at h;by_cases hs:zp x=true
 ·rw [if_pos hs,if_pos h5'] at h;unfold zp at hs;rw [h5'] at hs;simp at hs;refine⟨?_,hpos,h5',hs.1.1,rfl⟩;rw [←h];exact(zcx (jC _ _) (q0:=1) (fun q hq=>zaF _ _ _ (by simp only [List.length_cons];omega) (by simp only [List.length_cons];omega)) _ _ _ (Nat.le_refl _))
 ·rw [if_neg hs] at h;cases h
theorem znt{P:List Nd}(h:IsV P)(h6:zk P=6):zH P (zh P (P.length+1)) (ze3 P) .empty 1=some P.length∧∃hp:0<P.length,P[0].op=6∧0≤P[0].n∧ze3 P=P[0].n.toNat:=by
 have hpos:=h.pos;unfold IsV at h;rcases P with _|⟨x,r⟩
 ·simp at hpos
 have h6':x.op=6:=h6;simp only [zh,List.getElem?_cons_zero] at h;by_cases hs:zp x=true
 ·rw [if_pos hs,if_neg (by omega),if_pos h6'] at h;unfold zp at hs;rw [h6'] at hs;simp at hs;refine⟨?_,hpos,h6',hs.1.1,rfl⟩;rw [←h];exact(zcz (jC _ _) (q0:=1) (fun q hq=>zaF _ _ _ (by simp only [List.length_cons];omega) (by simp only [List.length_cons];omega)) _ _ _ (Nat.le_refl _))
 ·rw [if_neg hs] at h;cases h
def zlz:List Nd→ByteArray
 | []=>emp
 | x :: _=>x.s
def zf3(L:List Kd):Kd:=L.foldl zl (.base 49)
def zcJ:Nat→List Nd→Kd
 | 0,_ => .base 49
 | m+1,P =>
  if zk P=1 then .base 41 else if zk P=2 then .base 42 else if zk P=3 then .base 43 else if zk P=4 then .ent (zlz P)
  else if zk P=5 then .set (zf3 ((zm P).map (zcJ m)))
  else .fs (ofL ((zi P).map fun x=>(x.1,true,zcJ m x.2)))
def zK(P:List Nd):Kd:=zcJ (P.length+1) P
theorem zkg{L:List (List Nd)}{Q:List Nd}(h:Q∈L):Q.length≤L.flatten.length:=by
 induction L with
 | nil=>cases h
 | cons a r ih =>
  rw [List.flatten_cons,List.length_append]
  rcases List.mem_cons.1 h with rfl|h
  ·omega
  ·have:=ih h;omega
theorem zgi(L:List (List Nd)):L.flatten.length=(L.map List.length).sum:=by rw [List.length_flatten]
theorem zlV{L:List (ByteArray × List Nd)}{x:ByteArray × List Nd}(h:x∈L):x.2.length<(zaw L).length:=by
 induction L with
 | nil=>cases h
 | cons a r ih =>
  simp only [zaw,List.length_cons,List.length_append]
  rcases List.mem_cons.1 h with rfl|h
  ·omega
  ·have:=ih h;omega
theorem zbL{P:List Nd}(h:IsV P)(h5:zk P=5){Q:List Nd}(hQ:Q∈zm P):Q.length<P.length:=by
 obtain⟨e,-,-,-⟩:=za0 h h5;have:=zkg hQ;rw [e,List.length_cons];omega
theorem zbx{P:List Nd}(h:IsV P)(h6:zk P=6){x:ByteArray × List Nd}(hx:x∈zi P):x.2.length<P.length:=by
 obtain⟨e,-,-,-⟩:=zaG h h6;have:=zlV hx;rw [e,List.length_cons];omega
theorem za2{P:List Nd}(h:IsV P):∃x r,P=x :: r∧zp x=true∧x.op≠7:=by
 have hp:=h.pos;unfold IsV at h;rcases P with _|⟨x,r⟩
 ·simp at hp
 refine⟨x,r,rfl,?_⟩;simp only [zh,List.getElem?_cons_zero] at h;by_cases hs:zp x=true
 ·refine⟨hs,fun h7=>?_⟩;rw [if_pos hs,h7,if_neg (by decide),if_neg (by decide),if_pos rfl] at h;cases h
 ·rw [if_neg hs] at h;cases h
theorem zgz{P:List Nd}(h:IsV P):zk P=1∨zk P=2∨zk P=3∨zk P=4∨zk P=5∨zk P=6:=by
 obtain⟨x,r,rfl,hs,h7⟩:=za2 h;rw [zbA];unfold zp at hs;by_cases h1:x.op=1
 ·omega
 by_cases h2:x.op=2
 ·omega
 by_cases h3:x.op=3
 ·omega
 by_cases h4:x.op=4
 ·omega
 by_cases h56:x.op=5∨x.op=6
 ·omega
 simp [h1,h2,h3,h4,h56,h7] at hs
theorem zo9{P:List Nd}(h:IsV P)(h4:zk P=4):zf (zlz P)=0:=by
 obtain⟨x,r,rfl,hs,h7⟩:=za2 h;rw [zbA] at h4;unfold zp at hs;rw [if_neg (by omega),if_neg (by omega),if_neg (by omega),if_pos h4] at hs;simp only [Bool.and_eq_true,decide_eq_true_eq] at hs;exact hs.1.2
theorem zop{P:List Nd}(h:IsV P)(h5:zk P≠5)(h6:zk P≠6):P.length=1:=by
 obtain⟨x,r,rfl,hs,h7⟩:=za2 h;rw [zbA] at h5 h6;unfold IsV at h;simp only [zh,List.getElem?_cons_zero] at h;rw [if_pos hs,if_neg h5,if_neg h6,if_neg h7] at h;simpa using h.symm
theorem zc6:∀(m m':Nat) (P:List Nd),IsV P→P.length<m→P.length<m'→zcJ m P=zcJ m' P
 | 0,_,_,_,h,_=>by omega
 | _+1,0,_,_,_,h=>by omega
 | m+1,m'+1,P,hP,h,h'=>by
  have h6:=zgz hP;unfold zcJ;by_cases h5:zk P=5
  ·have:(zm P).map (zcJ m)=(zm P).map (zcJ m'):=List.map_congr_left fun Q hQ=>by
    have:=zbL hP h5 hQ;exact zc6 m m' Q ((za0 hP h5).2.2.1 Q hQ) (by omega) (by omega)
   simp [h5,this]
  ·by_cases h66:zk P=6
   ·have:((zi P).map fun x=>(x.1,true,zcJ m x.2))=((zi P).map fun x=>(x.1,true,zcJ m' x.2)):=List.map_congr_left fun x hx=>by
     have:=zbx hP h66 hx;rw [zc6 m m' x.2 ((zaG hP h66).2.2.1 x hx).1 (by omega) (by omega)]
    simp [h66,this]
   ·split
    ·rfl
    ·split
     ·rfl
     ·split
      ·rfl
      ·split
       ·rfl
       ·omega
theorem zij{P:List Nd}(h:zk P=1):zK P = .base 41:=by unfold zK zcJ;simp [h]
theorem zh5{P:List Nd}(h:zk P=2):zK P = .base 42:=by unfold zK zcJ;simp [h]
theorem ziz{P:List Nd}(h:zk P=3):zK P = .base 43:=by unfold zK zcJ;simp [h]
theorem ziH{P:List Nd}(h:zk P=4):zK P = .ent (zlz P):=by unfold zK zcJ;simp [h]
theorem zgu{P:List Nd}(hP:IsV P)(h:zk P=5):zK P = .set (zf3 ((zm P).map zK)):=by
 have:(zm P).map (zcJ P.length)=(zm P).map zK:=List.map_congr_left fun Q hQ=>by
  have:=zbL hP h hQ;exact zc6 _ _ Q ((za0 hP h).2.2.1 Q hQ) this (by omega)
 unfold zK;rw [zcJ];simp [h,this];rfl
theorem zgQ{P:List Nd}(hP:IsV P)(h:zk P=6):zK P = .fs (ofL ((zi P).map fun x=>(x.1,true,zK x.2))):=by
 have:((zi P).map fun x=>(x.1,true,zcJ P.length x.2))=((zi P).map fun x=>(x.1,true,zK x.2)):=List.map_congr_left fun x hx=>by
  have:=zbx hP h hx;rw [zc6 P.length (x.2.length+1) x.2 ((zaG hP h).2.2.1 x hx).1 this (by omega)];rfl
 unfold zK;rw [zcJ];simp [h,this];rfl
theorem ziD(M:List Nd→Prop)(h1:∀P,IsV P→zk P≠5→zk P≠6→M P)(h5:∀P,IsV P→zk P=5→(∀Q∈zm P,M Q)→M P)(h6:∀P,IsV P→zk P=6→(∀x∈zi P,M x.2)→M P):
 ∀(n:Nat) (P:List Nd),P.length≤n→IsV P→M P
 | 0,P,h,hP=>by have:=hP.pos;omega
 | n+1,P,h,hP=>by
  by_cases e5:zk P=5
  ·exact h5 P hP e5 fun Q hQ=>ziD M h1 h5 h6 n Q (by have:=zbL hP e5 hQ;omega) ((za0 hP e5).2.2.1 Q hQ)
  ·by_cases e6:zk P=6
   ·exact h6 P hP e6 fun x hx=>ziD M h1 h5 h6 n x.2 (by have:=zbx hP e6 hx;omega) ((zaG hP e6).2.2.1 x hx).1
   ·exact h1 P hP e5 e6
theorem zkJ{M:List Nd→Prop}{P:List Nd}(hP:IsV P)(h1:∀P,IsV P→zk P≠5→zk P≠6→M P)(h5:∀P,IsV P→zk P=5→(∀Q∈zm P,M Q)→M P)(h6:∀P,IsV P→zk P=6→(∀x∈zi P,M x.2)→M P):M P :=
 ziD M h1 h5 h6 _ P (Nat.le_refl _) hP
theorem zbh:∀(L:List Kd) (a:Kd),a.valid→(∀k∈L,k.valid)→(L.foldl zl a).valid
 | [],_,h,_=>h
 | k :: r,a,h,h2=>zbh r _ (zab _ a k (Nat.le_refl _) h (h2 k (by simp))) fun x hx=>h2 x (by simp [hx])
theorem zcN:∀(L:List Kd) (a:Kd),a.ok→(∀k∈L,k.ok)→(L.foldl zl a).sz≤a.sz+(L.map Kd.sz).sum
 | [],a,_,_=>by simp
 | k :: r,a,h,h2=>by
  have h3:=zjW h (h2 k (by simp));have:=zcN r _ (zbO _ a k (Nat.le_refl _) h (h2 k (by simp))) fun x hx=>h2 x (by simp [hx]);simp only [List.foldl_cons,List.map_cons,List.sum_cons];omega
theorem znx:∀L:List Kfd,(∀y∈L,zf y.1=0∧y.2.2.valid)→(ofL L).av
 | [],_=>trivial
 | y :: r,h=>⟨(h y (by simp)).1,(h y (by simp)).2,znx r fun x hx=>h x (by simp [hx])⟩
theorem zj0:∀(L:List (ByteArray × List Nd)) (x:ByteArray),UpB x L→(∀y∈L,je x y.1<0)∧L.Pairwise fun a b=>je a.1 b.1<0
 | [],_,_=>⟨fun _ h=>(nomatch h),List.Pairwise.nil⟩
 | y :: r,x,h=>by
  obtain⟨h1,h2⟩:=h;obtain⟨h3,h4⟩:=zj0 r y.1 h2;refine⟨fun z hz=>?_,List.pairwise_cons.2 ⟨h3,h4⟩⟩;rcases List.mem_cons.1 hz with rfl|hz
  ·exact h1
  ·exact zo.lt_le h1 (by have:=h3 z hz;omega)
theorem zlG{P:List Nd}(hP:IsV P)(h:zk P=6):(ofL ((zi P).map fun x=>(x.1,true,zK x.2))).asc:=by
 refine(ziK _ ?_).1;rw [List.pairwise_map];exact(zj0 _ _ (zaG hP h).2.2.2).2
theorem zc8{P:List Nd}(hP:IsV P):(zK P).valid:=by
 refine zkJ (M:=fun P=>(zK P).valid) hP ?_ ?_ ?_
 ·intro P hP h5 h6;rcases zgz hP with h|h|h|h|h|h
  ·rw [zij h];simp [Kd.valid,jm]
  ·rw [zh5 h];simp [Kd.valid,jm]
  ·rw [ziz h];simp [Kd.valid,jm]
  ·rw [ziH h];exact zo9 hP h
  ·exact absurd h h5
  ·exact absurd h h6
 ·intro P hP h5 ih;rw [zgu hP h5];exact zbh _ _ (by simp [Kd.valid,jm]) fun k hk=>by
   obtain⟨Q,hQ,rfl⟩:=List.mem_map.1 hk;exact ih Q hQ
 ·intro P hP h6 ih;rw [zgQ hP h6];refine zaI.2 ⟨zlG hP h6,znx _ fun y hy=>?_⟩;obtain⟨x,hx,rfl⟩:=List.mem_map.1 hy;exact⟨((zaG hP h6).2.2.1 x hx).2,ih x hx⟩
theorem zh2{P:List Nd}(hP:IsV P):(zK P).ok:=(zc8 hP).ok
theorem zif{α:Type}(f g:α→Nat):∀L:List α,(∀x∈L,f x≤g x)→(L.map f).sum≤(L.map g).sum
 | [],_=>Nat.le_refl _
 | x :: r,h=>by
  have h1:=h x (by simp);have h2:=zif f g r fun y hy=>h y (by simp [hy]);simp only [List.map_cons,List.sum_cons];omega
theorem zfW{α:Type}(f:α→Nat):∀L:List α,(L.map fun x=>2*f x).sum=2*(L.map f).sum
 | []=>rfl
 | x :: r=>by simp only [List.map_cons,List.sum_cons,zfW f r];omega
theorem znk:∀L:List Kfd,(ofL L).sz=(L.map fun y=>y.2.2.sz+1).sum
 | []=>rfl
 | y :: r=>by simp only [ofL,Fl.sz,List.map_cons,List.sum_cons,znk r];omega
theorem zdA:∀L:List (ByteArray × List Nd),(zaw L).length=(L.map fun x=>x.2.length+1).sum
 | []=>rfl
 | x :: r=>by simp only [zaw,List.length_cons,List.length_append,List.map_cons,List.sum_cons,zdA r];omega
theorem ziB{P:List Nd}(hP:IsV P):(zK P).sz≤2*P.length:=by
 refine zkJ (M:=fun P=>(zK P).sz≤2*P.length) hP ?_ ?_ ?_
 ·intro P hP h5 h6;have hp:=hP.pos;rcases zgz hP with h|h|h|h|h|h
  ·rw [zij h];simp only [Kd.sz];omega
  ·rw [zh5 h];simp only [Kd.sz];omega
  ·rw [ziz h];simp only [Kd.sz];omega
  ·rw [ziH h];simp only [Kd.sz];omega
  ·exact absurd h h5
  ·exact absurd h h6
 ·intro P hP h5 ih;rw [zgu hP h5];obtain⟨e,-,hv,-⟩:=za0 hP h5;have h1:=zcN ((zm P).map zK) (.base 49) trivial fun k hk=>by
   obtain⟨Q,hQ,rfl⟩:=List.mem_map.1 hk;exact zh2 (hv Q hQ)
  rw [List.map_map] at h1;have h2:=zif (Kd.sz ∘ zK) (fun Q=>2*Q.length) (zm P) fun Q hQ=>ih Q hQ;rw [zfW] at h2;rw [e,List.length_cons,zgi];simp only [Kd.sz,zf3] at h1 ⊢;rw [←e];omega
 ·intro P hP h6 ih;rw [zgQ hP h6];obtain⟨e,-,hv,-⟩:=zaG hP h6;have h2:=zif (fun x:ByteArray × List Nd=>(zK x.2).sz+1) (fun x=>2*(x.2.length+1)) (zi P) fun x hx=>by have:=ih x hx;omega
  rw [zfW] at h2;rw [e,List.length_cons,zdA];simp only [Kd.sz,znk,List.map_map,Function.comp_def];rw [←e];omega
theorem zbQ{c:Kd}(hc:c.ok):∀(L:List Kd) (a:Kd),a.ok→(∀k∈L,k.ok)→(zG (L.foldl zl a) c=true↔zG a c=true∧∀k∈L,zG k c=true)
 | [],a,_,_=>by simp
 | k :: r,a,ha,h=>by
  rw [List.foldl_cons,zbQ hc r _ (zbO _ a k (Nat.le_refl _) ha (h k (by simp))) (fun x hx=>h x (by simp [hx])),zg0 ha (h k (by simp)) hc];constructor
  ·rintro ⟨⟨h1,h2⟩,h3⟩;refine⟨h1,fun x hx=>?_⟩;rcases List.mem_cons.1 hx with rfl|hx
   ·exact h2
   ·exact h3 x hx
  ·rintro ⟨h1,h2⟩;exact⟨⟨h1,h2 k (by simp)⟩,fun x hx=>h2 x (by simp [hx])⟩
theorem zlF{P:List Nd}(hP:IsV P)(h:zk P=5){q:Kd}(hq:q.ok):zG (zK P) (.set q)=true↔∀Q∈zm P,zG (zK Q) q=true:=by
 have hv:=(za0 hP h).2.2.1;rw [zgu hP h,jh];unfold zf3;constructor
 ·rintro (h1|⟨q',h1,h2⟩)
  ·cases h1
  ·injection h1 with h1;subst h1;rw [zbQ hq _ (.base 49) trivial (fun k hk=>by obtain⟨Q,hQ,rfl⟩:=List.mem_map.1 hk;exact zh2 (hv Q hQ))] at h2;exact fun Q hQ=>h2.2 _ (List.mem_map.2 ⟨Q,hQ,rfl⟩)
 ·intro h1;refine .inr ⟨q,rfl,?_⟩;rw [zbQ hq _ (.base 49) trivial (fun k hk=>by obtain⟨Q,hQ,rfl⟩:=List.mem_map.1 hk;exact zh2 (hv Q hQ))];exact⟨zdQ _ _ rfl,fun k hk=>by obtain⟨Q,hQ,rfl⟩:=List.mem_map.1 hk;exact h1 Q hQ⟩
theorem zlI{P:List Nd}(hP:IsV P)(h:zk P=6){f:Fl}(hf:f.asc):zG (zK P) (.fs f)=true↔
 (∀x∈zi P,∃m k,f.find x.1=some (m,k)∧zG (zK x.2) k=true)∧(∀s k,f.find s=some (true,k)→∃x∈zi P,x.1=s):=by
 have ha:=zlG hP h;have hm:∀s m k,(ofL ((zi P).map fun x=>(x.1,true,zK x.2))).find s=some (m,k)↔∃x∈zi P,x.1=s∧m=true∧k=zK x.2:=fun s m k=>by
  rw [zaj ha,zd2,List.mem_map];constructor
  ·rintro ⟨x,hx,e⟩;simp only [Prod.mk.injEq] at e;exact⟨x,hx,e.1,e.2.1.symm,e.2.2.symm⟩
  ·rintro ⟨x,hx,rfl,rfl,rfl⟩;exact⟨x,hx,rfl⟩
 rw [zgQ hP h,ju];constructor
 ·rintro (h1|⟨g,h1,h2,h3⟩)
  ·cases h1
  ·injection h1 with h1;subst h1;rw [zcf ha] at h2;rw [zdk hf] at h3;refine⟨fun x hx=>?_,fun s k hs=>?_⟩
   ·obtain⟨m',k',e1,-,e2⟩:=h2 x.1 true (zK x.2) ((hm _ _ _).2 ⟨x,hx,rfl,rfl,rfl⟩);exact⟨m',k',e1,e2⟩
   ·have:=h3 s k hs;rw [Option.isSome_iff_exists] at this;obtain⟨⟨m,k'⟩,e⟩:=this;obtain⟨x,hx,e1,-,-⟩:=(hm _ _ _).1 e;exact⟨x,hx,e1⟩
 ·rintro ⟨h1,h2⟩;refine .inr ⟨f,rfl,(zcf ha).2 fun s m k hs=>?_,(zdk hf).2 fun s k hs=>?_⟩
  ·obtain⟨x,hx,rfl,rfl,rfl⟩:=(hm _ _ _).1 hs;obtain⟨m',k',e1,e2⟩:=h1 x hx;exact⟨m',k',e1,fun _=>rfl,e2⟩
  ·obtain⟨x,hx,rfl⟩:=h2 s k hs;rw [(hm _ _ _).2 ⟨x,hx,rfl,rfl,rfl⟩];rfl
end Go.Wk
