/-
  Plain: how great the least above two is; the fields as they come out of join's loops, and sorted. No program in sight. Plain: the parts of sets and records; ..
-/
import Derived.Test.YtjcdeikbghjpkaaGreatDoorQ1
import Derived.Test.YtjcdeikbghjpkaaGreatDoorQ2
set_option maxRecDepth 100000
namespace Go.Wk
def zcX:Fl→Fl→Nat
 | .nil,_=>0
 | .cons s _ _ r,g=>(match g.find s with|none=>0|some (_,k)=>k.sz)+zcX r g
theorem zks(s:ByteArray)(m:Bool)(k:Kd):∀f:Fl,(zdv s m k f).sz=f.sz+k.sz+1
 | .nil=>by simp [zdv,Fl.sz]
 | .cons t m' k' r=>by
  simp only [zdv];split
  ·simp only [Fl.sz];omega
  ·simp only [Fl.sz,zks s m k r];omega
theorem zlk:∀f:Fl,zcX f .nil=0
 | .nil=>rfl
 | .cons s m k r=>by simp [zcX,Fl.find,zlk r]
theorem zjx(t:ByteArray)(m:Bool)(k:Kd)(r:Fl):∀f:Fl,f.asc→zcX f (.cons t m k r)≤zcX f r+(if(f.find t).isSome then k.sz else 0)
 | .nil,_=>by simp [zcX]
 | .cons s m' k' f,h=>by
  have ih:=zjx t m k r f (zaC h);by_cases e:s=t
  ·subst e;have hn:f.find s=none:=zgd h;rw [hn] at ih;simp only [zcX,Fl.find,if_true,Option.isSome_some];simp only [Option.isSome_none,Bool.false_eq_true,if_false] at ih;omega
  ·have e2:¬t=s:=fun q=>e q.symm;simp only [zcX,Fl.find,if_neg e,if_neg e2];omega
theorem zj0(f:Fl)(hf:f.asc):∀g:Fl,(jK g f).sz+zcX f g≤g.sz
 | .nil=>by simp [jK,Fl.sz,zlk]
 | .cons t m k r=>by
  have ih:=zj0 f hf r;have h:=zjx t m k r f hf;simp only [jK,Fl.sz];split
  ·rename_i hs;rw [if_pos hs] at h;omega
  ·rename_i hs;rw [if_neg hs] at h;simp only [Fl.sz];omega
theorem zpD(k:Kd):1≤k.sz:=by cases k <;> simp [Kd.sz]
theorem znS:∀n:Nat,(∀a b:Kd,a.sz≤n→a.ok→b.ok→(zm a b).sz≤a.sz+b.sz)∧(∀f g acc:Fl,f.sz≤n→f.asc→f.ok→g.ok→(jC f g acc).sz≤f.sz+acc.sz+zcX f g)
 | 0=>by
  refine⟨fun a b h=>by cases a <;> simp [Kd.sz] at h,fun f g acc h _ _ _=>?_⟩
  cases f with
  | nil=>simp [jC,Fl.sz,zcX]
  | cons s m k r=>simp [Fl.sz] at h
 | n+1=>by
  obtain⟨ihK,ihF⟩:=znS n;refine⟨fun a b h ha hb=>?_,fun f g acc h hf hok hg=>?_⟩
  ·have hpa:=zpD a;by_cases h1:b = .base 48
   ·rw [zby h1];simp only [Kd.sz];omega
   by_cases h2:b = .base 49
   ·rw [za1 h2];omega
   have hp:=zpD b
   cases a with
   | base x =>
    rw [zci h1 h2]
    split
    ·omega
    ·split <;> simp only [Kd.sz] <;> omega
   | ent s =>
    rw [zdw h1 h2]
    split <;> simp only [Kd.sz] <;> omega
   | set p =>
    simp only [Kd.sz] at h
    rcases zcE (p:=p) h1 h2 with ⟨q,rfl,e⟩|⟨-,e⟩
    ·rw [e]
     have:=ihK p q (by omega) ha hb;simp only [Kd.sz];omega
    ·rw [e];simp only [Kd.sz];omega
   | fs f =>
    simp only [Kd.sz] at h
    rcases zdJ (f:=f) h1 h2 with ⟨g,rfl,e⟩|⟨-,e⟩
    ·rw [e]
     have:=ihF f g (jK g f) (by omega) ha.1 ha.2 hb.2;have:=zj0 f ha.1 g;simp only [Kd.sz];omega
    ·rw [e];simp only [Kd.sz];omega
  ·cases f with
   | nil=>simp only [jC,Fl.sz,zcX];omega
   | cons s m k r =>
    simp only [Fl.sz] at h
    have ih:=ihF r g acc (by omega) (zaC hf) hok.2 hg
    rcases hs:g.find s with _|⟨m',k'⟩
    ·simp only [jC,hs,zcX,zks,Fl.sz];omega
    ·have:=ihK k k' (by omega) hok.1 (zaJ hg hs)
     simp only [jC,hs,zcX,zks,Fl.sz];omega
theorem ziC{a b:Kd}(ha:a.ok)(hb:b.ok):(zm a b).sz≤a.sz+b.sz:=(znS _).1 a b (Nat.le_refl _) ha hb
def ofL:List Kfd→Fl
 | [] => .nil
 | y :: r => .cons y.1 y.2.1 y.2.2 (ofL r)
theorem zh6:∀L:List Kfd,(ofL L).list=L
 | []=>rfl
 | y :: r=>by simp [ofL,Fl.list,zh6 r]
theorem zef:∀f:Fl,ofL f.list=f
 | .nil=>rfl
 | .cons s m k r=>by simp [Fl.list,ofL,zef r]
theorem zoa:∀L:List Kfd,(L.Pairwise fun a b=>zO a.1 b.1<0)→(ofL L).asc∧∀x,(∀y∈L,zO x y.1<0)→(ofL L).ascFrom x
 | [],_=>⟨trivial,fun _ _=>trivial⟩
 | y :: r,h=>by
  rw [List.pairwise_cons] at h;obtain⟨h1,h2⟩:=h;obtain⟨-,ih⟩:=zoa r h2;exact⟨ih y.1 h1,fun x hx=>⟨hx y (by simp),ih y.1 h1⟩⟩
def zk8(L:List Kfd)(f:Fl):Fl:=ofL (L ++ f.list)
theorem zqZ(f:Fl):zk8 [] f=f:=by unfold zk8;rw [List.nil_append,zef]
theorem zoY(L:List Kfd)(s:ByteArray)(b:Bool)(k:Kd)(f:Fl):zk8 (L ++ [(s,b,k)]) f=zk8 L (.cons s b k f):=by
 unfold zk8;rw [List.append_assoc];rfl
theorem zpB(L:List Kfd):zk8 L .nil=ofL L:=by unfold zk8;rw [Fl.list,List.append_nil]
def zer(g:Fl)(y:Kfd):Kfd:=match g.find y.1 with
 | none=>(y.1,false,y.2.2)
 | some (m',k')=>(y.1,y.2.1 && m',zm y.2.2 k')
def zlE(f g:Fl):List Kfd:=f.list.map (zer g)++(g.list.filter fun y=>(f.find y.1).isNone).map fun y=>(y.1,false,y.2.2)
theorem zeG(g:Fl)(y:Kfd):(zer g y).1=y.1:=by unfold zer;split <;> rfl
theorem zmo{f g:Fl}(hf:f.asc)(hg:g.asc)(s:ByteArray)(m:Bool)(k:Kd):(s,m,k)∈zlE f g↔(jC f g (jK g f)).find s=some (m,k):=by
 rw [zaV hf];unfold zlE;rw [List.mem_append,List.mem_map,List.mem_map];constructor
 ·rintro (⟨⟨s',m',k'⟩,h1,h2⟩|⟨⟨s',m',k'⟩,h1,h2⟩)
  ·have h3:=(zaX hf).2 h1;have hs:s'=s:=by have:=zeG g (s',m',k');rw [h2] at this;exact this.symm
   subst hs;rw [h3];unfold zer at h2;simp only at h2;rcases hg2:g.find s' with _|⟨m2,k2⟩
   ·rw [hg2] at h2;simp only [Prod.mk.injEq,true_and] at h2;simp [jn,h2]
   ·rw [hg2] at h2;simp only [Prod.mk.injEq,true_and] at h2;simp [jn,h2]
  ·rw [List.mem_filter] at h1;obtain⟨h1,h4⟩:=h1;have h3:=(zaX hg).2 h1;simp only [Prod.mk.injEq] at h2;obtain⟨rfl,rfl,rfl⟩:=h2;simp only [Option.isNone_iff_eq_none] at h4;rw [h3,h4];rfl
 ·intro h;rcases hf2:f.find s with _|⟨m1,k1⟩
  ·rcases hg2:g.find s with _|⟨m2,k2⟩
   ·rw [hf2,hg2] at h;cases h
   ·rw [hf2,hg2] at h;simp only [jn,Option.some.injEq,Prod.mk.injEq] at h;refine .inr ⟨(s,m2,k2),List.mem_filter.2 ⟨(zaX hg).1 hg2,by simp [hf2]⟩,by simp [h]⟩
  ·refine .inl ⟨(s,m1,k1),(zaX hf).1 hf2,?_⟩;unfold zer;simp only;rcases hg2:g.find s with _|⟨m2,k2⟩
   ·rw [hf2,hg2] at h;simp only [jn,Option.some.injEq,Prod.mk.injEq] at h;simp [h]
   ·rw [hf2,hg2] at h;simp only [jn,Option.some.injEq,Prod.mk.injEq] at h;simp [h]
theorem zrQ{f g:Fl}:(zlE f g).length≤f.len+g.len:=by
 unfold zlE;rw [List.length_append,List.length_map,List.length_map];have h:=List.length_filter_le (fun y:Kfd=>(f.find y.1).isNone) g.list;have h1:∀x:Fl,x.list.length=x.len:=fun x=>by
  induction x using Fl.rec (motive_1:=fun _=>True) with
  | nil=>rfl
  | cons s m k r _ ih=>simp [Fl.len,Fl.list,ih]
  | _=>trivial
 have e1:=h1 f;have e2:=h1 g;omega
theorem zmj{f g:Fl}(hf:f.asc)(hg:g.asc){L:List Kfd}(hp:L.Perm (zlE f g))(hs:L.Pairwise fun a b=>zO a.1 b.1≤0):ofL L=jC f g (jK g f):=by
 have hnd:L.Pairwise fun a b=>zO a.1 b.1<0:=by
  have hn:(zlE f g).Pairwise fun a b=>a.1≠b.1:=by
   unfold zlE;rw [List.pairwise_append];refine⟨?_,?_,?_⟩
   ·rw [List.pairwise_map];refine(zfu hf).imp fun {a b} h e=>?_;rw [zeG,zeG] at e;rw [e,zt.self] at h;omega
   ·rw [List.pairwise_map];refine((zfu hg).filter _).imp fun {a b} h e=>?_;simp only at e;rw [e,zt.self] at h;omega
   ·intro a ha b hb e;rw [List.mem_map] at ha hb;obtain⟨x,hx,rfl⟩:=ha;obtain⟨y,hy,rfl⟩:=hb;rw [zeG] at e;simp only at e;rw [List.mem_filter] at hy;have h1:f.find y.1=none:=by simpa using hy.2
    have h2:=(zaX hf (s:=x.1) (m:=x.2.1) (k:=x.2.2)).2 hx;rw [e,h1] at h2;cases h2
  have hnL:L.Pairwise fun a b=>a.1≠b.1:=hp.symm.pairwise hn (fun {a b} h=>fun e=>h e.symm);refine(List.Pairwise.and hs hnL).imp fun {a b} ⟨h1,h2⟩=>?_;have:zO a.1 b.1≠0:=fun e=>h2 ((zt.zero _ _).1 e);omega
 have ho:=(zoa L hnd).1;refine zm8 _ _ ho (zcG hf hg) fun s=>?_;rcases h:(jC f g (jK g f)).find s with _|⟨m,k⟩
 ·rw [zeu,zh6];intro y hy e;have h2:=(zmo hf hg y.1 y.2.1 y.2.2).1 (hp.mem_iff.1 hy);rw [e,h] at h2;cases h2
 ·rw [zaX ho,zh6];exact hp.mem_iff.2 ((zmo hf hg s m k).2 h)
section
variable {u v:List Nd} {a b L:Nat}
end
theorem zsX{s:ByteArray}(h:noB s=true):s=⟨#[]⟩:=by
 unfold noB at h;exact zaD (List.eq_nil_of_length_eq_zero (by rw [Array.length_toList];exact of_decide_eq_true h))
def zpr(v:List Nd)(f:Nat→Option Nat):Nat→Nat→List (List Nd)
 | 0,_ => []
 | k+1,p =>
  match f p with
  | none => []
  | some e=>seg v p e :: zpr v f k e
def ztr(v:List Nd)(p:Nat):ByteArray :=
 match v[p]? with
 | none => .empty
 | some x=>x.s
def zpq(v:List Nd)(f:Nat→Option Nat):Nat→Nat→List (ByteArray × List Nd)
 | 0,_ => []
 | k+1,p =>
  match f (p+1) with
  | none => []
  | some e=>(ztr v p,seg v (p+1) e):: zpq v f k e
def zse:List Nd→Nat
 | []=>0
 | x :: _=>x.n.toNat
def zan:List Nd→Int
 | []=>0
 | x :: _=>x.op
def zpn(P:List Nd):List (List Nd):=zpr P (ju P (P.length+1)) (zse P) 1
def zqB(P:List Nd):List (ByteArray × List Nd):=zpq P (ju P (P.length+1)) (zse P) 1
def zsW:List (List Nd)→Int
 | []=>0
 | P :: r=>or2 (jT P) (zsW r)
def zsf:List Nd→ByteArray
 | []=>emp
 | x :: _=>x.s
def zsc(L:List Kd):Kd:=L.foldl zm (.base 49)
def zsp:Nat→List Nd→Kd
 | 0,_ => .base 49
 | m+1,P =>
  if zan P=1 then .base 41 else if zan P=2 then .base 42 else if zan P=3 then .base 43 else if zan P=4 then .ent (zsf P)
  else if zan P=5 then .set (zsc ((zpn P).map (zsp m)))
  else .fs (ofL ((zqB P).map fun x=>(x.1,true,zsp m x.2)))
def ztn(P:List Nd):Kd:=zsp (P.length+1) P
end Go.Wk
