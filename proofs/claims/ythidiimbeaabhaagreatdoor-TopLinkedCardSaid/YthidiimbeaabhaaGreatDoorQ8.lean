/-
  Plain: where the parts of an expression stand; going over a part. No program in ..
-/
import Derived.Test.YthidiimbeaabhaaGreatDoorQ7
set_option maxRecDepth 100000
namespace Go.Wk
def Exs.app:Exs->Exs->Exs
 | .nil,q=>q
 | .cons x r,q => .cons x (r.app q)
theorem mO:∀(a b:Exs),(a.app b).flat=a.flat ++ b.flat
 | .nil,b=>rfl
 | .cons x r,b=>by simp [Exs.app,Exs.flat,mO r b]
theorem xk:∀(a b:Exs),(a.app b).len=a.len+b.len
 | .nil,b=>by simp [Exs.app,Exs.len]
 | .cons x r,b=>by simp only [Exs.app,Exs.len,xk r b];omega
mutual
def Ex.cnt:Ex->Prop
 | .node n ps=>(ps.len:Int)=zJ n/\ps.cnt
def Exs.cnt:Exs->Prop
 | .nil=>True
 | .cons x r=>x.cnt/\r.cnt
end
theorem xl:∀(a b:Exs),(a.app b).cnt↔a.cnt/\b.cnt
 | .nil,b=>by simp [Exs.app,Exs.cnt]
 | .cons x r,b=>by simp only [Exs.app,Exs.cnt,xl r b,and_assoc]
mutual
theorem Ex.valid.cnt:∀ {x:Ex} {f:Bool},x.valid f->x.cnt
 | .node _ _,_,h=>⟨h.2.1,h.2.2.cnts⟩
theorem Exs.valid.cnts:∀ {r:Exs} {c:Bool} {s:ByteArray},r.valid c s->r.cnt
 | .nil,_,_,_=>trivial
 | .cons _ _,_,_,h=>⟨h.2.1.cnt,h.2.2.cnts⟩
end
structure lS(t:List Nd)(p:Nat)(L:Exs):Prop where
 cnt:L.cnt
 drop:∃r,t.drop p=L.flat ++ r
theorem lS.start{t:List Nd}{p:Nat}{f:Bool}{x:Ex}{r:List Nd}(hx:x.valid f)(h:t.drop p=x.flat ++ r):lS t p (.cons x .nil):=
 ⟨⟨hx.cnt,trivial⟩,r,by simp [Exs.flat,h]⟩
theorem lS.step{t:List Nd}{p:Nat}{n:Nd}{ps q:Exs}(h:lS t p (.cons (.node n ps) q)):t[p]?=some n/\lS t (p+1) (ps.app q)/\((ps.app q).len:Int)=q.len+zJ n/\p+1+(ps.app q).flat.length=p+(Exs.cons (.node n ps) q).flat.length:=by
 obtain⟨⟨⟨h1,h2⟩,h3⟩,r,e⟩:=h;simp only [Exs.flat,Ex.flat,List.cons_append,List.append_assoc] at e;refine⟨?_,⟨(xl _ _).2 ⟨h2,h3⟩,r,?_⟩,?_,?_⟩
 ·have:=congrArg (λl=>l[0]?) e;simpa using this
 ·have:=congrArg (List.drop 1) e;rw [List.drop_drop] at this;rw [mO,List.append_assoc];simpa using this
 ·rw [xk,<-h1];omega
 ·rw [mO];simp only [Exs.flat,Ex.flat,List.length_cons,List.length_append];omega
theorem lS.left{t:List Nd}{p:Nat}{L:Exs}(h:lS t p L)(hl:0<L.len):∃n ps q,L = .cons (.node n ps) q:=by
 cases L with
 | nil=>simp [Exs.len] at hl
 | cons x q=>obtain⟨n,ps⟩:=x;exact⟨n,ps,q,rfl⟩
theorem dw:∀r:Exs,r.len<=r.flat.length
 | .nil=>Nat.le_refl _
 | .cons x r=>by have:=j6 x;have:=dw r;simp only [Exs.len,Exs.flat,List.length_append];omega
theorem lS.le{t:List Nd}{p:Nat}{L:Exs}(h:lS t p L)(hl:0<L.len):p+L.flat.length<=t.length:=by
 obtain⟨r,e⟩:=h.drop;have h1:=congrArg List.length e;rw [List.length_drop,List.length_append] at h1;have:=dw L;omega
structure XAt(t:List Nd)(p:Nat)(f:Bool)(x:Ex):Prop where
 valid:x.valid f
 drop:∃r,t.drop p=x.flat ++ r
structure iy(t:List Nd)(p:Nat)(c:Bool)(r:Exs):Prop where
 valid:∃s,r.valid c s
 drop:∃u,t.drop p=r.flat ++ u
theorem XAt.all{x:Ex}{f:Bool}(h:x.valid f):XAt x.flat 0 f x:=⟨h,[],by simp⟩
theorem XAt.head{t:List Nd}{p:Nat}{f:Bool}{x:Ex}(h:XAt t p f x):t[p]?=some x.head:=by
 obtain⟨r,e⟩:=h.drop;obtain⟨u,hu⟩:=ij x;rw [hu] at e;have:=congrArg (λl=>l[0]?) e;simpa using this
theorem XAt.le{t:List Nd}{p:Nat}{f:Bool}{x:Ex}(h:XAt t p f x):p+x.flat.length<=t.length:=by
 obtain⟨r,e⟩:=h.drop;have h1:=congrArg List.length e;rw [List.length_drop,List.length_append] at h1;have:=j6 x;omega
theorem XAt.seg{t:List Nd}{p:Nat}{f:Bool}{x:Ex}(h:XAt t p f x):Go.Wk.seg t p (p+x.flat.length)=x.flat:=by
 obtain⟨r,e⟩:=h.drop;unfold Go.Wk.seg;rw [e,show p+x.flat.length-p=x.flat.length by omega,List.take_left]
theorem XAt.parts{t:List Nd}{p:Nat}{f:Bool}{x:Ex}(h:XAt t p f x):iy t (p+1) (ae x.head) x.parts:=by
 obtain⟨n,ps⟩:=x;obtain⟨r,e⟩:=h.drop;refine⟨⟨_,h.valid.2.2⟩,r,?_⟩;simp only [Ex.flat,List.cons_append] at e;have:=congrArg (List.drop 1) e;rw [List.drop_drop] at this;simpa [Ex.parts] using this
theorem iy.head{t:List Nd}{p:Nat}{c:Bool}{x:Ex}{r:Exs}(h:iy t p c (.cons x r)):XAt t p c x/\iy t (p+x.flat.length) c r:=by
 obtain⟨⟨s,v⟩,u,e⟩:=h;simp only [Exs.flat,List.append_assoc] at e;refine⟨⟨v.2.1,_,e⟩,⟨_,v.2.2⟩,u,?_⟩;have:=congrArg (List.drop x.flat.length) e;rw [List.drop_drop,List.drop_left] at this;exact this
theorem XAt.field{t:List Nd}{p:Nat}{x:Ex}(h:XAt t p true x):∃n y,x = .node n (.cons y .nil)/\n.op=7/\zk n.s=0/\XAt t (p+1) false y/\x.flat.length=y.flat.length+1:=by
 obtain⟨n,ps⟩:=x;have hv:=h.valid;obtain⟨v1,v2,v3⟩:=hv;unfold cL at v1;rw [Bool.and_eq_true] at v1;have h7:n.op=7:=by simpa using v1.2
 have e1:zJ n=1:=by unfold zJ;rw [if_neg (by omega),if_neg (by omega),if_pos (by omega)]
 have e2:ae n=false:=by unfold ae;rw [decide_eq_false];omega
 have hnf:zk n.s=0:=by
  have h0:=v1.1;unfold jE at h0;rw [if_pos (by omega)] at h0;unfold zD at h0;rw [if_neg (by omega),if_neg (by omega),if_neg (by omega),if_neg (by omega),if_neg (by omega),if_pos h7] at h0;simp only [Bool.and_eq_true,decide_eq_true_eq] at h0;exact h0.2
 rw [e1] at v2
 cases ps with
 | nil=>simp [Exs.len] at v2
 | cons y q =>
  cases q with
  | cons z q=>simp only [Exs.len] at v2;omega
  | nil =>
   have hp:=h.parts
   rw [show(Ex.node n (Exs.cons y Exs.nil)).head=n from rfl,e2] at hp
   exact⟨n,y,rfl,h7,hnf,hp.head.1,by simp [Ex.flat,Exs.flat]⟩
def Exs.list:Exs->List Ex
 | .nil => []
 | .cons x r=>x :: r.list
def lR(c:Bool):Nat->Exs->List Nat
 | p,.nil => [p]
 | p,.cons x r=>(if c=true then p+1 else p):: lR c (p+x.flat.length) r
def xa(c:Bool)(x:Ex):Ex:=match c,x with
 | true,.node _ (.cons y _)=>y
 | _,x=>x
theorem iy.at{t:List Nd}{c:Bool}:∀ {r:Exs} {p:Nat},iy t p c r->∀(i:Nat) (x:Ex),r.list[i]?=some x->∃q:Nat,(lR c p r)[i]?=some q/\XAt t q false (xa c x)/\(c=true->0<q/\t[q-1]?=some x.head)/\((lR c p r)[i+1]?=some (q+(xa c x).flat.length+(if c=true/\i+1<r.len then 1 else 0)))
 | .nil,_,_,i,x,h=>by simp [Exs.list] at h
 | .cons y r,p,hA,i,x,h=>by
  obtain⟨h1,h2⟩:=hA.head
  cases i with
  | zero =>
   simp only [Exs.list,List.getElem?_cons_zero,Option.some.injEq] at h
   subst h
   have hr:(lR c (p+y.flat.length) r)[0]?=some (p+y.flat.length+if c=true/\0<r.len then 1 else 0):=by
    cases r with
    | nil=>simp [lR,Exs.len]
    | cons z r=>simp only [lR,List.getElem?_cons_zero,Exs.len];cases c <;> simp
   cases c with
   | false =>
    refine⟨p,by simp [lR],h1,(λe=>nomatch e),?_⟩
    simp only [lR,List.getElem?_cons_succ]
    rw [hr]
    simp [xa]
   | true =>
    have hh:=h1.head
    obtain⟨n,z,rfl,h7,-,hz,hl⟩:=h1.field
    refine⟨p+1,by simp [lR],hz,λ_=>⟨by omega,by simpa using hh⟩,?_⟩
    simp only [lR,List.getElem?_cons_succ]
    rw [hr,hl]
    simp only [xa,Exs.len,true_and]
    congr 1
    by_cases hr0:0<r.len
    ·rw [if_pos hr0,if_pos (by omega)];omega
    ·rw [if_neg hr0,if_neg (by omega)];omega
  | succ i =>
   simp only [Exs.list,List.getElem?_cons_succ] at h
   obtain⟨q,e1,e2,e3,e4⟩:=h2.at i x h
   refine⟨q,by simpa [lR] using e1,e2,e3,?_⟩
   simp only [lR,List.getElem?_cons_succ]
   rw [e4]
   simp [Exs.len]
end Go.Wk
