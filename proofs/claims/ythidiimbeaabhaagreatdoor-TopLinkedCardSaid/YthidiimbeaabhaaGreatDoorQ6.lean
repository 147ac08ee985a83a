/-
  Plain: the least type above two. No program in sight. Plain: the least type ..
-/
import Derived.Test.YthidiimbeaabhaaGreatDoorQ5
set_option maxRecDepth 100000
namespace Go.Wk
def Ht(s:ByteArray)(m:Bool)(k:Kd):Fl->Fl
 | .nil => .cons s m k .nil
 | .cons t m' k' r=>if ai s t<0 then .cons s m k (.cons t m' k' r) else .cons t m' k' (Ht s m k r)
def Bn:Fl->Fl->Fl
 | .nil,_ => .nil
 | .cons s _ k r,f=>if(f.find s).isSome then Bn r f else .cons s false k (Bn r f)
mutual
def Cq:Kd->Kd->Kd
 | .base x,b=>if x=49 then b else if lq b then b else if isNone b then .base x else if x=48 then .base 48 else(match b with | .base y=>if x=y then .base x else .base 48|_ => .base 48)
 | .ent s,b=>if lq b then b else if isNone b then .ent s else(match b with | .ent t=>if s=t then .ent s else .base 48|_ => .base 48)
 | .set p,b=>if lq b then b else if isNone b then .set p else(match b with | .set q => .set (Cq p q)|_ => .base 48)
 | .fs f,b=>if lq b then b else if isNone b then .fs f else(match b with | .fs g => .fs (C4 f g (Bn g f))|_ => .base 48)
def C4:Fl->Fl->Fl->Fl
 | .nil,_,acc=>acc
 | .cons s m k r,g,acc=>match g.find s with
  | none=>Ht s false k (C4 r g acc)
  | some (m',k')=>Ht s (m && m') (Cq k k') (C4 r g acc)
end
def Fl.av:Fl->Prop
 | .nil=>True
 | .cons s _ k r=>zk s=0/\k.valid/\r.av
theorem Ih{s:ByteArray}(h:zk s=0):ai emp s<0:=by
 have hne:s≠emp:=λe=>by subst e;exact absurd h (by decide)
 rcases jB.rng emp s with e|e|e
 ·omega
 ·exact absurd ((jB.zero _ _).1 e).symm hne
 ·exfalso;unfold ai at e;have:emp.data.toList = []:=rfl;rw [this] at e
  cases hs:s.data.toList with
  | nil=>exact hne (j4 (by rw [hs];rfl))
  | cons a l=>rw [hs] at e;simp [Lib.compareBytes] at e
theorem gX:∀(f:Fl) (x:ByteArray),f.validFrom x↔f.ascFrom x/\f.av
 | .nil,_=>by simp [Fl.validFrom,Fl.ascFrom,Fl.av]
 | .cons s m k r,x=>by
  simp only [Fl.validFrom,Fl.ascFrom,Fl.av,gX r s];constructor
  ·rintro ⟨a,b,c,d,e⟩;exact⟨⟨a,d⟩,b,c,e⟩
  ·rintro ⟨⟨a,d⟩,b,c,e⟩;exact⟨a,b,c,d,e⟩
theorem Fa:∀f:Fl,f.asc->f.av->f.ascFrom emp
 | .nil,_,_=>trivial
 | .cons _ _ _ _,h,hv=>⟨Ih hv.1,h⟩
theorem BG{f:Fl}:(Kd.fs f).valid↔f.asc/\f.av:=by
 simp only [Kd.valid,gX];exact⟨λ⟨a,b⟩=>⟨Dz a,b⟩,λ⟨a,b⟩=>⟨Fa f a b,b⟩⟩
theorem nM:∀(n:Nat) (a:Kd),a.sz<=n->a.valid->a.ok
 | 0,a,h,_=>by cases a <;> simp [Kd.sz] at h
 | n+1,a,h,hv=>by
  cases a with
  | base x=>trivial
  | ent s=>trivial
  | set p=>simp only [Kd.sz] at h;exact nM n p (by omega) hv
  | fs f =>
   simp only [Kd.sz] at h
   obtain⟨h1,h2⟩:=BG.1 hv
   refine⟨h1,?_⟩
   have key:∀g:Fl,g.sz<=n->g.av->g.ok:=by
    intro g hs hg
    induction g using Fl.rec (motive_1:=λ_=>True) with
    | nil=>trivial
    | cons s m k r _ ih =>
     simp only [Fl.sz] at hs
     exact⟨nM n k (by omega) hg.2.1,ih (by omega) hg.2.2⟩
    | _=>trivial
   exact key f (by omega) h2
theorem Kd.valid.ok{a:Kd}(h:a.valid):a.ok:=nM _ a (Nat.le_refl _) h
abbrev Kfd:=ByteArray × Bool × Kd
def Fl.list:Fl->List Kfd
 | .nil => []
 | .cons s m k r=>(s,m,k):: r.list
def ofL:List Kfd->Fl
 | [] => .nil
 | y :: r => .cons y.1 y.2.1 y.2.2 (ofL r)
def Jz:List Nd->ByteArray
 | []=>emp
 | x :: _=>x.s
def F6(L:List Kd):Kd:=L.foldl Cq (.base 49)
def Iv:Nat->List Nd->Kd
 | 0,_ => .base 49
 | m+1,P =>
  if zg P=1 then .base 41 else if zg P=2 then .base 42 else if zg P=3 then .base 43 else if zg P=4 then .ent (Jz P)
  else if zg P=5 then .set (F6 ((zy P).map (Iv m)))
  else .fs (ofL ((zX P).map λx=>(x.1,true,Iv m x.2)))
def Ln(P:List Nd):Kd:=Iv (P.length+1) P
end Go.Wk
