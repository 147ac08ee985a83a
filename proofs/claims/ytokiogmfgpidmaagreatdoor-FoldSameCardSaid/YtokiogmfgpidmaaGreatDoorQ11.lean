/-
  Plain: the least type above two is above both, and below whatever is. No ..
-/
import Derived.Test.YtokiogmfgpidmaaGreatDoorQ6
import Derived.Test.YtokiogmfgpidmaaGreatDoorQ10
set_option maxRecDepth 100000
namespace Go.Wk
def Fl.av:Fl->Prop
 | .nil=>True
 | .cons s _ k r=>zh s=0/\k.valid/\r.av
theorem JJ{s:ByteArray}(h:zh s=0):js emp s<0:=by
 have hne:s≠emp:=λe=>by subst e;exact absurd h (by decide)
 rcases jf.rng emp s with e|e|e
 ·omega
 ·exact absurd ((jf.zero _ _).1 e).symm hne
 ·exfalso;unfold js at e;have:emp.data.toList = []:=rfl;rw [this] at e
  cases hs:s.data.toList with
  | nil=>exact hne (ag (by rw [hs];rfl))
  | cons a l=>rw [hs] at e;simp [Lib.compareBytes] at e
theorem gk:∀(f:Fl) (x:ByteArray),f.validFrom x↔f.ascFrom x/\f.av
 | .nil,_=>by simp [Fl.validFrom,Fl.ascFrom,Fl.av]
 | .cons s m k r,x=>by
  simp only [Fl.validFrom,Fl.ascFrom,Fl.av,gk r s];constructor
  ·rintro ⟨a,b,c,d,e⟩;exact⟨⟨a,d⟩,b,c,e⟩
  ·rintro ⟨⟨a,d⟩,b,c,e⟩;exact⟨a,b,c,d,e⟩
theorem H5:∀f:Fl,f.asc->f.av->f.ascFrom emp
 | .nil,_,_=>trivial
 | .cons _ _ _ _,h,hv=>⟨JJ hv.1,h⟩
theorem Do{f:Fl}:(Kd.fs f).valid↔f.asc/\f.av:=by
 simp only [Kd.valid,gk];exact⟨λ⟨a,b⟩=>⟨ET a,b⟩,λ⟨a,b⟩=>⟨H5 f a b,b⟩⟩
theorem nk:∀(n:Nat) (a:Kd),a.sz<=n->a.valid->a.ok
 | 0,a,h,_=>by cases a <;> simp [Kd.sz] at h
 | n+1,a,h,hv=>by
  cases a with
  | base x=>trivial
  | ent s=>trivial
  | set p=>simp only [Kd.sz] at h;exact nk n p (by omega) hv
  | fs f =>
   simp only [Kd.sz] at h
   obtain⟨h1,h2⟩:=Do.1 hv
   refine⟨h1,?_⟩
   have key:∀g:Fl,g.sz<=n->g.av->g.ok:=by
    intro g hs hg
    induction g using Fl.rec (motive_1:=λ_=>True) with
    | nil=>trivial
    | cons s m k r _ ih =>
     simp only [Fl.sz] at hs
     exact⟨nk n k (by omega) hg.2.1,ih (by omega) hg.2.2⟩
    | _=>trivial
   exact key f (by omega) h2
theorem Kd.valid.ok{a:Kd}(h:a.valid):a.ok:=nk _ a (Nat.le_refl _) h
abbrev Kfd:=ByteArray × Bool × Kd
def Fl.list:Fl->List Kfd
 | .nil => []
 | .cons s m k r=>(s,m,k):: r.list
def ofL:List Kfd->Fl
 | [] => .nil
 | y :: r => .cons y.1 y.2.1 y.2.2 (ofL r)
def Lp:List Nd->ByteArray
 | []=>emp
 | x :: _=>x.s
def GP(L:List Kd):Kd:=L.foldl pL (.base 49)
def Js:Nat->List Nd->Kd
 | 0,_ => .base 49
 | m+1,P =>
  if zf P=1 then .base 41 else if zf P=2 then .base 42 else if zf P=3 then .base 43 else if zf P=4 then .ent (Lp P)
  else if zf P=5 then .set (GP ((zq P).map (Js m)))
  else .fs (ofL ((zr P).map λx=>(x.1,true,Js m x.2)))
def Nw(P:List Nd):Kd:=Js (P.length+1) P
theorem Dk{L:List (List Nd)}{Q:List Nd}(h:Q∈L):Q.length<=L.flatten.length:=by
 induction L with
 | nil=>cases h
 | cons a r ih =>
  rw [List.flatten_cons,List.length_append]
  rcases List.mem_cons.1 h with rfl|h
  ·omega
  ·have:=ih h;omega
theorem Al{L:List (ByteArray × List Nd)}{x:ByteArray × List Nd}(h:x∈L):x.2.length<(zL L).length:=by
 induction L with
 | nil=>cases h
 | cons a r ih =>
  simp only [zL,List.length_cons,List.length_append]
  rcases List.mem_cons.1 h with rfl|h
  ·omega
  ·have:=ih h;omega
theorem uP{P:List Nd}(h:IsV P)(h5:zf P=5){Q:List Nd}(hQ:Q∈zq P):Q.length<P.length:=by
 obtain⟨e,-,-,-⟩:=eB h h5;have:=Dk hQ;rw [e,List.length_cons];omega
theorem uM{P:List Nd}(h:IsV P)(h6:zf P=6){x:ByteArray × List Nd}(hx:x∈zr P):x.2.length<P.length:=by
 obtain⟨e,-,-,-⟩:=eF h h6;have:=Al hx;rw [e,List.length_cons];omega
theorem Eh{P:List Nd}(h:IsV P):∃x r,P=x :: r/\zu x=true/\x.op≠7:=by
 have hp:=h.pos;unfold IsV at h;rcases P with _|⟨x,r⟩
 ·simp at hp
 refine⟨x,r,rfl,?_⟩;simp only [zm,List.getElem?_cons_zero] at h;by_cases hs:zu x=true
 ·refine⟨hs,λh7=>?_⟩;rw [if_pos hs,h7,if_neg (by decide),if_neg (by decide),if_pos rfl] at h;cases h
 ·rw [if_neg hs] at h;cases h
theorem FW{P:List Nd}(h:IsV P)(h5:zf P≠5)(h6:zf P≠6):P.length=1:=by
 obtain⟨x,r,rfl,hs,h7⟩:=Eh h;rw [uy] at h5 h6;unfold IsV at h;simp only [zm,List.getElem?_cons_zero] at h;rw [if_pos hs,if_neg h5,if_neg h6,if_neg h7] at h;simpa using h.symm
theorem se(M:List Nd->Prop)(h1:∀P,IsV P->zf P≠5->zf P≠6->M P)(h5:∀P,IsV P->zf P=5->(∀Q∈zq P,M Q)->M P)(h6:∀P,IsV P->zf P=6->(∀x∈zr P,M x.2)->M P):
 ∀(n:Nat) (P:List Nd),P.length<=n->IsV P->M P
 | 0,P,h,hP=>by have:=hP.pos;omega
 | n+1,P,h,hP=>by
  by_cases e5:zf P=5
  ·exact h5 P hP e5 λQ hQ=>se M h1 h5 h6 n Q (by have:=uP hP e5 hQ;omega) ((eB hP e5).2.2.1 Q hQ)
  ·by_cases e6:zf P=6
   ·exact h6 P hP e6 λx hx=>se M h1 h5 h6 n x.2 (by have:=uM hP e6 hx;omega) ((eF hP e6).2.2.1 x hx).1
   ·exact h1 P hP e5 e6
theorem JZ{M:List Nd->Prop}{P:List Nd}(hP:IsV P)(h1:∀P,IsV P->zf P≠5->zf P≠6->M P)(h5:∀P,IsV P->zf P=5->(∀Q∈zq P,M Q)->M P)(h6:∀P,IsV P->zf P=6->(∀x∈zr P,M x.2)->M P):M P :=
 se M h1 h5 h6 _ P (Nat.le_refl _) hP
def Ls(T V:List Nd):Int:=if qi T=0 then zc V else qi T
def Lx(T V:List Nd):Bool:=decide (Ls T V=0)&&(match DU T with
 | some k=>x8 (Nw V) k
 | none=>false)
structure KD where
 nm:ByteArray
 up:List ByteArray
 P:List Nd
structure AD where
 id:ByteArray
 who:List ByteArray
 what:List ByteArray
 P:List Nd
theorem al{x y:Int}:or2 x y=0↔x=0/\y=0:=by
 unfold or2;split
 ·rename_i h;simp [h]
 ·rename_i h;simp [h]
def JI(K:List KD)(s:ByteArray):Option KD:=K.find? λk=>decide (k.nm=s)
end Go.Wk
