/-
  Plain: the least type above two is above both, and below whatever is. No ..
-/
import Derived.Test.YtokiogmfgpidmaaGreatDoorD6
import Derived.Test.YtokiogmfgpidmaaGreatDoorD10
set_option maxRecDepth 100000
namespace Go.Wk
def Fl.av:Fl->Prop
 | .nil=>True
 | .cons s _ k r=>zh s=0/\k.valid/\r.av
theorem znJ{s:ByteArray}(h:zh s=0):jh emp s<0:=by
 have hne:s≠emp:=λe=>by subst e;exact absurd h (by decide)
 rcases jf.rng emp s with e|e|e
 ·omega
 ·exact absurd ((jf.zero _ _).1 e).symm hne
 ·exfalso;unfold jh at e;have:emp.data.toList = []:=rfl;rw [this] at e
  cases hs:s.data.toList with
  | nil=>exact hne (ql (by rw [hs];rfl))
  | cons a l=>rw [hs] at e;simp [Lib.compareBytes] at e
theorem OR:∀(f:Fl) (x:ByteArray),f.validFrom x↔f.ascFrom x/\f.av
 | .nil,_=>by simp [Fl.validFrom,Fl.ascFrom,Fl.av]
 | .cons s m k r,x=>by
  simp only [Fl.validFrom,Fl.ascFrom,Fl.av,OR r s];constructor
  ·rintro ⟨a,b,c,d,e⟩;exact⟨⟨a,d⟩,b,c,e⟩
  ·rintro ⟨⟨a,d⟩,b,c,e⟩;exact⟨a,b,c,d,e⟩
theorem zlV:∀f:Fl,f.asc->f.av->f.ascFrom emp
 | .nil,_,_=>trivial
 | .cons _ _ _ _,h,hv=>⟨znJ hv.1,h⟩
theorem ziJ{f:Fl}:(Kd.fs f).valid↔f.asc/\f.av:=by
 simp only [Kd.valid,OR];exact⟨λ⟨a,b⟩=>⟨ziV a,b⟩,λ⟨a,b⟩=>⟨zlV f a b,b⟩⟩
theorem Uo:∀(n:Nat) (a:Kd),a.sz<=n->a.valid->a.ok
 | 0,a,h,_=>by cases a <;> simp [Kd.sz] at h
 | n+1,a,h,hv=>by
  cases a with
  | base x=>trivial
  | ent s=>trivial
  | set p=>simp only [Kd.sz] at h;exact Uo n p (by omega) hv
  | fs f =>
   simp only [Kd.sz] at h
   obtain⟨h1,h2⟩:=ziJ.1 hv
   refine⟨h1,?_⟩
   have key:∀g:Fl,g.sz<=n->g.av->g.ok:=by
    intro g hs hg
    induction g using Fl.rec (motive_1:=λ_=>True) with
    | nil=>trivial
    | cons s m k r _ ih =>
     simp only [Fl.sz] at hs
     exact⟨Uo n k (by omega) hg.2.1,ih (by omega) hg.2.2⟩
    | _=>trivial
   exact key f (by omega) h2
theorem Kd.valid.ok{a:Kd}(h:a.valid):a.ok:=Uo _ a (Nat.le_refl _) h
abbrev Kfd:=ByteArray × Bool × Kd
def Fl.list:Fl->List Kfd
 | .nil => []
 | .cons s m k r=>(s,m,k):: r.list
def ofL:List Kfd->Fl
 | [] => .nil
 | y :: r => .cons y.1 y.2.1 y.2.2 (ofL r)
def zpp:List Nd->ByteArray
 | []=>emp
 | x :: _=>x.s
def zkT(L:List Kd):Kd:=L.foldl zil (.base 49)
def znK:Nat->List Nd->Kd
 | 0,_ => .base 49
 | m+1,P =>
  if zf P=1 then .base 41 else if zf P=2 then .base 42 else if zf P=3 then .base 43 else if zf P=4 then .ent (zpp P)
  else if zf P=5 then .set (zkT ((zg P).map (znK m)))
  else .fs (ofL ((zo P).map λx=>(x.1,true,znK m x.2)))
def zq0(P:List Nd):Kd:=znK (P.length+1) P
theorem zh4{L:List (List Nd)}{Q:List Nd}(h:Q∈L):Q.length<=L.flatten.length:=by
 induction L with
 | nil=>cases h
 | cons a r ih =>
  rw [List.flatten_cons,List.length_append]
  rcases List.mem_cons.1 h with rfl|h
  ·omega
  ·have:=ih h;omega
theorem zg0{L:List (ByteArray × List Nd)}{x:ByteArray × List Nd}(h:x∈L):x.2.length<(zw L).length:=by
 induction L with
 | nil=>cases h
 | cons a r ih =>
  simp only [zw,List.length_cons,List.length_append]
  rcases List.mem_cons.1 h with rfl|h
  ·omega
  ·have:=ih h;omega
theorem zbN{P:List Nd}(h:IsV P)(h5:zf P=5){Q:List Nd}(hQ:Q∈zg P):Q.length<P.length:=by
 obtain⟨e,-,-,-⟩:=ER h h5;have:=zh4 hQ;rw [e,List.length_cons];omega
theorem ZY{P:List Nd}(h:IsV P)(h6:zf P=6){x:ByteArray × List Nd}(hx:x∈zo P):x.2.length<P.length:=by
 obtain⟨e,-,-,-⟩:=Kh h h6;have:=zg0 hx;rw [e,List.length_cons];omega
theorem U7{P:List Nd}(h:IsV P):∃x r,P=x :: r/\zq x=true/\x.op≠7:=by
 have hp:=h.pos;unfold IsV at h;rcases P with _|⟨x,r⟩
 ·simp at hp
 refine⟨x,r,rfl,?_⟩;simp only [zl,List.getElem?_cons_zero] at h;by_cases hs:zq x=true
 ·refine⟨hs,λh7=>?_⟩;rw [if_pos hs,h7,if_neg (by decide),if_neg (by decide),if_pos rfl] at h;cases h
 ·rw [if_neg hs] at h;cases h
theorem znO{P:List Nd}(h:IsV P):zf P=1\/zf P=2\/zf P=3\/zf P=4\/zf P=5\/zf P=6:=by
 obtain⟨x,r,rfl,hs,h7⟩:=U7 h;rw [NE];unfold zq at hs;by_cases h1:x.op=1
 ·omega
 by_cases h2:x.op=2
 ·omega
 by_cases h3:x.op=3
 ·omega
 by_cases h4:x.op=4
 ·omega
 by_cases h56:x.op=5\/x.op=6
 ·omega
 simp [h1,h2,h3,h4,h56,h7] at hs
theorem zba{P:List Nd}(h:IsV P)(h5:zf P≠5)(h6:zf P≠6):P.length=1:=by
 obtain⟨x,r,rfl,hs,h7⟩:=U7 h;rw [NE] at h5 h6;unfold IsV at h;simp only [zl,List.getElem?_cons_zero] at h;rw [if_pos hs,if_neg h5,if_neg h6,if_neg h7] at h;simpa using h.symm
theorem Zn(M:List Nd->Prop)(h1:∀P,IsV P->zf P≠5->zf P≠6->M P)(h5:∀P,IsV P->zf P=5->(∀Q∈zg P,M Q)->M P)(h6:∀P,IsV P->zf P=6->(∀x∈zo P,M x.2)->M P):
 ∀(n:Nat) (P:List Nd),P.length<=n->IsV P->M P
 | 0,P,h,hP=>by have:=hP.pos;omega
 | n+1,P,h,hP=>by
  by_cases e5:zf P=5
  ·exact h5 P hP e5 λQ hQ=>Zn M h1 h5 h6 n Q (by have:=zbN hP e5 hQ;omega) ((ER hP e5).2.2.1 Q hQ)
  ·by_cases e6:zf P=6
   ·exact h6 P hP e6 λx hx=>Zn M h1 h5 h6 n x.2 (by have:=ZY hP e6 hx;omega) ((Kh hP e6).2.2.1 x hx).1
   ·exact h1 P hP e5 e6
theorem ziH{M:List Nd->Prop}{P:List Nd}(hP:IsV P)(h1:∀P,IsV P->zf P≠5->zf P≠6->M P)(h5:∀P,IsV P->zf P=5->(∀Q∈zg P,M Q)->M P)(h6:∀P,IsV P->zf P=6->(∀x∈zo P,M x.2)->M P):M P :=
 Zn M h1 h5 h6 _ P (Nat.le_refl _) hP
def zpd(T V:List Nd):Int:=if Xi T=0 then zc V else Xi T
def zpk(T V:List Nd):Bool:=decide (zpd T V=0)&&(match zmC T with
 | some k=>zdO (zq0 V) k
 | none=>false)
structure KD where
 nm:ByteArray
 up:List ByteArray
 P:List Nd
structure AD where
 id:ByteArray
 who:List ByteArray
 what:List ByteArray
 P:List Nd
end Go.Wk
