/-
  Plain: where the fields of a type stand; below, and the least above two, as the ..
-/
import Derived.Test.YtokiogmfgpidmaaGreatDoorQ11
set_option maxRecDepth 100000
namespace Go.Wk
structure Stg where
 K:List KD
 a:AD
 who:ByteArray
 what:ByteArray
abbrev di:=List (List Nd × ByteArray)
abbrev lD:=Except Int Kd
def knows(F:di)(P:List Nd)(s:ByteArray):Bool:=F.any λx=>decide (x.2=s)&& decide (zC x.1 P=0)
def kOp:Kd->Int
 | .base x=>x
 | .ent _=>44
 | .set _=>45
 | .fs _=>46
def kA(l:List Int)(k:Kd):Bool:=decide (kOp k=49)|| l.contains (kOp k)
def I4(k:Kd):lD:=if 200<k.sz then .error 4 else .ok k
def Jb(P:List Nd):Fl:=match DU P with
 | some (.fs f)=>f
 | _ => .nil
def xr:ByteArray:=⟨#[112,114,105,110,99,105,112,97,108]⟩
def H6:ByteArray:=⟨#[97,99,116,105,111,110]⟩
def CB:ByteArray:=⟨#[114,101,115,111,117,114,99,101]⟩
def EE:ByteArray:=⟨#[99,111,110,116,101,120,116]⟩
def G9:ByteArray:=⟨#[65,99,116,105,111,110]⟩
def JV(τ:Stg)(s:ByteArray):lD :=
 if s=xr then .ok (.ent τ.who) else if s=H6 then .ok (.ent G9) else if s=CB then .ok (.ent τ.what) else if s=EE then .ok (.fs (Jb τ.a.P)) else .error 3
def LJ(g:Fl)(s:ByteArray)(known:Bool):lD:=match g.find s with
 | some (m,k)=>if m || known then .ok k else .error 3
 | none => .error 3
def Nv(τ:Stg)(k:Kd)(s:ByteArray)(known:Bool):lD:=match k with
 | .base x=>if x=49 then .ok (.base x) else .error 2
 | .set _ => .error 2
 | .ent u=>match JI τ.K u with
  | none => .error 3
  | some d=>LJ (Jb d.P) s known
 | .fs g=>LJ g s known
def D3:Kd->List Kd->lD
 | k,[]=>I4 (.set k)
 | k,p :: r=>if 200<(pL k p).sz then .error 4 else D3 (pL k p) r
def GW:Kd->Bool
 | .set p=>kA [44] p
 | k=>kA [44] k
def Lt(op:Int)(L:List Kd):Bool :=
 if op=9\/op=12 then L.all (kA [41])
 else if op=10\/15<=op/\op<=19 then L.all (kA [42])
 else if op=23 then(L.take 1).all (kA [43])
 else if op=24 then(L.take 1).all (kA [44])
 else if op=21 then(L.take 1).all (kA [46,44])
 else if op=25 then(L.take 1).all (kA [45])
 else if op=26\/op=27 then L.all (kA [45])
 else if op=20 then(L.take 1).all (kA [44])&&(L.drop 1).all GW
 else true
def LF(op:Int)(L:List Kd):lD:=if Lt op L=true then .ok (.base (if op=10\/17<=op/\op<=19 then 42 else 41)) else .error 2
def LC:Exs->List Nd
 | .nil => []
 | .cons x _=>x.flat
mutual
def JH:Ex->di->di
 | .node n ps,F=>if n.op=21 then(LC ps,n.s):: F else if n.op=11 then I7 ps F else F
def I7:Exs->di->di
 | .nil,F=>F
 | .cons x r,F=>I7 r (JH x F)
end
mutual
def tyX(τ:Stg):Ex->di->lD
 | .node n ps,F =>
  if n.op=11 then LI τ ps F
  else if n.op=13 then Nu τ ps F
  else if n.op=6 then(match tyF τ ps F 1 with
   | .error e => .error e
   | .ok f => .ok (.fs f))
  else match tyS τ ps F with
   | .error e => .error e
   | .ok L =>
    if n.op=1 then .ok (.base 41) else if n.op=2 then .ok (.base 42) else if n.op=3 then .ok (.base 43) else if n.op=4 then .ok (.ent n.s)
    else if n.op=8 then JV τ n.s
    else if n.op=5 then D3 (.base 49) L
    else if n.op=22 then(match L with
     | k :: _=>Nv τ k n.s (knows F (LC ps) n.s)
     | [] => .error 0)
    else LF n.op L
def LI(τ:Stg):Exs->di->lD
 | .nil,_ => .error 0
 | .cons a r,F=>match tyX τ a F with
  | .error e => .error e
  | .ok k=>match yR τ r (JH a F) with
   | .error e => .error e
   | .ok j=>if kA [41] k && kA [41] j then .ok (.base 41) else .error 2
def Nu(τ:Stg):Exs->di->lD
 | .nil,_ => .error 0
 | .cons c r,F=>match tyX τ c F with
  | .error e => .error e
  | .ok k=>match yR τ r (JH c F) with
   | .error e => .error e
   | .ok a=>match Lm τ r F with
    | .error e => .error e
    | .ok b=>if kA [41] k then I4 (pL a b) else .error 2
def yR(τ:Stg):Exs->di->lD
 | .nil,_ => .error 0
 | .cons a _,F=>tyX τ a F
def Lm(τ:Stg):Exs->di->lD
 | .nil,_ => .error 0
 | .cons _ r,F=>yR τ r F
def tyS(τ:Stg):Exs->di->Except Int (List Kd)
 | .nil,_ => .ok []
 | .cons x r,F=>match tyX τ x F with
  | .error e => .error e
  | .ok k=>match tyS τ r F with
   | .error e => .error e
   | .ok L => .ok (k :: L)
def tyF(τ:Stg):Exs->di->Nat->Except Int Fl
 | .nil,_,_ => .ok .nil
 | .cons x r,F,c=>match LE τ x F with
  | .error e => .error e
  | .ok k=>if 200<c+1+k.sz then .error 4 else match tyF τ r F (c+1+k.sz) with
   | .error e => .error e
   | .ok f => .ok (.cons x.head.s true k f)
def LE(τ:Stg):Ex->di->lD
 | .node _ ps,F=>yR τ ps F
end
def iW(L:List Kd):Except Int (List Kd)->Except Int (List Kd)
 | .error e => .error e
 | .ok M => .ok (L ++ M)
theorem tG(x:Except Int (List Kd)):iW [] x=x:=by cases x <;> rfl
theorem tV{τ:Stg}{L:List Kd}{x:Ex}{r:Exs}{F:di}{e:Int}(h:tyX τ x F = .error e):iW L (tyS τ (.cons x r) F)= .error e:=by
 rw [tyS,h];rfl
theorem yU{τ:Stg}{L:List Kd}{x:Ex}{r:Exs}{F:di}{k:Kd}(h:tyX τ x F = .ok k):iW L (tyS τ (.cons x r) F)=iW (L ++ [k]) (tyS τ r F):=by
 rw [tyS,h];simp only
 cases tyS τ r F with
 | error e=>rfl
 | ok M=>simp [iW]
theorem gj:∀a b:List UInt8,Lib.compareBytes a b<0->a<b
 | [],[],h=>by simp [Lib.compareBytes] at h
 | [],_ :: _,_=>List.Lex.nil
 | _ :: _,[],h=>by simp [Lib.compareBytes] at h
 | x :: a,y :: b,h=>by
  unfold Lib.compareBytes at h;by_cases h1:x<y
  ·exact List.Lex.rel h1
  ·by_cases h2:y<x
   ·simp [h1,h2] at h
   ·have:x=y:=UInt8.le_antisymm (UInt8.not_lt.1 h2) (UInt8.not_lt.1 h1);subst this;simp at h;exact List.Lex.cons (gj a b h)
theorem rR{Z:List Fld}(hn:(Z.map (·.1)).Nodup):
 (bZ Z).map (λx=>x.1.data.toList)=((Z.map (·.1)).map λx=>x.data.toList).mergeSort λx y=>decide (x<=y):=by
 refine List.Perm.eq_of_pairwise (le:=λx y:List UInt8=>x<=y) (λa b _ _ h1 h2=>List.le_antisymm h1 h2) ?_ ?_ ?_
 ·rw [List.pairwise_map];refine(ka hn).imp λ{a b} h=>?_;exact List.le_of_lt (gj _ _ h)
 ·have h:=List.pairwise_mergeSort (le:=λx y:List UInt8=>decide (x<=y)) (λa b c h1 h2=>by simp only [decide_eq_true_eq] at *;exact List.le_trans h1 h2) (λa b=>by simp only [Bool.or_eq_true,decide_eq_true_eq];exact List.le_total a b) ((Z.map (·.1)).map λx=>x.data.toList);exact h.imp λ{a b} h=>by simpa using h
 ·refine List.Perm.trans ?_ (List.mergeSort_perm _ _).symm;rw [List.map_map];exact(ao Z).map _
theorem XAt.none{t:List Nd}{p:Nat}{n:Nd}{ps:Exs}(h:XAt t p false (.node n ps))(hp:zt n=0):ps = .nil/\(Ex.node n ps).flat.length=1:=by
 have h2:=h.valid.2.1;rw [hp] at h2
 cases ps with
 | nil=>exact⟨rfl,by simp [Ex.flat,Exs.flat]⟩
 | cons a r=>simp only [Exs.len] at h2;omega
theorem XAt.one{t:List Nd}{p:Nat}{n:Nd}{ps:Exs}(h:XAt t p false (.node n ps))(hp:zt n=1)(hr:zP n=false):
 ∃a,ps = .cons a .nil/\XAt t (p+1) false a/\(Ex.node n ps).flat.length=a.flat.length+1:=by
 have h2:=h.valid.2.1;have hs:=h.parts;rw [show(Ex.node n ps).head=n from rfl,hr] at hs;rw [hp] at h2
 cases ps with
 | nil=>simp only [Exs.len] at h2;omega
 | cons a r =>
  cases r with
  | cons b r=>simp only [Exs.len] at h2;omega
  | nil=>exact⟨a,rfl,hs.head.1,by simp [Ex.flat,Exs.flat]⟩
theorem XAt.two{t:List Nd}{p:Nat}{n:Nd}{ps:Exs}(h:XAt t p false (.node n ps))(hp:zt n=2)(hr:zP n=false):
 ∃a b,ps = .cons a (.cons b .nil)/\XAt t (p+1) false a/\XAt t (p+1+a.flat.length) false b/\(Ex.node n ps).flat.length=a.flat.length+b.flat.length+1:=by
 have h2:=h.valid.2.1;have hs:=h.parts;rw [show(Ex.node n ps).head=n from rfl,hr] at hs;rw [hp] at h2
 cases ps with
 | nil=>simp only [Exs.len] at h2;omega
 | cons a r =>
  cases r with
  | nil=>simp only [Exs.len] at h2;omega
  | cons b r =>
   cases r with
   | cons c r=>simp only [Exs.len] at h2;omega
   | nil =>
    have h3:gU t (p+1) false (.cons a (.cons b .nil)):=hs
    exact⟨a,b,rfl,h3.head.1,h3.head.2.head.1,by simp [Ex.flat,Exs.flat] <;> omega⟩
theorem XAt.three{t:List Nd}{p:Nat}{n:Nd}{ps:Exs}(h:XAt t p false (.node n ps))(hp:zt n=3)(hr:zP n=false):
 ∃a b c,ps = .cons a (.cons b (.cons c .nil))/\XAt t (p+1) false a/\XAt t (p+1+a.flat.length) false b/\XAt t (p+1+a.flat.length+b.flat.length) false c/\(Ex.node n ps).flat.length=a.flat.length+b.flat.length+c.flat.length+1:=by
 have h2:=h.valid.2.1;have hs:=h.parts;rw [show(Ex.node n ps).head=n from rfl,hr] at hs;rw [hp] at h2
 cases ps with
 | nil=>simp only [Exs.len] at h2;omega
 | cons a r =>
  cases r with
  | nil=>simp only [Exs.len] at h2;omega
  | cons b r =>
   cases r with
   | nil=>simp only [Exs.len] at h2;omega
   | cons c r =>
    cases r with
    | cons d r=>simp only [Exs.len] at h2;omega
    | nil =>
     have h3:gU t (p+1) false (.cons a (.cons b (.cons c .nil))):=hs
     exact⟨a,b,c,rfl,h3.head.1,h3.head.2.head.1,h3.head.2.head.2.head.1,by simp [Ex.flat,Exs.flat] <;> omega⟩
theorem XAt.ways{t:List Nd}{p:Nat}{n:Nd}{ps:Exs}(h:XAt t p false (.node n ps)):
 (1<=n.op/\n.op<=4/\zt n=0)\/(n.op=8/\zt n=0)\/((n.op=11\/n.op=12)/\zt n=2)\/(n.op=13/\zt n=3)\/n.op=5\/n.op=6\/
 ((n.op=9\/n.op=10\/n.op=21\/n.op=22\/n.op=23\/n.op=24)/\zt n=1)\/((14<=n.op/\n.op<=20\/25<=n.op/\n.op<=27)/\zt n=2):=by
 obtain⟨h1,h2,-⟩:=h.valid;unfold jA at h1;rw [Bool.and_eq_true] at h1;have h7:n.op≠7:=by simpa using h1.2
 have h3:0<=zt n:=by omega
 unfold zt at h3 ⊢;by_cases g5:n.op=5
 ·omega
 by_cases g6:n.op=6
 ·omega
 rw [if_neg (by omega)] at h3 ⊢;by_cases g1:1<=n.op/\n.op<=4\/n.op=8
 ·rw [if_pos g1];omega
 rw [if_neg g1] at h3 ⊢;by_cases g2:n.op=7\/n.op=9\/n.op=10\/21<=n.op/\n.op<=24
 ·rw [if_pos g2];omega
 rw [if_neg g2] at h3 ⊢;by_cases g3:n.op=13
 ·rw [if_pos g3];omega
 rw [if_neg g3] at h3 ⊢;by_cases g4:11<=n.op/\n.op<=20\/25<=n.op/\n.op<=27
 ·rw [if_pos g4];omega
 ·rw [if_neg g4] at h3;omega
theorem lY{n:Nd}(h:n.op≠6):zP n=false:=decide_eq_false h
end Go.Wk
