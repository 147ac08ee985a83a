/-
  Plain: the record's fields stand as slices.Sort puts the names. Plain: the ..
-/
import Derived.Test.YthidiimbeaabhaaGreatDoorQ8
set_option maxRecDepth 100000
namespace Go.Wk
theorem gV:∀a b:List UInt8,Lib.compareBytes a b<0->a<b
 | [],[],h=>by simp [Lib.compareBytes] at h
 | [],_ :: _,_=>List.Lex.nil
 | _ :: _,[],h=>by simp [Lib.compareBytes] at h
 | x :: a,y :: b,h=>by
  unfold Lib.compareBytes at h;by_cases h1:x<y
  ·exact List.Lex.rel h1
  ·by_cases h2:y<x
   ·simp [h1,h2] at h
   ·have:x=y:=UInt8.le_antisymm (UInt8.not_lt.1 h2) (UInt8.not_lt.1 h1);subst this;simp at h;exact List.Lex.cons (gV a b h)
theorem qM{Z:List Fld}(hn:(Z.map (·.1)).Nodup):
 (cO Z).map (λx=>x.1.data.toList)=((Z.map (·.1)).map λx=>x.data.toList).mergeSort λx y=>decide (x<=y):=by
 refine List.Perm.eq_of_pairwise (le:=λx y:List UInt8=>x<=y) (λa b _ _ h1 h2=>List.le_antisymm h1 h2) ?_ ?_ ?_
 ·rw [List.pairwise_map];refine(pW hn).imp λ{a b} h=>?_;exact List.le_of_lt (gV _ _ h)
 ·have h:=List.pairwise_mergeSort (le:=λx y:List UInt8=>decide (x<=y)) (λa b c h1 h2=>by simp only [decide_eq_true_eq] at *;exact List.le_trans h1 h2) (λa b=>by simp only [Bool.or_eq_true,decide_eq_true_eq];exact List.le_total a b) ((Z.map (·.1)).map λx=>x.data.toList);exact h.imp λ{a b} h=>by simpa using h
 ·refine List.Perm.trans ?_ (List.mergeSort_perm _ _).symm;rw [List.map_map];exact(aW Z).map _
theorem XAt.none{t:List Nd}{p:Nat}{n:Nd}{ps:Exs}(h:XAt t p false (.node n ps))(hp:zJ n=0):ps = .nil/\(Ex.node n ps).flat.length=1:=by
 have h2:=h.valid.2.1;rw [hp] at h2
 cases ps with
 | nil=>exact⟨rfl,by simp [Ex.flat,Exs.flat]⟩
 | cons a r=>simp only [Exs.len] at h2;omega
theorem XAt.one{t:List Nd}{p:Nat}{n:Nd}{ps:Exs}(h:XAt t p false (.node n ps))(hp:zJ n=1)(hr:ae n=false):
 ∃a,ps = .cons a .nil/\XAt t (p+1) false a/\(Ex.node n ps).flat.length=a.flat.length+1:=by
 have h2:=h.valid.2.1;have hs:=h.parts;rw [show(Ex.node n ps).head=n from rfl,hr] at hs;rw [hp] at h2
 cases ps with
 | nil=>simp only [Exs.len] at h2;omega
 | cons a r =>
  cases r with
  | cons b r=>simp only [Exs.len] at h2;omega
  | nil=>exact⟨a,rfl,hs.head.1,by simp [Ex.flat,Exs.flat]⟩
theorem XAt.two{t:List Nd}{p:Nat}{n:Nd}{ps:Exs}(h:XAt t p false (.node n ps))(hp:zJ n=2)(hr:ae n=false):
 ∃a b,ps = .cons a (.cons b .nil)/\XAt t (p+1) false a/\XAt t (p+1+a.flat.length) false b/\(Ex.node n ps).flat.length=a.flat.length+b.flat.length+1:=by
 have h2:=h.valid.2.1;have hs:=h.parts;rw [show(Ex.node n ps).head=n from rfl,hr] at hs;rw [hp] at h2
 cases ps with
 | nil=>simp only [Exs.len] at h2;omega
 | cons a r =>
  cases r with
  | nil=>simp only [Exs.len] at h2;omega
  | cons b r =>
   cases r with
   | cons c r=>simp only [Exs.len] at h2;omega
   | nil =>
    have h3:iy t (p+1) false (.cons a (.cons b .nil)):=hs
    exact⟨a,b,rfl,h3.head.1,h3.head.2.head.1,by simp [Ex.flat,Exs.flat] <;> omega⟩
theorem XAt.three{t:List Nd}{p:Nat}{n:Nd}{ps:Exs}(h:XAt t p false (.node n ps))(hp:zJ n=3)(hr:ae n=false):
 ∃a b c,ps = .cons a (.cons b (.cons c .nil))/\XAt t (p+1) false a/\XAt t (p+1+a.flat.length) false b/\XAt t (p+1+a.flat.length+b.flat.length) false c/\(Ex.node n ps).flat.length=a.flat.length+b.flat.length+c.flat.length+1:=by
 have h2:=h.valid.2.1;have hs:=h.parts;rw [show(Ex.node n ps).head=n from rfl,hr] at hs;rw [hp] at h2
 cases ps with
 | nil=>simp only [Exs.len] at h2;omega
 | cons a r =>
  cases r with
  | nil=>simp only [Exs.len] at h2;omega
  | cons b r =>
   cases r with
   | nil=>simp only [Exs.len] at h2;omega
   | cons c r =>
    cases r with
    | cons d r=>simp only [Exs.len] at h2;omega
    | nil =>
     have h3:iy t (p+1) false (.cons a (.cons b (.cons c .nil))):=hs
     exact⟨a,b,c,rfl,h3.head.1,h3.head.2.head.1,h3.head.2.head.2.head.1,by simp [Ex.flat,Exs.flat] <;> omega⟩
theorem XAt.ways{t:List Nd}{p:Nat}{n:Nd}{ps:Exs}(h:XAt t p false (.node n ps)):
 (1<=n.op/\n.op<=4/\zJ n=0)\/(n.op=8/\zJ n=0)\/((n.op=11\/n.op=12)/\zJ n=2)\/(n.op=13/\zJ n=3)\/n.op=5\/n.op=6\/
 ((n.op=9\/n.op=10\/n.op=21\/n.op=22\/n.op=23\/n.op=24)/\zJ n=1)\/((14<=n.op/\n.op<=20\/25<=n.op/\n.op<=27)/\zJ n=2):=by
 obtain⟨h1,h2,-⟩:=h.valid;unfold cL at h1;rw [Bool.and_eq_true] at h1;have h7:n.op≠7:=by simpa using h1.2
 have h3:0<=zJ n:=by omega
 unfold zJ at h3 ⊢;by_cases g5:n.op=5
 ·omega
 by_cases g6:n.op=6
 ·omega
 rw [if_neg (by omega)] at h3 ⊢;by_cases g1:1<=n.op/\n.op<=4\/n.op=8
 ·rw [if_pos g1];omega
 rw [if_neg g1] at h3 ⊢;by_cases g2:n.op=7\/n.op=9\/n.op=10\/21<=n.op/\n.op<=24
 ·rw [if_pos g2];omega
 rw [if_neg g2] at h3 ⊢;by_cases g3:n.op=13
 ·rw [if_pos g3];omega
 rw [if_neg g3] at h3 ⊢;by_cases g4:11<=n.op/\n.op<=20\/25<=n.op/\n.op<=27
 ·rw [if_pos g4];omega
 ·rw [if_neg g4] at h3;omega
theorem me{n:Nd}(h:n.op≠6):ae n=false:=decide_eq_false h
end Go.Wk
