/-
  Plain: a text between quotes, and what was quoted; a uid as a text. No program ..
-/
import Derived.Test.YthidiimbeaabhaaGreatDoorQ1
set_option maxRecDepth 100000
namespace Go.Wk
def quo:List UInt8->List UInt8
 | [] => []
 | b :: r=>if b=34\/b=92 then 92 :: b :: quo r else b :: quo r
theorem eR(l:List UInt8):l.length<=(quo l).length/\(quo l).length<=2*l.length:=by
 induction l with
 | nil=>simp [quo]
 | cons b r ih =>
  by_cases h:b=34\/b=92
  ·rw [quo,if_pos h];simp only [List.length_cons];omega
  ·rw [quo,if_neg h];simp only [List.length_cons];omega
theorem nS(a b:List UInt8):quo (a ++ b)=quo a ++ quo b:=by
 induction a with
 | nil=>rfl
 | cons x r ih =>
  by_cases h:x=34\/x=92
  ·simp only [List.cons_append,quo,if_pos h,ih]
  ·simp only [List.cons_append,quo,if_neg h,ih]
theorem pB(l:List UInt8):(quo l).length=l.length+l.count 34+l.count 92:=by
 induction l with
 | nil=>rfl
 | cons b r ih =>
  by_cases h1:b=34
  ·subst h1;simp only [quo,true_or,if_true,List.length_cons,List.count_cons_self,ih,List.count_cons_of_ne (show(34:UInt8)≠92 by decide)];omega
  ·by_cases h2:b=92
   ·subst h2;simp only [quo,or_true,if_true,List.length_cons,List.count_cons_self,ih,List.count_cons_of_ne (show(92:UInt8)≠34 by decide)];omega
   ·simp only [quo,if_neg (show¬(b=34\/b=92) from λe=>e.elim h1 h2),List.length_cons,ih,List.count_cons_of_ne h1,List.count_cons_of_ne h2];omega
theorem tm{l:List UInt8}(h1:l.count 34=0)(h2:l.count 92=0):quo l=l:=by
 induction l with
 | nil=>rfl
 | cons b r ih =>
  have a1:b≠34:=λe=>by subst e;simp at h1
  have a2:b≠92:=λe=>by subst e;simp at h2
  rw [List.count_cons_of_ne a1] at h1
  rw [List.count_cons_of_ne a2] at h2
  rw [quo,if_neg (λe=>e.elim a1 a2),ih h1 h2]
def bv(l:List UInt8):ByteArray:=⟨l.toArray⟩
theorem eQ(l:List UInt8):(bv l).data.toList=l:=by simp [bv]
theorem kd(l:List UInt8):(bv l).size=l.length:=List.size_toArray
theorem mU(s:ByteArray):bv s.data.toList=s:=j4 (eQ _)
def quoted(s:ByteArray):ByteArray:=bv (34 :: quo s.data.toList ++ [34])
def FW(s:ByteArray):ByteArray:=if zA s=0 then quoted s else⟨#[]⟩
def H9(s:ByteArray):List UInt8:=(s.data.toList.drop 1).take (s.size-2)
def inQ(s:ByteArray):Prop:=2<=s.size/\s.data.toList[0]?=some 34/\s.data.toList[s.size-1]?=some 34
instance (s:ByteArray):Decidable (inQ s):=by unfold inQ;infer_instance
theorem gh(s:ByteArray):s.data.toList.length=s.size:=by simp
theorem tU(s:ByteArray):(quoted s).data.toList=34 :: quo s.data.toList ++ [34]:=eQ _
theorem uf(s:ByteArray):(quoted s).size=(quo s.data.toList).length+2:=by
 unfold quoted;rw [kd];simp
abbrev Ud:=ByteArray × ByteArray
def zq(u:Ud):Int:=if zk u.1=0 then zA u.2 else zk u.1
def bC(N:List Ud)(p:Ud):Bool:=N.any λy=>decide (y=p)
theorem ay{N:List Ud}{p:Ud}:bC N p=true↔p∈N:=by
 unfold bC;rw [List.any_eq_true];constructor
 ·rintro ⟨y,hy,e⟩;have:=of_decide_eq_true e;subst this;exact hy
 ·intro h;exact⟨p,h,decide_eq_true rfl⟩
theorem BL{N:List Ud}{p:Ud}:bC N p=false↔p ∉ N:=by
 rw [<-ay];simp
def bH:List Ud->List Ud->Int
 | _,[]=>0
 | N,p :: r=>if zq p=0 then(if bC N p=true then 6 else bH (N ++ [p]) r) else zq p
def Stp(G:List (Ud × List Ud))(u p:Ud):Prop:=∃e∈G,e.1=u/\p∈e.2
inductive Abv (G:List (Ud × List Ud)):Ud->Ud->Prop
 | one {u p:Ud}:Stp G u p->Abv G u p
 | more {u p q:Ud}:Stp G u p->Abv G p q->Abv G u q
theorem Abv.trans{G:List (Ud × List Ud)}{u p q:Ud}(h:Abv G u p)(k:Abv G p q):Abv G u q:=by
 induction h with
 | one h=>exact .more h k
 | more h _ ih=>exact .more h (ih k)
theorem Abv.snoc{G:List (Ud × List Ud)}{u p q:Ud}(h:Abv G u p)(k:Stp G p q):Abv G u q:=h.trans (.one k)
theorem Abv.split{G:List (Ud × List Ud)}{u q:Ud}(h:Abv G u q):∃p,Stp G u p/\(p=q\/Abv G p q):=by
 cases h with
 | one h=>exact⟨_,h,.inl rfl⟩
 | more h k=>exact⟨_,h,.inr k⟩
theorem mT{G:List (Ud × List Ud)}{C:Ud->Prop}(hC:∀x,C x->∀y,Stp G x y->C y){u:Ud}(hu:∀y,Stp G u y->C y):∀y,Abv G u y->C y:=by
 have key:∀x y,Abv G x y->C x->C y:=λx y h=>by
  induction h with
  | one h=>exact λhx=>hC _ hx _ h
  | more h _ ih=>exact λhx=>ih (hC _ hx _ h)
 intro y h;rcases h.split with ⟨p,hp,rfl|h'⟩
 ·exact hu _ hp
 ·exact key _ _ h' (hu _ hp)
def less(G:List (Ud × List Ud))(u:Ud):List (Ud × List Ud):=G.filter λe=>decide (e.1≠u)
end Go.Wk
