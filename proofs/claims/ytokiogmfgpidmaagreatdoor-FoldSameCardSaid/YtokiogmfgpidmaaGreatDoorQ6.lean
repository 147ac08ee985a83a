/-
  Plain: a text between quotes, and what was quoted; a uid as a text. No program ..
-/
import Derived.Test.YtokiogmfgpidmaaGreatDoorQ1
set_option maxRecDepth 100000
namespace Go.Wk
def quo:List UInt8->List UInt8
 | [] => []
 | b :: r=>if b=34\/b=92 then 92 :: b :: quo r else b :: quo r
theorem eh(l:List UInt8):l.length<=(quo l).length/\(quo l).length<=2*l.length:=by
 induction l with
 | nil=>simp [quo]
 | cons b r ih =>
  by_cases h:b=34\/b=92
  ·rw [quo,if_pos h];simp only [List.length_cons];omega
  ·rw [quo,if_neg h];simp only [List.length_cons];omega
theorem mh(a b:List UInt8):quo (a ++ b)=quo a ++ quo b:=by
 induction a with
 | nil=>rfl
 | cons x r ih =>
  by_cases h:x=34\/x=92
  ·simp only [List.cons_append,quo,if_pos h,ih]
  ·simp only [List.cons_append,quo,if_neg h,ih]
theorem pZ(l:List UInt8):(quo l).length=l.length+l.count 34+l.count 92:=by
 induction l with
 | nil=>rfl
 | cons b r ih =>
  by_cases h1:b=34
  ·subst h1;simp only [quo,true_or,if_true,List.length_cons,List.count_cons_self,ih,List.count_cons_of_ne (show(34:UInt8)≠92 by decide)];omega
  ·by_cases h2:b=92
   ·subst h2;simp only [quo,or_true,if_true,List.length_cons,List.count_cons_self,ih,List.count_cons_of_ne (show(92:UInt8)≠34 by decide)];omega
   ·simp only [quo,if_neg (show¬(b=34\/b=92) from λe=>e.elim h1 h2),List.length_cons,ih,List.count_cons_of_ne h1,List.count_cons_of_ne h2];omega
theorem uJ{l:List UInt8}(h1:l.count 34=0)(h2:l.count 92=0):quo l=l:=by
 induction l with
 | nil=>rfl
 | cons b r ih =>
  have a1:b≠34:=λe=>by subst e;simp at h1
  have a2:b≠92:=λe=>by subst e;simp at h2
  rw [List.count_cons_of_ne a1] at h1
  rw [List.count_cons_of_ne a2] at h2
  rw [quo,if_neg (λe=>e.elim a1 a2),ih h1 h2]
def a8(l:List UInt8):ByteArray:=⟨l.toArray⟩
theorem ey(l:List UInt8):(a8 l).data.toList=l:=by simp [a8]
theorem i3(l:List UInt8):(a8 l).size=l.length:=List.size_toArray
theorem ni(s:ByteArray):a8 s.data.toList=s:=ag (ey _)
def quoted(s:ByteArray):ByteArray:=a8 (34 :: quo s.data.toList ++ [34])
def Im(s:ByteArray):ByteArray:=if zo s=0 then quoted s else⟨#[]⟩
def Jz(s:ByteArray):List UInt8:=(s.data.toList.drop 1).take (s.size-2)
def inQ(s:ByteArray):Prop:=2<=s.size/\s.data.toList[0]?=some 34/\s.data.toList[s.size-1]?=some 34
instance (s:ByteArray):Decidable (inQ s):=by unfold inQ;infer_instance
theorem ff(s:ByteArray):s.data.toList.length=s.size:=by simp
theorem tI(s:ByteArray):(quoted s).data.toList=34 :: quo s.data.toList ++ [34]:=ey _
theorem uq(s:ByteArray):(quoted s).size=(quo s.data.toList).length+2:=by
 unfold quoted;rw [i3];simp
abbrev Ud:=ByteArray × ByteArray
def zI(u:Ud):Int:=if zh u.1=0 then zo u.2 else zh u.1
def bn(N:List Ud)(p:Ud):Bool:=N.any λy=>decide (y=p)
theorem ay{N:List Ud}{p:Ud}:bn N p=true↔p∈N:=by
 unfold bn;rw [List.any_eq_true];constructor
 ·rintro ⟨y,hy,e⟩;have:=of_decide_eq_true e;subst this;exact hy
 ·intro h;exact⟨p,h,decide_eq_true rfl⟩
theorem FC{N:List Ud}{p:Ud}:bn N p=false↔p ∉ N:=by
 rw [<-ay];simp
def bq:List Ud->List Ud->Int
 | _,[]=>0
 | N,p :: r=>if zI p=0 then(if bn N p=true then 6 else bq (N ++ [p]) r) else zI p
def Stp(G:List (Ud × List Ud))(u p:Ud):Prop:=∃e∈G,e.1=u/\p∈e.2
inductive Abv (G:List (Ud × List Ud)):Ud->Ud->Prop
 | one {u p:Ud}:Stp G u p->Abv G u p
 | more {u p q:Ud}:Stp G u p->Abv G p q->Abv G u q
theorem Abv.trans{G:List (Ud × List Ud)}{u p q:Ud}(h:Abv G u p)(k:Abv G p q):Abv G u q:=by
 induction h with
 | one h=>exact .more h k
 | more h _ ih=>exact .more h (ih k)
theorem Abv.snoc{G:List (Ud × List Ud)}{u p q:Ud}(h:Abv G u p)(k:Stp G p q):Abv G u q:=h.trans (.one k)
theorem Abv.split{G:List (Ud × List Ud)}{u q:Ud}(h:Abv G u q):∃p,Stp G u p/\(p=q\/Abv G p q):=by
 cases h with
 | one h=>exact⟨_,h,.inl rfl⟩
 | more h k=>exact⟨_,h,.inr k⟩
theorem nX{G:List (Ud × List Ud)}{C:Ud->Prop}(hC:∀x,C x->∀y,Stp G x y->C y){u:Ud}(hu:∀y,Stp G u y->C y):∀y,Abv G u y->C y:=by
 have key:∀x y,Abv G x y->C x->C y:=λx y h=>by
  induction h with
  | one h=>exact λhx=>hC _ hx _ h
  | more h _ ih=>exact λhx=>ih (hC _ hx _ h)
 intro y h;rcases h.split with ⟨p,hp,rfl|h'⟩
 ·exact hu _ hp
 ·exact key _ _ h' (hu _ hp)
def less(G:List (Ud × List Ud))(u:Ud):List (Ud × List Ud):=G.filter λe=>decide (e.1≠u)
end Go.Wk
