/-
  Plain: a text between quotes, and what was quoted; a uid as a text. No program ..
-/
import Derived.Test.YtokiogmfgpidmaaGreatDoorD1
set_option maxRecDepth 100000
namespace Go.Wk
def quo:List UInt8->List UInt8
 | [] => []
 | b :: r=>if b=34\/b=92 then 92 :: b :: quo r else b :: quo r
theorem M7(l:List UInt8):l.length<=(quo l).length/\(quo l).length<=2*l.length:=by
 induction l with
 | nil=>simp [quo]
 | cons b r ih =>
  by_cases h:b=34\/b=92
  ·rw [quo,if_pos h];simp only [List.length_cons];omega
  ·rw [quo,if_neg h];simp only [List.length_cons];omega
theorem UT(a b:List UInt8):quo (a ++ b)=quo a ++ quo b:=by
 induction a with
 | nil=>rfl
 | cons x r ih =>
  by_cases h:x=34\/x=92
  ·simp only [List.cons_append,quo,if_pos h,ih]
  ·simp only [List.cons_append,quo,if_neg h,ih]
theorem WM(l:List UInt8):(quo l).length=l.length+l.count 34+l.count 92:=by
 induction l with
 | nil=>rfl
 | cons b r ih =>
  by_cases h1:b=34
  ·subst h1;simp only [quo,true_or,if_true,List.length_cons,List.count_cons_self,ih,List.count_cons_of_ne (show(34:UInt8)≠92 by decide)];omega
  ·by_cases h2:b=92
   ·subst h2;simp only [quo,or_true,if_true,List.length_cons,List.count_cons_self,ih,List.count_cons_of_ne (show(92:UInt8)≠34 by decide)];omega
   ·simp only [quo,if_neg (show¬(b=34\/b=92) from λe=>e.elim h1 h2),List.length_cons,ih,List.count_cons_of_ne h1,List.count_cons_of_ne h2];omega
theorem zbi{l:List UInt8}(h1:l.count 34=0)(h2:l.count 92=0):quo l=l:=by
 induction l with
 | nil=>rfl
 | cons b r ih =>
  have a1:b≠34:=λe=>by subst e;simp at h1
  have a2:b≠92:=λe=>by subst e;simp at h2
  rw [List.count_cons_of_ne a1] at h1
  rw [List.count_cons_of_ne a2] at h2
  rw [quo,if_neg (λe=>e.elim a1 a2),ih h1 h2]
def C'(l:List UInt8):ByteArray:=⟨l.toArray⟩
theorem M8(l:List UInt8):(C' l).data.toList=l:=by simp [C']
theorem Qw(l:List UInt8):(C' l).size=l.length:=List.size_toArray
theorem Vr(s:ByteArray):C' s.data.toList=s:=ql (M8 _)
def quoted(s:ByteArray):ByteArray:=C' (34 :: quo s.data.toList ++ [34])
def zk2(s:ByteArray):ByteArray:=if zt s=0 then quoted s else⟨#[]⟩
def znC(s:ByteArray):List UInt8:=(s.data.toList.drop 1).take (s.size-2)
def inQ(s:ByteArray):Prop:=2<=s.size/\s.data.toList[0]?=some 34/\s.data.toList[s.size-1]?=some 34
instance (s:ByteArray):Decidable (inQ s):=by unfold inQ;infer_instance
theorem Ob(s:ByteArray):s.data.toList.length=s.size:=by simp
theorem zab(s:ByteArray):(quoted s).data.toList=34 :: quo s.data.toList ++ [34]:=M8 _
theorem zad(s:ByteArray):(quoted s).size=(quo s.data.toList).length+2:=by
 unfold quoted;rw [Qw];simp
abbrev Ud:=ByteArray × ByteArray
def jd(u:Ud):Int:=if zh u.1=0 then zt u.2 else zh u.1
def CO(N:List Ud)(p:Ud):Bool:=N.any λy=>decide (y=p)
theorem i8{N:List Ud}{p:Ud}:CO N p=true↔p∈N:=by
 unfold CO;rw [List.any_eq_true];constructor
 ·rintro ⟨y,hy,e⟩;have:=of_decide_eq_true e;subst this;exact hy
 ·intro h;exact⟨p,h,decide_eq_true rfl⟩
theorem zjO{N:List Ud}{p:Ud}:CO N p=false↔p ∉ N:=by
 rw [<-i8];simp
def Ge:List Ud->List Ud->Int
 | _,[]=>0
 | N,p :: r=>if jd p=0 then(if CO N p=true then 6 else Ge (N ++ [p]) r) else jd p
def Stp(G:List (Ud × List Ud))(u p:Ud):Prop:=∃e∈G,e.1=u/\p∈e.2
inductive Abv (G:List (Ud × List Ud)):Ud->Ud->Prop
 | one {u p:Ud}:Stp G u p->Abv G u p
 | more {u p q:Ud}:Stp G u p->Abv G p q->Abv G u q
theorem Abv.trans{G:List (Ud × List Ud)}{u p q:Ud}(h:Abv G u p)(k:Abv G p q):Abv G u q:=by
 induction h with
 | one h=>exact .more h k
 | more h _ ih=>exact .more h (ih k)
theorem Abv.snoc{G:List (Ud × List Ud)}{u p q:Ud}(h:Abv G u p)(k:Stp G p q):Abv G u q:=h.trans (.one k)
theorem Abv.split{G:List (Ud × List Ud)}{u q:Ud}(h:Abv G u q):∃p,Stp G u p/\(p=q\/Abv G p q):=by
 cases h with
 | one h=>exact⟨_,h,.inl rfl⟩
 | more h k=>exact⟨_,h,.inr k⟩
theorem Ub{G:List (Ud × List Ud)}{C:Ud->Prop}(hC:∀x,C x->∀y,Stp G x y->C y){u:Ud}(hu:∀y,Stp G u y->C y):∀y,Abv G u y->C y:=by
 have key:∀x y,Abv G x y->C x->C y:=λx y h=>by
  induction h with
  | one h=>exact λhx=>hC _ hx _ h
  | more h _ ih=>exact λhx=>ih (hC _ hx _ h)
 intro y h;rcases h.split with ⟨p,hp,rfl|h'⟩
 ·exact hu _ hp
 ·exact key _ _ h' (hu _ hp)
inductive Ste (G:List (Ud × List Ud)):Nat->Ud->Ud->Prop
 | one {k:Nat} {u p:Ud}:Stp G u p->Ste G (k+1) u p
 | more {k:Nat} {u p q:Ud}:Stp G u p->Ste G k p q->Ste G (k+1) u q
theorem Ste.wider{G:List (Ud × List Ud)}{k l:Nat}{u p:Ud}(h:Ste G k u p)(hl:k<=l):Ste G l u p:=by
 induction h generalizing l with
 | one h=>obtain⟨l,rfl⟩:∃j,l=j+1:=⟨l-1,by omega⟩;exact .one h
 | more h _ ih=>obtain⟨l,rfl⟩:∃j,l=j+1:=⟨l-1,by omega⟩;exact .more h (ih (by omega))
theorem Ste.snoc{G:List (Ud × List Ud)}{k:Nat}{u p q:Ud}(h:Ste G k u p)(s:Stp G p q):Ste G (k+1) u q:=by
 induction h with
 | one h=>exact .more h (.one s)
 | more h _ ih=>exact .more h (ih s)
theorem Ste.last{G:List (Ud × List Ud)}{k:Nat}{u q:Ud}(h:Ste G (k+1) u q):Stp G u q\/∃p,Ste G k u p/\Stp G p q:=by
 induction k generalizing u with
 | zero=>cases h with
  | one h=>exact .inl h
  | more _ h=>cases h
 | succ k ih=>cases h with
  | one h=>exact .inl h
  | more h h2 =>
   rcases ih h2 with h3|⟨p,h3,h4⟩
   ·exact .inr ⟨_,.one h,h3⟩
   ·exact .inr ⟨p,.more h h3,h4⟩
def zch(G:List (Ud × List Ud))(u:Ud):List (Ud × List Ud):=G.filter λe=>decide (e.1≠u)
theorem zbP{G:List (Ud × List Ud)}{u x y:Ud}(h:Stp G x y):x=u\/Stp (zch G u) x y:=by
 obtain⟨e,he,rfl,hy⟩:=h;by_cases hx:e.1=u
 ·exact .inl hx
 ·exact .inr ⟨e,List.mem_filter.2 ⟨he,by simpa using hx⟩,rfl,hy⟩
theorem za8{G:List (Ud × List Ud)}{u x y:Ud}(h:Stp (zch G u) x y):Stp G x y:=by
 obtain⟨e,he,hx,hy⟩:=h;exact⟨e,(List.mem_filter.1 he).1,hx,hy⟩
theorem ziX{G:List (Ud × List Ud)}{u x y:Ud}(h:Abv G x y):Abv (zch G u) x y\/∃p,Stp G u p/\(p=y\/Abv (zch G u) p y):=by
 induction h with
 | one h =>
  rcases zbP (u:=u) h with rfl|h'
  ·exact .inr ⟨_,h,.inl rfl⟩
  ·exact .inl (.one h')
 | more h _ ih =>
  rcases ih with ih|ih
  ·rcases zbP (u:=u) h with rfl|h'
   ·exact .inr ⟨_,h,.inr ih⟩
   ·exact .inl (.more h' ih)
  ·exact .inr ih
theorem za0{G:List (Ud × List Ud)}{u p:Ud}(h:Stp G u p):(zch G u).length<G.length:=by
 obtain⟨e,he,rfl,-⟩:=h;have h1:G=G:=rfl;unfold zch;refine Nat.lt_of_le_of_ne (List.length_filter_le _ _) λhl=>?_;have:=List.length_filter_eq_length_iff.1 hl e he;simp at this
theorem zhT{G:List (Ud × List Ud)}{u x y:Ud}{k:Nat}(h:Ste (zch G u) k x y):Ste G k x y:=by
 induction h with
 | one h=>exact .one (za8 h)
 | more h _ ih=>exact .more (za8 h) ih
theorem zkQ:∀ {n:Nat} {G:List (Ud × List Ud)} {u y:Ud},G.length<=n->Abv G u y->Ste G G.length u y:=by
 intro n
 induction n with
 | zero =>
  intro G u y hn h
  obtain⟨p,⟨e,he,-⟩,-⟩:=h.split
  have:=List.eq_nil_of_length_eq_zero (Nat.le_zero.1 hn)
  subst this;cases he
 | succ n ih =>
  intro G u y hn h
  obtain⟨p0,h0,-⟩:=h.split
  have hl:=za0 h0
  obtain⟨l,el⟩:∃l,G.length=l+1:=⟨G.length-1,by omega⟩
  have h2:∃p,Stp G u p/\(p=y\/Abv (zch G u) p y):=by
   rcases ziX (u:=u) h with h'|h'
   ·obtain⟨p,⟨e,he,hx,-⟩,-⟩:=h'.split;exact absurd hx (by simpa using(List.mem_filter.1 he).2)
   ·exact h'
  obtain⟨p,hp,rfl|hq⟩:=h2
  ·rw [el];exact .one hp
  ·rw [el]
   exact .more hp ((zhT (ih (by omega) hq)).wider (by omega))
end Go.Wk
