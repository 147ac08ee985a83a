/-
  Plain: a text between quotes, and what was quoted; a uid as a text. No program in sight.
-/
import Derived.Test.YtjcdeikbghjpkaaGreatDoorQ1
set_option maxRecDepth 100000
namespace Go.Wk
def quo:List UInt8→List UInt8
 | [] => []
 | b :: r=>if b=34∨b=92 then 92 :: b :: quo r else b :: quo r
theorem zfb(l:List UInt8):l.length≤(quo l).length∧(quo l).length≤2*l.length:=by
 induction l with
 | nil=>simp [quo]
 | cons b r ih =>
  by_cases h:b=34∨b=92
  ·rw [quo,if_pos h];simp only [List.length_cons];omega
  ·rw [quo,if_neg h];simp only [List.length_cons];omega
theorem zid(a b:List UInt8):quo (a ++ b)=quo a ++ quo b:=by
 induction a with
 | nil=>rfl
 | cons x r ih =>
  by_cases h:x=34∨x=92
  ·simp only [List.cons_append,quo,if_pos h,ih]
  ·simp only [List.cons_append,quo,if_neg h,ih]
theorem zjC(l:List UInt8):(quo l).length=l.length+l.count 34+l.count 92:=by
 induction l with
 | nil=>rfl
 | cons b r ih =>
  by_cases h1:b=34
  ·subst h1;simp only [quo,true_or,if_true,List.length_cons,List.count_cons_self,ih,List.count_cons_of_ne (show(34:UInt8)≠92 by decide)];omega
  ·by_cases h2:b=92
   ·subst h2;simp only [quo,or_true,if_true,List.length_cons,List.count_cons_self,ih,List.count_cons_of_ne (show(92:UInt8)≠34 by decide)];omega
   ·simp only [quo,if_neg (show¬(b=34∨b=92) from fun e=>e.elim h1 h2),List.length_cons,ih,List.count_cons_of_ne h1,List.count_cons_of_ne h2];omega
theorem zlg{l:List UInt8}(h1:l.count 34=0)(h2:l.count 92=0):quo l=l:=by
 induction l with
 | nil=>rfl
 | cons b r ih =>
  have a1:b≠34:=fun e=>by subst e;simp at h1
  have a2:b≠92:=fun e=>by subst e;simp at h2
  rw [List.count_cons_of_ne a1] at h1
  rw [List.count_cons_of_ne a2] at h2
  rw [quo,if_neg (fun e=>e.elim a1 a2),ih h1 h2]
def zbc(l:List UInt8):ByteArray:=⟨l.toArray⟩
theorem zfV(l:List UInt8):(zbc l).data.toList=l:=by simp [zbc]
theorem zkk(l:List UInt8):(zbc l).size=l.length:=List.size_toArray
theorem zia(s:ByteArray):zbc s.data.toList=s:=zaD (zfV _)
def quoted(s:ByteArray):ByteArray:=zbc (34 :: quo s.data.toList ++ [34])
def zss(s:ByteArray):ByteArray:=if zk s=0 then quoted s else⟨#[]⟩
def inQ(s:ByteArray):Prop:=2≤s.size∧s.data.toList[0]?=some 34∧s.data.toList[s.size-1]?=some 34
instance (s:ByteArray):Decidable (inQ s):=by unfold inQ;infer_instance
theorem zgW(s:ByteArray):s.data.toList.length=s.size:=by simp
theorem zlY(s:ByteArray):(quoted s).data.toList=34 :: quo s.data.toList ++ [34]:=zfV _
end Go.Wk
