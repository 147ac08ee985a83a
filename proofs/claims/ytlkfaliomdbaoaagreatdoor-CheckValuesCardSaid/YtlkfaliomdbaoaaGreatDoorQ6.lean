/-
  A map from texts to slices, made by the call: what it holds, by the list of what was put.
-/
import Derived.Maps.OwnSet
import Derived.Maps.Views
import Derived.Maps.Keyed
import Derived.WideAt
set_option maxRecDepth 100000
namespace Go.Wk
open Go.Maps
theorem zju{α:Type}{C:List α→Prop}(h0:C [])(h1:∀l x,C l→C (l ++ [x]))(L:List α):C L:=by
 rw [←List.reverse_reverse L];generalize L.reverse=M
 induction M with
 | nil=>exact h0
 | cons x M ih=>rw [List.reverse_cons];exact h1 _ _ ih
def ze8(v:Value):Option (DataW Value × List MemPlace):=some (.held v,[])
abbrev zhn (s:ByteArray):Lit := .string s.data.toList
theorem zoK(s:ByteArray):WideAt.IsKeyLit (zhn s):=trivial
theorem zn9{s t:ByteArray}(h:zhn s=zhn t):s=t:=by
 have h1:s.data.toList=t.data.toList:=by simpa [zhn] using h
 have h2:s.data=t.data:=Array.toList_inj.1 h1;cases s;cases t;cases h2;rfl
def zgb(L:List (ByteArray × Value)):DataW Value:=L.foldl (fun D p=>D.put (zhn p.1) (.held p.2)) (.map [])
theorem zdi(L:List (ByteArray × Value))(p:ByteArray × Value):zgb (L ++ [p])=(zgb L).put (zhn p.1) (.held p.2):=by simp [zgb]
theorem zkq(L:List (ByteArray × Value)):IsMap (zgb L):=by
 refine zju (C:=fun L=>IsMap (zgb L)) isMap_empty (fun L p ih=>?_) L;rw [zdi];exact ih.put _ _
theorem zi6(L:List (ByteArray × Value))(s:ByteArray):has (zgb L) (zhn s)=L.any fun p=>decide (p.1=s):=by
 refine zju (C:=fun L=>has (zgb L) (zhn s)=L.any fun p=>decide (p.1=s)) rfl (fun L p ih=>?_) L
 ·rw [zdi,List.any_append];by_cases h:p.1=s
  ·subst h;rw [has_put_same (zkq L) (zoK _)];simp
  ·rw [has_put_other (fun e=>h (zn9 e).symm),ih];simp [h]
open Go.RowKit in
theorem zaf{H:Type}{P:Program}{k:TypeId}{R:Value→Option (DataW H × List MemPlace)}{w w':World}{b n:Nat}{D:DataW H}(h:w.ownsMap P k R b n D)(hb:Below w.heap.size w w'):w'.ownsMap P k R b n D :=
 let hl:=h.lt
 let ⟨es,clock,h1,r⟩:=h
 ⟨es,clock,(hb.block b hl).trans h1,r⟩
end Go.Wk
