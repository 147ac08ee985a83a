/-
  A map from texts to slices, made by the call: what it holds, by the list of what was put.
-/
import Derived.Maps.OwnSet
import Derived.Maps.Views
import Derived.Maps.Keyed
import Derived.WideAt
set_option maxRecDepth 100000
namespace Go.Wk
open Go.Maps
theorem zmD{α:Type}{C:List α→Prop}(h0:C [])(h1:∀l x,C l→C (l ++ [x]))(L:List α):C L:=by
 rw [←List.reverse_reverse L];generalize L.reverse=M
 induction M with
 | nil=>exact h0
 | cons x M ih=>rw [List.reverse_cons];exact h1 _ _ ih
def zg5(v:Value):Option (DataW Value × List MemPlace):=some (.held v,[])
abbrev zi5 (s:ByteArray):Lit := .string s.data.toList
theorem zrI(s:ByteArray):WideAt.IsKeyLit (zi5 s):=trivial
theorem zpF{s t:ByteArray}(h:zi5 s=zi5 t):s=t:=by
 have h1:s.data.toList=t.data.toList:=by simpa [zi5] using h
 have h2:s.data=t.data:=Array.toList_inj.1 h1;cases s;cases t;cases h2;rfl
def zh2(L:List (ByteArray × Value)):DataW Value:=L.foldl (fun D p=>D.put (zi5 p.1) (.held p.2)) (.map [])
theorem zeI(L:List (ByteArray × Value))(p:ByteArray × Value):zh2 (L ++ [p])=(zh2 L).put (zi5 p.1) (.held p.2):=by simp [zh2]
theorem zm3(L:List (ByteArray × Value)):IsMap (zh2 L):=by
 refine zmD (C:=fun L=>IsMap (zh2 L)) isMap_empty (fun L p ih=>?_) L;rw [zeI];exact ih.put _ _
theorem zlM(L:List (ByteArray × Value))(s:ByteArray):has (zh2 L) (zi5 s)=L.any fun p=>decide (p.1=s):=by
 refine zmD (C:=fun L=>has (zh2 L) (zi5 s)=L.any fun p=>decide (p.1=s)) rfl (fun L p ih=>?_) L
 ·rw [zeI,List.any_append];by_cases h:p.1=s
  ·subst h;rw [has_put_same (zm3 L) (zrI _)];simp
  ·rw [has_put_other (fun e=>h (zpF e).symm),ih];simp [h]
open Go.RowKit in
theorem zaZ{H:Type}{P:Program}{k:TypeId}{R:Value→Option (DataW H × List MemPlace)}{w w':World}{b n:Nat}{D:DataW H}(h:w.ownsMap P k R b n D)(hb:Below w.heap.size w w'):w'.ownsMap P k R b n D :=
 let hl:=h.lt
 let ⟨es,clock,h1,r⟩:=h
 ⟨es,clock,(hb.block b hl).trans h1,r⟩
end Go.Wk
