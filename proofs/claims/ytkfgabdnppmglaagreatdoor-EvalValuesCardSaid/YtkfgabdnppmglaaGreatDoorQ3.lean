/-
  A map from texts to slices, made by the call: what it holds, by the list of what was put.
-/
import Derived.Maps.OwnSet
import Derived.Maps.Views
import Derived.Maps.Keyed
import Derived.WideAt
set_option maxRecDepth 100000
namespace Go.Wk
open Go.Maps
theorem zc3{α:Type}{C:List α→Prop}(h0:C [])(h1:∀l x,C l→C (l ++ [x]))(L:List α):C L:=by
 rw [←List.reverse_reverse L];generalize L.reverse=M
 induction M with
 | nil=>exact h0
 | cons x M ih=>rw [List.reverse_cons];exact h1 _ _ ih
def zbg(v:Value):Option (DataW Value × List MemPlace):=some (.held v,[])
abbrev zfM (s:ByteArray):Lit := .string s.data.toList
theorem zpb(s:ByteArray):WideAt.IsKeyLit (zfM s):=trivial
theorem zl5{s t:ByteArray}(h:zfM s=zfM t):s=t:=by
 have h1:s.data.toList=t.data.toList:=by simpa [zfM] using h
 have h2:s.data=t.data:=Array.toList_inj.1 h1;cases s;cases t;cases h2;rfl
def zfU(L:List (ByteArray × Value)):DataW Value:=L.foldl (fun D p=>D.put (zfM p.1) (.held p.2)) (.map [])
theorem zen(L:List (ByteArray × Value))(p:ByteArray × Value):zfU (L ++ [p])=(zfU L).put (zfM p.1) (.held p.2):=by simp [zfU]
theorem ziL(L:List (ByteArray × Value)):IsMap (zfU L):=by
 refine zc3 (C:=fun L=>IsMap (zfU L)) isMap_empty (fun L p ih=>?_) L;rw [zen];exact ih.put _ _
theorem zsO(L:List (ByteArray × Value))(s:ByteArray):has (zfU L) (zfM s)=L.any fun p=>decide (p.1=s):=by
 refine zc3 (C:=fun L=>has (zfU L) (zfM s)=L.any fun p=>decide (p.1=s)) rfl (fun L p ih=>?_) L
 ·rw [zen,List.any_append];by_cases h:p.1=s
  ·subst h;rw [has_put_same (ziL L) (zpb _)];simp
  ·rw [has_put_other (fun e=>h (zl5 e).symm),ih];simp [h]
theorem ztm{L:List (ByteArray × Value)}(hn:(L.map (·.1)).Nodup){p:ByteArray × Value}(hp:p∈L)(z:DataW Value):(zfU L).atKey (zfM p.1) z = .held p.2:=by
 revert hn hp;refine zc3 (C:=fun L=>(L.map (·.1)).Nodup→p∈L→(zfU L).atKey (zfM p.1) z = .held p.2) (fun _ hp=>nomatch hp) (fun L q ih hn hp=>?_) L
 ·rw [zen];rw [List.map_append,List.nodup_append] at hn;obtain⟨h1,-,h3⟩:=hn;rcases List.mem_append.1 hp with hp|hp
  ·rw [atKey_put_other]
   ·exact ih h1 hp
   ·intro e;exact h3 p.1 (List.mem_map_of_mem hp) q.1 (by simp) (zl5 e)
  ·simp only [List.mem_cons,List.not_mem_nil,or_false] at hp;subst hp;exact atKey_put_same (ziL L) (zpb _) _ _
open Go.RowKit in
theorem zay{H:Type}{P:Program}{k:TypeId}{R:Value→Option (DataW H × List MemPlace)}{w w':World}{b n:Nat}{D:DataW H}(h:w.ownsMap P k R b n D)(hb:Below w.heap.size w w'):w'.ownsMap P k R b n D :=
 let hl:=h.lt
 let ⟨es,clock,h1,r⟩:=h
 ⟨es,clock,(hb.block b hl).trans h1,r⟩
end Go.Wk
