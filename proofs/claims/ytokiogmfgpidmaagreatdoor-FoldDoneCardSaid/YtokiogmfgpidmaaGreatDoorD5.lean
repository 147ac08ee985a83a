/-
  A map from texts to slices, made by the call: what it holds, by the list of ..
-/
import Derived.Maps.OwnSet
set_option maxRecDepth 100000
namespace Go.Wk
open Go.Maps
theorem Mh{α:Type}{C:List α->Prop}(h0:C [])(h1:∀l x,C l->C (l ++ [x]))(L:List α):C L:=by
 rw [<-List.reverse_reverse L];generalize L.reverse=M
 induction M with
 | nil=>exact h0
 | cons x M ih=>rw [List.reverse_cons];exact h1 _ _ ih
def FB(v:Value):Option (DataW Value × List MemPlace):=some (.held v,[])
abbrev QN (s:ByteArray):Lit := .string s.data.toList
theorem zeB(s:ByteArray):WideAt.IsKeyLit (QN s):=trivial
theorem zb7{s t:ByteArray}(h:QN s=QN t):s=t:=by
 have h1:s.data.toList=t.data.toList:=by simpa [QN] using h
 have h2:s.data=t.data:=Array.toList_inj.1 h1;cases s;cases t;cases h2;rfl
def QO(L:List (ByteArray × Value)):DataW Value:=L.foldl (λD p=>D.put (QN p.1) (.held p.2)) (.map [])
theorem OH(L:List (ByteArray × Value))(p:ByteArray × Value):QO (L ++ [p])=(QO L).put (QN p.1) (.held p.2):=by simp [QO]
theorem UD(L:List (ByteArray × Value)):IsMap (QO L):=by
 refine Mh (C:=λL=>IsMap (QO L)) isMap_empty (λL p ih=>?_) L;rw [OH];exact ih.put _ _
theorem zic(L:List (ByteArray × Value))(s:ByteArray):has (QO L) (QN s)=L.any λp=>decide (p.1=s):=by
 refine Mh (C:=λL=>has (QO L) (QN s)=L.any λp=>decide (p.1=s)) rfl (λL p ih=>?_) L
 ·rw [OH,List.any_append];by_cases h:p.1=s
  ·subst h;rw [has_put_same (UD L) (zeB _)];simp
  ·rw [has_put_other (λe=>h (zb7 e).symm),ih];simp [h]
theorem zkY{L:List (ByteArray × Value)}(hn:(L.map (·.1)).Nodup){p:ByteArray × Value}(hp:p∈L)(z:DataW Value):(QO L).atKey (QN p.1) z = .held p.2:=by
 revert hn hp;refine Mh (C:=λL=>(L.map (·.1)).Nodup->p∈L->(QO L).atKey (QN p.1) z = .held p.2) (λ_ hp=>nomatch hp) (λL q ih hn hp=>?_) L
 ·rw [OH];rw [List.map_append,List.nodup_append] at hn;obtain⟨h1,-,h3⟩:=hn;rcases List.mem_append.1 hp with hp|hp
  ·rw [atKey_put_other]
   ·exact ih h1 hp
   ·intro e;exact h3 p.1 (List.mem_map_of_mem hp) q.1 (by simp) (zb7 e)
  ·simp only [List.mem_cons,List.not_mem_nil,or_false] at hp;subst hp;exact atKey_put_same (UD L) (zeB _) _ _
open Go.RowKit in
theorem t8{H:Type}{P:Program}{k:TypeId}{R:Value->Option (DataW H × List MemPlace)}{w w':World}{b n:Nat}{D:DataW H}(h:w.ownsMap P k R b n D)(hb:Below w.heap.size w w'):w'.ownsMap P k R b n D :=
 let hl:=h.lt
 let ⟨es,clock,h1,r⟩:=h
 ⟨es,clock,(hb.block b hl).trans h1,r⟩
end Go.Wk
