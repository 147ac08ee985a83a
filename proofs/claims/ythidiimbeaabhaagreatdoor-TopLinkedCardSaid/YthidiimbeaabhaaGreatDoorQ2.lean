/-
  A map from texts to slices, made by the call: what it holds, by the list of ..
-/
import Derived.Maps.OwnSet
set_option maxRecDepth 100000
namespace Go.Wk
open Go.Maps
theorem em{α:Type}{C:List α->Prop}(h0:C [])(h1:∀l x,C l->C (l ++ [x]))(L:List α):C L:=by
 rw [<-List.reverse_reverse L];generalize L.reverse=M
 induction M with
 | nil=>exact h0
 | cons x M ih=>rw [List.reverse_cons];exact h1 _ _ ih
def aD(v:Value):Option (DataW Value × List MemPlace):=some (.held v,[])
abbrev kg (s:ByteArray):Lit := .string s.data.toList
theorem wZ(s:ByteArray):WideAt.IsKeyLit (kg s):=trivial
theorem sZ{s t:ByteArray}(h:kg s=kg t):s=t:=by
 have h1:s.data.toList=t.data.toList:=by simpa [kg] using h
 have h2:s.data=t.data:=Array.toList_inj.1 h1;cases s;cases t;cases h2;rfl
def ig(L:List (ByteArray × Value)):DataW Value:=L.foldl (λD p=>D.put (kg p.1) (.held p.2)) (.map [])
theorem eb(L:List (ByteArray × Value))(p:ByteArray × Value):ig (L ++ [p])=(ig L).put (kg p.1) (.held p.2):=by simp [ig]
theorem nu(L:List (ByteArray × Value)):IsMap (ig L):=by
 refine em (C:=λL=>IsMap (ig L)) isMap_empty (λL p ih=>?_) L;rw [eb];exact ih.put _ _
theorem sW(L:List (ByteArray × Value))(s:ByteArray):has (ig L) (kg s)=L.any λp=>decide (p.1=s):=by
 refine em (C:=λL=>has (ig L) (kg s)=L.any λp=>decide (p.1=s)) rfl (λL p ih=>?_) L
 ·rw [eb,List.any_append];by_cases h:p.1=s
  ·subst h;rw [has_put_same (nu L) (wZ _)];simp
  ·rw [has_put_other (λe=>h (sZ e).symm),ih];simp [h]
theorem FD{L:List (ByteArray × Value)}(hn:(L.map (·.1)).Nodup){p:ByteArray × Value}(hp:p∈L)(z:DataW Value):(ig L).atKey (kg p.1) z = .held p.2:=by
 revert hn hp;refine em (C:=λL=>(L.map (·.1)).Nodup->p∈L->(ig L).atKey (kg p.1) z = .held p.2) (λ_ hp=>nomatch hp) (λL q ih hn hp=>?_) L
 ·rw [eb];rw [List.map_append,List.nodup_append] at hn;obtain⟨h1,-,h3⟩:=hn;rcases List.mem_append.1 hp with hp|hp
  ·rw [atKey_put_other]
   ·exact ih h1 hp
   ·intro e;exact h3 p.1 (List.mem_map_of_mem hp) q.1 (by simp) (sZ e)
  ·simp only [List.mem_cons,List.not_mem_nil,or_false] at hp;subst hp;exact atKey_put_same (nu L) (wZ _) _ _
open Go.RowKit in
theorem jr{H:Type}{P:Program}{k:TypeId}{R:Value->Option (DataW H × List MemPlace)}{w w':World}{b n:Nat}{D:DataW H}(h:w.ownsMap P k R b n D)(hb:Below w.heap.size w w'):w'.ownsMap P k R b n D :=
 let hl:=h.lt
 let ⟨es,clock,h1,r⟩:=h
 ⟨es,clock,(hb.block b hl).trans h1,r⟩
end Go.Wk
