/-
  A map of the call's own, cleared.
-/
import Derived.Maps.OwnSet
set_option maxRecDepth 100000
namespace Go.Wk
open Go.MapKept
theorem wq{H:Type}{P:Program}{k mty kt et:TypeId}{R:Value->Option (DataW H × List MemPlace)}{w:World}{b n:Nat}{D:DataW H}(h:w.ownsMap P k R b n D)(hm:P.underlying mty=some (.map kt et)):
 ∃w',(∀ty,(Builtin.clear_ #[mty] ty #[.map (some b)]).run P w = .ok (.tuple #[]) w')/\w'.ownsMap P k R b 0 (.map [])/\w.grownBy w' (some b):=by
 obtain⟨es,clock,hb,-,-,-⟩:=h;refine⟨{ w with heap:=w.heap.setIfInBounds b (.map #[] clock)},λty=>?_,⟨#[],clock,(heap_set hb).1,⟨by simp,stamped_empty clock,by simp⟩,Nat.le_refl _,rfl⟩,?_⟩
 ·simp [Builtin.clear_,run_underlying hm,Go.MapKept.run_getObj_map hb,Go.MapKept.run_setObj_map _ hb,Result.andThen]
 ·exact⟨rfl,rfl,rfl,by simp,λi _ hi=>(heap_set hb).2 i (λe=>hi (by rw [e]))⟩
end Go.Wk
