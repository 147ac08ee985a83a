/-
  slices.Clone of slices of nodes: the same slices in a row of the call's own.
-/
import Derived.Test.YtfbgaefbalbohaaDoorSls
namespace Go.Proofs.YtfbgaefbalbohaaDoor
open Go.RowKit Go.Wk Go.Sort
set_option maxRecDepth 100000

theorem SlsAt.cells {w : World} {a : Addr} {V : List Sl} (h : SlsAt w (some a) V) : ∀ j u, (V.map Sl.v)[j]? = some u → w.cell? (a.add j) = some u := by
  intro j u hu
  rw [List.getElem?_map] at hu
  rcases hv : V[j]? with _ | r
  · rw [hv] at hu; cases hu
  · rw [hv] at hu
    simp only [Option.map_some, Option.some.injEq] at hu
    subst hu
    obtain ⟨b, e, q, -⟩ := h j r hv
    injection e with e
    subst e
    exact q
def Clone2Post (w : World) (V : List Sl) (e : Ending) (w' : World) : Prop := ∃ v, e = .returned v ∧ OwnSls w' w.heap.size v V ∧ Below w.heap.size w w'
set_option maxHeartbeats 1000000 in
theorem clone_sls (A : Option Addr) (n c : Nat) (V : List Sl) (w : World) (hn : n = V.length) (hm : n * 24 ≤ 140737488355328) (h : SlsAt w A V) :
    Calls Tryd.prog 40 #[.slice A n c] w (Clone2Post w V) := by
  obtain ⟨i0, hi, hz0, hz1, hz2⟩ := info_parts slInfo
  subst hn
  rcases A with _ | a
  · have h0 : V = [] := by
      rcases V with _ | ⟨r, V⟩
      · rfl
      · obtain ⟨a, e, -⟩ := h 0 r rfl
        cases e
    subst h0
    have hnil := fun w : World => Lib.run_eql_slice_nil (P := Tryd.prog) w 30 31 none 0 c 0 0 Tryd.underlying30
    simp only [Option.isNone_none] at hnil
    show Calls _ _ #[.slice none 0 c] w _
    clear h
    go_enter Tryd.func40, Tryd.ntmps40
    go_wp2_with fail
    go_ret
    exact ⟨_, rfl, OwnSls.nil _ _, Below.refl _ _⟩
  · have hnil := fun w : World => Lib.run_eql_slice_nil (P := Tryd.prog) w 30 31 (some a) V.length c 0 0 Tryd.underlying30
    simp only [Option.isNone_some] at hnil
    have HC := Lib.hid (fun w' hb => (h.keep (w' := w') hb).cells)
    have HE := Lib.hid (show ∀ r ∈ V, Ns w r.A r.n r.c r.P from fun r hr => by
      obtain ⟨k, hk, rfl⟩ := List.getElem_of_mem hr
      obtain ⟨-, -, -, q⟩ := h.at hk
      exact q)
    have hB : ∀ W : World, (W.alloc (.cells #[] 31)).ownsRow W.heap.size 31 1 (.slice (some ⟨W.heap.size, 0, none⟩) 0 0) 0 [] := fun W =>
      ⟨rfl, .inr ⟨_, 0, #[], rfl, Nat.le_refl _, heap_alloc_new W _, Nat.le_refl _, by unfold maxLen; omega, rfl, rfl⟩⟩
    clear h
    go_enter Tryd.func40, Tryd.ntmps40
    go_wp2_with (at_builtin; refine wpList_append_own_at _ rfl _ _ 30 rfl w.heap.size 31 i0 _ 1 24 Tryd.underlying30 hi hz0 hz1 hz2 rfl (by decide) _ 0 [] rfl (hB w) a V.length c (V.map Sl.v) rfl (by simp) (HC.out _ (below_box _ _)) (by intro u hu; obtain ⟨r, -, rfl⟩ := List.mem_map.1 hu; rfl) ?c1 ?c2 ?c3 ?_)
    case c1 => unfold maxLen; omega
    case c2 => omega
    case c3 => simp
    intro v1 w1 hown hgrow _ hat
    have B1 := Lib.hid ((below_box w (.cells #[] 31)).grown hgrow (by simp) (fun k hk => by simp [Value.ownBlock] at hk; omega))
    have O1 := Lib.hid (show OwnSls w1 w.heap.size v1 V from ⟨by simpa using hown, fun r hr => (HE.out r hr).keep B1.out, fun r hr h0 a' ea q => by
      have := own_base hown a'.block q
      have := (HE.out r hr).at_.lt h0 a' ea
      omega⟩)
    clear hown hgrow hat hnil
    go_wp2_with fail
    go_ret
    exact ⟨_, rfl, O1.out, B1.out⟩
end Go.Proofs.YtfbgaefbalbohaaDoor
