/-
  Package bag: Union, Meet, Less.
-/
import Derived.Test.YtfbgaefbalbohaaSetOf
import Derived.Test.YtfbgaefbalbohaaBagOps
import Derived.Test.YtfbgaefbalbohaaBagLaw
import Derived.Laws.AppendOwnNone
namespace Go.Proofs.Ytfbgaefbalbohaa
open Go.RowKit Go.Wk Go.Sort
set_option maxRecDepth 100000

/-- One list behind the other one. -/
theorem OwnSls.append {w w' : World} {B : Nat} {v v' : Value} {V U : List Sl} (h : OwnSls w B v V) (hU : ∀ r ∈ U, Ns w r.A r.n r.c r.P) (aU : ∀ r ∈ U, Apart r v.ownBlock)
    (hown : w'.ownsRow B 24 1 v' (V.length + U.length) (V.map Sl.v ++ U.map Sl.v)) (hg : w.grownBy w' v.ownBlock) (hat : v'.ownBlock = v.ownBlock ∨ v'.ownBlock = some w.heap.size) : OwnSls w' B v' (V ++ U) := by
  have hlt : ∀ x ∈ V ++ U, Ns w x.A x.n x.c x.P ∧ Apart x v.ownBlock := by
    intro x hx
    rcases List.mem_append.1 hx with h1 | h1
    · exact ⟨h.each x h1, h.apart x h1⟩
    · exact ⟨hU x h1, aU x h1⟩
  refine ⟨?_, fun x hx => (hlt x hx).1.row hg (hlt x hx).2, fun x hx h0 a e => ?_⟩
  · simpa using hown
  · rcases hat with e' | e'
    · rw [e']; exact (hlt x hx).2 h0 a e
    · rw [e']
      have := (hlt x hx).1.at_.lt h0 a e
      intro q
      injection q with q
      omega
def OpPost (w : World) (P Q : List Nd) (L : List (List Nd)) (e : Ending) (w' : World) : Prop :=
  ∃ (A : Option Addr) (n c : Nat), e = .returned (.tuple #[.slice A n c, errV (opE P Q L)]) ∧ Ns w' A n c (opV P Q L) ∧ Below w.heap.size w w'
theorem op_ok {w w1 w2 : World} {P Q : List Nd} {L : List (List Nd)} {e : Ending} (h0 : bothE P Q = 0) (hb : Below w.heap.size w w1) (h : SetPost w1 L e w2) : OpPost w P Q L e w2 := by
  obtain ⟨A, n, c, h1, h2, h3⟩ := h
  exact ⟨A, n, c, by rw [opE_ok h0]; exact h1, by rw [opV_ok h0]; exact h2, hb.trans (h3.mono hb.size)⟩
theorem op_bad {w w1 : World} {P Q : List Nd} {v : Value} (L : List (List Nd)) (h0 : bothE P Q ≠ 0) (hv : v = errV (bothE P Q)) (hb : Below w.heap.size w w1) : OpPost w P Q L (.returned (.tuple #[.slice none 0 0, v])) w1 :=
  ⟨none, 0, 0, by rw [opE_bad h0, hv], by rw [opV_bad h0]; exact ns_nil _, hb⟩
/-- The values of two sets lie in short rows. -/
theorem both_short {P Q : List Nd} {Va Vb : List Sl} (h0 : bothE P Q = 0) (e1 : Va.map Sl.P = setParts P) (e2 : Vb.map Sl.P = setParts Q) : Va.length ≤ 200 ∧ Vb.length ≤ 200 := by
  obtain ⟨h1, h2, h5, h6⟩ := bothE_zero.1 h0
  have a := setParts_len h1 h5
  have b := setParts_len h2 h6
  have c := congrArg List.length e1
  have d := congrArg List.length e2
  simp only [List.length_map] at c d
  omega

set_option maxHeartbeats 4000000 in
theorem bag_Meet (A B : Option Addr) (n m c d : Nat) (P Q : List Nd) (w : World) (h : Ns w A n c P) (k : Ns w B m d Q) :
    Calls Try.prog 14 #[.slice A n c, .slice B m d] w (OpPost w P Q (meetL P Q)) := by
  have C := Lib.hid (bag_both A B n m c d P Q w h k)
  unfold BothPost at C
  have hmf : ∀ (fn : Fn) (first cap : Array Value) (w : World), (Instr.makeFunc fn first cap).run Try.prog w = .ok (.func fn first cap) w := fun _ _ _ _ => rfl
  clear h k
  by_cases h0 : bothE P Q = 0
  · have H0 := Lib.hid h0
    rw [h0, errV_zero] at C
    clear h0
    go_enter Try.func14, Try.ntmps14
    go_wp2_with fail
    refine (C.out).mono ?_
    rintro e w1 ⟨va, vb, Va, Vb, rfl, hA, hB, hL, -, -, b1⟩
    obtain ⟨e1, e2⟩ := hL (by first | trivial | rfl)
    obtain ⟨l1, l2⟩ := both_short H0.out e1 e2
    obtain ⟨A1, c1, rfl, hS1⟩ := own_at hA
    obtain ⟨A2, c2, rfl, hS2⟩ := own_at hB
    have KK := Lib.hid (kept_has A1 Va.length c1 Va (fun x => hasB (setParts Q) x) A2 Vb.length c2 w1 rfl (by omega) hS1
      (Lib.hid fun r w' hb hr => by rw [← e2]; exact bag_has A2 r.A Vb.length r.n c2 r.c Vb r.P w' rfl (by unfold maxLen; omega) (hS2.keep hb) hr))
    have E1 := Lib.hid e1
    have B1 := Lib.hid b1
    clear hA hB hL hS1 hS2 e1 e2 b1
    go_wp2_with fail
    refine KK.out.mono ?_
    rintro e w2 ⟨v, rfl, hO, b2⟩
    have B2 := bh B1 b2
    obtain ⟨A3, c3, rfl, hS3⟩ := own_at hO
    have hl3 : (Va.filter fun r => hasB (setParts Q) r.P).length ≤ 200 := by
      have := List.length_filter_le (fun r : Sl => hasB (setParts Q) r.P) Va
      omega
    have E := Lib.hid (show (Va.filter fun r => hasB (setParts Q) r.P).map Sl.P = meetL P Q by
      unfold meetL; rw [← E1.out, List.filter_map]; rfl)
    have C3 := Lib.hid (val_SetOf A3 _ c3 _ w2 rfl (by omega) hS3)
    clear hO b2 B1 hS3 KK
    go_wp2_with fail
    refine C3.out.mono ?_
    rintro e w3 hp
    rw [E.out] at hp
    have HP := Lib.hid (op_ok H0.out B2.out hp)
    obtain ⟨A4, n4, c4, rfl, -⟩ := hp
    go_wp2_with fail
    go_ret2
    exact HP.out
  · have H0 := Lib.hid h0
    have HE := Lib.hid (errV_ne h0)
    rw [errV_ne h0] at C
    clear h0
    go_enter Try.func14, Try.ntmps14
    go_wp2_with fail
    refine (C.out).mono ?_
    rintro e w1 ⟨va, vb, Va, Vb, rfl, hA, hB, hL, -, -, b1⟩
    go_wp2_with fail
    go_ret2
    exact op_bad _ H0.out HE.out.symm b1

section
variable {w : World} {A B : Option Addr} {n m c d : Nat} {P Q : List Nd} (h : Ns w A n c P) (k : Ns w B m d Q)
include h k
theorem Ns.all : Calls Try.prog 13 #[.slice A n c, .slice B m d] w fun e w' => e = .returned (.tuple #[.bool (allV P Q), errV (bothE P Q)]) ∧ Below w.heap.size w w' := bag_All A B n m c d P Q w h k
theorem Ns.any : Calls Try.prog 15 #[.slice A n c, .slice B m d] w fun e w' => e = .returned (.tuple #[.bool (anyV P Q), errV (bothE P Q)]) ∧ Below w.heap.size w w' := bag_Any A B n m c d P Q w h k
theorem Ns.meet : Calls Try.prog 14 #[.slice A n c, .slice B m d] w (OpPost w P Q (meetL P Q)) := bag_Meet A B n m c d P Q w h k
end
def numN (n : Int) : Nd := ⟨2, n, ⟨#[]⟩, ⟨#[]⟩⟩
/-- A literal of nodes. -/
theorem ns_lit (w : World) (P : List Nd) (t : TypeId) (h : P.length ≤ 1000) (ho : NdsOk P) : Ns (w.alloc (.cells (ndCells P).toArray t)) (some ⟨w.heap.size, 0, none⟩) P.length P.length P :=
  ⟨rfl, Nat.le_refl _, by unfold maxLen; omega, nds_new w P t, ho⟩
theorem ok_lit {x : Nd} (h1 : x.s = ⟨#[]⟩) (h2 : x.t = ⟨#[]⟩) (h3 : -1000 ≤ x.n) (h4 : x.n ≤ 1000) : NdOk x := ⟨by rw [h1]; exact Nat.zero_le _, by rw [h2]; exact Nat.zero_le _, by omega, by omega⟩
abbrev oneSet : List Nd := [setHead 1, numN 5]
theorem ok_oneSet : NdsOk oneSet := by
  intro x hx
  simp only [oneSet, List.mem_cons, List.not_mem_nil, or_false] at hx
  rcases hx with rfl | rfl <;> exact ok_lit rfl rfl (by decide) (by decide)
theorem ok_noSet : NdsOk [setHead 0] := by
  intro x hx
  simp only [List.mem_cons, List.not_mem_nil, or_false] at hx
  subst hx; exact ok_lit rfl rfl (by decide) (by decide)
theorem ns_one (w : World) : Ns (w.alloc (.cells #[.int .i64 5, .int .i64 1, .string ⟨#[]⟩, .string ⟨#[]⟩, .int .i64 2, .int .i64 5, .string ⟨#[]⟩, .string ⟨#[]⟩] 31)) (some ⟨w.heap.size, 0, none⟩) 2 2 oneSet :=
  ns_lit w oneSet 31 (by decide) ok_oneSet
theorem ns_no (w : World) : Ns (w.alloc (.cells #[.int .i64 5, .int .i64 0, .string ⟨#[]⟩, .string ⟨#[]⟩] 31)) (some ⟨w.heap.size, 0, none⟩) 1 1 [setHead 0] :=
  ns_lit w [setHead 0] 31 (by decide) ok_noSet

/-- Where nothing is wrong: the value alone. -/
def OkPost (w : World) (V : List Nd) (e : Ending) (w' : World) : Prop :=
  ∃ (A : Option Addr) (n c : Nat), e = .returned (.tuple #[.slice A n c, .nilIface]) ∧ Ns w' A n c V ∧ Below w.heap.size w w'
theorem ok_post {w w' : World} {P Q V : List Nd} {L : List (List Nd)} {e : Ending} (h0 : bothE P Q = 0) (h1 : Wk.setE L = 0) (h2 : setV L = V) (h : OpPost w P Q L e w') : OkPost w V e w' := by
  obtain ⟨A, n, c, q1, q2, q3⟩ := h
  refine ⟨A, n, c, ?_, ?_, q3⟩
  · rw [opE_ok h0, h1, errV_zero] at q1; exact q1
  · rw [opV_ok h0, h2] at q2; exact q2
section
variable {w : World} {A B : Option Addr} {n m c d : Nat} {P Q : List Nd} (h : Ns w A n c P) (k : Ns w B m d Q)
include h k
theorem Ns.meet_ok {V : List Nd} (h0 : bothE P Q = 0) (h2 : setV (meetL P Q) = V) : Calls Try.prog 14 #[.slice A n c, .slice B m d] w (OkPost w V) := (h.meet k).mono fun _ _ q => ok_post h0 (Wk.meet_ok h0).2.2 h2 q
end
theorem Ns.alike {w : World} {A B : Option Addr} {n m c d : Nat} {P : List Nd} (h : Ns w A n c P) (k : Ns w B m d P) :
    Calls Try.prog 8 #[.slice A n c, .slice B m d] w fun e w' => e = .returned (.bool true) ∧ Below w.heap.size w w' := by
  have := h.same k
  rwa [cmpNds_cmp.self, decide_eq_true rfl] at this
end Go.Proofs.Ytfbgaefbalbohaa
