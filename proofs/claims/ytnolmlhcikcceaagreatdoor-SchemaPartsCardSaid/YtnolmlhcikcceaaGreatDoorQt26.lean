/-
  schema.record, schema.names.
  schema.Check.
  Variables of three cells of the call's own (gen_kindbx.py with (3,)).
  slices.IndexFunc over kinds; schema.Kind.
  slices.Index and slices.Contains over texts.
  kinds.own: the type that a value has of its own: of what has no parts.
  kinds.own: of sets.
-/
import Derived.WalkKit
import Derived.StringKeys
import Derived.Test.YtnolmlhcikcceaaGreatDoorQs25
namespace Go.Proofs.YtnolmlhcikcceaaGreatDoor
open Go.RowKit Go.Wk Go.Sort
set_option maxRecDepth 100000

set_option maxHeartbeats 1000000 in
theorem schema_record (A : Option Addr) (n c : Nat) (P : List Nd) (w : World) (h : Ns w A n c P) :
    Calls Tryz.prog 30 #[.slice A n c] w fun e w' => e = .returned (errV (recF P)) ∧ Below w.heap.size w w' := by
  have K := Lib.hid h.kinds_Check
  by_cases h0 : kindFault P = 0
  · obtain ⟨k, hk⟩ := kin_of h0
    obtain ⟨a, rfl, hn1, d0, -⟩ := val_head h (by rw [hk.e]; have := flat_pos k; omega)
    rw [h0, errV_zero] at K
    have HR := Lib.hid (show recF P = if headOp P = 46 then 0 else 2 by unfold recF; rw [h0]; rfl)
    have hm := h.max
    unfold maxLen at hm
    clear h hk h0
    by_cases h46 : headOp P = 46
    · rw [if_pos h46] at HR
      rw [h46] at d0
      clear h46
      go_enter Tryz.func30, Tryz.ntmps30
      go_wp2_with fail
      refine K.out.mono ?_
      rintro e w1 ⟨rfl, b1⟩
      have d1 := cell_keep b1 d0
      have B1 := Lib.hid b1
      clear b1 d0
      go_wp2_with fail
      go_ret
      exact ⟨by rw [HR.out]; rfl, B1.out⟩
    · rw [if_neg h46] at HR
      have f1 : (headOp P == 46) = false := beq_eq_false_iff_ne.2 h46
      have f2 : (headOp P != 46) = true := by rw [bne_iff_ne]; exact h46
      generalize headOp P = o at *
      clear h46
      go_enter Tryz.func30, Tryz.ntmps30
      go_wp2_with fail
      refine K.out.mono ?_
      rintro e w1 ⟨rfl, b1⟩
      have d1 := cell_keep b1 d0
      have B1 := Lib.hid b1
      clear b1 d0
      go_wp2_with fail
      go_ret
      exact ⟨by rw [HR.out]; rfl, B1.out⟩
  · have HR := Lib.hid (show recF P = kindFault P by unfold recF; exact or2_ne h0 _)
    have HE := Lib.hid (errV_ne h0)
    rw [HE.out] at K
    generalize kindFault P = r at *
    clear h h0
    go_enter Tryz.func30, Tryz.ntmps30
    go_wp2_with fail
    refine K.out.mono ?_
    rintro e w1 ⟨rfl, b1⟩
    have B1 := Lib.hid b1
    clear b1
    go_wp2_with fail
    go_ret
    exact ⟨by rw [HR.out, HE.out]; rfl, B1.out⟩
/-- A slice of texts, as it lies. -/
structure Tl where
  A : Option Addr
  n : Nat
  c : Nat
  N : List ByteArray
/-- What is wrong with lists of names. -/
def listsF : List Tl → Int
  | [] => 0
  | x :: r => or2 (namesF x.N) (listsF r)
theorem listsF_step {L : List Tl} {i : Nat} (h : i < L.length) : listsF (L.drop i) = or2 (namesF L[i].N) (listsF (L.drop (i + 1))) := by
  rw [List.drop_eq_getElem_cons h]
  rfl
def listsE (L : List Tl) : Int := if L.any (fun x => decide (6 < x.N.length)) then 4 else listsF L
set_option maxHeartbeats 4000000 in
theorem schema_names (a : Addr) (n c : Nat) (L : List Tl) (w : World) (hn : n = L.length) (hx : n ≤ 8) (hl : ∀ k x, L[k]? = some x → w.cell? (a.add k) = some (.slice x.A x.n x.c) ∧ Txs w x.A x.n x.c x.N) :
    Calls Tryz.prog 29 #[.slice (some a) n c] w fun e w' => e = .returned (errV (listsE L)) ∧ Below w.heap.size w w' := by
  have HL := Lib.hid hn
  have HT := Lib.hid hl
  clear hl hn
  go_enter Tryz.func29, Tryz.ntmps29
  go_wp2_with fail
  go_loopw [12] (fun i wr => ∃ k : Nat, i = .int .i64 k ∧ k ≤ n ∧ Hid (∀ x ∈ L.take k, x.N.length ≤ 6) ∧ w = wr) (fun i _ => n - (intOf i).toNat)
  case atStart => exact ⟨0, rfl, Nat.zero_le _, Lib.hid (fun x hx => by simp at hx), rfl⟩
  case round =>
    obtain ⟨k, rfl, hk, hF, rfl⟩ := hrel
    by_cases hlt : k < n
    · have hkl : k < L.length := by rw [← HL.out]; exact hlt
      obtain ⟨q, ht⟩ := HT.out k _ (List.getElem?_eq_getElem hkl)
      have hm := ht.max
      unfold maxLen at hm
      by_cases h6 : 6 < L[k].n
      · have HR := Lib.hid (show listsE L = 4 by
          unfold listsE
          rw [if_pos (List.any_eq_true.2 ⟨L[k], List.getElem_mem hkl, by rw [← ht.len]; simpa using h6⟩)])
        have f1 : decide (6 < (L[k].n : Int)) = true := decide_eq_true (by omega)
        generalize L[k] = x at *
        clear hF h6 ht
        go_wp2_with fail
        go_ret
        exact ⟨by rw [HR.out]; rfl, Below.refl _ _⟩
      · have HS := Lib.hid (show ∀ x ∈ L.take (k + 1), x.N.length ≤ 6 from fun x hx => by
          rw [List.take_succ_eq_append_getElem hkl, List.mem_append] at hx
          rcases hx with hx | hx
          · exact hF.out x hx
          · simp only [List.mem_cons, List.not_mem_nil, or_false] at hx
            subst hx; rw [← ht.len]; omega)
        have f1 : decide (6 < (L[k].n : Int)) = false := decide_eq_false (by omega)
        generalize L[k] = x at *
        clear hF h6 ht
        go_wp2_with fail
        go_roundw
        case rel => exact ⟨k + 1, by go_num, hlt, HS, trivial⟩
        case measure => simp [intOf]; omega
    · have HR := Lib.hid (show listsE L = listsF L by
        unfold listsE
        rw [if_neg (by
          rw [List.any_eq_true]
          rintro ⟨x, hx, h6⟩
          have := hF.out x (by rw [List.take_of_length_le (by rw [← HL.out]; omega)]; exact hx)
          simp at h6; omega)])
      clear hF hk
      go_wp2_with fail
      go_loopw [23] (fun i wo => ∃ k : Nat, i = .int .i64 k ∧ k ≤ n ∧ Hid (listsF L = listsF (L.drop k)) ∧ Hid (Below w.heap.size w wo)) (fun i _ => n - (intOf i).toNat)
      case atStart => exact ⟨0, rfl, Nat.zero_le _, Lib.hid (by simp), Lib.hid (Below.refl _ _)⟩
      case round =>
        obtain ⟨k, rfl, hk, hF, hB⟩ := hrel
        by_cases hlt : k < n
        · have hkl : k < L.length := by rw [← HL.out]; exact hlt
          obtain ⟨q, ht⟩ := HT.out k _ (List.getElem?_eq_getElem hkl)
          have q' := cell_keep hB.out q
          have hm := ht.max
          unfold maxLen at hm
          have HS := Lib.hid (hF.out.trans (listsF_step hkl))
          have HN := Lib.hid (ht.keep hB.out)
          generalize L[k] = x at *
          generalize hrest : listsF (L.drop (k + 1)) = rest at *
          have hlen : x.n = x.N.length := ht.len
          clear hF q ht
          go_wp2_with fail
          go_loopw [29] (fun i wj => ∃ j : Nat, i = .int .i64 j ∧ j ≤ x.n ∧ Hid (namesF x.N = namesF (x.N.drop j)) ∧ Hid (Below w.heap.size w wj) ∧ Hid (Txs wj x.A x.n x.c x.N)) (fun i _ => x.n - (intOf i).toNat)
          case atStart => exact ⟨0, rfl, Nat.zero_le _, Lib.hid (by simp), hB, HN⟩
          case round =>
            obtain ⟨j, rfl, hj, hG, hB2, hN⟩ := hrel
            by_cases hjt : j < x.n
            · have hjl : j < x.N.length := by omega
              obtain ⟨b, eb, z0⟩ := hN.out.at_.cell hjl
              rw [eb]
              have HS2 := Lib.hid (hG.out.trans (namesF_step hjl))
              have V := Lib.hid (fun w' => name_Check x.N[j] w' (hN.out.ok _ (List.getElem_mem hjl)))
              generalize x.N[j] = y at *
              clear hG
              by_cases hf : nameFault y = 0
              · rw [hf, or2_zero] at HS2
                rw [hf, errV_zero] at V
                clear hf
                go_wp2_with fail
                refine (V.out _).mono ?_
                rintro e w1 ⟨rfl, b1⟩
                have B1 := Lib.hid (hB2.out.trans (b1.mono hB2.out.size))
                have N1 := Lib.hid (hN.out.keep b1)
                clear b1 hB2 hN z0
                go_wp2_with fail
                go_roundw
                case rel => exact ⟨j + 1, by go_num, hjt, HS2, B1, by rw [← eb]; exact N1⟩
                case measure => simp [intOf]; omega
              · rw [or2_ne hf] at HS2
                have HE := Lib.hid (errV_ne hf)
                have HR2 := Lib.hid (show listsE L = nameFault y by rw [HR.out, HS.out, HS2.out, or2_ne hf])
                rw [HE.out] at V
                generalize nameFault y = r at *
                clear hf
                go_wp2_with fail
                refine (V.out _).mono ?_
                rintro e w1 ⟨rfl, b1⟩
                have B1 := Lib.hid (hB2.out.trans (b1.mono hB2.out.size))
                clear b1 hB2 hN z0
                go_wp2_with fail
                go_ret
                exact ⟨by rw [HR2.out, HE.out]; rfl, B1.out⟩
            · have HS2 := Lib.hid (show listsF L = rest by
                rw [HS.out, hG.out, List.drop_eq_nil_of_le (by omega)]; exact or2_zero _)
              clear hG HS
              go_wp2_with fail
              go_roundw
              case rel => exact ⟨k + 1, by go_num, hlt, Lib.hid (HS2.out.trans hrest.symm), hB2⟩
              case measure => simp [intOf]; omega
        · have HS := Lib.hid (show listsE L = 0 by
            rw [HR.out, hF.out, List.drop_eq_nil_of_le (by rw [← HL.out]; omega)]; rfl)
          clear hF
          go_wp2_with fail
          go_ret
          exact ⟨by rw [HS.out]; rfl, hB.out⟩
end Go.Proofs.YtnolmlhcikcceaaGreatDoor
namespace Go.Proofs.YtnolmlhcikcceaaGreatDoor
open Go.RowKit Go.Wk Go.Sort
set_option maxRecDepth 100000

theorem strKeyed : Go.Maps.Keyed Tryz.prog 9 := Go.Maps.string_keyed Tryz.underlying9
theorem zero_intM (w : World) : (zeroValue 3).run Tryz.prog w = .ok (.int .i64 0) w := by kernel_rfl
theorem cell_butS {w w' : World} {b o : Nat} {v : Value} {g : Option Nat} (hg : w.grownBy w' g) (hn : some b ≠ g) (h : w.cell? ⟨b, o, none⟩ = some v) : w'.cell? ⟨b, o, none⟩ = some v :=
  (World.cell?_of_block (a := ⟨b, o, none⟩) (hg.block b (block_lt_of_cell h) hn)).trans h
theorem Vs.but {w w' : World} {b : Nat} {s : Sc} {g : Option Nat} (h : Vs w b s) (hg : w.grownBy w' g) (hn : some b ≠ g) : Vs w' b s :=
  ⟨cell_butS hg hn h.c0, cell_butS hg hn h.c1⟩
theorem Vk.but {w w' : World} {b : Nat} {s : Kn} {g : Option Nat} (h : Vk w b s) (hg : w.grownBy w' g) (hn : some b ≠ g) : Vk w' b s :=
  ⟨cell_butS hg hn h.c0, cell_butS hg hn h.c1, cell_butS hg hn h.c2⟩
theorem Va.but {w w' : World} {b : Nat} {s : An} {g : Option Nat} (h : Va w b s) (hg : w.grownBy w' g) (hn : some b ≠ g) : Va w' b s :=
  ⟨cell_butS hg hn h.c0, cell_butS hg hn h.c1, cell_butS hg hn h.c2, cell_butS hg hn h.c3⟩
theorem names_one {A : Option Addr} {n c : Nat} {N : List ByteArray} {w : World} (h : Txs w A n c N) :
    Calls Tryz.prog 29 #[.slice (some ⟨w.heap.size, 0, none⟩) 1 1] (w.alloc (.cells #[.slice A n c] 42)) fun e w' => e = .returned (errV (listsE [⟨A, n, c, N⟩])) ∧ Below (w.alloc (.cells #[.slice A n c] 42)).heap.size (w.alloc (.cells #[.slice A n c] 42)) w' :=
  schema_names ⟨w.heap.size, 0, none⟩ 1 1 [⟨A, n, c, N⟩] _ rfl (by omega) fun j y hy => by
    match j, hy with
    | 0, hy =>
      simp only [List.getElem?_cons_zero, Option.some.injEq] at hy
      subst hy
      exact ⟨cell_row (heap_alloc_last w _) rfl, h.keep (below_box w _)⟩
    | j + 1, hy => simp at hy
theorem names_two {A A' : Option Addr} {n c n' c' : Nat} {N N' : List ByteArray} {w : World} (h : Txs w A n c N) (h' : Txs w A' n' c' N') :
    Calls Tryz.prog 29 #[.slice (some ⟨w.heap.size, 0, none⟩) 2 2] (w.alloc (.cells #[.slice A n c, .slice A' n' c'] 42)) fun e w' => e = .returned (errV (listsE [⟨A, n, c, N⟩, ⟨A', n', c', N'⟩])) ∧ Below (w.alloc (.cells #[.slice A n c, .slice A' n' c'] 42)).heap.size (w.alloc (.cells #[.slice A n c, .slice A' n' c'] 42)) w' :=
  schema_names ⟨w.heap.size, 0, none⟩ 2 2 [⟨A, n, c, N⟩, ⟨A', n', c', N'⟩] _ rfl (by omega) fun j y hy => by
    match j, hy with
    | 0, hy =>
      simp only [List.getElem?_cons_zero, Option.some.injEq] at hy
      subst hy
      exact ⟨cell_row (heap_alloc_last w _) rfl, h.keep (below_box w _)⟩
    | 1, hy =>
      simp only [List.getElem?_cons_succ, List.getElem?_cons_zero, Option.some.injEq] at hy
      subst hy
      exact ⟨cell_row (heap_alloc_last w _) rfl, h'.keep (below_box w _)⟩
    | j + 2, hy => simp at hy
/-- What was put by names. -/
def putsI (N : List ByteArray) : List (ByteArray × Value) := N.zipIdx.map fun p => (p.1, .int .i64 p.2)
theorem putsI_snoc (N : List ByteArray) (x : ByteArray) : putsI (N ++ [x]) = putsI N ++ [(x, .int .i64 N.length)] := by
  unfold putsI
  rw [List.zipIdx_append, List.map_append]
  simp
theorem putsI_any (N : List ByteArray) (x : ByteArray) : ((putsI N).any fun p => decide (p.1 = x)) = hadB N x := by
  have e : ((putsI N).any fun p => decide (p.1 = x)) = ((putsI N).map (·.1)).any fun y => decide (y = x) := by rw [List.any_map]; rfl
  have e2 : (putsI N).map (·.1) = N := by
    unfold putsI
    rw [List.map_map]
    exact List.zipIdx_map_fst 0 N
  rw [e, e2]
  unfold hadB
  congr 1
  funext y
  have := cmpB_cmp.zero y x
  simp [this]
theorem lists_one (A : Option Addr) (n c : Nat) (N : List ByteArray) (r : Int) : or2 (if 6 < N.length then 4 else 0) (or2 (namesF N) r) = or2 (listsE [⟨A, n, c, N⟩]) r := by
  unfold listsE
  by_cases h : 6 < N.length
  · simp [h]
    rw [or2_ne (by decide), or2_ne (by decide)]
  · simp only [h, List.any_cons, List.any_nil, decide_false, Bool.or_false, if_false, or2_zero]
    simp only [listsF, Bool.false_eq_true, if_false]
    rw [show or2 (namesF N) 0 = namesF N by by_cases e : namesF N = 0 <;> simp [or2, e]]
theorem lists_two (A : Option Addr) (n c : Nat) (N : List ByteArray) (A' : Option Addr) (n' c' : Nat) (N' : List ByteArray) (r : Int) : or2 (if 6 < N.length ∨ 6 < N'.length then 4 else 0) (or2 (namesF N) (or2 (namesF N') r)) = or2 (listsE [⟨A, n, c, N⟩, ⟨A', n', c', N'⟩]) r := by
  unfold listsE
  by_cases h : 6 < N.length ∨ 6 < N'.length
  · simp [h]
    rw [or2_ne (by decide), or2_ne (by decide)]
  · have h1 : ¬ 6 < N.length := fun q => h (.inl q)
    have h2 : ¬ 6 < N'.length := fun q => h (.inr q)
    simp only [h1, h2, List.any_cons, List.any_nil, decide_false, Bool.or_false, if_false, or2_zero, or_self]
    simp only [listsF, Bool.false_eq_true, if_false]
    rw [show or2 (namesF N') 0 = namesF N' by by_cases e : namesF N' = 0 <;> simp [or2, e], or2_assoc]
set_option maxHeartbeats 4000000 in
theorem schema_Check (s : Sc) (w : World) (h : ScOk w s) :
    Calls Tryz.prog 11 #[s.v] w fun e w' => e = .returned (errV (schF s.k s.a)) ∧ Below w.heap.size w w' := by
  have hmm := @run_makeMap Tryz.prog
  have HKL := Lib.hid (show s.kn = s.k.length by unfold Sc.k; rw [List.length_map]; exact h.k.len)
  have HAL := Lib.hid (show s.an = s.a.length by unfold Sc.a; rw [List.length_map]; exact h.a.len)
  have HKL2 := Lib.hid h.k.len
  have HAL2 := Lib.hid h.a.len
  have hkx := h.k.max
  have hax := h.a.max
  unfold maxLen at hkx hax
  have V0 := Lib.hid (vs_new w s 25)
  have B0 := Lib.hid (below_box w (.cells #[.slice s.KA s.kn s.kc, .slice s.AA s.an s.ac] 25))
  have HV := Lib.hid (show s.v = .agg #[.slice s.KA s.kn s.kc, .slice s.AA s.an s.ac] from rfl)
  by_cases h8 : 8 < s.kn ∨ 8 < s.an
  · have HR := Lib.hid (show schF s.k s.a = 4 by unfold schF; rw [if_pos (by rw [← HKL.out, ← HAL.out]; exact h8)])
    rw [HV.out]
    by_cases h81 : 8 < s.kn
    · have f1 : decide (8 < (s.kn : Int)) = true := decide_eq_true (by omega)
      clear h h8 h81
      go_enter Tryz.func11, Tryz.ntmps11
      go_wp2_with fail
      go_ret
      exact ⟨by rw [HR.out]; rfl, B0.out⟩
    · have f1 : decide (8 < (s.kn : Int)) = false := decide_eq_false (by omega)
      have f2 : decide (8 < (s.an : Int)) = true := decide_eq_true (by omega)
      clear h h8 h81
      go_enter Tryz.func11, Tryz.ntmps11
      go_wp2_with fail
      go_ret
      exact ⟨by rw [HR.out]; rfl, B0.out⟩
  · have HR := Lib.hid (show schF s.k s.a = or2 (kdsF [] s.k) (adsF [] s.a) by unfold schF; rw [if_neg (by rw [← HKL.out, ← HAL.out]; exact h8)])
    have f1 : decide (8 < (s.kn : Int)) = false := decide_eq_false (by omega)
    have f2 : decide (8 < (s.an : Int)) = false := decide_eq_false (by omega)
    have HS := Lib.hid h
    rw [HV.out]
    clear h h8
    go_enter Tryz.func11, Tryz.ntmps11
    go_wp2_with fail
    go_loopw [34] (fun i wr => ∃ k : Nat, i = .int .i64 k ∧ k ≤ s.kn ∧ Hid (kdsF [] s.k = kdsF ((s.k.take k).map KD.nm) (s.k.drop k)) ∧ Hid (wr.ownsMap Tryz.prog 9 heldR (w.heap.size + 1) k (mapD (putsI ((s.K.take k).map fun x => x.d.nm)))) ∧ Hid (Below w.heap.size w wr) ∧ Hid (Vs wr w.heap.size s)) (fun i _ => s.kn - (intOf i).toNat)
    case atStart =>
      have e : (w.alloc (.cells #[.slice s.KA s.kn s.kc, .slice s.AA s.an s.ac] 25)).heap.size = w.heap.size + 1 := by simp
      exact ⟨0, rfl, Nat.zero_le _, Lib.hid (by simp), Lib.hid (by rw [← e]; exact World.ownsMap_made _ _ _ _), Lib.hid (B0.out.alloc (Nat.le_of_lt (by rw [e]; omega)) _), Lib.hid (V0.out.keep (below_box _ _))⟩
    case round =>
      obtain ⟨k, rfl, hk, hF, hO, hB, hV⟩ := hrel
      by_cases hlt : k < s.kn
      · have hkl : k < s.K.length := by rw [← HKL2.out]; exact hlt
        have hkl2 : k < s.k.length := by rw [← HKL.out]; exact hlt
        have HF := Lib.hid (hF.out.trans (kdsF_step hkl2))
        rw [Sc.k_at s hkl, Sc.k_names] at HF
        obtain ⟨a, ea, q0, q1, q2, hok⟩ := (HS.out.k.keep hB.out).at_ k _ (List.getElem?_eq_getElem hkl)
        have HOK := Lib.hid (fun w' (hb : Below w.heap.size w w') => (let ⟨_, _, _, _, _, h⟩ := (HS.out.k.keep hb).at_ k _ (List.getElem?_eq_getElem hkl); h : KnOk w' s.K[k]))
        have HNL := Lib.hid (show ((s.K.take (k + 1)).map fun x => x.d.nm) = ((s.K.take k).map fun x => x.d.nm) ++ [s.K[k].d.nm] by rw [List.take_succ_eq_append_getElem hkl, List.map_append]; rfl)
        have HNN := Lib.hid (show ((s.K.take k).map fun x => x.d.nm).length = k by rw [List.length_map, List.length_take]; omega)
        generalize hNS1 : ((s.K.take (k + 1)).map fun x => x.d.nm) = NS1 at *
        generalize hNS : ((s.K.take k).map fun x => x.d.nm) = NS at *
        have HFD := Lib.hid (show kdF NS s.K[k].d = or2 (nameFault s.K[k].d.nm) (or2 (if hadB NS s.K[k].d.nm then 6 else 0) (or2 (if 6 < s.K[k].d.up.length then 4 else 0) (or2 (namesF s.K[k].d.up) (recF s.K[k].d.P)))) from rfl)
        have zz := Lib.hid hok.s
        have C1 := Lib.hid (fun w' => name_Check s.K[k].d.nm w' zz.out)
        generalize s.K[k] = x at *
        have BB := Lib.hid (below_box wr (.cells #[.string x.d.nm, .slice x.UA x.un x.uc, .slice x.NA x.nn x.nc] 44))
        have K1 := Lib.hid (vk_new wr x 44)
        have HLT := Lib.hid hO.out.lt
        rw [ea]
        clear hF V0 B0 hok
        go_wp2_with fail
        refine (C1.out _).mono ?_
        rintro e w1 ⟨rfl, b1⟩
        have BW := Lib.hid (BB.out.trans (b1.mono BB.out.size))
        have O1 := Lib.hid (ownsMap_keep hO.out BW.out)
        have V1 := Lib.hid (hV.out.keep BW.out)
        have B1 := Lib.hid (hB.out.trans (BW.out.mono hB.out.size))
        have X1 := Lib.hid (K1.out.keep b1)
        clear b1 BB K1 hO hV hB BW
        by_cases g1 : nameFault x.d.nm = 0
        · rw [g1, or2_zero] at HFD
          rw [g1, errV_zero]
          obtain ⟨x0, x1, x2⟩ := X1.out
          have HK := Lib.hid (show keyOf Tryz.prog 9 (.string x.d.nm) = some (keyL x.d.nm) from WideMaps.keyOf_string_mk Tryz.underlying9 zz.out)
          have HA := Lib.hid ((has_mapD (putsI NS) x.d.nm).trans (putsI_any NS x.d.nm))
          clear g1 C1
          go_wp2_with (at_lookup; refine wpList_lookup_own_ok _ rfl _ _ 78 rfl 9 3 strKeyed Tryz.underlying78 heldR (zero_intM _) _ [] rfl (w.heap.size + 1) k _ rfl O1.out _ _ rfl HK.out ?_)
          intro v ps hv
          rw [HA.out]
          clear hv HA
          by_cases g2 : hadB NS x.d.nm = true
          · rw [if_pos g2, or2_ne (by decide)] at HFD
            have HE := Lib.hid (show schF s.k s.a = 6 by rw [HR.out, HF.out, HFD.out]; rfl)
            rw [g2]
            clear g2
            go_wp2_with fail
            go_ret
            exact ⟨by rw [HE.out]; rfl, B1.out⟩
          · rw [if_neg g2, or2_zero, lists_one x.UA x.un x.uc] at HFD
            rw [Bool.eq_false_iff.2 g2]
            clear g2
            go_wp2_with (at_mapUpdate; refine wpList_mapUpdate_own _ rfl _ _ _ 78 rfl 9 3 strKeyed Tryz.underlying78 heldR (w.heap.size + 1) k _ rfl O1.out (by unfold maxLen; omega) _ _ _ rfl rfl HK.out _ [] rfl ?_)
            intro w4 hown hgrow
            have O4 := Lib.hid (show w4.ownsMap Tryz.prog 9 heldR (w.heap.size + 1) (k + 1) (mapD (putsI NS1)) by
              rw [HNL.out, putsI_snoc, mapD_snoc, HNN.out]; exact hown)
            have B4 := Lib.hid (B1.out.grown hgrow B1.out.size (fun g hg => by cases hg; exact Nat.le_succ _))
            have V4 := Lib.hid (V1.out.but hgrow (by intro h; injection h with h; omega))
            have X4 := Lib.hid (X1.out.but hgrow (by intro h; injection h with h; have := HLT.out; omega))
            clear hown hgrow O1 B1 V1 X1 x0 x1 x2 HK
            obtain ⟨x0, x1, x2⟩ := X4.out
            have CN := Lib.hid (names_one (HOK.out _ B4.out).us)
            have BB := Lib.hid (below_box w4 (.cells #[.slice x.UA x.un x.uc] 42))
            go_wp2_with fail
            refine CN.out.mono ?_
            rintro e w5 ⟨rfl, b5⟩
            have BW := Lib.hid (BB.out.trans (b5.mono BB.out.size))
            have O5 := Lib.hid (ownsMap_keep O4.out BW.out)
            have V5 := Lib.hid (V4.out.keep BW.out)
            have X5 := Lib.hid (X4.out.keep BW.out)
            have B5 := Lib.hid (B4.out.trans (BW.out.mono B4.out.size))
            clear b5 BB BW O4 V4 X4 B4 CN x0 x1 x2
            obtain ⟨x0, x1, x2⟩ := X5.out
            generalize listsE [⟨x.UA, x.un, x.uc, x.d.up⟩] = r at *
            by_cases g3 : r = 0
            · subst g3
              rw [or2_zero] at HFD
              rw [errV_zero]
              have CR := Lib.hid (schema_record _ _ _ _ w5 (HOK.out _ B5.out).ns)
              go_wp2_with fail
              refine CR.out.mono ?_
              rintro e w6 ⟨rfl, b6⟩
              have O6 := Lib.hid (ownsMap_keep O5.out b6)
              have V6 := Lib.hid (V5.out.keep b6)
              have B6 := Lib.hid (B5.out.trans (b6.mono B5.out.size))
              clear b6 O5 V5 X5 B5 CR x0 x1 x2
              generalize recF x.d.P = r at *
              by_cases g4 : r = 0
              · subst g4
                have HF2 := Lib.hid (show kdsF [] s.k = kdsF ((s.k.take (k + 1)).map KD.nm) (s.k.drop (k + 1)) by rw [HF.out, HFD.out, or2_zero])
                rw [errV_zero]
                go_wp2_with fail
                go_roundw
                case rel => exact ⟨k + 1, by go_num, hlt, HF2, Lib.hid (by rw [hNS1]; exact O6.out), B6, V6⟩
                case measure => simp [intOf]; omega
              · have HEV := Lib.hid (errV_ne g4)
                have HE := Lib.hid (show schF s.k s.a = r by rw [HR.out, HF.out, HFD.out, or2_ne g4, or2_ne g4])
                rw [HEV.out]
                clear g4
                go_wp2_with fail
                go_ret
                exact ⟨by rw [HE.out, HEV.out]; rfl, B6.out⟩
            · rw [or2_ne g3] at HFD
              have HEV := Lib.hid (errV_ne g3)
              have HE := Lib.hid (show schF s.k s.a = r by rw [HR.out, HF.out, HFD.out, or2_ne g3, or2_ne g3])
              rw [HEV.out]
              clear g3
              go_wp2_with fail
              go_ret
              exact ⟨by rw [HE.out, HEV.out]; rfl, B5.out⟩
        · rw [or2_ne g1] at HFD
          have HEV := Lib.hid (errV_ne g1)
          have HE := Lib.hid (show schF s.k s.a = nameFault x.d.nm by rw [HR.out, HF.out, HFD.out, or2_ne g1, or2_ne g1])
          rw [HEV.out]
          generalize nameFault x.d.nm = r at *
          clear g1
          go_wp2_with fail
          go_ret
          exact ⟨by rw [HE.out, HEV.out]; rfl, B1.out⟩
      · have HR2 := Lib.hid (show schF s.k s.a = adsF [] s.a by
          rw [HR.out, hF.out, List.drop_eq_nil_of_le (by rw [← HKL.out]; omega)]
          exact or2_zero _)
        clear hF hk V0 B0 HR
        obtain ⟨w1, hrun, hown, hgrow⟩ := ownsMap_clear hO.out (mty := 78) Tryz.underlying78
        have O1 := Lib.hid hown
        have B1 := Lib.hid (hB.out.grown hgrow hB.out.size (fun g hg => by cases hg; exact Nat.le_succ _))
        have V1 := Lib.hid (hV.out.but hgrow (by intro h; injection h with h; omega))
        obtain ⟨v0, v1⟩ := V1.out
        clear hown hgrow hO hB hV
        go_wp2_with fail
        go_loopw [76] (fun i wr => ∃ k : Nat, i = .int .i64 k ∧ k ≤ s.an ∧ Hid (adsF [] s.a = adsF ((s.a.take k).map AD.id) (s.a.drop k)) ∧ Hid (wr.ownsMap Tryz.prog 9 heldR (w.heap.size + 1) k (mapD (putsI ((s.L.take k).map fun x => x.d.id)))) ∧ Hid (Below w.heap.size w wr) ∧ Hid (Vs wr w.heap.size s)) (fun i _ => s.an - (intOf i).toNat)
        case atStart => exact ⟨0, rfl, Nat.zero_le _, Lib.hid (by simp), Lib.hid O1.out, B1, V1⟩
        case round =>
          obtain ⟨k, rfl, hk, hF, hO, hB, hV⟩ := hrel
          by_cases hlt : k < s.an
          · have hkl : k < s.L.length := by rw [← HAL2.out]; exact hlt
            have hkl2 : k < s.a.length := by rw [← HAL.out]; exact hlt
            have HF := Lib.hid (hF.out.trans (adsF_step hkl2))
            rw [Sc.a_at s hkl, Sc.a_names] at HF
            obtain ⟨a, ea, q0, q1, q2, q3, hok⟩ := (HS.out.a.keep hB.out).at_ k _ (List.getElem?_eq_getElem hkl)
            have HOK := Lib.hid (fun w' (hb : Below w.heap.size w w') => (let ⟨_, _, _, _, _, _, h⟩ := (HS.out.a.keep hb).at_ k _ (List.getElem?_eq_getElem hkl); h : AnOk w' s.L[k]))
            have HNL := Lib.hid (show ((s.L.take (k + 1)).map fun x => x.d.id) = ((s.L.take k).map fun x => x.d.id) ++ [s.L[k].d.id] by rw [List.take_succ_eq_append_getElem hkl, List.map_append]; rfl)
            have HNN := Lib.hid (show ((s.L.take k).map fun x => x.d.id).length = k by rw [List.length_map, List.length_take]; omega)
            generalize hNS1 : ((s.L.take (k + 1)).map fun x => x.d.id) = NS1 at *
            generalize hNS : ((s.L.take k).map fun x => x.d.id) = NS at *
            have HFD := Lib.hid (show adF NS s.L[k].d = or2 (textFault s.L[k].d.id) (or2 (if hadB NS s.L[k].d.id then 6 else 0) (or2 (if 6 < s.L[k].d.who.length ∨ 6 < s.L[k].d.what.length then 4 else 0) (or2 (namesF s.L[k].d.who) (or2 (namesF s.L[k].d.what) (recF s.L[k].d.P))))) from rfl)
            have zz := Lib.hid hok.s
            have C1 := Lib.hid (fun w' => name_Quote s.L[k].d.id w' zz.out)
            generalize s.L[k] = x at *
            have BB := Lib.hid (below_box wr (.cells #[.string x.d.id, .slice x.WA x.wn x.wc, .slice x.TA x.tn x.tc, .slice x.NA x.nn x.nc] 55))
            have K1 := Lib.hid (va_new wr x 55)
            have HLT := Lib.hid hO.out.lt
            rw [ea]
            clear hF hok
            go_wp2_with fail
            refine (C1.out _).mono ?_
            rintro e w1 ⟨rfl, b1⟩
            have BW := Lib.hid (BB.out.trans (b1.mono BB.out.size))
            have O1 := Lib.hid (ownsMap_keep hO.out BW.out)
            have V1 := Lib.hid (hV.out.keep BW.out)
            have B1 := Lib.hid (hB.out.trans (BW.out.mono hB.out.size))
            have X1 := Lib.hid (K1.out.keep b1)
            clear b1 BB K1 hO hV hB BW
            by_cases g1 : textFault x.d.id = 0
            · rw [g1, or2_zero] at HFD
              rw [g1, errV_zero]
              obtain ⟨x0, x1, x2, x3⟩ := X1.out
              have HK := Lib.hid (show keyOf Tryz.prog 9 (.string x.d.id) = some (keyL x.d.id) from WideMaps.keyOf_string_mk Tryz.underlying9 zz.out)
              have HA := Lib.hid ((has_mapD (putsI NS) x.d.id).trans (putsI_any NS x.d.id))
              clear g1 C1
              go_wp2_with (at_lookup; refine wpList_lookup_own_ok _ rfl _ _ 78 rfl 9 3 strKeyed Tryz.underlying78 heldR (zero_intM _) _ [] rfl (w.heap.size + 1) k _ rfl O1.out _ _ rfl HK.out ?_)
              intro v ps hv
              rw [HA.out]
              clear hv HA
              by_cases g2 : hadB NS x.d.id = true
              · rw [if_pos g2, or2_ne (by decide)] at HFD
                have HE := Lib.hid (show schF s.k s.a = 6 by rw [HR2.out, HF.out, HFD.out]; rfl)
                rw [g2]
                clear g2
                go_wp2_with fail
                go_ret
                exact ⟨by rw [HE.out]; rfl, B1.out⟩
              · rw [if_neg g2, or2_zero, lists_two x.WA x.wn x.wc _ x.TA x.tn x.tc] at HFD
                rw [Bool.eq_false_iff.2 g2]
                clear g2
                go_wp2_with (at_mapUpdate; refine wpList_mapUpdate_own _ rfl _ _ _ 78 rfl 9 3 strKeyed Tryz.underlying78 heldR (w.heap.size + 1) k _ rfl O1.out (by unfold maxLen; omega) _ _ _ rfl rfl HK.out _ [] rfl ?_)
                intro w4 hown hgrow
                have O4 := Lib.hid (show w4.ownsMap Tryz.prog 9 heldR (w.heap.size + 1) (k + 1) (mapD (putsI NS1)) by
                  rw [HNL.out, putsI_snoc, mapD_snoc, HNN.out]; exact hown)
                have B4 := Lib.hid (B1.out.grown hgrow B1.out.size (fun g hg => by cases hg; exact Nat.le_succ _))
                have V4 := Lib.hid (V1.out.but hgrow (by intro h; injection h with h; omega))
                have X4 := Lib.hid (X1.out.but hgrow (by intro h; injection h with h; have := HLT.out; omega))
                clear hown hgrow O1 B1 V1 X1 x0 x1 x2 x3 HK
                obtain ⟨x0, x1, x2, x3⟩ := X4.out
                have CN := Lib.hid (names_two (HOK.out _ B4.out).ws (HOK.out _ B4.out).ts)
                have BB := Lib.hid (below_box w4 (.cells #[.slice x.WA x.wn x.wc, .slice x.TA x.tn x.tc] 42))
                go_wp2_with fail
                refine CN.out.mono ?_
                rintro e w5 ⟨rfl, b5⟩
                have BW := Lib.hid (BB.out.trans (b5.mono BB.out.size))
                have O5 := Lib.hid (ownsMap_keep O4.out BW.out)
                have V5 := Lib.hid (V4.out.keep BW.out)
                have X5 := Lib.hid (X4.out.keep BW.out)
                have B5 := Lib.hid (B4.out.trans (BW.out.mono B4.out.size))
                clear b5 BB BW O4 V4 X4 B4 CN x0 x1 x2 x3
                obtain ⟨x0, x1, x2, x3⟩ := X5.out
                generalize listsE [⟨x.WA, x.wn, x.wc, x.d.who⟩, ⟨x.TA, x.tn, x.tc, x.d.what⟩] = r at *
                by_cases g3 : r = 0
                · subst g3
                  rw [or2_zero] at HFD
                  rw [errV_zero]
                  have CR := Lib.hid (schema_record _ _ _ _ w5 (HOK.out _ B5.out).ns)
                  go_wp2_with fail
                  refine CR.out.mono ?_
                  rintro e w6 ⟨rfl, b6⟩
                  have O6 := Lib.hid (ownsMap_keep O5.out b6)
                  have V6 := Lib.hid (V5.out.keep b6)
                  have B6 := Lib.hid (B5.out.trans (b6.mono B5.out.size))
                  clear b6 O5 V5 X5 B5 CR x0 x1 x2 x3
                  generalize recF x.d.P = r at *
                  by_cases g4 : r = 0
                  · subst g4
                    have HF2 := Lib.hid (show adsF [] s.a = adsF ((s.a.take (k + 1)).map AD.id) (s.a.drop (k + 1)) by rw [HF.out, HFD.out, or2_zero])
                    rw [errV_zero]
                    go_wp2_with fail
                    go_roundw
                    case rel => exact ⟨k + 1, by go_num, hlt, HF2, Lib.hid (by rw [hNS1]; exact O6.out), B6, V6⟩
                    case measure => simp [intOf]; omega
                  · have HEV := Lib.hid (errV_ne g4)
                    have HE := Lib.hid (show schF s.k s.a = r by rw [HR2.out, HF.out, HFD.out, or2_ne g4])
                    rw [HEV.out]
                    clear g4
                    go_wp2_with fail
                    go_ret
                    exact ⟨by rw [HE.out, HEV.out]; rfl, B6.out⟩
                · rw [or2_ne g3] at HFD
                  have HEV := Lib.hid (errV_ne g3)
                  have HE := Lib.hid (show schF s.k s.a = r by rw [HR2.out, HF.out, HFD.out, or2_ne g3])
                  rw [HEV.out]
                  clear g3
                  go_wp2_with fail
                  go_ret
                  exact ⟨by rw [HE.out, HEV.out]; rfl, B5.out⟩
            · rw [or2_ne g1] at HFD
              have HEV := Lib.hid (errV_ne g1)
              have HE := Lib.hid (show schF s.k s.a = textFault x.d.id by rw [HR2.out, HF.out, HFD.out, or2_ne g1])
              rw [HEV.out]
              generalize textFault x.d.id = r at *
              clear g1
              go_wp2_with fail
              go_ret
              exact ⟨by rw [HE.out, HEV.out]; rfl, B1.out⟩
          · have HE := Lib.hid (show schF s.k s.a = 0 by
              rw [HR2.out, hF.out, List.drop_eq_nil_of_le (by rw [← HAL.out]; omega)]; rfl)
            clear hF
            go_wp2_with fail
            go_ret
            exact ⟨by rw [HE.out]; rfl, hB.out⟩
end Go.Proofs.YtnolmlhcikcceaaGreatDoor
namespace Go.Proofs.YtnolmlhcikcceaaGreatDoor
open Go.RowKit Go.Wk Go.Sort
set_option maxRecDepth 100000

/-- A variable of 3 cells of the call's own. -/
structure Bx3 (w : World) (b : Nat) (x0 x1 x2 : Value) : Prop where
  c0 : w.cell? ⟨b, 0, none⟩ = some x0
  c1 : w.cell? ⟨b, 1, none⟩ = some x1
  c2 : w.cell? ⟨b, 2, none⟩ = some x2
  z0 : w.frozen? ⟨b, 0, none⟩ = false
  z1 : w.frozen? ⟨b, 1, none⟩ = false
  z2 : w.frozen? ⟨b, 2, none⟩ = false
theorem bx3_new (w : World) (x0 x1 x2 : Value) (t : TypeId) : Bx3 (w.alloc (.cells #[x0, x1, x2] t)) w.heap.size x0 x1 x2 :=
  ⟨cell_new w _ _ _ rfl, cell_new w _ _ _ rfl, cell_new w _ _ _ rfl, by simp, by simp, by simp⟩
theorem Bx3.keep {w w' : World} {b : Nat} {x0 x1 x2 : Value} (h : Bx3 w b x0 x1 x2) (hb : Below w.heap.size w w') : Bx3 w' b x0 x1 x2 :=
  have hl := block_lt_of_cell h.c0
  ⟨cell_keep hb h.c0, cell_keep hb h.c1, cell_keep hb h.c2, by rw [(bcell hb).2 b 0 hl]; exact h.z0, by rw [(bcell hb).2 b 1 hl]; exact h.z1, by rw [(bcell hb).2 b 2 hl]; exact h.z2⟩
theorem Bx3.but {w w' : World} {b : Nat} {x0 x1 x2 : Value} {g : Option Nat} (h : Bx3 w b x0 x1 x2) (hg : w.grownBy w' g) (hn : some b ≠ g) : Bx3 w' b x0 x1 x2 :=
  have hb := hg.block b (block_lt_of_cell h.c0) hn
  ⟨(World.cell?_of_block (a := ⟨b, 0, none⟩) hb).trans h.c0, (World.cell?_of_block (a := ⟨b, 1, none⟩) hb).trans h.c1, (World.cell?_of_block (a := ⟨b, 2, none⟩) hb).trans h.c2, (World.frozen?_of_block (a := ⟨b, 0, none⟩) hb).trans h.z0, (World.frozen?_of_block (a := ⟨b, 1, none⟩) hb).trans h.z1, (World.frozen?_of_block (a := ⟨b, 2, none⟩) hb).trans h.z2⟩
theorem Bx3.set {w : World} {b : Nat} {x0 x1 x2 : Value} (h : Bx3 w b x0 x1 x2) (y0 y1 y2 : Value) : Bx3 (((w.setCell ⟨b, 0, none⟩ y0).setCell ⟨b, 1, none⟩ y1).setCell ⟨b, 2, none⟩ y2) b y0 y1 y2 := by
  obtain ⟨c0, c1, c2, z0, z1, z2⟩ := h
  refine ⟨?_, ?_, ?_, ?_, ?_, ?_⟩
  all_goals go_simp
theorem below_set3 {B b : Nat} {a w : World} (h : Below B a w) (hb : B ≤ b) (y0 y1 y2 : Value) : Below B a (((w.setCell ⟨b, 0, none⟩ y0).setCell ⟨b, 1, none⟩ y1).setCell ⟨b, 2, none⟩ y2) := (((h.setCell (p := ⟨b, 0, none⟩) hb y0).setCell (p := ⟨b, 1, none⟩) hb y1).setCell (p := ⟨b, 2, none⟩) hb y2)
end Go.Proofs.YtnolmlhcikcceaaGreatDoor
namespace Go.Proofs.YtnolmlhcikcceaaGreatDoor
open Go.RowKit Go.Wk Go.Sort
set_option maxRecDepth 100000

theorem dec_str (a b : ByteArray) : decide (a = b) = (a.toList == b.toList) := by
  by_cases h : a = b
  · subst h; simp
  · rw [decide_eq_false h]
    exact (beq_eq_false_iff_ne.2 (fun q => h (toList_inj q))).symm
set_option maxHeartbeats 1000000 in
theorem kind_fn (x : Kn) (t : ByteArray) (b : Nat) (w : World) (hv : w.cell? ⟨b, 0, none⟩ = some (.string t)) :
    Calls Tryz.prog 61 #[.agg #[.string x.d.nm, .slice x.UA x.un x.uc, .slice x.NA x.nn x.nc], .pointer (some ⟨b, 0, none⟩)] w fun r w' => r = .returned (.bool (decide (x.d.nm = t))) ∧ Below w.heap.size w w' := by
  have B0 := Lib.hid (below_box w (.cells #[.string x.d.nm, .slice x.UA x.un x.uc, .slice x.NA x.nn x.nc] 44))
  have c0 := cell_keep B0.out hv
  rw [dec_str]
  clear hv
  generalize x.d.nm = y at *
  go_enter Tryz.func61, Tryz.ntmps61
  go_wp2_with fail
  go_ret
  exact ⟨rfl, B0.out⟩
set_option maxHeartbeats 2000000 in
theorem kinds_IndexFunc (s : Sc) (t : ByteArray) (b : Nat) (w : World) (h : ScOk w s) (hv : w.cell? ⟨b, 0, none⟩ = some (.string t)) :
    Calls Tryz.prog 60 #[.slice s.KA s.kn s.kc, .func (.func 61) #[] #[.pointer (some ⟨b, 0, none⟩)]] w (KoPost w s t) := by
  have eg : ∀ args w, (callFunc 61 args).run Tryz.prog w = .ok (.enter 61 args) w := enters_of Tryz.func61 (by kernel_rfl) rfl
  have K := Lib.hid (fun x w' hb => kind_fn x t b w' (cell_keep (w' := w') hb hv))
  have HL := Lib.hid h.k.len
  have HM := h.k.max
  unfold maxLen at HM
  have HA := Lib.hid h.k
  clear h hv
  go_enter Tryz.func60, Tryz.ntmps60
  go_wp2_with fail
  go_loopw [5, 8] (fun _ i wr => ∃ k : Nat, k ≤ s.kn ∧ i = .int .i64 k ∧ Hid (∀ y ∈ s.K.take k, y.d.nm ≠ t) ∧ Hid (Below w.heap.size w wr)) (fun _ i _ => s.kn - (intOf i).toNat)
  case atStart => exact ⟨0, Nat.zero_le _, rfl, Lib.hid (by intro y hy; simp at hy), Lib.hid (Below.refl _ _)⟩
  case round =>
    obtain ⟨k, hk, rfl, hN, hB⟩ := hrel
    by_cases hlt : k < s.kn
    · have hkl : k < s.K.length := by rw [← HL.out]; exact hlt
      obtain ⟨a, ea, q0, q1, q2, -⟩ := (HA.out.keep hB.out).at_ k _ (List.getElem?_eq_getElem hkl)
      rw [ea]
      have KX := Lib.hid (K.out s.K[k] wr hB.out)
      by_cases hs : s.K[k].d.nm = t
      · have HP := Lib.hid (fun w' (hb : Below w.heap.size w w') => (⟨.inr ⟨k, hkl, by
          unfold kindOf Sc.k
          rw [List.find?_map]
          rw [find_at_first (i := k) hkl (by simp [hs]) (fun y hy => by simpa using hN.out y hy)]
          rfl, rfl⟩, hb⟩ : KoPost w s t (.returned (.int .i64 k)) w'))
        rw [decide_eq_true hs] at KX
        generalize s.K[k] = x at *
        clear hN hs
        go_wp2_with (go_at_fn 61; refine KX.out.mono ?_; rintro e w1 ⟨rfl, b1⟩)
        have B1 := bh hB b1
        clear q0 q1 q2 hB b1 KX
        go_wp2_with fail
        go_ret
        exact HP.out _ B1.out
      · have HN2 := Lib.hid (show ∀ y ∈ s.K.take (k + 1), y.d.nm ≠ t from fun y hy => by
          rw [List.take_succ_eq_append_getElem hkl, List.mem_append] at hy
          rcases hy with hy | hy
          · exact hN.out y hy
          · simp only [List.mem_cons, List.not_mem_nil, or_false] at hy
            subst hy; exact hs)
        rw [decide_eq_false hs] at KX
        generalize s.K[k] = x at *
        clear hN hs
        go_wp2_with (go_at_fn 61; refine KX.out.mono ?_; rintro e w1 ⟨rfl, b1⟩)
        have B1 := bh hB b1
        clear q0 q1 q2 hB b1 KX
        go_wp2_with fail
        go_roundw
        case rel => exact ⟨k + 1, hlt, by go_num, HN2, B1⟩
        case measure => simp [intOf]; omega
    · have HP := Lib.hid (show KoPost w s t (.returned (.int .i64 (-1))) wr from ⟨.inl ⟨by
        unfold kindOf Sc.k
        rw [List.find?_eq_none]
        intro y hy
        obtain ⟨z, hz, rfl⟩ := List.mem_map.1 hy
        simpa using hN.out z (by rw [List.take_of_length_le (by rw [← HL.out]; omega)]; exact hz), rfl⟩, hB.out⟩)
      clear hN hB
      go_wp2_with fail
      go_ret
      exact HP.out
/-- What Kind tells. -/
def KtPost (w : World) (s : Sc) (x : ByteArray) (e : Ending) (w' : World) : Prop :=
  ((kindOf s.k x = none ∧ e = .returned (.tuple #[.agg #[.string ⟨#[]⟩, .slice none 0 0, .slice none 0 0], .bool false])) ∨
    ∃ i, ∃ h : i < s.K.length, kindOf s.k x = some s.K[i].d ∧ e = .returned (.tuple #[.agg #[.string s.K[i].d.nm, .slice s.K[i].UA s.K[i].un s.K[i].uc, .slice s.K[i].NA s.K[i].nn s.K[i].nc], .bool true])) ∧ Below w.heap.size w w'
set_option maxHeartbeats 2000000 in
theorem schema_Kind (s : Sc) (t : ByteArray) (w : World) (h : ScOk w s) :
    Calls Tryz.prog 23 #[s.v, .string t] w (KtPost w s t) := by
  have V0 := Lib.hid (vs_new w s 25)
  have B0 := Lib.hid (below_box w (.cells #[.slice s.KA s.kn s.kc, .slice s.AA s.an s.ac] 25))
  have HV := Lib.hid (show s.v = .agg #[.slice s.KA s.kn s.kc, .slice s.AA s.an s.ac] from rfl)
  rw [HV.out]
  have HS := Lib.hid h
  have HM := h.k.max
  unfold maxLen at HM
  have HL := Lib.hid h.k.len
  clear h
  go_enter Tryz.func23, Tryz.ntmps23
  go_wp2_with fail
  have hsz : (w.alloc (.cells #[.slice s.KA s.kn s.kc, .slice s.AA s.an s.ac] 25)).heap.size = w.heap.size + 1 := by simp
  obtain ⟨w1, hw1⟩ : ∃ w1, w.alloc (.cells #[.slice s.KA s.kn s.kc, .slice s.AA s.an s.ac] 25) = w1 := ⟨_, rfl⟩
  rw [hw1] at V0 B0 hsz ⊢
  rw [← hsz]
  clear hw1
  have T2 := cell_new w1 #[.string t] 9 0 (v := .string t) rfl
  have B2 := Lib.hid (B0.out.trans ((below_box w1 (.cells #[.string t] 9)).mono B0.out.size))
  have V2 := Lib.hid (V0.out.keep (below_box w1 (.cells #[.string t] 9)))
  have hsz2 : (w1.alloc (.cells #[.string t] 9)).heap.size = w1.heap.size + 1 := by simp
  obtain ⟨w2, hw2⟩ : ∃ w2, w1.alloc (.cells #[.string t] 9) = w2 := ⟨_, rfl⟩
  rw [hw2] at V2 B2 T2 hsz2 ⊢
  rw [← hsz2]
  clear hw2 B0 V0
  have R3 := Lib.hid (bx3_new w2 (.string ⟨#[]⟩) (.slice none 0 0) (.slice none 0 0) 44)
  have BB := below_box w2 (.cells #[.string ⟨#[]⟩, .slice none 0 0, .slice none 0 0] 44)
  have B3 := Lib.hid (B2.out.trans (BB.mono B2.out.size))
  have V3 := Lib.hid (V2.out.keep BB)
  have T3 := cell_keep BB T2
  have HW := Lib.hid B2.out.size
  have KI := Lib.hid (kinds_IndexFunc s t _ _ (HS.out.keep B3.out) T3)
  clear BB B2 V2 T2 T3 hsz hsz2
  refine KI.out.mono ?_
  rintro e w4 ⟨hc, b4⟩
  have B4 := Lib.hid (B3.out.trans (b4.mono B3.out.size))
  have V4 := Lib.hid (V3.out.keep b4)
  have R4 := Lib.hid (R3.out.keep b4)
  clear b4 B3 V3 R3 KI
  obtain ⟨v0, v1⟩ := V4.out
  obtain ⟨d0, d1, d2, z0, z1, z2⟩ := R4.out
  rcases hc with ⟨hN, rfl⟩ | ⟨i, hi, hN, rfl⟩
  · have Y4 := R4.out.set (.string ⟨#[]⟩) (.slice none 0 0) (.slice none 0 0)
    obtain ⟨g0, g1, g2, -, -, -⟩ := Y4
    go_wp2_with fail
    refine bodyPost_ret (v := .tuple #[.agg #[.string ⟨#[]⟩, .slice none 0 0, .slice none 0 0], .bool false]) (by simp [results, Tryz.results23, go_sem, g0, g1, g2]) rfl ⟨.inl ⟨hN, rfl⟩, ?_⟩
    exact below_set3 B4.out HW.out _ _ _
  · have hin : i < s.kn := by rw [HL.out]; exact hi
    obtain ⟨a, ea, q0, q1, q2, -⟩ := (HS.out.keep B4.out).k.at_ i _ (List.getElem?_eq_getElem hi)
    have BF : ∀ w', Below w.heap.size w w' → KtPost w s t (.returned (.tuple #[.agg #[.string s.K[i].d.nm, .slice s.K[i].UA s.K[i].un s.K[i].uc, .slice s.K[i].NA s.K[i].nn s.K[i].nc], .bool true])) w' := fun w' hb => ⟨.inr ⟨i, hi, hN, rfl⟩, hb⟩
    have f0 : decide ((i : Int) < 0) = false := decide_eq_false (by omega)
    rw [ea] at v0
    generalize s.K[i] = x at *
    have Y4 := R4.out.set (.string x.d.nm) (.slice x.UA x.un x.uc) (.slice x.NA x.nn x.nc)
    obtain ⟨g0, g1, g2, -, -, -⟩ := Y4
    go_wp2_with fail
    refine bodyPost_ret (v := .tuple #[.agg #[.string x.d.nm, .slice x.UA x.un x.uc, .slice x.NA x.nn x.nc], .bool true]) (by simp [results, Tryz.results23, go_sem, g0, g1, g2]) rfl (BF _ ?_)
    exact below_set3 B4.out HW.out _ _ _
end Go.Proofs.YtnolmlhcikcceaaGreatDoor
namespace Go.Proofs.YtnolmlhcikcceaaGreatDoor
open Go.RowKit Go.Wk Go.Sort
set_option maxRecDepth 100000

set_option maxHeartbeats 1000000 in
theorem strs_Index (A : Option Addr) (n c : Nat) (N : List ByteArray) (s : ByteArray) (w : World) (h : Txs w A n c N) :
    Calls Tryz.prog 62 #[.slice A n c, .string s] w fun e w' => (∃ k : Int, e = .returned (.int .i64 k) ∧ (0 ≤ k ↔ hadB N s = true)) ∧ Below w.heap.size w w' := by
  have HL := Lib.hid h.len
  have HT := Lib.hid h.at_
  have hm := h.max
  unfold maxLen at hm
  clear h
  go_enter Tryz.func62, Tryz.ntmps62
  go_wp2_with fail
  go_loopw [5, 8] (fun _ i wr => ∃ k : Nat, i = .int .i64 k ∧ k ≤ n ∧ Hid (hadB (N.take k) s = false) ∧ w = wr) (fun _ i _ => n - (intOf i).toNat)
  case atStart => exact ⟨0, rfl, Nat.zero_le _, Lib.hid rfl, rfl⟩
  case round =>
    obtain ⟨k, rfl, hk, hF, rfl⟩ := hrel
    by_cases hlt : k < n
    · have hkn : k < N.length := by rw [← HL.out]; exact hlt
      obtain ⟨a, rfl, q⟩ := HT.out.cell hkn
      by_cases hs : N[k] = s
      · have HR := Lib.hid (show hadB N s = true from hadB_iff.2 (by rw [← hs]; exact List.getElem_mem hkn))
        rw [hs] at q
        clear hF hs
        go_wp2_with fail
        go_ret
        exact ⟨⟨k, rfl, by rw [HR.out]; simp⟩, Below.refl _ _⟩
      · have HF := Lib.hid (hadB_take hkn hF.out hs)
        have f6 : (s.toList == N[k].toList) = false := beq_eq_false_iff_ne.2 (fun q => hs (toList_inj q.symm))
        generalize N[k] = y at *
        clear hF hs
        go_wp2_with fail
        go_roundw
        case rel => exact ⟨k + 1, by go_num, hlt, HF, trivial⟩
        case measure => simp [intOf]; omega
    · have HR := Lib.hid (show hadB N s = false by
        have := hF.out
        rwa [List.take_of_length_le (by rw [← HL.out]; omega)] at this)
      clear hF
      go_wp2_with fail
      go_ret
      exact ⟨⟨-1, rfl, by rw [HR.out]; simp⟩, Below.refl _ _⟩
theorem strs_Contains (A : Option Addr) (n c : Nat) (N : List ByteArray) (s : ByteArray) (w : World) (h : Txs w A n c N) :
    Calls Tryz.prog 24 #[.slice A n c, .string s] w fun e w' => e = .returned (.bool (hadB N s)) ∧ Below w.heap.size w w' := by
  have K := Lib.hid (strs_Index A n c N s w h)
  clear h
  go_enter Tryz.func24, Tryz.ntmps24
  go_wp2_with fail
  refine K.out.mono ?_
  rintro e w1 ⟨⟨k, rfl, hk⟩, b1⟩
  have B1 := Lib.hid b1
  have HK := Lib.hid (show decide (0 ≤ k) = hadB N s by
    rcases hu : hadB N s with _ | _
    · exact decide_eq_false (fun h => by have := hk.1 h; rw [hu] at this; cases this)
    · exact decide_eq_true (hk.2 hu))
  clear hk b1
  go_wp2_with fail
  go_ret
  exact ⟨by rw [← HK.out]; rfl, B1.out⟩
end Go.Proofs.YtnolmlhcikcceaaGreatDoor
namespace Go.Proofs.YtnolmlhcikcceaaGreatDoor
open Go.RowKit Go.Wk Go.Sort
set_option maxRecDepth 100000

/-- What own tells. -/
def OwnPost (w : World) (k : Kd) (e : Ending) (w' : World) : Prop := ∃ u, e = .returned (.agg u.toArray) ∧ KAt w' (fun b => w.heap.size ≤ b) k u ∧ Below w.heap.size w w'
def OwnC (N : Nat) : Prop := ∀ (A : Option Addr) (n c : Nat) (P : List Nd) (w : World), P.length ≤ N → P.length ≤ 200 → Ns w A n c P → IsV P → Calls Tryz.prog 57 #[.slice A n c] w (OwnPost w (ownV P))
set_option maxHeartbeats 4000000 in
theorem own_leaf (A : Option Addr) (n c : Nat) (P : List Nd) (w : World) (hns : Ns w A n c P) (hV : IsV P) (h5 : headOp P ≠ 5) (h6 : headOp P ≠ 6) :
    Calls Tryz.prog 57 #[.slice A n c] w (OwnPost w (ownV P)) := by
  have hop := isV_op hV
  have e1 := @ownV_1 P
  have e2 := @ownV_2 P
  have e3 := @ownV_3 P
  have e4 := @ownV_4 P
  generalize ownV P = kk at *
  obtain ⟨x, r, rfl, -, -⟩ := isV_head hV
  change x.op = 1 → _ at e1
  change x.op = 2 → _ at e2
  change x.op = 3 → _ at e3
  change x.op = 4 → kk = .ent x.s at e4
  change x.op = 1 ∨ x.op = 2 ∨ x.op = 3 ∨ x.op = 4 ∨ x.op = 5 ∨ x.op = 6 at hop
  change x.op ≠ 5 at h5
  change x.op ≠ 6 at h6
  obtain ⟨a, rfl, q0, q1, q2, q3⟩ := hns.at_ 0 x rfl
  rw [show a.add (0 * 4) = a from rfl] at q0 q1 q2 q3
  have hl : a.block < w.heap.size := block_lt_of_cell q0
  have hn1 : 1 ≤ n := by rw [hns.len, List.length_cons]; omega
  have hm := hns.max
  unfold maxLen at hm
  have HB := Lib.hid (fun o1 o2 => (below_box w o1).trans ((below_box (w.alloc o1) o2).mono (by simp)))
  clear hns hV
  rcases hop with h | h | h | h | h | h
  · rw [e1 h]
    rw [h] at q0
    clear h h5 h6 e1 e2 e3 e4
    go_enter Tryz.func57, Tryz.ntmps57
    go_wp2_with fail
    refine bodyPost_ret (v := .agg #[.int .i64 41, .int .i64 0, .string ⟨#[]⟩, .string ⟨#[]⟩, .pointer none, .slice none 0 0]) (by simp [results, Tryz.results57, go_sem]) rfl ?_
    exact ⟨[.int .i64 41, .int .i64 0, .string ⟨#[]⟩, .string ⟨#[]⟩, .pointer none, .slice none 0 0], rfl, ⟨0, rfl⟩, HB.out _ _⟩
  · rw [e2 h]
    rw [h] at q0
    clear h h5 h6 e1 e2 e3 e4
    go_enter Tryz.func57, Tryz.ntmps57
    go_wp2_with fail
    refine bodyPost_ret (v := .agg #[.int .i64 42, .int .i64 0, .string ⟨#[]⟩, .string ⟨#[]⟩, .pointer none, .slice none 0 0]) (by simp [results, Tryz.results57, go_sem]) rfl ?_
    exact ⟨[.int .i64 42, .int .i64 0, .string ⟨#[]⟩, .string ⟨#[]⟩, .pointer none, .slice none 0 0], rfl, ⟨0, rfl⟩, HB.out _ _⟩
  · rw [e3 h]
    rw [h] at q0
    clear h h5 h6 e1 e2 e3 e4
    go_enter Tryz.func57, Tryz.ntmps57
    go_wp2_with fail
    refine bodyPost_ret (v := .agg #[.int .i64 43, .int .i64 0, .string ⟨#[]⟩, .string ⟨#[]⟩, .pointer none, .slice none 0 0]) (by simp [results, Tryz.results57, go_sem]) rfl ?_
    exact ⟨[.int .i64 43, .int .i64 0, .string ⟨#[]⟩, .string ⟨#[]⟩, .pointer none, .slice none 0 0], rfl, ⟨0, rfl⟩, HB.out _ _⟩
  · rw [e4 h]
    rw [h] at q0
    clear h h5 h6 e1 e2 e3 e4
    go_enter Tryz.func57, Tryz.ntmps57
    go_wp2_with fail
    refine bodyPost_ret (v := .agg #[.int .i64 44, .int .i64 0, .string x.s, .string ⟨#[]⟩, .pointer none, .slice none 0 0]) (by simp [results, Tryz.results57, go_sem]) rfl ?_
    exact ⟨[.int .i64 44, .int .i64 0, .string x.s, .string ⟨#[]⟩, .pointer none, .slice none 0 0], rfl, ⟨0, rfl⟩, HB.out _ _⟩
  · exact absurd h h5
  · exact absurd h h6
theorem fold_snoc {L : List (List Nd)} {k : Nat} (h : k < L.length) : ((L.take (k + 1)).map ownV).foldl joinK (.base 49) = joinK (((L.take k).map ownV).foldl joinK (.base 49)) (ownV L[k]) := by
  rw [List.take_succ_eq_append_getElem h, List.map_append, List.foldl_append]
  rfl
theorem fold_sz {L : List (List Nd)} (hL : ∀ Q ∈ L, IsV Q) (k : Nat) : (((L.take k).map ownV).foldl joinK (.base 49)).sz ≤ 1 + 2 * L.flatten.length := by
  have h1 := join_all_sz ((L.take k).map ownV) (.base 49) trivial (fun y hy => by
    obtain ⟨Q, hQ, rfl⟩ := List.mem_map.1 hy
    exact own_ok (hL Q (List.mem_of_mem_take hQ)))
  have h2 : (((L.take k).map ownV).map Kd.sz).sum ≤ 2 * (L.take k).flatten.length := by
    rw [flat_sum, List.map_map, ← sum_two]
    exact sum_le _ _ _ fun Q hQ => own_sz (hL Q (List.mem_of_mem_take hQ))
  have h3 : (L.take k).flatten.length ≤ L.flatten.length := by
    have e : L.flatten = (L.take k).flatten ++ (L.drop k).flatten := by rw [← List.flatten_append, List.take_append_drop]
    rw [e, List.length_append]; omega
  have h4 : (Kd.base 49).sz = 1 := rfl
  omega
theorem fold_valid {L : List (List Nd)} (hL : ∀ Q ∈ L, IsV Q) (k : Nat) : (((L.take k).map ownV).foldl joinK (.base 49)).valid :=
  join_all_valid _ _ (by unfold Kd.valid baseOp; omega) (fun y hy => by
    obtain ⟨Q, hQ, rfl⟩ := List.mem_map.1 hy
    exact own_valid (hL Q (List.mem_of_mem_take hQ)))
end Go.Proofs.YtnolmlhcikcceaaGreatDoor
namespace Go.Proofs.YtnolmlhcikcceaaGreatDoor
open Go.RowKit Go.Wk Go.Sort
set_option maxRecDepth 100000

theorem len_sum : ∀ L : List (List Nd), (∀ Q ∈ L, 1 ≤ Q.length) → L.length ≤ (L.map List.length).sum
  | [], _ => Nat.le_refl _
  | Q :: L, h => by
    have h1 := h Q (by simp)
    have h2 := len_sum L fun Q hQ => h Q (by simp [hQ])
    simp only [List.length_cons, List.map_cons, List.sum_cons]
    omega
theorem joinK_joins {q : Kd} {L : List (List Nd)} {k : Nat} (hq : q = ((L.take k).map ownV).foldl joinK (.base 49)) (h : k < L.length) : joinK q (ownV L[k]) = ((L.take (k + 1)).map ownV).foldl joinK (.base 49) := by
  rw [fold_snoc h, hq]
/-- What the loop over a set's parts keeps. -/
structure SLp (w wr : World) (vp : Value) (V : List Sl) (q : Kd) (o n : Int) (s t : ByteArray) (p A : Option Addr) (m c : Nat) : Prop where
  R : Bx6 wr w.heap.size (.int .i64 0) (.int .i64 0) (.string ⟨#[]⟩) (.string ⟨#[]⟩) (.pointer none) (.slice none 0 0)
  X : Bx6 wr (w.heap.size + 2) (.int .i64 o) (.int .i64 n) (.string s) (.string t) (.pointer p) (.slice A m c)
  K : KAt wr (fun b => w.heap.size + 3 ≤ b) q [.int .i64 o, .int .i64 n, .string s, .string t, .pointer p, .slice A m c]
  V : OwnSls wr (w.heap.size + 3) vp V
  G : Below w.heap.size w wr
  z : w.heap.size + 3 ≤ wr.heap.size
set_option maxHeartbeats 8000000 in
theorem own_set (N : Nat) (ih : OwnC N) (A : Option Addr) (n c : Nat) (P : List Nd) (w : World) (hN : P.length ≤ N + 1) (h200 : P.length ≤ 200) (hns : Ns w A n c P) (hV : IsV P) (h5 : headOp P = 5) :
    Calls Tryz.prog 57 #[.slice A n c] w (OwnPost w (ownV P)) := by
  have HE := Lib.hid (ownV_5 hV h5)
  have HPV := Lib.hid (isV_set hV h5).2.2.1
  have HPS := Lib.hid (fun Q (hQ : Q ∈ setParts P) => set_smaller hV h5 hQ)
  have HPF := Lib.hid (show (setParts P).flatten.length ≤ 200 by
    have := (isV_set hV h5).1
    have h2 := congrArg List.length this
    rw [List.length_cons] at h2
    omega)
  have HPT := Lib.hid (show prtL P = setParts P ∧ prtE P = 0 by
    have h0 : valFault P = 0 := isV_zero.2 ⟨h200, hV⟩
    have h1 : prtE P = 0 := by unfold prtE; rw [if_pos h0, if_pos (.inl h5)]
    refine ⟨?_, h1⟩
    unfold prtL
    rw [if_pos h1, if_pos h5])
  have HPA := Lib.hid (fun w' hb => val_Parts A n c P w' (hns.keep (w' := w') hb))
  obtain ⟨x, r, rfl, -, -⟩ := isV_head hV
  change x.op = 5 at h5
  obtain ⟨a, rfl, q0, q1, q2, q3⟩ := hns.at_ 0 x rfl
  rw [show a.add (0 * 4) = a from rfl] at q0 q1 q2 q3
  have hl : a.block < w.heap.size := block_lt_of_cell q0
  have hn1 : 1 ≤ n := by rw [hns.len, List.length_cons]; omega
  have hm := hns.max
  unfold maxLen at hm
  rw [h5] at q0
  have HP := Lib.hid hN
  generalize ownV (x :: r) = kk at *
  obtain ⟨PP, hPP⟩ : ∃ PP, PP = x :: r := ⟨_, rfl⟩
  rw [← hPP] at HE HPV HPS HPF HPT HPA HP
  have IH := Lib.hid ih
  clear hns hV h5 hPP hN h200 ih
  have Ba := below_box w (.cells #[.int .i64 0, .int .i64 0, .string ⟨#[]⟩, .string ⟨#[]⟩, .pointer none, .slice none 0 0] 74)
  have Bb := below_box (w.alloc (.cells #[.int .i64 0, .int .i64 0, .string ⟨#[]⟩, .string ⟨#[]⟩, .pointer none, .slice none 0 0] 74)) (.cells #[.int .i64 5, .int .i64 x.n, .string x.s, .string x.t] 35)
  have Bc := below_box ((w.alloc (.cells #[.int .i64 0, .int .i64 0, .string ⟨#[]⟩, .string ⟨#[]⟩, .pointer none, .slice none 0 0] 74)).alloc (.cells #[.int .i64 5, .int .i64 x.n, .string x.s, .string x.t] 35)) (.cells #[.int .i64 49, .int .i64 0, .string ⟨#[]⟩, .string ⟨#[]⟩, .pointer none, .slice none 0 0] 74)
  have B3 := Lib.hid (Ba.trans ((Bb.trans (Bc.mono (by simp))).mono (by simp)))
  have XR := Lib.hid (((bx6_new w (.int .i64 0) (.int .i64 0) (.string ⟨#[]⟩) (.string ⟨#[]⟩) (.pointer none) (.slice none 0 0) 74).keep Bb).keep Bc)
  have xp := bx6_new ((w.alloc (.cells #[.int .i64 0, .int .i64 0, .string ⟨#[]⟩, .string ⟨#[]⟩, .pointer none, .slice none 0 0] 74)).alloc (.cells #[.int .i64 5, .int .i64 x.n, .string x.s, .string x.t] 35)) (.int .i64 49) (.int .i64 0) (.string ⟨#[]⟩) (.string ⟨#[]⟩) (.pointer none) (.slice none 0 0) 74
  have hz2 : ((w.alloc (.cells #[.int .i64 0, .int .i64 0, .string ⟨#[]⟩, .string ⟨#[]⟩, .pointer none, .slice none 0 0] 74)).alloc (.cells #[.int .i64 5, .int .i64 x.n, .string x.s, .string x.t] 35)).heap.size = w.heap.size + 2 := by simp
  have hz3 : (((w.alloc (.cells #[.int .i64 0, .int .i64 0, .string ⟨#[]⟩, .string ⟨#[]⟩, .pointer none, .slice none 0 0] 74)).alloc (.cells #[.int .i64 5, .int .i64 x.n, .string x.s, .string x.t] 35)).alloc (.cells #[.int .i64 49, .int .i64 0, .string ⟨#[]⟩, .string ⟨#[]⟩, .pointer none, .slice none 0 0] 74)).heap.size = w.heap.size + 3 := by simp
  rw [hz2] at xp
  have XP := Lib.hid xp
  have HZ3 := Lib.hid hz3
  clear Ba Bb Bc xp hz2 hz3
  go_enter Tryz.func57, Tryz.ntmps57
  go_wp2_with fail
  obtain ⟨w3, hw3⟩ : ∃ w3, (((w.alloc (.cells #[.int .i64 0, .int .i64 0, .string ⟨#[]⟩, .string ⟨#[]⟩, .pointer none, .slice none 0 0] 74)).alloc (.cells #[.int .i64 5, .int .i64 x.n, .string x.s, .string x.t] 35)).alloc (.cells #[.int .i64 49, .int .i64 0, .string ⟨#[]⟩, .string ⟨#[]⟩, .pointer none, .slice none 0 0] 74)) = w3 := ⟨_, rfl⟩
  rw [hw3] at B3 XR XP HZ3 ⊢
  clear hw3 q0 q1 q2 q3
  refine (HPA.out _ B3.out).mono ?_
  rintro e w4 ⟨v, V, rfl, hV4, hVL, hVA, b4⟩
  rw [HPT.out.2, errV_zero]
  rw [HPT.out.1] at hVL
  have HVL := Lib.hid hVL
  rw [HZ3.out] at hV4
  have HVA := Lib.hid (show ∀ r ∈ V, ∀ a, r.A = some a → w.heap.size + 3 ≤ a.block from fun r hr a ha => by have := hVA r hr a ha; have := HZ3.out; omega)
  have LP := Lib.hid (show SLp w w4 v V (.base 49) 49 0 ⟨#[]⟩ ⟨#[]⟩ none none 0 0 from ⟨XR.out.keep b4, XP.out.keep b4, ⟨0, rfl⟩, hV4, B3.out.trans (b4.mono B3.out.size), by have := b4.size; have := HZ3.out; omega⟩)
  obtain ⟨A5, c5, hv5, -, -⟩ := hV4.at
  obtain ⟨nv, hnv⟩ : ∃ nv, nv = V.length := ⟨_, rfl⟩
  have HNV := Lib.hid hnv
  have HNL := Lib.hid (show nv ≤ 200 by
    have h1 := congrArg List.length hVL
    rw [List.length_map] at h1
    have h2 := HPF.out
    rw [flat_sum] at h2
    have h3 := len_sum (setParts PP) (fun Q hQ => by obtain ⟨x, r, e, -⟩ := isV_head (HPV.out Q hQ); rw [e]; simp)
    omega)
  rw [← hnv] at hv5
  subst hv5
  have hnl : nv ≤ 200 := HNL.out
  clear hV4 hVL hVA hnv b4 B3 XR XP HPA
  go_wp2_with fail
  go_loopw [49] (fun i wr => ∃ (k : Nat) (q : Kd) (o n' : Int) (s t : ByteArray) (p A : Option Addr) (m c : Nat), i = .int .i64 k ∧ k ≤ nv ∧ Hid (q = (((setParts PP).take k).map ownV).foldl joinK (.base 49)) ∧ Hid (SLp w wr (.slice A5 nv c5) V q o n' s t p A m c)) (fun i _ => nv - (intOf i).toNat)
  case atStart => exact ⟨0, _, _, _, _, _, _, _, _, _, rfl, Nat.zero_le _, Lib.hid rfl, LP⟩
  case round =>
    clear LP
    obtain ⟨k, q, o, n', s, t, p, A, m, c, rfl, hk, hq, hL⟩ := hrel
    by_cases hlt : k < nv
    · have hkV : k < V.length := by rw [← HNV.out]; exact hlt
      have hkS : k < (setParts PP).length := by rw [← HVL.out, List.length_map]; exact hkV
      have heP : V[k].P = (setParts PP)[k] := by simp [← HVL.out]
      have hmem : (setParts PP)[k] ∈ setParts PP := List.getElem_mem hkS
      have HVK := Lib.hid (HPV.out _ hmem)
      have HLT := Lib.hid (HPS.out _ hmem)
      have HL2 := Lib.hid (show (setParts PP)[k].length ≤ 200 by have := mem_flat hmem; have := HPF.out; omega)
      have HNX := Lib.hid (joinK_joins hq.out hkS)
      have HQV := Lib.hid (show q.valid by rw [hq.out]; exact fold_valid HPV.out k)
      have HQS := Lib.hid (show q.sz ≤ 90000 by
        have h1 := fold_sz HPV.out k
        have h2 := HPF.out
        rw [← hq.out] at h1
        omega)
      obtain ⟨A5', c5', e5, -, hsl⟩ := hL.out.V.at
      injection e5 with e5 e5n e5'
      clear e5n
      subst e5 e5'
      obtain ⟨a5, rfl, hcell, hns5⟩ := hsl.at hkV
      rw [heP] at hns5
      obtain ⟨y, hy⟩ : ∃ y, y = V[k] := ⟨_, rfl⟩
      rw [← hy] at hcell hns5
      obtain ⟨yP, hyP⟩ : ∃ yP, yP = (setParts PP)[k] := ⟨_, rfl⟩
      rw [← hyP] at hns5 HVK HLT HL2 HNX
      obtain ⟨yA, yn, yc, yp⟩ := y
      simp only at hcell hns5
      have bd : Below wr.heap.size wr wr.drew := ⟨rfl, rfl, rfl, Nat.le_refl _, fun _ _ => rfl⟩
      have KO := Lib.hid (IH.out yA yn yc yP wr.drew (by have := HLT.out; have := HP.out; omega) HL2.out (hns5.keep bd) HVK.out)
      have HSZ := Lib.hid (own_sz HVK.out)
      have HOV := Lib.hid (own_valid HVK.out)
      have BD := Lib.hid bd
      have HS := Lib.hid (fun (w' : World) (hb : Below wr.heap.size wr w') => (show w'.cell? ⟨w.heap.size + 2, 0, none⟩ = some (.int .i64 o) ∧ w'.cell? ⟨w.heap.size + 2, 1, none⟩ = some (.int .i64 n') ∧ w'.cell? ⟨w.heap.size + 2, 2, none⟩ = some (.string s) ∧ w'.cell? ⟨w.heap.size + 2, 3, none⟩ = some (.string t) ∧ w'.cell? ⟨w.heap.size + 2, 4, none⟩ = some (.pointer p) ∧ w'.cell? ⟨w.heap.size + 2, 5, none⟩ = some (Value.slice A m c) from by
        obtain ⟨a0, a1, a2, a3, a4, a5, -, -, -, -, -, -⟩ := hL.out.X.keep hb
        exact ⟨a0, a1, a2, a3, a4, a5⟩))
      clear heP hmem hsl hy hyP hns5 bd
      go_wp2_with fail
      clear hcell
      refine wp_region_noPanic ?_
      refine wp_region_Z (fun (w' : World) => w'.cell? ⟨w.heap.size + 2, 0, none⟩ = some (.int .i64 o) ∧ w'.cell? ⟨w.heap.size + 2, 1, none⟩ = some (.int .i64 n') ∧ w'.cell? ⟨w.heap.size + 2, 2, none⟩ = some (.string s) ∧ w'.cell? ⟨w.heap.size + 2, 3, none⟩ = some (.string t) ∧ w'.cell? ⟨w.heap.size + 2, 4, none⟩ = some (.pointer p) ∧ w'.cell? ⟨w.heap.size + 2, 5, none⟩ = some (Value.slice A m c)) 4 (by kernel_rfl) (HS.out _ BD.out) (fun hHeld => ?_)
      refine wpAnyZ_take (i := 0) (oi := ⟨some 53, _, _, _, _, _⟩) (v := .agg #[.int .i64 o, .int .i64 n', .string s, .string t, .pointer p, .slice A m c]) rfl (by kernel_rfl) (by kernel_rfl) (by kernel_rfl) (by kernel_rfl) (fun _ _ _ h => h) (.inl ⟨by rfl, fun w' hSw => ?_⟩) hHeld ?_
      · obtain ⟨a0, a1, a2, a3, a4, a5⟩ := hSw
        go_simp
      simp only [Act.put, List.setIfInBounds_toArray, List.set_cons_zero, List.set_cons_succ]
      refine wpAnyZ_take (i := 1) (oi := ⟨some 54, _, _, _, _, _⟩) (v := .slice yA yn yc) rfl (by kernel_rfl) (by kernel_rfl) (by kernel_rfl) (by kernel_rfl) (fun _ _ _ h => h) (.inl ⟨by rfl, fun w' hSw => ?_⟩) hHeld ?_
      · clear hSw
        go_simp
      simp only [Act.put, List.setIfInBounds_toArray, List.set_cons_zero, List.set_cons_succ]
      refine wpAnyZ_one (i := 2) (o := ⟨some 55, _, _, _, _, _⟩) (by kernel_rfl) rfl (fun K' hK' => ?_)
      go_simp
      go_at_call 57
      refine KO.out.mono ?_
      rintro e w6 ⟨u, rfl, ku, b6⟩
      have B6 := Lib.hid (BD.out.trans (b6.mono BD.out.size))
      have KJ := Lib.hid (kind_join _ q (ownV yP) _ u w6 (fun b => w.heap.size + 3 ≤ b ∧ b < w6.heap.size) (Nat.le_refl _) HQS.out (by have := HSZ.out; have := HL2.out; omega)
        (((hL.out.K.mono (B' := fun b => w.heap.size + 3 ≤ b ∧ b < wr.heap.size) fun b h1 h2 => ⟨h1, h2⟩).cong (w' := w6) fun b hb => B6.out.block b hb.2).mono fun b hb h2 => ⟨hb.1, h2⟩)
        (ku.mono fun b h1 h2 => ⟨Nat.le_trans hL.out.z h1, h2⟩) HQV.out HOV.out (fun b hb => hb.2))
      obtain ⟨o6, n6, s6, t6, p6, A6, m6, c6, rfl⟩ := kat_six ku
      clear ku b6
      go_wp2_with fail
      refine hK'.out _ _ (fun _ => HS.out _ B6.out) ?_
      clear hK' K' hHeld
      try simp only [Act.put, List.setIfInBounds_toArray, List.set_cons_zero, List.set_cons_succ]
      refine wpAnyZ_one (i := 3) (o := ⟨some 56, _, _, _, _, _⟩) (by kernel_rfl) rfl (fun K' hK' => ?_)
      go_simp
      go_at_call 114
      refine KJ.out.mono ?_
      rintro e w7 ⟨u, rfl, ku, b7⟩
      have B7 := Lib.hid (B6.out.trans (b7.mono B6.out.size))
      obtain ⟨o7, n7, s7, t7, p7, A7, m7, c7, rfl⟩ := kat_six ku
      have KU := Lib.hid (ku.mono (B' := fun b => w.heap.size + 3 ≤ b) fun b h1 _ => by
        rcases h1 with h | h
        · exact h.1
        · have := hL.out.z; have := B6.out.size; omega)
      clear ku b7 KJ
      go_wp2_with fail
      refine hK'.out _ _ (fun _ => HS.out _ B7.out) ?_
      clear hK' K'
      try simp only [Act.put, List.setIfInBounds_toArray, List.set_cons_zero, List.set_cons_succ]
      obtain ⟨a0, a1, a2, a3, a4, a5, j0, j1, j2, j3, j4, j5⟩ := hL.out.X.keep B7.out
      refine wpAnyZ_one (i := 4) (o := ⟨none, _, _, _, _, _⟩) (by kernel_rfl) rfl (fun K' hK' => ?_)
      go_simp
      refine hK'.out _ _ (fun h => absurd rfl h) ?_
      refine wpAnyZ_done (by kernel_rfl) ?_
      refine NoPanic.normal ?_
      clear hK' K' a0 a1 a2 a3 a4 a5 j0 j1 j2 j3 j4 j5
      have gs := grown_set6 w7 (w.heap.size + 2) (.int .i64 o7) (.int .i64 n7) (.string s7) (.string t7) (.pointer p7) (.slice A7 m7 c7)
      have V7 := hL.out.V.keep B7.out
      have HNL := Lib.hid (show SLp w ((((((w7.setCell ⟨w.heap.size + 2, 0, none⟩ (.int .i64 o7)).setCell ⟨w.heap.size + 2, 1, none⟩ (.int .i64 n7)).setCell ⟨w.heap.size + 2, 2, none⟩ (.string s7)).setCell ⟨w.heap.size + 2, 3, none⟩ (.string t7)).setCell ⟨w.heap.size + 2, 4, none⟩ (.pointer p7)).setCell ⟨w.heap.size + 2, 5, none⟩ (.slice A7 m7 c7)) (.slice (some a5) nv c5) V (joinK q (ownV yP)) o7 n7 s7 t7 p7 A7 m7 c7 from
        ⟨(hL.out.R.keep B7.out).but gs (fun e => by injection e with e; omega), (hL.out.X.keep B7.out).set (.int .i64 o7) (.int .i64 n7) (.string s7) (.string t7) (.pointer p7) (.slice A7 m7 c7),
         KU.out.cong fun b hb => heap_set6 w7 (w.heap.size + 2) (.int .i64 o7) (.int .i64 n7) (.string s7) (.string t7) (.pointer p7) (.slice A7 m7 c7) (by omega),
         V7.row gs (.inr (fun e => by have := (V7.own.lt _ e).1; omega)) (fun r hr _ a ha e => by injection e with e; have := HVA.out r hr a ha; omega),
         below_set6 (hL.out.G.trans (B7.out.mono hL.out.G.size)) (by omega) (.int .i64 o7) (.int .i64 n7) (.string s7) (.string t7) (.pointer p7) (.slice A7 m7 c7), by have := hL.out.z; have := B7.out.size; simp [World.setCell]; omega⟩)
      clear gs V7
      go_wp2_with fail
      go_roundw
      case rel => exact ⟨k + 1, _, o7, n7, s7, t7, p7, A7, m7, c7, by go_num, hlt, HNX, HNL⟩
      case measure => simp [intOf]; omega
    · have hke : k = nv := by omega
      have HK := Lib.hid (show kk = .set q by
        have h1 := hq.out
        have h2 : (setParts PP).length = nv := by rw [← HVL.out, List.length_map, HNV.out]
        rw [hke, ← h2, List.take_length] at h1
        rw [HE.out, h1]
        rfl)
      obtain ⟨r0, r1, r2, r3, r4, r5, y0, y1, y2, y3, y4, y5⟩ := hL.out.R
      go_wp2_with fail
      obtain ⟨j0, j1, j2, j3, j4, j5, -, -, -, -, -, -⟩ := hL.out.R.set (.int .i64 45) (.int .i64 0) (.string ⟨#[]⟩) (.string ⟨#[]⟩) (.pointer (some ⟨w.heap.size + 2, 0, none⟩)) (.slice none 0 0)
      refine bodyPost_ret (v := .agg #[.int .i64 45, .int .i64 0, .string ⟨#[]⟩, .string ⟨#[]⟩, .pointer (some ⟨w.heap.size + 2, 0, none⟩), .slice none 0 0]) (by simp [results, Tryz.results57, go_sem, j0, j1, j2, j3, j4, j5]) rfl ?_
      rw [HK.out]
      refine ⟨[.int .i64 45, .int .i64 0, .string ⟨#[]⟩, .string ⟨#[]⟩, .pointer (some ⟨w.heap.size + 2, 0, none⟩), .slice none 0 0], rfl, ⟨0, w.heap.size + 2, _, rfl, by omega, hL.out.X.row.cong (heap_set6 wr w.heap.size _ _ _ _ _ _ (by show w.heap.size + 2 ≠ w.heap.size; omega)), ?_⟩, below_set6 hL.out.G (Nat.le_refl _) _ _ _ _ _ _⟩
      exact (hL.out.K.cong fun b hb => heap_set6 wr w.heap.size _ _ _ _ _ _ (by omega)).mono fun b hb _ => by omega
end Go.Proofs.YtnolmlhcikcceaaGreatDoor
