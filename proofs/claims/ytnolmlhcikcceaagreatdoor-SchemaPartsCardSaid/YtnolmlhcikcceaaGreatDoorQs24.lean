/-
  kinds.read: nodes as a type.
  kinds.first: the first error of two.
-/
import Derived.Test.YtnolmlhcikcceaaGreatDoorQs23
namespace Go.Proofs.YtnolmlhcikcceaaGreatDoor
open Go.RowKit Go.Wk Go.Sort
set_option maxRecDepth 100000

theorem kind_all (R : Nat) : ∀ m : Nat, m ≤ 1000 → KindC R m
  | 0, _ => fun Q w h hl => by
    have : Q = [] := List.eq_nil_of_length_eq_zero (by omega)
    subst this
    exact kind_nil R 0 w h
  | m + 1, hm => fun Q w h hl => by
    have ih := kind_all R m (by omega)
    cases Q with
    | nil => exact kind_nil R _ w h
    | cons x r =>
      have hl' : r.length ≤ m := by simpa using hl
      by_cases hb : baseOp x.op
      · exact kind_base R m x r w h hb
      by_cases h4 : x.op = 44
      · exact kind_ent R m x r w h h4
      by_cases h5 : x.op = 45
      · exact kind_set R m ih x r hl' w h h5
      by_cases h6 : x.op = 46
      · exact kind_rec R m ih (by omega) x r hl' w h h6
      exact kind_else R m x r w h hb h4 h5 h6
set_option maxHeartbeats 4000000 in
theorem read_idle (p q : Addr) (w : World) :
    CallsD Tryz.prog 119 #[.pointer (some p), .pointer (some q)] .returning w fun e u' w' => e = .returned (.tuple #[]) ∧ u' = .returning ∧ w' = w := by
  refine callsD_of_wpS Tryz.func119 rfl fun c₀ cs hu => ?_
  apply wpS_seq
  apply wpS_region
  simp [wpOpsS, go_sem, recoverD, hu, Tryz.ntmps119, Exit.thenS]
  refine wpS_of_wp ?_
  go_wp2_with fail
  cases c₀
  simp_all [bodyPostS, results, Tryz.results119]
set_option maxHeartbeats 4000000 in
theorem read_caught (E F : Nat) (x0 x1 x2 x3 x4 x5 v : Value) (older : List PanicEntry) (w : World) (h : Bx6 w E x0 x1 x2 x3 x4 x5) (hF : w.cell? ⟨F, 0, none⟩ = some v) (zF : w.frozen? ⟨F, 0, none⟩ = false) (hne : E ≠ F) :
    CallsD Tryz.prog 119 #[.pointer (some ⟨E, 0, none⟩), .pointer (some ⟨F, 0, none⟩)] (.panicking ({ v := .iface 198 (.agg #[]), recovered := false } :: older)) w fun e u' w' =>
      e = .returned (.tuple #[]) ∧ u' = .panicking ({ v := .iface 198 (.agg #[]), recovered := true } :: older) ∧ w' = (((((((w.setCell ⟨E, 0, none⟩ (.int .i64 0)).setCell ⟨E, 1, none⟩ (.int .i64 0)).setCell ⟨E, 2, none⟩ (.string ⟨#[]⟩)).setCell ⟨E, 3, none⟩ (.string ⟨#[]⟩)).setCell ⟨E, 4, none⟩ (.pointer none)).setCell ⟨E, 5, none⟩ (.slice none 0 0)).setCell ⟨F, 0, none⟩ (.iface 39 (.int .i64 1))).alloc (.cells #[] 198) := by
  have hl : E < w.heap.size := block_lt_of_cell h.c0
  have hl2 : F < w.heap.size := block_lt_of_cell hF
  have hne2 : F ≠ E := hne.symm
  obtain ⟨c0, c1, c2, c3, c4, c5, z0, z1, z2, z3, z4, z5⟩ := h
  have hta : ∀ w, (Instr.typeAssert (.iface 198 (.agg #[])) 20 198 true).run Tryz.prog w = .ok (.tuple #[.agg #[], .bool true]) w := fun _ => by kernel_rfl
  refine callsD_of_wpS Tryz.func119 rfl fun c₀ cs hu => ?_
  apply wpS_seq
  apply wpS_region
  simp [wpOpsS, go_sem, recoverD, hu, Tryz.ntmps119]
  refine wpS_of_wp ?_
  go_wp2_with fail
  cases c₀
  simp [bodyPostS, results, Tryz.results119]
/-- What read tells. -/
def ReadPost (w : World) (P : List Nd) (e : Ending) (w' : World) : Prop :=
  Below w.heap.size w w' ∧ ∃ (o n : Int) (s t : ByteArray) (p A : Option Addr) (m c : Nat), e = .returned (.tuple #[.agg #[.int .i64 o, .int .i64 n, .string s, .string t, .pointer p, .slice A m c], errV (kindFault P)]) ∧
    (kindFault P = 0 → ∃ k, k.valid ∧ P = k.flat ∧ KAt w' (fun b => w.heap.size ≤ b) k [.int .i64 o, .int .i64 n, .string s, .string t, .pointer p, .slice A m c])
set_option maxHeartbeats 4000000 in
theorem read_full (A : Option Addr) (n c : Nat) (P : List Nd) (w : World) (hn : n = P.length) (hm : n ≤ maxLen) (h : 200 < n) :
    Calls Tryz.prog 63 #[.slice A n c] w (ReadPost w P) := by
  have HF := Lib.hid (show kindFault P = 4 by unfold kindFault; rw [if_pos (by omega)])
  unfold maxLen at hm
  clear hn
  go_enter_defers Tryz.func63, Tryz.ntmps63
  go_wp2_with fail
  simp [bodyPostD, Leaves, results, Tryz.results63, go_sem]
  refine ⟨(below_box w _).trans ((below_box _ _).mono (by simp)), 0, 0, ⟨#[]⟩, ⟨#[]⟩, none, none, 0, 0, by rw [HF.out]; rfl, fun h => ?_⟩
  rw [HF.out] at h
  cases h
/-- The worlds behind kind: k, err and the reader lie there. -/
theorem read_worlds {w w1 : World} (v : Value) (h : (((w.alloc (.cells #[.int .i64 0, .int .i64 0, .string ⟨#[]⟩, .string ⟨#[]⟩, .pointer none, .slice none 0 0] 74)).alloc (.cells #[.nilIface] 30)).alloc (.cells #[v] 201)).grownBy w1 (some (w.heap.size + 2))) :
    Below w.heap.size w w1 ∧ Bx6 w1 w.heap.size (.int .i64 0) (.int .i64 0) (.string ⟨#[]⟩) (.string ⟨#[]⟩) (.pointer none) (.slice none 0 0) ∧ w1.cell? ⟨w.heap.size + 1, 0, none⟩ = some .nilIface ∧ w1.frozen? ⟨w.heap.size + 1, 0, none⟩ = false ∧ w.heap.size + 3 ≤ w1.heap.size := by
  have hX := ((bx6_new w (.int .i64 0) (.int .i64 0) (.string ⟨#[]⟩) (.string ⟨#[]⟩) (.pointer none) (.slice none 0 0) 74).keep (below_box _ (.cells #[.nilIface] 30))).keep (below_box _ (.cells #[v] 201))
  have hz1 : (w.alloc (.cells #[.int .i64 0, .int .i64 0, .string ⟨#[]⟩, .string ⟨#[]⟩, .pointer none, .slice none 0 0] 74)).heap.size = w.heap.size + 1 := by simp
  have hz2 : ((w.alloc (.cells #[.int .i64 0, .int .i64 0, .string ⟨#[]⟩, .string ⟨#[]⟩, .pointer none, .slice none 0 0] 74)).alloc (.cells #[.nilIface] 30)).heap.size = w.heap.size + 2 := by simp
  have hz3 : (((w.alloc (.cells #[.int .i64 0, .int .i64 0, .string ⟨#[]⟩, .string ⟨#[]⟩, .pointer none, .slice none 0 0] 74)).alloc (.cells #[.nilIface] 30)).alloc (.cells #[v] 201)).heap.size = w.heap.size + 3 := by simp
  have hE := cell_keep (below_box _ (.cells #[v] 201)) (cell_new (w.alloc (.cells #[.int .i64 0, .int .i64 0, .string ⟨#[]⟩, .string ⟨#[]⟩, .pointer none, .slice none 0 0] 74)) #[.nilIface] 30 0 (v := .nilIface) rfl)
  rw [hz1] at hE
  have hF : (((w.alloc (.cells #[.int .i64 0, .int .i64 0, .string ⟨#[]⟩, .string ⟨#[]⟩, .pointer none, .slice none 0 0] 74)).alloc (.cells #[.nilIface] 30)).alloc (.cells #[v] 201)).frozen? ⟨w.heap.size + 1, 0, none⟩ = false := by
    rw [(below_box _ _).frozen (p := ⟨w.heap.size + 1, 0, none⟩) (by rw [hz2]; exact Nat.lt_succ_self _)]
    simp
  have hne1 : some w.heap.size ≠ some (w.heap.size + 2) := fun e => by injection e with e; omega
  have hne2 : some (w.heap.size + 1) ≠ some (w.heap.size + 2) := fun e => by injection e with e; omega
  refine ⟨⟨h.os, h.tape, h.output, ?_, fun k hk => ?_⟩, hX.but h hne1, h.cell hE hne2, (World.frozen?_of_block (a := ⟨w.heap.size + 1, 0, none⟩) (h.block (w.heap.size + 1) (by rw [hz3]; omega) hne2)).trans hF, by rw [← hz3]; exact h.size⟩
  · have := h.size; rw [hz3] at this; omega
  · rw [h.block k (by rw [hz3]; omega) (fun e => by injection e with e; omega), (below_box _ _).block k (by rw [hz2]; omega), (below_box _ _).block k (by rw [hz1]; omega), (below_box _ _).block k hk]
set_option maxHeartbeats 4000000 in
theorem read_rest (A : Option Addr) (n c : Nat) (P : List Nd) (w : World) (hns : Ns w A n c P) (h : ¬ 200 < n) :
    Calls Tryz.prog 63 #[.slice A n c] w (ReadPost w P) := by
  have hn : n = P.length := hns.len
  have hm := hns.max
  have hcm := hns.cap
  unfold maxLen at hm
  have HPK := Lib.hid (show kindFault P = if (readK P).isSome then 0 else 1 by unfold kindFault; rw [if_neg (by omega)])
  have HRK := Lib.hid (show readK P = (match parseK 200 P with | some (k, []) => some k | _ => none) by unfold readK; rw [parse_fuel (n := P.length) (n' := 200) (Nat.le_refl _) (by omega)]; rcases parseK 200 P with _ | ⟨k, _ | _⟩ <;> rfl)
  have hz1 : (w.alloc (.cells #[.int .i64 0, .int .i64 0, .string ⟨#[]⟩, .string ⟨#[]⟩, .pointer none, .slice none 0 0] 74)).heap.size = w.heap.size + 1 := by simp
  have hz2 : ((w.alloc (.cells #[.int .i64 0, .int .i64 0, .string ⟨#[]⟩, .string ⟨#[]⟩, .pointer none, .slice none 0 0] 74)).alloc (.cells #[.nilIface] 30)).heap.size = w.heap.size + 2 := by simp
  have hb3 : Below w.heap.size w (((w.alloc (.cells #[.int .i64 0, .int .i64 0, .string ⟨#[]⟩, .string ⟨#[]⟩, .pointer none, .slice none 0 0] 74)).alloc (.cells #[.nilIface] 30)).alloc (.cells #[.slice A n c] 201)) :=
    (below_box w _).trans (((below_box _ _).trans ((below_box _ _).mono (by rw [hz2, hz1]; omega))).mono (by rw [hz1]; omega))
  have hrd : RdK (((w.alloc (.cells #[.int .i64 0, .int .i64 0, .string ⟨#[]⟩, .string ⟨#[]⟩, .pointer none, .slice none 0 0] 74)).alloc (.cells #[.nilIface] 30)).alloc (.cells #[.slice A n c] 201)) (w.heap.size + 2) P := by
    refine ⟨⟨A, n, c, ?_, hns.keep hb3, fun h0 a e => ?_⟩, ?_⟩
    · have := cell_new ((w.alloc (.cells #[.int .i64 0, .int .i64 0, .string ⟨#[]⟩, .string ⟨#[]⟩, .pointer none, .slice none 0 0] 74)).alloc (.cells #[.nilIface] 30)) #[.slice A n c] 201 0 (v := .slice A n c) rfl
      rwa [hz2] at this
    · have := hns.at_.lt h0 a e; omega
    · exact World.frozen?_alloc_at _ _ _ _ hz2.symm
  have C := Lib.hid (kind_all (w.heap.size + 2) 200 (by omega) P _ hrd (by omega))
  have hmf : ∀ (fn : Fn) (first cap : Array Value) (w : World), (Instr.makeFunc fn first cap).run Tryz.prog w = .ok (.func fn first cap) w := fun _ _ _ _ => rfl
  clear hrd hb3 hz1 hz2 hn
  go_enter_defers Tryz.func63, Tryz.ntmps63
  go_wp2_with fail
  refine C.out.mono ?_
  intro e w1 hpost
  rcases hp : parseK 200 P with _ | ⟨k, r⟩
  · rw [hp] at hpost
    obtain ⟨rfl, g1⟩ := hpost
    have HF := Lib.hid (show kindFault P = 1 by rw [HPK.out, HRK.out, hp]; rfl)
    obtain ⟨b1, x1, c1, f1, z1⟩ := read_worlds _ g1
    clear g1 hp HPK HRK C
    go_wp2_with fail
    refine leaves_cons (f := 119) (args := #[.pointer (some ⟨w.heap.size, 0, none⟩), .pointer (some ⟨w.heap.size + 1, 0, none⟩)]) (by simp) (by simp [go_sem]) ?_
    refine (read_caught w.heap.size (w.heap.size + 1) _ _ _ _ _ _ _ [] w1 x1 c1 f1 (by omega)).mono ?_
    rintro e u' w2 ⟨rfl, rfl, rfl⟩
    have hl : w.heap.size < w1.heap.size := by omega
    have hl2 : w.heap.size + 1 < w1.heap.size := by omega
    obtain ⟨y0, y1, y2, y3, y4, y5, -, -, -, -, -, -⟩ := x1.set (.int .i64 0) (.int .i64 0) (.string ⟨#[]⟩) (.string ⟨#[]⟩) (.pointer none) (.slice none 0 0)
    simp [Leaves, settle, results, Tryz.results63, go_sem, c1, x1.c0, x1.c1, x1.c2, x1.c3, x1.c4, x1.c5, hl, hl2]
    refine ⟨((below_set6 b1 (Nat.le_refl _) _ _ _ _ _ _).setCell (p := ⟨w.heap.size + 1, 0, none⟩) (Nat.le_succ _) _).alloc (by simp [World.setCell]; omega) _, 0, 0, ⟨#[]⟩, ⟨#[]⟩, none, none, 0, 0, by rw [HF.out]; rfl, fun h => ?_⟩
    rw [HF.out] at h
    cases h
  · rw [hp] at hpost
    obtain ⟨v, rfl, hk, hr, g1⟩ := hpost
    obtain ⟨o, nn, s0, t0, pp, A1, m1, cc, rfl⟩ := kat_shape hk
    have HV := Lib.hid ((parse_sound _).1 _ _ _ hp)
    obtain ⟨b1, x1, c1, f1, z1⟩ := read_worlds _ g1
    obtain ⟨⟨A2, n2, c2, rc, rns, -⟩, -⟩ := hr
    have hn2 : n2 = r.length := rns.len
    have hl0 : w.heap.size < w1.heap.size := by omega
    have hl1 : w.heap.size + 1 < w1.heap.size := by omega
    have hl2 : w.heap.size + 2 < w1.heap.size := by omega
    have HK := Lib.hid (hk.mono (B' := fun b => w.heap.size + 3 ≤ b) fun b h1 _ => by simpa using h1)
    clear g1 C rns hk
    have HX := Lib.hid x1
    obtain ⟨x0', x1', x2', x3', x4', x5', q0, q1, q2, q3, q4, q5⟩ := x1
    cases r with
    | nil =>
      have HF := Lib.hid (show kindFault P = 0 by rw [HPK.out, HRK.out, hp]; rfl)
      simp only [List.length_nil] at hn2
      subst hn2
      clear hp HPK HRK
      go_wp2_with fail
      refine leaves_cons (f := 119) (args := #[.pointer (some ⟨w.heap.size, 0, none⟩), .pointer (some ⟨w.heap.size + 1, 0, none⟩)]) (by simp) (by simp [go_sem]) ?_
      refine (read_idle ⟨w.heap.size, 0, none⟩ ⟨w.heap.size + 1, 0, none⟩ _).mono ?_
      rintro e u' w2 ⟨rfl, rfl, rfl⟩
      have gg := grown_trans (grown_set6 w1 w.heap.size (.int .i64 o) (.int .i64 nn) (.string s0) (.string t0) (.pointer pp) (.slice A1 m1 cc)) (grown_set6 ((((((w1.setCell ⟨w.heap.size, 0, none⟩ (.int .i64 o)).setCell ⟨w.heap.size, 1, none⟩ (.int .i64 nn)).setCell ⟨w.heap.size, 2, none⟩ (.string s0)).setCell ⟨w.heap.size, 3, none⟩ (.string t0)).setCell ⟨w.heap.size, 4, none⟩ (.pointer pp)).setCell ⟨w.heap.size, 5, none⟩ (.slice A1 m1 cc)) w.heap.size (.int .i64 o) (.int .i64 nn) (.string s0) (.string t0) (.pointer pp) (.slice A1 m1 cc))
      have hne : some (w.heap.size + 1) ≠ some w.heap.size := fun e => by injection e with e; omega
      have Y := ((HX.out.set (.int .i64 o) (.int .i64 nn) (.string s0) (.string t0) (.pointer pp) (.slice A1 m1 cc)).set (.int .i64 o) (.int .i64 nn) (.string s0) (.string t0) (.pointer pp) (.slice A1 m1 cc)).but (grown_setCell _ ⟨w.heap.size + 1, 0, none⟩ .nilIface) (fun e => hne e.symm)
      have eF := World.cell?_setCell_same _ _ .nilIface (gg.cell (a := ⟨w.heap.size + 1, 0, none⟩) c1 hne)
      have BW : Below w.heap.size w (((((((((((((w1.setCell ⟨w.heap.size, 0, none⟩ (.int .i64 o)).setCell ⟨w.heap.size, 1, none⟩ (.int .i64 nn)).setCell ⟨w.heap.size, 2, none⟩ (.string s0)).setCell ⟨w.heap.size, 3, none⟩ (.string t0)).setCell ⟨w.heap.size, 4, none⟩ (.pointer pp)).setCell ⟨w.heap.size, 5, none⟩ (.slice A1 m1 cc)).setCell ⟨w.heap.size, 0, none⟩ (.int .i64 o)).setCell ⟨w.heap.size, 1, none⟩ (.int .i64 nn)).setCell ⟨w.heap.size, 2, none⟩ (.string s0)).setCell ⟨w.heap.size, 3, none⟩ (.string t0)).setCell ⟨w.heap.size, 4, none⟩ (.pointer pp)).setCell ⟨w.heap.size, 5, none⟩ (.slice A1 m1 cc)).setCell ⟨w.heap.size + 1, 0, none⟩ .nilIface) := (below_set6 (below_set6 b1 (Nat.le_refl _) (.int .i64 o) (.int .i64 nn) (.string s0) (.string t0) (.pointer pp) (.slice A1 m1 cc)) (Nat.le_refl _) (.int .i64 o) (.int .i64 nn) (.string s0) (.string t0) (.pointer pp) (.slice A1 m1 cc)).setCell (p := ⟨w.heap.size + 1, 0, none⟩) (Nat.le_succ _) .nilIface
      have KW : ∀ b, w.heap.size + 3 ≤ b → (((((((((((((w1.setCell ⟨w.heap.size, 0, none⟩ (.int .i64 o)).setCell ⟨w.heap.size, 1, none⟩ (.int .i64 nn)).setCell ⟨w.heap.size, 2, none⟩ (.string s0)).setCell ⟨w.heap.size, 3, none⟩ (.string t0)).setCell ⟨w.heap.size, 4, none⟩ (.pointer pp)).setCell ⟨w.heap.size, 5, none⟩ (.slice A1 m1 cc)).setCell ⟨w.heap.size, 0, none⟩ (.int .i64 o)).setCell ⟨w.heap.size, 1, none⟩ (.int .i64 nn)).setCell ⟨w.heap.size, 2, none⟩ (.string s0)).setCell ⟨w.heap.size, 3, none⟩ (.string t0)).setCell ⟨w.heap.size, 4, none⟩ (.pointer pp)).setCell ⟨w.heap.size, 5, none⟩ (.slice A1 m1 cc)).setCell ⟨w.heap.size + 1, 0, none⟩ .nilIface).heap[b]? = w1.heap[b]? := fun b hb => by
        rw [Below.heap_setCell _ _ _ b (show b ≠ w.heap.size + 1 by omega), heap_set6 _ _ _ _ _ _ _ _ (by omega), heap_set6 _ _ _ _ _ _ _ _ (by omega)]
      obtain ⟨W, hW⟩ : ∃ W, (((((((((((((w1.setCell ⟨w.heap.size, 0, none⟩ (.int .i64 o)).setCell ⟨w.heap.size, 1, none⟩ (.int .i64 nn)).setCell ⟨w.heap.size, 2, none⟩ (.string s0)).setCell ⟨w.heap.size, 3, none⟩ (.string t0)).setCell ⟨w.heap.size, 4, none⟩ (.pointer pp)).setCell ⟨w.heap.size, 5, none⟩ (.slice A1 m1 cc)).setCell ⟨w.heap.size, 0, none⟩ (.int .i64 o)).setCell ⟨w.heap.size, 1, none⟩ (.int .i64 nn)).setCell ⟨w.heap.size, 2, none⟩ (.string s0)).setCell ⟨w.heap.size, 3, none⟩ (.string t0)).setCell ⟨w.heap.size, 4, none⟩ (.pointer pp)).setCell ⟨w.heap.size, 5, none⟩ (.slice A1 m1 cc)).setCell ⟨w.heap.size + 1, 0, none⟩ .nilIface) = W := ⟨_, rfl⟩
      rw [hW] at Y eF BW KW ⊢
      clear hW gg
      obtain ⟨y0, y1, y2, y3, y4, y5, -, -, -, -, -, -⟩ := Y
      simp [Leaves, settle, results, Tryz.results63, go_sem, y0, y1, y2, y3, y4, y5, eF]
      refine ⟨BW, o, nn, s0, t0, pp, A1, m1, cc, by rw [HF.out]; rfl, fun _ => ⟨k, HV.out.1, by simpa using HV.out.2, ?_⟩⟩
      exact (HK.out.cong fun b hb => KW b hb).mono fun b hb _ => by omega
    | cons x r =>
      have HF := Lib.hid (show kindFault P = 1 by rw [HPK.out, HRK.out, hp]; rfl)
      have hn3 : 0 < n2 := by rw [hn2, List.length_cons]; omega
      clear hp HPK HRK hn2
      go_wp2_with fail
      refine leaves_cons (f := 119) (args := #[.pointer (some ⟨w.heap.size, 0, none⟩), .pointer (some ⟨w.heap.size + 1, 0, none⟩)]) (by simp) (by simp [go_sem]) ?_
      refine (read_idle ⟨w.heap.size, 0, none⟩ ⟨w.heap.size + 1, 0, none⟩ _).mono ?_
      rintro e u' w2 ⟨rfl, rfl, rfl⟩
      have gg := grown_trans (grown_set6 w1 w.heap.size (.int .i64 o) (.int .i64 nn) (.string s0) (.string t0) (.pointer pp) (.slice A1 m1 cc)) (grown_set6 ((((((w1.setCell ⟨w.heap.size, 0, none⟩ (.int .i64 o)).setCell ⟨w.heap.size, 1, none⟩ (.int .i64 nn)).setCell ⟨w.heap.size, 2, none⟩ (.string s0)).setCell ⟨w.heap.size, 3, none⟩ (.string t0)).setCell ⟨w.heap.size, 4, none⟩ (.pointer pp)).setCell ⟨w.heap.size, 5, none⟩ (.slice A1 m1 cc)) w.heap.size (.int .i64 0) (.int .i64 0) (.string ⟨#[]⟩) (.string ⟨#[]⟩) (.pointer none) (.slice none 0 0))
      have hne : some (w.heap.size + 1) ≠ some w.heap.size := fun e => by injection e with e; omega
      have Y := ((HX.out.set (.int .i64 o) (.int .i64 nn) (.string s0) (.string t0) (.pointer pp) (.slice A1 m1 cc)).set (.int .i64 0) (.int .i64 0) (.string ⟨#[]⟩) (.string ⟨#[]⟩) (.pointer none) (.slice none 0 0)).but (grown_setCell _ ⟨w.heap.size + 1, 0, none⟩ (.iface 39 (.int .i64 1))) (fun e => hne e.symm)
      have eF := World.cell?_setCell_same _ _ (.iface 39 (.int .i64 1)) (gg.cell (a := ⟨w.heap.size + 1, 0, none⟩) c1 hne)
      have BW : Below w.heap.size w (((((((((((((w1.setCell ⟨w.heap.size, 0, none⟩ (.int .i64 o)).setCell ⟨w.heap.size, 1, none⟩ (.int .i64 nn)).setCell ⟨w.heap.size, 2, none⟩ (.string s0)).setCell ⟨w.heap.size, 3, none⟩ (.string t0)).setCell ⟨w.heap.size, 4, none⟩ (.pointer pp)).setCell ⟨w.heap.size, 5, none⟩ (.slice A1 m1 cc)).setCell ⟨w.heap.size, 0, none⟩ (.int .i64 0)).setCell ⟨w.heap.size, 1, none⟩ (.int .i64 0)).setCell ⟨w.heap.size, 2, none⟩ (.string ⟨#[]⟩)).setCell ⟨w.heap.size, 3, none⟩ (.string ⟨#[]⟩)).setCell ⟨w.heap.size, 4, none⟩ (.pointer none)).setCell ⟨w.heap.size, 5, none⟩ (.slice none 0 0)).setCell ⟨w.heap.size + 1, 0, none⟩ (.iface 39 (.int .i64 1))) := (below_set6 (below_set6 b1 (Nat.le_refl _) (.int .i64 o) (.int .i64 nn) (.string s0) (.string t0) (.pointer pp) (.slice A1 m1 cc)) (Nat.le_refl _) (.int .i64 0) (.int .i64 0) (.string ⟨#[]⟩) (.string ⟨#[]⟩) (.pointer none) (.slice none 0 0)).setCell (p := ⟨w.heap.size + 1, 0, none⟩) (Nat.le_succ _) (.iface 39 (.int .i64 1))
      have KW : ∀ b, w.heap.size + 3 ≤ b → (((((((((((((w1.setCell ⟨w.heap.size, 0, none⟩ (.int .i64 o)).setCell ⟨w.heap.size, 1, none⟩ (.int .i64 nn)).setCell ⟨w.heap.size, 2, none⟩ (.string s0)).setCell ⟨w.heap.size, 3, none⟩ (.string t0)).setCell ⟨w.heap.size, 4, none⟩ (.pointer pp)).setCell ⟨w.heap.size, 5, none⟩ (.slice A1 m1 cc)).setCell ⟨w.heap.size, 0, none⟩ (.int .i64 0)).setCell ⟨w.heap.size, 1, none⟩ (.int .i64 0)).setCell ⟨w.heap.size, 2, none⟩ (.string ⟨#[]⟩)).setCell ⟨w.heap.size, 3, none⟩ (.string ⟨#[]⟩)).setCell ⟨w.heap.size, 4, none⟩ (.pointer none)).setCell ⟨w.heap.size, 5, none⟩ (.slice none 0 0)).setCell ⟨w.heap.size + 1, 0, none⟩ (.iface 39 (.int .i64 1))).heap[b]? = w1.heap[b]? := fun b hb => by
        rw [Below.heap_setCell _ _ _ b (show b ≠ w.heap.size + 1 by omega), heap_set6 _ _ _ _ _ _ _ _ (by omega), heap_set6 _ _ _ _ _ _ _ _ (by omega)]
      obtain ⟨W, hW⟩ : ∃ W, (((((((((((((w1.setCell ⟨w.heap.size, 0, none⟩ (.int .i64 o)).setCell ⟨w.heap.size, 1, none⟩ (.int .i64 nn)).setCell ⟨w.heap.size, 2, none⟩ (.string s0)).setCell ⟨w.heap.size, 3, none⟩ (.string t0)).setCell ⟨w.heap.size, 4, none⟩ (.pointer pp)).setCell ⟨w.heap.size, 5, none⟩ (.slice A1 m1 cc)).setCell ⟨w.heap.size, 0, none⟩ (.int .i64 0)).setCell ⟨w.heap.size, 1, none⟩ (.int .i64 0)).setCell ⟨w.heap.size, 2, none⟩ (.string ⟨#[]⟩)).setCell ⟨w.heap.size, 3, none⟩ (.string ⟨#[]⟩)).setCell ⟨w.heap.size, 4, none⟩ (.pointer none)).setCell ⟨w.heap.size, 5, none⟩ (.slice none 0 0)).setCell ⟨w.heap.size + 1, 0, none⟩ (.iface 39 (.int .i64 1))) = W := ⟨_, rfl⟩
      rw [hW] at Y eF BW KW ⊢
      clear hW gg
      obtain ⟨y0, y1, y2, y3, y4, y5, -, -, -, -, -, -⟩ := Y
      simp [Leaves, settle, results, Tryz.results63, go_sem, y0, y1, y2, y3, y4, y5, eF]
      refine ⟨BW, 0, 0, ⟨#[]⟩, ⟨#[]⟩, none, none, 0, 0, by rw [HF.out]; rfl, fun h => ?_⟩
      rw [HF.out] at h
      cases h
/-- Nodes as a type, or what is wrong. -/
theorem kinds_read (A : Option Addr) (n c : Nat) (P : List Nd) (w : World) (hns : Ns w A n c P) : Calls Tryz.prog 63 #[.slice A n c] w (ReadPost w P) := by
  by_cases h : 200 < n
  · exact read_full A n c P w hns.len hns.max h
  · exact read_rest A n c P w hns h
end Go.Proofs.YtnolmlhcikcceaaGreatDoor
namespace Go.Proofs.YtnolmlhcikcceaaGreatDoor
open Go.RowKit Go.Wk Go.Sort
set_option maxRecDepth 100000

/-- Two errors beside each other. -/
theorem kind_first (n m : Int) (ad : Addr) (w : World) (h0 : w.cell? ad = some (errV n)) (h1 : w.cell? ⟨ad.block, ad.off + 1, none⟩ = some (errV m)) :
    Calls Tryz.prog 64 #[.slice (some ad) 2 2] w fun e w' => e = .returned (errV (if n = 0 then m else n)) ∧ Below w.heap.size w w' := by
  obtain ⟨f, hf⟩ : ∃ f : Int, f = if n = 0 then m else n := ⟨_, rfl⟩
  rw [← hf]
  have HF := Lib.hid hf
  clear hf
  have H0 := Lib.hid h0
  have H1 := Lib.hid h1
  clear h0 h1
  go_enter Tryz.func64, Tryz.ntmps64
  go_wp2_with fail
  go_loopw [4, 7] (fun _ i wr => wr = w ∧ ((i = .int .i64 0) ∨ (i = .int .i64 1 ∧ n = 0) ∨ (i = .int .i64 2 ∧ n = 0 ∧ m = 0))) (fun _ i _ => 2 - (intOf i).toNat)
  case atStart => exact ⟨rfl, .inl rfl⟩
  case round =>
    obtain ⟨rfl, hrel⟩ := hrel
    rcases hrel with rfl | ⟨rfl, hn⟩ | ⟨rfl, hn, hm⟩
    · have h0 := H0.out
      by_cases hn : n = 0
      · have HN := Lib.hid hn
        rw [hn, errV_zero] at h0
        clear hn
        go_wp2_with fail
        go_roundw
        case rel => exact ⟨trivial, .inr (.inl ⟨rfl, HN.out⟩)⟩
        case measure => simp [intOf]
      · have HN := Lib.hid hn
        rw [errV_ne hn] at h0
        clear hn
        go_wp2_with fail
        go_ret
        exact ⟨by rw [HF.out, if_neg HN.out, errV_ne HN.out]; rfl, Below.refl _ _⟩
    · have h1 := H1.out
      have HN := Lib.hid hn
      clear hn
      by_cases hm : m = 0
      · have HM := Lib.hid hm
        rw [hm, errV_zero] at h1
        clear hm
        go_wp2_with fail
        go_roundw
        case rel => exact ⟨trivial, .inr (.inr ⟨rfl, HN.out, HM.out⟩)⟩
        case measure => simp [intOf]
      · have HM := Lib.hid hm
        rw [errV_ne hm] at h1
        clear hm
        go_wp2_with fail
        go_ret
        exact ⟨by rw [HF.out, if_pos HN.out, errV_ne HM.out]; rfl, Below.refl _ _⟩
    · have HN := Lib.hid hn
      have HM := Lib.hid hm
      clear hn hm
      go_wp2_with fail
      go_ret
      exact ⟨by rw [HF.out, if_pos HN.out, HM.out]; rfl, Below.refl _ _⟩
end Go.Proofs.YtnolmlhcikcceaaGreatDoor
