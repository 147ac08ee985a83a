/-
  eval.next: the node at hand; skip; a value of one node. (gen_evnx.py)
  eval.either, eval.choice: what is asked for only if it is wanted. (gen_evei.py)
  eval: the record of a value that has names.
  The shelf lays bits.Mul64 already.
-/
import Derived.Test.YtcdpoamiejompaaGreatDoorQe27
namespace Go.Proofs.YtcdpoamiejompaaGreatDoor
open Go.RowKit Go.Wk Go.Sort
set_option maxRecDepth 100000

/-- The node at hand, in memory. -/
theorem EvAt.node {W w : World} {R : Nat} {k : Cx} {p : Nat} (h : EvAt W w R k (p : Int)) {n : Nd} {ps : Exs} {f : Bool} (hx : XAt k.P p f (.node n ps)) :
    ∃ a, k.A = some a ∧ p < k.n ∧ Nd4 w (a.add (p * 4)) n ∧ NdOk n := by
  have hh := hx.head
  have hl : p < k.P.length := (List.getElem?_eq_some_iff.1 hh).1
  have he : k.P[p] = n := (List.getElem?_eq_some_iff.1 hh).2
  obtain ⟨a, ha, D⟩ := h.cx.ns.at_.nd hl
  rw [he] at D
  have ho := h.cx.ns.ok.at hl
  rw [he] at ho
  exact ⟨a, ha, by rw [h.cx.ns.len]; exact hl, D, ho⟩
theorem ev_put {W w : World} {R : Nat} {k : Cx} {p : Int} (h : EvAt W w R k p) (q : Int) : EvAt W (w.setCell ⟨R, 9, none⟩ (.int .i64 q)) R k q ∧ w.grownBy (w.setCell ⟨R, 9, none⟩ (.int .i64 q)) (some R) := ⟨h.put q, grown_setCell w ⟨R, 9, none⟩ _⟩
/-- Behind the node's box and the place's step. -/
theorem ev_step {W w : World} {R : Nat} {k : Cx} {p : Int} (h : EvAt W w R k p) (o : Obj) : EvAt W ((w.setCell ⟨R, 9, none⟩ (.int .i64 (p + 1))).alloc o).drew R k (p + 1) ∧ w.grownBy ((w.setCell ⟨R, 9, none⟩ (.int .i64 (p + 1))).alloc o).drew (some R) := by
  obtain ⟨h1, g1⟩ := ev_put h (p + 1)
  exact ⟨(h1.keep (below_box _ o)).keep (below_drew _), grown_trans (grown_trans g1 (grown_of_below (below_box _ o) _)) (grown_of_below (below_drew _) _)⟩
set_option maxHeartbeats 4000000 in
theorem eval_skip {W w : World} {R : Nat} {k : Cx} {p : Nat} (h : EvAt W w R k (p : Int)) {f : Bool} {x : Ex} (hx : XAt k.P p f x) :
    Calls Tryz.prog 83 #[.pointer (some ⟨R, 0, none⟩)] w fun e w' => e = .returned (.tuple #[]) ∧ EvAt W w' R k ((p + x.flat.length : Nat) : Int) ∧ w.grownBy w' (some R) := by
  have E0 := Lib.hid (h.keep (below_drew w))
  have K := Lib.hid (tree_Skip k.A k.n k.c k.P p f x w.drew (E0.out.cx.ns) hx)
  have S0 : w.drew.cell? ⟨R, 8, none⟩ = some (.slice k.A k.n k.c) ∧ w.drew.cell? ⟨R, 9, none⟩ = some (.int .i64 p) := ⟨h.c8, h.c9⟩
  generalize p + x.flat.length = q at *
  clear h hx
  go_enter Tryz.func83, Tryz.ntmps83
  refine wp_region_Z (fun (w' : World) => w'.cell? ⟨R, 8, none⟩ = some (.slice k.A k.n k.c) ∧ w'.cell? ⟨R, 9, none⟩ = some (.int .i64 p)) 12 (by kernel_rfl) S0 (fun hHeld => ?_)
  refine wpAnyZ_take (i := 0) (oi := ⟨some 2, _, _, _, _, _⟩) (v := .pointer (some ⟨R, 0, none⟩)) rfl (by kernel_rfl) (by kernel_rfl) (by kernel_rfl) (by kernel_rfl) (fun _ _ _ h => h) (.inl ⟨by rfl, fun w' hSw => ?_⟩) hHeld ?_
  · obtain ⟨a0, a1⟩ := hSw
    go_simp
  simp only [Act.put, List.setIfInBounds_toArray, List.set_cons_zero, List.set_cons_succ]
  refine wpAnyZ_take (i := 1) (oi := ⟨some 3, _, _, _, _, _⟩) (v := .pointer (some ⟨R, 0, none⟩)) rfl (by kernel_rfl) (by kernel_rfl) (by kernel_rfl) (by kernel_rfl) (fun _ _ _ h => h) (.inl ⟨by rfl, fun w' hSw => ?_⟩) hHeld ?_
  · obtain ⟨a0, a1⟩ := hSw
    go_simp
  simp only [Act.put, List.setIfInBounds_toArray, List.set_cons_zero, List.set_cons_succ]
  refine wpAnyZ_take (i := 2) (oi := ⟨some 4, _, _, _, _, _⟩) (v := .pointer (some ⟨R, 0, none⟩)) rfl (by kernel_rfl) (by kernel_rfl) (by kernel_rfl) (by kernel_rfl) (fun _ _ _ h => h) (.inl ⟨by rfl, fun w' hSw => ?_⟩) hHeld ?_
  · obtain ⟨a0, a1⟩ := hSw
    go_simp
  simp only [Act.put, List.setIfInBounds_toArray, List.set_cons_zero, List.set_cons_succ]
  refine wpAnyZ_take (i := 3) (oi := ⟨some 5, _, _, _, _, _⟩) (v := .pointer (some ⟨R, 8, none⟩)) rfl (by kernel_rfl) (by kernel_rfl) (by kernel_rfl) (by kernel_rfl) (fun _ _ _ h => h) (.inl ⟨by rfl, fun w' hSw => ?_⟩) hHeld ?_
  · obtain ⟨a0, a1⟩ := hSw
    go_simp
  simp only [Act.put, List.setIfInBounds_toArray, List.set_cons_zero, List.set_cons_succ]
  refine wpAnyZ_take (i := 4) (oi := ⟨some 6, _, _, _, _, _⟩) (v := .slice k.A k.n k.c) rfl (by kernel_rfl) (by kernel_rfl) (by kernel_rfl) (by kernel_rfl) (fun _ _ _ h => h) (.inl ⟨by rfl, fun w' hSw => ?_⟩) hHeld ?_
  · obtain ⟨a0, a1⟩ := hSw
    go_simp
  simp only [Act.put, List.setIfInBounds_toArray, List.set_cons_zero, List.set_cons_succ]
  refine wpAnyZ_take (i := 5) (oi := ⟨some 7, _, _, _, _, _⟩) (v := .pointer (some ⟨R, 0, none⟩)) rfl (by kernel_rfl) (by kernel_rfl) (by kernel_rfl) (by kernel_rfl) (fun _ _ _ h => h) (.inl ⟨by rfl, fun w' hSw => ?_⟩) hHeld ?_
  · obtain ⟨a0, a1⟩ := hSw
    go_simp
  simp only [Act.put, List.setIfInBounds_toArray, List.set_cons_zero, List.set_cons_succ]
  refine wpAnyZ_take (i := 6) (oi := ⟨some 8, _, _, _, _, _⟩) (v := .pointer (some ⟨R, 0, none⟩)) rfl (by kernel_rfl) (by kernel_rfl) (by kernel_rfl) (by kernel_rfl) (fun _ _ _ h => h) (.inl ⟨by rfl, fun w' hSw => ?_⟩) hHeld ?_
  · obtain ⟨a0, a1⟩ := hSw
    go_simp
  simp only [Act.put, List.setIfInBounds_toArray, List.set_cons_zero, List.set_cons_succ]
  refine wpAnyZ_take (i := 7) (oi := ⟨some 9, _, _, _, _, _⟩) (v := .pointer (some ⟨R, 9, none⟩)) rfl (by kernel_rfl) (by kernel_rfl) (by kernel_rfl) (by kernel_rfl) (fun _ _ _ h => h) (.inl ⟨by rfl, fun w' hSw => ?_⟩) hHeld ?_
  · obtain ⟨a0, a1⟩ := hSw
    go_simp
  simp only [Act.put, List.setIfInBounds_toArray, List.set_cons_zero, List.set_cons_succ]
  refine wpAnyZ_take (i := 8) (oi := ⟨some 10, _, _, _, _, _⟩) (v := .int .i64 p) rfl (by kernel_rfl) (by kernel_rfl) (by kernel_rfl) (by kernel_rfl) (fun _ _ _ h => h) (.inl ⟨by rfl, fun w' hSw => ?_⟩) hHeld ?_
  · obtain ⟨a0, a1⟩ := hSw
    go_simp
  simp only [Act.put, List.setIfInBounds_toArray, List.set_cons_zero, List.set_cons_succ]
  refine wpAnyZ_one (i := 9) (o := ⟨some 11, _, _, _, _, _⟩) (by kernel_rfl) rfl (fun K' hK' => ?_)
  go_simp
  go_at_call 127
  refine K.out.mono ?_
  rintro e w1 ⟨rfl, b1⟩
  have E1 := Lib.hid (E0.out.keep b1)
  have G1 := Lib.hid (grown_trans (grown_of_below (below_drew w) (some R)) (grown_of_below b1 (some R)))
  clear b1
  go_wp2_with fail
  refine hK'.out _ _ (fun _ => ⟨E1.out.c8, E1.out.c9⟩) ?_
  clear hK' K' hHeld
  try simp only [Act.put, List.setIfInBounds_toArray, List.set_cons_zero, List.set_cons_succ]
  refine wpAnyZ_one (i := 10) (o := ⟨some 12, _, _, _, _, _⟩) (by kernel_rfl) rfl (fun K' hK' => ?_)
  go_simp
  refine hK'.out _ _ (fun _ => ⟨E1.out.c8, E1.out.c9⟩) ?_
  clear hK' K'
  try simp only [Act.put, List.setIfInBounds_toArray, List.set_cons_zero, List.set_cons_succ]
  refine wpAnyZ_one (i := 11) (o := ⟨some 13, _, _, _, _, _⟩) (by kernel_rfl) rfl (fun K' hK' => ?_)
  go_simp
  refine hK'.out _ _ (fun _ => ⟨E1.out.c8, E1.out.c9⟩) ?_
  clear hK' K'
  try simp only [Act.put, List.setIfInBounds_toArray, List.set_cons_zero, List.set_cons_succ]
  have j9 := E1.out.c9
  have z9 := E1.out.z 9
  have hRl := E1.out.lt
  refine wpAnyZ_one (i := 12) (o := ⟨none, _, _, _, _, _⟩) (by kernel_rfl) rfl (fun K' hK' => ?_)
  go_simp
  refine hK'.out _ _ (fun h => absurd rfl h) ?_
  refine wpAnyZ_done (by kernel_rfl) ?_
  clear hK' K'
  exact ⟨rfl, .tuple #[], by simp [results, Tryz.results83, go_sem], rfl, (ev_put E1.out q).1, grown_trans G1.out (ev_put E1.out q).2⟩
/-- Behind a value of one node. -/
theorem ev_leaf {W w : World} {R : Nat} {k : Cx} {p : Int} (h : EvAt W w R k p) (n : Nd) (ho : NdOk n) : EvPost W w R k (p + 1) (.ok [n]) (.returned (.slice (some ⟨w.heap.size + 1, 0, none⟩) 1 1))
    (((w.setCell ⟨R, 9, none⟩ (.int .i64 (p + 1))).alloc (.cells #[.int .i64 n.op, .int .i64 n.n, .string n.s, .string n.t] 42)).alloc (.cells #[.int .i64 n.op, .int .i64 n.n, .string n.s, .string n.t] 42)).drew := by
  obtain ⟨h1, g1⟩ := ev_put h (p + 1)
  have hz : (((w.setCell ⟨R, 9, none⟩ (.int .i64 (p + 1))).alloc (.cells #[.int .i64 n.op, .int .i64 n.n, .string n.s, .string n.t] 42))).heap.size = w.heap.size + 1 := by simp [World.setCell]
  have b1 := below_box (w.setCell ⟨R, 9, none⟩ (.int .i64 (p + 1))) (.cells #[.int .i64 n.op, .int .i64 n.n, .string n.s, .string n.t] 42)
  have b2 := below_box ((w.setCell ⟨R, 9, none⟩ (.int .i64 (p + 1))).alloc (.cells #[.int .i64 n.op, .int .i64 n.n, .string n.s, .string n.t] 42)) (.cells #[.int .i64 n.op, .int .i64 n.n, .string n.s, .string n.t] 42)
  have hN := nd_lit ((w.setCell ⟨R, 9, none⟩ (.int .i64 (p + 1))).alloc (.cells #[.int .i64 n.op, .int .i64 n.n, .string n.s, .string n.t] 42)) n ho
  rw [hz] at hN
  exact ⟨grown_trans (grown_trans (grown_trans g1 (grown_of_below b1 _)) (grown_of_below b2 _)) (grown_of_below (below_drew _) _), ⟨_, _, _, rfl, hN.keep (below_drew _), fun a e => by injection e with e; subst e; exact .inr (Nat.le_succ _)⟩, ((h1.keep b1).keep b2).keep (below_drew _)⟩
set_option maxHeartbeats 8000000 in
theorem next_leaf {W w : World} {R : Nat} {k : Cx} {p : Nat} (h : EvAt W w R k (p : Int)) (n : Nd) (ps : Exs) (hx : XAt k.P p false (.node n ps)) (h14 : 1 ≤ n.op ∧ n.op ≤ 4) (hp : partsN n = 0) :
    Calls Tryz.prog 32 #[.pointer (some ⟨R, 0, none⟩)] w (EvPost W w R k ((p + (Ex.node n ps).flat.length : Nat) : Int) (evX k.env (.node n ps))) := by
  have HR := Lib.hid (show evX k.env (.node n ps) = .ok [n] by rw [evX, if_pos h14])
  rw [HR.out, (hx.none hp).2]
  have ways : n.op = 1 ∨ n.op = 2 ∨ n.op = 3 ∨ n.op = 4 := by omega
  obtain ⟨a, ha, hpn, D, ho⟩ := h.node hx
  obtain ⟨o, v, s, t⟩ := n
  obtain ⟨d0, d1, d2, d3⟩ := D
  dsimp only at d0 d1 d2 d3 ways
  have hm := h.cx.ns.max
  unfold maxLen at hm
  have c8 : w.cell? ⟨R, 8, none⟩ = some (.slice (some a) k.n k.c) := by rw [← ha]; exact h.c8
  have c9 := h.c9
  have z9 := h.z 9
  have hRl := h.lt
  have HO := Lib.hid ho
  have E1 := Lib.hid (ev_step h (.cells #[.int .i64 o, .int .i64 v, .string s, .string t] 42)).1
  have G1 := Lib.hid (ev_step h (.cells #[.int .i64 o, .int .i64 v, .string s, .string t] 42)).2
  have nw8 := World.new_ne w ⟨R, 8, none⟩ c8
  have nw9 := World.new_ne w ⟨R, 9, none⟩ c9
  have nd0 := World.new_ne w _ d0
  have nd1 := World.new_ne w _ d1
  have nd2 := World.new_ne w _ d2
  have nd3 := World.new_ne w _ d3
  have hp0 : (0 : Int) ≤ (p : Int) := by omega
  have ER := Lib.hid (ev_leaf h ⟨o, v, s, t⟩ ho)
  generalize k.n = kn at *
  have hp1 : (p : Int) < (kn : Int) := by omega
  clear ha ho hx h hp h14 HR
  go_enter Tryz.func32, Tryz.ntmps32
  go_wp2_with fail
  go_region_held3 (fun w' : World => w'.cell? ⟨R, 8, none⟩ = some (.slice (some a) kn k.c) ∧ w'.cell? ⟨R, 9, none⟩ = some (.int .i64 p) ∧ w'.cell? (a.add (p * 4)) = some (.int .i64 o) ∧ w'.cell? ⟨(a.add (p * 4)).block, (a.add (p * 4)).off + 1, none⟩ = some (.int .i64 v) ∧ w'.cell? ⟨(a.add (p * 4)).block, (a.add (p * 4)).off + 2, none⟩ = some (.string s) ∧ w'.cell? ⟨(a.add (p * 4)).block, (a.add (p * 4)).off + 3, none⟩ = some (.string t)) (go_keep) (fail)
  rcases ways with rfl | rfl | rfl | rfl
  all_goals
    go_wp2_with fail
    go_ret
    exact ER.out
end Go.Proofs.YtcdpoamiejompaaGreatDoor
namespace Go.Proofs.YtcdpoamiejompaaGreatDoor
open Go.RowKit Go.Wk Go.Sort
set_option maxRecDepth 100000

theorem ev_pos {k : Cx} (ho : EnvOk k.env) {t : List Nd} {p : Nat} {x : Ex} (hx : XAt t p false x) {V : List Nd} (h : evX k.env x = .ok V) : valFault V = 0 ∧ 0 < V.length :=
  have hv := evX_ok ho x false hx.valid V h
  ⟨hv, valFault_pos hv⟩
set_option maxHeartbeats 4000000 in
theorem either_11 {W : World} {R N : Nat} {k : Cx} (ih : NextC W R k N) {w : World} {p : Nat} (h : EvAt W w R k (p : Int)) (a b : Ex) (ha : XAt k.P p false a) (hb : XAt k.P (p + a.flat.length) false b) (la : a.flat.length ≤ N) (lb : b.flat.length ≤ N) :
    Calls Tryz.prog 52 #[.pointer (some ⟨R, 0, none⟩), .int .i64 11] w (EvPost W w R k ((p + a.flat.length + b.flat.length : Nat) : Int) (evEither k.env false (.cons a (.cons b .nil)))) := by
  have IA := Lib.hid (ih a p w h ha la)
  have IB := Lib.hid (fun w' h' => ih b (p + a.flat.length) w' h' hb lb)
  have HO := Lib.hid h.ok.ok
  have HA := Lib.hid ha
  have HB := Lib.hid hb
  have H := Lib.hid h
  clear h ih
  rcases qa : evX k.env a with e | V
  · have HR := Lib.hid (show evEither k.env false (.cons a (.cons b .nil)) = .error e by rw [evEither, qa])
    rw [HR.out]
    rw [qa] at IA
    unfold EvPost at IA
    clear qa ha hb la lb IB HA HB
    go_enter Tryz.func52, Tryz.ntmps52
    go_wp2_with fail
    refine IA.out.mono ?_
    rintro e w1 ⟨g1, rfl⟩
    have G1 := Lib.hid g1
    clear g1
    go_wp2_with fail
    exact ⟨rfl, G1.out, rfl⟩
  · obtain ⟨vV, pV⟩ := ev_pos HO.out HA.out qa
    rw [qa] at IA
    unfold EvPost at IA
    by_cases g1 : headOp V = 1
    · rcases bool_ways vV g1 with rfl | rfl
      · have K0 : (1 : Int) = 1 := rfl
        have HR := Lib.hid (show evEither k.env false (.cons a (.cons b .nil)) = evLast k.env (.cons b .nil) by rw [evEither, qa]; rfl)
        rw [HR.out]
        have HAL := Lib.hid (show ((p + a.flat.length : Nat) : Int) = ((p + a.flat.length : Nat) : Int) from rfl)
        clear qa ha hb la lb vV pV g1 K0
        rcases qb : evX k.env b with u | U
        · have HR2 := Lib.hid (show evLast k.env (.cons b .nil) = .error u by rw [evLast, qb])
          rw [HR2.out]
          rw [qb] at IB
          unfold EvPost at IB
          clear qb
          go_enter Tryz.func52, Tryz.ntmps52
          go_wp2_with fail
          refine IA.out.mono ?_
          rintro e w1 ⟨g2, ⟨A1, n1, c1, rfl, N1, F1⟩, E1⟩
          have G1 := Lib.hid g2
          have K := Lib.hid (eval_must A1 n1 c1 (truthN true) 1 w1 N1 (by decide))
          rw [if_pos (show headOp (truthN true) = 1 from rfl)] at K
          have HN1 := Lib.hid N1
          have HE1 := Lib.hid E1
          clear g2 N1 F1 E1
          go_wp2_with fail
          refine K.out.mono ?_
          rintro e w2 ⟨rfl, b2⟩
          have HE2 := Lib.hid (HE1.out.keep b2)
          have N2 := Lib.hid (HN1.out.keep b2)
          have G2 := Lib.hid (grown_trans G1.out (grown_of_below b2 _))
          obtain ⟨a1, rfl, hn1, ⟨-, d1, -, -⟩, -, -⟩ := ns_hd N2.out (by decide)
          have hi : (0 : Int) < (n1 : Int) := by omega
          have d1' : w2.cell? ⟨a1.block, a1.off + 1, none⟩ = some (.int .i64 1) := d1
          clear b2 d1 K HE1 HN1 G1
          go_wp2_with fail
          refine (IB.out w2 HE2.out).mono ?_
          rintro e w3 ⟨g3, rfl⟩
          have G3 := Lib.hid (grown_trans G2.out g3)
          clear g3
          go_wp2_with fail
          exact ⟨rfl, G3.out, rfl⟩
        · obtain ⟨vU, pU⟩ := ev_pos HO.out HB.out qb
          have PU := Lib.hid pU
          rw [qb] at IB
          unfold EvPost at IB
          clear vU pU
          by_cases g3 : headOp U = 1
          · have HR2 := Lib.hid (show evLast k.env (.cons b .nil) = .ok U by rw [evLast, qb]; simp only; rw [if_pos g3])
            rw [HR2.out]
            clear qb
            go_enter Tryz.func52, Tryz.ntmps52
            go_wp2_with fail
            refine IA.out.mono ?_
            rintro e w1 ⟨g2, ⟨A1, n1, c1, rfl, N1, F1⟩, E1⟩
            have G1 := Lib.hid g2
            have K := Lib.hid (eval_must A1 n1 c1 (truthN true) 1 w1 N1 (by decide))
            rw [if_pos (show headOp (truthN true) = 1 from rfl)] at K
            have HN1 := Lib.hid N1
            have HE1 := Lib.hid E1
            clear g2 N1 F1 E1
            go_wp2_with fail
            refine K.out.mono ?_
            rintro e w2 ⟨rfl, b2⟩
            have HE2 := Lib.hid (HE1.out.keep b2)
            have N2 := Lib.hid (HN1.out.keep b2)
            have G2 := Lib.hid (grown_trans G1.out (grown_of_below b2 _))
            obtain ⟨a1, rfl, hn1, ⟨-, d1, -, -⟩, -, -⟩ := ns_hd N2.out (by decide)
            have hi : (0 : Int) < (n1 : Int) := by omega
            have d1' : w2.cell? ⟨a1.block, a1.off + 1, none⟩ = some (.int .i64 1) := d1
            clear b2 d1 K HE1 HN1 G1
            go_wp2_with fail
            refine (IB.out w2 HE2.out).mono ?_
            rintro e w3 ⟨g4, ⟨A3, n3, c3, rfl, N3, F3⟩, E3⟩
            have G3 := Lib.hid (grown_trans G2.out g4)
            have K3 := Lib.hid (eval_must A3 n3 c3 U 1 w3 N3 PU.out)
            rw [if_pos g3] at K3
            have HN3 := Lib.hid N3
            have HE3 := Lib.hid E3
            have HF3 := Lib.hid (fun a' e' => (F3 a' e').imp id (fun q => Nat.le_trans G2.out.size q))
            clear g4 N3 E3 F3
            go_wp2_with fail
            refine K3.out.mono ?_
            rintro e w4 ⟨rfl, b4⟩
            have HE4 := Lib.hid (HE3.out.keep b4)
            have N4 := Lib.hid (HN3.out.keep b4)
            have G4 := Lib.hid (grown_trans G3.out (grown_of_below b4 _))
            clear b4
            go_wp2_with fail
            go_ret
            exact ⟨G4.out, ⟨A3, n3, c3, rfl, N4.out, HF3.out⟩, HE4.out⟩
          · have HR2 := Lib.hid (show evLast k.env (.cons b .nil) = .error 2 by rw [evLast, qb]; simp only; rw [if_neg g3])
            rw [HR2.out]
            clear qb
            go_enter Tryz.func52, Tryz.ntmps52
            go_wp2_with fail
            refine IA.out.mono ?_
            rintro e w1 ⟨g2, ⟨A1, n1, c1, rfl, N1, F1⟩, E1⟩
            have G1 := Lib.hid g2
            have K := Lib.hid (eval_must A1 n1 c1 (truthN true) 1 w1 N1 (by decide))
            rw [if_pos (show headOp (truthN true) = 1 from rfl)] at K
            have HN1 := Lib.hid N1
            have HE1 := Lib.hid E1
            clear g2 N1 F1 E1
            go_wp2_with fail
            refine K.out.mono ?_
            rintro e w2 ⟨rfl, b2⟩
            have HE2 := Lib.hid (HE1.out.keep b2)
            have N2 := Lib.hid (HN1.out.keep b2)
            have G2 := Lib.hid (grown_trans G1.out (grown_of_below b2 _))
            obtain ⟨a1, rfl, hn1, ⟨-, d1, -, -⟩, -, -⟩ := ns_hd N2.out (by decide)
            have hi : (0 : Int) < (n1 : Int) := by omega
            have d1' : w2.cell? ⟨a1.block, a1.off + 1, none⟩ = some (.int .i64 1) := d1
            clear b2 d1 K HE1 HN1 G1
            go_wp2_with fail
            refine (IB.out w2 HE2.out).mono ?_
            rintro e w3 ⟨g4, ⟨A3, n3, c3, rfl, N3, F3⟩, E3⟩
            have G3 := Lib.hid (grown_trans G2.out g4)
            have K3 := Lib.hid (eval_must A3 n3 c3 U 1 w3 N3 PU.out)
            rw [if_neg g3] at K3
            clear g4 N3 E3 F3
            go_wp2_with fail
            refine K3.out.mono ?_
            rintro e w4 ⟨rfl, b4⟩
            have G4 := Lib.hid (grown_trans G3.out (grown_of_below b4 _))
            clear b4
            go_wp2_with fail
            exact ⟨rfl, G4.out, rfl⟩
      · have K0 : (1 : Int) = 1 := rfl
        have HR := Lib.hid (show evEither k.env false (.cons a (.cons b .nil)) = .ok (truthN false) by rw [evEither, qa]; rfl)
        rw [HR.out]
        clear qa ha hb la lb IB vV pV g1 K0
        go_enter Tryz.func52, Tryz.ntmps52
        go_wp2_with fail
        refine IA.out.mono ?_
        rintro e w1 ⟨g2, ⟨A1, n1, c1, rfl, N1, F1⟩, E1⟩
        have G1 := Lib.hid g2
        have K := Lib.hid (eval_must A1 n1 c1 (truthN false) 1 w1 N1 (by decide))
        rw [if_pos (show headOp (truthN false) = 1 from rfl)] at K
        have HN1 := Lib.hid N1
        have HF1 := Lib.hid F1
        have HE1 := Lib.hid E1
        clear g2 N1 F1 E1
        go_wp2_with fail
        refine K.out.mono ?_
        rintro e w2 ⟨rfl, b2⟩
        have HE2 := Lib.hid (HE1.out.keep b2)
        have N2 := Lib.hid (HN1.out.keep b2)
        have G2 := Lib.hid (grown_trans G1.out (grown_of_below b2 _))
        obtain ⟨a1, rfl, hn1, ⟨-, d1, -, -⟩, -, -⟩ := ns_hd N2.out (by decide)
        have hi : (0 : Int) < (n1 : Int) := by omega
        have d1' : w2.cell? ⟨a1.block, a1.off + 1, none⟩ = some (.int .i64 0) := d1
        have S := Lib.hid (eval_skip HE2.out HB.out)
        clear b2 d1 K HE1 HN1 G1
        go_wp2_with fail
        refine S.out.mono ?_
        rintro e w3 ⟨rfl, E3, g3⟩
        have N3 := Lib.hid (HE2.out.ns N2.out g3)
        have G3 := Lib.hid (grown_trans G2.out g3)
        have HE3 := Lib.hid E3
        clear E3 g3 S HE2 N2 d1'
        go_wp2_with fail
        go_ret
        exact ⟨G3.out, ⟨some a1, n1, c1, rfl, N3.out, HF1.out⟩, HE3.out⟩

    · have HR := Lib.hid (show evEither k.env false (.cons a (.cons b .nil)) = .error 2 by rw [evEither, qa]; simp only; rw [if_neg g1])
      rw [HR.out]
      have PV := Lib.hid pV
      clear qa ha hb la lb IB HA HB vV pV
      go_enter Tryz.func52, Tryz.ntmps52
      go_wp2_with fail
      refine IA.out.mono ?_
      rintro e w1 ⟨g2, ⟨A1, n1, c1, rfl, N1, F1⟩, E1⟩
      have G1 := Lib.hid g2
      have K := Lib.hid (eval_must A1 n1 c1 V 1 w1 N1 PV.out)
      rw [if_neg g1] at K
      clear g2 N1 F1 E1 g1
      go_wp2_with fail
      refine K.out.mono ?_
      rintro e w2 ⟨rfl, b2⟩
      have G2 := Lib.hid (grown_trans G1.out (grown_of_below b2 _))
      clear b2
      go_wp2_with fail
      exact ⟨rfl, G2.out, rfl⟩
set_option maxHeartbeats 4000000 in
theorem either_12 {W : World} {R N : Nat} {k : Cx} (ih : NextC W R k N) {w : World} {p : Nat} (h : EvAt W w R k (p : Int)) (a b : Ex) (ha : XAt k.P p false a) (hb : XAt k.P (p + a.flat.length) false b) (la : a.flat.length ≤ N) (lb : b.flat.length ≤ N) :
    Calls Tryz.prog 52 #[.pointer (some ⟨R, 0, none⟩), .int .i64 12] w (EvPost W w R k ((p + a.flat.length + b.flat.length : Nat) : Int) (evEither k.env true (.cons a (.cons b .nil)))) := by
  have IA := Lib.hid (ih a p w h ha la)
  have IB := Lib.hid (fun w' h' => ih b (p + a.flat.length) w' h' hb lb)
  have HO := Lib.hid h.ok.ok
  have HA := Lib.hid ha
  have HB := Lib.hid hb
  have H := Lib.hid h
  clear h ih
  rcases qa : evX k.env a with e | V
  · have HR := Lib.hid (show evEither k.env true (.cons a (.cons b .nil)) = .error e by rw [evEither, qa])
    rw [HR.out]
    rw [qa] at IA
    unfold EvPost at IA
    clear qa ha hb la lb IB HA HB
    go_enter Tryz.func52, Tryz.ntmps52
    go_wp2_with fail
    refine IA.out.mono ?_
    rintro e w1 ⟨g1, rfl⟩
    have G1 := Lib.hid g1
    clear g1
    go_wp2_with fail
    exact ⟨rfl, G1.out, rfl⟩
  · obtain ⟨vV, pV⟩ := ev_pos HO.out HA.out qa
    rw [qa] at IA
    unfold EvPost at IA
    by_cases g1 : headOp V = 1
    · rcases bool_ways vV g1 with rfl | rfl
      · have K0 : (1 : Int) = 1 := rfl
        have HR := Lib.hid (show evEither k.env true (.cons a (.cons b .nil)) = .ok (truthN true) by rw [evEither, qa]; rfl)
        rw [HR.out]
        clear qa ha hb la lb IB vV pV g1 K0
        go_enter Tryz.func52, Tryz.ntmps52
        go_wp2_with fail
        refine IA.out.mono ?_
        rintro e w1 ⟨g2, ⟨A1, n1, c1, rfl, N1, F1⟩, E1⟩
        have G1 := Lib.hid g2
        have K := Lib.hid (eval_must A1 n1 c1 (truthN true) 1 w1 N1 (by decide))
        rw [if_pos (show headOp (truthN true) = 1 from rfl)] at K
        have HN1 := Lib.hid N1
        have HF1 := Lib.hid F1
        have HE1 := Lib.hid E1
        clear g2 N1 F1 E1
        go_wp2_with fail
        refine K.out.mono ?_
        rintro e w2 ⟨rfl, b2⟩
        have HE2 := Lib.hid (HE1.out.keep b2)
        have N2 := Lib.hid (HN1.out.keep b2)
        have G2 := Lib.hid (grown_trans G1.out (grown_of_below b2 _))
        obtain ⟨a1, rfl, hn1, ⟨-, d1, -, -⟩, -, -⟩ := ns_hd N2.out (by decide)
        have hi : (0 : Int) < (n1 : Int) := by omega
        have d1' : w2.cell? ⟨a1.block, a1.off + 1, none⟩ = some (.int .i64 1) := d1
        have S := Lib.hid (eval_skip HE2.out HB.out)
        clear b2 d1 K HE1 HN1 G1
        go_wp2_with fail
        refine S.out.mono ?_
        rintro e w3 ⟨rfl, E3, g3⟩
        have N3 := Lib.hid (HE2.out.ns N2.out g3)
        have G3 := Lib.hid (grown_trans G2.out g3)
        have HE3 := Lib.hid E3
        clear E3 g3 S HE2 N2 d1'
        go_wp2_with fail
        go_ret
        exact ⟨G3.out, ⟨some a1, n1, c1, rfl, N3.out, HF1.out⟩, HE3.out⟩
      · have K0 : (1 : Int) = 1 := rfl
        have HR := Lib.hid (show evEither k.env true (.cons a (.cons b .nil)) = evLast k.env (.cons b .nil) by rw [evEither, qa]; rfl)
        rw [HR.out]
        have HAL := Lib.hid (show ((p + a.flat.length : Nat) : Int) = ((p + a.flat.length : Nat) : Int) from rfl)
        clear qa ha hb la lb vV pV g1 K0
        rcases qb : evX k.env b with u | U
        · have HR2 := Lib.hid (show evLast k.env (.cons b .nil) = .error u by rw [evLast, qb])
          rw [HR2.out]
          rw [qb] at IB
          unfold EvPost at IB
          clear qb
          go_enter Tryz.func52, Tryz.ntmps52
          go_wp2_with fail
          refine IA.out.mono ?_
          rintro e w1 ⟨g2, ⟨A1, n1, c1, rfl, N1, F1⟩, E1⟩
          have G1 := Lib.hid g2
          have K := Lib.hid (eval_must A1 n1 c1 (truthN false) 1 w1 N1 (by decide))
          rw [if_pos (show headOp (truthN false) = 1 from rfl)] at K
          have HN1 := Lib.hid N1
          have HE1 := Lib.hid E1
          clear g2 N1 F1 E1
          go_wp2_with fail
          refine K.out.mono ?_
          rintro e w2 ⟨rfl, b2⟩
          have HE2 := Lib.hid (HE1.out.keep b2)
          have N2 := Lib.hid (HN1.out.keep b2)
          have G2 := Lib.hid (grown_trans G1.out (grown_of_below b2 _))
          obtain ⟨a1, rfl, hn1, ⟨-, d1, -, -⟩, -, -⟩ := ns_hd N2.out (by decide)
          have hi : (0 : Int) < (n1 : Int) := by omega
          have d1' : w2.cell? ⟨a1.block, a1.off + 1, none⟩ = some (.int .i64 0) := d1
          clear b2 d1 K HE1 HN1 G1
          go_wp2_with fail
          refine (IB.out w2 HE2.out).mono ?_
          rintro e w3 ⟨g3, rfl⟩
          have G3 := Lib.hid (grown_trans G2.out g3)
          clear g3
          go_wp2_with fail
          exact ⟨rfl, G3.out, rfl⟩
        · obtain ⟨vU, pU⟩ := ev_pos HO.out HB.out qb
          have PU := Lib.hid pU
          rw [qb] at IB
          unfold EvPost at IB
          clear vU pU
          by_cases g3 : headOp U = 1
          · have HR2 := Lib.hid (show evLast k.env (.cons b .nil) = .ok U by rw [evLast, qb]; simp only; rw [if_pos g3])
            rw [HR2.out]
            clear qb
            go_enter Tryz.func52, Tryz.ntmps52
            go_wp2_with fail
            refine IA.out.mono ?_
            rintro e w1 ⟨g2, ⟨A1, n1, c1, rfl, N1, F1⟩, E1⟩
            have G1 := Lib.hid g2
            have K := Lib.hid (eval_must A1 n1 c1 (truthN false) 1 w1 N1 (by decide))
            rw [if_pos (show headOp (truthN false) = 1 from rfl)] at K
            have HN1 := Lib.hid N1
            have HE1 := Lib.hid E1
            clear g2 N1 F1 E1
            go_wp2_with fail
            refine K.out.mono ?_
            rintro e w2 ⟨rfl, b2⟩
            have HE2 := Lib.hid (HE1.out.keep b2)
            have N2 := Lib.hid (HN1.out.keep b2)
            have G2 := Lib.hid (grown_trans G1.out (grown_of_below b2 _))
            obtain ⟨a1, rfl, hn1, ⟨-, d1, -, -⟩, -, -⟩ := ns_hd N2.out (by decide)
            have hi : (0 : Int) < (n1 : Int) := by omega
            have d1' : w2.cell? ⟨a1.block, a1.off + 1, none⟩ = some (.int .i64 0) := d1
            clear b2 d1 K HE1 HN1 G1
            go_wp2_with fail
            refine (IB.out w2 HE2.out).mono ?_
            rintro e w3 ⟨g4, ⟨A3, n3, c3, rfl, N3, F3⟩, E3⟩
            have G3 := Lib.hid (grown_trans G2.out g4)
            have K3 := Lib.hid (eval_must A3 n3 c3 U 1 w3 N3 PU.out)
            rw [if_pos g3] at K3
            have HN3 := Lib.hid N3
            have HE3 := Lib.hid E3
            have HF3 := Lib.hid (fun a' e' => (F3 a' e').imp id (fun q => Nat.le_trans G2.out.size q))
            clear g4 N3 E3 F3
            go_wp2_with fail
            refine K3.out.mono ?_
            rintro e w4 ⟨rfl, b4⟩
            have HE4 := Lib.hid (HE3.out.keep b4)
            have N4 := Lib.hid (HN3.out.keep b4)
            have G4 := Lib.hid (grown_trans G3.out (grown_of_below b4 _))
            clear b4
            go_wp2_with fail
            go_ret
            exact ⟨G4.out, ⟨A3, n3, c3, rfl, N4.out, HF3.out⟩, HE4.out⟩
          · have HR2 := Lib.hid (show evLast k.env (.cons b .nil) = .error 2 by rw [evLast, qb]; simp only; rw [if_neg g3])
            rw [HR2.out]
            clear qb
            go_enter Tryz.func52, Tryz.ntmps52
            go_wp2_with fail
            refine IA.out.mono ?_
            rintro e w1 ⟨g2, ⟨A1, n1, c1, rfl, N1, F1⟩, E1⟩
            have G1 := Lib.hid g2
            have K := Lib.hid (eval_must A1 n1 c1 (truthN false) 1 w1 N1 (by decide))
            rw [if_pos (show headOp (truthN false) = 1 from rfl)] at K
            have HN1 := Lib.hid N1
            have HE1 := Lib.hid E1
            clear g2 N1 F1 E1
            go_wp2_with fail
            refine K.out.mono ?_
            rintro e w2 ⟨rfl, b2⟩
            have HE2 := Lib.hid (HE1.out.keep b2)
            have N2 := Lib.hid (HN1.out.keep b2)
            have G2 := Lib.hid (grown_trans G1.out (grown_of_below b2 _))
            obtain ⟨a1, rfl, hn1, ⟨-, d1, -, -⟩, -, -⟩ := ns_hd N2.out (by decide)
            have hi : (0 : Int) < (n1 : Int) := by omega
            have d1' : w2.cell? ⟨a1.block, a1.off + 1, none⟩ = some (.int .i64 0) := d1
            clear b2 d1 K HE1 HN1 G1
            go_wp2_with fail
            refine (IB.out w2 HE2.out).mono ?_
            rintro e w3 ⟨g4, ⟨A3, n3, c3, rfl, N3, F3⟩, E3⟩
            have G3 := Lib.hid (grown_trans G2.out g4)
            have K3 := Lib.hid (eval_must A3 n3 c3 U 1 w3 N3 PU.out)
            rw [if_neg g3] at K3
            clear g4 N3 E3 F3
            go_wp2_with fail
            refine K3.out.mono ?_
            rintro e w4 ⟨rfl, b4⟩
            have G4 := Lib.hid (grown_trans G3.out (grown_of_below b4 _))
            clear b4
            go_wp2_with fail
            exact ⟨rfl, G4.out, rfl⟩

    · have HR := Lib.hid (show evEither k.env true (.cons a (.cons b .nil)) = .error 2 by rw [evEither, qa]; simp only; rw [if_neg g1])
      rw [HR.out]
      have PV := Lib.hid pV
      clear qa ha hb la lb IB HA HB vV pV
      go_enter Tryz.func52, Tryz.ntmps52
      go_wp2_with fail
      refine IA.out.mono ?_
      rintro e w1 ⟨g2, ⟨A1, n1, c1, rfl, N1, F1⟩, E1⟩
      have G1 := Lib.hid g2
      have K := Lib.hid (eval_must A1 n1 c1 V 1 w1 N1 PV.out)
      rw [if_neg g1] at K
      clear g2 N1 F1 E1 g1
      go_wp2_with fail
      refine K.out.mono ?_
      rintro e w2 ⟨rfl, b2⟩
      have G2 := Lib.hid (grown_trans G1.out (grown_of_below b2 _))
      clear b2
      go_wp2_with fail
      exact ⟨rfl, G2.out, rfl⟩
set_option maxHeartbeats 4000000 in
theorem eval_choice {W : World} {R N : Nat} {k : Cx} (ih : NextC W R k N) {w : World} {p : Nat} (h : EvAt W w R k (p : Int)) (c a b : Ex) (hc : XAt k.P p false c) (ha : XAt k.P (p + c.flat.length) false a) (hb : XAt k.P (p + c.flat.length + a.flat.length) false b) (lc : c.flat.length ≤ N) (la : a.flat.length ≤ N) (lb : b.flat.length ≤ N) :
    Calls Tryz.prog 53 #[.pointer (some ⟨R, 0, none⟩)] w (EvPost W w R k ((p + c.flat.length + a.flat.length + b.flat.length : Nat) : Int) (evIf k.env (.cons c (.cons a (.cons b .nil))))) := by
  have IC := Lib.hid (ih c p w h hc lc)
  have IA := Lib.hid (fun w' h' => ih a (p + c.flat.length) w' h' ha la)
  have IB := Lib.hid (fun w' h' => ih b (p + c.flat.length + a.flat.length) w' h' hb lb)
  have HO := Lib.hid h.ok.ok
  have HC := Lib.hid hc
  have HA := Lib.hid ha
  have HB := Lib.hid hb
  clear h ih
  rcases qc : evX k.env c with e | V
  · have HR := Lib.hid (show evIf k.env (.cons c (.cons a (.cons b .nil))) = .error e by rw [evIf, qc])
    rw [HR.out]
    rw [qc] at IC
    unfold EvPost at IC
    clear qc ha hb hc la lb lc IA IB HA HB HC
    go_enter Tryz.func53, Tryz.ntmps53
    go_wp2_with fail
    refine IC.out.mono ?_
    rintro e w1 ⟨g1, rfl⟩
    have G1 := Lib.hid g1
    clear g1
    go_wp2_with fail
    exact ⟨rfl, G1.out, rfl⟩
  obtain ⟨vV, pV⟩ := ev_pos HO.out HC.out qc
  rw [qc] at IC
  unfold EvPost at IC
  by_cases g1 : headOp V = 1
  case neg =>
    have HR := Lib.hid (show evIf k.env (.cons c (.cons a (.cons b .nil))) = .error 2 by rw [evIf, qc]; simp only; rw [if_neg g1])
    rw [HR.out]
    have PV := Lib.hid pV
    clear qc ha hb hc la lb lc IA IB HA HB HC vV pV
    go_enter Tryz.func53, Tryz.ntmps53
    go_wp2_with fail
    refine IC.out.mono ?_
    rintro e w1 ⟨g2, ⟨A1, n1, c1, rfl, N1, F1⟩, E1⟩
    have G1 := Lib.hid g2
    have K := Lib.hid (eval_must A1 n1 c1 V 1 w1 N1 PV.out)
    rw [if_neg g1] at K
    clear g2 N1 F1 E1 g1
    go_wp2_with fail
    refine K.out.mono ?_
    rintro e w2 ⟨rfl, b2⟩
    have G2 := Lib.hid (grown_trans G1.out (grown_of_below b2 _))
    clear b2
    go_wp2_with fail
    exact ⟨rfl, G2.out, rfl⟩
  rcases bool_ways vV g1 with rfl | rfl
  · have HR := Lib.hid (show evIf k.env (.cons c (.cons a (.cons b .nil))) = evX k.env a by rw [evIf, qc]; rfl)
    rw [HR.out]
    clear qc ha hb hc la lb lc vV pV g1 HC IB HO
    rcases qa : evX k.env a with u | U
    · rw [qa] at IA
      unfold EvPost at IA
      clear qa
      go_enter Tryz.func53, Tryz.ntmps53
      go_wp2_with fail
      refine IC.out.mono ?_
      rintro e w1 ⟨g2, ⟨A1, n1, c1, rfl, N1, F1⟩, E1⟩
      have G1 := Lib.hid g2
      have K := Lib.hid (eval_must A1 n1 c1 (truthN true) 1 w1 N1 (by decide))
      rw [if_pos (show headOp (truthN true) = 1 from rfl)] at K
      have HN1 := Lib.hid N1
      have HE1 := Lib.hid E1
      clear g2 N1 F1 E1
      go_wp2_with fail
      refine K.out.mono ?_
      rintro e w2 ⟨rfl, b2⟩
      have HE2 := Lib.hid (HE1.out.keep b2)
      have G2 := Lib.hid (grown_trans G1.out (grown_of_below b2 _))
      obtain ⟨a1, rfl, hn1, ⟨-, d1, -, -⟩, -, -⟩ := ns_hd (HN1.out.keep b2) (by decide)
      have hi : (0 : Int) < (n1 : Int) := by omega
      have d1' : w2.cell? ⟨a1.block, a1.off + 1, none⟩ = some (.int .i64 1) := d1
      clear b2 d1 K HE1 HN1 G1
      go_wp2_with fail
      refine (IA.out w2 HE2.out).mono ?_
      rintro e w3 ⟨g3, rfl⟩
      have G3 := Lib.hid (grown_trans G2.out g3)
      clear g3
      go_wp2_with fail
      exact ⟨rfl, G3.out, rfl⟩
    · rw [qa] at IA
      unfold EvPost at IA
      clear qa
      go_enter Tryz.func53, Tryz.ntmps53
      go_wp2_with fail
      refine IC.out.mono ?_
      rintro e w1 ⟨g2, ⟨A1, n1, c1, rfl, N1, F1⟩, E1⟩
      have G1 := Lib.hid g2
      have K := Lib.hid (eval_must A1 n1 c1 (truthN true) 1 w1 N1 (by decide))
      rw [if_pos (show headOp (truthN true) = 1 from rfl)] at K
      have HN1 := Lib.hid N1
      have HE1 := Lib.hid E1
      clear g2 N1 F1 E1
      go_wp2_with fail
      refine K.out.mono ?_
      rintro e w2 ⟨rfl, b2⟩
      have HE2 := Lib.hid (HE1.out.keep b2)
      have G2 := Lib.hid (grown_trans G1.out (grown_of_below b2 _))
      obtain ⟨a1, rfl, hn1, ⟨-, d1, -, -⟩, -, -⟩ := ns_hd (HN1.out.keep b2) (by decide)
      have hi : (0 : Int) < (n1 : Int) := by omega
      have d1' : w2.cell? ⟨a1.block, a1.off + 1, none⟩ = some (.int .i64 1) := d1
      clear b2 d1 K HE1 HN1 G1
      go_wp2_with fail
      refine (IA.out w2 HE2.out).mono ?_
      rintro e w3 ⟨g3, ⟨A3, n3, c3, rfl, N3, F3⟩, E3⟩
      have G3 := Lib.hid (grown_trans G2.out g3)
      have S := Lib.hid (eval_skip E3 HB.out)
      have HN3 := Lib.hid N3
      have HE3 := Lib.hid E3
      have HF3 := Lib.hid (fun a' e' => (F3 a' e').imp id (fun q => Nat.le_trans G2.out.size q))
      clear g3 N3 E3 F3
      go_wp2_with fail
      refine S.out.mono ?_
      rintro e w4 ⟨rfl, E4, g4⟩
      have N4 := Lib.hid (HE3.out.ns HN3.out g4)
      have G4 := Lib.hid (grown_trans G3.out g4)
      have HE4 := Lib.hid E4
      clear E4 g4 S HE3 HN3
      go_wp2_with fail
      go_ret
      exact ⟨G4.out, ⟨A3, n3, c3, rfl, N4.out, HF3.out⟩, HE4.out⟩
  · have HR := Lib.hid (show evIf k.env (.cons c (.cons a (.cons b .nil))) = evX k.env b by rw [evIf, qc]; rfl)
    rw [HR.out]
    clear qc ha hb hc la lb lc vV pV g1 HC IA HO
    rcases qb : evX k.env b with u | U
    · rw [qb] at IB
      unfold EvPost at IB
      clear qb
      go_enter Tryz.func53, Tryz.ntmps53
      go_wp2_with fail
      refine IC.out.mono ?_
      rintro e w1 ⟨g2, ⟨A1, n1, c1, rfl, N1, F1⟩, E1⟩
      have G1 := Lib.hid g2
      have K := Lib.hid (eval_must A1 n1 c1 (truthN false) 1 w1 N1 (by decide))
      rw [if_pos (show headOp (truthN false) = 1 from rfl)] at K
      have HN1 := Lib.hid N1
      have HE1 := Lib.hid E1
      clear g2 N1 F1 E1
      go_wp2_with fail
      refine K.out.mono ?_
      rintro e w2 ⟨rfl, b2⟩
      have HE2 := Lib.hid (HE1.out.keep b2)
      have G2 := Lib.hid (grown_trans G1.out (grown_of_below b2 _))
      obtain ⟨a1, rfl, hn1, ⟨-, d1, -, -⟩, -, -⟩ := ns_hd (HN1.out.keep b2) (by decide)
      have hi : (0 : Int) < (n1 : Int) := by omega
      have d1' : w2.cell? ⟨a1.block, a1.off + 1, none⟩ = some (.int .i64 0) := d1
      clear b2 d1 K HE1 HN1 G1
      go_wp2_with fail
      have S := Lib.hid (eval_skip HE2.out HA.out)
      refine S.out.mono ?_
      rintro e w3 ⟨rfl, E3, g3⟩
      have G3 := Lib.hid (grown_trans G2.out g3)
      have HE3 := Lib.hid E3
      clear E3 g3 S HE2
      go_wp2_with fail
      refine (IB.out w3 HE3.out).mono ?_
      rintro e w4 ⟨g4, rfl⟩
      have G4 := Lib.hid (grown_trans G3.out g4)
      clear g4
      go_wp2_with fail
      exact ⟨rfl, G4.out, rfl⟩
    · rw [qb] at IB
      unfold EvPost at IB
      clear qb
      go_enter Tryz.func53, Tryz.ntmps53
      go_wp2_with fail
      refine IC.out.mono ?_
      rintro e w1 ⟨g2, ⟨A1, n1, c1, rfl, N1, F1⟩, E1⟩
      have G1 := Lib.hid g2
      have K := Lib.hid (eval_must A1 n1 c1 (truthN false) 1 w1 N1 (by decide))
      rw [if_pos (show headOp (truthN false) = 1 from rfl)] at K
      have HN1 := Lib.hid N1
      have HE1 := Lib.hid E1
      clear g2 N1 F1 E1
      go_wp2_with fail
      refine K.out.mono ?_
      rintro e w2 ⟨rfl, b2⟩
      have HE2 := Lib.hid (HE1.out.keep b2)
      have G2 := Lib.hid (grown_trans G1.out (grown_of_below b2 _))
      obtain ⟨a1, rfl, hn1, ⟨-, d1, -, -⟩, -, -⟩ := ns_hd (HN1.out.keep b2) (by decide)
      have hi : (0 : Int) < (n1 : Int) := by omega
      have d1' : w2.cell? ⟨a1.block, a1.off + 1, none⟩ = some (.int .i64 0) := d1
      clear b2 d1 K HE1 HN1 G1
      go_wp2_with fail
      have S := Lib.hid (eval_skip HE2.out HA.out)
      refine S.out.mono ?_
      rintro e w3 ⟨rfl, E3, g3⟩
      have G3 := Lib.hid (grown_trans G2.out g3)
      have HE3 := Lib.hid E3
      clear E3 g3 S HE2
      go_wp2_with fail
      refine (IB.out w3 HE3.out).mono ?_
      rintro e w4 ⟨g4, ⟨A4, n4, c4, rfl, N4, F4⟩, E4⟩
      have G4 := Lib.hid (grown_trans G3.out g4)
      have HN4 := Lib.hid N4
      have HE4 := Lib.hid E4
      have HF4 := Lib.hid (fun a' e' => (F4 a' e').imp id (fun q => Nat.le_trans G3.out.size q))
      clear g4 N4 E4 F4
      go_wp2_with fail
      go_ret
      exact ⟨G4.out, ⟨A4, n4, c4, rfl, HN4.out, HF4.out⟩, HE4.out⟩
end Go.Proofs.YtcdpoamiejompaaGreatDoor
namespace Go.Proofs.YtcdpoamiejompaaGreatDoor
open Go.RowKit Go.Wk Go.Sort
set_option maxRecDepth 100000

/-- What record tells. -/
def RecoPost (w : World) (r : Except Int (Option (List Nd))) (e : Ending) (w' : World) : Prop :=
  Below w.heap.size w w' ∧ match r with
    | .error k => e = .panicked (tellE k)
    | .ok none => e = .returned (.slice none 0 0)
    | .ok (some V) => ∃ a n c, e = .returned (.slice (some a) n c) ∧ Ns w' (some a) n c V
theorem find_drop {E : List En} {u : Ud} {k : Nat} (h : k < E.length) : ((E.drop k).find? fun x => decide (x.u = u)) = if E[k].u = u then some E[k] else (E.drop (k + 1)).find? fun x => decide (x.u = u) := by
  rw [List.drop_eq_getElem_cons h, List.find?_cons]
  by_cases g : E[k].u = u
  · simp [g]
  · simp [g]
theorem reco_rec {W w : World} {R : Nat} {k : Cx} {p : Int} (_h : EvAt W w R k p) (A : Option Addr) (n c : Nat) (V : List Nd) (hv : Ns w A n c V) (h0 : 0 < V.length) (h6 : headOp V = 6) :
    Calls Tryz.prog 90 #[.pointer (some ⟨R, 0, none⟩), .slice A n c] w (RecoPost w (recX k.E V)) := by
  have K := Lib.hid (eval_is A n c V 6 w hv h0)
  have f1 : (headOp V == 6) = true := beq_iff_eq.2 h6
  rw [f1] at K
  have HR := Lib.hid (show recX k.E V = .ok (some V) by unfold recX; rw [if_pos h6])
  have HV := Lib.hid hv
  obtain ⟨a, rfl, -⟩ := ns_hd hv h0
  rw [HR.out]
  clear hv h0 h6 f1
  go_enter Tryz.func90, Tryz.ntmps90
  go_wp2_with fail
  refine K.out.mono ?_
  rintro e w1 ⟨rfl, b1⟩
  have B1 := Lib.hid b1
  clear b1 K
  go_wp2_with fail
  go_ret
  exact ⟨B1.out, a, n, c, rfl, HV.out.keep B1.out⟩
theorem reco_no {W w : World} {R : Nat} {k : Cx} {p : Int} (_h : EvAt W w R k p) (A : Option Addr) (n c : Nat) (V : List Nd) (hv : Ns w A n c V) (h0 : 0 < V.length) (h6 : headOp V ≠ 6) (h4 : headOp V ≠ 4) :
    Calls Tryz.prog 90 #[.pointer (some ⟨R, 0, none⟩), .slice A n c] w (RecoPost w (recX k.E V)) := by
  have K := Lib.hid (eval_is A n c V 6 w hv h0)
  have K2 := Lib.hid (fun w' hb => eval_is A n c V 4 w' (hv.keep (w' := w') hb) h0)
  have f1 : (headOp V == 6) = false := beq_eq_false_iff_ne.2 h6
  have f2 : (headOp V == 4) = false := beq_eq_false_iff_ne.2 h4
  rw [f1] at K
  rw [f2] at K2
  have HR := Lib.hid (show recX k.E V = .error 2 by unfold recX; rw [if_neg h6, if_neg h4])
  rw [HR.out]
  clear hv h0 h6 h4 f1 f2
  go_enter Tryz.func90, Tryz.ntmps90
  go_wp2_with fail
  refine K.out.mono ?_
  rintro e w1 ⟨rfl, b1⟩
  have B1 := Lib.hid b1
  clear b1 K
  go_wp2_with fail
  refine (K2.out _ B1.out).mono ?_
  rintro e w2 ⟨rfl, b2⟩
  have B2 := bh B1 b2
  clear b2 B1 K2
  go_wp2_with fail
  exact ⟨rfl, B2.out, rfl⟩
set_option maxHeartbeats 2000000 in
theorem reco_ent {W w : World} {R : Nat} {k : Cx} {p : Int} (h : EvAt W w R k p) (A : Option Addr) (n c : Nat) (V : List Nd) (hv : Ns w A n c V) (h0 : 0 < V.length) (h4 : headOp V = 4) :
    Calls Tryz.prog 90 #[.pointer (some ⟨R, 0, none⟩), .slice A n c] w (RecoPost w (recX k.E V)) := by
  have K := Lib.hid (eval_is A n c V 6 w hv h0)
  have K2 := Lib.hid (fun w' hb => eval_is A n c V 4 w' (hv.keep (w' := w') hb) h0)
  have KU := Lib.hid (fun w' hb => eval_uid A n c V w' (hv.keep (w' := w') hb) h0)
  have f1 : (headOp V == 6) = false := by rw [h4]; rfl
  have f2 : (headOp V == 4) = true := beq_iff_eq.2 h4
  rw [f1] at K
  rw [f2] at K2
  have HR := Lib.hid (show recX k.E V = .ok ((k.E.find? fun x => decide (x.u = uidN V)).map En.P) by unfold recX; rw [if_neg (by rw [h4]; decide), if_pos h4])
  rw [HR.out]
  have HE := Lib.hid h.cx.es
  have HVA := Lib.hid (fun x (hx : x ∈ k.E) => valFault_pos (ent_rec (storeF_zero.1 h.ok.ok.e).2.1 hx).1)
  have c0 := h.c0
  have HLN := Lib.hid HE.out.len
  have hmx := HE.out.max
  unfold maxLen at hmx
  unfold udV at KU
  generalize uidN V = u at *
  clear hv h0 h4 f1 f2
  go_enter Tryz.func90, Tryz.ntmps90
  go_wp2_with fail
  refine K.out.mono ?_
  rintro e w1 ⟨rfl, b1⟩
  have B1 := Lib.hid b1
  clear b1 K
  go_wp2_with fail
  refine (K2.out _ B1.out).mono ?_
  rintro e w2 ⟨rfl, b2⟩
  have B2 := bh B1 b2
  replace c0 := cell_keep B2.out c0
  clear b2 B1 K2
  go_wp2_with fail
  go_loopw [21] (fun i wr => ∃ j : Nat, i = .int .i64 j ∧ j ≤ k.en ∧ Hid ((k.E.find? fun x => decide (x.u = u)) = (k.E.drop j).find? fun x => decide (x.u = u)) ∧ Hid (Below w.heap.size w wr)) (fun i _ => k.en - (intOf i).toNat)
  case atStart => exact ⟨0, rfl, Nat.zero_le _, Lib.hid rfl, B2⟩
  case round =>
    obtain ⟨j, rfl, hj, hF, hB⟩ := hrel
    by_cases hlt : j < k.en
    · have hjl : j < k.E.length := by rw [← HLN.out]; exact hlt
      obtain ⟨a, hea, q0, q1, q2, q3, hok⟩ := (HE.out.keep hB.out).at_ j k.E[j] (List.getElem?_eq_getElem hjl)
      rw [hea]
      have hF2 := hF.out.trans (find_drop hjl)
      have HV := Lib.hid (HVA.out k.E[j] (List.getElem_mem hjl))
      generalize k.E[j] = x at *
      have V0 := Lib.hid (vr4_new wr x 76)
      have B3 := bh hB (below_box wr (.cells #[.string x.u.1, .string x.u.2, .slice x.UA x.un x.uc, .slice x.NA x.nn x.nc] 76))
      have HOK := Lib.hid (hok.keep (below_box wr (.cells #[.string x.u.1, .string x.u.2, .slice x.UA x.un x.uc, .slice x.NA x.nn x.nc] 76)))
      have HB3 := B3
      obtain ⟨w3, hw3⟩ : ∃ w3, wr.alloc (.cells #[.string x.u.1, .string x.u.2, .slice x.UA x.un x.uc, .slice x.NA x.nn x.nc] 76) = w3 := ⟨_, rfl⟩
      rw [hw3] at V0 B3 HOK HB3
      have R1 := rq (w := w3) (fun w' hb => KU.out w' (B3.out.trans (hb.mono B3.out.size)))
      obtain ⟨v0, v1, v2, v3⟩ := V0.out
      have k0 := cell_regrown v0
      have k1 := cell_regrown v1
      by_cases he : x.u = u
      · rw [if_pos he] at hF2
        have HN := Lib.hid hF2
        have hb1 : (x.u.1.toList == u.1.toList) = true := by rw [he]; exact beq_self_eq_true _
        have hb2 : (x.u.2.toList == u.2.toList) = true := by rw [he]; exact beq_self_eq_true _
        clear he hF hF2
        go_wp2_with fail
        refine wp_region_quiet_below (by kernel_rfl) (by kernel_rfl) ?_
        repeat (first | go_big_quiet_step (with_reducible exact R1 _ _) | quiet_step (with_reducible exact R1 _ _))
        refine wpQuiet_nil ?_
        intro w4 hw'
        have b4 := Lib.hid (show Below w3.heap.size w3 w4 by obtain ⟨⟨d, os⟩, rfl⟩ := hw'; exact below_regrown _ _ _)
        clear hw'
        have B4 := bh B3 b4.out
        have V4 := Lib.hid (V0.out.keep b4.out)
        have HO4 := Lib.hid (HOK.out.keep b4.out)
        clear k0 k1 v0 v1 v2 v3 V0 HOK
        obtain ⟨v0, v1, v2, v3⟩ := V4.out
        go_wp2_with fail
        go_ret
        rw [HN.out]
        obtain ⟨a4, ha4, -⟩ := ns_hd HO4.out.ns HV.out
        refine ⟨B4.out, a4, x.nn, x.nc, by rw [← ha4]; rfl, by rw [← ha4]; exact HO4.out.ns⟩
      · rw [if_neg he] at hF2
        have HN := Lib.hid hF2
        have hne : (x.u.1.toList == u.1.toList) = false ∨ ((x.u.1.toList == u.1.toList) = true ∧ (x.u.2.toList == u.2.toList) = false) := uid_ne he
        clear he hF hF2
        rcases hne with h1 | ⟨h1, h2⟩
        all_goals
          go_wp2_with fail
          refine wp_region_quiet_below (by kernel_rfl) (by kernel_rfl) ?_
          repeat (first | go_big_quiet_step (with_reducible exact R1 _ _) | quiet_step (with_reducible exact R1 _ _))
          refine wpQuiet_nil ?_
          intro w4 hw'
          have b4 := Lib.hid (show Below w3.heap.size w3 w4 by obtain ⟨⟨d, os⟩, rfl⟩ := hw'; exact below_regrown _ _ _)
          clear hw'
          have B4 := bh B3 b4.out
          clear k0 k1 v0 v1 v2 v3 V0
          go_wp2_with fail
          go_roundw
          case rel => exact ⟨j + 1, by go_num, by omega, HN, B4⟩
          case measure => simp [intOf]; omega
    · have HN := Lib.hid (show (k.E.find? fun x => decide (x.u = u)) = none by
        rw [hF.out, List.drop_of_length_le (by rw [← HLN.out]; omega)]; rfl)
      clear hF
      go_wp2_with fail
      go_ret
      rw [HN.out]
      exact ⟨hB.out, rfl⟩
theorem eval_record {W w : World} {R : Nat} {k : Cx} {p : Int} (h : EvAt W w R k p) (A : Option Addr) (n c : Nat) (V : List Nd) (hv : Ns w A n c V) (h0 : 0 < V.length) :
    Calls Tryz.prog 90 #[.pointer (some ⟨R, 0, none⟩), .slice A n c] w (RecoPost w (recX k.E V)) := by
  by_cases h6 : headOp V = 6
  · exact reco_rec h A n c V hv h0 h6
  by_cases h4 : headOp V = 4
  · exact reco_ent h A n c V hv h0 h4
  · exact reco_no h A n c V hv h0 h6 h4
end Go.Proofs.YtcdpoamiejompaaGreatDoor
namespace Go.Proofs
end Go.Proofs
