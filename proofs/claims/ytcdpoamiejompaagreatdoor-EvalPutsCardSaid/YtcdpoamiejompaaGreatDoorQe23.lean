/-
  Plain: sets of values: both, either, the first one alone. No program in sight.
  A set does not see the order; what is not asked for: plain laws of evaluation. No program in sight.
  A value is an expression, and its value is it. No program in sight.
  In a set of entities: one is in it, just if it is one of them, or below one. Plain. No program in sight.
  What stands for a value is it: an expression with another one at the place of a name. Plain. No program in sight.
  The laws of evaluation, of nodes. No program in sight.
  Slices of entities that come in.
  What slices of slices of nodes, of texts and of numbers that come in are made of, and how many there can be.
-/
import Derived.SizedLaws
import Derived.Test.YtcdpoamiejompaaGreatDoorQe22
namespace Go.Wk

theorem hasB_iff {L : List (List Nd)} {Q : List Nd} : hasB L Q = true ↔ Q ∈ L := by
  unfold hasB
  rw [List.any_eq_true]
  constructor
  · rintro ⟨P, h1, h2⟩
    have e := (cmpNds_cmp.zero P Q).1 (by simpa using h2)
    subst e; exact h1
  · intro h; exact ⟨Q, h, by simp [cmpNds_cmp.self]⟩
section
variable {P Q : List Nd} (h : bothE P Q = 0)
include h
end
end Go.Wk
namespace Go.Proofs.YtcdpoamiejompaaGreatDoor
open Go.RowKit Go.Wk

/-- Behind a first part that ends it, And and Or are that. -/
theorem short_law {o : Bool} {V : List Nd} (h1 : headOp V = 1) (hn : decide ((hdN V).n = 1) = o) (y : Res) : eitherR o (.ok V) y = .ok V := by
  simp [eitherR, h1, hn]
def setX (L : List Ex) : Ex := .node ⟨5, L.length, emp, emp⟩ (match L with
  | [a, b] => .cons a (.cons b .nil)
  | [a, b, c] => .cons a (.cons b (.cons c .nil))
  | _ => .nil)
theorem ev_set2 (σ : Env) (a b : Ex) {V W : List Nd} (ha : evX σ a = .ok V) (hb : evX σ b = .ok W) : evX σ (setX [a, b]) = tellV (setE [V, W]) (setV [V, W]) := by
  unfold setX
  simp only
  rw [evX]
  have e5 : (⟨5, (([a, b] : List Ex).length : Int), emp, emp⟩ : Nd).op = 5 := rfl
  rw [e5, if_neg (by decide), if_neg (by decide), if_neg (by decide), if_neg (by decide), if_neg (by decide)]
  simp only [evS, ha, hb, if_true]
theorem ev_set3 (σ : Env) (a b c : Ex) {U V W : List Nd} (ha : evX σ a = .ok U) (hb : evX σ b = .ok V) (hc : evX σ c = .ok W) : evX σ (setX [a, b, c]) = tellV (setE [U, V, W]) (setV [U, V, W]) := by
  unfold setX
  simp only
  rw [evX]
  have e5 : (⟨5, (([a, b, c] : List Ex).length : Int), emp, emp⟩ : Nd).op = 5 := rfl
  rw [e5, if_neg (by decide), if_neg (by decide), if_neg (by decide), if_neg (by decide), if_neg (by decide)]
  simp only [evS, ha, hb, hc, if_true]
theorem sets_law {V W : List Nd} (hV : valFault V = 0) (hW : valFault W = 0) : setE [V, W] = setE [W, V, W] ∧ setV [V, W] = setV [W, V, W] :=
  setV_congr (fun x => by simp only [List.mem_cons, List.not_mem_nil, or_false]; exact ⟨fun h => by rcases h with h | h <;> simp [h], fun h => by rcases h with h | h | h <;> simp [h]⟩)
    (faults_zero.2 fun P hP => by simp only [List.mem_cons, List.not_mem_nil, or_false] at hP; rcases hP with rfl | rfl <;> assumption)
    (faults_zero.2 fun P hP => by simp only [List.mem_cons, List.not_mem_nil, or_false] at hP; rcases hP with rfl | rfl | rfl <;> assumption)
theorem ev_one (σ : Env) (a b : Ex) {V W : List Nd} (ha : evX σ a = .ok V) (hb : evX σ b = .ok W) : evX σ (ex2 25 a b) = tellB (hasE V W) (hasV V W) := by
  unfold ex2
  rw [evX]
  have e9 : (opN 25).op = 25 := rfl
  rw [e9, if_neg (by decide), if_neg (by decide), if_neg (by decide), if_neg (by decide), if_neg (by decide)]
  simp only [evS, ha, hb]
  rw [if_neg (by decide)]
  simp only [applyX]
  unfold twoX
  rw [e9, if_neg (by decide), if_neg (by decide), if_pos rfl]
theorem sets_has {V W : List Nd} (hV : valFault V = 0) (h : setE [V, W] = 0) : hasE (setV [V, W]) V = 0 ∧ hasV (setV [V, W]) V = true := by
  obtain ⟨h1, h2, h3⟩ := setV_isV h
  have h0 : hasE (setV [V, W]) V = 0 := by
    unfold hasE
    rw [h1, or2_zero, hV, or2_zero, if_pos h2]
  refine ⟨h0, ?_⟩
  unfold hasV
  rw [h0, h3]
  rw [show hasB (setL [V, W]) V = true from hasB_iff.2 (mem_setL.2 (by simp))]
  rfl
end Go.Proofs.YtcdpoamiejompaaGreatDoor
namespace Go.Proofs.YtcdpoamiejompaaGreatDoor
open Go.RowKit Go.Wk

def exsOf : List Ex → Exs
  | [] => .nil
  | x :: r => .cons x (exsOf r)
theorem exsOf_len : ∀ L : List Ex, (exsOf L).len = L.length
  | [] => rfl
  | x :: r => by simp only [exsOf, Exs.len, exsOf_len r, List.length_cons]
theorem exsOf_flat : ∀ L : List Ex, (exsOf L).flat = (L.map Ex.flat).flatten
  | [] => rfl
  | x :: r => by simp only [exsOf, Exs.flat, exsOf_flat r, List.map_cons, List.flatten_cons]
theorem exsOf_valid : ∀ (L : List Ex) (s : ByteArray), (∀ x ∈ L, x.valid false) → (exsOf L).valid false s
  | [], _, _ => trivial
  | x :: r, s, h => ⟨fun e => Bool.noConfusion e, h x (by simp), exsOf_valid r _ fun y hy => h y (by simp [hy])⟩
theorem evS_of (σ : Env) : ∀ (L : List Ex), (∀ x ∈ L, evX σ x = .ok x.flat) → evS σ (exsOf L) = .ok (L.map Ex.flat)
  | [], _ => by simp only [exsOf, evS, List.map_nil]
  | x :: r, h => by simp only [exsOf, evS, h x (by simp), evS_of σ r fun y hy => h y (by simp [hy]), List.map_cons]
/-- The trees of a list of values. -/
theorem trees_of {σ : Env} : ∀ (L : List (List Nd)), (∀ Q ∈ L, ∃ x : Ex, x.valid false ∧ x.flat = Q ∧ evX σ x = .ok Q) → ∃ T : List Ex, (∀ x ∈ T, x.valid false ∧ evX σ x = .ok x.flat) ∧ T.map Ex.flat = L
  | [], _ => ⟨[], fun x hx => (nomatch hx), rfl⟩
  | Q :: r, h => by
    obtain ⟨x, h1, h2, h3⟩ := h Q (by simp)
    obtain ⟨T, h4, h5⟩ := trees_of r fun q hq => h q (by simp [hq])
    refine ⟨x :: T, fun y hy => ?_, by simp [h2, h5]⟩
    rcases List.mem_cons.1 hy with rfl | hy
    · exact ⟨h1, by rw [h2]; exact h3⟩
    · exact h4 y hy
def fieldX (s : ByteArray) (x : Ex) : Ex := .node (fieldN s) (.cons x .nil)
def exsF : List (ByteArray × Ex) → Exs
  | [] => .nil
  | p :: r => .cons (fieldX p.1 p.2) (exsF r)
theorem exsF_len : ∀ L, (exsF L).len = L.length
  | [] => rfl
  | x :: r => by simp only [exsF, Exs.len, exsF_len r, List.length_cons]
theorem exsF_flat : ∀ L : List (ByteArray × Ex), (exsF L).flat = flatR (L.map fun p => (p.1, p.2.flat))
  | [] => rfl
  | x :: r => by simp only [exsF, Exs.flat, fieldX, Ex.flat, exsF_flat r, List.map_cons, flatR, List.append_nil, List.cons_append]
theorem fieldX_valid {s : ByteArray} {x : Ex} (hs : nameFault s = 0) (hx : x.valid false) : (fieldX s x).valid true := by
  refine ⟨?_, rfl, fun e => Bool.noConfusion e, hx, trivial⟩
  unfold headX fieldsN
  rw [if_pos (show (1 : Int) ≤ (fieldN s).op ∧ (fieldN s).op ≤ 7 from ⟨by show (1 : Int) ≤ 7; decide, by show (7 : Int) ≤ 7; decide⟩)]
  unfold shapedN fieldN
  simp [hs, noB]
  rfl
theorem exsF_valid : ∀ (L : List (ByteArray × Ex)) (s : ByteArray), (∀ p ∈ L, nameFault p.1 = 0 ∧ p.2.valid false) → UpB s (L.map fun p => (p.1, p.2.flat)) → (exsF L).valid true s
  | [], _, _, _ => trivial
  | p :: r, s, h, hu => ⟨fun _ => hu.1, fieldX_valid (h p (by simp)).1 (h p (by simp)).2, exsF_valid r _ (fun y hy => h y (by simp [hy])) hu.2⟩
theorem evF_of (σ : Env) : ∀ (L : List (ByteArray × Ex)), (∀ p ∈ L, evX σ p.2 = .ok p.2.flat) → evF σ (exsF L) = .ok (L.map fun p => (p.1, p.2.flat))
  | [], _ => by simp only [exsF, evF, List.map_nil]
  | p :: r, h => by
    have h1 : evFld σ (fieldX p.1 p.2) = .ok p.2.flat := by simp only [fieldX, evFld, evFst, h p (by simp)]
    simp only [exsF, evF, h1, evF_of σ r fun y hy => h y (by simp [hy]), List.map_cons]
    rfl
theorem fields_of {σ : Env} : ∀ (L : List (ByteArray × List Nd)), (∀ p ∈ L, ∃ x : Ex, x.valid false ∧ x.flat = p.2 ∧ evX σ x = .ok p.2) → ∃ T : List (ByteArray × Ex), (∀ p ∈ T, p.2.valid false ∧ evX σ p.2 = .ok p.2.flat) ∧ (T.map fun p => (p.1, p.2.flat)) = L
  | [], _ => ⟨[], fun x hx => (nomatch hx), rfl⟩
  | p :: r, h => by
    obtain ⟨x, h1, h2, h3⟩ := h p (by simp)
    obtain ⟨T, h4, h5⟩ := fields_of r fun q hq => h q (by simp [hq])
    refine ⟨(p.1, x) :: T, fun y hy => ?_, by simp [h2, h5]⟩
    rcases List.mem_cons.1 hy with rfl | hy
    · exact ⟨h1, by rw [h2]; exact h3⟩
    · exact h4 y hy
theorem setX_head (n : Nat) : headX false (setHead n) = true := by
  unfold headX fieldsN
  rw [if_pos (show 1 ≤ (setHead (n : Int)).op ∧ (setHead (n : Int)).op ≤ 7 from (show (1 : Int) ≤ 5 ∧ (5 : Int) ≤ 7 by decide))]
  unfold shapedN setHead
  simp [noB]
  rfl
theorem recX_head (n : Nat) : headX false (recHead n) = true := by
  unfold headX fieldsN
  rw [if_pos (show 1 ≤ (recHead (n : Int)).op ∧ (recHead (n : Int)).op ≤ 7 from (show (1 : Int) ≤ 6 ∧ (6 : Int) ≤ 7 by decide))]
  unfold shapedN recHead
  simp [noB]
  rfl
theorem row_of_upB : ∀ {l : List Fld} {s : ByteArray}, UpB s l → RowR l ∧ ∀ x ∈ l, cmpB s x.1 < 0
  | [], _, _ => ⟨List.Pairwise.nil, fun x hx => (nomatch hx)⟩
  | x :: r, s, h => by
    obtain ⟨h1, h2⟩ := row_of_upB h.2
    refine ⟨List.pairwise_cons.2 ⟨h2, h1⟩, fun y hy => ?_⟩
    rcases List.mem_cons.1 hy with rfl | hy
    · exact h.1
    · exact cmpB_cmp.lt_le h.1 (by have := h2 y hy; omega)
theorem rec_again {P : List Nd} (h : valFault P = 0) (h6 : headOp P = 6) : recE ((recParts P).map Prod.fst) ((recParts P).map Prod.snd) = 0 ∧ recV ((recParts P).map Prod.fst) ((recParts P).map Prod.snd) = P := by
  obtain ⟨hl, hv⟩ := isV_zero.1 h
  obtain ⟨e, -, h3, h4⟩ := isV_rec hv h6
  obtain ⟨hrow, -⟩ := row_of_upB h4
  have hz : ((recParts P).map Prod.fst).zip ((recParts P).map Prod.snd) = recParts P := by
    generalize recParts P = L
    induction L with
    | nil => rfl
    | cons x r ih => simp only [List.map_cons, List.zip_cons_cons, ih]
  have hnd : ((recParts P).map (·.1)).Nodup := by
    unfold List.Nodup
    rw [List.pairwise_map]
    refine hrow.imp fun hab e => ?_
    rw [e, cmpB_cmp.self] at hab
    omega
  have hlen : (flatR (recParts P)).length + 1 ≤ 200 := by
    have := congrArg List.length e
    simp only [List.length_cons] at this
    omega
  have h0 : recE ((recParts P).map Prod.fst) ((recParts P).map Prod.snd) = 0 := by
    refine recE_zero.2 ⟨by simp, ?_, by rw [hz]; exact hlen⟩
    rw [hz]
    refine recChk_zero.2 ⟨fun x hx => ⟨(h3 x hx).2, isV_zero.2 ⟨?_, (h3 x hx).1⟩⟩, hnd, fun x _ hx => (nomatch hx)⟩
    have : x.2.length ≤ (flatR (recParts P)).length := by
      generalize recParts P = L at hx
      induction L with
      | nil => cases hx
      | cons y L ih =>
        simp only [flatR, List.length_cons, List.length_append]
        rcases List.mem_cons.1 hx with rfl | hx
        · omega
        · have := ih hx; omega
    omega
  refine ⟨h0, ?_⟩
  rw [recV_eq h0, hz]
  have hs : sortR (recParts P) = recParts P := row_unique (row_sortR hnd) hrow fun x => (perm_sortR _).mem_iff
  rw [hs, List.length_map]
  exact e.symm
/-- A value is an expression; its value is it. -/
theorem val_tree (σ : Env) {P : List Nd} (h : valFault P = 0) : ∃ x : Ex, x.valid false ∧ x.flat = P ∧ evX σ x = .ok P := by
  obtain ⟨hl, hv⟩ := isV_zero.1 h
  refine valInd (M := fun P => P.length ≤ 200 → ∃ x : Ex, x.valid false ∧ x.flat = P ∧ evX σ x = .ok P) hv ?_ ?_ ?_ hl
  · intro P hP h5 h6 _
    have h1 := isV_leaf hP h5 h6
    match P, h1 with
    | [n], _ =>
      have hf : valFault [n] = 0 := isV_zero.2 ⟨by simp, hP⟩
      have hsn : shapedN n = true ∧ n.op ≠ 7 := by
        unfold IsV at hP
        simp only [partEnd, List.getElem?_cons_zero] at hP
        by_cases hs : shapedN n = true
        · refine ⟨hs, fun h7 => ?_⟩
          rw [if_pos hs, if_neg (by omega), if_neg (by omega), if_pos h7] at hP
          cases hP
        · rw [if_neg hs] at hP; cases hP
      obtain ⟨hs, h7⟩ := hsn
      have hop : 1 ≤ n.op ∧ n.op ≤ 4 := by
        have h5' : n.op ≠ 5 := h5
        have h6' : n.op ≠ 6 := h6
        unfold shapedN at hs
        by_cases h1 : n.op = 1
        · omega
        · rw [if_neg h1] at hs
          by_cases h2 : n.op = 2
          · omega
          · rw [if_neg h2] at hs
            by_cases h3 : n.op = 3
            · omega
            · rw [if_neg h3] at hs
              by_cases h4 : n.op = 4
              · omega
              · rw [if_neg h4, if_neg (by omega), if_neg h7] at hs
                cases hs
      refine ⟨.node n .nil, ⟨?_, ?_, trivial⟩, rfl, ?_⟩
      · unfold headX
        rw [fields_low (by omega), hs, decide_eq_false h7]
        rfl
      · unfold partsN
        rw [if_neg (by omega), if_pos (by omega)]
        rfl
      · unfold evX
        rw [if_pos hop]
  · intro P hP h5 ih hl
    have hf : valFault P = 0 := isV_zero.2 ⟨hl, hP⟩
    obtain ⟨e, -, h3, -⟩ := isV_set hP h5
    have hle : ∀ Q ∈ setParts P, Q.length ≤ 200 := fun Q hQ => by
      have h1 := part_le hQ
      have h2 := congrArg List.length e
      simp only [List.length_cons] at h2
      omega
    obtain ⟨T, hT, hTL⟩ := trees_of (σ := σ) (setParts P) fun Q hQ => ih Q hQ (hle Q hQ)
    have hlen : T.length = (setParts P).length := by rw [← hTL, List.length_map]
    refine ⟨.node (setHead (setParts P).length) (exsOf T), ⟨setX_head _, ?_, exsOf_valid _ _ fun x hx => (hT x hx).1⟩, ?_, ?_⟩
    · rw [exsOf_len, hlen]; rfl
    · rw [Ex.flat, exsOf_flat, hTL]; exact e.symm
    · obtain ⟨-, -, s1, s2⟩ := setV_parts hf h5
      have hS := evS_of σ T fun x hx => (hT x hx).2
      rw [hTL] at hS
      have e5 : (setHead ((setParts P).length : Int)).op = 5 := rfl
      unfold evX
      rw [e5, if_neg (show ¬ ((1 : Int) ≤ 5 ∧ (5 : Int) ≤ 4) by decide), if_neg (show ¬ (5 : Int) = 8 by decide), if_neg (show ¬ ((5 : Int) = 11 ∨ (5 : Int) = 12) by decide), if_neg (show ¬ (5 : Int) = 13 by decide), if_neg (show ¬ (5 : Int) = 6 by decide), hS]
      simp only [if_true]
      unfold tellV
      rw [if_pos s1, s2]
  · intro P hP h6 ih hl
    have hf : valFault P = 0 := isV_zero.2 ⟨hl, hP⟩
    obtain ⟨e, -, h3, h4⟩ := isV_rec hP h6
    have hle : ∀ x ∈ recParts P, x.2.length ≤ 200 := fun x hx => by
      have h2 := congrArg List.length e
      simp only [List.length_cons] at h2
      have : x.2.length ≤ (flatR (recParts P)).length := by
        generalize recParts P = L at hx
        induction L with
        | nil => cases hx
        | cons y L ih =>
          simp only [flatR, List.length_cons, List.length_append]
          rcases List.mem_cons.1 hx with rfl | hx
          · omega
          · have := ih hx; omega
      omega
    obtain ⟨T, hT, hTL⟩ := fields_of (σ := σ) (recParts P) fun p hp => ih p hp (hle p hp)
    have hlen : T.length = (recParts P).length := by rw [← hTL, List.length_map]
    have hnm : ∀ p ∈ T, nameFault p.1 = 0 := fun p hp => by
      have : (p.1, p.2.flat) ∈ recParts P := by rw [← hTL]; exact List.mem_map.2 ⟨p, hp, rfl⟩
      exact (h3 _ this).2
    refine ⟨.node (recHead (recParts P).length) (exsF T), ⟨recX_head _, ?_, ?_⟩, ?_, ?_⟩
    · rw [exsF_len, hlen]; rfl
    · exact exsF_valid _ _ (fun p hp => ⟨hnm p hp, (hT p hp).1⟩) (by rw [hTL]; exact h4)
    · rw [Ex.flat, exsF_flat, hTL]; exact e.symm
    · obtain ⟨s1, s2⟩ := rec_again hf h6
      have hS := evF_of σ T fun x hx => (hT x hx).2
      rw [hTL] at hS
      have e6 : (recHead ((recParts P).length : Int)).op = 6 := rfl
      unfold evX
      rw [e6, if_neg (show ¬ ((1 : Int) ≤ 6 ∧ (6 : Int) ≤ 4) by decide), if_neg (show ¬ (6 : Int) = 8 by decide), if_neg (show ¬ ((6 : Int) = 11 ∨ (6 : Int) = 12) by decide), if_neg (show ¬ (6 : Int) = 13 by decide), if_pos (show (6 : Int) = 6 from rfl), hS]
      simp only
      unfold tellV
      rw [if_pos s1, s2]
end Go.Proofs.YtcdpoamiejompaaGreatDoor
namespace Go.Proofs.YtcdpoamiejompaaGreatDoor
open Go.RowKit Go.Wk

theorem insP_len (p : List Nd) : ∀ l : List (List Nd), (insP p l).length ≤ l.length + 1
  | [] => by simp [insP]
  | q :: r => by
    have := insP_len p r
    simp only [insP]
    split
    · simp
    · split
      · simp
      · simp only [List.length_cons]; omega
theorem setL_len : ∀ l : List (List Nd), (setL l).length ≤ l.length
  | [] => by simp [setL]
  | p :: r => by
    have h1 := setL_len r
    have h2 := insP_len p (setL r)
    simp only [setL, List.length_cons]
    omega
theorem flatten_ones : ∀ l : List (List Nd), (∀ x ∈ l, x.length = 1) → l.flatten.length = l.length
  | [], _ => rfl
  | x :: r, h => by
    have h1 := h x (by simp)
    have h2 := flatten_ones r fun y hy => h y (by simp [hy])
    simp only [List.flatten_cons, List.length_append, List.length_cons]
    omega
theorem ents_set {T : List Ud} (h : ∀ t ∈ T, uidFault t = 0) (hl : T.length ≤ 199) : setE (T.map entN) = 0 := by
  refine setE_zero.2 ⟨faults_zero.2 fun P hP => ?_, ?_⟩
  · obtain ⟨t, ht, rfl⟩ := List.mem_map.1 hP
    exact ent_val (h t ht)
  · rw [flatten_ones _ fun x hx => by
      obtain ⟨t, -, rfl⟩ := List.mem_map.1 (mem_setL.1 hx)
      rfl]
    have := setL_len (T.map entN)
    rw [List.length_map] at this
    omega
/-- An entity as an expression. -/
def entX (u : Ud) : Ex := .node ⟨4, 0, u.1, u.2⟩ .nil
theorem entX_flat (u : Ud) : (entX u).flat = entN u := by simp [entX, Ex.flat, Exs.flat, entN]
theorem ev_entX (σ : Env) (u : Ud) : evX σ (entX u) = .ok (entX u).flat := by
  rw [entX_flat]
  unfold entX
  rw [evX, if_pos (show (1 : Int) ≤ 4 ∧ (4 : Int) ≤ 4 by decide)]
  rfl
/-- A set of entities, as an expression. -/
def entsX (T : List Ud) : Ex := .node ⟨5, T.length, emp, emp⟩ (exsOf (T.map entX))
theorem entsX_flat (T : List Ud) : (entsX T).flat = ⟨5, T.length, emp, emp⟩ :: (T.map entN).flatten := by
  unfold entsX
  rw [Ex.flat, exsOf_flat, List.map_map, show Ex.flat ∘ entX = entN from funext entX_flat]
theorem ev_entsX (σ : Env) {T : List Ud} (h : ∀ t ∈ T, uidFault t = 0) (hl : T.length ≤ 199) : evX σ (entsX T) = .ok (setV (T.map entN)) := by
  unfold entsX
  rw [evX]
  have e5 : (⟨5, (T.length : Int), emp, emp⟩ : Nd).op = 5 := rfl
  rw [e5, if_neg (by decide), if_neg (by decide), if_neg (by decide), if_neg (by decide), if_neg (by decide)]
  rw [evS_of σ (T.map entX) fun x hx => by
    obtain ⟨t, -, rfl⟩ := List.mem_map.1 hx
    exact ev_entX σ t]
  rw [List.map_map, show Ex.flat ∘ entX = entN from funext entX_flat]
  simp only [if_true]
  unfold tellV
  rw [if_pos (ents_set h hl)]
/-- One is in a set of entities, just if it is one of them, or below one. -/
theorem below_set (σ : Env) {u : Ud} {T : List Ud} (h : ∀ t ∈ T, uidFault t = 0) (hl : T.length ≤ 199) :
    evX σ (ex2 20 (entX u) (entsX T)) = .ok (truthN (T.any fun t => inB σ.E u t)) := by
  unfold ex2
  rw [evX]
  have e9 : (opN 20).op = 20 := rfl
  rw [e9, if_neg (by decide), if_neg (by decide), if_neg (by decide), if_neg (by decide), if_neg (by decide)]
  have h1 : evX σ (entX u) = .ok (entN u) := by rw [ev_entX, entX_flat]
  simp only [evS, h1, ev_entsX σ h hl]
  rw [if_neg (by decide)]
  simp only [applyX]
  unfold twoX
  rw [e9, if_neg (by decide), if_pos rfl]
  obtain ⟨-, s2, s3⟩ := setV_isV (ents_set h hl)
  unfold inX topsX
  rw [if_pos s2, s3]
  have ha : headOp (entN u) = 4 ∧ ((setL (T.map entN)).all fun t => decide (headOp t = 4)) = true := by
    refine ⟨rfl, List.all_eq_true.2 fun x hx => ?_⟩
    obtain ⟨t, -, rfl⟩ := List.mem_map.1 (mem_setL.1 hx)
    rfl
  rw [if_pos ha]
  have hb : ((setL (T.map entN)).any fun t => inB σ.E (uidN (entN u)) (uidN t)) = T.any fun t => inB σ.E u t := by
    rw [Bool.eq_iff_iff, List.any_eq_true, List.any_eq_true]
    constructor
    · rintro ⟨x, hx, hi⟩
      obtain ⟨t, ht, rfl⟩ := List.mem_map.1 (mem_setL.1 hx)
      exact ⟨t, ht, hi⟩
    · rintro ⟨t, ht, hi⟩
      exact ⟨entN t, mem_setL.2 (List.mem_map.2 ⟨t, ht, rfl⟩), hi⟩
  rw [hb]
theorem entX_valid {u : Ud} (h : uidFault u = 0) : (entX u).valid false := by
  obtain ⟨x, hx, hf, -⟩ := val_tree ⟨[], u, u, u, []⟩ (ent_val h)
  obtain ⟨n, ps⟩ := x
  rw [Ex.flat, entN] at hf
  injection hf with h1 h2
  subst h1
  have : ps = .nil := by
    cases ps with
    | nil => rfl
    | cons a r =>
      have := flatX_pos a
      have hh := congrArg List.length h2
      simp only [Exs.flat, List.length_append, List.length_nil] at hh
      omega
  subst this
  exact hx
end Go.Proofs.YtcdpoamiejompaaGreatDoor
namespace Go.Proofs.YtcdpoamiejompaaGreatDoor
open Go.RowKit Go.Wk

/-- .. of its nodes. -/
def putN (s : ByteArray) (V : List Nd) (P : List Nd) : List Nd := P.flatMap fun n => if n.op = 8 ∧ n.s = s then V else [n]
end Go.Proofs.YtcdpoamiejompaaGreatDoor
namespace Go.Proofs.YtcdpoamiejompaaGreatDoor
open Go.RowKit Go.Wk

noncomputable def up0 (σ : Env) : Int := or2 (storeF σ.E) (askF σ.who σ.act σ.what σ.ctx)
theorem upF_up0 (σ : Env) (P : List Nd) : upF σ P = or2 (up0 σ) (exFault P) := by
  unfold upF up0 or2
  by_cases h : storeF σ.E = 0
  · simp [h]
  · simp [h]
theorem or2_no (x : Int) : or2 x 0 = x := by
  unfold or2
  split
  · rename_i h; exact h.symm
  · rfl
theorem valueX_ex {σ : Env} {x : Ex} (hx : x.valid false) (hl : x.flat.length ≤ 200) : valueX σ x.flat = if up0 σ = 0 then evX σ x else .error (up0 σ) := by
  have h0 : exFault x.flat = 0 := exFault_zero.2 ⟨hl, x, hx, rfl⟩
  have hu : upF σ x.flat = up0 σ := by rw [upF_up0, h0, or2_no]
  by_cases g : up0 σ = 0
  · rw [if_pos g, valueX_at (by rw [hu]; exact g) hx rfl]
  · rw [if_neg g]; unfold valueX; rw [hu, if_neg g]
theorem up0_ok {σ : Env} (h : up0 σ = 0) : EnvOk σ := by
  unfold up0 at h
  obtain ⟨h1, h2⟩ := or2_zero_iff.1 h
  exact env_ok h1 h2
theorem valueX_congr {σ : Env} {x y : Ex} (hx : x.valid false) (hy : y.valid false) (hl : x.flat.length ≤ 200) (hm : y.flat.length ≤ 200) (h : EnvOk σ → evX σ x = evX σ y) : valueX σ x.flat = valueX σ y.flat := by
  rw [valueX_ex hx hl, valueX_ex hy hm]
  by_cases g : up0 σ = 0
  · rw [if_pos g, if_pos g, h (up0_ok g)]
  · rw [if_neg g, if_neg g]
theorem valueX_ok {σ : Env} {P V : List Nd} (h : valueX σ P = .ok V) : EnvOk σ ∧ up0 σ = 0 ∧ P.length ≤ 200 ∧ valFault V = 0 ∧ ∃ x : Ex, x.valid false ∧ P = x.flat ∧ evX σ x = .ok V := by
  by_cases g : upF σ P = 0
  · obtain ⟨ho, hl, x, hx, e⟩ := upF_zero g
    have hv := h
    rw [valueX_at g hx e] at h
    refine ⟨ho, ?_, hl, evX_ok ho x false hx V h, x, hx, e, h⟩
    rw [upF_up0] at g
    exact (or2_zero_iff.1 g).1
  · unfold valueX at h
    rw [if_neg g] at h
    cases h
theorem ex_of {P : List Nd} (h : exFault P = 0) : P.length ≤ 200 ∧ ∃ x : Ex, x.valid false ∧ P = x.flat := exFault_zero.1 h
theorem ex1_valid {o : Int} {a : Ex} (h1 : headX false (opN o) = true) (h2 : partsN (opN o) = 1) (h3 : isRec (opN o) = false) (ha : a.valid false) : (ex1 o a).valid false := by
  refine ⟨h1, by rw [h2]; rfl, ?_⟩
  rw [h3]
  exact ⟨fun e => Bool.noConfusion e, ha, trivial⟩
theorem ex2_valid {o : Int} {a b : Ex} (h1 : headX false (opN o) = true) (h2 : partsN (opN o) = 2) (h3 : isRec (opN o) = false) (ha : a.valid false) (hb : b.valid false) : (ex2 o a b).valid false := by
  refine ⟨h1, by rw [h2]; rfl, ?_⟩
  rw [h3]
  exact ⟨fun e => Bool.noConfusion e, ha, fun e => Bool.noConfusion e, hb, trivial⟩
theorem ex3_valid {o : Int} {a b c : Ex} (h1 : headX false (opN o) = true) (h2 : partsN (opN o) = 3) (h3 : isRec (opN o) = false) (ha : a.valid false) (hb : b.valid false) (hc : c.valid false) : (ex3 o a b c).valid false := by
  refine ⟨h1, by rw [h2]; rfl, ?_⟩
  rw [h3]
  exact ⟨fun e => Bool.noConfusion e, ha, fun e => Bool.noConfusion e, hb, fun e => Bool.noConfusion e, hc, trivial⟩
theorem ex1_flat (o : Int) (a : Ex) : (ex1 o a).flat = opN o :: a.flat := by simp [ex1, Ex.flat, Exs.flat]
theorem ex2_flat (o : Int) (a b : Ex) : (ex2 o a b).flat = opN o :: (a.flat ++ b.flat) := by simp [ex2, Ex.flat, Exs.flat]
theorem ex3_flat (o : Int) (a b c : Ex) : (ex3 o a b c).flat = opN o :: (a.flat ++ (b.flat ++ c.flat)) := by simp [ex3, Ex.flat, Exs.flat]
theorem not_valid {a : Ex} (ha : a.valid false) : (ex1 9 a).valid false := ex1_valid (by decide) (by decide) (by decide) ha
theorem either_valid {o : Bool} {a b : Ex} (ha : a.valid false) (hb : b.valid false) : (ex2 (if o then 12 else 11) a b).valid false :=
  ex2_valid (by cases o <;> decide) (by cases o <;> decide) (by cases o <;> decide) ha hb
theorem eq_valid {a b : Ex} (ha : a.valid false) (hb : b.valid false) : (ex2 14 a b).valid false := ex2_valid (by decide) (by decide) (by decide) ha hb
/-- De Morgan. -/
theorem morgan_value (σ : Env) (o : Bool) {A B : List Nd} (ha : exFault A = 0) (hb : exFault B = 0) (hl : A.length + B.length + 3 ≤ 200) :
    valueX σ (opN 9 :: opN (if o then 12 else 11) :: (A ++ B)) = valueX σ (opN (if !o then 12 else 11) :: (opN 9 :: A ++ opN 9 :: B)) := by
  obtain ⟨-, a, va, rfl⟩ := ex_of ha
  obtain ⟨-, b, vb, rfl⟩ := ex_of hb
  have e1 : opN 9 :: opN (if o then 12 else 11) :: (a.flat ++ b.flat) = (ex1 9 (ex2 (if o then 12 else 11) a b)).flat := by rw [ex1_flat, ex2_flat]
  have e2 : opN (if !o then 12 else 11) :: (opN 9 :: a.flat ++ opN 9 :: b.flat) = (ex2 (if !o then 12 else 11) (ex1 9 a) (ex1 9 b)).flat := by rw [ex2_flat, ex1_flat, ex1_flat]
  have l1 := congrArg List.length e1
  have l2 := congrArg List.length e2
  simp only [List.length_cons, List.length_append] at l1 l2
  rw [e1, e2]
  refine valueX_congr (not_valid (either_valid va vb)) (either_valid (not_valid va) (not_valid vb)) (by omega) (by omega) fun ho => ?_
  rw [ev_not, ev_either, ev_either, ev_not, ev_not]
  exact morgan_law o (fun V h => evX_ok ho a false va V h) fun V h => evX_ok ho b false vb V h
theorem notnot_value (σ : Env) {A B : List Nd} (ha : exFault A = 0) (hb : exFault B = 0) (hl : A.length + B.length + 3 ≤ 200) :
    valueX σ (opN 9 :: opN 9 :: opN 14 :: (A ++ B)) = valueX σ (opN 14 :: (A ++ B)) := by
  obtain ⟨-, a, va, rfl⟩ := ex_of ha
  obtain ⟨-, b, vb, rfl⟩ := ex_of hb
  have e1 : opN 9 :: opN 9 :: opN 14 :: (a.flat ++ b.flat) = (ex1 9 (ex1 9 (ex2 14 a b))).flat := by rw [ex1_flat, ex1_flat, ex2_flat]
  have e2 : opN 14 :: (a.flat ++ b.flat) = (ex2 14 a b).flat := by rw [ex2_flat]
  have l1 := congrArg List.length e1
  have l2 := congrArg List.length e2
  simp only [List.length_cons, List.length_append] at l1 l2
  rw [e1, e2]
  refine valueX_congr (not_valid (not_valid (eq_valid va vb))) (eq_valid va vb) (by omega) (by omega) fun ho => ?_
  rw [ev_not, ev_not, ev_eq]
  rcases evX σ a with e | V
  · rfl
  · simp only
    rcases evX σ b with e | W
    · rfl
    · exact notnot_law _
/-- If has the value of the one that it chooses. -/
theorem if_value {σ : Env} {A B C V : List Nd} (ha : valueX σ A = .ok V) (h1 : headOp V = 1) (hb : exFault B = 0) (hc : exFault C = 0) (hl : A.length + B.length + C.length + 1 ≤ 200) :
    valueX σ (opN 13 :: (A ++ (B ++ C))) = valueX σ (if (hdN V).n = 1 then B else C) := by
  obtain ⟨ho, hu, -, -, a, va, rfl, hV⟩ := valueX_ok ha
  obtain ⟨hlb, b, vb, rfl⟩ := ex_of hb
  obtain ⟨hlc, c, vc, rfl⟩ := ex_of hc
  have l1 := congrArg List.length (ex3_flat 13 a b c)
  simp only [List.length_cons, List.length_append] at l1
  rw [← ex3_flat, valueX_ex (ex3_valid (by decide) (by decide) (by decide) va vb vc) (by omega), if_pos hu, ev_if, hV]
  simp only
  rw [if_pos h1]
  by_cases g : (hdN V).n = 1
  · rw [if_pos g, if_pos g, valueX_ex vb hlb, if_pos hu]
  · rw [if_neg g, if_neg g, valueX_ex vc hlc, if_pos hu]
/-- Behind a first part that ends it, And and Or are that. -/
theorem short_value {σ : Env} {o : Bool} {A B V : List Nd} (ha : valueX σ A = .ok V) (h1 : headOp V = 1) (hn : decide ((hdN V).n = 1) = o) (hb : exFault B = 0) (hl : A.length + B.length + 1 ≤ 200) :
    valueX σ (opN (if o then 12 else 11) :: (A ++ B)) = .ok V := by
  obtain ⟨ho, hu, -, -, a, va, rfl, hV⟩ := valueX_ok ha
  obtain ⟨hlb, b, vb, rfl⟩ := ex_of hb
  have l1 := congrArg List.length (ex2_flat (if o then 12 else 11) a b)
  simp only [List.length_cons, List.length_append] at l1
  rw [← ex2_flat, valueX_ex (either_valid va vb) (by omega), if_pos hu, ev_either, hV, short_law h1 hn]
/-- A value is its value. -/
theorem constant_value {σ : Env} {W : List Nd} (hu : up0 σ = 0) (hW : valFault W = 0) : valueX σ W = .ok W := by
  obtain ⟨x, hx, e, hv⟩ := val_tree σ hW
  have hl : x.flat.length ≤ 200 := by rw [e]; exact (isV_zero.1 hW).1
  have := valueX_ex (σ := σ) hx hl
  rw [e, if_pos hu, hv] at this
  exact this
theorem set_valid {L : List Ex} (hl : L.length = 2 ∨ L.length = 3) (h : ∀ x ∈ L, x.valid false) : (setX L).valid false := by
  match L, hl, h with
  | [a, b], _, h => exact ⟨setX_head 2, rfl, fun e => Bool.noConfusion e, h a (by simp), fun e => Bool.noConfusion e, h b (by simp), trivial⟩
  | [a, b, c], _, h => exact ⟨setX_head 3, rfl, fun e => Bool.noConfusion e, h a (by simp), fun e => Bool.noConfusion e, h b (by simp), fun e => Bool.noConfusion e, h c (by simp), trivial⟩
  | [], hl, _ => simp at hl
  | [_], hl, _ => simp at hl
  | _ :: _ :: _ :: _ :: _, hl, _ => simp at hl
/-- A set does not see the order. -/
theorem sets_value {σ : Env} {A B V W : List Nd} (ha : valueX σ A = .ok V) (hb : valueX σ B = .ok W) (hl : 2 * (A.length + B.length) + 1 ≤ 200) :
    valueX σ (⟨5, 2, emp, emp⟩ :: (A ++ B)) = valueX σ (⟨5, 3, emp, emp⟩ :: (B ++ (A ++ B))) ∧
    (valE (valueX σ (⟨5, 2, emp, emp⟩ :: (A ++ B))) = 0 → valueX σ (opN 25 :: (⟨5, 2, emp, emp⟩ :: (A ++ B)) ++ A) = .ok (truthN true)) := by
  obtain ⟨ho, hu, -, fV, a, va, rfl, hV⟩ := valueX_ok ha
  obtain ⟨-, -, -, fW, b, vb, rfl, hW⟩ := valueX_ok hb
  have pa := flatX_pos a
  have pb := flatX_pos b
  have v2 : (setX [a, b]).valid false := set_valid (.inl rfl) (by intro x hx; simp only [List.mem_cons, List.not_mem_nil, or_false] at hx; rcases hx with rfl | rfl <;> assumption)
  have v3 : (setX [b, a, b]).valid false := set_valid (.inr rfl) (by intro x hx; simp only [List.mem_cons, List.not_mem_nil, or_false] at hx; rcases hx with rfl | rfl | rfl <;> assumption)
  have e2 : (setX [a, b]).flat = ⟨5, 2, emp, emp⟩ :: (a.flat ++ b.flat) := by simp [setX, Ex.flat, Exs.flat]
  have e3 : (setX [b, a, b]).flat = ⟨5, 3, emp, emp⟩ :: (b.flat ++ (a.flat ++ b.flat)) := by simp [setX, Ex.flat, Exs.flat]
  have l2 := congrArg List.length e2
  have l3 := congrArg List.length e3
  simp only [List.length_cons, List.length_append] at l2 l3
  obtain ⟨s1, s2⟩ := sets_law fV fW
  have w2 : valueX σ (setX [a, b]).flat = tellV (setE [V, W]) (setV [V, W]) := by rw [valueX_ex v2 (by omega), if_pos hu, ev_set2 σ a b hV hW]
  have w3 : valueX σ (setX [b, a, b]).flat = tellV (setE [W, V, W]) (setV [W, V, W]) := by rw [valueX_ex v3 (by omega), if_pos hu, ev_set3 σ b a b hW hV hW]
  rw [← e2, ← e3, w2, w3, s1, s2]
  refine ⟨rfl, fun h => ?_⟩
  rw [← s1, ← s2] at h
  have h0 : setE [V, W] = 0 := by
    unfold tellV at h
    split at h
    · assumption
    · exact h
  have ev2 : evX σ (setX [a, b]) = .ok (setV [V, W]) := by rw [ev_set2 σ a b hV hW]; unfold tellV; rw [if_pos h0]
  have v4 : (ex2 25 (setX [a, b]) a).valid false := ex2_valid (by decide) (by decide) (by decide) v2 va
  have e4 : (ex2 25 (setX [a, b]) a).flat = opN 25 :: (setX [a, b]).flat ++ a.flat := by rw [ex2_flat]; rfl
  have l4 := congrArg List.length e4
  simp only [List.length_cons, List.length_append] at l4
  rw [← e4, valueX_ex v4 (by omega), if_pos hu, ev_one σ _ a ev2 hV]
  obtain ⟨h5, h6⟩ := sets_has fV h0
  rw [h5, h6]
  rfl
theorem ents_valid {T : List Ud} (h : ∀ t ∈ T, uidFault t = 0) : (entsX T).valid false := by
  unfold entsX
  refine ⟨?_, ?_, exsOf_valid _ _ fun x hx => ?_⟩
  · exact setX_head T.length
  · rw [exsOf_len, List.length_map]; rfl
  · obtain ⟨t, ht, rfl⟩ := List.mem_map.1 hx
    exact entX_valid (h t ht)
/-- In a set of entities. -/
theorem below_value {σ : Env} {u : Ud} {T : List Ud} (hs : up0 σ = 0) (hu : uidFault u = 0) (h : ∀ t ∈ T, uidFault t = 0) (hl : T.length ≤ 20) :
    valueX σ (opN 20 :: (entN u ++ (⟨5, T.length, emp, emp⟩ :: (T.map entN).flatten))) = .ok (truthN (T.any fun t => inB σ.E u t)) := by
  have v : (ex2 20 (entX u) (entsX T)).valid false := ex2_valid (by decide) (by decide) (by decide) (entX_valid hu) (ents_valid h)
  have e : (ex2 20 (entX u) (entsX T)).flat = opN 20 :: (entN u ++ (⟨5, T.length, emp, emp⟩ :: (T.map entN).flatten)) := by rw [ex2_flat, entX_flat, entsX_flat]
  have l := congrArg List.length e
  have lf := flatten_ones (T.map entN) (fun x hx => by obtain ⟨t, -, rfl⟩ := List.mem_map.1 hx; rfl)
  have le : (entN u).length = 1 := rfl
  rw [List.length_map] at lf
  simp only [List.length_cons, List.length_append] at l
  rw [← e, valueX_ex v (by omega), if_pos hs, below_set σ h (by omega)]
end Go.Proofs.YtcdpoamiejompaaGreatDoor
namespace Go.Proofs.YtcdpoamiejompaaGreatDoor
open Go.Wk Go.ChangeShapes Go.WideShapes Go.RowKit
set_option maxRecDepth 100000

theorem cells_ent : Tryz.prog.cellsOf 76 = 4 := by kernel_rfl
theorem cells_ups : Tryz.prog.cellsOf 38 = 1 := by kernel_rfl
theorem cells_nodes1 : Tryz.prog.cellsOf 25 = 1 := by kernel_rfl
theorem rd_uds {w : World} {cs : List Value} (h : Rd Tryz.prog w 38 cs) : ∃ (A : Option Addr) (n c : Nat) (P : List Ud), cs = [.slice A n c] ∧ Us w A n c P := by
  obtain ⟨A, n, c, rfl, h1, h2, h3⟩ := rd_slice Tryz.underlying38 h
  rw [cells_uid] at h3
  obtain ⟨P, hl, hr⟩ := list_of n (fun k (x : Ud) => (∃ a, A = some a ∧ w.cell? (a.add (k * 2)) = some (.string x.1) ∧ w.cell? (a.add (k * 2 + 1)) = some (.string x.2)) ∧ x.1.size ≤ maxLen ∧ x.2.size ≤ maxLen) (fun i hi => by
    obtain ⟨a, rfl, cs', hl, hc, hr⟩ := h3 i hi
    obtain ⟨s, t, rfl, q1, q2⟩ := rd_uid hr
    exact ⟨(s, t), ⟨a, rfl, hc 0 (by omega), hc 1 (by omega)⟩, q1, q2⟩)
  refine ⟨A, n, c, P, rfl, hl.symm, h1, by omega, fun k x hx => ?_, fun x hx => ?_⟩
  · obtain ⟨⟨a, e, q1, q2⟩, -⟩ := hr k x hx
    refine ⟨a, e, q1, ?_⟩
    rw [← add_add] at q2
    unfold Addr.add at q2 ⊢
    simpa using q2
  · obtain ⟨k, hk, rfl⟩ := List.getElem_of_mem hx
    exact (hr k _ (List.getElem?_eq_getElem hk)).2
theorem rd_ent {w : World} {cs : List Value} (h : Rd Tryz.prog w 76 cs) : ∃ x : En, cs = [.string x.u.1, .string x.u.2, .slice x.UA x.un x.uc, .slice x.NA x.nn x.nc] ∧ EnOk w x := by
  have hl := (rd_struct Tryz.underlying76 h).1
  rw [cells_ent] at hl
  match cs, hl with
  | [c0, c1, c2, c3], _ =>
    have h0 : Rd Tryz.prog w 24 [c0, c1] := rd_field Tryz.underlying76 h 0 24 0 2 rfl cells_uid
    have h2 : Rd Tryz.prog w 38 [c2] := rd_field Tryz.underlying76 h 1 38 2 1 rfl cells_ups
    have h3 : Rd Tryz.prog w 25 [c3] := rd_field Tryz.underlying76 h 2 25 3 1 rfl cells_nodes1
    obtain ⟨s, t, e0, s1, s2⟩ := rd_uid h0
    obtain ⟨UA, un, uc, ups, e2, hu⟩ := rd_uds h2
    obtain ⟨NA, nn, nc, P, e3, n1, n2, n3, n4, n5⟩ := rd_nodes h3
    simp only [List.cons.injEq, and_true] at e0 e2 e3
    exact ⟨⟨(s, t), UA, un, uc, ups, NA, nn, nc, P⟩, by rw [e0.1, e0.2, e2, e3], s1, s2, hu, n1, n2, n3, n4, n5⟩
theorem open_ents {H : Type} {enc : TypeId × Value → H} {w : World} {b b0 : Nat} {sp : Nat → Bool} {hd : Bool} {v : Value} {d : DataW H} {ps : List MemPlace} {r : Reach}
    (hv : Value.okWide Tryz.prog w r b0 22 v) (h : DataW.Trod enc Tryz.prog w b sp hd 22 v d ps) :
    ∃ (A : Option Addr) (n c : Nat) (E : List En), v = .slice A n c ∧ Es w A n c E := by
  obtain ⟨A', n', c', rfl⟩ := okWide_slice Tryz.underlying22 hv
  obtain ⟨A, n, c, e, h1, h2, h3⟩ := rd_slice Tryz.underlying22 (rd_of_trod h)
  rw [cells_ent] at h3
  have e' : (Value.slice A' n' c') = .slice A n c := by simpa [Value.cells] using e
  obtain ⟨E, hl, hr⟩ := list_of n (fun k (x : En) => (∃ a, A = some a ∧ w.cell? (a.add (k * 4)) = some (.string x.u.1) ∧ w.cell? (a.add (k * 4 + 1)) = some (.string x.u.2) ∧ w.cell? (a.add (k * 4 + 2)) = some (.slice x.UA x.un x.uc) ∧ w.cell? (a.add (k * 4 + 3)) = some (.slice x.NA x.nn x.nc)) ∧ EnOk w x) (fun i hi => by
    obtain ⟨a, rfl, cs', hl, hc, hr⟩ := h3 i hi
    obtain ⟨x, rfl, hx⟩ := rd_ent hr
    exact ⟨x, ⟨a, rfl, hc 0 (by omega), hc 1 (by omega), hc 2 (by omega), hc 3 (by omega)⟩, hx⟩)
  refine ⟨A, n, c, E, e', hl.symm, h1, by omega, fun k x hx => ?_⟩
  obtain ⟨⟨a, e, q1, q2, q3, q4⟩, hx⟩ := hr k x hx
  refine ⟨a, e, q1, ?_, ?_, ?_, hx⟩
  all_goals
    rw [← add_add] at q2 q3 q4
    unfold Addr.add at q2 q3 q4 ⊢
    first | (simpa using q2) | (simpa using q3) | (simpa using q4)
end Go.Proofs.YtcdpoamiejompaaGreatDoor
namespace Go.Wk
open Go.ChangeShapes Go.WideShapes Go.RowKit Go.Deep
section
variable {P : Program} {w : World} {t e : TypeId}
end
end Go.Wk
namespace Go.Proofs.YtcdpoamiejompaaGreatDoor
open Go.Wk Go.ChangeShapes Go.WideShapes Go.RowKit
set_option maxRecDepth 100000

/-- A slice of numbers. -/
def IsAt (w : World) (A : Option Addr) (I : List Int) : Prop := ∀ (k : Nat) (x : Int), I[k]? = some x → ∃ a, A = some a ∧ w.cell? (a.add k) = some (.int .i64 x)
theorem IsAt.keep {w w' : World} {A : Option Addr} {I : List Int} (h : IsAt w A I) (hb : Below w.heap.size w w') : IsAt w' A I :=
  fun k x hk => let ⟨a, h1, h2⟩ := h k x hk; ⟨a, h1, cell_keep hb h2⟩
/-- A slice of texts. -/
def TxAt (w : World) (A : Option Addr) (N : List ByteArray) : Prop := ∀ (k : Nat) (x : ByteArray), N[k]? = some x → ∃ a, A = some a ∧ w.cell? (a.add k) = some (.string x)
theorem TxAt.keep {w w' : World} {A : Option Addr} {N : List ByteArray} (h : TxAt w A N) (hb : Below w.heap.size w w') : TxAt w' A N :=
  fun k x hk => let ⟨a, h1, h2⟩ := h k x hk; ⟨a, h1, cell_keep hb h2⟩
end Go.Proofs.YtcdpoamiejompaaGreatDoor
