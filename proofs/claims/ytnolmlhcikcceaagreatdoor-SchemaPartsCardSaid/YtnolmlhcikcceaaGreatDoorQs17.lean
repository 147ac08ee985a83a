/-
  val.split at a record: the values and their names, each in a row of its own.
  val.Parts and val.Get.
  Slices of uids, and of entities, as they lie.
  ent.one: what is wrong with an entity.
  Maps by uids, made by the call: what they hold, by the list of what was put.
  ent.stored: the store by uid.
  Slices of entities that come in.
  What slices of slices of nodes, of texts and of numbers that come in are made of, and how many there can be.
-/
import Derived.Lib.SlicesS
import Derived.DeepKeys4
import Derived.Maps.Own
import Derived.Maps.OwnOps
import Derived.Maps.OwnSet
import Derived.Maps.Views
import Derived.SizedLaws
import Derived.Test.YtnolmlhcikcceaaGreatDoorQs16
namespace Go.Wk
theorem recLoop_inv {v : List Nd} {f : Nat → Option Nat} {N k : Nat} {q n : Nat} (hk : k < N) (h : ∃ lo, recLoop v f (N - k) lo q = some n) :
    ∃ (hq : q < v.length) (e : Nat), f (q + 1) = some e ∧ (∃ lo, recLoop v f (N - (k + 1)) lo e = some n) ∧ splitR v f (N - k) q = (v[q].s, seg v (q + 1) e) :: splitR v f (N - (k + 1)) e := by
  obtain ⟨lo, h⟩ := h
  obtain ⟨j, hj⟩ : ∃ j, N - k = j + 1 := ⟨N - k - 1, by omega⟩
  rw [hj] at h
  rw [hj, show N - (k + 1) = j by omega]
  simp only [recLoop] at h
  by_cases hq : q < v.length
  · refine ⟨hq, ?_⟩
    split at h
    · cases h
    · rename_i s hs
      rcases hf : f (q + 1) with _ | e
      · rw [hf] at h; cases h
      · rw [hf] at h
        exact ⟨e, rfl, ⟨_, h⟩, by simp only [splitR, hf]; unfold nmAt; rw [List.getElem?_eq_getElem hq]⟩
  · rw [fieldOk_out (by omega)] at h; cases h
end Go.Wk
namespace Go.Proofs.YtnolmlhcikcceaaGreatDoor
open Go.RowKit Go.Wk Go.Sort
set_option maxRecDepth 100000

/-- Two rows of the call's own: slices of nodes, and texts. -/
structure TwoRows (w : World) (B : Nat) (v v' : Value) (V : List Sl) (N : List ByteArray) : Prop where
  a : OwnSls w B v V
  b : w.ownsRow B 9 1 v' N.length (N.map Value.string)
  ab : v.ownBlock = none ∨ v.ownBlock ≠ v'.ownBlock
  ap : ∀ r ∈ V, Apart r v'.ownBlock
theorem TwoRows.keep {w w' : World} {B : Nat} {v v' : Value} {V : List Sl} {N : List ByteArray} (h : TwoRows w B v v' V N) (hb : Below w.heap.size w w') : TwoRows w' B v v' V N :=
  ⟨h.a.keep hb, own_kept_below h.b hb, h.ab, h.ap⟩
theorem TwoRows.other {w w' : World} {B R : Nat} {v v' : Value} {V : List Sl} {N : List ByteArray} (h : TwoRows w B v v' V N) (hg : w.grownBy w' (some R)) (hR : R < B) (hL : Later R V) : TwoRows w' B v v' V N :=
  ⟨h.a.row hg (own_ne h.a.own hR) hL.apart, h.b.kept hg (own_ne h.b hR), h.ab, h.ap⟩
theorem strInfo : (Tryz.prog.info? 9).map (fun i => (i.zero, i.size, i.bytes)) = some (some (.string ⟨#[]⟩), 1, 16) := by kernel_rfl
/-- A name more. -/
theorem TwoRows.name {w w' : World} {B : Nat} {v v' v1 : Value} {V : List Sl} {N : List ByteArray} {s : ByteArray} {o : Obj} (h : TwoRows w B v v' V N)
    (hown : w'.ownsRow B 9 1 v1 (N.length + 1) (N.map Value.string ++ [.string s])) (hg : (w.alloc o).grownBy w' v'.ownBlock) (hat : v1.ownBlock = v'.ownBlock ∨ v1.ownBlock = some (w.alloc o).heap.size) : TwoRows w' B v v1 V (N ++ [s]) := by
  have hba : Below w.heap.size w (w.alloc o) := below_box w o
  refine ⟨(h.a.keep hba).row hg h.ab h.ap, by simpa using hown, ?_, fun r hr h0 a e => ?_⟩
  · rcases hv : v.ownBlock with _ | g
    · exact .inl rfl
    · have hlt := own_lt h.a.own g hv
      refine .inr ?_
      rcases hat with q | q
      · rw [q, ← hv]
        rcases h.ab with z | z
        · rw [hv] at z; cases z
        · exact z
      · rw [q]; intro z; injection z with z; simp at z; omega
  · rcases hat with q | q
    · rw [q]; exact h.ap r hr h0 a e
    · rw [q]
      have := (h.a.each r hr).at_.lt h0 a e
      intro z; injection z with z; simp at z; omega
/-- A slice more. -/
theorem TwoRows.part {w w' : World} {B : Nat} {v v' v1 : Value} {V : List Sl} {N : List ByteArray} {r : Sl} {o : Obj} (h : TwoRows w B v v' V N) (hr : Ns w r.A r.n r.c r.P) (ha : Apart r v.ownBlock) (ha' : Apart r v'.ownBlock)
    (hown : w'.ownsRow B 27 1 v1 (V.length + 1) (V.map Sl.v ++ [r.v])) (hg : (w.alloc o).grownBy w' v.ownBlock) (hat : v1.ownBlock = v.ownBlock ∨ v1.ownBlock = some (w.alloc o).heap.size) : TwoRows w' B v1 v' (V ++ [r]) N := by
  have hba : Below w.heap.size w (w.alloc o) := below_box w o
  refine ⟨h.a.snoc hr ha hown hg hat, (own_kept_below h.b hba).kept hg ?_, ?_, ?_⟩
  · rcases h.ab with z | z
    · rw [z]; cases v'.ownBlock <;> simp
    · exact .inr (fun q => z q.symm)
  · rcases hv : v1.ownBlock with _ | g
    · exact .inl rfl
    · refine .inr ?_
      rcases hat with q | q
      · rcases h.ab with z | z
        · rw [hv, z] at q; cases q
        · rw [← hv, q]; exact z
      · intro z
        have := own_lt h.b g z.symm
        rw [hv] at q
        injection q with q
        simp at q
        omega
  · intro x hx
    rcases List.mem_append.1 hx with h1 | h1
    · exact h.ap x h1
    · simp only [List.mem_cons, List.not_mem_nil, or_false] at h1
      subst h1; exact ha'

set_option maxHeartbeats 8000000 in
theorem split_rec (A : Option Addr) (n c : Nat) (P : List Nd) (w : World) (h : Ns w A n c P) (hv : valFault P = 0) (h6 : headOp P = 6) :
    Calls Tryz.prog 148 #[.slice A n c] w (SplitPost w ((recParts P).map (·.2)) ((recParts P).map (·.1))) := by
  obtain ⟨i0, hi, hz0, hz1, hz2⟩ := info_parts slInfo
  obtain ⟨j0, hj, jz0, jz1, jz2⟩ := info_parts strInfo
  obtain ⟨h200, hV⟩ := isV_zero.1 hv
  have hpos := hV.pos
  obtain ⟨a, rfl, D⟩ := h.at_.nd hpos
  have hn := h.len
  obtain ⟨hs0, _, hop, hx0, hN⟩ := rec_loop hV h6
  have hE : recParts P = splitR P (partEnd P (P.length + 1)) P[0].n.toNat 1 := by unfold recParts; rw [hN]
  rw [hN] at hs0
  obtain ⟨-, -, -, hhi⟩ := h.ok.at hpos
  have K := Lib.hid (fun q w' (hb : Below w.heap.size w w') rd hq => val_part (some a) P n c w.heap.size hn h.cap h.max h.ok (fun h0 a' e => by have := h.at_.lt h0 a' e; omega) (P.length + 1) q w' rd (h.at_.keep hb) (by omega : n - q < P.length + 1))
  have HN := Lib.hid h
  have HL := Lib.hid hn
  have H0 := Lib.hid hs0
  have HE := Lib.hid hE
  rw [show a.add (0 * 4) = a from rfl] at D
  obtain ⟨d0, d1, d2, d3⟩ := D
  have r0 : RdAt (w.alloc (.cells #[.slice (some a) n c, .int .i64 1] 181)) w.heap.size (.slice (some a) n c) 1 := ⟨by simp, by simp, by simp⟩
  rw [hop] at d0
  have d1' := fun o : Obj => cell_keep (below_box w o) d1
  generalize P[0] = x at *
  have hn200 : n ≤ 200 := by omega
  have hn1 : 0 < n := by omega
  clear h hv h6 hV hn hs0 hE hN h200 hop
  go_enter Tryz.func148, Tryz.ntmps148
  go_wp2_with fail
  clear d1'
  go_loopw [2, 3, 12] (fun v v' i wr => ∃ (k q : Nat) (V : List Sl) (X : List (ByteArray × List Nd)), i = .int .i64 k ∧ (k : Int) ≤ x.n ∧ q ≤ n ∧ k + 1 ≤ q ∧ V.length = k ∧ X.length = k ∧ Hid (V.map Sl.P = X.map (·.2)) ∧ Hid (recParts P = X ++ splitR P (partEnd P (P.length + 1)) (x.n.toNat - k) q) ∧
      Hid (∃ lo, recLoop P (partEnd P (P.length + 1)) (x.n.toNat - k) lo q = some P.length) ∧ Hid (TwoRows wr (w.heap.size + 1) v v' V (X.map (·.1))) ∧ Hid (Later w.heap.size V) ∧ Hid (RdAt wr w.heap.size (.slice (some a) n c) q) ∧ Hid (Below w.heap.size w wr)) (fun _ _ i _ => (x.n - intOf i).toNat)
  case atStart => exact ⟨0, 1, [], [], rfl, hx0, hn1, by omega, rfl, rfl, rfl, HE.out, ⟨_, H0.out⟩, ⟨OwnSls.nil _ _, World.ownsRow_nil _ _ _ 1, .inl rfl, (by intro r hr; cases hr)⟩, (by intro r hr; cases hr), r0, below_box _ _⟩
  case round =>
    obtain ⟨k, q, V, X, rfl, hk, hq, hkq, hVl, hXl, hVX, hE, hS, hT, hLt, hrd, hB⟩ := hrel
    have e0 := cell_keep hB.out d0
    by_cases hlt : (k : Int) < x.n
    · obtain ⟨hq', e, hf, hS', hsp⟩ := recLoop_inv (by omega) hS.out
      have hle := partEnd_le _ _ _ hf
      rw [← HL.out] at hle
      have hqn : q < n := by omega
      obtain ⟨a', ha', ⟨-, -, q2, -⟩⟩ := (HN.out.at_.keep hB.out).nd hq'
      injection ha' with ha'
      subst ha'
      have HE2 := Lib.hid (hE.out.trans (by rw [hsp] : _ = X ++ ((P[q].s, seg P (q + 1) e) :: splitR P (partEnd P (P.length + 1)) (x.n.toNat - (k + 1)) e)))
      have HS2 := Lib.hid hS'
      have HF := Lib.hid hf
      have hsg : (seg P (q + 1) e).length = e - (q + 1) := seg_length (by rw [← HL.out]; omega)
      have HSG := Lib.hid hsg
      generalize P[q].s = nm at *
      obtain ⟨c0, c1, f1⟩ := hrd.out
      have hsz1 := hB.out.size
      have hRl := hrd.out.lt
      clear hE hS hS' hsp hf hsg
      go_wp2_with (at_builtin; refine wpList_append_own_at _ rfl _ _ 42 rfl (w.heap.size + 1) 9 j0 _ 1 16 Tryz.underlying42 hj jz0 jz1 jz2 rfl (by decide) _ (X.map (·.1)).length ((X.map (·.1)).map Value.string) rfl (hT.out.b.alloc _) ⟨_, 0, none⟩ 1 1 [.string nm] rfl rfl (cell_one_new _ _ _) (by intro u hu; simp only [List.mem_cons, List.not_mem_nil, or_false] at hu; subst hu; rfl) ?c1 ?c2 ?c3 ?_)
      case c1 => simp; unfold maxLen; omega
      case c2 => simp; omega
      case c3 => simp; omega
      intro v1 w1 hown hgrow _ hat
      have T1 := Lib.hid (hT.out.name (s := nm) (by simpa [hXl] using hown) hgrow (by simpa using hat))
      have B1 := Lib.hid ((hB.out.alloc hB.out.size _).grown hgrow (by simp; omega) (fun g hg => by have := own_base hT.out.b g hg; omega))
      have R1 := Lib.hid ((hrd.out.keep (below_box wr _)).row hgrow (own_ne' hT.out.b (by omega)))
      have R2 := Lib.hid (R1.out.put (q + 1))
      have T2 := Lib.hid (T1.out.other (R := w.heap.size) (grown_setCell w1 ⟨w.heap.size, 1, none⟩ (.int .i64 (q + 1 : Nat))) (by omega) hLt.out)
      have B2 := Lib.hid (B1.out.setCell (p := ⟨w.heap.size, 1, none⟩) (Nat.le_refl _) (.int .i64 (q + 1 : Nat)))
      have hRl1 := R1.out.lt
      obtain ⟨c0', c1', f1'⟩ := R1.out
      have C := Lib.hid (K.out (q + 1) _ B2.out R2.out (by rw [← HL.out]; omega))
      rw [HF.out] at C
      clear hown hgrow hat hT hB hrd c0 c1 f1 q2 T1 B1 R1
      go_wp2_with fail
      refine C.out.mono ?_
      rintro e' w3 hpost
      obtain ⟨rfl, r3, g3⟩ := hpost
      have B3 := Lib.hid (B2.out.trans (below_of_grown g3 (Nat.le_refl _) B2.out.size))
      have T3 := Lib.hid (T2.out.other g3 (by omega) hLt.out)
      have CL := Lib.hid (clone_nodes (a.add ((q + 1) * 4)) (e - (q + 1)) (c - (q + 1)) (seg P (q + 1) e) w3 (ns_seg (HN.out.keep B3.out) (by omega) hle.2) (by rw [HSG.out]; omega))
      have R3 := Lib.hid r3
      have hsz2 := B3.out.size
      have hsz3 : w.heap.size < w3.heap.size := R3.out.lt
      clear r3 g3 T2 B2 R2 c0' c1' f1'
      go_wp2_with fail
      refine CL.out.mono ?_
      rintro e' w4 hpost
      obtain ⟨A3, c3, rfl, n3, l3, b4⟩ := hpost
      have B4 := bh B3 b4
      have T4 := Lib.hid (T3.out.keep b4)
      have R4 := Lib.hid (R3.out.keep b4)
      have N4 := Lib.hid (show Ns w4 (⟨A3, (seg P (q + 1) e).length, c3, seg P (q + 1) e⟩ : Sl).A _ _ _ from n3)
      have L4 := Lib.hid (hLt.out.snoc (r := ⟨A3, (seg P (q + 1) e).length, c3, seg P (q + 1) e⟩) (fun a' h' => by have := l3 a' h'; omega))
      have A4 : Hid (Apart ⟨A3, (seg P (q + 1) e).length, c3, seg P (q + 1) e⟩ u2.ownBlock) := by
        intro h0 a' e' q'
        have h1 := own_lt T3.out.a.own a'.block q'
        have h2 := l3 a' e'
        omega
      have A5 : Hid (Apart ⟨A3, (seg P (q + 1) e).length, c3, seg P (q + 1) e⟩ v1.ownBlock) := by
        intro h0 a' e' q'
        have h1 := own_lt T3.out.b a'.block q'
        have h2 := l3 a' e'
        omega
      have hsz4 := B4.out.size
      have hsz5 := b4.size
      clear b4 n3 l3 T3 R3 B3 hLt
      go_wp2_with (at_builtin; refine wpList_append_own_at _ rfl _ _ 138 rfl (w.heap.size + 1) 27 i0 _ 1 24 Tryz.underlying138 hi hz0 hz1 hz2 rfl (by decide) _ V.length (V.map Sl.v) rfl (T4.out.a.own.alloc _) ⟨_, 0, none⟩ 1 1 [.slice A3 (seg P (q + 1) e).length c3] rfl rfl (cell_one_new _ _ _) (by intro u hu; simp only [List.mem_cons, List.not_mem_nil, or_false] at hu; subst hu; rfl) ?d1 ?d2 ?d3 ?_)
      case d1 => unfold maxLen; omega
      case d2 => omega
      case d3 => simp; omega
      intro v2 w5 hown hgrow _ hat
      have B5 := Lib.hid ((B4.out.alloc B4.out.size _).grown hgrow (by simp; omega) (fun g hg => by have := own_base T4.out.a.own g hg; omega))
      have R5 := Lib.hid ((R4.out.keep (below_box w4 _)).row hgrow (own_ne' T4.out.a.own (by omega)))
      have T5 := Lib.hid (T4.out.part (r := ⟨A3, (seg P (q + 1) e).length, c3, seg P (q + 1) e⟩) N4.out A4.out A5.out (by rw [hVl]; exact hown) hgrow (by simpa using hat))
      have HE5 := Lib.hid (HE2.out.trans (show _ = (X ++ [(nm, seg P (q + 1) e)]) ++ splitR P (partEnd P (P.length + 1)) (x.n.toNat - (k + 1)) e by simp))
      have hl5 : (V ++ [(⟨A3, (seg P (q + 1) e).length, c3, seg P (q + 1) e⟩ : Sl)]).length = k + 1 := by simp [hVl]
      have hl6 : (X ++ [(nm, seg P (q + 1) e)]).length = k + 1 := by simp [hXl]
      have HV5 := Lib.hid (show (V ++ [(⟨A3, (seg P (q + 1) e).length, c3, seg P (q + 1) e⟩ : Sl)]).map Sl.P = (X ++ [(nm, seg P (q + 1) e)]).map (·.2) by
        rw [List.map_append, List.map_append, hVX.out]; rfl)
      have T6 := Lib.hid (show TwoRows w5 (w.heap.size + 1) v2 v1 (V ++ [(⟨A3, (seg P (q + 1) e).length, c3, seg P (q + 1) e⟩ : Sl)]) ((X ++ [(nm, seg P (q + 1) e)]).map (·.1)) by
        rw [List.map_append]; exact T5.out)
      clear hown hgrow hat R4 N4 A4 A5 HE2 B4 T5
      go_wp2_with fail
      go_roundw
      case rel => exact ⟨k + 1, e, _, _, by go_num, by omega, by omega, by omega, hl5, hl6, HV5, HE5, HS2, T6, L4, R5, B5⟩
      case measure => simp [intOf]; omega
    · have HG := Lib.hid (hE.out.trans (show _ = X by rw [show x.n.toNat - k = 0 by omega]; simp [splitR]))
      clear hE hS hrd
      go_wp2_with fail
      go_ret2
      exact ⟨_, _, V, rfl, hT.out.a.mono (by omega), by rw [HG.out]; exact hVX.out, by rw [HG.out]; exact own_mono hT.out.b (by omega), hLt.out, hB.out⟩
end Go.Proofs.YtnolmlhcikcceaaGreatDoor
namespace Go.Wk
/-- The error of Parts. -/
def prtE (P : List Nd) : Int := if valFault P = 0 then (if headOp P = 5 ∨ headOp P = 6 then 0 else 2) else valFault P
def prtL (P : List Nd) : List (List Nd) := if prtE P = 0 then (if headOp P = 5 then setParts P else (recParts P).map (·.2)) else []
/-- What a record has by a name. -/
def getR (P : List Nd) (s : ByteArray) : Option (List Nd) := ((recParts P).find? fun x => decide (cmpB x.1 s = 0)).map (·.2)
def getE (P : List Nd) (s : ByteArray) : Int := if valFault P = 0 then (if headOp P = 6 then (if (getR P s).isSome then 0 else 3) else 2) else valFault P
def getV (P : List Nd) (s : ByteArray) : List Nd := if getE P s = 0 then (getR P s).getD [] else []
theorem headOp_at {P : List Nd} (h : 0 < P.length) : headOp P = P[0].op := by
  rcases P with _ | ⟨x, r⟩
  · simp at h
  · rfl
theorem find_at {α : Type} {l : List α} {p : α → Bool} {k : Nat} (h : k < l.length) (hp : p l[k] = true) (hn : ∀ j, (hj : j < k) → p (l[j]'(by omega)) = false) : l.find? p = some l[k] := by
  rw [List.find?_eq_some_iff_getElem]
  exact ⟨hp, k, h, rfl, fun j hj => by rw [hn j hj]; rfl⟩
theorem idx_ways (N : List ByteArray) (s : ByteArray) : (∃ (k : Nat) (h : k < N.length), Lib.idxOfS N s = k ∧ N[k] = s ∧ ∀ j, (hj : j < k) → (N[j]'(by omega)) ≠ s) ∨ (Lib.idxOfS N s = -1 ∧ ∀ j, (hj : j < N.length) → N[j] ≠ s) := by
  unfold Lib.idxOfS
  have key : ∀ (N : List ByteArray) (i : Nat), (∃ (k : Nat) (h : k < N.length), Lib.idxFromS N s i = ((i + k : Nat) : Int) ∧ N[k] = s ∧ ∀ j, (hj : j < k) → (N[j]'(by omega)) ≠ s) ∨ (Lib.idxFromS N s i = -1 ∧ ∀ j, (hj : j < N.length) → N[j] ≠ s) := by
    intro N
    induction N with
    | nil => intro i; exact .inr ⟨rfl, fun j hj => by simp at hj⟩
    | cons x N ih =>
      intro i
      by_cases hx : x = s
      · exact .inl ⟨0, by simp, by simp [Lib.idxFromS, hx], hx, fun j hj => by omega⟩
      · rcases ih (i + 1) with ⟨k, hk, h1, h2, h3⟩ | ⟨h1, h2⟩
        · refine .inl ⟨k + 1, by simp; omega, ?_, h2, fun j hj => ?_⟩
          · simp only [Lib.idxFromS, hx]
            rw [if_neg (by simp), h1]; congr 1; omega
          · rcases j with _ | j
            · exact hx
            · exact h3 j (by omega)
        · refine .inr ⟨?_, fun j hj => ?_⟩
          · simp only [Lib.idxFromS, hx]
            rw [if_neg (by simp)]; exact h1
          · rcases j with _ | j
            · exact hx
            · exact h2 j (by simpa using hj)
  have := key N 0
  simpa using this
end Go.Wk
namespace Go.Proofs.YtnolmlhcikcceaaGreatDoor
open Go.RowKit Go.Wk Go.Sort
set_option maxRecDepth 100000

theorem val_Check_ns {A : Option Addr} {n c : Nat} {P : List Nd} {w : World} (h : Ns w A n c P) : Calls Tryz.prog 56 #[.slice A n c] w fun e w' => e = .returned (errV (valFault P)) ∧ Below w.heap.size w w' :=
  val_Check A n c P w h.len h.cap h.max h.at_ h.ok

/-- What Parts tells. -/
def PartsPost (w : World) (P : List Nd) (e : Ending) (w' : World) : Prop :=
  ∃ (v : Value) (V : List Sl), e = .returned (.tuple #[v, errV (prtE P)]) ∧ OwnSls w' w.heap.size v V ∧ V.map Sl.P = prtL P ∧ (∀ r ∈ V, ∀ a, r.A = some a → w.heap.size ≤ a.block) ∧ Below w.heap.size w w'

set_option maxHeartbeats 2000000 in
theorem val_Parts (A : Option Addr) (n c : Nat) (P : List Nd) (w : World) (h : Ns w A n c P) :
    Calls Tryz.prog 113 #[.slice A n c] w (PartsPost w P) := by
  have K := Lib.hid (val_Check_ns h)
  have H := Lib.hid h
  by_cases h0 : valFault P = 0
  · have hV := (isV_zero.1 h0).2
    have hpos := hV.pos
    obtain ⟨a, rfl, D⟩ := h.at_.nd hpos
    rw [show a.add (0 * 4) = a from rfl] at D
    have hn1 : 0 < n := by rw [h.len]; exact hpos
    have d0 := D.c0
    rw [← headOp_at hpos] at d0
    rw [h0, errV_zero] at K
    by_cases h5 : headOp P = 5
    · have S := Lib.hid (fun w' hb => split_set (some a) n c P w' (h.keep hb) h0 h5)
      have hE : prtE P = 0 := by unfold prtE; rw [if_pos h0, if_pos (.inl h5)]
      have HL := Lib.hid (show prtL P = setParts P by unfold prtL; rw [if_pos hE, if_pos h5])
      have HE := Lib.hid hE
      rw [h5] at d0
      clear h h0 hV D h5 hE
      go_enter Tryz.func113, Tryz.ntmps113
      go_wp2_with fail
      refine (K.out).mono ?_
      rintro e w1 ⟨rfl, b1⟩
      replace d0 := cell_keep b1 d0
      have B1 := Lib.hid b1
      clear b1
      go_wp2_with fail
      refine (S.out _ B1.out).mono ?_
      rintro e w2 ⟨v, v', V, rfl, hO, hVL, -, hF, b2⟩
      have HF := Lib.hid (fun r hr a h => Nat.le_trans B1.out.size (Nat.le_of_lt (hF r hr a h)))
      have HO := Lib.hid (hO.mono B1.out.size)
      have HV := Lib.hid (hVL.trans HL.out.symm)
      have B2 := bh B1 b2
      clear hO hVL hF b2
      go_wp2_with fail
      go_ret2
      exact ⟨v, V, by rw [HE.out]; rfl, HO.out, HV.out, HF.out, B2.out⟩
    · by_cases h6 : headOp P = 6
      · have S := Lib.hid (fun w' hb => split_rec (some a) n c P w' (h.keep hb) h0 h6)
        have hE : prtE P = 0 := by unfold prtE; rw [if_pos h0, if_pos (.inr h6)]
        have HL := Lib.hid (show prtL P = (recParts P).map (·.2) by unfold prtL; rw [if_pos hE, if_neg h5])
        have HE := Lib.hid hE
        rw [h6] at d0
        clear h h0 hV D h5 h6 hE
        go_enter Tryz.func113, Tryz.ntmps113
        go_wp2_with fail
        refine (K.out).mono ?_
        rintro e w1 ⟨rfl, b1⟩
        replace d0 := cell_keep b1 d0
        have B1 := Lib.hid b1
        clear b1
        go_wp2_with fail
        refine (S.out _ B1.out).mono ?_
        rintro e w2 ⟨v, v', V, rfl, hO, hVL, -, hF, b2⟩
        have HF := Lib.hid (fun r hr a h => Nat.le_trans B1.out.size (Nat.le_of_lt (hF r hr a h)))
        have HO := Lib.hid (hO.mono B1.out.size)
        have HV := Lib.hid (hVL.trans HL.out.symm)
        have B2 := bh B1 b2
        clear hO hVL hF b2
        go_wp2_with fail
        go_ret2
        exact ⟨v, V, by rw [HE.out]; rfl, HO.out, HV.out, HF.out, B2.out⟩
      · have hE : prtE P = 2 := by unfold prtE; rw [if_pos h0, if_neg (by omega)]
        have HL := Lib.hid (show prtL P = [] by unfold prtL; rw [if_neg (by omega)])
        have HE := Lib.hid hE
        have g5 : (headOp P != 5) = true := by rw [bne_iff_ne]; exact h5
        have g6 : (headOp P != 6) = true := by rw [bne_iff_ne]; exact h6
        clear h h0 hV D h5 h6 hE
        go_enter Tryz.func113, Tryz.ntmps113
        go_wp2_with fail
        refine (K.out).mono ?_
        rintro e w1 ⟨rfl, b1⟩
        replace d0 := cell_keep b1 d0
        have B1 := Lib.hid b1
        clear b1
        go_wp2_with fail
        go_ret2
        exact ⟨_, [], by rw [HE.out]; rfl, OwnSls.nil _ _, HL.out.symm, (by intro r hr; cases hr), B1.out⟩
  · have hE : prtE P = valFault P := by unfold prtE; rw [if_neg h0]
    have HL := Lib.hid (show prtL P = [] by unfold prtL; rw [if_neg (by rw [hE]; exact h0)])
    have HE := Lib.hid hE
    rw [errV_ne h0] at K
    have HX := Lib.hid (errV_ne h0)
    clear h h0 hE
    go_enter Tryz.func113, Tryz.ntmps113
    go_wp2_with fail
    refine (K.out).mono ?_
    rintro e w1 ⟨rfl, b1⟩
    go_wp2_with fail
    go_ret2
    exact ⟨_, [], by rw [HE.out, HX.out]; rfl, OwnSls.nil _ _, HL.out.symm, (by intro r hr; cases hr), b1⟩

theorem strs_index {w : World} {B : Nat} {v : Value} {N : List ByteArray} (s : ByteArray) (h : w.ownsRow B 9 1 v N.length (N.map Value.string)) (hN : N.length ≤ 100000) :
    Calls Tryz.prog 62 #[v, .string s] w fun e w' => e = .returned (.int .i64 (Lib.idxOfS N s)) ∧ w' = w := by
  rcases h.2 with ⟨rfl, h0⟩ | ⟨g, cap, cur, rfl, -, -, hc, -⟩
  · have : N = [] := List.eq_nil_of_length_eq_zero h0
    subst this
    exact Tryz.slices_Index_string_empty none 0 s w
  · have := Tryz.slices_Index_string g 0 N.length cap N s w (Nat.le_refl _) (by omega) (fun j hj => by
      have e := h.cells (g := g) rfl j (.string N[j]) (by rw [List.getElem?_map, List.getElem?_eq_getElem hj]; rfl)
      rw [addr_add] at e
      rw [e]
      simp [hj])
    rw [List.take_length] at this
    exact this

def GetPost (w : World) (P : List Nd) (s : ByteArray) (e : Ending) (w' : World) : Prop :=
  ∃ (A : Option Addr) (n c : Nat), e = .returned (.tuple #[.slice A n c, errV (getE P s)]) ∧ Ns w' A n c (getV P s) ∧ (∀ a, A = some a → w.heap.size ≤ a.block ∨ True) ∧ Below w.heap.size w w'
theorem recParts_len {P : List Nd} (h : valFault P = 0) (h6 : headOp P = 6) : (recParts P).length ≤ 200 := by
  obtain ⟨h1, h2⟩ := isV_zero.1 h
  obtain ⟨e, -, h3, -⟩ := isV_rec h2 h6
  have : (recParts P).length ≤ (flatR (recParts P)).length := by
    generalize recParts P = l
    induction l with
    | nil => simp
    | cons x l ih => simp only [flatR, List.length_cons, List.length_append]; omega
  have hl := congrArg List.length e
  simp only [List.length_cons] at hl
  omega

end Go.Proofs.YtnolmlhcikcceaaGreatDoor
namespace Go.Proofs.YtnolmlhcikcceaaGreatDoor
open Go.RowKit Go.Wk
set_option maxRecDepth 100000

/-- A slice that holds uids. -/
def UdsAt (w : World) (A : Option Addr) (P : List Ud) : Prop :=
  ∀ (k : Nat) (x : Ud), P[k]? = some x → ∃ a, A = some a ∧ w.cell? (a.add (k * 2)) = some (.string x.1) ∧ w.cell? ⟨(a.add (k * 2)).block, (a.add (k * 2)).off + 1, none⟩ = some (.string x.2)
theorem UdsAt.keep {w w' : World} {A : Option Addr} {P : List Ud} (h : UdsAt w A P) (hb : Below w.heap.size w w') : UdsAt w' A P :=
  fun k x hx => let ⟨a, h1, h2, h3⟩ := h k x hx; ⟨a, h1, cell_keep hb h2, cell_keep hb h3⟩
theorem UdsAt.but {w w' : World} {A : Option Addr} {P : List Ud} {g : Option Nat} (h : UdsAt w A P) (hg : w.grownBy w' g) (hR : ∀ a, A = some a → g ≠ some a.block) : UdsAt w' A P := by
  intro k x hx
  obtain ⟨a, h1, h2, h3⟩ := h k x hx
  have hn : some a.block ≠ g := fun e => hR a h1 e.symm
  have hb := add_block a (k * 2)
  exact ⟨a, h1, hg.cell h2 (by rw [hb]; exact hn), hg.cell h3 (by rw [hb]; exact hn)⟩
/-- A slice of uids, with its length and its capacity. -/
structure Us (w : World) (A : Option Addr) (n c : Nat) (P : List Ud) : Prop where
  len : n = P.length
  cap : n ≤ c
  max : n ≤ maxLen
  at_ : UdsAt w A P
  ok : ∀ x ∈ P, x.1.size ≤ maxLen ∧ x.2.size ≤ maxLen
theorem Us.keep {w w' : World} {A : Option Addr} {n c : Nat} {P : List Ud} (h : Us w A n c P) (hb : Below w.heap.size w w') : Us w' A n c P := ⟨h.len, h.cap, h.max, h.at_.keep hb, h.ok⟩
theorem Us.but {w w' : World} {A : Option Addr} {n c : Nat} {P : List Ud} {g : Option Nat} (h : Us w A n c P) (hg : w.grownBy w' g) (hR : ∀ a, A = some a → g ≠ some a.block) : Us w' A n c P := ⟨h.len, h.cap, h.max, h.at_.but hg hR, h.ok⟩
theorem Us.take {w : World} {A : Option Addr} {n c k : Nat} {P : List Ud} (h : Us w A n c P) (hk : k ≤ n) : Us w A k c (P.take k) :=
  { len := by rw [List.length_take, ← h.len]; omega
    cap := Nat.le_trans hk h.cap
    max := Nat.le_trans hk h.max
    at_ := fun j x hx => by
      rw [List.getElem?_take] at hx
      split at hx
      · exact h.at_ j x hx
      · cases hx
    ok := fun x hx => h.ok x (List.mem_of_mem_take hx) }
/-- An entity, and where its parts lie. -/
structure En where
  u : Ud
  UA : Option Addr
  un : Nat
  uc : Nat
  ups : List Ud
  NA : Option Addr
  nn : Nat
  nc : Nat
  P : List Nd
def En.v (e : En) : Value := .agg #[.string e.u.1, .string e.u.2, .slice e.UA e.un e.uc, .slice e.NA e.nn e.nc]
/-- An entity's parts are there. -/
structure EnOk (w : World) (e : En) : Prop where
  t : e.u.1.size ≤ maxLen
  i : e.u.2.size ≤ maxLen
  us : Us w e.UA e.un e.uc e.ups
  ns : Ns w e.NA e.nn e.nc e.P
theorem EnOk.keep {w w' : World} {e : En} (h : EnOk w e) (hb : Below w.heap.size w w') : EnOk w' e := ⟨h.t, h.i, h.us.keep hb, h.ns.keep hb⟩
/-- What is wrong with an entity. -/
def entF (e : En) : Int := if 6 < e.ups.length then 4 else if upsFault [] e.ups = 0 then (if valFault e.P = 0 then (if headOp e.P = 6 then 0 else 2) else valFault e.P) else upsFault [] e.ups

theorem hadU_take {P : List Ud} {k : Nat} (h : k < P.length) (x : Ud) : hadU (P.take (k + 1)) x = (hadU (P.take k) x || decide (P[k] = x)) := by
  unfold hadU
  rw [List.take_succ_eq_append_getElem h, List.any_append]
  simp
theorem uid_ne {x y : Ud} (h : x ≠ y) : (x.1.toList == y.1.toList) = false ∨ ((x.1.toList == y.1.toList) = true ∧ (x.2.toList == y.2.toList) = false) := by
  by_cases h1 : x.1 = y.1
  · refine .inr ⟨by rw [h1]; simp, beq_eq_false_iff_ne.2 fun e => h ?_⟩
    have h2 := toList_inj e
    cases x; cases y
    simp only at h1 h2
    rw [h1, h2]
  · exact .inl (beq_eq_false_iff_ne.2 fun e => h1 (toList_inj e))
set_option maxHeartbeats 1000000 in
theorem uids_Index (A : Option Addr) (n c : Nat) (P : List Ud) (x : Ud) (w : World) (h : Us w A n c P) :
    Calls Tryz.prog 132 #[.slice A n c, .agg #[.string x.1, .string x.2]] w fun e w' => (∃ k : Int, e = .returned (.int .i64 k) ∧ (0 ≤ k ↔ hadU P x = true)) ∧ Below w.heap.size w w' := by
  have V0 := Lib.hid (vr2_new w (.string x.1) (.string x.2) 33)
  have B0 := Lib.hid (below_box w (.cells #[.string x.1, .string x.2] 33))
  have HL := Lib.hid h.len
  have HM := h.max
  unfold maxLen at HM
  have HA := Lib.hid (h.at_)
  clear h
  go_enter Tryz.func132, Tryz.ntmps132
  go_wp2_with fail
  obtain ⟨w0, hw0⟩ : ∃ w0, w.alloc (.cells #[.string x.1, .string x.2] 33) = w0 := ⟨_, rfl⟩
  rw [hw0] at V0 B0 ⊢
  clear hw0
  go_loopw [5, 8] (fun _ i wr => ∃ k : Nat, k ≤ n ∧ i = .int .i64 k ∧ Hid (hadU (P.take k) x = false) ∧ Hid (Below w.heap.size w wr) ∧ Hid (Vr2 wr w.heap.size (.string x.1) (.string x.2))) (fun _ i _ => n - (intOf i).toNat)
  case atStart => exact ⟨0, Nat.zero_le _, rfl, rfl, B0, V0⟩
  case round =>
    clear B0 V0
    obtain ⟨k, hk, rfl, hN, hB, hV⟩ := hrel
    by_cases hlt : k < n
    · have hlt' : k < P.length := by rw [← HL.out]; exact hlt
      have HT := Lib.hid (hadU_take hlt' x)
      obtain ⟨a, rfl, q0, q1⟩ := (HA.out.keep hB.out) k _ (List.getElem?_eq_getElem hlt')
      have v0 := cell_regrown hV.out.c0
      have v1 := cell_regrown hV.out.c1
      by_cases he : P[k] = x
      · have HY := Lib.hid (show hadU P x = true from hadU_iff.2 (he ▸ List.getElem_mem hlt'))
        rw [he] at q0 q1
        have k0 := cell_regrown q0
        have k1 := cell_regrown q1
        clear he q0 q1 HT
        go_wp2_with fail
        refine wp_region_quiet_below (by kernel_rfl) (by kernel_rfl) ?_
        repeat (first | go_big_quiet_step (fail) | quiet_step (fail))
        refine wpQuiet_nil ?_
        intro w1 hw'
        have B1 := Lib.hid (show Below wr.heap.size wr w1 by obtain ⟨⟨d, os⟩, rfl⟩ := hw'; exact below_regrown _ _ _)
        clear hw'
        have BX := bhid hB B1 (Nat.le_refl _)
        clear k0 k1 v0 v1 hB B1
        go_wp2_with fail
        go_ret
        exact ⟨⟨k, rfl, by rw [HY.out]; simp⟩, BX.out⟩
      · rw [decide_eq_false he, Bool.or_false, hN.out] at HT
        have k0 := cell_regrown q0
        have k1 := cell_regrown q1
        have hne : (x.1.toList == P[k].1.toList) = false ∨ ((x.1.toList == P[k].1.toList) = true ∧ (x.2.toList == P[k].2.toList) = false) := uid_ne (fun e => he e.symm)
        clear he q0 q1
        generalize P[k] = y at *
        rcases hne with h1 | ⟨h1, h2⟩
        · go_wp2_with fail
          refine wp_region_quiet_below (by kernel_rfl) (by kernel_rfl) ?_
          repeat (first | go_big_quiet_step (fail) | quiet_step (fail))
          refine wpQuiet_nil ?_
          intro w1 hw'
          have B1 := Lib.hid (show Below wr.heap.size wr w1 by obtain ⟨⟨d, os⟩, rfl⟩ := hw'; exact below_regrown _ _ _)
          clear hw'
          have BX := bhid hB B1 (Nat.le_refl _)
          have VX := Lib.hid (hV.out.keep B1.out)
          clear k0 k1 v0 v1 hB B1 hV
          go_wp2_with fail
          go_roundw
          case rel => exact ⟨k + 1, by omega, by go_num, HT, BX, VX⟩
          case measure => simp [intOf]; omega
        · go_wp2_with fail
          refine wp_region_quiet_below (by kernel_rfl) (by kernel_rfl) ?_
          repeat (first | go_big_quiet_step (fail) | quiet_step (fail))
          refine wpQuiet_nil ?_
          intro w1 hw'
          have B1 := Lib.hid (show Below wr.heap.size wr w1 by obtain ⟨⟨d, os⟩, rfl⟩ := hw'; exact below_regrown _ _ _)
          clear hw'
          have BX := bhid hB B1 (Nat.le_refl _)
          have VX := Lib.hid (hV.out.keep B1.out)
          clear k0 k1 v0 v1 hB B1 hV
          go_wp2_with fail
          go_roundw
          case rel => exact ⟨k + 1, by omega, by go_num, HT, BX, VX⟩
          case measure => simp [intOf]; omega
    · have HN := Lib.hid (show hadU P x = false by rw [← hN.out, List.take_of_length_le (by rw [← HL.out]; omega)])
      go_wp2_with fail
      go_ret
      exact ⟨⟨-1, rfl, by rw [HN.out]; simp⟩, hB.out⟩
theorem uids_Contains (A : Option Addr) (n c : Nat) (P : List Ud) (x : Ud) (w : World) (h : Us w A n c P) :
    Calls Tryz.prog 88 #[.slice A n c, .agg #[.string x.1, .string x.2]] w fun e w' => e = .returned (.bool (hadU P x)) ∧ Below w.heap.size w w' := by
  have B0 := Lib.hid (below_box w (.cells #[.string x.1, .string x.2] 33))
  have K := Lib.hid (fun w' hb => uids_Index A n c P x w' (h.keep hb))
  clear h
  go_enter Tryz.func88, Tryz.ntmps88
  go_wp2_with fail
  refine (K.out _ B0.out).mono ?_
  rintro e w1 ⟨⟨k, rfl, hk⟩, b1⟩
  have B1 := bh B0 b1
  have HK := Lib.hid (show decide (0 ≤ k) = hadU P x by
    rcases hu : hadU P x with _ | _
    · exact decide_eq_false (fun h => by have := hk.1 h; rw [hu] at this; cases this)
    · exact decide_eq_true (hk.2 hu))
  clear hk b1 B0
  go_wp2_with fail
  go_ret
  exact ⟨by rw [← HK.out]; rfl, B1.out⟩
end Go.Proofs.YtnolmlhcikcceaaGreatDoor
namespace Go.Proofs.YtnolmlhcikcceaaGreatDoor
open Go.RowKit Go.Wk
set_option maxRecDepth 100000

/-- The cells of an entity in a variable. -/
structure Vr4 (w : World) (b : Nat) (x : En) : Prop where
  c0 : w.cell? ⟨b, 0, none⟩ = some (.string x.u.1)
  c1 : w.cell? ⟨b, 1, none⟩ = some (.string x.u.2)
  c2 : w.cell? ⟨b, 2, none⟩ = some (.slice x.UA x.un x.uc)
  c3 : w.cell? ⟨b, 3, none⟩ = some (.slice x.NA x.nn x.nc)
theorem Vr4.keep {w w' : World} {b : Nat} {x : En} (h : Vr4 w b x) (hb : Below w.heap.size w w') : Vr4 w' b x := ⟨cell_keep hb h.c0, cell_keep hb h.c1, cell_keep hb h.c2, cell_keep hb h.c3⟩
theorem vr4_new (w : World) (x : En) (t : TypeId) : Vr4 (w.alloc (.cells #[.string x.u.1, .string x.u.2, .slice x.UA x.un x.uc, .slice x.NA x.nn x.nc] t)) w.heap.size x :=
  ⟨cell_row (heap_alloc_last w _) rfl, cell_row (heap_alloc_last w _) rfl, cell_row (heap_alloc_last w _) rfl, cell_row (heap_alloc_last w _) rfl⟩
theorem ups_step {L : List Ud} {k : Nat} (h : k < L.length) : upsFault (L.take k) (L.drop k) = if uidFault L[k] = 0 then (if hadU (L.take k) L[k] = true then 6 else upsFault (L.take (k + 1)) (L.drop (k + 1))) else uidFault L[k] := by
  rw [List.drop_eq_getElem_cons h, List.take_succ_eq_append_getElem h]
  rfl
set_option maxHeartbeats 4000000 in
theorem ent_one (x : En) (w : World) (h : EnOk w x) :
    Calls Tryz.prog 45 #[x.v] w fun e w' => e = .returned (errV (entF x)) ∧ Below w.heap.size w w' := by
  have V0 := Lib.hid (vr4_new w x 38)
  obtain ⟨u, UA, un, uc, ups, NA, nn, nc, P⟩ := x
  obtain ⟨-, -, hus, hns⟩ := h
  have KW := Lib.hid (fun (u : Ud) (hu : u.1.size ≤ maxLen ∧ u.2.size ≤ maxLen) w => name_Write u.1 u.2 w hu.1 hu.2)
  have KC := Lib.hid (fun (k : Nat) (hk : k ≤ un) (u : Ud) w' hb => uids_Contains UA k uc (ups.take k) u w' ((hus.keep (w' := w') hb).take hk))
  have KV := Lib.hid (fun w' hb => val_Check_ns (hns.keep (w' := w') hb))
  have HU := Lib.hid hus
  have HN := Lib.hid hns
  have B0 := Lib.hid (below_box w (.cells #[.string u.1, .string u.2, .slice UA un uc, .slice NA nn nc] 38))
  have hlen := hus.len
  have hcap := hus.cap
  dsimp only at hlen hcap V0 KC KV HU HN
  clear hus hns
  unfold En.v
  dsimp only
  by_cases h6 : 6 < un
  · have HE := Lib.hid (show entF ⟨u, UA, un, uc, ups, NA, nn, nc, P⟩ = 4 by unfold entF; rw [if_pos (by dsimp only; omega)])
    rw [HE.out]
    clear hlen
    go_enter Tryz.func45, Tryz.ntmps45
    go_wp2_with fail
    go_ret
    exact ⟨rfl, B0.out⟩
  · have HE := Lib.hid (show entF ⟨u, UA, un, uc, ups, NA, nn, nc, P⟩ = if upsFault [] ups = 0 then (if valFault P = 0 then (if headOp P = 6 then 0 else 2) else valFault P) else upsFault [] ups by unfold entF; rw [if_neg (by dsimp only; omega)])
    generalize entF ⟨u, UA, un, uc, ups, NA, nn, nc, P⟩ = EF at *
    have HL := Lib.hid hlen
    have hd : decide ((6 : Int) < (un : Int)) = false := decide_eq_false (by omega)
    clear hlen
    go_enter Tryz.func45, Tryz.ntmps45
    go_wp2_with fail
    obtain ⟨w0, hw0⟩ : ∃ w0, w.alloc (.cells #[.string u.1, .string u.2, .slice UA un uc, .slice NA nn nc] 38) = w0 := ⟨_, rfl⟩
    rw [hw0] at V0 B0 ⊢
    clear hw0
    go_loopw [3, 4, 5, 6, 16] (fun _ _ _ _ i wr => ∃ k : Nat, k ≤ un ∧ i = .int .i64 k ∧ Hid (upsFault [] ups = upsFault (ups.take k) (ups.drop k)) ∧ Hid (Below w.heap.size w wr) ∧ Hid (Vr4 wr w.heap.size ⟨u, UA, un, uc, ups, NA, nn, nc, P⟩)) (fun _ _ _ _ i _ => un - (intOf i).toNat)
    case atStart => exact ⟨0, Nat.zero_le _, rfl, rfl, B0, V0⟩
    case round =>
      clear B0 V0
      obtain ⟨k, hk, rfl, hF, hB, hV⟩ := hrel
      obtain ⟨c0, c1, c2, c3⟩ := hV.out
      dsimp only at c0 c1 c2 c3
      by_cases hlt : k < un
      · have hlt' : k < ups.length := by rw [← HL.out]; exact hlt
        have HS := Lib.hid (ups_step hlt')
        obtain ⟨a, rfl, q0, q1⟩ := (HU.out.at_.keep hB.out) k _ (List.getElem?_eq_getElem hlt')
        have hok := HU.out.ok _ (List.getElem_mem hlt')
        have K1 := Lib.hid (KW.out ups[k] hok)
        have K2 := Lib.hid (KC.out k hk ups[k])
        generalize ups[k] = p at *
        go_wp2_with fail
        have B1 := bh hB (below_box wr (.cells #[.string p.1, .string p.2] 33))
        have V1 := Lib.hid (hV.out.keep (below_box wr (.cells #[.string p.1, .string p.2] 33)))
        have P1 := Lib.hid (vr2_new wr (.string p.1) (.string p.2) 33)
        obtain ⟨w1, hw1⟩ : ∃ w1, wr.alloc (.cells #[.string p.1, .string p.2] 33) = w1 := ⟨_, rfl⟩
        rw [hw1] at V1 B1 P1 ⊢
        clear hw1 hB hV c0 c1 c2 c3 q0 q1
        refine (K1.out w1).mono ?_
        rintro e w2 ⟨rfl, b2⟩
        have B2 := bh B1 b2
        have V2 := Lib.hid (V1.out.keep b2)
        have P2 := Lib.hid (P1.out.keep b2)
        clear K1 b2 B1 V1 P1
        by_cases hu : uidFault (p.1, p.2) = 0
        · have hu' : uidFault p = 0 := hu
          rw [hu, errV_zero]
          rw [if_pos hu'] at HS
          clear hu hu'
          have k2 := cell_regrown V2.out.c2
          have v0 := cell_regrown P2.out.c0
          have v1 := cell_regrown P2.out.c1
          have KK := rq (w := w2) (fun w' hb => K2.out w' (B2.out.trans (hb.mono B2.out.size)))
          dsimp only at k2
          go_wp2_with fail
          refine wp_region_quiet_below (by kernel_rfl) (by kernel_rfl) ?_
          repeat (first | go_big_quiet_step (exact KK _ _) | quiet_step (exact KK _ _))
          refine wpQuiet_nil ?_
          intro w3 hw'
          have b3 := Lib.hid (show Below w2.heap.size w2 w3 by obtain ⟨⟨d, os⟩, rfl⟩ := hw'; exact below_regrown _ _ _)
          clear hw'
          have B3 := bh B2 b3.out
          have V3 := Lib.hid (V2.out.keep b3.out)
          clear k2 v0 v1 KK b3 B2 V2 P2 K2
          rcases hh : hadU (ups.take k) p with _ | _
          · rw [hh, if_neg (by decide)] at HS
            have HF := Lib.hid (hF.out.trans HS.out)
            clear hh HS hF
            go_wp2_with fail
            go_roundw
            case rel => exact ⟨k + 1, by omega, by go_num, HF, B3, V3⟩
            case measure => simp [intOf]; omega
          · rw [hh, if_pos rfl] at HS
            have HF := Lib.hid (hF.out.trans HS.out)
            have HE2 := Lib.hid (show EF = 6 by rw [HE.out, HF.out]; rfl)
            clear hh HS hF
            go_wp2_with fail
            go_ret
            exact ⟨by rw [HE2.out]; rfl, B3.out⟩
        · have hu' : uidFault p ≠ 0 := hu
          rw [if_neg hu'] at HS
          have HE2 := Lib.hid (show EF = uidFault (p.1, p.2) by rw [HE.out, hF.out, HS.out, if_neg hu'])
          rw [errV_ne hu]
          have hun := Lib.hid hu
          clear hu hu' HS hF
          generalize uidFault (p.1, p.2) = f at *
          go_wp2_with fail
          go_ret
          exact ⟨by rw [HE2.out, errV_ne hun.out]; rfl, B2.out⟩
      · have HF := Lib.hid (show upsFault [] ups = 0 by rw [hF.out, List.drop_of_length_le (by rw [← HL.out]; omega)]; rfl)
        have HE2 := Lib.hid (show EF = if valFault P = 0 then (if headOp P = 6 then 0 else 2) else valFault P by rw [HE.out, if_pos HF.out])
        have K3 := Lib.hid (fun w' hb => KV.out w' hb)
        clear hF
        go_wp2_with fail
        refine (K3.out wr hB.out).mono ?_
        rintro e w2 ⟨rfl, b2⟩
        have B2 := bh hB b2
        have V2 := Lib.hid (hV.out.keep b2)
        clear hB hV c0 c1 c2 c3 b2
        by_cases hv : valFault P = 0
        · have hpos := (isV_zero.1 hv).2.pos
          obtain ⟨a, rfl, D⟩ := (HN.out.at_.keep B2.out).nd hpos
          rw [show a.add (0 * 4) = a from rfl] at D
          have hop : headOp P = P[0].op := headOp_at hpos
          have hn0 : 0 < nn := by rw [HN.out.len]; exact hpos
          rw [hv, errV_zero]
          rw [if_pos hv, hop] at HE2
          obtain ⟨d0, -, -, -⟩ := D
          obtain ⟨op, ho⟩ : ∃ op, op = P[0].op := ⟨_, rfl⟩
          rw [← ho] at d0 HE2
          have e3 := V2.out.c3
          dsimp only at e3
          clear hv hop ho
          by_cases h6o : op = 6
          · rw [if_pos h6o] at HE2
            subst h6o
            go_wp2_with fail
            go_ret
            exact ⟨by rw [HE2.out]; rfl, B2.out⟩
          · rw [if_neg h6o] at HE2
            have h6i : (op != 6) = true := by simp; exact h6o
            clear h6o
            go_wp2_with fail
            go_ret
            exact ⟨by rw [HE2.out]; rfl, B2.out⟩
        · rw [if_neg hv] at HE2
          rw [errV_ne hv]
          have hvn := Lib.hid hv
          clear hv
          generalize valFault P = f at *
          go_wp2_with fail
          go_ret
          exact ⟨by rw [HE2.out, errV_ne hvn.out]; rfl, B2.out⟩
end Go.Proofs.YtnolmlhcikcceaaGreatDoor
namespace Go.Proofs.YtnolmlhcikcceaaGreatDoor
open Go.RowKit Go.Wk Go.Maps
set_option maxRecDepth 100000

def udV (u : Ud) : Value := .agg #[.string u.1, .string u.2]
def UOk (u : Ud) : Prop := u.1.size ≤ maxLen ∧ u.2.size ≤ maxLen
def keyU (u : Ud) : Lit := .string (keyBytes [.string u.1.data.toList, .string u.2.data.toList])
theorem uidKeyed : Keyed Tryz.prog 33 :=
  Keyed.of_law (deep_law_laid laidOut (m := 4) (by decide) (of_decide_eq_true (by kernel_rfl)) (by kernel_rfl) (by kernel_rfl))
theorem keyLits_ud (D : Nat) (u : Ud) (h : UOk u) : Tryz.prog.keyLits (D + 2) 33 (udV u).cells.toList = some [.string u.1.data.toList, .string u.2.data.toList] := by
  obtain ⟨h1, h2⟩ := h
  simp [udV, Value.cells, Program.keyLits, Tryz.underlying33, Tryz.underlying9, cells_uid, cells_string, h1, h2]
theorem types_pos : 0 < Tryz.prog.types.size := of_decide_eq_true (by kernel_rfl)
theorem keyOf_ud (u : Ud) (h : UOk u) : keyOf Tryz.prog 33 (udV u) = some (keyU u) := by
  have hk : Tryz.prog.keyType 33 = true := by kernel_rfl
  have hf : (udV u).formed Tryz.prog 33 = true := by
    unfold udV Value.formed
    rw [Tryz.underlying33, cells_uid]; rfl
  obtain ⟨D, hD⟩ : ∃ D, Tryz.prog.types.size + 1 = D + 2 := ⟨Tryz.prog.types.size - 1, by have := types_pos; omega⟩
  unfold keyOf
  rw [Tryz.underlying33, hk, hf, hD, keyLits_ud D u h]
  rfl
theorem keyU_inj {u v : Ud} (hu : UOk u) (hv : UOk v) (h : keyU u = keyU v) : u = v := by
  have := uidKeyed.inj (keyOf_ud u hu) (h ▸ keyOf_ud v hv)
  unfold udV at this
  injection this with this
  have h1 := congrArg (fun a : Array Value => a.toList) this
  simp only [List.cons.injEq, Value.string.injEq, and_true] at h1
  exact Prod.ext h1.1 h1.2
theorem keyU_lit (u : Ud) : WideAt.IsKeyLit (keyU u) := trivial
/-- What was put, in its order. -/
def mapU (L : List (Ud × Value)) : DataW Value := L.foldl (fun D p => D.put (keyU p.1) (.held p.2)) (.map [])
theorem mapU_snoc (L : List (Ud × Value)) (p : Ud × Value) : mapU (L ++ [p]) = (mapU L).put (keyU p.1) (.held p.2) := by simp [mapU]
theorem isMap_mapU (L : List (Ud × Value)) : IsMap (mapU L) := by
  refine snoc_ind (C := fun L => IsMap (mapU L)) isMap_empty (fun L p ih => ?_) L
  rw [mapU_snoc]; exact ih.put _ _
/-- What was put last at a uid. -/
def lastU : List (Ud × Value) → Ud → Option Value
  | [], _ => none
  | x :: r, p => match lastU r p with
    | some v => some v
    | none => if x.1 = p then some x.2 else none
theorem lastU_snoc (L : List (Ud × Value)) (x : Ud × Value) (p : Ud) : lastU (L ++ [x]) p = if x.1 = p then some x.2 else lastU L p := by
  induction L with
  | nil => rfl
  | cons y r ih =>
    simp only [List.cons_append, lastU, ih]
    by_cases h : x.1 = p
    · rw [if_pos h, if_pos h]
    · rw [if_neg h, if_neg h]
theorem at_mapU (L : List (Ud × Value)) (p : Ud) (hp : UOk p) (z : Value) (hL : ∀ x ∈ L, UOk x.1) : (mapU L).atKey (keyU p) (.held z) = .held ((lastU L p).getD z) := by
  revert hL
  refine snoc_ind (C := fun L => (∀ x ∈ L, UOk x.1) → (mapU L).atKey (keyU p) (.held z) = .held ((lastU L p).getD z)) (fun _ => rfl) (fun L x ih hL => ?_) L
  rw [mapU_snoc, lastU_snoc]
  by_cases h : x.1 = p
  · subst h
    rw [if_pos rfl, atKey_put_same (isMap_mapU L) (keyU_lit _)]; rfl
  · rw [if_neg h, atKey_put_other (fun e => h (keyU_inj (hL x (by simp)) hp e.symm))]
    exact ih (fun y hy => hL y (by simp [hy]))
theorem lastU_none {L : List (Ud × Value)} {p : Ud} (h : ∀ x ∈ L, x.1 ≠ p) : lastU L p = none := by
  induction L with
  | nil => rfl
  | cons y r ih => simp only [lastU]; rw [ih (fun x hx => h x (by simp [hx]))]; exact if_neg (h y (by simp))
theorem lastU_some {L : List (Ud × Value)} (hn : (L.map (·.1)).Nodup) {x : Ud × Value} (hx : x ∈ L) : lastU L x.1 = some x.2 := by
  induction L with
  | nil => cases hx
  | cons y r ih =>
    rw [List.map_cons, List.nodup_cons] at hn
    simp only [lastU]
    rcases List.mem_cons.1 hx with rfl | hx
    · rw [lastU_none (fun z hz e => hn.1 (List.mem_map.2 ⟨z, hz, e⟩))]; exact if_pos rfl
    · rw [ih hn.2 hx]
theorem ownsMap_block {H : Type} {P : Program} {k : TypeId} {R : Value → Option (DataW H × List MemPlace)} {w w' : World} {b n : Nat} {D : DataW H} (h : w.ownsMap P k R b n D) (hb : w'.heap[b]? = w.heap[b]?) : w'.ownsMap P k R b n D :=
  let ⟨es, clock, h1, r⟩ := h
  ⟨es, clock, hb.trans h1, r⟩
/-- m[k], whatever stands there. -/
theorem wpList_lookup_at {P : Program} (w : World) {ops : Array Oper} {rest : List Oper} {o : Oper} {a : Act} {Q : Exit → Act → World → Prop}
    (hg : o.guard = none) (m x : Operand) (t : TypeId) (hop : o.op = Op.lookup t m x false)
    (k e : TypeId) (K : Keyed P k) (ht : P.underlying t = some (.map k e)) {z : Value} (hz : (zeroValue e).run P w = .ok z w) (b n : Nat) (D : DataW Value)
    (hm : a.eval m = .map (some b)) (hown : w.ownsMap P k heldR b n D) (key : Value) (kl : Lit) (hx : a.eval x = key) (hkey : keyOf P k key = some kl) (u : Value) (hu : D.atKey kl (.held z) = .held u)
    (hK : wpList P ops Q rest (a.put o.dst u) w) :
    wpList P ops Q (o :: rest) a w := by
  refine wpList_plain hg fun K' hK' => ?_
  obtain ⟨v, ps, hrun, hv⟩ := hown.lookup K ht hz (zd := .held z) (zp := []) rfl hkey
  have : v = u := by
    unfold heldR at hv
    rw [hu] at hv
    simp at hv
    exact hv.1
  subst this
  unfold Oper.wp
  simp [execOp, hop, hm, hx, hrun, Result.andThen]
  exact hK' _ _ hK
end Go.Proofs.YtnolmlhcikcceaaGreatDoor
namespace Go.Proofs.YtnolmlhcikcceaaGreatDoor
open Go.RowKit Go.Wk Go.Maps
set_option maxRecDepth 100000

/-- A slice that holds entities. -/
def EnsAt (w : World) (A : Option Addr) (E : List En) : Prop := ∀ (k : Nat) (x : En), E[k]? = some x → ∃ a, A = some a ∧
  w.cell? (a.add (k * 4)) = some (.string x.u.1) ∧ w.cell? ⟨(a.add (k * 4)).block, (a.add (k * 4)).off + 1, none⟩ = some (.string x.u.2) ∧
  w.cell? ⟨(a.add (k * 4)).block, (a.add (k * 4)).off + 2, none⟩ = some (.slice x.UA x.un x.uc) ∧ w.cell? ⟨(a.add (k * 4)).block, (a.add (k * 4)).off + 3, none⟩ = some (.slice x.NA x.nn x.nc) ∧ EnOk w x
theorem EnsAt.keep {w w' : World} {A : Option Addr} {E : List En} (h : EnsAt w A E) (hb : Below w.heap.size w w') : EnsAt w' A E :=
  fun k x hx => let ⟨a, h1, h2, h3, h4, h5, h6⟩ := h k x hx; ⟨a, h1, cell_keep hb h2, cell_keep hb h3, cell_keep hb h4, cell_keep hb h5, h6.keep hb⟩
structure Es (w : World) (A : Option Addr) (n c : Nat) (E : List En) : Prop where
  len : n = E.length
  cap : n ≤ c
  max : n ≤ maxLen
  at_ : EnsAt w A E
theorem Es.keep {w w' : World} {A : Option Addr} {n c : Nat} {E : List En} (h : Es w A n c E) (hb : Below w.heap.size w w') : Es w' A n c E := ⟨h.len, h.cap, h.max, h.at_.keep hb⟩
theorem Es.uok {w : World} {A : Option Addr} {n c : Nat} {E : List En} (h : Es w A n c E) : ∀ x ∈ E, UOk x.u := fun x hx => by
  obtain ⟨k, hk, rfl⟩ := List.getElem_of_mem hx
  obtain ⟨_, _, _, _, _, _, h6⟩ := h.at_ k _ (List.getElem?_eq_getElem hk)
  exact ⟨h6.t, h6.i⟩
/-- The store as what was put. -/
def putsE (E : List En) : List (Ud × Value) := E.map fun x => (x.u, x.v)
theorem putsE_ok {E : List En} (h : ∀ x ∈ E, UOk x.u) : ∀ y ∈ putsE E, UOk y.1 := fun y hy => by
  obtain ⟨x, hx, rfl⟩ := List.mem_map.1 hy
  exact h x hx
def zeroE : Value := .agg #[.string ⟨#[]⟩, .string ⟨#[]⟩, .slice none 0 0, .slice none 0 0]
theorem zero_ent (w : World) : (zeroValue 38).run Tryz.prog w = .ok zeroE w := by kernel_rfl
theorem putsE_step {E : List En} {k : Nat} (h : k < E.length) : putsE (E.take (k + 1)) = putsE (E.take k) ++ [(E[k].u, E[k].v)] := by
  unfold putsE
  rw [List.take_succ_eq_append_getElem h, List.map_append]; rfl

set_option maxHeartbeats 2000000 in
theorem ent_stored (A : Option Addr) (n c : Nat) (E : List En) (w : World) (h : Es w A n c E) (hn : n ≤ 1000000) :
    Calls Tryz.prog 46 #[.slice A n c] w fun e w' => ∃ b, e = .returned (.map (some b)) ∧ w.heap.size ≤ b ∧ w'.ownsMap Tryz.prog 33 heldR b n (mapU (putsE E)) ∧ Below w.heap.size w w' := by
  have hmm := @run_makeMap Tryz.prog
  have HE := Lib.hid h.at_
  have HL := Lib.hid h.len
  have HUO := Lib.hid h.uok
  clear h
  go_enter Tryz.func46, Tryz.ntmps46
  go_wp2_with fail
  go_loopw [5, 9] (fun _ i wr => ∃ k : Nat, k ≤ n ∧ i = .int .i64 k ∧ Hid (wr.ownsMap Tryz.prog 33 heldR w.heap.size k (mapU (putsE (E.take k)))) ∧ Hid (Below w.heap.size w wr)) (fun _ i _ => n - (intOf i).toNat)
  case atStart => exact ⟨0, Nat.zero_le _, rfl, Lib.hid (World.ownsMap_made _ _ _ _), Lib.hid ((Below.refl _ _).alloc (Nat.le_refl _) _)⟩
  case round =>
    obtain ⟨k, hk, rfl, hO, hB⟩ := hrel
    by_cases hlt : k < n
    · have hlt' : k < E.length := by rw [← HL.out]; exact hlt
      obtain ⟨a, rfl, q0, q1, q2, q3, -⟩ := (HE.out.keep hB.out) k _ (List.getElem?_eq_getElem hlt')
      have HK := Lib.hid (keyOf_ud E[k].u (HUO.out _ (List.getElem_mem hlt')))
      have HP := Lib.hid (putsE_step hlt')
      generalize E[k] = x at *
      have O1 := Lib.hid (ownsMap_keep hO.out (below_box wr (.cells #[.string x.u.1, .string x.u.2, .slice x.UA x.un x.uc, .slice x.NA x.nn x.nc] 38)))
      have B1 := bh hB (below_box wr (.cells #[.string x.u.1, .string x.u.2, .slice x.UA x.un x.uc, .slice x.NA x.nn x.nc] 38))
      go_wp2_with (at_mapUpdate; refine wpList_mapUpdate_own _ rfl _ _ _ 98 rfl 33 38 uidKeyed Tryz.underlying98 heldR w.heap.size k _ rfl O1.out (by unfold maxLen; omega) _ _ _ rfl rfl HK.out _ [] rfl ?_)
      intro w4 hown hgrow
      have O4 := Lib.hid (show w4.ownsMap Tryz.prog 33 heldR w.heap.size (k + 1) (mapU (putsE (E.take (k + 1)))) by
        rw [HP.out, mapU_snoc]; exact hown)
      have B4 := Lib.hid (B1.out.grown hgrow B1.out.size (fun g hg => by cases hg; exact Nat.le_refl _))
      clear hown hgrow O1 B1 hO hB q0 q1 q2 q3
      go_wp2_with fail
      go_roundw
      case rel => exact ⟨k + 1, by omega, by go_num, O4, B4⟩
      case measure => simp [intOf]; omega
    · have HP := Lib.hid (show putsE E = putsE (E.take k) by rw [List.take_of_length_le (by rw [← HL.out]; omega)])
      have hkn : k = n := by omega
      subst hkn
      go_wp2_with fail
      go_ret
      exact ⟨w.heap.size, rfl, Nat.le_refl _, by rw [HP.out]; exact hO.out, hB.out⟩
end Go.Proofs.YtnolmlhcikcceaaGreatDoor
namespace Go.Proofs.YtnolmlhcikcceaaGreatDoor
open Go.Wk Go.ChangeShapes Go.WideShapes Go.RowKit
set_option maxRecDepth 100000

theorem cells_ent : Tryz.prog.cellsOf 38 = 4 := by kernel_rfl
theorem cells_ups : Tryz.prog.cellsOf 36 = 1 := by kernel_rfl
theorem cells_nodes1 : Tryz.prog.cellsOf 27 = 1 := by kernel_rfl
theorem rd_uds {w : World} {cs : List Value} (h : Rd Tryz.prog w 36 cs) : ∃ (A : Option Addr) (n c : Nat) (P : List Ud), cs = [.slice A n c] ∧ Us w A n c P := by
  obtain ⟨A, n, c, rfl, h1, h2, h3⟩ := rd_slice Tryz.underlying36 h
  rw [cells_uid] at h3
  obtain ⟨P, hl, hr⟩ := list_of n (fun k (x : Ud) => (∃ a, A = some a ∧ w.cell? (a.add (k * 2)) = some (.string x.1) ∧ w.cell? (a.add (k * 2 + 1)) = some (.string x.2)) ∧ x.1.size ≤ maxLen ∧ x.2.size ≤ maxLen) (fun i hi => by
    obtain ⟨a, rfl, cs', hl, hc, hr⟩ := h3 i hi
    obtain ⟨s, t, rfl, q1, q2⟩ := rd_uid hr
    exact ⟨(s, t), ⟨a, rfl, hc 0 (by omega), hc 1 (by omega)⟩, q1, q2⟩)
  refine ⟨A, n, c, P, rfl, hl.symm, h1, by omega, fun k x hx => ?_, fun x hx => ?_⟩
  · obtain ⟨⟨a, e, q1, q2⟩, -⟩ := hr k x hx
    refine ⟨a, e, q1, ?_⟩
    rw [← add_add] at q2
    unfold Addr.add at q2 ⊢
    simpa using q2
  · obtain ⟨k, hk, rfl⟩ := List.getElem_of_mem hx
    exact (hr k _ (List.getElem?_eq_getElem hk)).2
theorem rd_ent {w : World} {cs : List Value} (h : Rd Tryz.prog w 38 cs) : ∃ x : En, cs = [.string x.u.1, .string x.u.2, .slice x.UA x.un x.uc, .slice x.NA x.nn x.nc] ∧ EnOk w x := by
  have hl := (rd_struct Tryz.underlying38 h).1
  rw [cells_ent] at hl
  match cs, hl with
  | [c0, c1, c2, c3], _ =>
    have h0 : Rd Tryz.prog w 33 [c0, c1] := rd_field Tryz.underlying38 h 0 33 0 2 rfl cells_uid
    have h2 : Rd Tryz.prog w 36 [c2] := rd_field Tryz.underlying38 h 1 36 2 1 rfl cells_ups
    have h3 : Rd Tryz.prog w 27 [c3] := rd_field Tryz.underlying38 h 2 27 3 1 rfl cells_nodes1
    obtain ⟨s, t, e0, s1, s2⟩ := rd_uid h0
    obtain ⟨UA, un, uc, ups, e2, hu⟩ := rd_uds h2
    obtain ⟨NA, nn, nc, P, e3, n1, n2, n3, n4, n5⟩ := rd_nodes h3
    simp only [List.cons.injEq, and_true] at e0 e2 e3
    exact ⟨⟨(s, t), UA, un, uc, ups, NA, nn, nc, P⟩, by rw [e0.1, e0.2, e2, e3], s1, s2, hu, n1, n2, n3, n4, n5⟩
theorem open_ents {H : Type} {enc : TypeId × Value → H} {w : World} {b b0 : Nat} {sp : Nat → Bool} {hd : Bool} {v : Value} {d : DataW H} {ps : List MemPlace} {r : Reach}
    (hv : Value.okWide Tryz.prog w r b0 26 v) (h : DataW.Trod enc Tryz.prog w b sp hd 26 v d ps) :
    ∃ (A : Option Addr) (n c : Nat) (E : List En), v = .slice A n c ∧ Es w A n c E := by
  obtain ⟨A', n', c', rfl⟩ := okWide_slice Tryz.underlying26 hv
  obtain ⟨A, n, c, e, h1, h2, h3⟩ := rd_slice Tryz.underlying26 (rd_of_trod h)
  rw [cells_ent] at h3
  have e' : (Value.slice A' n' c') = .slice A n c := by simpa [Value.cells] using e
  obtain ⟨E, hl, hr⟩ := list_of n (fun k (x : En) => (∃ a, A = some a ∧ w.cell? (a.add (k * 4)) = some (.string x.u.1) ∧ w.cell? (a.add (k * 4 + 1)) = some (.string x.u.2) ∧ w.cell? (a.add (k * 4 + 2)) = some (.slice x.UA x.un x.uc) ∧ w.cell? (a.add (k * 4 + 3)) = some (.slice x.NA x.nn x.nc)) ∧ EnOk w x) (fun i hi => by
    obtain ⟨a, rfl, cs', hl, hc, hr⟩ := h3 i hi
    obtain ⟨x, rfl, hx⟩ := rd_ent hr
    exact ⟨x, ⟨a, rfl, hc 0 (by omega), hc 1 (by omega), hc 2 (by omega), hc 3 (by omega)⟩, hx⟩)
  refine ⟨A, n, c, E, e', hl.symm, h1, by omega, fun k x hx => ?_⟩
  obtain ⟨⟨a, e, q1, q2, q3, q4⟩, hx⟩ := hr k x hx
  refine ⟨a, e, q1, ?_, ?_, ?_, hx⟩
  all_goals
    rw [← add_add] at q2 q3 q4
    unfold Addr.add at q2 q3 q4 ⊢
    first | (simpa using q2) | (simpa using q3) | (simpa using q4)
end Go.Proofs.YtnolmlhcikcceaaGreatDoor
namespace Go.Wk
open Go.ChangeShapes Go.WideShapes Go.RowKit Go.Deep
section
variable {P : Program} {w : World} {t e : TypeId}
/-- A slice that comes in: its elements, and what its datum tells of their number. -/
theorem trod_slice_at {H : Type} {enc : TypeId × Value → H} {b : Nat} {sp : Nat → Bool} {hd : Bool} {v : Value} {d : DataW H} {ps : List MemPlace} (ht : P.underlying t = some (.slice e)) (h : DataW.Trod enc P w b sp hd t v d ps) :
    ∃ (A : Option Addr) (n c : Nat), v.cells.toList = [.slice A n c] ∧ n ≤ c ∧ c ≤ maxLen ∧ (n = 0 ∨ ∃ elems spare, d = .slice elems spare ∧ elems.length = n) ∧
      ∀ i, i < n → ∃ a, A = some a ∧ ∃ cs' : List Value, cs'.length = P.cellsOf e ∧ (∀ j, j < P.cellsOf e → w.cell? (a.add (i * P.cellsOf e + j)) = cs'[j]?) ∧ Rd P w e cs' := by
  obtain ⟨f, hf⟩ := h
  rcases open_slice ht hf with ⟨h0, _⟩ | ⟨a, len, cap, m, n, D, Pl, hcs, hb, hl, hm, hmm, hx, hi⟩
  · exact ⟨none, 0, 0, h0, Nat.le_refl _, by unfold maxLen; omega, .inl rfl, fun i hi => by omega⟩
  · refine ⟨some a, len, cap, hcs, hl, hm, .inr ⟨_, _, congrArg Prod.fst hx, by simp⟩, fun i hil => ⟨a, rfl, ?_⟩⟩
    obtain ⟨cs', hc, ht'⟩ := hi i (by rw [hmm]; split <;> omega)
    obtain ⟨_, hcl, hat⟩ := World.cells?_some hc
    refine ⟨cs', hcl, fun j hj => ?_, ⟨H, enc, b, sp, hd, n, _, ht'⟩⟩
    have := hat j hj
    rw [← Go.Deep.add_add]
    exact this
/-- How many there can be. -/
theorem reach_len {H : Type} {ts : List TypeId} {ds : List (DataW H)} (h : (DataW.weightsEach P ts ds).all (· ≤ reachBytes) = true) {j : Nat} {d : DataW H} {n k : Nat} (ht : ts[j]? = some t) (hd : ds[j]? = some d) (hu : P.underlying t = some (.slice e))
    (hn : n = 0 ∨ ∃ elems spare, d = .slice elems spare ∧ elems.length = n) (hk : P.bytesOf e = k) : n * k ≤ 140737488351232 := by
  rcases hn with rfl | ⟨elems, spare, rfl, rfl⟩
  · omega
  · have := sized_slice h ht hd hu
    rw [hk] at this
    have h2 : elems.length * k ≤ (elems.length + spare.length) * k := Nat.mul_le_mul_right _ (Nat.le_add_right _ _)
    exact Nat.le_trans h2 this
end
end Go.Wk
namespace Go.Proofs.YtnolmlhcikcceaaGreatDoor
open Go.Wk Go.ChangeShapes Go.WideShapes Go.RowKit
set_option maxRecDepth 100000

theorem cells_nodes : Tryz.prog.cellsOf 27 = 1 := by kernel_rfl
theorem bytes_nodes : Tryz.prog.bytesOf 27 = 24 := by kernel_rfl
theorem open_sls {H : Type} {enc : TypeId × Value → H} {w : World} {b b0 : Nat} {sp : Nat → Bool} {hd : Bool} {v : Value} {d : DataW H} {ps : List MemPlace} {r : Reach}
    (hv : Value.okWide Tryz.prog w r b0 138 v) (h : DataW.Trod enc Tryz.prog w b sp hd 138 v d ps) :
    ∃ (A : Option Addr) (n c : Nat) (V : List Sl), v = .slice A n c ∧ n = V.length ∧ SlsAt w A V ∧ (n = 0 ∨ ∃ elems spare, d = .slice elems spare ∧ elems.length = n) := by
  obtain ⟨A', n', c', rfl⟩ := okWide_slice Tryz.underlying138 hv
  obtain ⟨A, n, c, e, h1, h2, h3, h4⟩ := trod_slice_at Tryz.underlying138 h
  rw [cells_nodes] at h4
  have e' : (Value.slice A' n' c') = .slice A n c := by simpa [Value.cells] using e
  obtain ⟨V, hl, hr⟩ := list_of n (fun k (r : Sl) => ∃ a, A = some a ∧ w.cell? (a.add k) = some (.slice r.A r.n r.c) ∧ Ns w r.A r.n r.c r.P) (fun i hi => by
    obtain ⟨a, rfl, cs', hl, hc, hr⟩ := h4 i hi
    obtain ⟨B, m, c2, P, rfl, q1, q2, q3, q4, q5⟩ := rd_nodes hr
    have := hc 0 (by omega)
    exact ⟨⟨B, m, c2, P⟩, a, rfl, by simpa using this, q1, q2, q3, q4, q5⟩)
  exact ⟨A, n, c, V, e', hl.symm, fun k r hk => hr k r hk, h3⟩
/-- A slice of numbers. -/
def IsAt (w : World) (A : Option Addr) (I : List Int) : Prop := ∀ (k : Nat) (x : Int), I[k]? = some x → ∃ a, A = some a ∧ w.cell? (a.add k) = some (.int .i64 x)
theorem IsAt.keep {w w' : World} {A : Option Addr} {I : List Int} (h : IsAt w A I) (hb : Below w.heap.size w w') : IsAt w' A I :=
  fun k x hk => let ⟨a, h1, h2⟩ := h k x hk; ⟨a, h1, cell_keep hb h2⟩
theorem open_ints {H : Type} {enc : TypeId × Value → H} {w : World} {b b0 : Nat} {sp : Nat → Bool} {hd : Bool} {v : Value} {d : DataW H} {ps : List MemPlace} {r : Reach}
    (hv : Value.okWide Tryz.prog w r b0 143 v) (h : DataW.Trod enc Tryz.prog w b sp hd 143 v d ps) :
    ∃ (A : Option Addr) (n c : Nat) (I : List Int), v = .slice A n c ∧ n = I.length ∧ IsAt w A I ∧ (∀ x ∈ I, -9223372036854775808 ≤ x ∧ x ≤ 9223372036854775807) ∧ (n = 0 ∨ ∃ elems spare, d = .slice elems spare ∧ elems.length = n) := by
  obtain ⟨A', n', c', rfl⟩ := okWide_slice Tryz.underlying143 hv
  obtain ⟨A, n, c, e, h1, h2, h3, h4⟩ := trod_slice_at Tryz.underlying143 h
  rw [cells_int] at h4
  have e' : (Value.slice A' n' c') = .slice A n c := by simpa [Value.cells] using e
  obtain ⟨I, hl, hr⟩ := list_of n (fun k (x : Int) => (∃ a, A = some a ∧ w.cell? (a.add k) = some (.int .i64 x)) ∧ -9223372036854775808 ≤ x ∧ x ≤ 9223372036854775807) (fun i hi => by
    obtain ⟨a, rfl, cs', hl, hc, hr⟩ := h4 i hi
    obtain ⟨x, rfl, q1, q2⟩ := rd_i64 Tryz.underlying3 hr
    have := hc 0 (by omega)
    exact ⟨x, ⟨a, rfl, by simpa using this⟩, q1, q2⟩)
  refine ⟨A, n, c, I, e', hl.symm, fun k x hk => (hr k x hk).1, fun x hx => ?_, h3⟩
  obtain ⟨k, hk, rfl⟩ := List.getElem_of_mem hx
  exact (hr k _ (List.getElem?_eq_getElem hk)).2
/-- A slice of texts. -/
def TxAt (w : World) (A : Option Addr) (N : List ByteArray) : Prop := ∀ (k : Nat) (x : ByteArray), N[k]? = some x → ∃ a, A = some a ∧ w.cell? (a.add k) = some (.string x)
theorem TxAt.keep {w w' : World} {A : Option Addr} {N : List ByteArray} (h : TxAt w A N) (hb : Below w.heap.size w w') : TxAt w' A N :=
  fun k x hk => let ⟨a, h1, h2⟩ := h k x hk; ⟨a, h1, cell_keep hb h2⟩
theorem bytes_string : Tryz.prog.bytesOf 9 = 16 := by kernel_rfl
theorem open_strs {H : Type} {enc : TypeId × Value → H} {w : World} {b b0 : Nat} {sp : Nat → Bool} {hd : Bool} {v : Value} {d : DataW H} {ps : List MemPlace} {r : Reach}
    (hv : Value.okWide Tryz.prog w r b0 42 v) (h : DataW.Trod enc Tryz.prog w b sp hd 42 v d ps) :
    ∃ (A : Option Addr) (n c : Nat) (N : List ByteArray), v = .slice A n c ∧ n = N.length ∧ TxAt w A N ∧ (∀ x ∈ N, x.size ≤ maxLen) ∧ (n = 0 ∨ ∃ elems spare, d = .slice elems spare ∧ elems.length = n) := by
  obtain ⟨A', n', c', rfl⟩ := okWide_slice Tryz.underlying42 hv
  obtain ⟨A, n, c, e, h1, h2, h3, h4⟩ := trod_slice_at Tryz.underlying42 h
  rw [cells_string] at h4
  have e' : (Value.slice A' n' c') = .slice A n c := by simpa [Value.cells] using e
  obtain ⟨I, hl, hr⟩ := list_of n (fun k (x : ByteArray) => (∃ a, A = some a ∧ w.cell? (a.add k) = some (.string x)) ∧ x.size ≤ maxLen) (fun i hi => by
    obtain ⟨a, rfl, cs', hl, hc, hr⟩ := h4 i hi
    obtain ⟨x, rfl, q1⟩ := rd_string Tryz.underlying9 hr
    have := hc 0 (by omega)
    exact ⟨x, ⟨a, rfl, by simpa using this⟩, q1⟩)
  refine ⟨A, n, c, I, e', hl.symm, fun k x hk => (hr k x hk).1, fun x hx => ?_, h3⟩
  obtain ⟨k, hk, rfl⟩ := List.getElem_of_mem hx
  exact (hr k _ (List.getElem?_eq_getElem hk)).2
end Go.Proofs.YtnolmlhcikcceaaGreatDoor
