/-
  The reference's order of nodes. The reference's ValueEnd, ValueFault and Faults. The reference's ValueEnd at sets and records; ValueFault. The reference's ..
-/
import Derived.Test.YtlkfaliomdbaoaaGreatDoorQ3
import Derived.Test.YtlkfaliomdbaoaaGreatDoorQ13
import Derived.Test.YtlkfaliomdbaoaaGreatDoorQ18
import Derived.Test.YtlkfaliomdbaoaaGreatDoorQ19
import Derived.Test.YtlkfaliomdbaoaaGreatDoorQ20
import Derived.Test.YtlkfaliomdbaoaaGreatDoorQ24
import Derived.Test.YtlkfaliomdbaoaaGreatDoorQ31
set_option maxRecDepth 100000
namespace Go.Proofs.YtlkfaliomdbaoaaGreatDoor
open Go.RowKit Go.Wk Go.Sort
end Go.Proofs.YtlkfaliomdbaoaaGreatDoor
namespace Go.Wk
end Go.Wk
namespace Go.Proofs.YtlkfaliomdbaoaaGreatDoor
open Go.RowKit Go.Wk Go.Sort
end Go.Proofs.YtlkfaliomdbaoaaGreatDoor
namespace Go.Wk
end Go.Wk
namespace Go.Proofs.YtlkfaliomdbaoaaGreatDoor
open Go.RowKit Go.Wk Go.Sort
set_option linter.unusedSectionVars false
theorem zoi{w:World}{A:Option Addr}{n c:Nat}{P:List Nd}(h:Ns w A n c P)(hp:0<P.length):∃a,A=some a∧1≤n∧w.cell? a=some (.int .i64 (zk P))∧w.cell? ⟨a.block,a.off+2,none⟩=some (.string (zlz P)):=by
 cases P with
 | nil=>simp at hp
 | cons x r =>
  obtain⟨a,ea,d0,d1,d2,d3⟩:=h.at_ 0 x rfl
  exact⟨a,ea,by rw [h.len];simp,d0,d2⟩
section
variable (a b:Addr) (n c m d:Nat) (o1 o2:Int) (s1 s2:ByteArray) (w:World) (hn:1≤n) (hm:1≤m) (hl:n≤4000) (hl2:m≤4000) (hnc:n≤c) (hmd:m≤d) (d0:w.cell? a=some (.int .i64 o1)) (d2:w.cell? ⟨a.block,a.off+2,none⟩=some (.string s1)) (e0:w.cell? b=some (.int .i64 o2)) (e2:w.cell? ⟨b.block,b.off+2,none⟩=some (.string s2))
include hn hm hl hl2 hnc hmd d0 d2 e0 e2
end
theorem zlX.cell{w:World}{A:Option Addr}{N:List ByteArray}(h:zlX w A N){k:Nat}(hk:k<N.length):∃a,A=some a∧w.cell? (a.add k)=some (.string N[k]):=h k N[k] (List.getElem?_eq_getElem hk)
theorem zmy{N:List ByteArray}{s:ByteArray}{k:Nat}(hk:k<N.length)(h:jV (N.take k) s=false)(hn:N[k]≠s):jV (N.take (k+1)) s=false:=by
 rw [List.take_succ_eq_append_getElem hk];unfold jV at *;rw [List.any_append,h];simp only [List.any_cons,List.any_nil,Bool.or_false,Bool.false_or,decide_eq_false_iff_not];exact fun e=>hn ((zo.zero _ _).1 e)
structure Vs(w:World)(b:Nat)(s:Sc):Prop where
 c0:w.cell? ⟨b,0,none⟩=some (.slice s.KA s.kn s.kc)
 c1:w.cell? ⟨b,1,none⟩=some (.slice s.AA s.an s.ac)
theorem Vs.keep{w w':World}{b:Nat}{s:Sc}(h:Vs w b s)(hb:Below w.heap.size w w'):Vs w' b s:=⟨zb hb h.c0,zb hb h.c1⟩
theorem zeZ(w:World)(s:Sc)(t:TypeId):Vs (w.alloc (.cells #[.slice s.KA s.kn s.kc,.slice s.AA s.an s.ac] t)) w.heap.size s :=
 ⟨zx (heap_alloc_last w _) rfl,zx (heap_alloc_last w _) rfl⟩
structure Vk(w:World)(b:Nat)(x:Kn):Prop where
 c0:w.cell? ⟨b,0,none⟩=some (.string x.d.nm)
 c1:w.cell? ⟨b,1,none⟩=some (.slice x.UA x.un x.uc)
 c2:w.cell? ⟨b,2,none⟩=some (.slice x.NA x.nn x.nc)
theorem Vk.keep{w w':World}{b:Nat}{x:Kn}(h:Vk w b x)(hb:Below w.heap.size w w'):Vk w' b x:=⟨zb hb h.c0,zb hb h.c1,zb hb h.c2⟩
theorem zpQ(w:World)(x:Kn)(t:TypeId):Vk (w.alloc (.cells #[.string x.d.nm,.slice x.UA x.un x.uc,.slice x.NA x.nn x.nc] t)) w.heap.size x :=
 ⟨zx (heap_alloc_last w _) rfl,zx (heap_alloc_last w _) rfl,zx (heap_alloc_last w _) rfl⟩
theorem zmA(a b c:Int):or2 (or2 a b) c=or2 a (or2 b c):=by
 by_cases h:a=0
 ·rw [h,zT,zT]
 ·rw [zP h,zP h,zP h]
structure Va(w:World)(b:Nat)(x:An):Prop where
 c0:w.cell? ⟨b,0,none⟩=some (.string x.d.id)
 c1:w.cell? ⟨b,1,none⟩=some (.slice x.WA x.wn x.wc)
 c2:w.cell? ⟨b,2,none⟩=some (.slice x.TA x.tn x.tc)
 c3:w.cell? ⟨b,3,none⟩=some (.slice x.NA x.nn x.nc)
theorem Va.keep{w w':World}{b:Nat}{x:An}(h:Va w b x)(hb:Below w.heap.size w w'):Va w' b x:=⟨zb hb h.c0,zb hb h.c1,zb hb h.c2,zb hb h.c3⟩
theorem zpK(w:World)(x:An)(t:TypeId):Va (w.alloc (.cells #[.string x.d.id,.slice x.WA x.wn x.wc,.slice x.TA x.tn x.tc,.slice x.NA x.nn x.nc] t)) w.heap.size x :=
 ⟨zx (heap_alloc_last w _) rfl,zx (heap_alloc_last w _) rfl,zx (heap_alloc_last w _) rfl,zx (heap_alloc_last w _) rfl⟩
end Go.Proofs.YtlkfaliomdbaoaaGreatDoor
