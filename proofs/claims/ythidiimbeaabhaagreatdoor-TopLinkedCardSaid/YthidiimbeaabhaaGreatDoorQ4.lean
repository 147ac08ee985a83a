/-
  Plain: a uid as a text, there and back. No program in sight.
-/
import Derived.Lib.CutLaws
import Derived.Test.YthidiimbeaabhaaGreatDoorQ3
set_option maxRecDepth 100000
namespace Go.Wk
def wrt(u:Ud):ByteArray:=bv (u.1.data.toList ++ 58 :: 58 ::(quoted u.2).data.toList)
def pr(u:Ud):ByteArray:=if zq u=0 then wrt u else⟨#[]⟩
theorem dR{u:Ud}:zq u=0↔zk u.1=0/\zA u.2=0:=by
 unfold zq;by_cases h:zk u.1=0
 ·rw [if_pos h];exact⟨λh2=>⟨h,h2⟩,λh2=>h2.2⟩
 ·rw [if_neg h];exact⟨λh2=>absurd h2 h,λh2=>absurd h2.1 h⟩
theorem FG{k:ByteArray}(h:zk k=0):k.size<=20:=by
 unfold zk at h;by_cases h1:ix k.data.toList=true
 ·rw [if_pos h1] at h;by_cases h2:20<k.size
  ·rw [if_pos h2] at h;cases h
  ·omega
 ·rw [if_neg h1] at h;cases h
theorem Gp{k:ByteArray}(h:zA k=0):k.size<=60:=by
 unfold zA at h;by_cases h1:60<k.size
 ·rw [if_pos h1] at h;cases h
 ·omega
theorem Gf(u:Ud):u.1 ++(⟨#[58,58]⟩:ByteArray)++ quoted u.2=wrt u:=by
 refine j4 ?_;unfold wrt;rw [eQ];simp [ByteArray.data_append]
end Go.Wk
