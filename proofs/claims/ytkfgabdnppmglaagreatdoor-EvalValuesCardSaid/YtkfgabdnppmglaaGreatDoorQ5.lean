/-
  Plain: a uid as a text, there and back. No program in sight.
-/
import Derived.Lib.IndexMore
import Derived.Lib.CutLaws
import Derived.Test.YtkfgabdnppmglaaGreatDoorQ4
set_option maxRecDepth 100000
namespace Go.Wk
def wrt(u:Ud):ByteArray:=zbd (u.1.data.toList ++ 58 :: 58 ::(quoted u.2).data.toList)
def zou(u:Ud):ByteArray:=if zw u=0 then wrt u else⟨#[]⟩
theorem zcM{u:Ud}:zw u=0↔zg u.1=0∧zr u.2=0:=by
 unfold zw;by_cases h:zg u.1=0
 ·rw [if_pos h];exact⟨fun h2=>⟨h,h2⟩,fun h2=>h2.2⟩
 ·rw [if_neg h];exact⟨fun h2=>absurd h2 h,fun h2=>absurd h2.1 h⟩
theorem ztM{k:ByteArray}(h:zg k=0):k.size≤20:=by
 unfold zg at h;by_cases h1:zaT k.data.toList=true
 ·rw [if_pos h1] at h;by_cases h2:20<k.size
  ·rw [if_pos h2] at h;cases h
  ·omega
 ·rw [if_neg h1] at h;cases h
theorem ztB{k:ByteArray}(h:zr k=0):k.size≤60:=by
 unfold zr at h;by_cases h1:60<k.size
 ·rw [if_pos h1] at h;cases h
 ·omega
theorem ztS(u:Ud):u.1 ++(⟨#[58,58]⟩:ByteArray)++ quoted u.2=wrt u:=by
 refine zaq ?_;unfold wrt;rw [zdx];simp [ByteArray.data_append]
end Go.Wk
