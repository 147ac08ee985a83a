/-
  Plain: a uid as a text, there and back. No program in sight.
-/
import Derived.Lib.CutLaws
import Derived.Test.YtokiogmfgpidmaaGreatDoorD6
set_option maxRecDepth 100000
namespace Go.Wk
def wrt(u:Ud):ByteArray:=C' (u.1.data.toList ++ 58 :: 58 ::(quoted u.2).data.toList)
def zlf(u:Ud):ByteArray:=if jd u=0 then wrt u else⟨#[]⟩
theorem LV{u:Ud}:jd u=0↔zh u.1=0/\zt u.2=0:=by
 unfold jd;by_cases h:zh u.1=0
 ·rw [if_pos h];exact⟨λh2=>⟨h,h2⟩,λh2=>h2.2⟩
 ·rw [if_neg h];exact⟨λh2=>absurd h2 h,λh2=>absurd h2.1 h⟩
theorem zl3{k:ByteArray}(h:zh k=0):k.size<=20:=by
 unfold zh at h;by_cases h1:Ag k.data.toList=true
 ·rw [if_pos h1] at h;by_cases h2:20<k.size
  ·rw [if_pos h2] at h;cases h
  ·omega
 ·rw [if_neg h1] at h;cases h
theorem zlp{k:ByteArray}(h:zt k=0):k.size<=60:=by
 unfold zt at h;by_cases h1:60<k.size
 ·rw [if_pos h1] at h;cases h
 ·omega
theorem zlG(u:Ud):u.1 ++(⟨#[58,58]⟩:ByteArray)++ quoted u.2=wrt u:=by
 refine ql ?_;unfold wrt;rw [M8];simp [ByteArray.data_append]
end Go.Wk
