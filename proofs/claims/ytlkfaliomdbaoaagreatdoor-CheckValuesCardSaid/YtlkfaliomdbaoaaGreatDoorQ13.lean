/-
  Plain: which types a value has, as the reference's loops have it. No program in sight.
-/
import Derived.Test.YtlkfaliomdbaoaaGreatDoorQ5
set_option maxRecDepth 100000
namespace Go.Wk
end Go.Wk
