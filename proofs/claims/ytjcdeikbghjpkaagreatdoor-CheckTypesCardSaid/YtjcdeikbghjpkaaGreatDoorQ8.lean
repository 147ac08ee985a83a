/-
  Plain: a uid as a text, there and back. No program in sight.
-/
import Derived.Lib.IndexMore
import Derived.Lib.CutLaws
import Derived.Test.YtjcdeikbghjpkaaGreatDoorQ4
import Derived.Test.YtjcdeikbghjpkaaGreatDoorQ7
set_option maxRecDepth 100000
namespace Go.Wk
end Go.Wk
