/-
  The reference's ValueNode and UidFault.
-/
import Derived.Test.YtfbgaefbalbohaaAid
import Derived.Test.YtfbgaefbalbohaaNameRef
namespace Go.Proofs.Ytfbgaefbalbohaa
open Go.RowKit Go.Wk Go.Sort
set_option maxRecDepth 100000

end Go.Proofs.Ytfbgaefbalbohaa
