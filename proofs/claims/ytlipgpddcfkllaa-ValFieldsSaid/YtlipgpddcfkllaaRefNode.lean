/-
  The reference's ValueNode and UidFault.
-/
import Derived.Test.YtlipgpddcfkllaaAid
import Derived.Test.YtlipgpddcfkllaaNameRef
namespace Go.Proofs.Ytlipgpddcfkllaa
open Go.RowKit Go.Wk Go.Sort
set_option maxRecDepth 100000

end Go.Proofs.Ytlipgpddcfkllaa
