/-
  The reference's ValueEnd at sets and records; ValueFault.
-/
import Derived.Test.YtlipgpddcfkllaaRefEnd
namespace Go.Proofs.Ytlipgpddcfkllaa
open Go.RowKit Go.Wk Go.Sort
set_option maxRecDepth 100000

end Go.Proofs.Ytlipgpddcfkllaa
