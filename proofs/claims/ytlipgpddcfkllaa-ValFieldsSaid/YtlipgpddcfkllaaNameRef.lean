/-
  The contracts of the reference's checks of names and texts.
-/
import Derived.Test.YtlipgpddcfkllaaName
namespace Go.Proofs.Ytlipgpddcfkllaa
open Go.RowKit Go.Wk

end Go.Proofs.Ytlipgpddcfkllaa
