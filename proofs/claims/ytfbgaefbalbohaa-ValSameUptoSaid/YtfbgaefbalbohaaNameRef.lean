/-
  The contracts of the reference's checks of names and texts.
-/
import Derived.Test.YtfbgaefbalbohaaName
namespace Go.Proofs.Ytfbgaefbalbohaa
open Go.RowKit Go.Wk

end Go.Proofs.Ytfbgaefbalbohaa
