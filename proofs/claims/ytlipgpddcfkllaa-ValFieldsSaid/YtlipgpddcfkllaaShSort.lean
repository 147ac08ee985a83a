/- No sort of slices of nodes at this seat. -/
import Derived.Test.YtlipgpddcfkllaaProg
namespace Go.Proofs
end Go.Proofs
