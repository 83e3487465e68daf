import Derived.Test.YtalpmbeddldfoaaDoorR
import Derived.Test.YtalpmbeddldfoaaDoorFChangeoverlaw24KvtwoChecks
namespace Go.Proofs.YtalpmbeddldfoaaDoor.PA
def KvtwoChecksPure : Prop := ∀ (l0 : List (vA)), l0.length ≤ maxLen → l0.length * Tryd.prog.bytesOf 50 ≤ reachBytes → (∀ x ∈ l0, Q50 x) → ∃ k, qp.f k l0 = some true
end Go.Proofs.YtalpmbeddldfoaaDoor.PA
