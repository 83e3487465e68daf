-- A text that a program wrote for this claim (rowgen.py).
import Derived.Test.YtalpmbeddldfoaaDoorR
import Derived.Test.YtalpmbeddldfoaaDoorFChangeoverlaw05RunesLower
namespace Go.Proofs.YtalpmbeddldfoaaDoor.PA
/-- THE ONE PURE STATEMENT of RunesLower. -/
def RunesLowerPure : Prop := ∀ (a0 : ByteArray), a0.size ≤ maxLen → ∃ k, changeoverlaw05_RunesLower.f k a0 = some true
end Go.Proofs.YtalpmbeddldfoaaDoor.PA
