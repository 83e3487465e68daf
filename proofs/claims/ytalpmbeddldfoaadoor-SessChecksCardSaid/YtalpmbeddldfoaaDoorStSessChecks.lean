-- A text that a program wrote for this claim (rowgen.py).
import Derived.Test.YtalpmbeddldfoaaDoorR
import Derived.Test.YtalpmbeddldfoaaDoorFChangeoverlaw22SessChecks
namespace Go.Proofs.YtalpmbeddldfoaaDoor.PA
/-- THE ONE PURE STATEMENT of SessChecks. -/
def SessChecksPure : Prop := ∀ (l0 : List (S74)), l0.length ≤ maxLen → l0.length * Tryd.prog.bytesOf 74 ≤ reachBytes → (∀ x ∈ l0, Q74 x) → ∃ k, changeoverlaw22_SessChecks.f k l0 = some true
end Go.Proofs.YtalpmbeddldfoaaDoor.PA
