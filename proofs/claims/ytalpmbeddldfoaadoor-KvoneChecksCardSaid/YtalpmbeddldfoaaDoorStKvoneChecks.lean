-- A text that a program wrote for this claim (rowgen.py).
import Derived.Test.YtalpmbeddldfoaaDoorR
import Derived.Test.YtalpmbeddldfoaaDoorFChangeoverlaw23KvoneChecks
namespace Go.Proofs.YtalpmbeddldfoaaDoor.PA
/-- THE ONE PURE STATEMENT of KvoneChecks. -/
def KvoneChecksPure : Prop := ∀ (l0 : List (S50)) (a1 : ByteArray), l0.length ≤ maxLen → l0.length * Tryd.prog.bytesOf 50 ≤ reachBytes → (∀ x ∈ l0, Q50 x) → a1.size ≤ maxLen → ∃ k, changeoverlaw23_KvoneChecks.f k l0 a1 = some true
end Go.Proofs.YtalpmbeddldfoaaDoor.PA
