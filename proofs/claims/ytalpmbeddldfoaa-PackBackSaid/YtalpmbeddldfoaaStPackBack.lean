-- A text that a program wrote for this claim (rowgen.py).
import Derived.Test.YtalpmbeddldfoaaR
import Derived.Test.YtalpmbeddldfoaaFChangeoverlaw04PackBack
namespace Go.Proofs.Ytalpmbeddldfoaa.PA
/-- THE ONE PURE STATEMENT of PackBack. -/
def PackBackPure : Prop := ∀ (l0 : List (S40)), l0.length ≤ maxLen → l0.length * Try.prog.bytesOf 40 ≤ reachBytes → (∀ x ∈ l0, Q40 x) → ∃ k, changeoverlaw04_PackBack.f k l0 = some true
end Go.Proofs.Ytalpmbeddldfoaa.PA
