-- A text that a program wrote for this claim (rowgen.py).
import Derived.Test.YtalpmbeddldfoaaR
import Derived.Test.YtalpmbeddldfoaaFChangeoverlaw24KvtwoOlder
namespace Go.Proofs.Ytalpmbeddldfoaa.PA
/-- THE ONE PURE STATEMENT of KvtwoOlder. -/
def KvtwoOlderPure : Prop := ∀ (l0 : List (S78)) (x1 : S72), l0.length ≤ maxLen → l0.length * Try.prog.bytesOf 78 ≤ reachBytes → (∀ x ∈ l0, Q78 x) → Q72 x1 → ∃ k, changeoverlaw24_KvtwoOlder.f k l0 x1.f0 x1.f1 x1.f2 x1.f3 x1.f4 x1.f5 x1.f6 = some true
end Go.Proofs.Ytalpmbeddldfoaa.PA
