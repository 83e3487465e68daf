-- A text that a program wrote for this claim (rowgen.py).
import Derived.Test.YtalpmbeddldfoaaR
import Derived.Test.YtalpmbeddldfoaaFChangeoverlaw23KvoneKeeps
namespace Go.Proofs.Ytalpmbeddldfoaa.PA
/-- THE ONE PURE STATEMENT of KvoneKeeps. -/
def KvoneKeepsPure : Prop := ∀ (l0 : List (S78)) (x1 : S72) (a2 : ByteArray), l0.length ≤ maxLen → l0.length * Try.prog.bytesOf 78 ≤ reachBytes → (∀ x ∈ l0, Q78 x) → Q72 x1 → a2.size ≤ maxLen → ∃ k, changeoverlaw23_KvoneKeeps.f k l0 x1.f0 x1.f1 x1.f2 x1.f3 x1.f4 x1.f5 x1.f6 a2 = some true
end Go.Proofs.Ytalpmbeddldfoaa.PA
