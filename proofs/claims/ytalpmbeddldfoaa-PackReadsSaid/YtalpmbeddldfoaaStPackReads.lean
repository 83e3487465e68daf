-- A text that a program wrote for this claim (rowgen.py).
import Derived.Test.YtalpmbeddldfoaaR
import Derived.Test.YtalpmbeddldfoaaFChangeoverlaw04PackReads
namespace Go.Proofs.Ytalpmbeddldfoaa.PA
/-- THE ONE PURE STATEMENT of PackReads. -/
def PackReadsPure : Prop := ∀ (l0 : List (Int)) (l1 : List (Int)) (a2 : Int), l0.length ≤ maxLen → l0.length * Try.prog.bytesOf 5 ≤ reachBytes → (∀ x ∈ l0, (Lit.int .u8 x).wf = true) → l1.length ≤ maxLen → l1.length * Try.prog.bytesOf 5 ≤ reachBytes → (∀ x ∈ l1, (Lit.int .u8 x).wf = true) → (Lit.int .i64 a2).wf = true → ∃ k, changeoverlaw04_PackReads.f k l0 l1 a2 = some true
end Go.Proofs.Ytalpmbeddldfoaa.PA
