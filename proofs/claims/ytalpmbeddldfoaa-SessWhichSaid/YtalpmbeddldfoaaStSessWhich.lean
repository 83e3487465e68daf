-- A text that a program wrote for this claim (rowgen.py).
import Derived.Test.YtalpmbeddldfoaaR
import Derived.Test.YtalpmbeddldfoaaFChangeoverlaw22SessWhich
namespace Go.Proofs.Ytalpmbeddldfoaa.PA
/-- THE ONE PURE STATEMENT of SessWhich. -/
def SessWhichPure : Prop := ∀ (l0 : List (S111)) (a1 : Int) (a2 : Int), l0.length ≤ maxLen → l0.length * Try.prog.bytesOf 111 ≤ reachBytes → (∀ x ∈ l0, Q111 x) → (Lit.int .i64 a1).wf = true → (Lit.int .i64 a2).wf = true → ∃ k, changeoverlaw22_SessWhich.f k l0 a1 a2 = some true
end Go.Proofs.Ytalpmbeddldfoaa.PA
