-- A text that a program wrote for this claim (rowgen.py).
import Derived.Test.YtalpmbeddldfoaaR
import Derived.Test.YtalpmbeddldfoaaFChangeoverlaw22SessWith
namespace Go.Proofs.Ytalpmbeddldfoaa.PA
/-- THE ONE PURE STATEMENT of SessWith. -/
def SessWithPure : Prop := ∀ (l0 : List (S111)) (x1 : S60) (a2 : Int), l0.length ≤ maxLen → l0.length * Try.prog.bytesOf 111 ≤ reachBytes → (∀ x ∈ l0, Q111 x) → Q60 x1 → (Lit.int .u8 a2).wf = true → ∃ k, changeoverlaw22_SessWith.f k l0 x1.f0 x1.f1 x1.f2 x1.f3 x1.f4 x1.f5 a2 = some true
end Go.Proofs.Ytalpmbeddldfoaa.PA
