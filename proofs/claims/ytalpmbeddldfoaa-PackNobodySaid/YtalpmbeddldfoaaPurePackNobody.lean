/- PackNobody's pure statement. -/
import Derived.Test.YtalpmbeddldfoaaStPackNobody
set_option linter.unusedVariables false
namespace Go.Proofs.Ytalpmbeddldfoaa.Pure
open Go.RowKit Go.Proofs.Ytalpmbeddldfoaa.PA
theorem PackNobody : PA.PackNobodyPure := by
  intro a s _ _
  refine ⟨0, ?_⟩
  unfold changeoverlaw04_PackNobody.f
  split <;> rfl
end Go.Proofs.Ytalpmbeddldfoaa.Pure
