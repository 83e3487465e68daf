/- PackBack's pure statement. -/
import Derived.Test.YtalpmbeddldfoaaPurePackWrites
import Derived.Test.YtalpmbeddldfoaaStPackBack
set_option linter.unusedVariables false
set_option linter.unusedSimpArgs false
namespace Go.Proofs.Ytalpmbeddldfoaa.Pure
open Go.RowKit Go.Proofs.YtalpmbeddldfoaaW.PrintWords Go.Proofs.Ytalpmbeddldfoaa.Hand Go.Proofs.Ytalpmbeddldfoaa.PA
theorem PackBack : PA.PackBackPure := by
  intro l hl _ hq
  obtain ⟨b, hb, hb'⟩ := large4_ev l hl hq
  refine Ev.rounds (g := fun k => changeoverlaw04_PackBack.f k l) ?_
  unfold changeoverlaw04_PackBack.f
  refine hb.bind ?_
  cases b
  · have hf := hb' rfl
    refine Ev_if_neg (by simp) ?_
    exact (put_ev l hf).bind (Ev_bindO awake4 (Ev.now _))
  · exact Ev_if_pos rfl (Ev_bindO awake4 (Ev.now _))
end Go.Proofs.Ytalpmbeddldfoaa.Pure
