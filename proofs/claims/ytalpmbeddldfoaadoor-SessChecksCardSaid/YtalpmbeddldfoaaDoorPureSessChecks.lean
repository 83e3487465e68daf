/- SessChecks' pure statement. -/
import Derived.Test.YtalpmbeddldfoaaDoorPSessChk
import Derived.Test.YtalpmbeddldfoaaDoorFChangeoverlaw22Awake
import Derived.Test.YtalpmbeddldfoaaDoorStSessChecks
set_option linter.unusedVariables false
namespace Go.Proofs.YtalpmbeddldfoaaDoor.PA
open Go.RowKit Go.IntWalk Go.Proofs.YtalpmbeddldfoaaDoorW.PrintWords Go.Proofs.YtalpmbeddldfoaaDoor.Hand
theorem awake22 : Ev (fun k => changeoverlaw22_awake.f k) true := Ev.of (fun k => changeoverlaw22_awake.mono k) (k := 8) (by kernel_rfl)
end Go.Proofs.YtalpmbeddldfoaaDoor.PA
namespace Go.Proofs.YtalpmbeddldfoaaDoor.Pure
open Go.RowKit Go.IntWalk Go.Proofs.YtalpmbeddldfoaaDoorW.PrintWords Go.Proofs.YtalpmbeddldfoaaDoor.Hand Go.Proofs.YtalpmbeddldfoaaDoor.PA
theorem SessChecks : PA.SessChecksPure := by
  intro l hl _ _
  have fin : Ev (fun k => (changeoverlaw22_awake.f k).bind fun t => some t) true := awake22.bind (Ev.now _)
  obtain ⟨b, hb, hb'⟩ := largeS_ev l hl
  refine Ev.rounds (g := fun k => changeoverlaw22_SessChecks.f k l) ?_
  unfold changeoverlaw22_SessChecks.f
  refine hb.bind ?_
  cases b
  · refine Ev_if_neg (by simp) ?_
    obtain ⟨h40, hz⟩ := hb' rfl
    have hz' : ∀ j, j < l.length → (sg l j).f2.f4.size ≤ 1073741824 := fun j hj => Nat.le_trans (hz j hj) (by omega)
    obtain ⟨c, hc, hc'⟩ := ref22_ev l (by omega) hz'
    obtain ⟨r, hr, hr'⟩ := sessChk_ev l (by omega) hz'
    refine hc.bind ?_
    cases c
    · refine Ev_if_neg (by simp) (hr.bind ?_)
      rcases hr' with ⟨_, hg⟩ | ⟨e, _⟩
      · have := hc'.mpr hg; simp at this
      · exact Ev_if_pos e fin
    · refine Ev_if_pos rfl (hr.bind ?_)
      rcases hr' with ⟨e, _⟩ | ⟨_, hg⟩
      · exact Ev_if_pos e fin
      · exact absurd (hc'.mp rfl) hg
  · exact Ev_if_pos rfl fin
end Go.Proofs.YtalpmbeddldfoaaDoor.Pure
