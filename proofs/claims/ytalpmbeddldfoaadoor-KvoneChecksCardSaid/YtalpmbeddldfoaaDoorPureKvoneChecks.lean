/- KvoneChecks' pure statement. -/
import Derived.Test.YtalpmbeddldfoaaDoorPKv1
import Derived.Test.YtalpmbeddldfoaaDoorStKvoneChecks
set_option linter.unusedVariables false
set_option linter.unusedSimpArgs false
namespace Go.Proofs.YtalpmbeddldfoaaDoor.PA
open Go.RowKit Go.IntWalk Go.Proofs.YtalpmbeddldfoaaDoorW.PrintWords Go.Proofs.YtalpmbeddldfoaaDoor.Hand
theorem awake23 : Ev (fun k => changeoverlaw23_awake.f k) true := Ev.of (fun k => changeoverlaw23_awake.mono k) (k := 12) (by kernel_rfl)
theorem fin23 : Ev (fun k => (changeoverlaw23_awake.f k).bind fun t => some t) true := awake23.bind (Ev.now _)
theorem kvc_find (l : List S50) (c : ByteArray) (w : Int) (hl : l.length ≤ 80) (hz : ∀ j, j < l.length → (pg l j).f0.size ≤ 200 ∧ (pg l j).f1.size ≤ 200) (hw : Ev (fun k => kvone_Check.f k l) w) :
    Ev (fun k => changeoverlaw23_KvoneChecks.j1 k l c w) true := by
  obtain ⟨b, hb, hs⟩ := riseP_ev l (by omega)
  refine Ev.step (fun k => by simp only [changeoverlaw23_KvoneChecks.j1]; rfl) (hw.bind (Ev_if_pos rfl (hb.bind ?_)))
  cases b
  · exact Ev_if_neg (by simp) fin23
  · refine Ev_if_pos rfl ?_
    have hu := hs rfl
    obtain ⟨r, ha, _⟩ := placeP_ev l c (by omega) hu
    have hf := findP_at l c (by omega) hu ha
    obtain ⟨q, hq, hq'⟩ := refPlace_ev l c (by omega)
    refine hf.bind (hq.bind ?_)
    by_cases h : r < l.length ∧ kk l r = c.toList
    · rw [if_pos h]
      have hqr : q = (r : Int) := by
        rcases hq' with ⟨p, rfl, h1, h2⟩ | ⟨_, h2⟩
        · rw [ha.only hu h1 h2]
        · exact absurd h.2 (h2 r h.1)
      subst hqr
      refine Ev_if_neg (by omega) (Ev_if_pos (by omega) (Ev_if_pos (by have := h.1; omega) (Ev_if_pos ?_ (Ev_if_pos rfl fin23))))
      simp [rdP]
    · rw [if_neg h]
      have hq1 : q = -1 := by
        rcases hq' with ⟨p, rfl, h1, h2⟩ | ⟨h1, _⟩
        · exact absurd ((ha.only hu h1 h2) ▸ ⟨h1, h2⟩) h
        · exact h1
      subst hq1
      have he : (⟨#[]⟩ : ByteArray).toList = [] := by rw [Lib.toList_data]
      refine Ev_if_pos (by omega) (Ev_if_pos ?_ (Ev_if_neg (by simp) fin23))
      dsimp only
      rw [he]
      rfl
end Go.Proofs.YtalpmbeddldfoaaDoor.PA
namespace Go.Proofs.YtalpmbeddldfoaaDoor.Pure
open Go.RowKit Go.IntWalk Go.Proofs.YtalpmbeddldfoaaDoorW.PrintWords Go.Proofs.YtalpmbeddldfoaaDoor.Hand Go.Proofs.YtalpmbeddldfoaaDoor.PA
theorem KvoneChecks : PA.KvoneChecksPure := by
  intro l c hl _ _ _
  obtain ⟨b, hb, hb'⟩ := largeP_ev l hl
  have hawake : Ev (fun k => changeoverlaw23_KvoneChecks.j0 k l c true) true := Ev.step (f := fun k => (changeoverlaw23_awake.f k).bind fun t => some t) (fun k => by simp only [changeoverlaw23_KvoneChecks.j0]; exact if_pos trivial) fin23
  refine Ev.rounds (g := fun k => changeoverlaw23_KvoneChecks.f k l c) ?_
  unfold changeoverlaw23_KvoneChecks.f
  refine hb.bind ?_
  cases b
  · refine Ev_if_neg (by simp) ?_
    obtain ⟨h80, hz⟩ := hb' rfl
    by_cases hc : (c.size : Int) > 200
    · rw [decide_eq_true hc]; exact hawake
    · rw [decide_eq_false hc]
      obtain ⟨d, hd, hd'⟩ := refChk1_ev l (by omega) hz
      obtain ⟨r, hr, hr'⟩ := kvChk_ev l (by omega) hz
      refine Ev.step (fun k => by simp only [changeoverlaw23_KvoneChecks.j0]; exact if_neg (by simp)) (hd.bind ?_)
      cases d
      · refine Ev_if_neg (by simp) (kvc_find l c 3 h80 hz ?_)
        rcases hr' with ⟨_, hg⟩ | ⟨e, _⟩
        · have := hd'.mpr hg; simp at this
        · rw [← e]; exact hr
      · refine Ev_if_pos rfl (kvc_find l c 0 h80 hz ?_)
        rcases hr' with ⟨e, _⟩ | ⟨_, hg⟩
        · rw [← e]; exact hr
        · exact absurd (hd'.mp rfl) hg
  · exact Ev_if_pos rfl hawake
end Go.Proofs.YtalpmbeddldfoaaDoor.Pure
