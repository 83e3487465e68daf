/- KvtwoChecks' pure statement. -/
import Derived.Test.YtalpmbeddldfoaaDoorPKv2
import Derived.Test.YtalpmbeddldfoaaDoorFChangeoverlaw24Awake
import Derived.Test.YtalpmbeddldfoaaDoorStKvtwoChecks
set_option linter.unusedVariables false
set_option linter.unusedSimpArgs false
namespace Go.Proofs.YtalpmbeddldfoaaDoor.PA
open Go.RowKit Go.IntWalk Go.Proofs.YtalpmbeddldfoaaDoorW.PrintWords Go.Proofs.YtalpmbeddldfoaaDoor.Hand
theorem awake24 : Ev (fun k => qS.f k) true := Ev.of (fun k => qS.mono k) (k := 12) (by kernel_rfl)
theorem fin24 : Ev (fun k => (qS.f k).bind fun t => some t) true := awake24.bind (Ev.now _)
theorem kv2c_loop (l : List vA) (w : Int) (hl : l.length ≤ 80) (hw : Ev (fun k => vn.f k l) w) : ∀ (m i : Nat), l.length ≤ i + m → Ev (fun k => qp.l0 k l w (l.map un) (i : Int)) true
  | m, i, hm => by
    by_cases h : i < l.length
    · obtain ⟨m, rfl⟩ : ∃ m', m = m' + 1 := ⟨m - 1, by omega⟩
      have e2 := zu i (by omega)
      have ih := kv2c_loop l w hl hw m (i + 1) (by omega)
      have hlm : (l.map un).length = l.length := by simp
      refine Ev.step (f := fun k => qp.j2 k l w (l.map un) (i : Int) true) (fun k => by simp only [qp.l0, hlm]; rw [decide_eq_true (show (i : Int) < (l.length : Int) by omega)]; ((repeat (first | refine Eq.trans (if_pos (by first | assumption | omega | trivial | exact decide_eq_true (by first | assumption | omega) | (simp only [decide_eq_true_eq]; first | assumption | omega) | (simp; done) | (simp; omega))) ?_ | refine Eq.trans (if_neg (by first | assumption | omega | (intro hh; have := of_decide_eq_true hh; first | contradiction | omega) | (simp only [decide_eq_true_eq]; first | assumption | omega) | (simp; done) | (simp; omega))) ?_)); try rfl)) ?_
      have h1 : ((qn (l.map un) (i : Int)).f0).toList = ((qn l (i : Int)).f0).toList := by rw [rdP, pg_un]; rfl
      have h2 : ((qn (l.map un) (i : Int)).f1).toList = ((qn l (i : Int)).f1).toList := by rw [rdP, pg_un]; rfl
      have h3 : (qn (l.map un) (i : Int)).f2 = 0 := by rw [rdP, pg_un]; rfl
      refine Ev.step (fun k => ?_) ih
      simp only [qp.j2, e2, hlm]
      rw [if_pos trivial, if_pos (by omega), if_pos (by omega), if_pos (by omega), if_pos h1, if_pos h2, if_pos h3]
    · have hlm : (l.map un).length = l.length := by simp
      refine Ev.step (f := fun k => qp.j2 k l w (l.map un) (i : Int) false) (fun k => by simp only [qp.l0, hlm]; ((repeat (first | refine Eq.trans (if_pos (by first | assumption | omega | trivial | exact decide_eq_true (by first | assumption | omega) | (simp only [decide_eq_true_eq]; first | assumption | omega) | (simp; done) | (simp; omega))) ?_ | refine Eq.trans (if_neg (by first | assumption | omega | (intro hh; have := of_decide_eq_true hh; first | contradiction | omega) | (simp only [decide_eq_true_eq]; first | assumption | omega) | (simp; done) | (simp; omega))) ?_)); try rfl)) ?_
      refine Ev.step (fun k => by simp only [qp.j2, hlm]; exact if_neg (by simp)) (hw.bind (vp rfl (vp trivial fin24)))
theorem kv2c_j0 (l : List vA) (w : Int) (hl : l.length ≤ 80) (hw : Ev (fun k => vn.f k l) w) : Ev (fun k => qp.j0 k l w) true :=
  Ev.step (fun k => by simp only [qp.j0]; rfl) ((plainUn_is l (by omega)).bind (kv2c_loop l w hl hw l.length 0 (by omega)))
end Go.Proofs.YtalpmbeddldfoaaDoor.PA
namespace Go.Proofs.YtalpmbeddldfoaaDoor.Pure
open Go.RowKit Go.IntWalk Go.Proofs.YtalpmbeddldfoaaDoorW.PrintWords Go.Proofs.YtalpmbeddldfoaaDoor.Hand Go.Proofs.YtalpmbeddldfoaaDoor.PA
theorem KvtwoChecks : PA.KvtwoChecksPure := by
  intro l hl _ _
  obtain ⟨b, hb, hb'⟩ := largeP_ev l hl
  refine Ev.rounds (g := fun k => qp.f k l) ?_
  unfold qp.f
  refine hb.bind ?_
  cases b
  · refine vw (by simp) ?_
    obtain ⟨h80, hz⟩ := hb' rfl
    obtain ⟨d, hd, hd'⟩ := refChk2_ev l (by omega) hz
    obtain ⟨r, hr, hr'⟩ := kv2Chk_ev l (by omega) hz
    refine hd.bind ?_
    cases d
    · refine vw (by simp) (kv2c_j0 l 3 h80 ?_)
      rcases hr' with ⟨_, hg⟩ | ⟨e, _⟩
      · have := hd'.mpr hg; simp at this
      · rw [← e]; exact hr
    · refine vp rfl (kv2c_j0 l 0 h80 ?_)
      rcases hr' with ⟨e, _⟩ | ⟨_, hg⟩
      · rw [← e]; exact hr
      · exact absurd (hd'.mp rfl) hg
  · exact vp rfl fin24
end Go.Proofs.YtalpmbeddldfoaaDoor.Pure
