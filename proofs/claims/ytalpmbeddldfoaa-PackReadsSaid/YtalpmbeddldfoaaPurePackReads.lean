/- PackReads' pure statement. -/
import Derived.Test.YtalpmbeddldfoaaPGet
import Derived.Test.YtalpmbeddldfoaaStPackReads
set_option linter.unusedVariables false
set_option linter.unusedSimpArgs false
namespace Go.Proofs.Ytalpmbeddldfoaa.PA
open Go.RowKit Go.IntWalk Go.Proofs.YtalpmbeddldfoaaW.PrintWords Go.Proofs.Ytalpmbeddldfoaa.Hand
theorem reads_l1 (b kinds : List Int) (hk : Byt kinds) (hl : kinds.length ≤ 60) : ∀ (m i : Nat), kinds.length ≤ i + m → Ev (fun k => changeoverlaw04_PackReads.l1 k b kinds (i : Int)) true
  | m, i, hm => by
    by_cases h : i < kinds.length
    · obtain ⟨m, rfl⟩ : ∃ m', m = m' + 1 := ⟨m - 1, by omega⟩
      have e2 := wrap_up i (by omega)
      have hb := byt_at hk i h
      refine Ev.step (fun k => ?_) (reads_l1 b kinds hk hl m (i + 1) (by omega))
      simp only [changeoverlaw04_PackReads.l1, e2]
      ((repeat (first | refine Eq.trans (if_pos (by first | assumption | omega | trivial | exact decide_eq_true (by first | assumption | omega) | (simp only [decide_eq_true_eq]; first | assumption | omega) | (simp; done) | (simp; omega))) ?_ | refine Eq.trans (if_neg (by first | assumption | omega | (intro hh; have := of_decide_eq_true hh; first | contradiction | omega) | (simp only [decide_eq_true_eq]; first | assumption | omega) | (simp; done) | (simp; omega))) ?_)); try rfl)
    · refine Ev.step (f := fun _ => some true) (fun k => ?_) (Ev.now _)
      simp only [changeoverlaw04_PackReads.l1]
      ((repeat (first | refine Eq.trans (if_pos (by first | assumption | omega | trivial | exact decide_eq_true (by first | assumption | omega) | (simp only [decide_eq_true_eq]; first | assumption | omega) | (simp; done) | (simp; omega))) ?_ | refine Eq.trans (if_neg (by first | assumption | omega | (intro hh; have := of_decide_eq_true hh; first | contradiction | omega) | (simp only [decide_eq_true_eq]; first | assumption | omega) | (simp; done) | (simp; omega))) ?_)); try rfl)
theorem reads_l0 (b kinds : List Int) (hb : Byt b) (hk : Byt kinds) (hlb : b.length ≤ 500) (hl : kinds.length ≤ 60) : ∀ (m i : Nat), b.length ≤ i + m → Ev (fun k => changeoverlaw04_PackReads.l0 k b kinds (i : Int)) true
  | m, i, hm => by
    by_cases h : i < b.length
    · obtain ⟨m, rfl⟩ : ∃ m', m = m' + 1 := ⟨m - 1, by omega⟩
      have e2 := wrap_up i (by omega)
      have hbb := byt_at hb i h
      refine Ev.step (fun k => ?_) (reads_l0 b kinds hb hk hlb hl m (i + 1) (by omega))
      simp only [changeoverlaw04_PackReads.l0, e2]
      ((repeat (first | refine Eq.trans (if_pos (by first | assumption | omega | trivial | exact decide_eq_true (by first | assumption | omega) | (simp only [decide_eq_true_eq]; first | assumption | omega) | (simp; done) | (simp; omega))) ?_ | refine Eq.trans (if_neg (by first | assumption | omega | (intro hh; have := of_decide_eq_true hh; first | contradiction | omega) | (simp only [decide_eq_true_eq]; first | assumption | omega) | (simp; done) | (simp; omega))) ?_)); try rfl)
    · refine Ev.step (fun k => ?_) (reads_l1 b kinds hk hl kinds.length 0 (by omega))
      simp only [changeoverlaw04_PackReads.l0]
      ((repeat (first | refine Eq.trans (if_pos (by first | assumption | omega | trivial | exact decide_eq_true (by first | assumption | omega) | (simp only [decide_eq_true_eq]; first | assumption | omega) | (simp; done) | (simp; omega))) ?_ | refine Eq.trans (if_neg (by first | assumption | omega | (intro hh; have := of_decide_eq_true hh; first | contradiction | omega) | (simp only [decide_eq_true_eq]; first | assumption | omega) | (simp; done) | (simp; omega))) ?_)); try rfl)
end Go.Proofs.Ytalpmbeddldfoaa.PA
namespace Go.Proofs.Ytalpmbeddldfoaa.Pure
open Go.RowKit Go.Proofs.YtalpmbeddldfoaaW.PrintWords Go.Proofs.Ytalpmbeddldfoaa.Hand Go.Proofs.Ytalpmbeddldfoaa.PA
theorem PackReads : PA.PackReadsPure := by
  intro b kinds most _ _ hb _ _ hk _
  refine Ev.rounds (g := fun k => changeoverlaw04_PackReads.f k b kinds most) ?_
  unfold changeoverlaw04_PackReads.f
  have aw : changeoverlaw04_awake.f = some true := rfl
  by_cases c1 : (b.length : Int) > 500
  · exact Ev_if_pos c1 (Ev_bindO aw (Ev.now _))
  refine Ev_if_neg c1 ?_
  by_cases c2 : (kinds.length : Int) > 60
  · exact Ev_if_pos c2 (Ev_bindO aw (Ev.now _))
  refine Ev_if_neg c2 ?_
  exact reads_l0 b kinds (fun x hx => wf_u8 (hb x hx)) (fun x hx => wf_u8 (hk x hx)) (by omega) (by omega) b.length 0 (by omega)
end Go.Proofs.Ytalpmbeddldfoaa.Pure
