/- SessWhich's pure statement. -/
import Derived.Test.YtalpmbeddldfoaaPSess
set_option linter.unusedVariables false
set_option linter.unusedSimpArgs false
namespace Go.Proofs.Ytalpmbeddldfoaa.PA
open Go.RowKit Go.IntWalk Go.Proofs.YtalpmbeddldfoaaW.PrintWords Go.Proofs.Ytalpmbeddldfoaa.Hand
theorem which_awake (l : List S111) (c s : Int) : Ev (fun k => changeoverlaw22_SessWhich.j0 k l c s true) true :=
  Ev.step (f := fun k => (changeoverlaw22_awake.f k).bind fun t => some t) (fun k => by simp only [changeoverlaw22_SessWhich.j0]; ((repeat (first | refine Eq.trans (if_pos (by first | assumption | omega | trivial | exact decide_eq_true (by first | assumption | omega) | (simp only [decide_eq_true_eq]; first | assumption | omega) | (simp; done) | (simp; omega))) ?_ | refine Eq.trans (if_neg (by first | assumption | omega | (intro hh; have := of_decide_eq_true hh; first | contradiction | omega) | (simp only [decide_eq_true_eq]; first | assumption | omega) | (simp; done) | (simp; omega))) ?_)); try rfl)) (awake22.bind (Ev.now _))
theorem empty_list : (⟨#[]⟩ : ByteArray).toList = [] := by
  unfold ByteArray.toList
  unfold ByteArray.toList.loop
  rfl
theorem zero_same : ((tupA z60).1 == 0 && ((tupA z60).2.1 == 0 && ((tupA z60).2.2.1 == 0 && (!(tupA z60).2.2.2.1 && ((tupA z60).2.2.2.2.1.toList == ([] : List UInt8) && (tupA z60).2.2.2.2.2 == 0))))) = true := by
  simp only [tupA, z60, empty_list]
  rfl
theorem which_main (l : List S111) (c s : Int) (hl : l.length ≤ 100) (hu : Up l) : Ev (fun k => changeoverlaw22_SessWhich.j0 k l c s false) true := by
  obtain ⟨r, ha, hw⟩ := which_ev l c s hl hu
  have hla := last_ev l c hl hu ha
  have hh := has_ev l c hl hu ha
  obtain ⟨r', ha', hs⟩ := sessLast_ev l c hl hu
  obtain rfl := ha.uniq ha'
  refine Ev.step (fun k => by simp only [changeoverlaw22_SessWhich.j0]; ((repeat (first | refine Eq.trans (if_pos (by first | assumption | omega | trivial | exact decide_eq_true (by first | assumption | omega) | (simp only [decide_eq_true_eq]; first | assumption | omega) | (simp; done) | (simp; omega))) ?_ | refine Eq.trans (if_neg (by first | assumption | omega | (intro hh; have := of_decide_eq_true hh; first | contradiction | omega) | (simp only [decide_eq_true_eq]; first | assumption | omega) | (simp; done) | (simp; omega))) ?_)); try rfl)) ?_
  refine hw.bind (hla.bind (hh.bind ?_))
  by_cases h : r < l.length ∧ (sg l r).f0 = c
  · simp only [if_pos h] at hs ⊢
    rw [decide_eq_true h]
    refine Ev_if_pos rfl ?_
    by_cases h1 : s > (sg l r).f1
    · simp only [if_pos h1]
      rw [decide_eq_false (by omega)]
      refine Ev.step (fun k => by simp only [changeoverlaw22_SessWhich.j1]; ((repeat (first | refine Eq.trans (if_pos (by first | assumption | omega | trivial | exact decide_eq_true (by first | assumption | omega) | (simp only [decide_eq_true_eq]; first | assumption | omega) | (simp; done) | (simp; omega))) ?_ | refine Eq.trans (if_neg (by first | assumption | omega | (intro hh; have := of_decide_eq_true hh; first | contradiction | omega) | (simp only [decide_eq_true_eq]; first | assumption | omega) | (simp; done) | (simp; omega))) ?_)); try rfl)) ?_
      refine Ev.step (fun k => by simp only [changeoverlaw22_SessWhich.j2]; ((repeat (first | refine Eq.trans (if_pos (by first | assumption | omega | trivial | exact decide_eq_true (by first | assumption | omega) | (simp only [decide_eq_true_eq]; first | assumption | omega) | (simp; done) | (simp; omega))) ?_ | refine Eq.trans (if_neg (by first | assumption | omega | (intro hh; have := of_decide_eq_true hh; first | contradiction | omega) | (simp only [decide_eq_true_eq]; first | assumption | omega) | (simp; done) | (simp; omega))) ?_)); try rfl)) ?_
      refine Ev_if_pos zero_same ?_
      exact hs.bind (Ev_if_pos rfl (awake22.bind (Ev.now _)))
    · simp only [if_neg h1]
      rw [decide_eq_true (by omega)]
      by_cases h2 : s = (sg l r).f1
      · simp only [if_pos h2]
        refine Ev.step (fun k => by simp only [changeoverlaw22_SessWhich.j1]; ((repeat (first | refine Eq.trans (if_pos (by first | assumption | omega | trivial | exact decide_eq_true (by first | assumption | omega) | (simp only [decide_eq_true_eq]; first | assumption | omega) | (simp; done) | (simp; omega))) ?_ | refine Eq.trans (if_neg (by first | assumption | omega | (intro hh; have := of_decide_eq_true hh; first | contradiction | omega) | (simp only [decide_eq_true_eq]; first | assumption | omega) | (simp; done) | (simp; omega))) ?_)); try rfl)) ?_
        refine Ev.step (fun k => by simp only [changeoverlaw22_SessWhich.j2]; ((repeat (first | refine Eq.trans (if_pos (by first | assumption | omega | trivial | exact decide_eq_true (by first | assumption | omega) | (simp only [decide_eq_true_eq]; first | assumption | omega) | (simp; done) | (simp; omega))) ?_ | refine Eq.trans (if_neg (by first | assumption | omega | (intro hh; have := of_decide_eq_true hh; first | contradiction | omega) | (simp only [decide_eq_true_eq]; first | assumption | omega) | (simp; done) | (simp; omega))) ?_)); try rfl)) ?_
        exact hs.bind (Ev_if_pos rfl (awake22.bind (Ev.now _)))
      · simp only [if_neg h2]
        refine Ev.step (fun k => by simp only [changeoverlaw22_SessWhich.j1]; ((repeat (first | refine Eq.trans (if_pos (by first | assumption | omega | trivial | exact decide_eq_true (by first | assumption | omega) | (simp only [decide_eq_true_eq]; first | assumption | omega) | (simp; done) | (simp; omega))) ?_ | refine Eq.trans (if_neg (by first | assumption | omega | (intro hh; have := of_decide_eq_true hh; first | contradiction | omega) | (simp only [decide_eq_true_eq]; first | assumption | omega) | (simp; done) | (simp; omega))) ?_)); try rfl)) ?_
        refine Ev.step (fun k => by simp only [changeoverlaw22_SessWhich.j2]; ((repeat (first | refine Eq.trans (if_pos (by first | assumption | omega | trivial | exact decide_eq_true (by first | assumption | omega) | (simp only [decide_eq_true_eq]; first | assumption | omega) | (simp; done) | (simp; omega))) ?_ | refine Eq.trans (if_neg (by first | assumption | omega | (intro hh; have := of_decide_eq_true hh; first | contradiction | omega) | (simp only [decide_eq_true_eq]; first | assumption | omega) | (simp; done) | (simp; omega))) ?_)); try rfl)) ?_
        refine Ev_if_pos zero_same ?_
        exact hs.bind (Ev_if_pos rfl (awake22.bind (Ev.now _)))
  · simp only [if_neg h] at hs ⊢
    rw [decide_eq_false h]
    refine Ev_if_neg (by simp) ?_
    refine Ev.step (fun k => by simp only [changeoverlaw22_SessWhich.j1]; ((repeat (first | refine Eq.trans (if_pos (by first | assumption | omega | trivial | exact decide_eq_true (by first | assumption | omega) | (simp only [decide_eq_true_eq]; first | assumption | omega) | (simp; done) | (simp; omega))) ?_ | refine Eq.trans (if_neg (by first | assumption | omega | (intro hh; have := of_decide_eq_true hh; first | contradiction | omega) | (simp only [decide_eq_true_eq]; first | assumption | omega) | (simp; done) | (simp; omega))) ?_)); try rfl)) ?_
    refine Ev.step (fun k => by simp only [changeoverlaw22_SessWhich.j2]; ((repeat (first | refine Eq.trans (if_pos (by first | assumption | omega | trivial | exact decide_eq_true (by first | assumption | omega) | (simp only [decide_eq_true_eq]; first | assumption | omega) | (simp; done) | (simp; omega))) ?_ | refine Eq.trans (if_neg (by first | assumption | omega | (intro hh; have := of_decide_eq_true hh; first | contradiction | omega) | (simp only [decide_eq_true_eq]; first | assumption | omega) | (simp; done) | (simp; omega))) ?_)); try rfl)) ?_
    refine Ev_if_pos zero_same ?_
    exact hs.bind (Ev_if_pos rfl (awake22.bind (Ev.now _)))
end Go.Proofs.Ytalpmbeddldfoaa.PA
namespace Go.Proofs.Ytalpmbeddldfoaa.Pure
open Go.RowKit Go.Proofs.YtalpmbeddldfoaaW.PrintWords Go.Proofs.Ytalpmbeddldfoaa.Hand Go.Proofs.Ytalpmbeddldfoaa.PA
theorem SessWhich : PA.SessWhichPure := by
  intro l c s hl _ _ _ _
  obtain ⟨b, hb, hb'⟩ := large_ev l hl
  refine Ev.rounds (g := fun k => changeoverlaw22_SessWhich.f k l c s) ?_
  unfold changeoverlaw22_SessWhich.f
  refine hb.bind ?_
  cases b
  · refine Ev_if_neg (by simp) ?_
    have h40 := hb' rfl
    obtain ⟨d, hd, hd'⟩ := rise_ev l (by omega)
    refine hd.bind ?_
    cases d
    · exact which_awake l c s
    · exact which_main l c s (by omega) (hd' rfl)
  · exact Ev_if_pos rfl (which_awake l c s)
end Go.Proofs.Ytalpmbeddldfoaa.Pure
