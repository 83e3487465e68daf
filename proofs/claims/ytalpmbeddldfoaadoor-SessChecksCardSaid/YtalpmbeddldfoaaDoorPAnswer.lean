/- What the checks of an answer, and of sessions, say. -/
import Derived.Test.YtalpmbeddldfoaaDoorPKeyVal
import Derived.Test.YtalpmbeddldfoaaDoorHandAnswer
import Derived.Test.YtalpmbeddldfoaaDoorFAnswerCheck
import Derived.Test.YtalpmbeddldfoaaDoorFChangeoverref09Check
set_option linter.unusedVariables false
set_option linter.unusedSimpArgs false
namespace Go.Proofs.YtalpmbeddldfoaaDoor.PA
open Go.RowKit Go.IntWalk Go.Proofs.YtalpmbeddldfoaaDoorW.PrintWords Go.Proofs.YtalpmbeddldfoaaDoor.Hand
theorem refAns_ev (a b c : Int) (d : Bool) (e : ByteArray) (f : Int) (hs : e.size ≤ 1073741824) : Ev (fun k => changeoverref09_Check.f k a b c d e f) (ansR a b c e f) := by
  have jt : Ev (fun k => changeoverref09_Check.j0 k true a b c d e f) 6 := Ev.step (f := fun _ => some 6) (fun k => by simp only [changeoverref09_Check.j0]; ((repeat (first | refine Eq.trans (if_pos (by first | assumption | omega | trivial | exact decide_eq_true (by first | assumption | omega) | (simp only [decide_eq_true_eq]; first | assumption | omega) | (simp; done) | (simp; omega))) ?_ | refine Eq.trans (if_neg (by first | assumption | omega | (intro hh; have := of_decide_eq_true hh; first | contradiction | omega) | (simp only [decide_eq_true_eq]; first | assumption | omega) | (simp; done) | (simp; omega))) ?_)); try rfl)) (Ev.now _)
  by_cases hn : numB a b c f = true
  · have hn' := of_decide_eq_true hn
    unfold changeoverref09_Check.f ansR
    rw [if_pos hn]
    refine Ev_if_neg (by omega) (Ev_if_neg (by omega) (Ev_if_neg (by omega) (Ev_if_neg (by omega) (Ev_if_neg (by omega) (Ev_if_neg (by omega) (Ev_if_neg (by omega) ?_))))))
    rw [decide_eq_false (by omega)]
    refine Ev.step (fun k => by simp only [changeoverref09_Check.j0]; ((repeat (first | refine Eq.trans (if_pos (by first | assumption | omega | trivial | exact decide_eq_true (by first | assumption | omega) | (simp only [decide_eq_true_eq]; first | assumption | omega) | (simp; done) | (simp; omega))) ?_ | refine Eq.trans (if_neg (by first | assumption | omega | (intro hh; have := of_decide_eq_true hh; first | contradiction | omega) | (simp only [decide_eq_true_eq]; first | assumption | omega) | (simp; done) | (simp; omega))) ?_)); try rfl)) ((refVal_ev e hs).bind ?_)
    cases valB e
    · exact Ev_if_neg (by simp) (Ev.now _)
    · exact Ev_if_pos rfl (Ev.now _)
  · have hf : ∀ k, changeoverref09_Check.f k a b c d e f = changeoverref09_Check.j0 k true a b c d e f := fun k => by
      unfold changeoverref09_Check.f
      repeat' split
      all_goals first | rfl | skip
      rw [decide_eq_true]
      exact Classical.byContradiction fun hh => hn (decide_eq_true (by omega))
    refine Ev.congr hf (Ev_eq jt ?_)
    unfold ansR
    rw [if_neg hn]
theorem ans_ev (a b c : Int) (d : Bool) (e : ByteArray) (f : Int) (hs : e.size ≤ 1073741824) : Ev (fun k => answer_Check.f k a b c d e f) (ansR a b c e f) := by
  have jt : Ev (fun k => answer_Check.j0 k true a b c d e f) 6 := Ev.step (f := fun _ => some 6) (fun k => by simp only [answer_Check.j0]; ((repeat (first | refine Eq.trans (if_pos (by first | assumption | omega | trivial | exact decide_eq_true (by first | assumption | omega) | (simp only [decide_eq_true_eq]; first | assumption | omega) | (simp; done) | (simp; omega))) ?_ | refine Eq.trans (if_neg (by first | assumption | omega | (intro hh; have := of_decide_eq_true hh; first | contradiction | omega) | (simp only [decide_eq_true_eq]; first | assumption | omega) | (simp; done) | (simp; omega))) ?_)); try rfl)) (Ev.now _)
  by_cases hn : numB a b c f = true
  · have hn' := of_decide_eq_true hn
    unfold answer_Check.f ansR
    rw [if_pos hn]
    refine Ev_if_neg (by omega) (Ev_if_neg (by omega) (Ev_if_neg (by omega) (Ev_if_neg (by omega) (Ev_if_neg (by omega) (Ev_if_neg (by omega) (Ev_if_neg (by omega) ?_))))))
    rw [decide_eq_false (by omega)]
    have hv : Ev (fun k => runes_Val.f k e) (valB e) := by
      unfold runes_Val.f
      exact Ev_if_neg (by omega) ((refVal_ev e hs).bind (Ev.now _))
    refine Ev.step (fun k => by simp only [answer_Check.j0]; ((repeat (first | refine Eq.trans (if_pos (by first | assumption | omega | trivial | exact decide_eq_true (by first | assumption | omega) | (simp only [decide_eq_true_eq]; first | assumption | omega) | (simp; done) | (simp; omega))) ?_ | refine Eq.trans (if_neg (by first | assumption | omega | (intro hh; have := of_decide_eq_true hh; first | contradiction | omega) | (simp only [decide_eq_true_eq]; first | assumption | omega) | (simp; done) | (simp; omega))) ?_)); try rfl)) (hv.bind ?_)
    cases valB e
    · exact Ev_if_neg (by simp) (Ev.now _)
    · exact Ev_if_pos rfl (Ev.now _)
  · have hf : ∀ k, answer_Check.f k a b c d e f = answer_Check.j0 k true a b c d e f := fun k => by
      unfold answer_Check.f
      repeat' split
      all_goals first | rfl | skip
      rw [decide_eq_true]
      exact Classical.byContradiction fun hh => hn (decide_eq_true (by omega))
    refine Ev.congr hf (Ev_eq jt ?_)
    unfold ansR
    rw [if_neg hn]
end Go.Proofs.YtalpmbeddldfoaaDoor.PA
