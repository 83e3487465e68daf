/- The reference for small letters. -/
import Derived.Test.YtalpmbeddldfoaaDoorHandLower
set_option linter.unusedVariables false
namespace Go.Proofs.YtalpmbeddldfoaaDoor.PA
open Go.RowKit Go.IntWalk Go.Proofs.YtalpmbeddldfoaaDoorW.PrintWords Go.Proofs.YtalpmbeddldfoaaDoor.Hand
theorem refLower_go (s : ByteArray) (hb : s.size ≤ 1073741824) : ∀ (m i : Nat), i + m = s.size → Ev (fun k => changeoverref05_Lower.l0 k s ((lowL s).take i) (i : Int)) (strOfNums (lowL s))
  | 0, i, hm => by
    rw [List.take_of_length_le (by rw [lowL_len]; omega)]
    exact Ev.step (f := fun _ => some (strOfNums (lowL s))) (fun k => by simp only [changeoverref05_Lower.l0]; ((repeat (first | refine Eq.trans (if_pos (by first | assumption | omega | trivial | exact decide_eq_true (by first | assumption | omega) | (simp only [decide_eq_true_eq]; first | assumption | omega) | (simp; done) | (simp; omega))) ?_ | refine Eq.trans (if_neg (by first | assumption | omega | (intro hh; have := of_decide_eq_true hh; first | contradiction | omega) | (simp only [decide_eq_true_eq]; first | assumption | omega) | (simp; done) | (simp; omega))) ?_)); try rfl)) (Ev.now _)
  | m + 1, i, hm => by
    have e2 := wrap_up i (by omega)
    have hr := bt_range s (i : Int)
    have hlen : ((lowL s).take i).length < 140737488355328 := by rw [List.length_take, lowL_len]; omega
    have hi : i < (lowL s).length := by rw [lowL_len]; omega
    have ht : (lowL s).take (i + 1) = (lowL s).take i ++ [lowI (bt s (i : Int))] := by
      rw [List.take_succ_eq_append_getElem hi]
      congr 2
      rw [← lowL_at s i (by omega), List.getD_eq_getElem?_getD, List.getElem?_eq_getElem hi]
      rfl
    have ih := refLower_go s hb m (i + 1) (by omega)
    rw [ht] at ih
    refine Ev.step (fun k => ?_) ih
    simp only [changeoverref05_Lower.l0, e2]
    unfold lowI
    by_cases c1 : 65 ≤ bt s (i : Int)
    · by_cases c2 : bt s (i : Int) ≤ 90
      · rw [if_pos (show 65 ≤ bt s (i : Int) ∧ bt s (i : Int) ≤ 90 from ⟨c1, c2⟩)]
        have e3 : (bt s (i : Int) + 32) % 256 = bt s (i : Int) + 32 := by omega
        rw [e3]
        ((repeat (first | refine Eq.trans (if_pos (by first | assumption | omega | trivial | exact decide_eq_true (by first | assumption | omega) | (simp only [decide_eq_true_eq]; first | assumption | omega) | (simp; done) | (simp; omega))) ?_ | refine Eq.trans (if_neg (by first | assumption | omega | (intro hh; have := of_decide_eq_true hh; first | contradiction | omega) | (simp only [decide_eq_true_eq]; first | assumption | omega) | (simp; done) | (simp; omega))) ?_)); try rfl)
      · rw [if_neg (show ¬ (65 ≤ bt s (i : Int) ∧ bt s (i : Int) ≤ 90) by omega)]
        ((repeat (first | refine Eq.trans (if_pos (by first | assumption | omega | trivial | exact decide_eq_true (by first | assumption | omega) | (simp only [decide_eq_true_eq]; first | assumption | omega) | (simp; done) | (simp; omega))) ?_ | refine Eq.trans (if_neg (by first | assumption | omega | (intro hh; have := of_decide_eq_true hh; first | contradiction | omega) | (simp only [decide_eq_true_eq]; first | assumption | omega) | (simp; done) | (simp; omega))) ?_)); try rfl)
    · rw [if_neg (show ¬ (65 ≤ bt s (i : Int) ∧ bt s (i : Int) ≤ 90) by omega)]
      ((repeat (first | refine Eq.trans (if_pos (by first | assumption | omega | trivial | exact decide_eq_true (by first | assumption | omega) | (simp only [decide_eq_true_eq]; first | assumption | omega) | (simp; done) | (simp; omega))) ?_ | refine Eq.trans (if_neg (by first | assumption | omega | (intro hh; have := of_decide_eq_true hh; first | contradiction | omega) | (simp only [decide_eq_true_eq]; first | assumption | omega) | (simp; done) | (simp; omega))) ?_)); try rfl)
theorem refLower_ev (s : ByteArray) (hb : s.size ≤ 1073741824) : Ev (fun k => changeoverref05_Lower.f k s) (strOfNums (lowL s)) := refLower_go s hb s.size 0 (by omega)
end Go.Proofs.YtalpmbeddldfoaaDoor.PA
