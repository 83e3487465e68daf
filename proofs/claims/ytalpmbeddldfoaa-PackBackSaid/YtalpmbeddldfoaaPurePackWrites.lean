/- PackWrites' pure statement. -/
import Derived.Test.YtalpmbeddldfoaaPPack
import Derived.Test.YtalpmbeddldfoaaStPackWrites
set_option linter.unusedVariables false
set_option linter.unusedSimpArgs false
namespace Go.Proofs.Ytalpmbeddldfoaa.PA
open Go.RowKit Go.IntWalk Go.Proofs.YtalpmbeddldfoaaW.PrintWords Go.Proofs.Ytalpmbeddldfoaa.Hand
theorem put_loop (l : List S40) (hf : Few l) : ∀ (m i : Nat), l.length ≤ i + m → Ev (fun k => changeoverlaw04_put.l0 k l (i : Int)) (l.flatMap fb)
  | m, i, hm => by
    have h60 := hf.len
    by_cases h : i < l.length
    · obtain ⟨m, rfl⟩ : ∃ m', m = m' + 1 := ⟨m - 1, by omega⟩
      have e2 := wrap_up i (by omega)
      have hn := hf.num i h
      refine Ev.step (fun k => ?_) (put_loop l hf m (i + 1) (by omega))
      simp only [changeoverlaw04_put.l0, e2, rdF]
      ((repeat (first | refine Eq.trans (if_pos (by first | assumption | omega | trivial | exact decide_eq_true (by first | assumption | omega) | (simp only [decide_eq_true_eq]; first | assumption | omega) | (simp; done) | (simp; omega))) ?_ | refine Eq.trans (if_neg (by first | assumption | omega | (intro hh; have := of_decide_eq_true hh; first | contradiction | omega) | (simp only [decide_eq_true_eq]; first | assumption | omega) | (simp; done) | (simp; omega))) ?_)); try rfl)
    · refine Ev.step (f := fun k => (changeoverref04_Bytes.f k l).bind fun t => some t) (fun k => ?_) ((fbs_ev l hf).bind (Ev.now _))
      simp only [changeoverlaw04_put.l0]
      ((repeat (first | refine Eq.trans (if_pos (by first | assumption | omega | trivial | exact decide_eq_true (by first | assumption | omega) | (simp only [decide_eq_true_eq]; first | assumption | omega) | (simp; done) | (simp; omega))) ?_ | refine Eq.trans (if_neg (by first | assumption | omega | (intro hh; have := of_decide_eq_true hh; first | contradiction | omega) | (simp only [decide_eq_true_eq]; first | assumption | omega) | (simp; done) | (simp; omega))) ?_)); try rfl)
theorem put_ev (l : List S40) (hf : Few l) : Ev (fun k => changeoverlaw04_put.f k l) (l.flatMap fb) := put_loop l hf l.length 0 (by omega)
theorem awake4 : changeoverlaw04_awake.f = some true := rfl
end Go.Proofs.Ytalpmbeddldfoaa.PA
namespace Go.Proofs.Ytalpmbeddldfoaa.Pure
open Go.RowKit Go.Proofs.YtalpmbeddldfoaaW.PrintWords Go.Proofs.Ytalpmbeddldfoaa.Hand Go.Proofs.Ytalpmbeddldfoaa.PA
theorem PackWrites : PA.PackWritesPure := by
  intro l hl _ hq
  obtain ⟨b, hb, hb'⟩ := large4_ev l hl hq
  refine Ev.rounds (g := fun k => changeoverlaw04_PackWrites.f k l) ?_
  unfold changeoverlaw04_PackWrites.f
  refine hb.bind ?_
  cases b
  · have hf := hb' rfl
    have hs := fbs_len l hf
    refine Ev_if_neg (by simp) ?_
    exact (put_ev l hf).bind ((fbs_ev l hf).bind ((same_ev _ (by omega)).bind (Ev_if_pos rfl (Ev_bindO awake4 (Ev.now _)))))
  · exact Ev_if_pos rfl (Ev_bindO awake4 (Ev.now _))
end Go.Proofs.Ytalpmbeddldfoaa.Pure
