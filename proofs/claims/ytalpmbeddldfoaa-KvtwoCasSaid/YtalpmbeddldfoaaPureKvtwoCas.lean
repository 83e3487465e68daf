/- KvtwoCas' pure statement. -/
import Derived.Test.YtalpmbeddldfoaaPCheck
import Derived.Test.YtalpmbeddldfoaaStKvtwoCas
set_option linter.unusedVariables false
set_option linter.unusedSimpArgs false
namespace Go.Proofs.Ytalpmbeddldfoaa.PA
open Go.RowKit Go.IntWalk Go.Proofs.YtalpmbeddldfoaaW.PrintWords Go.Proofs.Ytalpmbeddldfoaa.Hand
theorem awake24 : Ev (fun k => changeoverlaw24_awake.f k) true := Ev.of (fun k => changeoverlaw24_awake.mono k) (k := 12) (by kernel_rfl)
theorem cas_awake (l : List S78) (a b c : Int) (d e f : ByteArray) (g : Int) : Ev (fun k => changeoverlaw24_KvtwoCas.j0 k l true a b c d e f g) true :=
  Ev.step (f := fun k => (changeoverlaw24_awake.f k).bind fun t => some t) (fun k => by simp only [changeoverlaw24_KvtwoCas.j0]; ((repeat (first | refine Eq.trans (if_pos (by first | assumption | omega | trivial | exact decide_eq_true (by first | assumption | omega) | (simp only [decide_eq_true_eq]; first | assumption | omega) | (simp; done) | (simp; omega))) ?_ | refine Eq.trans (if_neg (by first | assumption | omega | (intro hh; have := of_decide_eq_true hh; first | contradiction | omega) | (simp only [decide_eq_true_eq]; first | assumption | omega) | (simp; done) | (simp; omega))) ?_)); try rfl)) (awake24.bind (Ev.now _))
theorem cas_loop (l x : List S78) (at_ : Int) (hit : Bool) (a b c : Int) (d e f : ByteArray) (g : Int) (hl : l.length ≤ 1000) (hx : x.length = l.length)
    (h : ∀ i : Nat, i < l.length → kk x i = kk l i ∧ ¬ (pg x i).f2 < (pg l i).f2 ∧ (((i : Int) = at_ ∧ (hit = true → (pg x i).f1.toList = e.toList)) ∨ ((i : Int) ≠ at_ ∧ pg x i = pg l i))) :
    ∀ (m i : Nat), l.length ≤ i + m → Ev (fun k => changeoverlaw24_KvtwoCas.l0 k l x at_ hit (i : Int) a b c d e f g) true
  | m, i, hm => by
    by_cases hi : i < l.length
    · obtain ⟨m, rfl⟩ : ∃ m', m = m' + 1 := ⟨m - 1, by omega⟩
      have e2 := wrap_up i (by omega)
      have hix : i < x.length := by omega
      have ih := cas_loop l x at_ hit a b c d e f g hl hx h m (i + 1) (by omega)
      obtain ⟨h1, h2, h3⟩ := h i hi
      refine Ev.step (fun k => ?_) ih
      simp only [changeoverlaw24_KvtwoCas.l0, rdP, e2]
      rcases h3 with ⟨h4, h5⟩ | ⟨h4, h5⟩
      · cases hit
        · ((repeat (first | refine Eq.trans (if_pos (by first | assumption | omega | trivial | exact decide_eq_true (by first | assumption | omega) | (simp only [decide_eq_true_eq]; first | assumption | omega) | (simp; done) | (simp; omega))) ?_ | refine Eq.trans (if_neg (by first | assumption | omega | (intro hh; have := of_decide_eq_true hh; first | contradiction | omega) | (simp only [decide_eq_true_eq]; first | assumption | omega) | (simp; done) | (simp; omega))) ?_)); try rfl)
        · have h6 := h5 rfl
          ((repeat (first | refine Eq.trans (if_pos (by first | assumption | omega | trivial | exact decide_eq_true (by first | assumption | omega) | (simp only [decide_eq_true_eq]; first | assumption | omega) | (simp; done) | (simp; omega))) ?_ | refine Eq.trans (if_neg (by first | assumption | omega | (intro hh; have := of_decide_eq_true hh; first | contradiction | omega) | (simp only [decide_eq_true_eq]; first | assumption | omega) | (simp; done) | (simp; omega))) ?_)); try rfl)
      · have hs : ¬ ((!((kk x i) == (kk l i)) || (!(((pg x i).f1.toList) == ((pg l i).f1.toList)) || (!((pg x i).f2 == (pg l i).f2)))) = true) := by
          unfold kk
          rw [h5]
          simp
        ((repeat (first | refine Eq.trans (if_pos (by first | assumption | omega | trivial | exact decide_eq_true (by first | assumption | omega) | (simp only [decide_eq_true_eq]; first | assumption | omega) | (simp; done) | (simp; omega))) ?_ | refine Eq.trans (if_neg (by first | assumption | omega | (intro hh; have := of_decide_eq_true hh; first | contradiction | omega) | (simp only [decide_eq_true_eq]; first | assumption | omega) | (simp; done) | (simp; omega))) ?_)); try rfl)
    · exact Ev.step (f := fun k => (changeoverlaw24_awake.f k).bind fun t => some t) (fun k => by simp only [changeoverlaw24_KvtwoCas.l0]; ((repeat (first | refine Eq.trans (if_pos (by first | assumption | omega | trivial | exact decide_eq_true (by first | assumption | omega) | (simp only [decide_eq_true_eq]; first | assumption | omega) | (simp; done) | (simp; omega))) ?_ | refine Eq.trans (if_neg (by first | assumption | omega | (intro hh; have := of_decide_eq_true hh; first | contradiction | omega) | (simp only [decide_eq_true_eq]; first | assumption | omega) | (simp; done) | (simp; omega))) ?_)); try rfl)) (awake24.bind (Ev.now _))
theorem cas_j1 (l x : List S78) (at_ : Int) (hit : Bool) (a b c : Int) (d e f : ByteArray) (g : Int) (q0 q1 q2 : Int) (q3 : Bool) (q4 : ByteArray) (q5 : Int) (hl : l.length ≤ 1000) (hx : x.length = l.length)
    (he : (q2 == 0) = hit) (hsame : hit = false → x = l)
    (h : ∀ i : Nat, i < l.length → kk x i = kk l i ∧ ¬ (pg x i).f2 < (pg l i).f2 ∧ (((i : Int) = at_ ∧ (hit = true → (pg x i).f1.toList = e.toList)) ∨ ((i : Int) ≠ at_ ∧ pg x i = pg l i))) :
    Ev (fun k => changeoverlaw24_KvtwoCas.j1 k l x at_ hit a b c d e f g q0 q1 q2 q3 q4 q5) true := by
  have hloop := cas_loop l x at_ hit a b c d e f g hl hx h l.length 0 (by omega)
  have hj2 : Ev (fun k => changeoverlaw24_KvtwoCas.j2 k l x at_ hit ((x.length : Int) != (l.length : Int)) a b c d e f g) true := by
    have hne : ((x.length : Int) != (l.length : Int)) = false := by rw [hx]; simp
    rw [hne]
    exact Ev.step (fun k => by simp only [changeoverlaw24_KvtwoCas.j2]; ((repeat (first | refine Eq.trans (if_pos (by first | assumption | omega | trivial | exact decide_eq_true (by first | assumption | omega) | (simp only [decide_eq_true_eq]; first | assumption | omega) | (simp; done) | (simp; omega))) ?_ | refine Eq.trans (if_neg (by first | assumption | omega | (intro hh; have := of_decide_eq_true hh; first | contradiction | omega) | (simp only [decide_eq_true_eq]; first | assumption | omega) | (simp; done) | (simp; omega))) ?_)); try rfl)) hloop
  have hne2 : ¬ ((q2 == 0) != hit) = true := by rw [he]; simp
  cases hit
  · have hs := sameP_ev x l (by omega) hx (fun i hi => by rw [hsame rfl]; exact ⟨rfl, rfl, rfl⟩)
    have st : ∀ k, changeoverlaw24_KvtwoCas.j1 (k + 1) l x at_ false a b c d e f g q0 q1 q2 q3 q4 q5 = (changeoverref23_Same.f k x l).bind fun t => (if t = true then (changeoverlaw24_KvtwoCas.j2 k l x at_ false ((x.length : Int) != (l.length : Int)) a b c d e f g) else (changeoverlaw24_KvtwoCas.j2 k l x at_ false true a b c d e f g)) := fun k => by
      simp only [changeoverlaw24_KvtwoCas.j1]
      ((repeat (first | refine Eq.trans (if_pos (by first | assumption | omega | trivial | exact decide_eq_true (by first | assumption | omega) | (simp only [decide_eq_true_eq]; first | assumption | omega) | (simp; done) | (simp; omega))) ?_ | refine Eq.trans (if_neg (by first | assumption | omega | (intro hh; have := of_decide_eq_true hh; first | contradiction | omega) | (simp only [decide_eq_true_eq]; first | assumption | omega) | (simp; done) | (simp; omega))) ?_)); try rfl)
    exact Ev.step st (hs.bind (Ev_if_pos rfl hj2))
  · exact Ev.step (fun k => by simp only [changeoverlaw24_KvtwoCas.j1]; ((repeat (first | refine Eq.trans (if_pos (by first | assumption | omega | trivial | exact decide_eq_true (by first | assumption | omega) | (simp only [decide_eq_true_eq]; first | assumption | omega) | (simp; done) | (simp; omega))) ?_ | refine Eq.trans (if_neg (by first | assumption | omega | (intro hh; have := of_decide_eq_true hh; first | contradiction | omega) | (simp only [decide_eq_true_eq]; first | assumption | omega) | (simp; done) | (simp; omega))) ?_)); try rfl)) hj2
theorem next_eq (v : Int) (h : 1 ≤ v ∧ v ≤ 4294967296) : ∃ n, kvtwo_next.f v = some n ∧ ¬ n < v := by
  refine ⟨_, rfl, ?_⟩
  unfold mn
  rw [wrap64_in _ (by split <;> omega)]
  split <;> omega
theorem cas_main (l : List S78) (a b c : Int) (d e f : ByteArray) (g : Int) (hl : l.length ≤ 64) (hu : UpP l) (hr : Revs l) : Ev (fun k => changeoverlaw24_KvtwoCas.j0 k l false a b c d e f g) true := by
  obtain ⟨r, ha, hp⟩ := placeP_ev l d (by omega) hu
  have hf := findP_ev l d (by omega) hp
  have hc := cloneP l (by omega)
  obtain ⟨q, hq, hq'⟩ := refPlace_ev l d (by omega)
  by_cases h : r < l.length ∧ kk l r = d.toList
  · rw [if_pos h] at hf
    have hq1 : q = (r : Int) := by
      rcases hq' with ⟨p, rfl, h1, h2⟩ | ⟨_, h2⟩
      · rw [ha.only hu h1 h2]
      · exact absurd h.2 (h2 r h.1)
    subst hq1
    have hlt := h.1
    by_cases hit : (pg l r).f1.toList = f.toList
    · obtain ⟨n, hn, hge⟩ := next_eq _ (hr r h.1)
      have hset := setP_ev l ⟨d, e, n⟩ (by omega) hu ha
      have hput : putP l r ⟨d, e, n⟩ = l.set r ⟨d, e, n⟩ := if_pos h
      rw [hput] at hset
      have hcas : Ev (fun k => kvtwo_cas.f k l 5 b c d e f g) (l.set r ⟨d, e, n⟩, b, c, 0, true, (pg l r).f1, n) := by
        unfold kvtwo_cas.f
        refine hf.bind (Ev_if_pos rfl (Ev_if_pos hit ?_))
        exact Ev_bindO hn (hset.bind (Ev.now _))
      have hdo : Ev (fun k => kvtwo_Do.f k l 5 b c d e f g) (l.set r ⟨d, e, n⟩, b, c, 0, true, (pg l r).f1, n) := by
        unfold kvtwo_Do.f
        exact Ev_bindO hc (Ev_if_pos rfl (hcas.bind (Ev.now _)))
      refine Ev.step (fun k => by simp only [changeoverlaw24_KvtwoCas.j0]; ((repeat (first | refine Eq.trans (if_pos (by first | assumption | omega | trivial | exact decide_eq_true (by first | assumption | omega) | (simp only [decide_eq_true_eq]; first | assumption | omega) | (simp; done) | (simp; omega))) ?_ | refine Eq.trans (if_neg (by first | assumption | omega | (intro hh; have := of_decide_eq_true hh; first | contradiction | omega) | (simp only [decide_eq_true_eq]; first | assumption | omega) | (simp; done) | (simp; omega))) ?_)); try rfl)) ?_
      refine hdo.bind (hq.bind (Ev_if_pos (by omega) (Ev_if_pos (by omega) (Ev_if_pos (by omega) ?_))))
      have hh : ((rd_T78 l (r : Int)).f1.toList == f.toList) = true := by rw [rdP]; simpa using hit
      rw [hh]
      refine cas_j1 l _ _ true 5 b c d e f g b c 0 true _ n (by omega) (by simp) rfl (by simp) (fun i hi => ?_)
      have hg : pg (l.set r ⟨d, e, n⟩) i = if i = r then ⟨d, e, n⟩ else pg l i := by
        unfold pg
        rw [List.getD_eq_getElem?_getD, List.getElem?_set]
        by_cases e1 : r = i
        · subst e1; simp [hlt]
        · simp [e1, Ne.symm e1]
      by_cases e1 : i = r
      · subst e1
        rw [if_pos rfl] at hg
        refine ⟨?_, ?_, .inl ⟨rfl, fun _ => ?_⟩⟩
        · show (pg _ i).f0.toList = _; rw [hg]; exact h.2.symm
        · rw [hg]; exact hge
        · rw [hg]
      · rw [if_neg e1] at hg
        refine ⟨?_, ?_, .inr ⟨by omega, hg⟩⟩
        · show (pg _ i).f0.toList = _; rw [hg]
        · rw [hg]; omega
    · have hcas : Ev (fun k => kvtwo_cas.f k l 5 b c d e f g) (l, b, c, 15, true, (pg l r).f1, (pg l r).f2) := by
        unfold kvtwo_cas.f
        exact hf.bind (Ev_if_pos rfl (Ev_if_neg hit (Ev.now _)))
      have hdo : Ev (fun k => kvtwo_Do.f k l 5 b c d e f g) (l, b, c, 15, true, (pg l r).f1, (pg l r).f2) := by
        unfold kvtwo_Do.f
        exact Ev_bindO hc (Ev_if_pos rfl (hcas.bind (Ev.now _)))
      refine Ev.step (fun k => by simp only [changeoverlaw24_KvtwoCas.j0]; ((repeat (first | refine Eq.trans (if_pos (by first | assumption | omega | trivial | exact decide_eq_true (by first | assumption | omega) | (simp only [decide_eq_true_eq]; first | assumption | omega) | (simp; done) | (simp; omega))) ?_ | refine Eq.trans (if_neg (by first | assumption | omega | (intro hh; have := of_decide_eq_true hh; first | contradiction | omega) | (simp only [decide_eq_true_eq]; first | assumption | omega) | (simp; done) | (simp; omega))) ?_)); try rfl)) ?_
      refine hdo.bind (hq.bind (Ev_if_pos (by omega) (Ev_if_pos (by omega) (Ev_if_pos (by omega) ?_))))
      have hh : ((rd_T78 l (r : Int)).f1.toList == f.toList) = false := by rw [rdP]; simpa using hit
      rw [hh]
      refine cas_j1 l _ _ false 5 b c d e f g b c 15 true _ _ (by omega) rfl rfl (fun _ => rfl) (fun i hi => ⟨rfl, Int.lt_irrefl _, ?_⟩)
      by_cases e1 : (i : Int) = r
      · exact .inl ⟨e1, by simp⟩
      · exact .inr ⟨e1, rfl⟩
  · rw [if_neg h] at hf
    have hq1 : q = -1 := by
      rcases hq' with ⟨p, rfl, h1, h2⟩ | ⟨h1, _⟩
      · exact absurd ((ha.only hu h1 h2) ▸ ⟨h1, h2⟩) h
      · exact h1
    subst hq1
    have hcas : Ev (fun k => kvtwo_cas.f k l 5 b c d e f g) (l, b, c, 10, false, (⟨#[]⟩ : ByteArray), 0) := by
      unfold kvtwo_cas.f
      exact hf.bind (Ev_if_neg (by simp) (Ev.now _))
    have hdo : Ev (fun k => kvtwo_Do.f k l 5 b c d e f g) (l, b, c, 10, false, (⟨#[]⟩ : ByteArray), 0) := by
      unfold kvtwo_Do.f
      exact Ev_bindO hc (Ev_if_pos rfl (hcas.bind (Ev.now _)))
    refine Ev.step (fun k => by simp only [changeoverlaw24_KvtwoCas.j0]; ((repeat (first | refine Eq.trans (if_pos (by first | assumption | omega | trivial | exact decide_eq_true (by first | assumption | omega) | (simp only [decide_eq_true_eq]; first | assumption | omega) | (simp; done) | (simp; omega))) ?_ | refine Eq.trans (if_neg (by first | assumption | omega | (intro hh; have := of_decide_eq_true hh; first | contradiction | omega) | (simp only [decide_eq_true_eq]; first | assumption | omega) | (simp; done) | (simp; omega))) ?_)); try rfl)) ?_
    refine hdo.bind (hq.bind (Ev_if_neg (by omega) ?_))
    refine cas_j1 l _ _ false 5 b c d e f g b c 10 false _ _ (by omega) rfl rfl (fun _ => rfl) (fun i hi => ⟨rfl, Int.lt_irrefl _, .inr ⟨by omega, rfl⟩⟩)
end Go.Proofs.Ytalpmbeddldfoaa.PA
namespace Go.Proofs.Ytalpmbeddldfoaa.Pure
open Go.RowKit Go.Proofs.YtalpmbeddldfoaaW.PrintWords Go.Proofs.Ytalpmbeddldfoaa.Hand Go.Proofs.Ytalpmbeddldfoaa.PA
theorem KvtwoCas : PA.KvtwoCasPure := by
  intro l x hl _ _ _
  obtain ⟨b, hb, hb'⟩ := largeP_ev l hl
  refine Ev.rounds (g := fun k => changeoverlaw24_KvtwoCas.f k l x.f0 x.f1 x.f2 x.f3 x.f4 x.f5 x.f6) ?_
  unfold changeoverlaw24_KvtwoCas.f
  refine hb.bind ?_
  cases b
  · refine Ev_if_neg (by simp) ?_
    obtain ⟨h80, hz⟩ := hb' rfl
    have hlg : ∃ t, changeoverlaw24_large.f x.f0 x.f1 x.f2 x.f3 x.f4 x.f5 x.f6 = some t := by
      unfold changeoverlaw24_large.f
      split
      · exact ⟨_, rfl⟩
      · split <;> exact ⟨_, rfl⟩
    obtain ⟨t, ht⟩ := hlg
    refine Ev_bindO ht ?_
    cases t
    · refine Ev_if_neg (by simp) ?_
      obtain ⟨u, hu, hu'⟩ := check2_ev l (by omega) hz
      refine hu.bind ?_
      cases u
      · exact cas_awake l _ _ _ _ _ _ _
      · obtain ⟨h64, hup, hrv⟩ := hu' rfl
        exact cas_main l _ _ _ _ _ _ _ h64 hup hrv
    · exact Ev_if_pos rfl (cas_awake l _ _ _ _ _ _ _)
  · exact Ev_if_pos rfl (cas_awake l _ _ _ _ _ _ _)
end Go.Proofs.Ytalpmbeddldfoaa.Pure
