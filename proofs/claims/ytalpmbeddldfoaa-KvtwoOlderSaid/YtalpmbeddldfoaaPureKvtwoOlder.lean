/- KvtwoOlder: commands of the first version answer alike in both schemas. -/
import Derived.Test.YtalpmbeddldfoaaPOlder
import Derived.Test.YtalpmbeddldfoaaStKvtwoOlder
set_option linter.unusedVariables false
set_option linter.unusedSimpArgs false
namespace Go.Proofs.Ytalpmbeddldfoaa.PA
open Go.RowKit Go.IntWalk Go.Proofs.YtalpmbeddldfoaaW.PrintWords Go.Proofs.Ytalpmbeddldfoaa.Hand
theorem awake24 : Ev (fun k => changeoverlaw24_awake.f k) true := Ev.of (fun k => changeoverlaw24_awake.mono k) (k := 12) (by kernel_rfl)
theorem plain_go (l : List S78) (hl : l.length ≤ 1000) : ∀ (m i : Nat), l.length ≤ i + m → i ≤ l.length → Ev (fun k => kvtwo_Plain.l0 k ((l.map un).take i ++ l.drop i) (l.length : Int) (i : Int)) (l.map un)
  | m, i, hm, hi => by
    by_cases h : i < l.length
    · obtain ⟨m, rfl⟩ : ∃ m', m = m' + 1 := ⟨m - 1, by omega⟩
      have e2 := wrap_up i (by omega)
      have hlen : ((l.map un).take i ++ l.drop i).length = l.length := by simp; omega
      refine Ev.step (fun k => ?_) (plain_go l hl m (i + 1) (by omega) (by omega))
      simp only [kvtwo_Plain.l0, e2]
      refine Eq.trans (if_pos (by omega)) (Eq.trans (if_pos (by omega)) (Eq.trans (if_pos (by omega)) ?_))
      congr 1
      have hg : pg ((l.map un).take i ++ l.drop i) i = pg l i := by
        unfold pg
        rw [List.getD_eq_getElem?_getD, List.getD_eq_getElem?_getD, List.getElem?_append_right (by simp; omega)]
        simp [Nat.min_eq_left hi]
      rw [rdP, hg, Int.toNat_natCast, List.set_append_right _ _ (by simp; omega)]
      have e3 : i - ((l.map un).take i).length = 0 := by simp; omega
      have hd : l.drop i = l[i] :: l.drop (i + 1) := List.drop_eq_getElem_cons h
      have hp : pg l i = l[i] := by unfold pg; rw [List.getD_eq_getElem?_getD, List.getElem?_eq_getElem h]; rfl
      rw [e3, hd, hp, List.set_cons_zero, List.take_succ_eq_append_getElem (by simpa using h), List.append_assoc]
      simp [un]
    · have e : i = l.length := by omega
      subst e
      refine Ev.step (f := fun _ => some (l.map un)) (fun k => ?_) (Ev.now _)
      simp only [kvtwo_Plain.l0]
      refine Eq.trans (if_neg (by omega)) ?_
      rw [List.take_of_length_le (by simp), List.drop_length, List.append_nil]
theorem plain_is (l : List S78) (hl : l.length ≤ 1000) : Ev (fun k => kvtwo_Plain.f k l) (l.map un) := by
  unfold kvtwo_Plain.f
  refine Ev_bindO (cloneP l hl) ?_
  have := plain_go l hl l.length 0 (by omega) (by omega)
  exact this
/-- What the newer schema's table answers to a command that is no compare and swap. -/
theorem newDo_ev (l : List S78) (hl : l.length ≤ 500) (hu : UpP l) (a b c : Int) (d e f : ByteArray) (g : Int) (h5 : ¬ a = 5) {r : Nat} (ha : AtP l d.toList r) :
    ∃ X, X.length ≤ 501 ∧ Ev (fun k => kvtwo_Do.f k l a b c d e f g) (X, (oldDo l r a b c d e).2) ∧ X.map un = (oldDo (l.map un) r a b c d e).1 ∧ (oldDo (l.map un) r a b c d e).2 = (oldDo l r a b c d e).2 := by
  have hc := cloneP l (by omega)
  have hf := findP_at l d (by omega) hu ha
  have ho := oldDo_ev l (by omega) hu a b c d e f g ha
  have hk : (r < (l.map un).length ∧ kk (l.map un) r = d.toList) = (r < l.length ∧ kk l r = d.toList) := by rw [kk_un, List.length_map]
  have hv : (pg (l.map un) r).f1 = (pg l r).f1 := by rw [pg_un]; rfl
  have e2 : (oldDo (l.map un) r a b c d e).2 = (oldDo l r a b c d e).2 := by
    unfold oldDo
    simp only [hv, kk_un, List.length_map]
    repeat' split
    all_goals rfl
  by_cases h2 : a = 2
  · by_cases hq : (r < l.length ∧ kk l r = d.toList) ∨ l.length < 64
    · have hr : oldDo l r a b c d e = (putP l r ⟨d, e, 0⟩, b, c, 0, decide (r < l.length ∧ kk l r = d.toList), (if r < l.length ∧ kk l r = d.toList then (pg l r).f1 else ⟨#[]⟩), 0) := by
        unfold oldDo; rw [if_pos h2, if_pos hq]
      have hr' : (oldDo (l.map un) r a b c d e).1 = putP (l.map un) r ⟨d, e, 0⟩ := by
        unfold oldDo
        rw [if_pos h2, if_pos (by rw [hk, List.length_map]; exact hq)]
      have hlen := putP_len l r ⟨d, e, 0⟩ ha.le
      obtain ⟨hu1, ha1, hg1⟩ := putP_up (x := ⟨d, e, 0⟩) hu ha
      obtain ⟨nx, hnx⟩ : ∃ nx, kvtwo_next.f (if r < l.length ∧ kk l r = d.toList then ((pg l r).f0, (pg l r).f1, (pg l r).f2, true) else ((⟨#[]⟩ : ByteArray), (⟨#[]⟩ : ByteArray), 0, false)).2.2.1 = some nx := ⟨_, rfl⟩
      have hs := setP_ev (putP l r ⟨d, e, 0⟩) ⟨d, e, nx⟩ (by omega) hu1 ha1
      have hlen2 := putP_len (putP l r ⟨d, e, 0⟩) r ⟨d, e, nx⟩ ha1.le
      have hat : r < (putP l r ⟨d, e, 0⟩).length ∧ kk (putP l r ⟨d, e, 0⟩) r = d.toList := ⟨hlen.2.2, by show (pg _ r).f0.toList = _; rw [hg1]⟩
      have hX : putP (putP l r ⟨d, e, 0⟩) r ⟨d, e, nx⟩ = (putP l r ⟨d, e, 0⟩).set r ⟨d, e, nx⟩ := by
        unfold putP
        exact if_pos hat
      refine ⟨putP (putP l r ⟨d, e, 0⟩) r ⟨d, e, nx⟩, by rw [hX, List.length_set]; omega, ?_, ?_, e2⟩
      · unfold kvtwo_Do.f
        refine Ev_bindO hc (Ev_if_neg h5 (hf.bind (ho.bind (Ev_if_pos h2 ?_))))
        rw [hr]
        refine Ev.step (fun k => by simp only [kvtwo_Do.j0]; ((repeat (first | refine Eq.trans (if_pos (by first | assumption | omega | trivial | exact decide_eq_true (by first | assumption | omega) | (simp only [decide_eq_true_eq]; first | assumption | omega) | (simp; done) | (simp; omega))) ?_ | refine Eq.trans (if_neg (by first | assumption | omega | (intro hh; have := of_decide_eq_true hh; first | contradiction | omega) | (simp only [decide_eq_true_eq]; first | assumption | omega) | (simp; done) | (simp; omega))) ?_)); try rfl)) ?_
        exact Ev_bindO hnx (hs.bind (Ev.now _))
      · rw [hr', hX, List.map_set, putP_un]
        have e0 : un ⟨d, e, nx⟩ = ⟨d, e, 0⟩ := rfl
        have e1 : un ⟨d, e, 0⟩ = ⟨d, e, 0⟩ := rfl
        rw [e0, e1]
        have hg2 : pg (putP (l.map un) r ⟨d, e, 0⟩) r = ⟨d, e, 0⟩ := (putP_up (x := ⟨d, e, 0⟩) hu.un ha.un).2.2
        have hl2 := (putP_len (l.map un) r ⟨d, e, 0⟩ ha.un.le).2.2
        apply List.ext_getElem (by simp)
        intro i h1 h3
        rw [List.getElem_set]
        split
        · rename_i hi
          subst hi
          have : pg (putP (l.map un) r ⟨d, e, 0⟩) r = (putP (l.map un) r ⟨d, e, 0⟩)[r] := by unfold pg; rw [List.getD_eq_getElem?_getD, List.getElem?_eq_getElem h3]; rfl
          rw [← this, hg2]
        · rfl
    · have hr : oldDo l r a b c d e = (l, b, c, 11, false, ⟨#[]⟩, 0) := by unfold oldDo; rw [if_pos h2, if_neg hq]
      have hr' : (oldDo (l.map un) r a b c d e).1 = l.map un := by
        unfold oldDo
        rw [if_pos h2, if_neg (by rw [hk, List.length_map]; exact hq)]
      refine ⟨l, by omega, ?_, hr'.symm, e2⟩
      unfold kvtwo_Do.f
      refine Ev_bindO hc (Ev_if_neg h5 (hf.bind (ho.bind (Ev_if_pos h2 ?_))))
      rw [hr]
      refine Ev.step (f := fun _ => some (l, b, c, 11, false, ⟨#[]⟩, 0)) (fun k => by simp only [kvtwo_Do.j0]; ((repeat (first | refine Eq.trans (if_pos (by first | assumption | omega | trivial | exact decide_eq_true (by first | assumption | omega) | (simp only [decide_eq_true_eq]; first | assumption | omega) | (simp; done) | (simp; omega))) ?_ | refine Eq.trans (if_neg (by first | assumption | omega | (intro hh; have := of_decide_eq_true hh; first | contradiction | omega) | (simp only [decide_eq_true_eq]; first | assumption | omega) | (simp; done) | (simp; omega))) ?_)); try rfl)) (Ev.now _)
  · have hX : ((oldDo l r a b c d e).1).map un = (oldDo (l.map un) r a b c d e).1 := by
      unfold oldDo
      rw [if_neg h2, if_neg h2]
      by_cases h3 : a = 3
      · rw [if_pos h3, if_pos h3]
      · rw [if_neg h3, if_neg h3]
        by_cases h4 : a = 4
        · rw [if_pos h4, if_pos h4]; exact delP_un _ _ _
        · rw [if_neg h4, if_neg h4]
    have hlen : ((oldDo l r a b c d e).1).length ≤ 500 := by
      unfold oldDo
      rw [if_neg h2]
      have := delP_len l r d.toList
      repeat' split
      all_goals first | omega | (show (delP _ _ _).length ≤ _; omega) | exact hl
    refine ⟨(oldDo l r a b c d e).1, by omega, ?_, hX, e2⟩
    unfold kvtwo_Do.f
    refine Ev_bindO hc (Ev_if_neg h5 (hf.bind (ho.bind (Ev_if_neg h2 ?_))))
    refine Ev.step (f := fun _ => some (oldDo l r a b c d e)) (fun k => by simp only [kvtwo_Do.j0]; ((repeat (first | refine Eq.trans (if_pos (by first | assumption | omega | trivial | exact decide_eq_true (by first | assumption | omega) | (simp only [decide_eq_true_eq]; first | assumption | omega) | (simp; done) | (simp; omega))) ?_ | refine Eq.trans (if_neg (by first | assumption | omega | (intro hh; have := of_decide_eq_true hh; first | contradiction | omega) | (simp only [decide_eq_true_eq]; first | assumption | omega) | (simp; done) | (simp; omega))) ?_)); try rfl)) (Ev.now _)
theorem older_awake (l : List S78) (a b c : Int) (d e f : ByteArray) (g : Int) : Ev (fun k => changeoverlaw24_KvtwoOlder.j0 k l true a b c d e f g) true := by
  refine Ev.step (fun k => by simp only [changeoverlaw24_KvtwoOlder.j0]; ((repeat (first | refine Eq.trans (if_pos (by first | assumption | omega | trivial | exact decide_eq_true (by first | assumption | omega) | (simp only [decide_eq_true_eq]; first | assumption | omega) | (simp; done) | (simp; omega))) ?_ | refine Eq.trans (if_neg (by first | assumption | omega | (intro hh; have := of_decide_eq_true hh; first | contradiction | omega) | (simp only [decide_eq_true_eq]; first | assumption | omega) | (simp; done) | (simp; omega))) ?_)); try rfl)) ?_
  exact (awake24).bind (Ev.now _)
theorem older_main (l : List S78) (hl : l.length ≤ 500) (hu : UpP l) (a b c : Int) (d e f : ByteArray) (g : Int) (h5 : ¬ a = 5) : Ev (fun k => changeoverlaw24_KvtwoOlder.j0 k l false a b c d e f g) true := by
  obtain ⟨r, ha, _⟩ := placeP_ev l d (by omega) hu
  obtain ⟨X, hXl, hX, hm, h2⟩ := newDo_ev l hl hu a b c d e f g h5 ha
  have hp := plain_is l (by omega)
  have ho := oldDo_ev (l.map un) (by simp; omega) hu.un a b c d e f g ha.un
  have hq := plain_is X (by omega)
  have hs : Ev (fun k => changeoverref23_Same.f k (X.map un) (oldDo (l.map un) r a b c d e).1) true := by
    rw [← hm]
    exact sameP_ev _ _ (by simp; omega) rfl (fun i _ => ⟨rfl, rfl, rfl⟩)
  refine Ev.step (fun k => by simp only [changeoverlaw24_KvtwoOlder.j0]; ((repeat (first | refine Eq.trans (if_pos (by first | assumption | omega | trivial | exact decide_eq_true (by first | assumption | omega) | (simp only [decide_eq_true_eq]; first | assumption | omega) | (simp; done) | (simp; omega))) ?_ | refine Eq.trans (if_neg (by first | assumption | omega | (intro hh; have := of_decide_eq_true hh; first | contradiction | omega) | (simp only [decide_eq_true_eq]; first | assumption | omega) | (simp; done) | (simp; omega))) ?_)); try rfl)) ?_
  refine hX.bind (hp.bind (ho.bind (hq.bind (hs.bind (Ev_if_pos rfl (Ev_if_pos ?_ ((awake24).bind (Ev.now _))))))))
  rw [h2]
  simp
end Go.Proofs.Ytalpmbeddldfoaa.PA
namespace Go.Proofs.Ytalpmbeddldfoaa.Pure
open Go.RowKit Go.Proofs.YtalpmbeddldfoaaW.PrintWords Go.Proofs.Ytalpmbeddldfoaa.Hand Go.Proofs.Ytalpmbeddldfoaa.PA
theorem KvtwoOlder : PA.KvtwoOlderPure := by
  intro l x hl _ _ _
  obtain ⟨b, hb, hb'⟩ := largeP_ev l hl
  refine Ev.rounds (g := fun k => changeoverlaw24_KvtwoOlder.f k l x.f0 x.f1 x.f2 x.f3 x.f4 x.f5 x.f6) ?_
  unfold changeoverlaw24_KvtwoOlder.f
  refine hb.bind ?_
  cases b
  · refine Ev_if_neg (by simp) ?_
    obtain ⟨h80, hz⟩ := hb' rfl
    have hlg : ∃ t, changeoverlaw24_large.f x.f0 x.f1 x.f2 x.f3 x.f4 x.f5 x.f6 = some t := by
      unfold changeoverlaw24_large.f
      split
      · exact ⟨_, rfl⟩
      · split <;> exact ⟨_, rfl⟩
    obtain ⟨t, ht⟩ := hlg
    refine Ev_bindO ht ?_
    cases t
    · refine Ev_if_neg (by simp) ?_
      obtain ⟨u, hu, hu'⟩ := riseP_ev l (by omega)
      refine hu.bind ?_
      cases u
      · exact Ev_if_neg (by simp) (older_awake l _ _ _ _ _ _ _)
      · refine Ev_if_pos rfl ?_
        by_cases h5 : x.f0 = 5
        · rw [h5]; exact older_awake l _ _ _ _ _ _ _
        · have e : (x.f0 == 5) = false := by simpa using h5
          rw [e]
          exact older_main l (by omega) (hu' rfl) _ _ _ _ _ _ _ h5
    · exact Ev_if_pos rfl (older_awake l _ _ _ _ _ _ _)
  · exact Ev_if_pos rfl (older_awake l _ _ _ _ _ _ _)
end Go.Proofs.Ytalpmbeddldfoaa.Pure
