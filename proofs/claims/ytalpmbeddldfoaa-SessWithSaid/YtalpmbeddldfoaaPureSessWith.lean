/- SessWith's pure statement. -/
import Derived.Test.YtalpmbeddldfoaaPSess
import Derived.Test.YtalpmbeddldfoaaStSessWith
set_option linter.unusedVariables false
set_option linter.unusedSimpArgs false
namespace Go.Proofs.Ytalpmbeddldfoaa.PA
open Go.RowKit Go.IntWalk Go.Proofs.YtalpmbeddldfoaaW.PrintWords Go.Proofs.Ytalpmbeddldfoaa.Hand
/-- The table with x at its client's place r. -/
def put (l : List S111) (r : Nat) (x : S111) : List S111 := if r < l.length ∧ (sg l r).f0 = x.f0 then l.set r x else l.take r ++ ([x] ++ l.drop r)
theorem put_set {l : List S111} {r : Nat} {x : S111} (h : r < l.length ∧ (sg l r).f0 = x.f0) (j : Nat) : sg (put l r x) j = if j = r then x else sg l j := by
  unfold put sg
  rw [if_pos h, List.getD_eq_getElem?_getD, List.getElem?_set]
  by_cases e : r = j
  · subst e; simp [h.1]
  · simp [e, Ne.symm e]
theorem put_ins {l : List S111} {r : Nat} {x : S111} (hr : r ≤ l.length) (h : ¬ (r < l.length ∧ (sg l r).f0 = x.f0)) (j : Nat) : sg (put l r x) j = if j < r then sg l j else if j = r then x else sg l (j - 1) := by
  unfold put
  rw [if_neg h]
  unfold sg
  rw [List.getD_eq_getElem?_getD, List.getElem?_append, List.length_take, Nat.min_eq_left hr]
  by_cases h1 : j < r
  · rw [if_pos h1, if_pos h1, List.getElem?_take, if_pos h1, List.getD_eq_getElem?_getD]
  · rw [if_neg h1, if_neg h1]
    by_cases h2 : j = r
    · subst h2; simp
    · rw [if_neg h2, List.getElem?_append, if_neg (by simp; omega), List.getElem?_drop, List.getD_eq_getElem?_getD]
      congr 2
      simp
      omega
theorem put_len (l : List S111) (r : Nat) (x : S111) (hr : r ≤ l.length) : l.length ≤ (put l r x).length ∧ (put l r x).length ≤ l.length + 1 ∧ r < (put l r x).length := by
  unfold put
  by_cases h : r < l.length ∧ (sg l r).f0 = x.f0
  · rw [if_pos h]; simp; exact h.1
  · rw [if_neg h]; simp; omega
theorem put_up {l : List S111} {r : Nat} {x : S111} (hu : Up l) (ha : At l x.f0 r) : Up (put l r x) ∧ At (put l r x) x.f0 r ∧ sg (put l r x) r = x := by
  have hlen := put_len l r x ha.le
  by_cases h : r < l.length ∧ (sg l r).f0 = x.f0
  · have hf : ∀ j, (sg (put l r x) j).f0 = (sg l j).f0 := fun j => by
      rw [put_set h]
      by_cases e : j = r
      · subst e; rw [if_pos rfl]; exact h.2.symm
      · rw [if_neg e]
    have hl : (put l r x).length = l.length := by unfold put; rw [if_pos h]; simp
    refine ⟨fun j h1 h2 => ?_, ⟨by omega, fun j hj => ?_, fun j hj hk => ?_⟩, by rw [put_set h, if_pos rfl]⟩
    · rw [hf, hf]; exact hu j h1 (by omega)
    · rw [hf]; exact ha.lo j hj
    · rw [hf]; exact ha.hi j hj (by omega)
  · have hl : (put l r x).length = l.length + 1 := by unfold put; rw [if_neg h]; simp; have := ha.le; omega
    have hle := ha.le
    have hgt : ∀ j, r ≤ j → j < l.length → x.f0 < (sg l j).f0 := fun j h1 h2 => by
      rcases (ha.dec hu) with h' | h'
      · exact absurd h' h
      · have h3 := h' j h2
        have h4 := ha.hi j h1 h2
        omega
    refine ⟨fun j h1 h2 => ?_, ⟨by omega, fun j hj => ?_, fun j hj hk => ?_⟩, by rw [put_ins hle h, if_neg (by omega), if_pos rfl]⟩
    · rw [put_ins hle h, put_ins hle h]
      by_cases e1 : j < r
      · rw [if_pos (by omega), if_pos e1]; exact hu j h1 (by omega)
      · by_cases e2 : j = r
        · subst e2; rw [if_pos (by omega), if_neg e1, if_pos rfl]; exact ha.lo (j - 1) (by omega)
        · rw [if_neg e1, if_neg e2, if_neg (by omega)]
          by_cases e3 : j - 1 = r
          · rw [if_pos e3]; exact hgt (j - 1) (by omega) (by omega)
          · rw [if_neg e3]; exact hu (j - 1) (by omega) (by omega)
    · rw [put_ins hle h, if_pos hj]; exact ha.lo j hj
    · rw [put_ins hle h, if_neg (by omega)]
      by_cases e : j = r
      · rw [if_pos e]; exact Int.le_refl _
      · rw [if_neg e]; exact Int.le_of_lt (hgt (j - 1) (by omega) (by omega))
theorem sessWith_ev (l : List S111) (a : S60) (hl : l.length ≤ 100) (hu : Up l) : ∃ r, At l a.f0 r ∧ Ev (fun k => sess_With.f k l a.f0 a.f1 a.f2 a.f3 a.f4 a.f5) (put l r ⟨a.f0, a.f1, a⟩) := by
  obtain ⟨r, ha, hr⟩ := place_ev l a.f0 hl hu
  refine ⟨r, ha, ?_⟩
  have hle := ha.le
  have hc : api_Session_93.f l = some l := by
    simp only [api_Session_93.f, Option.bind_some]
    rw [if_pos (by simp; omega)]
    rfl
  have hi : ∀ x : S111, api_Session_94.f l (r : Int) [x] = some (l.take r ++ ([x] ++ l.drop r)) := fun x => by
    simp only [api_Session_94.f, Option.bind_some, Int.toNat_natCast]
    rw [if_pos (by omega), if_pos (by omega), if_pos (by simp; omega), if_pos (by simp; omega), if_pos (by simp; omega)]
    simp
  unfold sess_With.f
  refine hr.bind ?_
  simp only [hc, hi, Option.bind_some]
  by_cases h : r < l.length ∧ (sg l r).f0 = a.f0
  · have := h.1
    rw [decide_eq_true h]
    (repeat (first | refine Ev_if_pos (by first | assumption | omega | rfl | trivial) ?_ | refine Ev_if_neg (by first | assumption | omega | (intro hh; have := of_decide_eq_true hh; first | contradiction | omega) | (simp; done)) ?_))
    refine Ev_eq (Ev.now _) ?_
    unfold put
    rw [if_pos h]
    rfl
  · rw [decide_eq_false h]
    (repeat (first | refine Ev_if_pos (by first | assumption | omega | rfl | trivial) ?_ | refine Ev_if_neg (by first | assumption | omega | (intro hh; have := of_decide_eq_true hh; first | contradiction | omega) | (simp; done)) ?_))
    refine Ev_eq (Ev.now _) ?_
    unfold put
    rw [if_neg h]
theorem refTail (l : List S111) (a : S60) (hl : l.length ≤ 100) : ∀ (m i : Nat) (out : List S111), l.length ≤ i + m → out.length ≤ 1000 - m → m ≤ 200 → (∀ j, i ≤ j → j < l.length → (sg l j).f0 ≠ a.f0) →
    Ev (fun k => changeoverref22_With.l0 k l out true (i : Int) a.f0 a.f1 a.f2 a.f3 a.f4 a.f5) (out ++ l.drop i)
  | m, i, out, hm, ho, hm2, hne => by
    by_cases h : i < l.length
    · obtain ⟨m, rfl⟩ : ∃ m', m = m' + 1 := ⟨m - 1, by omega⟩
      have e2 := wrap_up i (by omega)
      have hc := hne i (Nat.le_refl _) h
      have ih := refTail l a hl m (i + 1) (out ++ [sg l i]) (by omega) (by simp; omega) (by omega) (fun j h1 h2 => hne j (by omega) h2)
      have e3 : (out ++ [sg l i]) ++ l.drop (i + 1) = out ++ l.drop i := by
        rw [List.append_assoc, List.drop_eq_getElem_cons h]
        congr 2
        show sg l i :: _ = _
        simp [sg, h]
      rw [e3] at ih
      refine Ev.step (fun k => by simp only [changeoverref22_With.l0]; ((repeat (first | refine Eq.trans (if_pos (by first | assumption | omega | trivial | exact decide_eq_true (by first | assumption | omega) | (simp only [decide_eq_true_eq]; first | assumption | omega) | (simp; done) | (simp; omega))) ?_ | refine Eq.trans (if_neg (by first | assumption | omega | (intro hh; have := of_decide_eq_true hh; first | contradiction | omega) | (simp only [decide_eq_true_eq]; first | assumption | omega) | (simp; done) | (simp; omega))) ?_)); try rfl)) (Ev.step (fun k => ?_) ih)
      simp only [changeoverref22_With.j1, rdS, e2]
      ((repeat (first | refine Eq.trans (if_pos (by first | assumption | omega | trivial | exact decide_eq_true (by first | assumption | omega) | (simp only [decide_eq_true_eq]; first | assumption | omega) | (simp; done) | (simp; omega))) ?_ | refine Eq.trans (if_neg (by first | assumption | omega | (intro hh; have := of_decide_eq_true hh; first | contradiction | omega) | (simp only [decide_eq_true_eq]; first | assumption | omega) | (simp; done) | (simp; omega))) ?_)); try rfl)
    · rw [List.drop_of_length_le (by omega), List.append_nil]
      exact Ev.step (f := fun _ => some out) (fun k => by simp only [changeoverref22_With.l0]; ((repeat (first | refine Eq.trans (if_pos (by first | assumption | omega | trivial | exact decide_eq_true (by first | assumption | omega) | (simp only [decide_eq_true_eq]; first | assumption | omega) | (simp; done) | (simp; omega))) ?_ | refine Eq.trans (if_neg (by first | assumption | omega | (intro hh; have := of_decide_eq_true hh; first | contradiction | omega) | (simp only [decide_eq_true_eq]; first | assumption | omega) | (simp; done) | (simp; omega))) ?_)); try rfl)) (Ev.now _)
theorem refHead (l : List S111) (a : S60) (hl : l.length ≤ 100) (hu : Up l) {r : Nat} (ha : At l a.f0 r) : ∀ (m i : Nat), r ≤ i + m → i ≤ r → m ≤ 100 →
    Ev (fun k => changeoverref22_With.l0 k l (l.take i) false (i : Int) a.f0 a.f1 a.f2 a.f3 a.f4 a.f5) (put l r ⟨a.f0, a.f1, a⟩)
  | m, i, hm, hir, hm2 => by
    have hle := ha.le
    by_cases h : i < r
    · obtain ⟨m, rfl⟩ : ∃ m', m = m' + 1 := ⟨m - 1, by omega⟩
      have e2 := wrap_up i (by omega)
      have hc := ha.lo i h
      have ih := refHead l a hl hu ha m (i + 1) (by omega) (by omega) (by omega)
      have e3 : l.take (i + 1) = l.take i ++ [sg l i] := by
        rw [List.take_succ_eq_append_getElem (by omega)]
        congr 2
        simp [sg, show i < l.length by omega]
      rw [e3] at ih
      have ho : (l.take i).length < 1954687338268 := by simp; omega
      refine Ev.step (fun k => by simp only [changeoverref22_With.l0]; ((repeat (first | refine Eq.trans (if_pos (by first | assumption | omega | trivial | exact decide_eq_true (by first | assumption | omega) | (simp only [decide_eq_true_eq]; first | assumption | omega) | (simp; done) | (simp; omega))) ?_ | refine Eq.trans (if_neg (by first | assumption | omega | (intro hh; have := of_decide_eq_true hh; first | contradiction | omega) | (simp only [decide_eq_true_eq]; first | assumption | omega) | (simp; done) | (simp; omega))) ?_)); try rfl)) (Ev.step (fun k => ?_) ih)
      simp only [changeoverref22_With.j1, rdS, e2]
      ((repeat (first | refine Eq.trans (if_pos (by first | assumption | omega | trivial | exact decide_eq_true (by first | assumption | omega) | (simp only [decide_eq_true_eq]; first | assumption | omega) | (simp; done) | (simp; omega))) ?_ | refine Eq.trans (if_neg (by first | assumption | omega | (intro hh; have := of_decide_eq_true hh; first | contradiction | omega) | (simp only [decide_eq_true_eq]; first | assumption | omega) | (simp; done) | (simp; omega))) ?_)); try rfl)
    · obtain rfl : i = r := by omega
      have ho : (l.take i).length < 1954687338268 := by simp; omega
      have ho2 : (l.take i ++ [(⟨a.f0, a.f1, a⟩ : S111)]).length < 1954687338268 := by simp; omega
      by_cases h2 : i < l.length
      · have e2 := wrap_up i (by omega)
        have hge := ha.hi i (Nat.le_refl _) h2
        have hgt : ∀ j, i + 1 ≤ j → j < l.length → (sg l j).f0 ≠ a.f0 := fun j h3 h4 => by have := hu.lt (show i < j by omega) h4; omega
        by_cases hc : (sg l i).f0 = a.f0
        · have ht := refTail l a hl 100 (i + 1) (l.take i ++ [⟨a.f0, a.f1, a⟩]) (by omega) (by simp; omega) (by omega) hgt
          have e3 : put l i ⟨a.f0, a.f1, a⟩ = (l.take i ++ [⟨a.f0, a.f1, a⟩]) ++ l.drop (i + 1) := by
            unfold put
            rw [if_pos ⟨h2, hc⟩, List.set_eq_take_append_cons_drop, if_pos h2]
            simp
          rw [e3]
          refine Ev.step (fun k => by simp only [changeoverref22_With.l0]; ((repeat (first | refine Eq.trans (if_pos (by first | assumption | omega | trivial | exact decide_eq_true (by first | assumption | omega) | (simp only [decide_eq_true_eq]; first | assumption | omega) | (simp; done) | (simp; omega))) ?_ | refine Eq.trans (if_neg (by first | assumption | omega | (intro hh; have := of_decide_eq_true hh; first | contradiction | omega) | (simp only [decide_eq_true_eq]; first | assumption | omega) | (simp; done) | (simp; omega))) ?_)); try rfl)) (Ev.step (fun k => ?_) ht)
          simp only [changeoverref22_With.j1, rdS, e2, Option.bind_some]
          ((repeat (first | refine Eq.trans (if_pos (by first | assumption | omega | trivial | exact decide_eq_true (by first | assumption | omega) | (simp only [decide_eq_true_eq]; first | assumption | omega) | (simp; done) | (simp; omega))) ?_ | refine Eq.trans (if_neg (by first | assumption | omega | (intro hh; have := of_decide_eq_true hh; first | contradiction | omega) | (simp only [decide_eq_true_eq]; first | assumption | omega) | (simp; done) | (simp; omega))) ?_)); try rfl)
        · have ht := refTail l a hl 100 (i + 1) (l.take i ++ [⟨a.f0, a.f1, a⟩] ++ [sg l i]) (by omega) (by simp; omega) (by omega) hgt
          have e3 : put l i ⟨a.f0, a.f1, a⟩ = (l.take i ++ [⟨a.f0, a.f1, a⟩] ++ [sg l i]) ++ l.drop (i + 1) := by
            unfold put
            rw [if_neg (fun hh => hc hh.2), List.drop_eq_getElem_cons h2]
            simp [sg, h2]
          rw [e3]
          refine Ev.step (fun k => by simp only [changeoverref22_With.l0]; ((repeat (first | refine Eq.trans (if_pos (by first | assumption | omega | trivial | exact decide_eq_true (by first | assumption | omega) | (simp only [decide_eq_true_eq]; first | assumption | omega) | (simp; done) | (simp; omega))) ?_ | refine Eq.trans (if_neg (by first | assumption | omega | (intro hh; have := of_decide_eq_true hh; first | contradiction | omega) | (simp only [decide_eq_true_eq]; first | assumption | omega) | (simp; done) | (simp; omega))) ?_)); try rfl)) (Ev.step (fun k => ?_) ht)
          simp only [changeoverref22_With.j1, rdS, e2, Option.bind_some]
          ((repeat (first | refine Eq.trans (if_pos (by first | assumption | omega | trivial | exact decide_eq_true (by first | assumption | omega) | (simp only [decide_eq_true_eq]; first | assumption | omega) | (simp; done) | (simp; omega))) ?_ | refine Eq.trans (if_neg (by first | assumption | omega | (intro hh; have := of_decide_eq_true hh; first | contradiction | omega) | (simp only [decide_eq_true_eq]; first | assumption | omega) | (simp; done) | (simp; omega))) ?_)); try rfl)
      · have e3 : put l i ⟨a.f0, a.f1, a⟩ = l.take i ++ [⟨a.f0, a.f1, a⟩] := by
          unfold put
          rw [if_neg (fun hh => h2 hh.1), List.drop_of_length_le (by omega), List.append_nil]
        rw [e3]
        exact Ev.step (f := fun _ => some (l.take i ++ [(⟨a.f0, a.f1, a⟩ : S111)])) (fun k => by simp only [changeoverref22_With.l0]; ((repeat (first | refine Eq.trans (if_pos (by first | assumption | omega | trivial | exact decide_eq_true (by first | assumption | omega) | (simp only [decide_eq_true_eq]; first | assumption | omega) | (simp; done) | (simp; omega))) ?_ | refine Eq.trans (if_neg (by first | assumption | omega | (intro hh; have := of_decide_eq_true hh; first | contradiction | omega) | (simp only [decide_eq_true_eq]; first | assumption | omega) | (simp; done) | (simp; omega))) ?_)); try rfl)) (Ev.now _)
theorem refWith_ev (l : List S111) (a : S60) (hl : l.length ≤ 100) (hu : Up l) {r : Nat} (ha : At l a.f0 r) : Ev (fun k => changeoverref22_With.f k l a.f0 a.f1 a.f2 a.f3 a.f4 a.f5) (put l r ⟨a.f0, a.f1, a⟩) :=
  refHead l a hl hu ha r 0 (by omega) (by omega) (by have := ha.le; omega)
theorem same_self (x : S111) : ¬ ((!(x.f0 == x.f0) || (!(x.f1 == x.f1) || ((!(x.f2.f0 == x.f2.f0) || (!(x.f2.f1 == x.f2.f1) || (!(x.f2.f2 == x.f2.f2) || (!(x.f2.f3 == x.f2.f3) || (!(x.f2.f4.toList == x.f2.f4.toList) || (!(x.f2.f5 == x.f2.f5)))))))))) = true) := by simp
theorem same_loop (l : List S111) (hl : l.length ≤ 200) : ∀ (m i : Nat), l.length ≤ i + m → Ev (fun k => changeoverref22_Same.l0 k l l (i : Int)) true
  | m, i, hm => by
    by_cases h : i < l.length
    · obtain ⟨m, rfl⟩ : ∃ m', m = m' + 1 := ⟨m - 1, by omega⟩
      have e2 := wrap_up i (by omega)
      refine Ev.step (fun k => ?_) (same_loop l hl m (i + 1) (by omega))
      have hs := same_self (sg l i)
      simp only [changeoverref22_Same.l0, rdS, e2]
      ((repeat (first | refine Eq.trans (if_pos (by first | assumption | omega | trivial | exact decide_eq_true (by first | assumption | omega) | (simp only [decide_eq_true_eq]; first | assumption | omega) | (simp; done) | (simp; omega))) ?_ | refine Eq.trans (if_neg (by first | assumption | omega | (intro hh; have := of_decide_eq_true hh; first | contradiction | omega) | (simp only [decide_eq_true_eq]; first | assumption | omega) | (simp; done) | (simp; omega))) ?_)); try rfl)
    · exact Ev.step (f := fun _ => some true) (fun k => by simp only [changeoverref22_Same.l0]; ((repeat (first | refine Eq.trans (if_pos (by first | assumption | omega | trivial | exact decide_eq_true (by first | assumption | omega) | (simp only [decide_eq_true_eq]; first | assumption | omega) | (simp; done) | (simp; omega))) ?_ | refine Eq.trans (if_neg (by first | assumption | omega | (intro hh; have := of_decide_eq_true hh; first | contradiction | omega) | (simp only [decide_eq_true_eq]; first | assumption | omega) | (simp; done) | (simp; omega))) ?_)); try rfl)) (Ev.now _)
theorem same_ev (l : List S111) (hl : l.length ≤ 200) : Ev (fun k => changeoverref22_Same.f k l l) true := by
  unfold changeoverref22_Same.f
  exact Ev_if_pos rfl (same_loop l hl l.length 0 (by omega))
theorem with_awake (l : List S111) (a : S60) (d : Int) : Ev (fun k => changeoverlaw22_SessWith.j0 k l d true a.f0 a.f1 a.f2 a.f3 a.f4 a.f5) true :=
  Ev.step (f := fun k => (changeoverlaw22_awake.f k).bind fun t => some t) (fun k => by simp only [changeoverlaw22_SessWith.j0]; ((repeat (first | refine Eq.trans (if_pos (by first | assumption | omega | trivial | exact decide_eq_true (by first | assumption | omega) | (simp only [decide_eq_true_eq]; first | assumption | omega) | (simp; done) | (simp; omega))) ?_ | refine Eq.trans (if_neg (by first | assumption | omega | (intro hh; have := of_decide_eq_true hh; first | contradiction | omega) | (simp only [decide_eq_true_eq]; first | assumption | omega) | (simp; done) | (simp; omega))) ?_)); try rfl)) (awake22.bind (Ev.now _))
theorem ans_self (a : S60) : (!(a.f0 == a.f0) || (!(a.f1 == a.f1) || (!(a.f2 == a.f2) || (!(a.f3 == a.f3) || (!(a.f4.toList == a.f4.toList) || (!(a.f5 == a.f5))))))) = false := by simp
theorem with_main (l : List S111) (a : S60) (d : Int) (hl : l.length ≤ 90) (hu : Up l) (hd : 0 ≤ d ∧ d ≤ 255) (hs : -9223372036854775808 ≤ a.f1 ∧ a.f1 ≤ 9223372036854775807) :
    Ev (fun k => changeoverlaw22_SessWith.j0 k l d false a.f0 a.f1 a.f2 a.f3 a.f4 a.f5) true := by
  obtain ⟨r, ha, hw⟩ := sessWith_ev l a (by omega) hu
  have hrw := refWith_ev l a (by omega) hu ha
  obtain ⟨hup, hat, hx⟩ := put_up (x := ⟨a.f0, a.f1, a⟩) hu ha
  have hlen := put_len l r ⟨a.f0, a.f1, a⟩ ha.le
  have hw2 : ∀ s, Ev (fun k => sess_Which.f k (put l r ⟨a.f0, a.f1, a⟩) a.f0 s) (if s > a.f1 then (0, tupA z60) else if s = a.f1 then (1, tupA a) else (2, tupA z60)) := fun s => by
    obtain ⟨r', ha', h⟩ := which_ev (put l r ⟨a.f0, a.f1, a⟩) a.f0 s (by omega) hup
    obtain rfl := hat.uniq ha'
    rw [if_pos ⟨hlen.2.2, by rw [hx]⟩, hx] at h
    exact h
  have h1 := hw2 a.f1
  rw [if_neg (by omega), if_pos rfl] at h1
  refine Ev.step (fun k => by simp only [changeoverlaw22_SessWith.j0]; ((repeat (first | refine Eq.trans (if_pos (by first | assumption | omega | trivial | exact decide_eq_true (by first | assumption | omega) | (simp only [decide_eq_true_eq]; first | assumption | omega) | (simp; done) | (simp; omega))) ?_ | refine Eq.trans (if_neg (by first | assumption | omega | (intro hh; have := of_decide_eq_true hh; first | contradiction | omega) | (simp only [decide_eq_true_eq]; first | assumption | omega) | (simp; done) | (simp; omega))) ?_)); try rfl)) ?_
  refine hw.bind (h1.bind (hrw.bind ((same_ev _ (by omega)).bind (Ev_if_pos rfl (Ev_if_pos rfl ?_)))))
  have hsf := ans_self a
  refine Ev.step (f := fun k => if a.f1 ≥ (-4611686018427387904) then ((sess_Which.f k (put l r ⟨a.f0, a.f1, a⟩) a.f0 (wrap64 ((wrap64 (a.f1 - 1)) - (wrap64 d)))).bind fun bt => (if bt.1 = 2 then ((changeoverlaw22_awake.f k).bind fun t => (some t)) else (some false))) else ((changeoverlaw22_awake.f k).bind fun t => (some t))) (fun k => ?_) ?_
  · simp only [changeoverlaw22_SessWith.j1, tupA, hsf]
    exact if_neg (by simp)
  · by_cases hm : a.f1 ≥ (-4611686018427387904)
    · refine Ev_if_pos hm ?_
      rw [wrap64_in (a.f1 - 1) (by omega), wrap64_in d (by omega), wrap64_in (a.f1 - 1 - d) (by omega)]
      have h2 := hw2 (a.f1 - 1 - d)
      rw [if_neg (by omega), if_neg (by omega)] at h2
      exact h2.bind (Ev_if_pos rfl (awake22.bind (Ev.now _)))
    · exact Ev_if_neg hm (awake22.bind (Ev.now _))
end Go.Proofs.Ytalpmbeddldfoaa.PA
namespace Go.Proofs.Ytalpmbeddldfoaa.Pure
open Go.RowKit Go.Proofs.YtalpmbeddldfoaaW.PrintWords Go.Proofs.Ytalpmbeddldfoaa.Hand Go.Proofs.Ytalpmbeddldfoaa.PA
theorem SessWith : PA.SessWithPure := by
  intro l a d hl _ _ hq hd
  have hd' : 0 ≤ d ∧ d ≤ 255 := wf_u8 hd
  have hs : -9223372036854775808 ≤ a.f1 ∧ a.f1 ≤ 9223372036854775807 := wf_i64 hq.2.1
  obtain ⟨b, hb, hb'⟩ := large_ev l hl
  refine Ev.rounds (g := fun k => changeoverlaw22_SessWith.f k l a.f0 a.f1 a.f2 a.f3 a.f4 a.f5 d) ?_
  unfold changeoverlaw22_SessWith.f
  refine hb.bind ?_
  cases b
  · refine Ev_if_neg (by simp) ?_
    have h40 := hb' rfl
    by_cases h200 : (a.f4.size : Int) > 200
    · exact Ev_if_pos h200 (with_awake l a d)
    · refine Ev_if_neg h200 ?_
      obtain ⟨u, hu, hu'⟩ := rise_ev l (by omega)
      refine hu.bind ?_
      cases u
      · exact with_awake l a d
      · exact with_main l a d (by omega) (hu' rfl) hd' hs
  · exact Ev_if_pos rfl (with_awake l a d)
end Go.Proofs.Ytalpmbeddldfoaa.Pure
