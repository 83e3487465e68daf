/- KvoneKeeps: what a command of the older schema leaves. -/
import Derived.Test.YtalpmbeddldfoaaPOlder
import Derived.Test.YtalpmbeddldfoaaPCheck
import Derived.Test.YtalpmbeddldfoaaStKvoneKeeps
set_option linter.unusedVariables false
set_option linter.unusedSimpArgs false
namespace Go.Proofs.Ytalpmbeddldfoaa.PA
open Go.RowKit Go.IntWalk Go.Proofs.YtalpmbeddldfoaaW.PrintWords Go.Proofs.Ytalpmbeddldfoaa.Hand
theorem awake23 : Ev (fun k => changeoverlaw23_awake.f k) true := Ev.of (fun k => changeoverlaw23_awake.mono k) (k := 12) (by kernel_rfl)
def KeyOk (s : ByteArray) : Prop := Ev (fun k => changeoverref05_Key.f k s) true
def ValOk (s : ByteArray) : Prop := Ev (fun k => changeoverref05_Val.f k s) true
def Ok1 (l : List S78) : Prop := (∀ j, j < l.length → KeyOk (pg l j).f0 ∧ ValOk (pg l j).f1 ∧ (pg l j).f2 = 0) ∧ l.length ≤ 64 ∧ UpP l
theorem rise_true (l : List S78) (hl : l.length ≤ 1000) (hu : UpP l) : ∀ (m i : Nat), 1 ≤ i → l.length ≤ i + m → Ev (fun k => changeoverref23_Rise.l0 k l (i : Int)) true
  | m, i, h1, h2 => by
    by_cases h : i < l.length
    · obtain ⟨m, rfl⟩ : ∃ m', m = m' + 1 := ⟨m - 1, by omega⟩
      have e1 := wrap_down i h1 (by omega)
      have e2 := wrap_up i (by omega)
      have hc := hu i h1 h
      refine Ev.step (fun k => ?_) (rise_true l hl hu m (i + 1) (by omega) (by omega))
      simp only [changeoverref23_Rise.l0, e1, e2, rdP]
      ((repeat (first | refine Eq.trans (if_pos (by first | assumption | omega | trivial | exact decide_eq_true (by first | assumption | omega) | (simp only [decide_eq_true_eq]; first | assumption | omega) | (simp; done) | (simp; omega))) ?_ | refine Eq.trans (if_neg (by first | assumption | omega | (intro hh; have := of_decide_eq_true hh; first | contradiction | omega) | (simp only [decide_eq_true_eq]; first | assumption | omega) | (simp; done) | (simp; omega))) ?_)); try rfl)
    · refine Ev.step (f := fun _ => some true) (fun k => ?_) (Ev.now _)
      simp only [changeoverref23_Rise.l0]
      ((repeat (first | refine Eq.trans (if_pos (by first | assumption | omega | trivial | exact decide_eq_true (by first | assumption | omega) | (simp only [decide_eq_true_eq]; first | assumption | omega) | (simp; done) | (simp; omega))) ?_ | refine Eq.trans (if_neg (by first | assumption | omega | (intro hh; have := of_decide_eq_true hh; first | contradiction | omega) | (simp only [decide_eq_true_eq]; first | assumption | omega) | (simp; done) | (simp; omega))) ?_)); try rfl)
theorem check1_step (l : List S78) (i : Nat) (h : i < l.length) (hl : l.length ≤ 1000) : ∀ k, changeoverref23_Check.l0 (k + 1) 1 l (i : Int) = (changeoverref05_Key.f k (pg l i).f0).bind fun t => (if t = true then ((changeoverref05_Val.f k (pg l i).f1).bind fun t2 => (changeoverref23_Check.j1 k 1 l (i : Int) (!t2))) else (changeoverref23_Check.j1 k 1 l (i : Int) true)) := fun k => by
  simp only [changeoverref23_Check.l0, rdP]
  ((repeat (first | refine Eq.trans (if_pos (by first | assumption | omega | trivial | exact decide_eq_true (by first | assumption | omega) | (simp only [decide_eq_true_eq]; first | assumption | omega) | (simp; done) | (simp; omega))) ?_ | refine Eq.trans (if_neg (by first | assumption | omega | (intro hh; have := of_decide_eq_true hh; first | contradiction | omega) | (simp only [decide_eq_true_eq]; first | assumption | omega) | (simp; done) | (simp; omega))) ?_)); try rfl)
theorem check1_bad (l : List S78) (i : Nat) : Ev (fun k => changeoverref23_Check.j1 k 1 l (i : Int) true) false := Ev.step (f := fun _ => some false) (fun k => by simp only [changeoverref23_Check.j1]; ((repeat (first | refine Eq.trans (if_pos (by first | assumption | omega | trivial | exact decide_eq_true (by first | assumption | omega) | (simp only [decide_eq_true_eq]; first | assumption | omega) | (simp; done) | (simp; omega))) ?_ | refine Eq.trans (if_neg (by first | assumption | omega | (intro hh; have := of_decide_eq_true hh; first | contradiction | omega) | (simp only [decide_eq_true_eq]; first | assumption | omega) | (simp; done) | (simp; omega))) ?_)); try rfl)) (Ev.now _)
theorem check1_loop (l : List S78) (hl : l.length ≤ 1000) (hz : ∀ j, j < l.length → (pg l j).f0.size ≤ 200 ∧ (pg l j).f1.size ≤ 200) : ∀ (m i : Nat), l.length ≤ i + m → (∀ j, j < i → j < l.length → KeyOk (pg l j).f0 ∧ ValOk (pg l j).f1 ∧ (pg l j).f2 = 0) →
    ∃ b, Ev (fun k => changeoverref23_Check.l0 k 1 l (i : Int)) b ∧ (b = true → Ok1 l)
  | m, i, hm, hr => by
    by_cases h : i < l.length
    · obtain ⟨m, rfl⟩ : ∃ m', m = m' + 1 := ⟨m - 1, by omega⟩
      have e2 := wrap_up i (by omega)
      obtain ⟨hz0, hz1⟩ := hz i h
      obtain ⟨b1, h1⟩ := key_ev (pg l i).f0 (by omega)
      have wt := check1_bad l i
      have st := check1_step l i h hl
      cases b1
      · refine ⟨false, Ev.step st ?_, by simp⟩
        exact h1.bind (Ev_if_neg (by simp) wt)
      · obtain ⟨b2, h2⟩ := val_ev (pg l i).f1 (by omega)
        cases b2
        · refine ⟨false, Ev.step st ?_, by simp⟩
          exact h1.bind (Ev_if_pos rfl (h2.bind wt))
        · by_cases c1 : (pg l i).f2 = 0
          · obtain ⟨b, hb, hs⟩ := check1_loop l hl hz m (i + 1) (by omega) (fun j hj hk => by
              by_cases e : j = i
              · subst e; exact ⟨h1, h2, c1⟩
              · exact hr j (by omega) hk)
            refine ⟨b, Ev.step st ?_, hs⟩
            refine h1.bind (Ev_if_pos rfl (h2.bind ?_))
            exact Ev.step (fun k => by simp only [changeoverref23_Check.j1, rdP, e2]; ((repeat (first | refine Eq.trans (if_pos (by first | assumption | omega | trivial | exact decide_eq_true (by first | assumption | omega) | (simp only [decide_eq_true_eq]; first | assumption | omega) | (simp; done) | (simp; omega))) ?_ | refine Eq.trans (if_neg (by first | assumption | omega | (intro hh; have := of_decide_eq_true hh; first | contradiction | omega) | (simp only [decide_eq_true_eq]; first | assumption | omega) | (simp; done) | (simp; omega))) ?_)); try rfl)) hb
          · refine ⟨false, Ev.step st ?_, by simp⟩
            refine h1.bind (Ev_if_pos rfl (h2.bind ?_))
            exact Ev.step (f := fun _ => some false) (fun k => by simp only [changeoverref23_Check.j1, rdP]; ((repeat (first | refine Eq.trans (if_pos (by first | assumption | omega | trivial | exact decide_eq_true (by first | assumption | omega) | (simp only [decide_eq_true_eq]; first | assumption | omega) | (simp; done) | (simp; omega))) ?_ | refine Eq.trans (if_neg (by first | assumption | omega | (intro hh; have := of_decide_eq_true hh; first | contradiction | omega) | (simp only [decide_eq_true_eq]; first | assumption | omega) | (simp; done) | (simp; omega))) ?_)); try rfl)) (Ev.now _)
    · by_cases c : (l.length : Int) ≤ 64
      · obtain ⟨b, hb, hs⟩ := riseP_ev l hl
        refine ⟨b, Ev.step (fun k => ?_) (hb.bind (Ev.now _)), fun e => ⟨fun j hj => hr j (by omega) hj, by omega, hs e⟩⟩
        simp only [changeoverref23_Check.l0]
        ((repeat (first | refine Eq.trans (if_pos (by first | assumption | omega | trivial | exact decide_eq_true (by first | assumption | omega) | (simp only [decide_eq_true_eq]; first | assumption | omega) | (simp; done) | (simp; omega))) ?_ | refine Eq.trans (if_neg (by first | assumption | omega | (intro hh; have := of_decide_eq_true hh; first | contradiction | omega) | (simp only [decide_eq_true_eq]; first | assumption | omega) | (simp; done) | (simp; omega))) ?_)); try rfl)
      · refine ⟨false, Ev.step (f := fun _ => some false) (fun k => ?_) (Ev.now _), by simp⟩
        simp only [changeoverref23_Check.l0]
        ((repeat (first | refine Eq.trans (if_pos (by first | assumption | omega | trivial | exact decide_eq_true (by first | assumption | omega) | (simp only [decide_eq_true_eq]; first | assumption | omega) | (simp; done) | (simp; omega))) ?_ | refine Eq.trans (if_neg (by first | assumption | omega | (intro hh; have := of_decide_eq_true hh; first | contradiction | omega) | (simp only [decide_eq_true_eq]; first | assumption | omega) | (simp; done) | (simp; omega))) ?_)); try rfl)
theorem check1_ev (l : List S78) (hl : l.length ≤ 1000) (hz : ∀ j, j < l.length → (pg l j).f0.size ≤ 200 ∧ (pg l j).f1.size ≤ 200) : ∃ b, Ev (fun k => changeoverref23_Check.f k 1 l) b ∧ (b = true → Ok1 l) :=
  check1_loop l hl hz l.length 0 (by omega) (fun j hj _ => by omega)
theorem check1_true (l : List S78) (ho : Ok1 l) : ∀ (m i : Nat), l.length ≤ i + m → Ev (fun k => changeoverref23_Check.l0 k 1 l (i : Int)) true
  | m, i, hm => by
    obtain ⟨hr, h64, hu⟩ := ho
    by_cases h : i < l.length
    · obtain ⟨m, rfl⟩ : ∃ m', m = m' + 1 := ⟨m - 1, by omega⟩
      have e2 := wrap_up i (by omega)
      obtain ⟨h1, h2, c1⟩ := hr i h
      have st := check1_step l i h (by omega)
      refine Ev.step st (Ev.bind h1 (Ev_if_pos rfl (Ev.bind h2 ?_)))
      exact Ev.step (fun k => by simp only [changeoverref23_Check.j1, rdP, e2]; ((repeat (first | refine Eq.trans (if_pos (by first | assumption | omega | trivial | exact decide_eq_true (by first | assumption | omega) | (simp only [decide_eq_true_eq]; first | assumption | omega) | (simp; done) | (simp; omega))) ?_ | refine Eq.trans (if_neg (by first | assumption | omega | (intro hh; have := of_decide_eq_true hh; first | contradiction | omega) | (simp only [decide_eq_true_eq]; first | assumption | omega) | (simp; done) | (simp; omega))) ?_)); try rfl)) (check1_true l ⟨hr, h64, hu⟩ m (i + 1) (by omega))
    · have hb := rise_true l (by omega) hu l.length 1 (by omega) (by omega)
      refine Ev.step (fun k => ?_) (Ev.bind (g := fun k => changeoverref23_Rise.f k l) hb (Ev.now _))
      simp only [changeoverref23_Check.l0]
      ((repeat (first | refine Eq.trans (if_pos (by first | assumption | omega | trivial | exact decide_eq_true (by first | assumption | omega) | (simp only [decide_eq_true_eq]; first | assumption | omega) | (simp; done) | (simp; omega))) ?_ | refine Eq.trans (if_neg (by first | assumption | omega | (intro hh; have := of_decide_eq_true hh; first | contradiction | omega) | (simp only [decide_eq_true_eq]; first | assumption | omega) | (simp; done) | (simp; omega))) ?_)); try rfl)
/-- What a look for a key tells. -/
def fnd (l : List S78) (c : List UInt8) : ByteArray × ByteArray × Int × Bool :=
  match l.find? (fun x => x.f0.toList == c) with
  | some x => (x.f0, x.f1, x.f2, true)
  | none => ((⟨#[]⟩ : ByteArray), (⟨#[]⟩ : ByteArray), 0, false)
theorem pg_at (l : List S78) (i : Nat) (h : i < l.length) : pg l i = l[i] := by
  unfold pg; rw [List.getD_eq_getElem?_getD, List.getElem?_eq_getElem h]; rfl
theorem fnd_ev (l : List S78) (c : ByteArray) (hl : l.length ≤ 1000) (hu : UpP l) : Ev (fun k => kvone_Find.f k l c) (fnd l c.toList) := by
  obtain ⟨r, ha, _⟩ := placeP_ev l c hl hu
  refine Ev_eq (findP_at l c hl hu ha) ?_
  unfold fnd
  by_cases h : r < l.length ∧ kk l r = c.toList
  · have hf : l.find? (fun x => x.f0.toList == c.toList) = some (pg l r) := by
      rw [List.find?_eq_some_iff_getElem]
      refine ⟨beq_iff_eq.mpr h.2, r, h.1, (pg_at l r h.1).symm, fun j hj => ?_⟩
      have hlo := ha.lo j hj
      have : ¬ kk l j = c.toList := fun e => less_irrefl _ (e ▸ hlo)
      have hp := pg_at l j (by omega)
      simp only [Bool.not_eq_eq_eq_not, Bool.not_true, beq_eq_false_iff_ne, ne_eq]
      rw [← hp]
      exact this
    rw [hf, if_pos h]
  · have hn : l.find? (fun x => x.f0.toList == c.toList) = none := by
      rw [List.find?_eq_none]
      intro x hx
      obtain ⟨j, hj, rfl⟩ := List.getElem_of_mem hx
      rcases ha.dec hu with h' | h'
      · exact absurd h' h
      · have := h' j hj
        rw [← pg_at l j hj]
        exact fun e => this (beq_iff_eq.mp e)
    rw [hn, if_neg h]
theorem fnd_none (l : List S78) (c : List UInt8) (h : ∀ j, j < l.length → kk l j ≠ c) : (fnd l c).2.2.2 = false := by
  unfold fnd
  have hn : l.find? (fun x => x.f0.toList == c) = none := by
    rw [List.find?_eq_none]
    intro x hx
    obtain ⟨j, hj, rfl⟩ := List.getElem_of_mem hx
    have := h j hj
    rw [← pg_at l j hj]
    exact fun e => this (beq_iff_eq.mp e)
  rw [hn]
theorem split_at (l : List S78) (r : Nat) (h : r < l.length) : l = l.take r ++ (pg l r :: l.drop (r + 1)) := by
  rw [pg_at l r h, ← List.drop_eq_getElem_cons h, List.take_append_drop]
theorem find_skip (x : S78) (m : List S78) (c : List UInt8) (h : x.f0.toList ≠ c) : (x :: m).find? (fun y => y.f0.toList == c) = m.find? (fun y => y.f0.toList == c) :=
  List.find?_cons_of_neg (by intro e; exact h (beq_iff_eq.mp e))
theorem fnd_put (l : List S78) (r : Nat) (x : S78) (c : List UInt8) (hr : r ≤ l.length) (hne : x.f0.toList ≠ c) : fnd (putP l r x) c = fnd l c := by
  unfold fnd
  congr 1
  by_cases h : r < l.length ∧ kk l r = x.f0.toList
  · have hp : (pg l r).f0.toList ≠ c := by show kk l r ≠ c; rw [h.2]; exact hne
    have e1 : putP l r x = l.take r ++ (x :: l.drop (r + 1)) := by
      unfold putP
      rw [if_pos h, List.set_eq_take_append_cons_drop, if_pos h.1]
    rw [e1]
    conv => rhs; rw [split_at l r h.1]
    rw [List.find?_append, List.find?_append, find_skip _ _ _ hne, find_skip _ _ _ hp]
  · have e1 : putP l r x = l.take r ++ (x :: l.drop r) := by
      unfold putP
      rw [if_neg h]
      rfl
    rw [e1]
    conv => rhs; rw [← List.take_append_drop r l]
    rw [List.find?_append, List.find?_append, find_skip _ _ _ hne]
theorem fnd_put_is (l : List S78) (r : Nat) (x : S78) (hu : UpP l) (ha : AtP l x.f0.toList r) : fnd (putP l r x) x.f0.toList = (x.f0, x.f1, x.f2, true) := by
  obtain ⟨hu1, ha1, hg1⟩ := putP_up (x := x) hu ha
  have hlen := putP_len l r x ha.le
  unfold fnd
  have hf : (putP l r x).find? (fun y => y.f0.toList == x.f0.toList) = some x := by
    rw [List.find?_eq_some_iff_getElem]
    refine ⟨by simp, r, hlen.2.2, ?_, fun j hj => ?_⟩
    · rw [← pg_at _ r hlen.2.2]; exact hg1
    · have hlo := ha1.lo j hj
      have : ¬ kk (putP l r x) j = x.f0.toList := fun e => less_irrefl _ (e ▸ hlo)
      have hp := pg_at (putP l r x) j (by omega)
      simp only [Bool.not_eq_eq_eq_not, Bool.not_true, beq_eq_false_iff_ne, ne_eq]
      rw [← hp]
      exact this
  rw [hf]
theorem fnd_del (l : List S78) (r : Nat) (d c : List UInt8) (hne : d ≠ c) : fnd (delP l r d) c = fnd l c := by
  unfold delP
  by_cases h : r < l.length ∧ kk l r = d
  · rw [if_pos h]
    unfold fnd
    congr 1
    have hp : (pg l r).f0.toList ≠ c := by show kk l r ≠ c; rw [h.2]; exact hne
    conv => rhs; rw [split_at l r h.1]
    rw [List.find?_append, List.find?_append, find_skip _ _ _ hp]
  · rw [if_neg h]
theorem pg_del (l : List S78) (r : Nat) (h : r < l.length) (j : Nat) : pg (l.take r ++ l.drop (r + 1)) j = if j < r then pg l j else pg l (j + 1) := by
  unfold pg
  rw [List.getD_eq_getElem?_getD, List.getElem?_append, List.length_take, Nat.min_eq_left (by omega)]
  by_cases h1 : j < r
  · rw [if_pos h1, if_pos h1, List.getElem?_take, if_pos h1, List.getD_eq_getElem?_getD]
  · rw [if_neg h1, if_neg h1, List.getElem?_drop, List.getD_eq_getElem?_getD]
    congr 2
    omega
theorem delP_up {l : List S78} {r : Nat} {d : List UInt8} (hu : UpP l) (ha : AtP l d r) : UpP (delP l r d) ∧ ∀ j, j < (delP l r d).length → kk (delP l r d) j ≠ d := by
  unfold delP
  by_cases h : r < l.length ∧ kk l r = d
  · rw [if_pos h]
    have hl : (l.take r ++ l.drop (r + 1)).length = l.length - 1 := by simp; omega
    refine ⟨fun j h1 h2 => ?_, fun j hj => ?_⟩
    · show Op.bytesLess (pg _ (j - 1)).f0.toList (pg _ j).f0.toList = true
      rw [pg_del l r h.1, pg_del l r h.1]
      by_cases e1 : j < r
      · rw [if_pos (by omega), if_pos e1]; exact hu j h1 (by omega)
      · by_cases e2 : j = r
        · rw [if_pos (by omega), if_neg e1]; exact hu.lt (by omega) (by omega)
        · rw [if_neg (by omega), if_neg e1]; exact hu.lt (by omega) (by omega)
    · show (pg _ j).f0.toList ≠ _
      rw [pg_del l r h.1]
      by_cases e1 : j < r
      · rw [if_pos e1]; intro e; have := ha.only hu (j := j) (by omega) e; omega
      · rw [if_neg e1]; intro e; have := ha.only hu (j := j + 1) (by omega) e; omega
  · rw [if_neg h]
    refine ⟨hu, fun j hj => ?_⟩
    rcases ha.dec hu with h' | h'
    · exact absurd h' h
    · exact h' j hj
theorem delP_pg (l : List S78) (r : Nat) (d : List UInt8) (j : Nat) : j < (delP l r d).length → ∃ q, q < l.length ∧ pg (delP l r d) j = pg l q := by
  unfold delP
  by_cases h : r < l.length ∧ kk l r = d
  · rw [if_pos h]
    intro hj
    have hl : (l.take r ++ l.drop (r + 1)).length = l.length - 1 := by simp; omega
    rw [pg_del l r h.1]
    by_cases e1 : j < r
    · exact ⟨j, by omega, if_pos e1⟩
    · exact ⟨j + 1, by omega, if_neg e1⟩
  · rw [if_neg h]
    exact fun hj => ⟨j, hj, rfl⟩
theorem putP_pg (l : List S78) (r : Nat) (x : S78) (hr : r ≤ l.length) (j : Nat) (hj : j < (putP l r x).length) : pg (putP l r x) j = x ∨ ∃ q, q < l.length ∧ pg (putP l r x) j = pg l q := by
  by_cases h : r < l.length ∧ kk l r = x.f0.toList
  · have hl : (putP l r x).length = l.length := by unfold putP; rw [if_pos h]; simp
    rw [putP_set h]
    by_cases e : j = r
    · exact .inl (if_pos e)
    · exact .inr ⟨j, by omega, if_neg e⟩
  · have hl : (putP l r x).length = l.length + 1 := by unfold putP; rw [if_neg h]; simp; omega
    rw [putP_ins hr h]
    by_cases e1 : j < r
    · exact .inr ⟨j, by omega, if_pos e1⟩
    · rw [if_neg e1]
      by_cases e2 : j = r
      · exact .inl (if_pos e2)
      · exact .inr ⟨j - 1, by omega, if_neg e2⟩
/-- The last tests: pairs that may be stay so. -/
theorem keeps_j1 (l x : List S78) (a b c : Int) (d e f : ByteArray) (g : Int) (hl : l.length ≤ 1000) (hz : ∀ j, j < l.length → (pg l j).f0.size ≤ 200 ∧ (pg l j).f1.size ≤ 200) (hd : d.size ≤ 200) (he : e.size ≤ 200)
    (hx : Ok1 l → (a = 2 → KeyOk d ∧ ValOk e) → Ok1 x) : Ev (fun k => changeoverlaw23_KvoneKeeps.j1 k l x false a b c d e f g) true := by
  obtain ⟨b1, h1, h1'⟩ := check1_ev l hl hz
  have st : ∀ k, changeoverlaw23_KvoneKeeps.j1 (k + 1) l x false a b c d e f g = ((changeoverref23_Check.f k 1 l).bind fun t617 => (if t617 = true then (if a = 2 then ((changeoverref23_Check.f k 1 (([(⟨d, e, 0⟩ : S78)] : List (S78)))).bind fun t621 => (if t621 = true then ((changeoverref23_Check.f k 1 x).bind fun t622 => (if t622 = true then ((changeoverlaw23_awake.f k).bind fun t623 => (some t623)) else (some false))) else ((changeoverlaw23_awake.f k).bind fun t624 => (some t624)))) else ((changeoverref23_Check.f k 1 x).bind fun t625 => (if t625 = true then ((changeoverlaw23_awake.f k).bind fun t626 => (some t626)) else (some false)))) else ((changeoverlaw23_awake.f k).bind fun t627 => (some t627)))) := fun k => by
    simp only [changeoverlaw23_KvoneKeeps.j1]
    ((repeat (first | refine Eq.trans (if_pos (by first | assumption | omega | trivial | exact decide_eq_true (by first | assumption | omega) | (simp only [decide_eq_true_eq]; first | assumption | omega) | (simp; done) | (simp; omega))) ?_ | refine Eq.trans (if_neg (by first | assumption | omega | (intro hh; have := of_decide_eq_true hh; first | contradiction | omega) | (simp only [decide_eq_true_eq]; first | assumption | omega) | (simp; done) | (simp; omega))) ?_)); try rfl)
  refine Ev.step st (h1.bind ?_)
  cases b1
  · exact Ev_if_neg (by simp) (awake23.bind (Ev.now _))
  · refine Ev_if_pos rfl ?_
    by_cases h2 : a = 2
    · refine Ev_if_pos h2 ?_
      obtain ⟨b2, h3, h3'⟩ := check1_ev [(⟨d, e, 0⟩ : S78)] (by simp) (fun j hj => by
        have : j = 0 := by simp at hj; omega
        subst this
        exact ⟨hd, he⟩)
      refine h3.bind ?_
      cases b2
      · exact Ev_if_neg (by simp) (awake23.bind (Ev.now _))
      · refine Ev_if_pos rfl ?_
        have hone := (h3' rfl).1 0 (by simp)
        have hc := check1_true x (hx (h1' rfl) fun _ => ⟨hone.1, hone.2.1⟩) x.length 0 (by omega)
        exact Ev.bind (g := fun k => changeoverref23_Check.f k 1 x) hc (Ev_if_pos rfl (awake23.bind (Ev.now _)))
    · refine Ev_if_neg h2 ?_
      have hc := check1_true x (hx (h1' rfl) fun h => absurd h h2) x.length 0 (by omega)
      exact Ev.bind (g := fun k => changeoverref23_Check.f k 1 x) hc (Ev_if_pos rfl (awake23.bind (Ev.now _)))
theorem keeps_j0 (l x : List S78) (o : ByteArray) (a b c : Int) (d e f : ByteArray) (g : Int) (q : Int × Int × Int × Bool × ByteArray × Int) (p : ByteArray × ByteArray × Int × Bool)
    (hdo : Ev (fun k => kvone_Do.f k l a b c d e f g) (x, q)) (hp : Ev (fun k => kvone_Find.f k x d) p) {q1 q2 : ByteArray × ByteArray × Int × Bool} (h1 : Ev (fun k => kvone_Find.f k x o) q1) (h2 : Ev (fun k => kvone_Find.f k l o) q2)
    (ho : o.toList ≠ d.toList → q1 = q2) (hput : a = 2 → q.2.2.1 = 0 → p.2.2.2 = true ∧ p.2.1.toList = e.toList) (hdel : a = 4 → p.2.2.2 = false)
    (hj : Ev (fun k => changeoverlaw23_KvoneKeeps.j1 k l x false a b c d e f g) true) : Ev (fun k => changeoverlaw23_KvoneKeeps.j0 k l o false a b c d e f g) true := by
  refine Ev.step (fun k => by simp only [changeoverlaw23_KvoneKeeps.j0]; exact if_neg (by simp)) ?_
  refine hdo.bind (hp.bind (h1.bind (h2.bind ?_)))
  dsimp only
  have fin4 : Ev (fun k => if a = 4 then (changeoverlaw23_KvoneKeeps.j1 k l x p.2.2.2 a b c d e f g) else (changeoverlaw23_KvoneKeeps.j1 k l x false a b c d e f g)) true := by
    by_cases h4 : a = 4
    · refine Ev_if_pos h4 ?_
      rw [hdel h4]; exact hj
    · exact Ev_if_neg h4 hj
  have fin2 : Ev (fun k => if a = 2 then (if q.2.2.1 = 0 then (if p.2.2.2 = true then (if p.2.1.toList = e.toList then (if a = 4 then (changeoverlaw23_KvoneKeeps.j1 k l x p.2.2.2 a b c d e f g) else (changeoverlaw23_KvoneKeeps.j1 k l x false a b c d e f g)) else (changeoverlaw23_KvoneKeeps.j1 k l x true a b c d e f g)) else (changeoverlaw23_KvoneKeeps.j1 k l x true a b c d e f g)) else (if a = 4 then (changeoverlaw23_KvoneKeeps.j1 k l x p.2.2.2 a b c d e f g) else (changeoverlaw23_KvoneKeeps.j1 k l x false a b c d e f g))) else (if a = 4 then (changeoverlaw23_KvoneKeeps.j1 k l x p.2.2.2 a b c d e f g) else (changeoverlaw23_KvoneKeeps.j1 k l x false a b c d e f g))) true := by
    by_cases h : a = 2
    · refine Ev_if_pos h ?_
      by_cases h0 : q.2.2.1 = 0
      · obtain ⟨e1, e2⟩ := hput h h0
        exact Ev_if_pos h0 (Ev_if_pos e1 (Ev_if_pos e2 fin4))
      · exact Ev_if_neg h0 fin4
    · exact Ev_if_neg h fin4
  by_cases hod : o.toList = d.toList
  · exact Ev_if_pos hod fin2
  · refine Ev_if_neg hod (Ev_if_neg ?_ (Ev_if_neg ?_ fin2))
    · rw [ho hod]; simp
    · rw [ho hod]; simp
theorem keeps_main (l : List S78) (o : ByteArray) (a b c : Int) (d e f : ByteArray) (g : Int) (hl : l.length ≤ 80) (hz : ∀ j, j < l.length → (pg l j).f0.size ≤ 200 ∧ (pg l j).f1.size ≤ 200) (hd : d.size ≤ 200) (he : e.size ≤ 200) (hu : UpP l) :
    Ev (fun k => changeoverlaw23_KvoneKeeps.j0 k l o false a b c d e f g) true := by
  obtain ⟨r, ha, _⟩ := placeP_ev l d (by omega) hu
  have hdo := oldDo_ev l (by omega) hu a b c d e f g ha
  have hlo := fnd_ev l o (by omega) hu
  by_cases h2 : a = 2 ∧ ((r < l.length ∧ kk l r = d.toList) ∨ l.length < 64)
  · obtain ⟨h2, hq⟩ := h2
    have hr : oldDo l r a b c d e = (putP l r ⟨d, e, 0⟩, b, c, 0, decide (r < l.length ∧ kk l r = d.toList), (if r < l.length ∧ kk l r = d.toList then (pg l r).f1 else ⟨#[]⟩), 0) := by
      unfold oldDo; rw [if_pos h2, if_pos hq]
    rw [hr] at hdo
    have hlen := putP_len l r ⟨d, e, 0⟩ ha.le
    obtain ⟨hu1, ha1, hg1⟩ := putP_up (x := ⟨d, e, 0⟩) hu ha
    have hp := fnd_ev (putP l r ⟨d, e, 0⟩) d (by omega) hu1
    rw [fnd_put_is l r ⟨d, e, 0⟩ hu ha] at hp
    refine keeps_j0 l _ o a b c d e f g _ _ hdo hp (fnd_ev _ o (by omega) hu1) hlo (fun hne => fnd_put l r ⟨d, e, 0⟩ _ ha.le (Ne.symm hne)) (fun _ _ => ⟨rfl, rfl⟩) (fun h => by omega) ?_
    refine keeps_j1 l _ a b c d e f g (by omega) hz hd he (fun hok hkv => ⟨fun j hj => ?_, ?_, hu1⟩)
    · rcases putP_pg l r ⟨d, e, 0⟩ ha.le j hj with h | ⟨w, hw, h⟩
      · rw [h]; exact ⟨(hkv h2).1, (hkv h2).2, rfl⟩
      · rw [h]; exact hok.1 w hw
    · have h64 := hok.2.1
      rcases hq with hq | hq
      · unfold putP; rw [if_pos (show r < l.length ∧ kk l r = (⟨d, e, 0⟩ : S78).f0.toList from hq)]; simpa using h64
      · omega
  · by_cases h4 : a = 4
    · have hr : oldDo l r a b c d e = (delP l r d.toList, b, c, 0, decide (r < l.length ∧ kk l r = d.toList), (if r < l.length ∧ kk l r = d.toList then (pg l r).f1 else ⟨#[]⟩), 0) := by
        unfold oldDo; rw [if_neg (by omega), if_neg (by omega), if_pos h4]
      rw [hr] at hdo
      have hlen := delP_len l r d.toList
      obtain ⟨hu1, hno⟩ := delP_up hu ha
      refine keeps_j0 l _ o a b c d e f g _ _ hdo (fnd_ev _ d (by omega) hu1) (fnd_ev _ o (by omega) hu1) hlo (fun hne => fnd_del l r d.toList _ (Ne.symm hne)) (fun h => by omega) (fun _ => fnd_none _ _ hno) ?_
      refine keeps_j1 l _ a b c d e f g (by omega) hz hd he (fun hok _ => ⟨fun j hj => ?_, by have := hok.2.1; omega, hu1⟩)
      obtain ⟨w, hw, h⟩ := delP_pg l r d.toList j hj
      rw [h]; exact hok.1 w hw
    · obtain ⟨q, hr, hq⟩ : ∃ q, oldDo l r a b c d e = (l, q) ∧ (a = 2 → q.2.2.1 ≠ 0) := by
        unfold oldDo
        by_cases h : a = 2
        · rw [if_pos h, if_neg (fun hh => h2 ⟨h, hh⟩)]
          exact ⟨_, rfl, fun _ => by simp⟩
        · rw [if_neg h]
          by_cases h3 : a = 3
          · rw [if_pos h3]; exact ⟨_, rfl, fun hh => absurd hh h⟩
          · rw [if_neg h3, if_neg h4]; exact ⟨_, rfl, fun hh => absurd hh h⟩
      rw [hr] at hdo
      refine keeps_j0 l l o a b c d e f g q _ hdo (fnd_ev l d (by omega) hu) hlo hlo (fun _ => rfl) (fun h h0 => absurd h0 (hq h)) (fun h => absurd h h4) ?_
      exact keeps_j1 l l a b c d e f g (by omega) hz hd he (fun hok _ => hok)
theorem keeps_awake (l : List S78) (o : ByteArray) (a b c : Int) (d e f : ByteArray) (g : Int) : Ev (fun k => changeoverlaw23_KvoneKeeps.j0 k l o true a b c d e f g) true := by
  exact Ev.step (f := fun k => (changeoverlaw23_awake.f k).bind fun t => some t) (fun k => by simp only [changeoverlaw23_KvoneKeeps.j0]; exact if_pos trivial) (awake23.bind (Ev.now _))
end Go.Proofs.Ytalpmbeddldfoaa.PA
namespace Go.Proofs.Ytalpmbeddldfoaa.Pure
open Go.RowKit Go.Proofs.YtalpmbeddldfoaaW.PrintWords Go.Proofs.Ytalpmbeddldfoaa.Hand Go.Proofs.Ytalpmbeddldfoaa.PA
theorem KvoneKeeps : PA.KvoneKeepsPure := by
  intro l x o hl _ _ _ _
  obtain ⟨b, hb, hb'⟩ := largeP_ev l hl
  refine Ev.rounds (g := fun k => changeoverlaw23_KvoneKeeps.f k l x.f0 x.f1 x.f2 x.f3 x.f4 x.f5 x.f6 o) ?_
  unfold changeoverlaw23_KvoneKeeps.f
  refine hb.bind ?_
  cases b
  · refine Ev_if_neg (by simp) ?_
    obtain ⟨h80, hz⟩ := hb' rfl
    have hlg : ∃ t, changeoverlaw23_large.f x.f0 x.f1 x.f2 x.f3 x.f4 x.f5 x.f6 = some t ∧ (t = false → x.f3.size ≤ 200 ∧ x.f4.size ≤ 200) := by
      unfold changeoverlaw23_large.f
      split
      · exact ⟨_, rfl, by simp⟩
      · split
        · exact ⟨_, rfl, by simp⟩
        · exact ⟨_, rfl, fun _ => by omega⟩
    obtain ⟨t, ht, ht'⟩ := hlg
    refine Ev_bindO ht ?_
    cases t
    · obtain ⟨hd, he⟩ := ht' rfl
      refine Ev_if_neg (by simp) ?_
      by_cases ho : (o.size : Int) > 200
      · exact Ev_if_pos ho (keeps_awake l o _ _ _ _ _ _ _)
      · refine Ev_if_neg ho ?_
        obtain ⟨u, hu, hu'⟩ := riseP_ev l (by omega)
        refine hu.bind ?_
        cases u
        · exact keeps_awake l o _ _ _ _ _ _ _
        · exact keeps_main l o _ _ _ _ _ _ _ h80 hz hd he (hu' rfl)
    · exact Ev_if_pos rfl (keeps_awake l o _ _ _ _ _ _ _)
  · exact Ev_if_pos rfl (keeps_awake l o _ _ _ _ _ _ _)
end Go.Proofs.Ytalpmbeddldfoaa.Pure
