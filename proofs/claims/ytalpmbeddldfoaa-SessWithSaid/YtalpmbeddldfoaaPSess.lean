/- What the session table's functions answer, in plain lists. -/
import Derived.Test.YtalpmbeddldfoaaHandP
import Derived.Test.YtalpmbeddldfoaaR
import Derived.Test.YtalpmbeddldfoaaFChangeoverref22Rise
import Derived.Test.YtalpmbeddldfoaaFChangeoverref22Large
import Derived.Test.YtalpmbeddldfoaaFChangeoverref22Last
import Derived.Test.YtalpmbeddldfoaaFChangeoverref22Has
import Derived.Test.YtalpmbeddldfoaaFSessPlace
import Derived.Test.YtalpmbeddldfoaaFSessWhich
import Derived.Test.YtalpmbeddldfoaaFSessLast
import Derived.Test.YtalpmbeddldfoaaFChangeoverlaw22Awake
set_option linter.unusedVariables false
set_option linter.unusedSimpArgs false
namespace Go.Proofs.Ytalpmbeddldfoaa.PA
open Go.RowKit Go.IntWalk Go.Proofs.YtalpmbeddldfoaaW.PrintWords Go.Proofs.Ytalpmbeddldfoaa.Hand
abbrev sg (l : List S111) (i : Nat) : S111 := l.getD i z111
theorem rdS (l : List S111) (i : Nat) : rd_T111 l (i : Int) = sg l i := rfl
def Up (l : List S111) : Prop := ∀ j, 1 ≤ j → j < l.length → (sg l (j - 1)).f0 < (sg l j).f0
theorem Up.lt {l : List S111} (h : Up l) : ∀ {i j : Nat}, i < j → j < l.length → (sg l i).f0 < (sg l j).f0 := by
  intro i j hij
  induction j with
  | zero => omega
  | succ j ih =>
    intro hj
    have := h (j + 1) (by omega) hj
    rw [Nat.add_sub_cancel] at this
    by_cases e : i = j
    · subst e; exact this
    · exact Int.lt_trans (ih (by omega) (by omega)) this
theorem rise_loop (l : List S111) (hl : l.length ≤ 100) : ∀ (m i : Nat), 1 ≤ i → l.length ≤ i + m → (∀ j, 1 ≤ j → j < i → j < l.length → (sg l (j - 1)).f0 < (sg l j).f0) →
    ∃ b, Ev (fun k => changeoverref22_Rise.l0 k l (i : Int)) b ∧ (b = true → Up l)
  | m, i, h1, h2, h3 => by
    by_cases h : i < l.length
    · obtain ⟨m, rfl⟩ : ∃ m', m = m' + 1 := ⟨m - 1, by omega⟩
      have e1 := wrap_down i h1 (by omega)
      have e2 := wrap_up i (by omega)
      by_cases hc : (sg l i).f0 ≤ (sg l (i - 1)).f0
      · refine ⟨false, Ev.step (f := fun _ => some false) (fun k => ?_) (Ev.now _), by simp⟩
        simp only [changeoverref22_Rise.l0, e1, e2, rdS]
        ((repeat (first | refine Eq.trans (if_pos (by first | assumption | omega | trivial | exact decide_eq_true (by first | assumption | omega) | (simp only [decide_eq_true_eq]; first | assumption | omega) | (simp; done) | (simp; omega))) ?_ | refine Eq.trans (if_neg (by first | assumption | omega | (intro hh; have := of_decide_eq_true hh; first | contradiction | omega) | (simp only [decide_eq_true_eq]; first | assumption | omega) | (simp; done) | (simp; omega))) ?_)); try rfl)
      · obtain ⟨b, hb, hs⟩ := rise_loop l hl m (i + 1) (by omega) (by omega) (fun j ha hb hd => by
          by_cases e : j = i
          · subst e; omega
          · exact h3 j ha (by omega) hd)
        refine ⟨b, Ev.step (fun k => ?_) hb, hs⟩
        simp only [changeoverref22_Rise.l0, e1, e2, rdS]
        ((repeat (first | refine Eq.trans (if_pos (by first | assumption | omega | trivial | exact decide_eq_true (by first | assumption | omega) | (simp only [decide_eq_true_eq]; first | assumption | omega) | (simp; done) | (simp; omega))) ?_ | refine Eq.trans (if_neg (by first | assumption | omega | (intro hh; have := of_decide_eq_true hh; first | contradiction | omega) | (simp only [decide_eq_true_eq]; first | assumption | omega) | (simp; done) | (simp; omega))) ?_)); try rfl)
    · refine ⟨true, Ev.step (f := fun _ => some true) (fun k => ?_) (Ev.now _), fun _ j ha hb => h3 j ha (by omega) hb⟩
      simp only [changeoverref22_Rise.l0]
      ((repeat (first | refine Eq.trans (if_pos (by first | assumption | omega | trivial | exact decide_eq_true (by first | assumption | omega) | (simp only [decide_eq_true_eq]; first | assumption | omega) | (simp; done) | (simp; omega))) ?_ | refine Eq.trans (if_neg (by first | assumption | omega | (intro hh; have := of_decide_eq_true hh; first | contradiction | omega) | (simp only [decide_eq_true_eq]; first | assumption | omega) | (simp; done) | (simp; omega))) ?_)); try rfl)
theorem rise_ev (l : List S111) (hl : l.length ≤ 100) : ∃ b, Ev (fun k => changeoverref22_Rise.f k l) b ∧ (b = true → Up l) :=
  rise_loop l hl l.length 1 (by omega) (by omega) (fun j ha hb _ => by omega)
theorem large_loop (l : List S111) (hl : l.length ≤ 9223372036854775807) : ∀ (m i : Nat), 41 ≤ i + m → ∃ b, Ev (fun k => changeoverref22_Large.l0 k l (i : Int)) b ∧ (b = false → l.length ≤ 40)
  | m, i, h2 => by
    by_cases h : i < l.length
    · by_cases h40 : i < 40
      · obtain ⟨m, rfl⟩ : ∃ m', m = m' + 1 := ⟨m - 1, by omega⟩
        have e2 := wrap_up i (by omega)
        by_cases hc : ((sg l i).f2.f4.size : Int) > 200
        · refine ⟨true, Ev.step (f := fun k => changeoverref22_Large.j1 k l i (decide ((i : Int) < 40))) (fun k => ?_) (Ev.step (f := fun _ => some true) (fun k => ?_) (Ev.now _)), by simp⟩
          · simp only [changeoverref22_Large.l0]
            ((repeat (first | refine Eq.trans (if_pos (by first | assumption | omega | trivial | exact decide_eq_true (by first | assumption | omega) | (simp only [decide_eq_true_eq]; first | assumption | omega) | (simp; done) | (simp; omega))) ?_ | refine Eq.trans (if_neg (by first | assumption | omega | (intro hh; have := of_decide_eq_true hh; first | contradiction | omega) | (simp only [decide_eq_true_eq]; first | assumption | omega) | (simp; done) | (simp; omega))) ?_)); try rfl)
          · simp only [changeoverref22_Large.j1, rdS]
            ((repeat (first | refine Eq.trans (if_pos (by first | assumption | omega | trivial | exact decide_eq_true (by first | assumption | omega) | (simp only [decide_eq_true_eq]; first | assumption | omega) | (simp; done) | (simp; omega))) ?_ | refine Eq.trans (if_neg (by first | assumption | omega | (intro hh; have := of_decide_eq_true hh; first | contradiction | omega) | (simp only [decide_eq_true_eq]; first | assumption | omega) | (simp; done) | (simp; omega))) ?_)); try rfl)
        · obtain ⟨b, hb, hs⟩ := large_loop l hl m (i + 1) (by omega)
          refine ⟨b, Ev.step (f := fun k => changeoverref22_Large.j1 k l i (decide ((i : Int) < 40))) (fun k => ?_) (Ev.step (fun k => ?_) hb), hs⟩
          · simp only [changeoverref22_Large.l0]
            ((repeat (first | refine Eq.trans (if_pos (by first | assumption | omega | trivial | exact decide_eq_true (by first | assumption | omega) | (simp only [decide_eq_true_eq]; first | assumption | omega) | (simp; done) | (simp; omega))) ?_ | refine Eq.trans (if_neg (by first | assumption | omega | (intro hh; have := of_decide_eq_true hh; first | contradiction | omega) | (simp only [decide_eq_true_eq]; first | assumption | omega) | (simp; done) | (simp; omega))) ?_)); try rfl)
          · simp only [changeoverref22_Large.j1, rdS, e2]
            ((repeat (first | refine Eq.trans (if_pos (by first | assumption | omega | trivial | exact decide_eq_true (by first | assumption | omega) | (simp only [decide_eq_true_eq]; first | assumption | omega) | (simp; done) | (simp; omega))) ?_ | refine Eq.trans (if_neg (by first | assumption | omega | (intro hh; have := of_decide_eq_true hh; first | contradiction | omega) | (simp only [decide_eq_true_eq]; first | assumption | omega) | (simp; done) | (simp; omega))) ?_)); try rfl)
      · refine ⟨decide ((l.length : Int) > 40), Ev.step (f := fun k => changeoverref22_Large.j1 k l i (decide ((i : Int) < 40))) (fun k => ?_) (Ev.step (f := fun _ => some (decide ((l.length : Int) > 40))) (fun k => ?_) (Ev.now _)), fun hb => by simp at hb; omega⟩
        · simp only [changeoverref22_Large.l0]
          ((repeat (first | refine Eq.trans (if_pos (by first | assumption | omega | trivial | exact decide_eq_true (by first | assumption | omega) | (simp only [decide_eq_true_eq]; first | assumption | omega) | (simp; done) | (simp; omega))) ?_ | refine Eq.trans (if_neg (by first | assumption | omega | (intro hh; have := of_decide_eq_true hh; first | contradiction | omega) | (simp only [decide_eq_true_eq]; first | assumption | omega) | (simp; done) | (simp; omega))) ?_)); try rfl)
        · simp only [changeoverref22_Large.j1]
          ((repeat (first | refine Eq.trans (if_pos (by first | assumption | omega | trivial | exact decide_eq_true (by first | assumption | omega) | (simp only [decide_eq_true_eq]; first | assumption | omega) | (simp; done) | (simp; omega))) ?_ | refine Eq.trans (if_neg (by first | assumption | omega | (intro hh; have := of_decide_eq_true hh; first | contradiction | omega) | (simp only [decide_eq_true_eq]; first | assumption | omega) | (simp; done) | (simp; omega))) ?_)); try rfl)
    · refine ⟨decide ((l.length : Int) > 40), Ev.step (f := fun k => changeoverref22_Large.j1 k l i false) (fun k => ?_) (Ev.step (f := fun _ => some (decide ((l.length : Int) > 40))) (fun k => ?_) (Ev.now _)), fun hb => by simp at hb; omega⟩
      · simp only [changeoverref22_Large.l0]
        ((repeat (first | refine Eq.trans (if_pos (by first | assumption | omega | trivial | exact decide_eq_true (by first | assumption | omega) | (simp only [decide_eq_true_eq]; first | assumption | omega) | (simp; done) | (simp; omega))) ?_ | refine Eq.trans (if_neg (by first | assumption | omega | (intro hh; have := of_decide_eq_true hh; first | contradiction | omega) | (simp only [decide_eq_true_eq]; first | assumption | omega) | (simp; done) | (simp; omega))) ?_)); try rfl)
      · simp only [changeoverref22_Large.j1]
        ((repeat (first | refine Eq.trans (if_pos (by first | assumption | omega | trivial | exact decide_eq_true (by first | assumption | omega) | (simp only [decide_eq_true_eq]; first | assumption | omega) | (simp; done) | (simp; omega))) ?_ | refine Eq.trans (if_neg (by first | assumption | omega | (intro hh; have := of_decide_eq_true hh; first | contradiction | omega) | (simp only [decide_eq_true_eq]; first | assumption | omega) | (simp; done) | (simp; omega))) ?_)); try rfl)
theorem large_ev (l : List S111) (hl : l.length ≤ 9223372036854775807) : ∃ b, Ev (fun k => changeoverref22_Large.f k l) b ∧ (b = false → l.length ≤ 40) := large_loop l hl 41 0 (by omega)
/-- Where a client stands, or would. -/
structure At (l : List S111) (c : Int) (i : Nat) : Prop where
  le : i ≤ l.length
  lo : ∀ j, j < i → (sg l j).f0 < c
  hi : ∀ j, i ≤ j → j < l.length → c ≤ (sg l j).f0
theorem place_loop (l : List S111) (c : Int) (hl : l.length ≤ 100) (hu : Up l) : ∀ (m i j : Nat), j ≤ i + m → i ≤ j → j ≤ l.length → (∀ q, q < i → (sg l q).f0 < c) → (∀ q, j ≤ q → q < l.length → c ≤ (sg l q).f0) →
    ∃ r, At l c r ∧ Ev (fun k => sess_place.l0 k l c (i : Int) (j : Int)) ((r : Int), decide (r < l.length ∧ (sg l r).f0 = c))
  | m, i, j, hm, hij, hj, hlo, hhi => by
    by_cases h : i < j
    · obtain ⟨m, rfl⟩ : ∃ m', m = m' + 1 := ⟨m - 1, by omega⟩
      have e1 := mid_nat i j (by omega)
      have e2 := wrap_up ((i + j) / 2) (by omega)
      by_cases hc : (sg l ((i + j) / 2)).f0 < c
      · obtain ⟨r, ha, hr⟩ := place_loop l c hl hu m ((i + j) / 2 + 1) j (by omega) (by omega) hj (fun q hq => by
          by_cases e : q = (i + j) / 2
          · subst e; exact hc
          · exact Int.lt_trans (hu.lt (show q < (i + j) / 2 by omega) (by omega)) hc) hhi
        refine ⟨r, ha, Ev.step (fun k => ?_) hr⟩
        simp only [sess_place.l0, e1, e2, rdS]
        ((repeat (first | refine Eq.trans (if_pos (by first | assumption | omega | trivial | exact decide_eq_true (by first | assumption | omega) | (simp only [decide_eq_true_eq]; first | assumption | omega) | (simp; done) | (simp; omega))) ?_ | refine Eq.trans (if_neg (by first | assumption | omega | (intro hh; have := of_decide_eq_true hh; first | contradiction | omega) | (simp only [decide_eq_true_eq]; first | assumption | omega) | (simp; done) | (simp; omega))) ?_)); try rfl)
      · obtain ⟨r, ha, hr⟩ := place_loop l c hl hu m i ((i + j) / 2) (by omega) (by omega) (by omega) hlo (fun q hq hql => by
          by_cases e : q = (i + j) / 2
          · subst e; omega
          · exact Int.le_of_lt (Int.lt_of_le_of_lt (Int.not_lt.1 hc) (hu.lt (show (i + j) / 2 < q by omega) hql)))
        refine ⟨r, ha, Ev.step (fun k => ?_) hr⟩
        simp only [sess_place.l0, e1, e2, rdS]
        ((repeat (first | refine Eq.trans (if_pos (by first | assumption | omega | trivial | exact decide_eq_true (by first | assumption | omega) | (simp only [decide_eq_true_eq]; first | assumption | omega) | (simp; done) | (simp; omega))) ?_ | refine Eq.trans (if_neg (by first | assumption | omega | (intro hh; have := of_decide_eq_true hh; first | contradiction | omega) | (simp only [decide_eq_true_eq]; first | assumption | omega) | (simp; done) | (simp; omega))) ?_)); try rfl)
    · have e : i = j := by omega
      subst e
      refine ⟨i, ⟨hj, hlo, hhi⟩, Ev.step (f := fun _ => some ((i : Int), decide (i < l.length ∧ (sg l i).f0 = c))) (fun k => ?_) (Ev.now _)⟩
      simp only [sess_place.l0, rdS]
      refine Eq.trans (if_neg (by omega)) ?_
      by_cases hi : i < l.length
      · ((repeat (first | refine Eq.trans (if_pos (by first | assumption | omega | trivial | exact decide_eq_true (by first | assumption | omega) | (simp only [decide_eq_true_eq]; first | assumption | omega) | (simp; done) | (simp; omega))) ?_ | refine Eq.trans (if_neg (by first | assumption | omega | (intro hh; have := of_decide_eq_true hh; first | contradiction | omega) | (simp only [decide_eq_true_eq]; first | assumption | omega) | (simp; done) | (simp; omega))) ?_)); try rfl)
        refine congrArg some (Prod.ext rfl ?_)
        rw [Bool.eq_iff_iff]
        simp [hi]
      · ((repeat (first | refine Eq.trans (if_pos (by first | assumption | omega | trivial | exact decide_eq_true (by first | assumption | omega) | (simp only [decide_eq_true_eq]; first | assumption | omega) | (simp; done) | (simp; omega))) ?_ | refine Eq.trans (if_neg (by first | assumption | omega | (intro hh; have := of_decide_eq_true hh; first | contradiction | omega) | (simp only [decide_eq_true_eq]; first | assumption | omega) | (simp; done) | (simp; omega))) ?_)); try rfl)
        simp [hi]
theorem place_ev (l : List S111) (c : Int) (hl : l.length ≤ 100) (hu : Up l) : ∃ r, At l c r ∧ Ev (fun k => sess_place.f k l c) ((r : Int), decide (r < l.length ∧ (sg l r).f0 = c)) :=
  place_loop l c hl hu l.length 0 l.length (by omega) (by omega) (by omega) (fun q hq => by omega) (fun q h1 h2 => by omega)
def tupA (x : S60) : Int × Int × Int × Bool × ByteArray × Int := (x.f0, x.f1, x.f2, x.f3, x.f4, x.f5)
theorem last_loop (l : List S111) (c : Int) (hl : l.length ≤ 100) {r : Nat} (ha : At l c r) : ∀ (m i : Nat), l.length ≤ i + m → (i ≤ r ∨ ¬ (r < l.length ∧ (sg l r).f0 = c)) → (r < l.length ∧ (sg l r).f0 = c ∨ ∀ j, j < l.length → (sg l j).f0 ≠ c) →
    Ev (fun k => changeoverref22_Last.l0 k l c (i : Int)) (if r < l.length ∧ (sg l r).f0 = c then ((sg l r).f1, tupA (sg l r).f2) else (0, tupA z60))
  | m, i, hm, hir, hall => by
    by_cases h : i < l.length
    · obtain ⟨m, rfl⟩ : ∃ m', m = m' + 1 := ⟨m - 1, by omega⟩
      have e2 := wrap_up i (by omega)
      by_cases hc : (sg l i).f0 = c
      · have hr : r < l.length ∧ (sg l r).f0 = c := by rcases hall with h' | h'; exact h'; exact absurd hc (h' i h)
        have hi : i = r := by
          rcases hir with h' | h'
          · rcases Nat.lt_or_ge i r with hlt | hge
            · have := ha.lo i hlt; omega
            · omega
          · exact absurd hr h'
        subst hi
        refine Ev.step (f := fun _ => some ((sg l i).f1, tupA (sg l i).f2)) (fun k => ?_) (Ev_eq (Ev.now _) (if_pos hr).symm)
        simp only [changeoverref22_Last.l0, rdS, tupA]
        ((repeat (first | refine Eq.trans (if_pos (by first | assumption | omega | trivial | exact decide_eq_true (by first | assumption | omega) | (simp only [decide_eq_true_eq]; first | assumption | omega) | (simp; done) | (simp; omega))) ?_ | refine Eq.trans (if_neg (by first | assumption | omega | (intro hh; have := of_decide_eq_true hh; first | contradiction | omega) | (simp only [decide_eq_true_eq]; first | assumption | omega) | (simp; done) | (simp; omega))) ?_)); try rfl)
      · have hn : i + 1 ≤ r ∨ ¬ (r < l.length ∧ (sg l r).f0 = c) := by
          rcases hir with h' | h'
          · by_cases e : i = r
            · subst e; exact .inr fun hh => hc hh.2
            · exact .inl (by omega)
          · exact .inr h'
        refine Ev.step (fun k => ?_) (last_loop l c hl ha m (i + 1) (by omega) hn hall)
        simp only [changeoverref22_Last.l0, rdS, e2]
        ((repeat (first | refine Eq.trans (if_pos (by first | assumption | omega | trivial | exact decide_eq_true (by first | assumption | omega) | (simp only [decide_eq_true_eq]; first | assumption | omega) | (simp; done) | (simp; omega))) ?_ | refine Eq.trans (if_neg (by first | assumption | omega | (intro hh; have := of_decide_eq_true hh; first | contradiction | omega) | (simp only [decide_eq_true_eq]; first | assumption | omega) | (simp; done) | (simp; omega))) ?_)); try rfl)
    · have hr : ¬ (r < l.length ∧ (sg l r).f0 = c) := by
        rcases hir with h' | h'
        · intro hh; omega
        · exact h'
      refine Ev.step (f := fun _ => some (0, tupA z60)) (fun k => ?_) (Ev_eq (Ev.now _) (if_neg hr).symm)
      simp only [changeoverref22_Last.l0]
      ((repeat (first | refine Eq.trans (if_pos (by first | assumption | omega | trivial | exact decide_eq_true (by first | assumption | omega) | (simp only [decide_eq_true_eq]; first | assumption | omega) | (simp; done) | (simp; omega))) ?_ | refine Eq.trans (if_neg (by first | assumption | omega | (intro hh; have := of_decide_eq_true hh; first | contradiction | omega) | (simp only [decide_eq_true_eq]; first | assumption | omega) | (simp; done) | (simp; omega))) ?_)); try rfl)
theorem At.dec {l : List S111} {c : Int} {r : Nat} (hu : Up l) (ha : At l c r) : r < l.length ∧ (sg l r).f0 = c ∨ ∀ j, j < l.length → (sg l j).f0 ≠ c := by
  by_cases h : r < l.length ∧ (sg l r).f0 = c
  · exact .inl h
  · refine .inr fun j hj e => ?_
    rcases Nat.lt_or_ge j r with hlt | hge
    · have := ha.lo j hlt; omega
    · by_cases e2 : j = r
      · subst e2; exact h ⟨hj, e⟩
      · have h1 := ha.hi r (Nat.le_refl _) (by omega)
        have h2 := hu.lt (show r < j by omega) hj
        omega
theorem last_ev (l : List S111) (c : Int) (hl : l.length ≤ 100) (hu : Up l) {r : Nat} (ha : At l c r) :
    Ev (fun k => changeoverref22_Last.f k l c) (if r < l.length ∧ (sg l r).f0 = c then ((sg l r).f1, tupA (sg l r).f2) else (0, tupA z60)) :=
  last_loop l c hl ha l.length 0 (by omega) (.inl (by omega)) (ha.dec hu)
theorem has_loop (l : List S111) (c : Int) (hl : l.length ≤ 100) (P : Prop) [Decidable P] : ∀ (m i : Nat), l.length ≤ i + m → (P → ∃ j, i ≤ j ∧ j < l.length ∧ (sg l j).f0 = c) → (¬ P → ∀ j, j < l.length → (sg l j).f0 ≠ c) →
    Ev (fun k => changeoverref22_Has.l0 k l c (i : Int)) (decide P)
  | m, i, hm, hp, hn => by
    by_cases h : i < l.length
    · obtain ⟨m, rfl⟩ : ∃ m', m = m' + 1 := ⟨m - 1, by omega⟩
      have e2 := wrap_up i (by omega)
      by_cases hc : (sg l i).f0 = c
      · have hP : P := Classical.byContradiction fun h' => hn h' i h hc
        refine Ev.step (f := fun _ => some true) (fun k => ?_) (Ev_eq (Ev.now _) (decide_eq_true hP).symm)
        simp only [changeoverref22_Has.l0, rdS]
        ((repeat (first | refine Eq.trans (if_pos (by first | assumption | omega | trivial | exact decide_eq_true (by first | assumption | omega) | (simp only [decide_eq_true_eq]; first | assumption | omega) | (simp; done) | (simp; omega))) ?_ | refine Eq.trans (if_neg (by first | assumption | omega | (intro hh; have := of_decide_eq_true hh; first | contradiction | omega) | (simp only [decide_eq_true_eq]; first | assumption | omega) | (simp; done) | (simp; omega))) ?_)); try rfl)
      · refine Ev.step (fun k => ?_) (has_loop l c hl P m (i + 1) (by omega) (fun p => by
          obtain ⟨j, h1, h2, h3⟩ := hp p
          by_cases e : j = i
          · subst e; exact absurd h3 hc
          · exact ⟨j, by omega, h2, h3⟩) hn)
        simp only [changeoverref22_Has.l0, rdS, e2]
        ((repeat (first | refine Eq.trans (if_pos (by first | assumption | omega | trivial | exact decide_eq_true (by first | assumption | omega) | (simp only [decide_eq_true_eq]; first | assumption | omega) | (simp; done) | (simp; omega))) ?_ | refine Eq.trans (if_neg (by first | assumption | omega | (intro hh; have := of_decide_eq_true hh; first | contradiction | omega) | (simp only [decide_eq_true_eq]; first | assumption | omega) | (simp; done) | (simp; omega))) ?_)); try rfl)
    · have hP : ¬ P := fun p => by obtain ⟨j, h1, h2, _⟩ := hp p; omega
      refine Ev.step (f := fun _ => some false) (fun k => ?_) (Ev_eq (Ev.now _) (decide_eq_false hP).symm)
      simp only [changeoverref22_Has.l0]
      ((repeat (first | refine Eq.trans (if_pos (by first | assumption | omega | trivial | exact decide_eq_true (by first | assumption | omega) | (simp only [decide_eq_true_eq]; first | assumption | omega) | (simp; done) | (simp; omega))) ?_ | refine Eq.trans (if_neg (by first | assumption | omega | (intro hh; have := of_decide_eq_true hh; first | contradiction | omega) | (simp only [decide_eq_true_eq]; first | assumption | omega) | (simp; done) | (simp; omega))) ?_)); try rfl)
theorem has_ev (l : List S111) (c : Int) (hl : l.length ≤ 100) (hu : Up l) {r : Nat} (ha : At l c r) : Ev (fun k => changeoverref22_Has.f k l c) (decide (r < l.length ∧ (sg l r).f0 = c)) :=
  has_loop l c hl _ l.length 0 (by omega) (fun p => ⟨r, by omega, p.1, p.2⟩) (fun hn => (ha.dec hu).resolve_left hn)
theorem sessLast_ev (l : List S111) (c : Int) (hl : l.length ≤ 100) (hu : Up l) : ∃ r, At l c r ∧ Ev (fun k => sess_Last.f k l c) (if r < l.length ∧ (sg l r).f0 = c then (sg l r).f1 else 0) := by
  obtain ⟨r, ha, hr⟩ := place_ev l c hl hu
  refine ⟨r, ha, ?_⟩
  unfold sess_Last.f
  refine hr.bind ?_
  dsimp only
  by_cases h : r < l.length ∧ (sg l r).f0 = c
  · have := h.1
    simp only [h, and_self, decide_true, rdS]
    (repeat (first | refine Ev_if_pos (by first | assumption | omega | rfl | trivial) ?_ | refine Ev_if_neg (by first | assumption | omega | (intro hh; have := of_decide_eq_true hh; first | contradiction | omega) | (simp; done)) ?_))
    exact Ev.now _
  · simp only [h, decide_false]
    (repeat (first | refine Ev_if_pos (by first | assumption | omega | rfl | trivial) ?_ | refine Ev_if_neg (by first | assumption | omega | (intro hh; have := of_decide_eq_true hh; first | contradiction | omega) | (simp; done)) ?_))
    exact Ev.now _
theorem which_ev (l : List S111) (c s : Int) (hl : l.length ≤ 100) (hu : Up l) : ∃ r, At l c r ∧ Ev (fun k => sess_Which.f k l c s)
    (if r < l.length ∧ (sg l r).f0 = c then (if s > (sg l r).f1 then (0, tupA z60) else if s = (sg l r).f1 then (1, tupA (sg l r).f2) else (2, tupA z60)) else (0, tupA z60)) := by
  obtain ⟨r, ha, hr⟩ := place_ev l c hl hu
  refine ⟨r, ha, ?_⟩
  unfold sess_Which.f
  refine hr.bind ?_
  dsimp only
  by_cases h : r < l.length ∧ (sg l r).f0 = c
  · have := h.1
    simp only [h, and_self, decide_true, rdS, if_true]
    (repeat (first | refine Ev_if_pos (by first | assumption | omega | rfl | trivial) ?_ | refine Ev_if_neg (by first | assumption | omega | (intro hh; have := of_decide_eq_true hh; first | contradiction | omega) | (simp; done)) ?_))
    by_cases h1 : s > (sg l r).f1
    · refine Ev.step (f := fun _ => some (0, tupA z60)) (fun k => ?_) (Ev_eq (Ev.now _) (if_pos h1).symm)
      simp only [sess_Which.j0]
      ((repeat (first | refine Eq.trans (if_pos (by first | assumption | omega | trivial | exact decide_eq_true (by first | assumption | omega) | (simp only [decide_eq_true_eq]; first | assumption | omega) | (simp; done) | (simp; omega))) ?_ | refine Eq.trans (if_neg (by first | assumption | omega | (intro hh; have := of_decide_eq_true hh; first | contradiction | omega) | (simp only [decide_eq_true_eq]; first | assumption | omega) | (simp; done) | (simp; omega))) ?_)); try rfl)
    · rw [if_neg h1]
      by_cases h2 : s = (sg l r).f1
      · refine Ev.step (f := fun _ => some (1, tupA (sg l r).f2)) (fun k => ?_) (Ev_eq (Ev.now _) (if_pos h2).symm)
        simp only [sess_Which.j0, rdS]
        ((repeat (first | refine Eq.trans (if_pos (by first | assumption | omega | trivial | exact decide_eq_true (by first | assumption | omega) | (simp only [decide_eq_true_eq]; first | assumption | omega) | (simp; done) | (simp; omega))) ?_ | refine Eq.trans (if_neg (by first | assumption | omega | (intro hh; have := of_decide_eq_true hh; first | contradiction | omega) | (simp only [decide_eq_true_eq]; first | assumption | omega) | (simp; done) | (simp; omega))) ?_)); try rfl)
      · refine Ev.step (f := fun _ => some (2, tupA z60)) (fun k => ?_) (Ev_eq (Ev.now _) (if_neg h2).symm)
        simp only [sess_Which.j0, rdS]
        ((repeat (first | refine Eq.trans (if_pos (by first | assumption | omega | trivial | exact decide_eq_true (by first | assumption | omega) | (simp only [decide_eq_true_eq]; first | assumption | omega) | (simp; done) | (simp; omega))) ?_ | refine Eq.trans (if_neg (by first | assumption | omega | (intro hh; have := of_decide_eq_true hh; first | contradiction | omega) | (simp only [decide_eq_true_eq]; first | assumption | omega) | (simp; done) | (simp; omega))) ?_)); try rfl)
  · rw [if_neg h]
    simp only [h, decide_false]
    refine Ev_if_neg (by simp) ?_
    exact Ev.step (f := fun _ => some (0, tupA z60)) (fun k => by simp only [sess_Which.j0]; ((repeat (first | refine Eq.trans (if_pos (by first | assumption | omega | trivial | exact decide_eq_true (by first | assumption | omega) | (simp only [decide_eq_true_eq]; first | assumption | omega) | (simp; done) | (simp; omega))) ?_ | refine Eq.trans (if_neg (by first | assumption | omega | (intro hh; have := of_decide_eq_true hh; first | contradiction | omega) | (simp only [decide_eq_true_eq]; first | assumption | omega) | (simp; done) | (simp; omega))) ?_)); try rfl)) (Ev.now _)
theorem awake22 : Ev (fun k => changeoverlaw22_awake.f k) true := Ev.of (fun k => changeoverlaw22_awake.mono k) (k := 8) (by kernel_rfl)
theorem At.uniq {l : List S111} {c : Int} {r q : Nat} (h : At l c r) (k : At l c q) : r = q := by
  rcases Nat.lt_trichotomy r q with h' | h' | h'
  · have := k.lo r h'; have h2 := h.hi r (Nat.le_refl _) (by have := k.le; omega); omega
  · exact h'
  · have := h.lo q h'; have h2 := k.hi q (Nat.le_refl _) (by have := h.le; omega); omega
end Go.Proofs.Ytalpmbeddldfoaa.PA
