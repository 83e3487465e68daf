/- A number read out of bytes, in plain lists. -/
import Derived.Test.YtalpmbeddldfoaaPVar
import Derived.Test.YtalpmbeddldfoaaFVarintGet
import Derived.Test.YtalpmbeddldfoaaFChangeoverref01Get
set_option linter.unusedVariables false
set_option linter.unusedSimpArgs false
namespace Go.Proofs.Ytalpmbeddldfoaa.PA
open Go.RowKit Go.IntWalk Go.Proofs.YtalpmbeddldfoaaW.PrintWords Go.Proofs.Ytalpmbeddldfoaa.Hand
/-- Bytes. -/
def Byt (l : List Int) : Prop := ∀ x ∈ l, 0 ≤ x ∧ x ≤ 255
/-- The number at the head: the number, how many bytes, the error. -/
def vg : List Int → Nat → Int → Int × Nat × Int
  | [], _, _ => (0, 0, 1)
  | c :: l, j, n => if (c = 0 ∧ 0 < j) ∨ 9 ≤ j then (0, 0, 3) else if c < 128 then (n + 128 ^ j * c, j + 1, 0) else vg l (j + 1) (n + 128 ^ j * (c - 128))
def fin (at_ : Nat) (r : Int × Nat × Int) : Int × Int × Int := if r.2.2 = 0 then (r.1, ((at_ + r.2.1 : Nat) : Int), 0) else (0, 0, r.2.2)
def getS (bs : List Int) (at_ : Nat) : Int × Int × Int := fin at_ (vg (bs.drop at_) 0 0)
theorem byt_at {l : List Int} (hb : Byt l) (i : Nat) (h : i < l.length) : 0 ≤ rd l (i : Int) ∧ rd l (i : Int) ≤ 255 := by
  have e : rd l (i : Int) = l[i] := by simp [rd, List.getD_eq_getElem?_getD, List.getElem?_eq_getElem h]
  rw [e]
  exact hb _ (List.getElem_mem h)
theorem drop_rd {l : List Int} (i : Nat) (h : i < l.length) : l.drop i = rd l (i : Int) :: l.drop (i + 1) := by
  rw [List.drop_eq_getElem_cons h]
  simp [rd, List.getD_eq_getElem?_getD, List.getElem?_eq_getElem h]
theorem pow_bd (j : Nat) (h : j ≤ 8) : (1 : Int) ≤ 128 ^ j ∧ (128 : Int) ^ j ≤ 72057594037927936 := by
  have h1 : 1 ≤ 128 ^ j := Nat.one_le_pow _ _ (by decide)
  have h2 : 128 ^ j ≤ 128 ^ 8 := Nat.pow_le_pow_right (by decide) h
  have e8 : (128 : Nat) ^ 8 = 72057594037927936 := by rfl
  rw [e8] at h2
  have h1' : ((1 : Nat) : Int) ≤ ((128 ^ j : Nat) : Int) := Int.ofNat_le.mpr h1
  have h2' : ((128 ^ j : Nat) : Int) ≤ ((72057594037927936 : Nat) : Int) := Int.ofNat_le.mpr h2
  rw [Int.natCast_pow] at h1' h2'
  exact ⟨h1', h2'⟩
theorem step_bd (j : Nat) (h : j ≤ 8) (N c : Int) (h0 : 0 ≤ N) (h1 : N < 128 ^ j) (h2 : 0 ≤ c) (h3 : c ≤ 127) : 0 ≤ 128 ^ j * c ∧ N + 128 ^ j * c < 128 ^ (j + 1) ∧ N + 128 ^ j * c < 9223372036854775808 := by
  have hp := pow_bd j h
  have e : (128 : Int) ^ (j + 1) = 128 ^ j * 128 := by rw [Int.pow_succ]
  have m1 : 0 ≤ (128 : Int) ^ j * c := Int.mul_nonneg (by omega) h2
  have m2 : (128 : Int) ^ j * c ≤ 128 ^ j * 127 := Int.mul_le_mul_of_nonneg_left h3 (by omega)
  rw [e]
  exact ⟨m1, by omega, by omega⟩
theorem get_loop (bs : List Int) (hb : Byt bs) (hl : bs.length ≤ 9223372036854775807) (at_ : Nat) : ∀ (m j : Nat) (N p : Int), bs.length ≤ at_ + j + m → at_ + j ≤ bs.length → j ≤ 9 → 0 ≤ N → (j ≤ 8 → N < 128 ^ j) → (j ≤ 8 → p = 128 ^ j) →
    Ev (fun k => varint_Get.l0 k bs (at_ : Int) N p ((at_ + j : Nat) : Int)) (fin at_ (vg (bs.drop (at_ + j)) j N))
  | m, j, N, p, hm, hj, h9, hN0, hN1, hp => by
    by_cases h : at_ + j < bs.length
    · obtain ⟨m, rfl⟩ : ∃ m', m = m' + 1 := ⟨m - 1, by omega⟩
      have hc := byt_at hb (at_ + j) h
      rw [drop_rd _ h, vg]
      generalize hcc : rd bs ((at_ + j : Nat) : Int) = c at hc ⊢
      have w1 : wrap64 (((at_ + j : Nat) : Int) - (at_ : Int)) = (j : Int) := by unfold wrap64; omega
      have w2 := wrap_up (at_ + j) (by omega)
      have w3 : wrap64 c = c := by unfold wrap64; omega
      by_cases c0 : c = 0 ∧ 0 < j
      · rw [if_pos (.inl c0)]
        refine Ev.step (f := fun _ => some (0, 0, 3)) (fun k => ?_) (Ev.now _)
        simp only [varint_Get.l0, w1, w2, hcc, w3]
        have := c0.1
        ((repeat (first | refine Eq.trans (if_pos (by first | assumption | omega | trivial | exact decide_eq_true (by first | assumption | omega) | (simp only [decide_eq_true_eq]; first | assumption | omega) | (simp; done) | (simp; omega))) ?_ | refine Eq.trans (if_neg (by first | assumption | omega | (intro hh; have := of_decide_eq_true hh; first | contradiction | omega) | (simp only [decide_eq_true_eq]; first | assumption | omega) | (simp; done) | (simp; omega))) ?_)); try rfl)
      by_cases c9 : 9 ≤ j
      · rw [if_pos (.inr c9)]
        have c00 : c ≠ 0 := fun e => c0 ⟨e, by omega⟩
        refine Ev.step (f := fun _ => some (0, 0, 3)) (fun k => ?_) (Ev.now _)
        simp only [varint_Get.l0, w1, w2, hcc, w3]
        ((repeat (first | refine Eq.trans (if_pos (by first | assumption | omega | trivial | exact decide_eq_true (by first | assumption | omega) | (simp only [decide_eq_true_eq]; first | assumption | omega) | (simp; done) | (simp; omega))) ?_ | refine Eq.trans (if_neg (by first | assumption | omega | (intro hh; have := of_decide_eq_true hh; first | contradiction | omega) | (simp only [decide_eq_true_eq]; first | assumption | omega) | (simp; done) | (simp; omega))) ?_)); try rfl)
      rw [if_neg (by rintro (h' | h'); exact c0 h'; exact c9 h')]
      obtain rfl := hp (by omega)
      have hN := hN1 (by omega)
      by_cases c1 : c < 128
      · rw [if_pos c1]
        obtain ⟨b1, b2, b3⟩ := step_bd j (by omega) N c hN0 hN hc.1 (by omega)
        by_cases c00 : c = 0
        · subst c00
          obtain rfl : j = 0 := by
            rcases Nat.eq_zero_or_pos j with h' | h'
            · exact h'
            · exact absurd ⟨rfl, h'⟩ c0
          obtain rfl : N = 0 := by simp at hN; omega
          refine Ev.step (f := fun _ => some (0, ((at_ + 0 + 1 : Nat) : Int), 0)) (fun k => ?_) (Ev_eq (Ev.now _) ?_)
          · simp only [varint_Get.l0, w1, w2, hcc, w3]
            ((repeat (first | refine Eq.trans (if_pos (by first | assumption | omega | trivial | exact decide_eq_true (by first | assumption | omega) | (simp only [decide_eq_true_eq]; first | assumption | omega) | (simp; done) | (simp; omega))) ?_ | refine Eq.trans (if_neg (by first | assumption | omega | (intro hh; have := of_decide_eq_true hh; first | contradiction | omega) | (simp only [decide_eq_true_eq]; first | assumption | omega) | (simp; done) | (simp; omega))) ?_)); try rfl)
          · simp [fin]
        · have e1 : wrap64 (128 ^ j * c) = 128 ^ j * c := by unfold wrap64; omega
          have e2 : wrap64 (N + 128 ^ j * c) = N + 128 ^ j * c := by unfold wrap64; omega
          refine Ev.step (f := fun _ => some (N + 128 ^ j * c, ((at_ + j + 1 : Nat) : Int), 0)) (fun k => ?_) (Ev_eq (Ev.now _) ?_)
          · simp only [varint_Get.l0, w1, w2, hcc, w3, e1, e2]
            ((repeat (first | refine Eq.trans (if_pos (by first | assumption | omega | trivial | exact decide_eq_true (by first | assumption | omega) | (simp only [decide_eq_true_eq]; first | assumption | omega) | (simp; done) | (simp; omega))) ?_ | refine Eq.trans (if_neg (by first | assumption | omega | (intro hh; have := of_decide_eq_true hh; first | contradiction | omega) | (simp only [decide_eq_true_eq]; first | assumption | omega) | (simp; done) | (simp; omega))) ?_)); try rfl)
          · simp only [fin, if_true]
            rfl
      · rw [if_neg c1]
        obtain ⟨b1, b2, b3⟩ := step_bd j (by omega) N (c - 128) hN0 hN (by omega) (by omega)
        have e0 : wrap64 (c - 128) = c - 128 := by unfold wrap64; omega
        have e1 : wrap64 (128 ^ j * (c - 128)) = 128 ^ j * (c - 128) := by unfold wrap64; omega
        have e2 : wrap64 (N + 128 ^ j * (c - 128)) = N + 128 ^ j * (c - 128) := by unfold wrap64; omega
        refine Ev.step (fun k => ?_) (get_loop bs hb hl at_ m (j + 1) (N + 128 ^ j * (c - 128)) (wrap64 (128 ^ j * 128)) (by omega) (by omega) (by omega) (by omega) (fun _ => b2) (fun h8 => ?_))
        · simp only [varint_Get.l0, w1, w2, hcc, w3, e0, e1, e2]
          ((repeat (first | refine Eq.trans (if_pos (by first | assumption | omega | trivial | exact decide_eq_true (by first | assumption | omega) | (simp only [decide_eq_true_eq]; first | assumption | omega) | (simp; done) | (simp; omega))) ?_ | refine Eq.trans (if_neg (by first | assumption | omega | (intro hh; have := of_decide_eq_true hh; first | contradiction | omega) | (simp only [decide_eq_true_eq]; first | assumption | omega) | (simp; done) | (simp; omega))) ?_)); try rfl)
        · have := pow_bd (j + 1) h8
          rw [Int.pow_succ] at this ⊢
          unfold wrap64
          omega
    · refine Ev.step (f := fun _ => some (0, 0, 1)) (fun k => ?_) (Ev_eq (Ev.now _) ?_)
      · simp only [varint_Get.l0]
        ((repeat (first | refine Eq.trans (if_pos (by first | assumption | omega | trivial | exact decide_eq_true (by first | assumption | omega) | (simp only [decide_eq_true_eq]; first | assumption | omega) | (simp; done) | (simp; omega))) ?_ | refine Eq.trans (if_neg (by first | assumption | omega | (intro hh; have := of_decide_eq_true hh; first | contradiction | omega) | (simp only [decide_eq_true_eq]; first | assumption | omega) | (simp; done) | (simp; omega))) ?_)); try rfl)
      · rw [List.drop_eq_nil_of_le (by omega)]
        simp [vg, fin]
theorem get_ev (bs : List Int) (hb : Byt bs) (hl : bs.length ≤ 9223372036854775807) (at_ : Nat) (h : at_ ≤ bs.length) : Ev (fun k => varint_Get.f k bs (at_ : Int)) (getS bs at_) := by
  unfold varint_Get.f
  exact Ev_if_neg (by omega) (Ev_if_neg (by omega) (get_loop bs hb hl at_ bs.length 0 0 1 (by omega) (by omega) (by omega) (by omega) (fun _ => by decide) (fun _ => by rfl)))
theorem get2_loop (bs : List Int) (hb : Byt bs) (hl : bs.length ≤ 9223372036854775807) (at_ : Nat) : ∀ (m j : Nat) (N p : Int), bs.length ≤ at_ + j + m → at_ + j ≤ bs.length → j ≤ 9 → 0 ≤ N → (j ≤ 8 → N < 128 ^ j) → (j ≤ 8 → p = 128 ^ j) →
    Ev (fun k => changeoverref01_Get.l0 k bs (at_ : Int) N p ((at_ + j : Nat) : Int)) (fin at_ (vg (bs.drop (at_ + j)) j N))
  | m, j, N, p, hm, hj, h9, hN0, hN1, hp => by
    by_cases h : at_ + j < bs.length
    · obtain ⟨m, rfl⟩ : ∃ m', m = m' + 1 := ⟨m - 1, by omega⟩
      have hc := byt_at hb (at_ + j) h
      rw [drop_rd _ h, vg]
      generalize hcc : rd bs ((at_ + j : Nat) : Int) = c at hc ⊢
      have w1 : wrap64 (((at_ + j : Nat) : Int) - (at_ : Int)) = (j : Int) := by unfold wrap64; omega
      have w2 := wrap_up (at_ + j) (by omega)
      by_cases c0 : c = 0 ∧ 0 < j
      · rw [if_pos (.inl c0)]
        refine Ev.step (f := fun k => changeoverref01_Get.j2 k bs (at_ : Int) N p ((at_ + j : Nat) : Int) true) (fun k => ?_) (Ev.step (f := fun _ => some (0, 0, 3)) (fun k => ?_) (Ev.now _))
        · simp only [changeoverref01_Get.l0, w1, w2, hcc]
          have := c0.1
          ((repeat (first | refine Eq.trans (if_pos (by first | assumption | omega | trivial | exact decide_eq_true (by first | assumption | omega) | (simp only [decide_eq_true_eq]; first | assumption | omega) | (simp; done) | (simp; omega))) ?_ | refine Eq.trans (if_neg (by first | assumption | omega | (intro hh; have := of_decide_eq_true hh; first | contradiction | omega) | (simp only [decide_eq_true_eq]; first | assumption | omega) | (simp; done) | (simp; omega))) ?_)); try rfl)
        · simp only [changeoverref01_Get.j2]
          ((repeat (first | refine Eq.trans (if_pos (by first | assumption | omega | trivial | exact decide_eq_true (by first | assumption | omega) | (simp only [decide_eq_true_eq]; first | assumption | omega) | (simp; done) | (simp; omega))) ?_ | refine Eq.trans (if_neg (by first | assumption | omega | (intro hh; have := of_decide_eq_true hh; first | contradiction | omega) | (simp only [decide_eq_true_eq]; first | assumption | omega) | (simp; done) | (simp; omega))) ?_)); try rfl)
      have first : ∀ k, changeoverref01_Get.l0 (k + 1) bs (at_ : Int) N p ((at_ + j : Nat) : Int) = changeoverref01_Get.j2 k bs (at_ : Int) N p ((at_ + j : Nat) : Int) (decide ((j : Int) ≥ 9)) := by
        intro k
        simp only [changeoverref01_Get.l0, w1, w2, hcc]
        rw [if_pos (by omega)]
        by_cases hj0 : 0 < j
        · have c00 : c ≠ 0 := fun e => c0 ⟨e, by omega⟩
          rw [if_pos (by omega), if_pos (by omega), if_neg c00]
        · rw [if_neg (by omega)]
      by_cases c9 : 9 ≤ j
      · rw [if_pos (.inr c9)]
        refine Ev.step (f := fun k => changeoverref01_Get.j2 k bs (at_ : Int) N p ((at_ + j : Nat) : Int) (decide ((j : Int) ≥ 9))) first (Ev.step (f := fun _ => some (0, 0, 3)) (fun k => ?_) (Ev.now _))
        simp only [changeoverref01_Get.j2]
        rw [decide_eq_true (by omega)]
        ((repeat (first | refine Eq.trans (if_pos (by first | assumption | omega | trivial | exact decide_eq_true (by first | assumption | omega) | (simp only [decide_eq_true_eq]; first | assumption | omega) | (simp; done) | (simp; omega))) ?_ | refine Eq.trans (if_neg (by first | assumption | omega | (intro hh; have := of_decide_eq_true hh; first | contradiction | omega) | (simp only [decide_eq_true_eq]; first | assumption | omega) | (simp; done) | (simp; omega))) ?_)); try rfl)
      rw [if_neg (by rintro (h' | h'); exact c0 h'; exact c9 h')]
      refine Ev.step (f := fun k => changeoverref01_Get.j2 k bs (at_ : Int) N p ((at_ + j : Nat) : Int) (decide ((j : Int) ≥ 9))) first ?_
      rw [decide_eq_false (by omega)]
      obtain rfl := hp (by omega)
      have hN := hN1 (by omega)
      by_cases c1 : c < 128
      · rw [if_pos c1]
        obtain ⟨b1, b2, b3⟩ := step_bd j (by omega) N c hN0 hN hc.1 (by omega)
        have e0 : wrap64 (Int.tmod c 128) = c := by rw [Int.tmod_eq_emod_of_nonneg hc.1]; unfold wrap64; omega
        have e1 : wrap64 (128 ^ j * c) = 128 ^ j * c := by unfold wrap64; omega
        have e2 : wrap64 (N + 128 ^ j * c) = N + 128 ^ j * c := by unfold wrap64; omega
        refine Ev.step (f := fun _ => some (N + 128 ^ j * c, ((at_ + j + 1 : Nat) : Int), 0)) (fun k => ?_) (Ev_eq (Ev.now _) ?_)
        · simp only [changeoverref01_Get.j2, w1, w2, hcc, e0, e1, e2]
          ((repeat (first | refine Eq.trans (if_pos (by first | assumption | omega | trivial | exact decide_eq_true (by first | assumption | omega) | (simp only [decide_eq_true_eq]; first | assumption | omega) | (simp; done) | (simp; omega))) ?_ | refine Eq.trans (if_neg (by first | assumption | omega | (intro hh; have := of_decide_eq_true hh; first | contradiction | omega) | (simp only [decide_eq_true_eq]; first | assumption | omega) | (simp; done) | (simp; omega))) ?_)); try rfl)
        · simp only [fin, if_true]
          rfl
      · rw [if_neg c1]
        obtain ⟨b1, b2, b3⟩ := step_bd j (by omega) N (c - 128) hN0 hN (by omega) (by omega)
        have e0 : wrap64 (Int.tmod c 128) = c - 128 := by rw [Int.tmod_eq_emod_of_nonneg hc.1]; unfold wrap64; omega
        have e1 : wrap64 (128 ^ j * (c - 128)) = 128 ^ j * (c - 128) := by unfold wrap64; omega
        have e2 : wrap64 (N + 128 ^ j * (c - 128)) = N + 128 ^ j * (c - 128) := by unfold wrap64; omega
        by_cases h8 : j < 8
        · refine Ev.step (fun k => ?_) (get2_loop bs hb hl at_ m (j + 1) (N + 128 ^ j * (c - 128)) (wrap64 (128 ^ j * 128)) (by omega) (by omega) (by omega) (by omega) (fun _ => b2) (fun h8 => ?_))
          · simp only [changeoverref01_Get.j2, w1, w2, hcc, e0, e1, e2]
            ((repeat (first | refine Eq.trans (if_pos (by first | assumption | omega | trivial | exact decide_eq_true (by first | assumption | omega) | (simp only [decide_eq_true_eq]; first | assumption | omega) | (simp; done) | (simp; omega))) ?_ | refine Eq.trans (if_neg (by first | assumption | omega | (intro hh; have := of_decide_eq_true hh; first | contradiction | omega) | (simp only [decide_eq_true_eq]; first | assumption | omega) | (simp; done) | (simp; omega))) ?_)); try rfl)
          · have := pow_bd (j + 1) h8
            rw [Int.pow_succ] at this ⊢
            unfold wrap64
            omega
        · refine Ev.step (fun k => ?_) (get2_loop bs hb hl at_ m (j + 1) (N + 128 ^ j * (c - 128)) (128 ^ j) (by omega) (by omega) (by omega) (by omega) (fun _ => b2) (fun h8 => by omega))
          simp only [changeoverref01_Get.j2, w1, w2, hcc, e0, e1, e2]
          ((repeat (first | refine Eq.trans (if_pos (by first | assumption | omega | trivial | exact decide_eq_true (by first | assumption | omega) | (simp only [decide_eq_true_eq]; first | assumption | omega) | (simp; done) | (simp; omega))) ?_ | refine Eq.trans (if_neg (by first | assumption | omega | (intro hh; have := of_decide_eq_true hh; first | contradiction | omega) | (simp only [decide_eq_true_eq]; first | assumption | omega) | (simp; done) | (simp; omega))) ?_)); try rfl)
    · refine Ev.step (f := fun _ => some (0, 0, 1)) (fun k => ?_) (Ev_eq (Ev.now _) ?_)
      · simp only [changeoverref01_Get.l0]
        ((repeat (first | refine Eq.trans (if_pos (by first | assumption | omega | trivial | exact decide_eq_true (by first | assumption | omega) | (simp only [decide_eq_true_eq]; first | assumption | omega) | (simp; done) | (simp; omega))) ?_ | refine Eq.trans (if_neg (by first | assumption | omega | (intro hh; have := of_decide_eq_true hh; first | contradiction | omega) | (simp only [decide_eq_true_eq]; first | assumption | omega) | (simp; done) | (simp; omega))) ?_)); try rfl)
      · rw [List.drop_eq_nil_of_le (by omega)]
        simp [vg, fin]
theorem get2_ev (bs : List Int) (hb : Byt bs) (hl : bs.length ≤ 9223372036854775807) (at_ : Nat) (h : at_ ≤ bs.length) : Ev (fun k => changeoverref01_Get.f k bs (at_ : Int)) (getS bs at_) := by
  unfold changeoverref01_Get.f
  refine Ev_if_neg (by omega) ?_
  rw [decide_eq_false (by omega)]
  refine Ev.step (fun k => ?_) (get2_loop bs hb hl at_ bs.length 0 0 1 (by omega) (by omega) (by omega) (by omega) (fun _ => by decide) (fun _ => by rfl))
  simp only [changeoverref01_Get.j0]
  ((repeat (first | refine Eq.trans (if_pos (by first | assumption | omega | trivial | exact decide_eq_true (by first | assumption | omega) | (simp only [decide_eq_true_eq]; first | assumption | omega) | (simp; done) | (simp; omega))) ?_ | refine Eq.trans (if_neg (by first | assumption | omega | (intro hh; have := of_decide_eq_true hh; first | contradiction | omega) | (simp only [decide_eq_true_eq]; first | assumption | omega) | (simp; done) | (simp; omega))) ?_)); try rfl)
/-- What is told of a number that was read. -/
theorem vg_ok : ∀ (l : List Int) (hb : Byt l) (j : Nat) (N : Int), j ≤ 9 → 0 ≤ N → (j ≤ 8 → N < 128 ^ j) → ∀ n m, vg l j N = (n, m, 0) → N ≤ n ∧ n < 9223372036854775808 ∧ j < m ∧ m ≤ j + l.length ∧ (∃ x : Nat, n = N + 128 ^ j * (x : Int) ∧ (0 < j → 0 < x) ∧ l.take (m - j) = vb x)
  | [], hb, j, N, _, _, _, n, m, h => by simp [vg] at h
  | c :: l, hb, j, N, h9, hN0, hN1, n, m, h => by
    have hc := hb c (by simp)
    rw [vg] at h
    by_cases c0 : (c = 0 ∧ 0 < j) ∨ 9 ≤ j
    · rw [if_pos c0] at h
      simp at h
    · rw [if_neg c0] at h
      have hj8 : j ≤ 8 := by omega
      by_cases c1 : c < 128
      · rw [if_pos c1] at h
        simp only [Prod.mk.injEq, and_true] at h
        obtain ⟨rfl, rfl⟩ := h
        obtain ⟨b1, b2, b3⟩ := step_bd j hj8 N c hN0 (hN1 hj8) hc.1 (by omega)
        refine ⟨by omega, b3, by omega, by simp, c.toNat, by rw [Int.toNat_of_nonneg hc.1], fun h' => ?_, ?_⟩
        · have : c ≠ 0 := fun e => c0 (.inl ⟨e, h'⟩)
          omega
        · rw [show j + 1 - j = 1 by omega, vb_small (by omega), Int.toNat_of_nonneg hc.1]
          simp
      · rw [if_neg c1] at h
        obtain ⟨b1, b2, b3⟩ := step_bd j hj8 N (c - 128) hN0 (hN1 hj8) (by omega) (by omega)
        obtain ⟨i1, i2, i3, i4, x, i5, i6, i7⟩ := vg_ok l (fun y hy => hb y (by simp [hy])) (j + 1) _ (by omega) (by omega) (fun _ => b2) n m h
        have hx := i6 (by omega)
        refine ⟨by omega, i2, by omega, by rw [List.length_cons]; omega, x * 128 + (c - 128).toNat, ?_, fun _ => by omega, ?_⟩
        · rw [i5, Int.pow_succ]
          have e : ((x * 128 + (c - 128).toNat : Nat) : Int) = (x : Int) * 128 + (c - 128) := by omega
          rw [e, Int.mul_add, Int.mul_assoc, Int.mul_comm 128 (x : Int)]
          omega
        · rw [show m - j = (m - (j + 1)) + 1 by omega, List.take_succ_cons, i7, vb_great (n := x * 128 + (c - 128).toNat) (by omega)]
          congr 1
          · omega
          · congr 1
            omega
/-- A number's bytes, read. -/
theorem vg_vb : ∀ (d x : Nat) (rest : List Int) (j : Nat) (N : Int), 1 ≤ d → x < 128 ^ d → j + d ≤ 9 → (0 < j → 0 < x) → vg (vb x ++ rest) j N = (N + 128 ^ j * (x : Int), j + (vb x).length, 0)
  | 0, x, rest, j, N, h, _, _, _ => by omega
  | d + 1, x, rest, j, N, _, hx, hj, hp => by
    by_cases c : x < 128
    · rw [vb_small c, List.singleton_append, vg, if_neg (by omega), if_pos (by omega)]
      rfl
    · rw [vb_great c, List.cons_append, vg, if_neg (by omega), if_neg (by omega)]
      cases d with
      | zero => simp at hx; omega
      | succ d =>
        have h2 : x / 128 < 128 ^ (d + 1) := Nat.div_lt_of_lt_mul (by rw [← Nat.pow_succ']; exact hx)
        rw [vg_vb (d + 1) (x / 128) rest (j + 1) _ (by omega) h2 (by omega) (fun _ => by omega)]
        simp only [Prod.mk.injEq, and_true, List.length_cons]
        refine ⟨?_, by omega⟩
        rw [Int.pow_succ]
        have e : (x : Int) = 128 * ((x / 128 : Nat) : Int) + ((128 + (x % 128 : Nat) : Int) - 128) := by omega
        rw [show (128 : Int) ^ j * (x : Int) = 128 ^ j * (128 * ((x / 128 : Nat) : Int) + ((128 + (x % 128 : Nat) : Int) - 128)) by rw [← e], Int.mul_add, Int.mul_assoc]
        omega
theorem vg_err : ∀ (l : List Int) (j : Nat) (N : Int), 0 ≤ (vg l j N).2.2
  | [], _, _ => by simp [vg]
  | c :: l, j, N => by
    rw [vg]
    split
    · simp
    split
    · simp
    · exact vg_err l _ _
end Go.Proofs.Ytalpmbeddldfoaa.PA
