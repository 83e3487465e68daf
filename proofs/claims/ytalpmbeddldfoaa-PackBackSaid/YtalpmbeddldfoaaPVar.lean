/- The bytes of a number, in plain lists: what the reference writes. -/
import Derived.Test.YtalpmbeddldfoaaHandP
import Derived.Test.YtalpmbeddldfoaaF0
import Derived.Test.YtalpmbeddldfoaaFChangeoverref01Bytes
import Derived.Test.YtalpmbeddldfoaaFChangeoverref01Same
set_option linter.unusedVariables false
set_option linter.unusedSimpArgs false
namespace Go.Proofs.Ytalpmbeddldfoaa.PA
open Go.RowKit Go.IntWalk Go.Proofs.YtalpmbeddldfoaaW.PrintWords Go.Proofs.Ytalpmbeddldfoaa.Hand
def vb (n : Nat) : List Int := if h : n < 128 then [(n : Int)] else (128 + (n % 128 : Nat) : Int) :: vb (n / 128)
termination_by n
decreasing_by omega
theorem vb_small {n : Nat} (h : n < 128) : vb n = [(n : Int)] := by rw [vb, dif_pos h]
theorem vb_great {n : Nat} (h : ¬ n < 128) : vb n = (128 + (n % 128 : Nat) : Int) :: vb (n / 128) := by rw [vb, dif_neg h]
theorem vb_len : ∀ (m n : Nat), 1 ≤ m → n < 128 ^ m → 1 ≤ (vb n).length ∧ (vb n).length ≤ m
  | 0, n, h, _ => by omega
  | m + 1, n, _, h => by
    by_cases c : n < 128
    · rw [vb_small c]
      simp
    · rw [vb_great c, List.length_cons]
      cases m with
      | zero => simp at h; omega
      | succ m =>
        have h2 : n / 128 < 128 ^ (m + 1) := Nat.div_lt_of_lt_mul (by rw [← Nat.pow_succ']; exact h)
        have := vb_len (m + 1) (n / 128) (by omega) h2
        omega
theorem vb_len10 (n : Nat) (h : n ≤ 9223372036854775807) : 1 ≤ (vb n).length ∧ (vb n).length ≤ 10 := vb_len 10 n (by decide) (by omega)
theorem bytes_loop : ∀ (m n : Nat) (acc : List Int), 1 ≤ m → n < 128 ^ m → n ≤ 9223372036854775807 → acc.length + m ≤ 70368744177664 → Ev (fun k => changeoverref01_Bytes.l0 k (n : Int) acc) (acc ++ vb n)
  | 0, n, acc, h, _, _, _ => by omega
  | m + 1, n, acc, _, h, hn, hl => by
    by_cases c : n < 128
    · rw [vb_small c]
      refine Ev.step (f := fun _ => some (acc ++ [(n : Int)])) (fun k => ?_) (Ev.now _)
      simp only [changeoverref01_Bytes.l0]
      rw [if_neg (by omega), if_pos (by omega), show (n : Int) % 256 = n by omega]
    · rw [vb_great c]
      cases m with
      | zero => simp at h; omega
      | succ m =>
        have h2 : n / 128 < 128 ^ (m + 1) := Nat.div_lt_of_lt_mul (by rw [← Nat.pow_succ']; exact h)
        have e := bytes_loop (m + 1) (n / 128) (acc ++ [(128 + (n % 128 : Nat) : Int)]) (by omega) h2 (by omega) (by rw [List.length_append, List.length_singleton]; omega)
        rw [List.append_assoc, List.singleton_append] at e
        refine Ev.step (fun k => ?_) e
        have e1 : wrap64 (Int.tdiv (n : Int) 128) = ((n / 128 : Nat) : Int) := by
          rw [Int.tdiv_eq_ediv_of_nonneg (by omega)]
          unfold wrap64
          omega
        have e2 : (wrap64 (128 + Int.tmod (n : Int) 128)) % 256 = (128 + (n % 128 : Nat) : Int) := by
          rw [Int.tmod_eq_emod_of_nonneg (by omega)]
          unfold wrap64
          omega
        simp only [changeoverref01_Bytes.l0]
        rw [if_pos (by omega), if_pos (by omega), e1, e2]
theorem bytes_ev (n : Int) (h : n ≤ 9223372036854775807) : Ev (fun k => changeoverref01_Bytes.f k n) (vb n.toNat) := by
  have key : ∀ x : Nat, x ≤ 9223372036854775807 → Ev (fun k => changeoverref01_Bytes.j0 k (x : Int)) (vb x) := fun x hx =>
    Ev.step (fun k => by simp only [changeoverref01_Bytes.j0]) (bytes_loop 10 x [] (by decide) (by omega) hx (by decide))
  unfold changeoverref01_Bytes.f
  by_cases c : n < 0
  · refine Ev_if_pos c ?_
    have := key 0 (by decide)
    rw [show n.toNat = 0 by omega]
    exact this
  · refine Ev_if_neg c ?_
    have := key n.toNat (by omega)
    rwa [Int.toNat_of_nonneg (by omega)] at this
theorem same_loop (l : List Int) (hl : l.length ≤ 9223372036854775807) : ∀ (m i : Nat), l.length ≤ i + m → Ev (fun k => changeoverref01_Same.l0 k l l (i : Int)) true
  | m, i, hm => by
    by_cases h : i < l.length
    · obtain ⟨m, rfl⟩ : ∃ m', m = m' + 1 := ⟨m - 1, by omega⟩
      have e2 := wrap_up i (by omega)
      refine Ev.step (fun k => ?_) (same_loop l hl m (i + 1) (by omega))
      simp only [changeoverref01_Same.l0, e2]
      ((repeat (first | refine Eq.trans (if_pos (by first | assumption | omega | trivial | exact decide_eq_true (by first | assumption | omega) | (simp only [decide_eq_true_eq]; first | assumption | omega) | (simp; done) | (simp; omega))) ?_ | refine Eq.trans (if_neg (by first | assumption | omega | (intro hh; have := of_decide_eq_true hh; first | contradiction | omega) | (simp only [decide_eq_true_eq]; first | assumption | omega) | (simp; done) | (simp; omega))) ?_)); try rfl)
    · refine Ev.step (f := fun _ => some true) (fun k => ?_) (Ev.now _)
      simp only [changeoverref01_Same.l0]
      ((repeat (first | refine Eq.trans (if_pos (by first | assumption | omega | trivial | exact decide_eq_true (by first | assumption | omega) | (simp only [decide_eq_true_eq]; first | assumption | omega) | (simp; done) | (simp; omega))) ?_ | refine Eq.trans (if_neg (by first | assumption | omega | (intro hh; have := of_decide_eq_true hh; first | contradiction | omega) | (simp only [decide_eq_true_eq]; first | assumption | omega) | (simp; done) | (simp; omega))) ?_)); try rfl)
theorem same_ev (l : List Int) (hl : l.length ≤ 9223372036854775807) : Ev (fun k => changeoverref01_Same.f k l l) true := by
  unfold changeoverref01_Same.f
  exact Ev_if_pos rfl (same_loop l hl l.length 0 (by omega))
end Go.Proofs.Ytalpmbeddldfoaa.PA
