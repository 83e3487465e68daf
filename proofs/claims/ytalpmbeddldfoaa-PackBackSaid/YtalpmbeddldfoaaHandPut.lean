/- varint.Put and the reference's bytes of a number: the same, behind what stood there. -/
import Derived.Test.YtalpmbeddldfoaaFVarintPut
import Derived.Test.YtalpmbeddldfoaaFChangeoverref01Bytes
import Derived.Test.YtalpmbeddldfoaaHandG
namespace Go.Proofs.Ytalpmbeddldfoaa.PA
open Go.RowKit Go.Proofs.Ytalpmbeddldfoaa.Hand Go.Proofs.YtalpmbeddldfoaaW.PrintWords Go.Proofs.YtalpmbeddldfoaaW.PrintLast Go.Proofs.YtalpmbeddldfoaaW.PrintMore
set_option linter.unusedVariables false
set_option linter.unusedSimpArgs false
set_option maxRecDepth 100000 in
theorem or128 (x : Int) : bits .or .u8 (x % 256) 128 = 128 + x % 128 := by
  obtain ⟨a, ha⟩ := Int.eq_ofNat_of_zero_le (show 0 ≤ x % 256 by omega)
  have hlt : a < 256 := by omega
  have key : ∀ a : Fin 256, (a.val ||| 128) = 128 + a.val % 128 := by decide
  rw [ha, show (128 : Int) = ((128 : Nat) : Int) by rfl, (bits_nat .u8 8 (by decide) wraps_u8 a 128 hlt (by decide)).2, key ⟨a, hlt⟩]
  simp only
  omega
theorem bytes_put : ∀ (k : Nat) (x : Int) (acc r : List Int), 0 ≤ x → x ≤ 9223372036854775807 → changeoverref01_Bytes.l0 k x acc = some r → acc.length < r.length ∧ ∀ l : List Int, l.length + r.length < 140737488355328 → varint_Put.l0 k x (l ++ acc) = some (l ++ r)
  | 0, x, acc, r, _, _, h => by simp [changeoverref01_Bytes.l0] at h
  | k + 1, x, acc, r, h0, h1, h => by
    simp only [changeoverref01_Bytes.l0] at h
    by_cases c : x > 127
    · rw [if_pos c] at h
      split at h
      · have e1 : wrap64 (Int.tdiv x 128) = x / 128 := by
          rw [Int.tdiv_eq_ediv_of_nonneg h0]
          unfold wrap64
          omega
        have e2 : (wrap64 (128 + Int.tmod x 128)) % 256 = 128 + x % 128 := by
          rw [Int.tmod_eq_emod_of_nonneg h0]
          unfold wrap64
          omega
        rw [e1, e2] at h
        obtain ⟨i1, i2⟩ := bytes_put k (x / 128) _ r (by omega) (by omega) h
        rw [List.length_append, List.length_singleton] at i1
        refine ⟨by omega, fun l hl => ?_⟩
        simp only [varint_Put.l0]
        rw [if_pos (by omega), if_pos (by rw [List.length_append]; omega), or128, List.append_assoc]
        exact i2 l hl
      · cases h
    · rw [if_neg c] at h
      split at h
      · simp only [Option.some.injEq] at h
        subst h
        refine ⟨by simp, fun l hl => ?_⟩
        rw [List.length_append, List.length_singleton] at hl
        simp only [varint_Put.l0]
        rw [if_neg (by omega), if_pos (by rw [List.length_append]; omega), List.append_assoc]
      · cases h
theorem put_of_ref (k : Nat) (n : Int) (l bs : List Int) (hn : n ≤ 9223372036854775807) (h : changeoverref01_Bytes.f k n = some bs) (hl : l.length + bs.length < 140737488355328) : varint_Put.f k l n = some (l ++ bs) := by
  obtain ⟨x, hx, hx0, hx1, hj⟩ : ∃ x, mx n 0 = x ∧ 0 ≤ x ∧ x ≤ 9223372036854775807 ∧ changeoverref01_Bytes.j0 k x = some bs := by
    rw [changeoverref01_Bytes.f] at h
    by_cases c : n < 0
    · rw [if_pos c] at h
      exact ⟨0, by unfold mx; rw [if_pos c], by omega, by omega, h⟩
    · rw [if_neg c] at h
      exact ⟨n, by unfold mx; rw [if_neg c], by omega, by omega, h⟩
  cases k with
  | zero => simp [changeoverref01_Bytes.j0] at hj
  | succ k =>
    simp only [changeoverref01_Bytes.j0] at hj
    have h2 := (bytes_put k x [] bs hx0 hx1 hj).2 l hl
    rw [List.append_nil] at h2
    rw [varint_Put.f, hx]
    have hc : slices_Clone_byte_byte.f l = some l := by simp [slices_Clone_byte_byte.f]; omega
    rw [hc, Option.bind_some]
    exact varint_Put.mono_l k x l _ h2
end Go.Proofs.Ytalpmbeddldfoaa.PA
