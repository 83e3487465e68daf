/- Small laws for the walks of this seat: comparisons of strings as one Bool. -/
import Derived.Test.YtalpmbeddldfoaaProg
import Derived.WalkKit
import Derived.Lib.SliceRun
import Derived.StillTailTactics
import Derived.Laws.Externs
import Derived.Lib.Bytealg
import Derived.Lib.Strings
import Derived.Lib.Overlaps
namespace Go.Proofs.Ytalpmbeddldfoaa.Hand

theorem less_total : ∀ a b : List UInt8, (Op.bytesLess a b || a == b) = !(Op.bytesLess b a)
  | [], [] => by simp [Op.bytesLess]
  | [], _ :: _ => by simp [Op.bytesLess]
  | _ :: _, [] => by simp [Op.bytesLess]
  | x :: xs, y :: ys => by
    have ih := less_total xs ys
    simp only [Op.bytesLess]
    by_cases h : x < y
    · have h1 : ¬ y < x := by
        intro h2
        rw [UInt8.lt_iff_toNat_lt] at h h2
        omega
      have h3 : ¬ y = x := by
        rintro rfl
        exact h1 h
      simp [h, h1, h3]
    · by_cases e : x = y
      · subst e
        simp at ih ⊢
        simpa [h] using ih
      · have h1 : y < x := by
          rw [UInt8.lt_iff_toNat_lt] at h ⊢
          have : x.toNat ≠ y.toNat := fun q => e (UInt8.toNat_inj.mp q)
          omega
        simp [h, h1, e]

theorem str_leq (t : TypeId) (a b : ByteArray) : binOp .leq t (.string a) (.string b) = pure (.bool !(Op.bytesLess b.toList a.toList)) := by
  rw [← less_total]
  simp [binOp, Op.stringOp]
theorem str_gtr (t : TypeId) (a b : ByteArray) : binOp .gtr t (.string a) (.string b) = pure (.bool (Op.bytesLess b.toList a.toList)) := by
  have h := less_total a.toList b.toList
  have h' : Op.bytesLess b.toList a.toList = !(Op.bytesLess a.toList b.toList || a.toList == b.toList) := by rw [h]; simp
  rw [h']
  simp [binOp, Op.stringOp]
theorem str_geq (t : TypeId) (a b : ByteArray) : binOp .geq t (.string a) (.string b) = pure (.bool !(Op.bytesLess a.toList b.toList)) := by simp [binOp, Op.stringOp]
end Go.Proofs.Ytalpmbeddldfoaa.Hand
