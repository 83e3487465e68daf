/- A cell's fact behind draws and stores. -/
import Derived.Test.YtalpmbeddldfoaaDoorProg
import Derived.Deep.Draws
namespace Go.Proofs.YtalpmbeddldfoaaDoor.Hand
theorem setCell_drawn (w : World) (n : Nat) (p : Addr) (v : Value) : (w.drewN n).setCell p v = (w.setCell p v).drewN n := by
  unfold World.drewN World.setCell
  rfl
theorem cell_drawn {A B : World} {n : Nat} {a : Addr} {v : Value} (e : A = B.drewN n) (h : B.cell? a = some v) : A.cell? a = some v := by subst e; exact h
theorem nil_beq (l : List UInt8) : (l == []) = l.isEmpty := by cases l <;> rfl
theorem limbs_nand {a b c : Bool} (h : a = true) (k : (!a || (!b || !c)) = true) : (b && c) = false := by subst h; cases b <;> cases c <;> simp_all
theorem limbs_and {a b c : Bool} (h : a = true) (k : (!a || (!b || !c)) = false) : (b && c) = true := by subst h; cases b <;> cases c <;> simp_all
theorem limbs_or {a b c v : Bool} (h : a = true) (k : (!a || (!b || !c)) = v) : (!b || !c) = v := by subst h; simpa using k
end Go.Proofs.YtalpmbeddldfoaaDoor.Hand
