-- A text that a program wrote for this claim (print.py over stand-in bodies, tool/pr.sh).
import Derived.Test.YtalpmbeddldfoaaF0
import Derived.Test.YtalpmbeddldfoaaFPackNewReader
import Derived.Test.YtalpmbeddldfoaaHandB
import Derived.Test.YtalpmbeddldfoaaHandS
namespace Go.Proofs.Ytalpmbeddldfoaa.PA
open Go.RowKit Go.Proofs.Ytalpmbeddldfoaa.Hand Go.Proofs.YtalpmbeddldfoaaW.PrintWords Go.Proofs.YtalpmbeddldfoaaW.PrintLast Go.Proofs.YtalpmbeddldfoaaW.PrintMore
attribute [local go_sem] max2_int min2_int max_two min_two max_three min_three max_four min_four   -- for this text's walks alone
attribute [local go_sem high] str_leq str_gtr str_geq
set_option linter.unusedVariables false
set_option linter.unusedSimpArgs false

/-! ### pack_Reader_Err: function 37 -/
def pack_Reader_Err.f (s0_0 : List Int) (s0_1 : Int) (s0_2 : Int) : Option (Int × Int × Int) := some (s0_2, s0_1, s0_2)
set_option maxHeartbeats 8000000 in
set_option maxRecDepth 100000 in
theorem pack_Reader_Err.calls (g : Nat) (s0_0 : List Int) (s0_1 : Int) (s0_2 : Int) (r1 : Int) (r2 : Int) (r3 : Int) (w0 w : World) (hI : IsS102 w0 w g s0_0 s0_1 s0_2) (hB : Below w0.heap.size w0 w) (h : pack_Reader_Err.f s0_0 s0_1 s0_2 = some (r1, r2, r3)) :
    Calls Try.prog 37 #[.pointer (some ⟨g, 0, none⟩)] w fun e w' => e = .returned (.int .i64 r1) ∧ IsS102 w0 w' g s0_0 r2 r3 ∧ Below w0.heap.size w0 w' ∧ KeepBut w w' g none := by
  obtain ⟨rfl, rfl, rfl⟩ : s0_2 = r1 ∧ s0_1 = r2 ∧ s0_2 = r3 := by simpa [pack_Reader_Err.f] using h
  clear h
  have HI := Aside0.mk hI
  have HB := Aside0.mk hB
  obtain ⟨A0, c0, hb, hg, hr⟩ := hI
  have x2 := cellS102_2 hb
  clear hB hb hg hr
  go_enter Try.func37, Try.ntmps37
  go_wp2
  go_ret
  exact ⟨rfl, HI.out, HB.out, KeepBut.refl _ _ _⟩
end Go.Proofs.Ytalpmbeddldfoaa.PA
