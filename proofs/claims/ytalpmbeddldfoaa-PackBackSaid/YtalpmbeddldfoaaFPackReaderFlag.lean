-- A text that a program wrote for this claim (print.py over stand-in bodies, tool/pr.sh).
import Derived.Test.YtalpmbeddldfoaaF0
import Derived.Test.YtalpmbeddldfoaaFPackNewReader
import Derived.Test.YtalpmbeddldfoaaFPackReaderLowFlag
import Derived.Test.YtalpmbeddldfoaaHandB
import Derived.Test.YtalpmbeddldfoaaHandS
namespace Go.Proofs.Ytalpmbeddldfoaa.PA
open Go.RowKit Go.Proofs.Ytalpmbeddldfoaa.Hand Go.Proofs.YtalpmbeddldfoaaW.PrintWords Go.Proofs.YtalpmbeddldfoaaW.PrintLast Go.Proofs.YtalpmbeddldfoaaW.PrintMore
attribute [local go_sem] max2_int min2_int max_two min_two max_three min_three max_four min_four   -- for this text's walks alone
attribute [local go_sem high] str_leq str_gtr str_geq
set_option linter.unusedVariables false
set_option linter.unusedSimpArgs false

set_option maxHeartbeats 4000000 in
theorem Flag_read (g : Nat) (s0_0 : List Int) (s0_1 : Int) (r1 : Bool) (r2 : Int) (r3 : Int) (x : Bool) (w0 w : World) (hI : IsS102 w0 w g s0_0 s0_1 0) (hB : Below w0.heap.size w0 w) (h : pack_Reader_flag.f s0_0 s0_1 0 = some (r1, r2, r3)) (hx : x = if r3 = 0 then r1 else false) :
    Calls Try.prog 83 #[.pointer (some ⟨g, 0, none⟩), .func (.func 82) #[.pointer (some ⟨g, 0, none⟩)] #[]] w fun e w' => e = .returned (.bool x) ∧ IsS102 w0 w' g s0_0 r2 r3 ∧ Below w0.heap.size w0 w' ∧ KeepBut w w' g none := by
  have HI := Aside0.mk hI
  have HB := Aside0.mk hB
  have HH := Aside0.mk h
  obtain ⟨A0, c0, hb, hg, hr⟩ := hI
  have x2 := cellS102_2 hb
  clear hB h hb hg hr
  by_cases c : r3 = 0
  · rw [if_pos c] at hx
    subst hx
    subst c
    go_enter Try.func83, Try.ntmps83
    go_wp2_with (go_at_call 82; ((with_reducible refine (pack_Reader_flag.calls g s0_0 s0_1 0 x r2 0 w0 _ HI.out HB.out HH.out).mono ?_)); rintro e w2 ⟨rfl, hi, hb, hk⟩; have HI2 := Aside0.mk hi; have HB2 := Aside0.mk hb; have HK := Aside0.mk hk; obtain ⟨A1, c1, hb, hg, hr⟩ := hi; have y2 := cellS102_2 hb; clear hb hg hr hk)
    go_ret
    exact ⟨rfl, HI2.out, HB2.out, HK.out⟩
  · rw [if_neg c] at hx
    subst hx
    have cb : (r3 != 0) = true := bne_iff_ne.mpr c
    have cb2 : (r3 == 0) = false := beq_eq_false_iff_ne.mpr c
    clear c
    go_enter Try.func83, Try.ntmps83
    go_wp2_with (go_at_call 82; ((with_reducible refine (pack_Reader_flag.calls g s0_0 s0_1 0 r1 r2 r3 w0 _ HI.out HB.out HH.out).mono ?_)); rintro e w2 ⟨rfl, hi, hb, hk⟩; have HI2 := Aside0.mk hi; have HB2 := Aside0.mk hb; have HK := Aside0.mk hk; obtain ⟨A1, c1, hb, hg, hr⟩ := hi; have y2 := cellS102_2 hb; clear hb hg hr hk)
    go_ret
    exact ⟨rfl, HI2.out, HB2.out, HK.out⟩
set_option maxHeartbeats 4000000 in
theorem Flag_dead (F : Value) (g : Nat) (s0_0 : List Int) (s0_1 s0_2 : Int) (w0 w : World) (c : s0_2 ≠ 0) (hI : IsS102 w0 w g s0_0 s0_1 s0_2) (hB : Below w0.heap.size w0 w) :
    Calls Try.prog 83 #[.pointer (some ⟨g, 0, none⟩), F] w fun e w' => e = .returned (.bool false) ∧ IsS102 w0 w' g s0_0 s0_1 s0_2 ∧ Below w0.heap.size w0 w' ∧ KeepBut w w' g none := by
  have HI := Aside0.mk hI
  have HB := Aside0.mk hB
  have cb : (s0_2 != 0) = true := bne_iff_ne.mpr c
  have cb2 : (s0_2 == 0) = false := beq_eq_false_iff_ne.mpr c
  obtain ⟨A0, c0, hb, hg, hr⟩ := hI
  have x2 := cellS102_2 hb
  clear hB hb hg hr c
  go_enter Try.func83, Try.ntmps83
  go_wp2
  go_ret
  exact ⟨rfl, HI.out, HB.out, KeepBut.refl _ _ _⟩
/-! ### pack_Reader_Flag: function 33 -/
def pack_Reader_Flag.f (s0_0 : List Int) (s0_1 : Int) (s0_2 : Int) : Option (Bool × Int × Int) := if s0_2 = 0 then ((pack_Reader_flag.f s0_0 s0_1 s0_2).bind fun bt916 => (if bt916.2.2 = 0 then (some (bt916.1, bt916.2.1, bt916.2.2)) else (some (false, bt916.2.1, bt916.2.2)))) else (some (false, s0_1, s0_2))
set_option maxHeartbeats 8000000 in
set_option maxRecDepth 100000 in
theorem pack_Reader_Flag.calls (g : Nat) (s0_0 : List Int) (s0_1 : Int) (s0_2 : Int) (r1 : Bool) (r2 : Int) (r3 : Int) (w0 w : World) (hI : IsS102 w0 w g s0_0 s0_1 s0_2) (hB : Below w0.heap.size w0 w) (h : pack_Reader_Flag.f s0_0 s0_1 s0_2 = some (r1, r2, r3)) :
    Calls Try.prog 33 #[.pointer (some ⟨g, 0, none⟩)] w fun e w' => e = .returned (.bool r1) ∧ IsS102 w0 w' g s0_0 r2 r3 ∧ Below w0.heap.size w0 w' ∧ KeepBut w w' g none := by
  have HI' := Aside0.mk hI
  have HB' := Aside0.mk hB
  clear hI hB
  by_cases c : s0_2 = 0
  · subst c
    rw [pack_Reader_Flag.f, if_pos rfl] at h
    obtain ⟨⟨q1, q2, q3⟩, hq, h⟩ := Option.bind_eq_some_iff.mp h
    obtain ⟨x, hx⟩ : ∃ x, x = if q3 = 0 then q1 else false := ⟨_, rfl⟩
    obtain ⟨rfl, rfl, rfl⟩ : x = r1 ∧ q2 = r2 ∧ q3 = r3 := by
      rw [hx]
      by_cases d : q3 = 0
      · simpa [d] using h
      · simpa [d] using h
    have HQ := Aside0.mk hq
    have HX := Aside0.mk hx
    clear h hq hx
    go_enter Try.func33, Try.ntmps33
    go_wp2_with (go_at_call 83; ((with_reducible refine (Flag_read g s0_0 s0_1 q1 q2 q3 x w0 _ HI'.out HB'.out HQ.out HX.out).mono ?_)); rintro e w2 ⟨rfl, hi, hb, hk⟩; have HI2 := Aside0.mk hi; have HB2 := Aside0.mk hb; have HK := Aside0.mk hk; clear hi hb hk)
    go_ret
    exact ⟨rfl, HI2.out, HB2.out, HK.out⟩
  · rw [pack_Reader_Flag.f, if_neg c] at h
    obtain ⟨rfl, rfl, rfl⟩ : false = r1 ∧ s0_1 = r2 ∧ s0_2 = r3 := by simpa using h
    have C := Aside0.mk c
    clear c h
    go_enter Try.func33, Try.ntmps33
    go_wp2_with (go_at_call 83; ((with_reducible refine (Flag_dead _ g s0_0 s0_1 s0_2 w0 _ C.out HI'.out HB'.out).mono ?_)); rintro e w2 ⟨rfl, hi, hb, hk⟩; have HI2 := Aside0.mk hi; have HB2 := Aside0.mk hb; have HK := Aside0.mk hk; clear hi hb hk)
    go_ret
    exact ⟨rfl, HI2.out, HB2.out, HK.out⟩
end Go.Proofs.Ytalpmbeddldfoaa.PA
