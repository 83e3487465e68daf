-- A text that a program wrote for this claim (print.py over stand-in bodies, tool/pr.sh).
import Derived.Test.YtalpmbeddldfoaaF0
import Derived.Test.YtalpmbeddldfoaaFPackNewReader
import Derived.Test.YtalpmbeddldfoaaFPackReaderLowRaw
import Derived.Test.YtalpmbeddldfoaaHandB
import Derived.Test.YtalpmbeddldfoaaHandS
namespace Go.Proofs.Ytalpmbeddldfoaa.PA
open Go.RowKit Go.Proofs.Ytalpmbeddldfoaa.Hand Go.Proofs.YtalpmbeddldfoaaW.PrintWords Go.Proofs.YtalpmbeddldfoaaW.PrintLast Go.Proofs.YtalpmbeddldfoaaW.PrintMore
attribute [local go_sem] max2_int min2_int max_two min_two max_three min_three max_four min_four   -- for this text's walks alone
attribute [local go_sem high] str_leq str_gtr str_geq
set_option linter.unusedVariables false
set_option linter.unusedSimpArgs false

set_option maxHeartbeats 4000000 in
theorem Raw_clo (k : Nat) (g : Nat) (s0_0 : List Int) (s0_1 : Int) (s0_2 : Int) (a1 : Int) (r1 : List Int) (r2 : Int) (r3 : Int) (w0 w : World) (b1 b2 : Nat) (hb1 : w.cell? ⟨b1, 0, none⟩ = some (.pointer (some ⟨g, 0, none⟩))) (hb2 : w.cell? ⟨b2, 0, none⟩ = some (.int .i64 a1)) (hI : IsS102 w0 w g s0_0 s0_1 s0_2) (hB : Below w0.heap.size w0 w) (h : pack_Reader_raw.f k s0_0 s0_1 s0_2 a1 = some (r1, r2, r3)) :
    Calls Try.prog 88 #[.pointer (some ⟨b1, 0, none⟩), .pointer (some ⟨b2, 0, none⟩)] w fun e w' => ∃ v0_ : Value, e = .returned (v0_) ∧ Kd.R (Kd.int .u8) 5 w' w.heap.size (fun _ => True) v0_ r1 ∧ IsS102 w0 w' g s0_0 r2 r3 ∧ Below w0.heap.size w0 w' ∧ KeepBut w w' g none := by
  have HI := Aside0.mk hI
  have HB := Aside0.mk hB
  have HH := Aside0.mk h
  clear hI hB h
  go_enter Try.func88, Try.ntmps88
  go_wp2_with (go_at_call 89; ((with_reducible refine (pack_Reader_raw.calls k g s0_0 s0_1 s0_2 a1 r1 r2 r3 w0 _ HI.out HB.out HH.out).mono ?_)); rintro e w2 ⟨v0, rfl, hv, hi, hb, hk⟩; have HV := Aside0.mk hv; have HI2 := Aside0.mk hi; have HB2 := Aside0.mk hb; have HK := Aside0.mk hk; clear hi hb hk hv)
  go_ret
  exact ⟨_, rfl, HV.out, HI2.out, HB2.out, HK.out⟩
set_option maxHeartbeats 4000000 in
theorem Raw_read (k : Nat) (g : Nat) (s0_0 : List Int) (s0_1 : Int) (a1 : Int) (r1 : List Int) (r2 : Int) (r3 : Int) (x : List Int) (w0 w : World) (b1 b2 : Nat) (hb1 : w.cell? ⟨b1, 0, none⟩ = some (.pointer (some ⟨g, 0, none⟩))) (hb2 : w.cell? ⟨b2, 0, none⟩ = some (.int .i64 a1)) (hI : IsS102 w0 w g s0_0 s0_1 0) (hB : Below w0.heap.size w0 w) (h : pack_Reader_raw.f k s0_0 s0_1 0 a1 = some (r1, r2, r3)) (hx : x = if r3 = 0 then r1 else []) :
    Calls Try.prog 87 #[.pointer (some ⟨g, 0, none⟩), .func (.func 88) #[] #[.pointer (some ⟨b1, 0, none⟩), .pointer (some ⟨b2, 0, none⟩)]] w fun e w' => ∃ v0_ : Value, e = .returned (v0_) ∧ Kd.R (Kd.int .u8) 5 w' w.heap.size (fun _ => True) v0_ x ∧ IsS102 w0 w' g s0_0 r2 r3 ∧ Below w0.heap.size w0 w' ∧ KeepBut w w' g none := by
  have HI := Aside0.mk hI
  have HB := Aside0.mk hB
  have HH := Aside0.mk h
  have H1 := Aside0.mk hb1
  have H2 := Aside0.mk hb2
  obtain ⟨A0, c0, hb, hg, hr⟩ := hI
  have x2 := cellS102_2 hb
  clear hB h hb1 hb2 hb hg hr
  by_cases c : r3 = 0
  · rw [if_pos c] at hx
    subst hx
    subst c
    go_enter Try.func87, Try.ntmps87
    go_wp2_with (go_at_call 88; ((with_reducible refine (Raw_clo k g s0_0 s0_1 0 a1 x r2 0 w0 _ b1 b2 H1.out H2.out HI.out HB.out HH.out).mono ?_)); rintro e w2 ⟨v0, rfl, hv, hi, hb, hk⟩; have HV := Aside0.mk hv; have HI2 := Aside0.mk hi; have HB2 := Aside0.mk hb; have HK := Aside0.mk hk; obtain ⟨A1, c1, hb, hg, hr⟩ := hi; have y2 := cellS102_2 hb; clear hb hg hr hk hv)
    go_ret
    exact ⟨_, rfl, HV.out, HI2.out, HB2.out, HK.out⟩
  · rw [if_neg c] at hx
    subst hx
    have cb : (r3 != 0) = true := bne_iff_ne.mpr c
    have cb2 : (r3 == 0) = false := beq_eq_false_iff_ne.mpr c
    clear c
    go_enter Try.func87, Try.ntmps87
    go_wp2_with (go_at_call 88; ((with_reducible refine (Raw_clo k g s0_0 s0_1 0 a1 r1 r2 r3 w0 _ b1 b2 H1.out H2.out HI.out HB.out HH.out).mono ?_)); rintro e w2 ⟨v0, rfl, hv, hi, hb, hk⟩; have HV := Aside0.mk hv; have HI2 := Aside0.mk hi; have HB2 := Aside0.mk hb; have HK := Aside0.mk hk; obtain ⟨A1, c1, hb, hg, hr⟩ := hi; have y2 := cellS102_2 hb; clear hb hg hr hk hv)
    go_ret
    exact ⟨_, rfl, Kd.R_nil _ _ _ _ _, HI2.out, HB2.out, HK.out⟩
set_option maxHeartbeats 4000000 in
theorem Raw_dead (F : Value) (g : Nat) (s0_0 : List Int) (s0_1 s0_2 : Int) (w0 w : World) (c : s0_2 ≠ 0) (hI : IsS102 w0 w g s0_0 s0_1 s0_2) (hB : Below w0.heap.size w0 w) :
    Calls Try.prog 87 #[.pointer (some ⟨g, 0, none⟩), F] w fun e w' => e = .returned (.slice none 0 0) ∧ IsS102 w0 w' g s0_0 s0_1 s0_2 ∧ Below w0.heap.size w0 w' ∧ KeepBut w w' g none := by
  have HI := Aside0.mk hI
  have HB := Aside0.mk hB
  have cb : (s0_2 != 0) = true := bne_iff_ne.mpr c
  have cb2 : (s0_2 == 0) = false := beq_eq_false_iff_ne.mpr c
  obtain ⟨A0, c0, hb, hg, hr⟩ := hI
  have x2 := cellS102_2 hb
  clear hB hb hg hr c
  go_enter Try.func87, Try.ntmps87
  go_wp2
  go_ret
  exact ⟨rfl, HI.out, HB.out, KeepBut.refl _ _ _⟩
/-! ### pack_Reader_Raw: function 43 -/
def pack_Reader_Raw.f (k : Nat) (s0_0 : List Int) (s0_1 : Int) (s0_2 : Int) (a1 : Int) : Option (List Int × Int × Int) := if s0_2 = 0 then ((pack_Reader_raw.f k s0_0 s0_1 s0_2 a1).bind fun bt897 => (if bt897.2.2 = 0 then (some (bt897.1, bt897.2.1, bt897.2.2)) else (some (([] : List Int), bt897.2.1, bt897.2.2)))) else (some (([] : List Int), s0_1, s0_2))
theorem pack_Reader_Raw.mono : ∀ a0 a1 a2 a3 k, LeO (pack_Reader_Raw.f k a0 a1 a2 a3) (pack_Reader_Raw.f (k + 1) a0 a1 a2 a3) := by
  intro a0 a1 a2 a3 k
  unfold pack_Reader_Raw.f
  repeat' first
      | (with_reducible exact pack_Reader_raw.mono _ _ _ _ _)
      | (with_reducible exact LeO.refl _)
      | (with_reducible exact LeO.none _)
      | (with_reducible refine LeO.ite ?_ ?_)
      | (with_reducible refine LeO.bind ?_ (fun _ => ?_))
      | exact pack_Reader_raw.mono _ _ _ _ _
      | exact LeO.none _
      | refine LeO.ite ?_ ?_
      | refine LeO.bind ?_ (fun _ => ?_)
set_option maxHeartbeats 8000000 in
set_option maxRecDepth 100000 in
theorem pack_Reader_Raw.calls (k : Nat) (g : Nat) (s0_0 : List Int) (s0_1 : Int) (s0_2 : Int) (a1 : Int) (r1 : List Int) (r2 : Int) (r3 : Int) (w0 w : World) (hI : IsS102 w0 w g s0_0 s0_1 s0_2) (hB : Below w0.heap.size w0 w) (h : pack_Reader_Raw.f k s0_0 s0_1 s0_2 a1 = some (r1, r2, r3)) :
    Calls Try.prog 43 #[.pointer (some ⟨g, 0, none⟩), .int .i64 a1] w fun e w' => ∃ v0_ : Value, e = .returned (v0_) ∧ Kd.R (Kd.int .u8) 5 w' w.heap.size (fun _ => True) v0_ r1 ∧ IsS102 w0 w' g s0_0 r2 r3 ∧ Below w0.heap.size w0 w' ∧ KeepBut w w' g none := by
  have HI' := Aside0.mk ((hI.alloc (.cells #[.pointer (some ⟨g, 0, none⟩)] 37)).alloc (.cells #[.int .i64 a1] 3))
  have HB' := Aside0.mk (below_alloc (below_alloc hB (.cells #[.pointer (some ⟨g, 0, none⟩)] 37)) (.cells #[.int .i64 a1] 3))
  clear hI hB
  by_cases c : s0_2 = 0
  · subst c
    rw [pack_Reader_Raw.f, if_pos rfl] at h
    obtain ⟨⟨q1, q2, q3⟩, hq, h⟩ := Option.bind_eq_some_iff.mp h
    obtain ⟨x, hx⟩ : ∃ x, x = if q3 = 0 then q1 else [] := ⟨_, rfl⟩
    obtain ⟨rfl, rfl, rfl⟩ : x = r1 ∧ q2 = r2 ∧ q3 = r3 := by
      rw [hx]
      by_cases d : q3 = 0
      · simpa [d] using h
      · simpa [d] using h
    have HQ := Aside0.mk hq
    have HX := Aside0.mk hx
    clear h hq hx
    go_enter Try.func43, Try.ntmps43
    go_wp2_with (go_at_call 87; ((with_reducible refine (Raw_read k g s0_0 s0_1 a1 q1 q2 q3 x w0 _ _ _ ?s1 ?s2 HI'.out HB'.out HQ.out HX.out).mono ?_)); (case s1 => simp); (case s2 => simp); rintro e w2 ⟨v0, rfl, hv, hi, hb, hk⟩; have HV := Aside0.mk hv; have HI2 := Aside0.mk hi; have HB2 := Aside0.mk hb; have HK := Aside0.mk hk; clear hi hb hk hv)
    go_ret
    exact ⟨_, rfl, Kd.R_lower HV.out (by simp; omega), HI2.out, HB2.out, (keep_alloc (keep_alloc (KeepBut.refl _ _ _) _) _).trans HK.out (.inl rfl)⟩
  · rw [pack_Reader_Raw.f, if_neg c] at h
    obtain ⟨rfl, rfl, rfl⟩ : [] = r1 ∧ s0_1 = r2 ∧ s0_2 = r3 := by simpa using h
    have C := Aside0.mk c
    clear c h
    go_enter Try.func43, Try.ntmps43
    go_wp2_with (go_at_call 87; ((with_reducible refine (Raw_dead _ g s0_0 s0_1 s0_2 w0 _ C.out HI'.out HB'.out).mono ?_)); rintro e w2 ⟨rfl, hi, hb, hk⟩; have HI2 := Aside0.mk hi; have HB2 := Aside0.mk hb; have HK := Aside0.mk hk; clear hi hb hk)
    go_ret
    exact ⟨_, rfl, Kd.R_nil _ _ _ _ _, HI2.out, HB2.out, (keep_alloc (keep_alloc (KeepBut.refl _ _ _) _) _).trans HK.out (.inl rfl)⟩
end Go.Proofs.Ytalpmbeddldfoaa.PA
