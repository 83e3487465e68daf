-- A text that a program wrote for this claim (print.py over stand-in bodies, tool/pr.sh).
import Derived.Test.YtalpmbeddldfoaaF0
import Derived.Test.YtalpmbeddldfoaaFPackNewReader
import Derived.Test.YtalpmbeddldfoaaFVarintGet
import Derived.Test.YtalpmbeddldfoaaFPackReaderLowFail
import Derived.Test.YtalpmbeddldfoaaHandS
import Derived.Test.YtalpmbeddldfoaaHandG
namespace Go.Proofs.Ytalpmbeddldfoaa.PA
open Go.RowKit Go.Proofs.Ytalpmbeddldfoaa.Hand Go.Proofs.YtalpmbeddldfoaaW.PrintWords Go.Proofs.YtalpmbeddldfoaaW.PrintLast Go.Proofs.YtalpmbeddldfoaaW.PrintMore
attribute [local go_sem] max2_int min2_int max_two min_two max_three min_three max_four min_four   -- for this text's walks alone
attribute [local go_sem high] str_leq str_gtr str_geq
set_option linter.unusedVariables false
set_option linter.unusedSimpArgs false

/-! ### pack_Reader_limited: function 81 -/
def pack_Reader_limited.l0 : Nat → Int → Int → Int → Int → List Int → Int → Int → Option (Int × Int × Int)
  | 0, _, _, _, _, _, _, _ => none
  | k + 1, x1, x5, x6, x7, x1000, x1001, x1002 => if x7 < (x1000.length : Int) then (if 0 ≤ x7 then (if (rd x1000 x7) < 0 then (if 0 ≤ (x1000.length : Int) then (if (x1000.length : Int) < (x1000.length : Int) then (some (wrap64 (rd x1000 (x1000.length : Int)), x1001, x1002)) else (none)) else (none)) else (if (rd x1000 x7) > 255 then (if 0 ≤ (x1000.length : Int) then (if (x1000.length : Int) < (x1000.length : Int) then (some (wrap64 (rd x1000 (x1000.length : Int)), x1001, x1002)) else (none)) else (none)) else (if (wrap64 (rd x1000 x7)) = 0 then (if x7 > x1001 then (some (0, 0, 3)) else (if x1 < 0 then (some (0, wrap64 (x7 + 1), 2)) else (some (0, wrap64 (x7 + 1), x1002)))) else (if (wrap64 (x7 - x1001)) > 8 then (some (0, 0, 3)) else (if (wrap64 (rd x1000 x7)) < 128 then (if (wrap64 (x5 + (wrap64 (x6 * (wrap64 (rd x1000 x7)))))) > x1 then (some (wrap64 (x5 + (wrap64 (x6 * (wrap64 (rd x1000 x7))))), wrap64 (x7 + 1), 2)) else (some (wrap64 (x5 + (wrap64 (x6 * (wrap64 (rd x1000 x7))))), wrap64 (x7 + 1), x1002))) else (pack_Reader_limited.l0 k x1 (wrap64 (x5 + (wrap64 (x6 * (wrap64 ((wrap64 (rd x1000 x7)) - 128)))))) (wrap64 (x6 * 128)) (wrap64 (x7 + 1)) x1000 x1001 x1002)))))) else (none)) else (some (0, 0, 1))
def pack_Reader_limited.f (k : Nat) (s0_0 : List Int) (s0_1 : Int) (s0_2 : Int) (a1 : Int) : Option (Int × Int × Int) := if s0_1 < 0 then (some (0, 0, 6)) else (if s0_1 > (s0_0.length : Int) then (some (0, 0, 6)) else (pack_Reader_limited.l0 k a1 0 1 s0_1 s0_0 s0_1 s0_2))
theorem pack_Reader_limited.mono_l : ∀ k, (∀ y0 y1 y2 y3 y4 y5 y6, LeO (pack_Reader_limited.l0 k y0 y1 y2 y3 y4 y5 y6) (pack_Reader_limited.l0 (k + 1) y0 y1 y2 y3 y4 y5 y6))
  | 0 => fun _ _ _ _ _ _ _ r h => by simp [pack_Reader_limited.l0] at h
  | k + 1 => by
    have ih0 := pack_Reader_limited.mono_l k
    · intro y0 y1 y2 y3 y4 y5 y6
      unfold pack_Reader_limited.l0
      repeat' first
      | (with_reducible exact ih0 _ _ _ _ _ _ _)
      | (with_reducible exact LeO.refl _)
      | (with_reducible exact LeO.none _)
      | (with_reducible refine LeO.ite ?_ ?_)
      | (with_reducible refine LeO.bind ?_ (fun _ => ?_))
      | exact ih0 _ _ _ _ _ _ _
      | exact LeO.none _
      | refine LeO.ite ?_ ?_
      | refine LeO.bind ?_ (fun _ => ?_)
theorem pack_Reader_limited.mono : ∀ a0 a1 a2 a3 k, LeO (pack_Reader_limited.f k a0 a1 a2 a3) (pack_Reader_limited.f (k + 1) a0 a1 a2 a3) := by
  intro a0 a1 a2 a3 k
  have ih0 := pack_Reader_limited.mono_l k
  unfold pack_Reader_limited.f
  repeat' first
      | (with_reducible exact ih0 _ _ _ _ _ _ _)
      | (with_reducible exact LeO.refl _)
      | (with_reducible exact LeO.none _)
      | (with_reducible refine LeO.ite ?_ ?_)
      | (with_reducible refine LeO.bind ?_ (fun _ => ?_))
      | exact ih0 _ _ _ _ _ _ _
      | exact LeO.none _
      | refine LeO.ite ?_ ?_
      | refine LeO.bind ?_ (fun _ => ?_)
theorem lim_get (most at_ s2 : Int) (bs : List Int) : ∀ (k : Nat) (n p i r1 r2 r3 : Int), pack_Reader_limited.l0 k most n p i bs at_ s2 = some (r1, r2, r3) →
    ∃ a b e, varint_Get.l0 k bs at_ n p i = some (a, b, e) ∧ ((e ≠ 0 ∧ a = 0 ∧ b = 0 ∧ r1 = 0 ∧ r2 = 0 ∧ r3 = e) ∨ (e = 0 ∧ r1 = a ∧ r2 = b ∧ r3 = if most < a then 2 else s2))
  | 0, n, p, i, r1, r2, r3, h => by simp [pack_Reader_limited.l0] at h
  | k + 1, n, p, i, r1, r2, r3, h => by
    have hnn : ¬ ((bs.length : Int) < (bs.length : Int)) := by omega
    simp only [pack_Reader_limited.l0, hnn, if_false, ite_self] at h
    simp only [varint_Get.l0, hnn, if_false, ite_self]
    by_cases c1 : i < (bs.length : Int)
    · rw [if_pos c1] at h ⊢
      by_cases c2 : 0 ≤ i
      · rw [if_pos c2] at h ⊢
        by_cases c3 : rd bs i < 0
        · rw [if_pos c3] at h; cases h
        rw [if_neg c3] at h ⊢
        by_cases c4 : rd bs i > 255
        · rw [if_pos c4] at h; cases h
        rw [if_neg c4] at h ⊢
        by_cases c5 : wrap64 (rd bs i) = 0
        · rw [if_pos c5] at h ⊢
          by_cases c6 : i > at_
          · rw [if_pos c6] at h ⊢
            simp only [Option.some.injEq, Prod.mk.injEq] at h
            obtain ⟨rfl, rfl, rfl⟩ := h
            exact ⟨_, _, _, rfl, .inl ⟨by decide, rfl, rfl, rfl, rfl, rfl⟩⟩
          · rw [if_neg c6] at h ⊢
            by_cases c7 : most < 0
            · rw [if_pos c7] at h
              simp only [Option.some.injEq, Prod.mk.injEq] at h
              obtain ⟨rfl, rfl, rfl⟩ := h
              exact ⟨_, _, _, rfl, .inr ⟨rfl, rfl, rfl, by rw [if_pos c7]⟩⟩
            · rw [if_neg c7] at h
              simp only [Option.some.injEq, Prod.mk.injEq] at h
              obtain ⟨rfl, rfl, rfl⟩ := h
              exact ⟨_, _, _, rfl, .inr ⟨rfl, rfl, rfl, by rw [if_neg c7]⟩⟩
        · rw [if_neg c5] at h ⊢
          by_cases c6 : wrap64 (i - at_) > 8
          · rw [if_pos c6] at h ⊢
            simp only [Option.some.injEq, Prod.mk.injEq] at h
            obtain ⟨rfl, rfl, rfl⟩ := h
            exact ⟨_, _, _, rfl, .inl ⟨by decide, rfl, rfl, rfl, rfl, rfl⟩⟩
          · rw [if_neg c6] at h ⊢
            by_cases c7 : wrap64 (rd bs i) < 128
            · rw [if_pos c7] at h ⊢
              by_cases c8 : wrap64 (n + wrap64 (p * wrap64 (rd bs i))) > most
              · rw [if_pos c8] at h
                simp only [Option.some.injEq, Prod.mk.injEq] at h
                obtain ⟨rfl, rfl, rfl⟩ := h
                exact ⟨_, _, _, rfl, .inr ⟨rfl, rfl, rfl, by rw [if_pos c8]⟩⟩
              · rw [if_neg c8] at h
                simp only [Option.some.injEq, Prod.mk.injEq] at h
                obtain ⟨rfl, rfl, rfl⟩ := h
                exact ⟨_, _, _, rfl, .inr ⟨rfl, rfl, rfl, by rw [if_neg c8]⟩⟩
            · rw [if_neg c7] at h ⊢
              exact lim_get most at_ s2 bs k _ _ _ r1 r2 r3 h
      · rw [if_neg c2] at h; cases h
    · rw [if_neg c1] at h ⊢
      simp only [Option.some.injEq, Prod.mk.injEq] at h
      obtain ⟨rfl, rfl, rfl⟩ := h
      exact ⟨_, _, _, rfl, .inl ⟨by decide, rfl, rfl, rfl, rfl, rfl⟩⟩
theorem lim_of (k : Nat) (bs : List Int) (at_ s2 most r1 r2 r3 : Int) (h : pack_Reader_limited.f k bs at_ s2 most = some (r1, r2, r3)) :
    ∃ a b e, varint_Get.f k bs at_ = some (a, b, e) ∧ ((e ≠ 0 ∧ a = 0 ∧ b = 0 ∧ r1 = 0 ∧ r2 = 0 ∧ r3 = e) ∨ (e = 0 ∧ r1 = a ∧ r2 = b ∧ r3 = if most < a then 2 else s2)) := by
  rw [pack_Reader_limited.f] at h
  rw [varint_Get.f]
  by_cases c1 : at_ < 0
  · rw [if_pos c1] at h ⊢
    simp only [Option.some.injEq, Prod.mk.injEq] at h
    obtain ⟨rfl, rfl, rfl⟩ := h
    exact ⟨_, _, _, rfl, .inl ⟨by decide, rfl, rfl, rfl, rfl, rfl⟩⟩
  rw [if_neg c1] at h ⊢
  by_cases c2 : at_ > (bs.length : Int)
  · rw [if_pos c2] at h ⊢
    simp only [Option.some.injEq, Prod.mk.injEq] at h
    obtain ⟨rfl, rfl, rfl⟩ := h
    exact ⟨_, _, _, rfl, .inl ⟨by decide, rfl, rfl, rfl, rfl, rfl⟩⟩
  rw [if_neg c2] at h ⊢
  exact lim_get most at_ s2 bs k _ _ _ _ _ _ h
set_option maxHeartbeats 8000000 in
set_option maxRecDepth 100000 in
theorem pack_Reader_limited.calls (k : Nat) (g : Nat) (s0_0 : List Int) (s0_1 : Int) (s0_2 : Int) (a1 : Int) (r1 : Int) (r2 : Int) (r3 : Int) (w0 w : World) (hI : IsS102 w0 w g s0_0 s0_1 s0_2) (hB : Below w0.heap.size w0 w) (h : pack_Reader_limited.f k s0_0 s0_1 s0_2 a1 = some (r1, r2, r3)) :
    Calls Try.prog 81 #[.pointer (some ⟨g, 0, none⟩), .int .i64 a1] w fun e w' => e = .returned (.int .i64 r1) ∧ IsS102 w0 w' g s0_0 r2 r3 ∧ Below w0.heap.size w0 w' ∧ KeepBut w w' g none := by
  obtain ⟨a, b, e, hq, hd⟩ := lim_of k s0_0 s0_1 s0_2 a1 r1 r2 r3 h
  obtain ⟨A1, c1, hb, hg, hr, hc⟩ := id hI
  have HI := Aside0.mk hI
  have HB := Aside0.mk hB
  have HQ := Aside0.mk hq
  have HR := Aside0.mk (Kd.C_below hr hB)
  have HC := Aside0.mk hc
  have y0 := cellS102_0 hb
  have y1 := cellS102_1 hb
  have y2 := cellS102_2 hb
  have z1 := blk_frozen hb 1
  have z2 := blk_frozen hb 2
  clear h hq hI hB hb hg hr hc
  rcases hd with ⟨he, rfl, rfl, rfl, rfl, rfl⟩ | ⟨rfl, rfl, rfl, h3⟩
  · have eb : (r3 != 0) = true := bne_iff_ne.mpr he
    have eb2 : (r3 == 0) = false := beq_eq_false_iff_ne.mpr he
    clear he
    go_enter Try.func81, Try.ntmps81
    go_wp2
    go_quiet ((go_at_call 113; exact Calls.quiet_of ((varint_Get.calls k A1 c1 s0_0 s0_1 0 0 r3 _ (Kd.C_below HR.out (pw_below_drewN (Below.refl _ _) _)) HC.out HQ.out).mono (fun _ _ hh => ⟨hh.1, hh.2.out⟩))))
    go_wp2_with (go_at_call 114; ((with_reducible refine (pack_Reader_fail.calls g s0_0 s0_1 s0_2 (r3) s0_1 (r3) w0 _ (IsS102.drewN HI.out _) (pw_below_drewN HB.out _) rfl).mono ?_)); rintro e w3 ⟨rfl, hi, hb, hk⟩; have HI3 := Aside0.mk hi; have HB3 := Aside0.mk hb; have HK3 := Aside0.mk hk; clear y0 y1 y2 z1 z2; obtain ⟨A3, c3, hb, hg, hr⟩ := hi; have y1 := cellS102_1 hb; have z1 := blk_frozen hb 1; clear hb hg hr hk)
    go_ret
    exact ⟨rfl, IsS102.set_1 HI3.out 0, below_set HB3.out (IsS102.ge HI3.out), KeepBut.set_ ((keep_drewN (KeepBut.refl _ _ _) _).trans HK3.out (.inl rfl)) _ _⟩
  · by_cases c : a1 < r1
    · rw [if_pos c] at h3
      subst h3
      have cb : decide (a1 < r1) = true := decide_eq_true c
      clear c
      go_enter Try.func81, Try.ntmps81
      go_wp2
      (go_quiet ((go_at_call 113; exact Calls.quiet_of ((varint_Get.calls k A1 c1 s0_0 s0_1 r1 r2 0 _ (Kd.C_below HR.out (pw_below_drewN (Below.refl _ _) _)) HC.out HQ.out).mono (fun _ _ hh => ⟨hh.1, hh.2.out⟩)))))
      go_wp2_with (go_at_call 114; ((with_reducible refine (pack_Reader_fail.calls g s0_0 s0_1 s0_2 (2) s0_1 (2) w0 _ (IsS102.drewN HI.out _) (pw_below_drewN HB.out _) rfl).mono ?_)); rintro e w3 ⟨rfl, hi, hb, hk⟩; have HI3 := Aside0.mk hi; have HB3 := Aside0.mk hb; have HK3 := Aside0.mk hk; clear y0 y1 y2 z1 z2; obtain ⟨A3, c3, hb, hg, hr⟩ := hi; have y1 := cellS102_1 hb; have z1 := blk_frozen hb 1; clear hb hg hr hk)
      go_ret
      exact ⟨rfl, IsS102.set_1 HI3.out r2, below_set HB3.out (IsS102.ge HI3.out), KeepBut.set_ ((keep_drewN (KeepBut.refl _ _ _) _).trans HK3.out (.inl rfl)) _ _⟩
    · rw [if_neg c] at h3
      subst h3
      have cb : decide (a1 < r1) = false := decide_eq_false c
      clear c
      go_enter Try.func81, Try.ntmps81
      go_wp2
      (go_quiet ((go_at_call 113; exact Calls.quiet_of ((varint_Get.calls k A1 c1 s0_0 s0_1 r1 r2 0 _ (Kd.C_below HR.out (pw_below_drewN (Below.refl _ _) _)) HC.out HQ.out).mono (fun _ _ hh => ⟨hh.1, hh.2.out⟩)))))
      go_wp2
      go_ret
      exact ⟨rfl, IsS102.set_1 (IsS102.drewN HI.out _) r2, below_set (pw_below_drewN HB.out _) (IsS102.ge HI.out), KeepBut.set_ (keep_drewN (KeepBut.refl _ _ _) _) _ _⟩
end Go.Proofs.Ytalpmbeddldfoaa.PA
