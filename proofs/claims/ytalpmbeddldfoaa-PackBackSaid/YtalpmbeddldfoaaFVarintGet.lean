-- A text that a program wrote for this claim (print.py over stand-in bodies, tool/pr.sh).
import Derived.Test.YtalpmbeddldfoaaF0
import Derived.Test.YtalpmbeddldfoaaHandG
namespace Go.Proofs.Ytalpmbeddldfoaa.PA
open Go.RowKit Go.Proofs.Ytalpmbeddldfoaa.Hand Go.Proofs.YtalpmbeddldfoaaW.PrintWords Go.Proofs.YtalpmbeddldfoaaW.PrintLast Go.Proofs.YtalpmbeddldfoaaW.PrintMore
attribute [local go_sem] max2_int min2_int max_two min_two max_three min_three max_four min_four   -- for this text's walks alone
attribute [local go_sem high] str_leq str_gtr str_geq
set_option linter.unusedVariables false
set_option linter.unusedSimpArgs false

/-! ### varint_Get: function 113 -/
def varint_Get.l0 : Nat → List Int → Int → Int → Int → Int → Option (Int × Int × Int)
  | 0, _, _, _, _, _ => none
  | k + 1, x0, x1, x7, x8, x9 => if x9 < (x0.length : Int) then (if 0 ≤ x9 then (if (rd x0 x9) < 0 then (if 0 ≤ (x0.length : Int) then (if (x0.length : Int) < (x0.length : Int) then (some (wrap64 (rd x0 (x0.length : Int)), 0, 0)) else (none)) else (none)) else (if (rd x0 x9) > 255 then (if 0 ≤ (x0.length : Int) then (if (x0.length : Int) < (x0.length : Int) then (some (wrap64 (rd x0 (x0.length : Int)), 0, 0)) else (none)) else (none)) else (if (wrap64 (rd x0 x9)) = 0 then (if x9 > x1 then (some (0, 0, 3)) else (some (0, wrap64 (x9 + 1), 0))) else (if (wrap64 (x9 - x1)) > 8 then (some (0, 0, 3)) else (if (wrap64 (rd x0 x9)) < 128 then (some (wrap64 (x7 + (wrap64 (x8 * (wrap64 (rd x0 x9))))), wrap64 (x9 + 1), 0)) else (varint_Get.l0 k x0 x1 (wrap64 (x7 + (wrap64 (x8 * (wrap64 ((wrap64 (rd x0 x9)) - 128)))))) (wrap64 (x8 * 128)) (wrap64 (x9 + 1)))))))) else (none)) else (some (0, 0, 1))
def varint_Get.f (k : Nat) (l0 : List Int) (a1 : Int) : Option (Int × Int × Int) := if a1 < 0 then (some (0, 0, 6)) else (if a1 > (l0.length : Int) then (some (0, 0, 6)) else (varint_Get.l0 k l0 a1 0 1 a1))
theorem varint_Get.mono_l : ∀ k, (∀ y0 y1 y2 y3 y4, LeO (varint_Get.l0 k y0 y1 y2 y3 y4) (varint_Get.l0 (k + 1) y0 y1 y2 y3 y4))
  | 0 => fun _ _ _ _ _ r h => by simp [varint_Get.l0] at h
  | k + 1 => by
    have ih0 := varint_Get.mono_l k
    · intro y0 y1 y2 y3 y4
      unfold varint_Get.l0
      repeat' first
      | (with_reducible exact ih0 _ _ _ _ _)
      | (with_reducible exact LeO.refl _)
      | (with_reducible exact LeO.none _)
      | (with_reducible refine LeO.ite ?_ ?_)
      | (with_reducible refine LeO.bind ?_ (fun _ => ?_))
      | exact ih0 _ _ _ _ _
      | exact LeO.none _
      | refine LeO.ite ?_ ?_
      | refine LeO.bind ?_ (fun _ => ?_)
theorem varint_Get.mono : ∀ a0 a1 k, LeO (varint_Get.f k a0 a1) (varint_Get.f (k + 1) a0 a1) := by
  intro a0 a1 k
  have ih0 := varint_Get.mono_l k
  unfold varint_Get.f
  repeat' first
      | (with_reducible exact ih0 _ _ _ _ _)
      | (with_reducible exact LeO.refl _)
      | (with_reducible exact LeO.none _)
      | (with_reducible refine LeO.ite ?_ ?_)
      | (with_reducible refine LeO.bind ?_ (fun _ => ?_))
      | exact ih0 _ _ _ _ _
      | exact LeO.none _
      | refine LeO.ite ?_ ?_
      | refine LeO.bind ?_ (fun _ => ?_)
set_option maxHeartbeats 8000000 in
set_option maxRecDepth 100000 in
theorem varint_Get.calls (k : Nat) (A0 : Option Addr) (c0 : Nat) (l0 : List Int) (a1 : Int) (r1 : Int) (r2 : Int) (r3 : Int) (w : World) (hr0 : Kd.C (Kd.int .u8) w A0 l0.length l0) (hc0 : l0.length ≤ c0) (h : varint_Get.f k l0 a1 = some (r1, r2, r3)) :
    Calls Try.prog 113 #[.slice A0 l0.length c0, .int .i64 a1] w fun e w' => e = .returned (.tuple #[.int .i64 r1, .int .i64 r2, .int .i64 r3]) ∧ Drawn0 w w' := by
  have HR0 := Aside0.mk hr0
  have HC0 := Aside0.mk hc0
  have hl : l0.length ≤ 9223372036854775807 := hr0.2.1
  clear hr0 hc0
  by_cases c1 : a1 < 0
  · rw [varint_Get.f, if_pos c1] at h
    obtain ⟨rfl, rfl, rfl⟩ : 0 = r1 ∧ 0 = r2 ∧ 6 = r3 := by simpa using h
    have c1b : decide (a1 < 0) = true := decide_eq_true c1
    clear h c1 hl
    go_enter Try.func113, Try.ntmps113
    go_wp2
    go_step3
    go_wp2
    rw [Exit.noGoto_ret]
    go_ret3
    exact ⟨rfl, Drawn0.refl _⟩
  rw [varint_Get.f, if_neg c1] at h
  by_cases c2 : a1 > (l0.length : Int)
  · rw [if_pos c2] at h
    obtain ⟨rfl, rfl, rfl⟩ : 0 = r1 ∧ 0 = r2 ∧ 6 = r3 := by simpa using h
    have c1b : decide (a1 < 0) = false := decide_eq_false c1
    have c2b : decide ((l0.length : Int) < a1) = true := decide_eq_true c2
    clear h c1 hl c2
    go_enter Try.func113, Try.ntmps113
    go_wp2
    go_step3
    go_wp2
    rw [Exit.noGoto_ret]
    go_ret3
    exact ⟨rfl, Drawn0.refl _⟩
  rw [if_neg c2] at h
  have H' := Aside0.mk h
  clear h
  have hHL := Aside0.mk hl
  have c1b : decide (a1 < 0) = false := decide_eq_false c1
  have c2b : decide ((l0.length : Int) < a1) = false := decide_eq_false c2
  clear hl
  go_enter Try.func113, Try.ntmps113
  go_wp2
  go_step3
  go_wp2
  go_step3
  go_wp2
  go_loopg [7, 8] k (fun kq v7 v8 w' => ∃ (N p : Int) (j : Nat), v7 = .int .u64 N ∧ v8 = .int .i64 (a1 + j) ∧ Aside0 (varint_Get.l0 kq l0 a1 N p (a1 + j) = some (r1, r2, r3)) ∧ Aside0 (kq ≤ k) ∧ Aside0 (0 ≤ N ∧ N < 2 ^ (7 * j) ∧ j ≤ 9 ∧ a1 + j ≤ l0.length ∧ (j ≤ 8 → p = 2 ^ (7 * j))) ∧ w = w')
  case atStart => exact ⟨0, 1, 0, rfl, by simp, by simpa using H', ⟨Nat.le_refl _⟩, ⟨by decide, by decide, by decide, by simp; omega, fun _ => rfl⟩, rfl⟩
  case round =>
    clear H'
    obtain ⟨N, p, j, rfl, rfl, HA, HK1, HI, rfl⟩ := hrel
    cases gk with
    | zero => exact absurd HA.out (by simp [varint_Get.l0])
    | succ k1 =>
      have H := HA.out
      clear HA
      obtain ⟨hN0, hN1, hj9, hjl, hp⟩ := HI.out
      have hl := hHL.out
      have w1 : wrap64 (a1 + j - a1) = j := by unfold wrap64; omega
      simp only [varint_Get.l0] at H
      by_cases c3 : a1 + j < (l0.length : Int)
      · have w2 : wrap64 (a1 + j + 1) = a1 + ((j + 1 : Nat) : Int) := by unfold wrap64; omega
        have hnn : ¬ ((l0.length : Int) < (l0.length : Int)) := by omega
        rw [if_pos c3, if_pos (by omega), w1, w2] at H
        simp only [hnn, if_false, ite_self] at H
        generalize hc : rd l0 (a1 + j) = c at H
        split at H
        · cases H
        rename_i b0
        split at H
        · cases H
        rename_i b1
        have w3 : wrap64 c = c := by unfold wrap64; omega
        rw [w3] at H
        obtain ⟨ad, e, hx⟩ := Kd.at_int HR0.out (a1 + j) (by omega) c3
        cases e
        rw [hc] at hx
        by_cases c4 : c = 0
        · subst c4
          rw [if_pos rfl] at H
          by_cases c5 : a1 + j > a1
          · rw [if_pos c5] at H
            obtain ⟨rfl, rfl, rfl⟩ : 0 = r1 ∧ 0 = r2 ∧ 3 = r3 := by simpa using H
            clear H w1 w2 w3 hp hN1 hc hnn b0 b1
            go_wp2
            rw [Exit.noGoto_ret]
            go_ret3
            exact ⟨rfl, Drawn0.refl _⟩
          · rw [if_neg c5] at H
            obtain rfl : j = 0 := by omega
            obtain rfl : N = 0 := by omega
            obtain ⟨rfl, rfl, rfl⟩ : 0 = r1 ∧ a1 + ((0 + 1 : Nat) : Int) = r2 ∧ 0 = r3 := by simpa using H
            have hx' : w.cell? (ad.add a1.toNat) = some (.int .u8 0) := by simpa using hx
            have G := Aside0.mk (get_or a1 0 0 0 (by omega) (by decide) (by decide) (by decide) (by decide)).1
            clear H w1 w2 w3 hp hN1 hc hnn b0 b1 hx
            simp only [Int.natCast_zero, Int.add_zero] at c3 ⊢
            go_wp2
            go_ret3
            refine ⟨?_, Drawn0.refl _⟩
            have g := G.out
            simp at g
            simp [g]
            unfold wrap64
            omega
        · rw [if_neg c4] at H
          by_cases c5 : (j : Int) > 8
          · rw [if_pos c5] at H
            obtain ⟨rfl, rfl, rfl⟩ : 0 = r1 ∧ 0 = r2 ∧ 3 = r3 := by simpa using H
            have c4b : (c == 0) = false := beq_eq_false_iff_ne.mpr c4
            clear H w1 w2 w3 hp hN1 hc hnn b0 b1 c4
            go_wp2
            rw [Exit.noGoto_ret]
            go_ret3
            exact ⟨rfl, Drawn0.refl _⟩
          · rw [if_neg c5] at H
            have c4b : (c == 0) = false := beq_eq_false_iff_ne.mpr c4
            obtain rfl := hp (by omega)
            obtain ⟨g1, g2, g3, g4, g5⟩ := get_or a1 j N c (by omega) hN0 hN1 (by omega) (by omega)
            have hN2 : N ≤ 9223372036854775807 := by omega
            have G := Aside0.mk g1
            have G4 := Aside0.mk (And.intro g2 (And.intro g3 g4))
            by_cases c6 : c < 128
            · rw [if_pos c6] at H
              have HH := Aside0.mk H
              clear H w1 w2 w3 hp hN1 hc hnn c4 g1 g2 g3 g4 g5
              go_wp2
              go_ret3
              obtain ⟨g2, g3, g4⟩ := G4.out
              have g := G.out
              have h := HH.out
              have e6 : c % 128 = c := by omega
              rw [e6] at g g2 g4
              have hm : 0 ≤ c * 2 ^ (7 * j) := Int.mul_nonneg (by omega) (Int.le_of_lt (Int.pow_pos (by decide)))
              have e7 : wrap64 (2 ^ (7 * j) * c) = c * 2 ^ (7 * j) := by rw [Int.mul_comm]; unfold wrap64; omega
              have e8 : wrap64 (N + c * 2 ^ (7 * j)) = N + c * 2 ^ (7 * j) := by unfold wrap64; omega
              rw [e7, e8] at h
              simp only [Option.some.injEq, Prod.mk.injEq] at h
              obtain ⟨rfl, rfl, rfl⟩ := h
              refine ⟨?_, Drawn0.refl _⟩
              simp only [g, e8]
              simp
              omega
            · rw [if_neg c6] at H
              have HH := Aside0.mk H
              clear H w1 w2 w3 hp hN1 hc hnn c4 g1 g2 g3 g4 g5
              go_wp2
              obtain ⟨g2, g3, g4⟩ := G4.out
              have g := G.out
              have h := HH.out
              rw [g]
              have e6 : c % 128 = c - 128 := by omega
              rw [e6] at g2 g3 g4 ⊢
              have hm : 0 ≤ (c - 128) * 2 ^ (7 * j) := Int.mul_nonneg (by omega) (Int.le_of_lt (Int.pow_pos (by decide)))
              have e5 : wrap64 (c - 128) = c - 128 := by unfold wrap64; omega
              have e7 : wrap64 (2 ^ (7 * j) * (c - 128)) = (c - 128) * 2 ^ (7 * j) := by rw [Int.mul_comm]; unfold wrap64; omega
              have e8 : wrap64 (N + (c - 128) * 2 ^ (7 * j)) = N + (c - 128) * 2 ^ (7 * j) := by unfold wrap64; omega
              rw [e5, e7, e8] at h
              have hp8 : j + 1 ≤ 8 → wrap64 (2 ^ (7 * j) * 128) = 2 ^ (7 * (j + 1)) := by
                intro h8
                have e9 : (2 : Int) ^ (7 * (j + 1)) = 2 ^ (7 * j) * 128 := by rw [show 7 * (j + 1) = 7 * j + 7 by omega, Int.pow_add]; rfl
                have hq : (2 : Int) ^ (7 * (j + 1)) ≤ 2 ^ 56 := by
                  have := Nat.pow_le_pow_right (n := 2) (by decide) (show 7 * (j + 1) ≤ 56 by omega)
                  exact_mod_cast this
                have hp0 : (0 : Int) < 2 ^ (7 * j) := Int.pow_pos (by decide)
                rw [← e9]
                unfold wrap64
                omega
              have HP := Aside0.mk hp8
              have HH' := Aside0.mk h
              have GG := Aside0.mk (And.intro g2 g3)
              clear g g2 g3 g4 h e6 hm e5 e7 e8 hp8 HH G G4
              go_roundg k1
              case measure => have := HK1.out; omega
              case rel => exact ⟨N + (c - 128) * 2 ^ (7 * j), _, j + 1, rfl, by simp; omega, HH', ⟨by have := HK1.out; omega⟩, ⟨GG.out.1, GG.out.2, by omega, by simp; omega, HP.out⟩, rfl⟩
      · rw [if_neg c3] at H
        obtain ⟨rfl, rfl, rfl⟩ : 0 = r1 ∧ 0 = r2 ∧ 1 = r3 := by simpa using H
        have e : a1 + (j : Int) = l0.length := by omega
        clear H w1 hp hN1
        go_wp2
        go_ret3
        exact ⟨rfl, Drawn0.refl _⟩
end Go.Proofs.Ytalpmbeddldfoaa.PA
