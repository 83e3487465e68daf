-- A text that a program wrote for this claim (print.py over stand-in bodies, tool/pr.sh).
import Derived.Test.YtalpmbeddldfoaaDoorF0
import Derived.Test.YtalpmbeddldfoaaDoorFChangeoverref05Key
import Derived.Test.YtalpmbeddldfoaaDoorFChangeoverref05Val
import Derived.Test.YtalpmbeddldfoaaDoorFChangeoverref23Rise
namespace Go.Proofs.YtalpmbeddldfoaaDoor.PA
open Go.RowKit Go.Proofs.YtalpmbeddldfoaaDoor.Hand Go.Proofs.YtalpmbeddldfoaaDoorW.PrintWords Go.Proofs.YtalpmbeddldfoaaDoorW.PrintLast Go.Proofs.YtalpmbeddldfoaaDoorW.PrintMore
attribute [local go_sem] max2_int min2_int max_two min_two max_three min_three max_four min_four   -- for this text's walks alone
attribute [local go_sem high] str_leq str_gtr str_geq
set_option linter.unusedVariables false
set_option linter.unusedSimpArgs false

/-! ### changeoverref23_Check: function 48 -/
mutual
def changeoverref23_Check.l0 : Nat → Int → List (S50) → Int → Option (Bool)
  | 0, _, _, _ => none
  | k + 1, x0, x1, x5 => if x5 < (x1.length : Int) then (if 0 ≤ x5 then ((changeoverref05_Key.f k ((rd_T50 x1 x5).f0)).bind fun t261 => (if t261 = true then ((changeoverref05_Val.f k ((rd_T50 x1 x5).f1)).bind fun t263 => (changeoverref23_Check.j1 k x0 x1 x5 (!t263))) else (changeoverref23_Check.j1 k x0 x1 x5 true))) else (none)) else (if (x1.length : Int) ≤ 64 then ((changeoverref23_Rise.f k x1).bind fun t259 => (some t259)) else (some false))
def changeoverref23_Check.j1 : Nat → Int → List (S50) → Int → Bool → Option (Bool)
  | 0, _, _, _, _ => none
  | k + 1, x0, x1, x5, x27 => if x27 = true then (some false) else (if x0 = 1 then (if 0 ≤ x5 then (if x5 < (x1.length : Int) then (if ((rd_T50 x1 x5).f2) = 0 then (if x0 = 2 then (if ((rd_T50 x1 x5).f2) < 1 then (some false) else (if ((rd_T50 x1 x5).f2) > 4294967296 then (some false) else (changeoverref23_Check.l0 k x0 x1 (wrap64 (x5 + 1))))) else (changeoverref23_Check.l0 k x0 x1 (wrap64 (x5 + 1)))) else (some false)) else (none)) else (none)) else (if x0 = 2 then (if 0 ≤ x5 then (if x5 < (x1.length : Int) then (if ((rd_T50 x1 x5).f2) < 1 then (some false) else (if ((rd_T50 x1 x5).f2) > 4294967296 then (some false) else (changeoverref23_Check.l0 k x0 x1 (wrap64 (x5 + 1))))) else (none)) else (none)) else (changeoverref23_Check.l0 k x0 x1 (wrap64 (x5 + 1)))))
end
def changeoverref23_Check.f (k : Nat) (a0 : Int) (l1 : List (S50)) : Option (Bool) := changeoverref23_Check.l0 k a0 l1 0
theorem changeoverref23_Check.mono_l : ∀ k, (∀ y0 y1 y2, LeO (changeoverref23_Check.l0 k y0 y1 y2) (changeoverref23_Check.l0 (k + 1) y0 y1 y2)) ∧ (∀ y0 y1 y2 y3, LeO (changeoverref23_Check.j1 k y0 y1 y2 y3) (changeoverref23_Check.j1 (k + 1) y0 y1 y2 y3))
  | 0 => ⟨fun _ _ _ r h => by simp [changeoverref23_Check.l0] at h, fun _ _ _ _ r h => by simp [changeoverref23_Check.j1] at h⟩
  | k + 1 => by
    obtain ⟨ih0, ih1⟩ := changeoverref23_Check.mono_l k
    refine ⟨?_, ?_⟩
    · intro y0 y1 y2
      unfold changeoverref23_Check.l0
      repeat' first
      | (with_reducible exact ih0 _ _ _)
      | (with_reducible exact ih1 _ _ _ _)
      | (with_reducible exact changeoverref05_Key.mono _ _)
      | (with_reducible exact changeoverref05_Val.mono _ _)
      | (with_reducible exact changeoverref23_Rise.mono _ _)
      | (with_reducible exact LeO.refl _)
      | (with_reducible exact LeO.none _)
      | (with_reducible refine LeO.ite ?_ ?_)
      | (with_reducible refine LeO.bind ?_ (fun _ => ?_))
      | exact ih0 _ _ _
      | exact ih1 _ _ _ _
      | exact changeoverref05_Key.mono _ _
      | exact changeoverref05_Val.mono _ _
      | exact changeoverref23_Rise.mono _ _
      | exact LeO.none _
      | refine LeO.ite ?_ ?_
      | refine LeO.bind ?_ (fun _ => ?_)
    · intro y0 y1 y2 y3
      unfold changeoverref23_Check.j1
      repeat' first
      | (with_reducible exact ih0 _ _ _)
      | (with_reducible exact ih1 _ _ _ _)
      | (with_reducible exact changeoverref05_Key.mono _ _)
      | (with_reducible exact changeoverref05_Val.mono _ _)
      | (with_reducible exact changeoverref23_Rise.mono _ _)
      | (with_reducible exact LeO.refl _)
      | (with_reducible exact LeO.none _)
      | (with_reducible refine LeO.ite ?_ ?_)
      | (with_reducible refine LeO.bind ?_ (fun _ => ?_))
      | exact ih0 _ _ _
      | exact ih1 _ _ _ _
      | exact changeoverref05_Key.mono _ _
      | exact changeoverref05_Val.mono _ _
      | exact changeoverref23_Rise.mono _ _
      | exact LeO.none _
      | refine LeO.ite ?_ ?_
      | refine LeO.bind ?_ (fun _ => ?_)
theorem changeoverref23_Check.mono : ∀ a0 a1 k, LeO (changeoverref23_Check.f k a0 a1) (changeoverref23_Check.f (k + 1) a0 a1) := by
  intro a0 a1 k
  obtain ⟨ih0, ih1⟩ := changeoverref23_Check.mono_l k
  unfold changeoverref23_Check.f
  repeat' first
      | (with_reducible exact ih0 _ _ _)
      | (with_reducible exact ih1 _ _ _ _)
      | (with_reducible exact changeoverref05_Key.mono _ _)
      | (with_reducible exact changeoverref05_Val.mono _ _)
      | (with_reducible exact changeoverref23_Rise.mono _ _)
      | (with_reducible exact LeO.refl _)
      | (with_reducible exact LeO.none _)
      | (with_reducible refine LeO.ite ?_ ?_)
      | (with_reducible refine LeO.bind ?_ (fun _ => ?_))
      | exact ih0 _ _ _
      | exact ih1 _ _ _ _
      | exact changeoverref05_Key.mono _ _
      | exact changeoverref05_Val.mono _ _
      | exact changeoverref23_Rise.mono _ _
      | exact LeO.none _
      | refine LeO.ite ?_ ?_
      | refine LeO.bind ?_ (fun _ => ?_)
set_option maxHeartbeats 8000000 in
set_option maxRecDepth 100000 in
theorem changeoverref23_Check.calls (k : Nat) (a0 : Int) (A1 : Option Addr) (c1 : Nat) (l1 : List (S50)) (r : Bool) (w : World) (hr1 : Kd.C k50 w A1 l1.length l1) (hc1 : l1.length ≤ c1) (h : changeoverref23_Check.f k a0 l1 = some r) :
    Calls Tryd.prog 48 #[.int .i64 a0, .slice A1 l1.length c1] w fun e w' => e = .returned (.bool r) ∧ Drawn0 w w' := by
  have HR1 := Aside0.mk hr1
  have HC1 := Aside0.mk hc1
  clear hr1 hc1
  have H : (changeoverref23_Check.l0 k a0 l1 0) = some r := h
  clear h
  have H' := Aside0.mk H
  clear H
  go_enter Tryd.func48, Tryd.ntmps48
  go_wp2
  go_loopg [5] k (fun kq v5 w' => ∃ (x5_1 : Int), v5 = .int .i64 x5_1 ∧ Aside0 (changeoverref23_Check.l0 kq a0 l1 x5_1 = some r) ∧ Aside0 (kq ≤ k) ∧ Drawn0 w w')
  case atStart => exact ⟨(0), (by first | rfl | (simp; done) | (simp [*]; done)), H', ⟨Nat.le_refl _⟩, by repeat (first | exact Drawn0.refl _ | apply Drawn0.step)⟩
  case round =>
    clear H'
    try clear c1
    try clear p2
    obtain ⟨x5_1, rfl, HA, HK1, ⟨m1, rfl⟩⟩ := hrel
    cases gk with
    | zero => exact absurd HA.out (by simp [changeoverref23_Check.l0])
    | succ k1 =>
      have H := HA.out
      clear HA
      simp only [changeoverref23_Check.l0] at H
      by_cases c3 : x5_1 < (l1.length : Int)
      · rw [if_pos c3] at H
        have c3b0 : decide (x5_1 < (l1.length : Int)) = true := decide_eq_true c3
        clear c3
        have HC4 := Aside0.mk H
        clear H
        go_upto_region 4 with (fail)
        go_cut [27] (fun v27 wc => ∃ (kq : Nat) (x27_3 : Bool), v27 = .bool x27_3 ∧ Aside0 (changeoverref23_Check.j1 kq a0 l1 x5_1 x27_3 = some r) ∧ Aside0 (kq ≤ k1) ∧ Drawn0 w wc)
        case first =>
          have H := HC4.out
          clear HC4
          by_cases c5 : 0 ≤ x5_1
          · rw [if_pos c5] at H
            have c5b0 : decide (0 ≤ x5_1) = true := decide_eq_true c5
            clear c5
            (first | rw [c5b0] | (simp only [i64_w, i32_w]; rw [c5b0]) | skip)
            replace H := Option.bind_eq_some_iff.mp H
            obtain ⟨t261, A60, H⟩ := H
            replace H : (if t261 = true then ((changeoverref05_Val.f k1 ((rd_T50 l1 x5_1).f1)).bind fun t263 => (changeoverref23_Check.j1 k1 a0 l1 x5_1 (!t263))) else (changeoverref23_Check.j1 k1 a0 l1 x5_1 true)) = some r := H
            have A6 := Aside0.mk A60
            clear A60
            by_cases c7 : t261 = true
            · subst c7
              have H1 : ((changeoverref05_Val.f k1 ((rd_T50 l1 x5_1).f1)).bind fun t263 => (changeoverref23_Check.j1 k1 a0 l1 x5_1 (!t263))) = some r := by rw [if_pos rfl] at H; exact H
              clear H
              have H := H1
              clear H1
              replace H := Option.bind_eq_some_iff.mp H
              obtain ⟨t263, A80, H⟩ := H
              replace H : (changeoverref23_Check.j1 k1 a0 l1 x5_1 (!t263)) = some r := H
              have A8 := Aside0.mk A80
              clear A80
              have H' := Aside0.mk H
              clear H
              have p260 : 0 ≤ (x5_1 : Int) := of_decide_eq_true (by first | (with_reducible assumption) | assumption)
              have q260 : x5_1 < (l1.length : Int) := of_decide_eq_true (by first | (with_reducible assumption) | assumption)
              obtain ⟨ad260, e260, hx260_0, hx260_1, hx260_2⟩ := at_T50 HR1.out x5_1 p260 q260
              cases e260
              replace p260 := eq_true p260
              replace q260 := eq_true q260
              go_wp2_with (first | ((with_reducible refine gate_callee (f := 22) rfl ?_); refine goesL_ (some 17) rfl rfl Tryd.func22 (by kernel_rfl) rfl #[.string ((rd_T50 l1 x5_1).f0)] rfl (by (try simp only [List.map_toArray, List.map_cons, List.map_nil]); first | done | rfl | (simp only [List.length_drop, List.length_take]; rfl)) ?_; (with_reducible refine (changeoverref05_Key.calls k1 ((rd_T50 l1 x5_1).f0) true _ A6.out).mono ?_); rintro e w' ⟨rfl, ⟨nd, rfl⟩⟩; refine ⟨_, rfl, ?_⟩; have p262 : 0 ≤ (x5_1 : Int) := of_decide_eq_true (by first | (with_reducible assumption) | assumption); have q262 : x5_1 < (l1.length : Int) := of_decide_eq_true (by first | (with_reducible assumption) | assumption); obtain ⟨ad262, e262, hx262_0, hx262_1, hx262_2⟩ := at_T50 HR1.out x5_1 p262 q262; obtain rfl : ad260 = ad262 := (by injection e262); replace p262 := eq_true p262; replace q262 := eq_true q262) | (go_at_call 24; (with_reducible refine (changeoverref05_Val.calls k1 ((rd_T50 l1 x5_1).f1) t263 _ A8.out).mono ?_); rintro e w' ⟨rfl, ⟨nd, rfl⟩⟩))
              go_meet
              case rel => exact ⟨_, (!t263), (by first | rfl | (simp; done) | (simp [*]; done)), H', ⟨by have := HK1.out; first | omega | exact Nat.le_refl _⟩, by repeat (first | exact Drawn0.refl _ | apply Drawn0.step)⟩
            · replace c7 := Bool.eq_false_iff.mpr c7
              subst c7
              have H1 : (changeoverref23_Check.j1 k1 a0 l1 x5_1 true) = some r := by rw [if_neg (show ¬ (false = true) by decide)] at H; exact H
              clear H
              have H := H1
              clear H1
              have H' := Aside0.mk H
              clear H
              have p260 : 0 ≤ (x5_1 : Int) := of_decide_eq_true (by first | (with_reducible assumption) | assumption)
              have q260 : x5_1 < (l1.length : Int) := of_decide_eq_true (by first | (with_reducible assumption) | assumption)
              obtain ⟨ad260, e260, hx260_0, hx260_1, hx260_2⟩ := at_T50 HR1.out x5_1 p260 q260
              cases e260
              replace p260 := eq_true p260
              replace q260 := eq_true q260
              go_wp2_with (first | ((with_reducible refine gate_callee (f := 22) rfl ?_); refine goesL_ (some 17) rfl rfl Tryd.func22 (by kernel_rfl) rfl #[.string ((rd_T50 l1 x5_1).f0)] rfl (by (try simp only [List.map_toArray, List.map_cons, List.map_nil]); first | done | rfl | (simp only [List.length_drop, List.length_take]; rfl)) ?_; (with_reducible refine (changeoverref05_Key.calls k1 ((rd_T50 l1 x5_1).f0) false _ A6.out).mono ?_); rintro e w' ⟨rfl, ⟨nd, rfl⟩⟩; refine ⟨_, rfl, ?_⟩))
              go_meet
              case rel => exact ⟨_, (true), (by first | rfl | (simp; done) | (simp [*]; done)), H', ⟨by have := HK1.out; first | omega | exact Nat.le_refl _⟩, by repeat (first | exact Drawn0.refl _ | apply Drawn0.step)⟩
          · rw [if_neg c5] at H
            exact absurd H (by simp)
        case rest =>
          clear HC4
          try clear c1
          try clear c2
          try clear p2
          try clear q2
          try clear hx2
          try clear c3
          try clear c3b0
          try clear c4
          try clear c5
          try clear c5b0
          try clear c7
          try clear hx260_0
          try clear hx260_1
          try clear hx260_2
          try clear hx262_0
          try clear hx262_1
          try clear hx262_2
          try clear p2
          try clear p260
          try clear p262
          try clear q260
          try clear q262
          obtain ⟨kq, x27_3, rfl, HA, HJ3, ⟨mc3, rfl⟩⟩ := hcut
          cases kq with
          | zero => exact absurd HA.out (by simp [changeoverref23_Check.j1])
          | succ kj3 =>
            have H := HA.out
            clear HA
            simp only [changeoverref23_Check.j1] at H
            by_cases c9 : x27_3 = true
            · subst c9
              have H1 : (some false) = some r := by rw [if_pos rfl] at H; exact H
              clear H
              have H := H1
              clear H1
              obtain rfl := Option.some.inj H
              go_wp2
              go_ret
              exact ⟨by first | rfl | (simp; done) | (simp [*]; done), by repeat (first | exact Drawn0.refl _ | apply Drawn0.step)⟩
            · replace c9 := Bool.eq_false_iff.mpr c9
              subst c9
              have H1 : (if a0 = 1 then (if 0 ≤ x5_1 then (if x5_1 < (l1.length : Int) then (if ((rd_T50 l1 x5_1).f2) = 0 then (if a0 = 2 then (if ((rd_T50 l1 x5_1).f2) < 1 then (some false) else (if ((rd_T50 l1 x5_1).f2) > 4294967296 then (some false) else (changeoverref23_Check.l0 kj3 a0 l1 (wrap64 (x5_1 + 1))))) else (changeoverref23_Check.l0 kj3 a0 l1 (wrap64 (x5_1 + 1)))) else (some false)) else (none)) else (none)) else (if a0 = 2 then (if 0 ≤ x5_1 then (if x5_1 < (l1.length : Int) then (if ((rd_T50 l1 x5_1).f2) < 1 then (some false) else (if ((rd_T50 l1 x5_1).f2) > 4294967296 then (some false) else (changeoverref23_Check.l0 kj3 a0 l1 (wrap64 (x5_1 + 1))))) else (none)) else (none)) else (changeoverref23_Check.l0 kj3 a0 l1 (wrap64 (x5_1 + 1))))) = some r := by rw [if_neg (show ¬ (false = true) by decide)] at H; exact H
              clear H
              have H := H1
              clear H1
              by_cases c10 : a0 = 1
              · rw [if_pos c10] at H
                have c10b0 : (a0 == 1) = true := beq_iff_eq.mpr c10
                have c10b1 : (a0 != 1) = false := bne_eq_false_iff_eq.mpr c10
                clear c10
                by_cases c11 : 0 ≤ x5_1
                · rw [if_pos c11] at H
                  have c11b0 : decide (0 ≤ x5_1) = true := decide_eq_true c11
                  clear c11
                  by_cases c12 : x5_1 < (l1.length : Int)
                  · rw [if_pos c12] at H
                    have c12b0 : decide (x5_1 < (l1.length : Int)) = true := decide_eq_true c12
                    clear c12
                    by_cases c13 : ((rd_T50 l1 x5_1).f2) = 0
                    · rw [if_pos c13] at H
                      have c13b0 : (((rd_T50 l1 x5_1).f2) == 0) = true := beq_iff_eq.mpr c13
                      have c13b1 : (((rd_T50 l1 x5_1).f2) != 0) = false := bne_eq_false_iff_eq.mpr c13
                      clear c13
                      by_cases c14 : a0 = 2
                      · rw [if_pos c14] at H
                        have c14b0 : (a0 == 2) = true := beq_iff_eq.mpr c14
                        have c14b1 : (a0 != 2) = false := bne_eq_false_iff_eq.mpr c14
                        clear c14
                        by_cases c15 : ((rd_T50 l1 x5_1).f2) < 1
                        · rw [if_pos c15] at H
                          have c15b0 : decide (((rd_T50 l1 x5_1).f2) < 1) = true := decide_eq_true c15
                          clear c15
                          obtain rfl := Option.some.inj H
                          have p264 : 0 ≤ (x5_1 : Int) := of_decide_eq_true (by first | (with_reducible assumption) | assumption)
                          have q264 : x5_1 < (l1.length : Int) := of_decide_eq_true (by first | (with_reducible assumption) | assumption)
                          obtain ⟨ad264, e264, hx264_0, hx264_1, hx264_2⟩ := at_T50 HR1.out x5_1 p264 q264
                          cases e264
                          replace p264 := eq_true p264
                          replace q264 := eq_true q264
                          have p265 : 0 ≤ (x5_1 : Int) := of_decide_eq_true (by first | (with_reducible assumption) | assumption)
                          have q265 : x5_1 < (l1.length : Int) := of_decide_eq_true (by first | (with_reducible assumption) | assumption)
                          obtain ⟨ad265, e265, hx265_0, hx265_1, hx265_2⟩ := at_T50 HR1.out x5_1 p265 q265
                          obtain rfl : ad264 = ad265 := (by injection e265)
                          replace p265 := eq_true p265
                          replace q265 := eq_true q265
                          go_wp2
                          go_ret
                          exact ⟨by first | rfl | (simp; done) | (simp [*]; done), by repeat (first | exact Drawn0.refl _ | apply Drawn0.step)⟩
                        · rw [if_neg c15] at H
                          have c15b0 : decide (((rd_T50 l1 x5_1).f2) < 1) = false := decide_eq_false c15
                          clear c15
                          by_cases c16 : ((rd_T50 l1 x5_1).f2) > 4294967296
                          · rw [if_pos c16] at H
                            have c16b0 : decide (4294967296 < ((rd_T50 l1 x5_1).f2)) = true := decide_eq_true c16
                            clear c16
                            obtain rfl := Option.some.inj H
                            have p264 : 0 ≤ (x5_1 : Int) := of_decide_eq_true (by first | (with_reducible assumption) | assumption)
                            have q264 : x5_1 < (l1.length : Int) := of_decide_eq_true (by first | (with_reducible assumption) | assumption)
                            obtain ⟨ad264, e264, hx264_0, hx264_1, hx264_2⟩ := at_T50 HR1.out x5_1 p264 q264
                            cases e264
                            replace p264 := eq_true p264
                            replace q264 := eq_true q264
                            have p265 : 0 ≤ (x5_1 : Int) := of_decide_eq_true (by first | (with_reducible assumption) | assumption)
                            have q265 : x5_1 < (l1.length : Int) := of_decide_eq_true (by first | (with_reducible assumption) | assumption)
                            obtain ⟨ad265, e265, hx265_0, hx265_1, hx265_2⟩ := at_T50 HR1.out x5_1 p265 q265
                            obtain rfl : ad264 = ad265 := (by injection e265)
                            replace p265 := eq_true p265
                            replace q265 := eq_true q265
                            have p266 : 0 ≤ (x5_1 : Int) := of_decide_eq_true (by first | (with_reducible assumption) | assumption)
                            have q266 : x5_1 < (l1.length : Int) := of_decide_eq_true (by first | (with_reducible assumption) | assumption)
                            obtain ⟨ad266, e266, hx266_0, hx266_1, hx266_2⟩ := at_T50 HR1.out x5_1 p266 q266
                            obtain rfl : ad264 = ad266 := (by injection e266)
                            replace p266 := eq_true p266
                            replace q266 := eq_true q266
                            go_wp2
                            go_ret
                            exact ⟨by first | rfl | (simp; done) | (simp [*]; done), by repeat (first | exact Drawn0.refl _ | apply Drawn0.step)⟩
                          · rw [if_neg c16] at H
                            have c16b0 : decide (4294967296 < ((rd_T50 l1 x5_1).f2)) = false := decide_eq_false c16
                            clear c16
                            have H' := Aside0.mk H
                            clear H
                            have p264 : 0 ≤ (x5_1 : Int) := of_decide_eq_true (by first | (with_reducible assumption) | assumption)
                            have q264 : x5_1 < (l1.length : Int) := of_decide_eq_true (by first | (with_reducible assumption) | assumption)
                            obtain ⟨ad264, e264, hx264_0, hx264_1, hx264_2⟩ := at_T50 HR1.out x5_1 p264 q264
                            cases e264
                            replace p264 := eq_true p264
                            replace q264 := eq_true q264
                            have p265 : 0 ≤ (x5_1 : Int) := of_decide_eq_true (by first | (with_reducible assumption) | assumption)
                            have q265 : x5_1 < (l1.length : Int) := of_decide_eq_true (by first | (with_reducible assumption) | assumption)
                            obtain ⟨ad265, e265, hx265_0, hx265_1, hx265_2⟩ := at_T50 HR1.out x5_1 p265 q265
                            obtain rfl : ad264 = ad265 := (by injection e265)
                            replace p265 := eq_true p265
                            replace q265 := eq_true q265
                            have p266 : 0 ≤ (x5_1 : Int) := of_decide_eq_true (by first | (with_reducible assumption) | assumption)
                            have q266 : x5_1 < (l1.length : Int) := of_decide_eq_true (by first | (with_reducible assumption) | assumption)
                            obtain ⟨ad266, e266, hx266_0, hx266_1, hx266_2⟩ := at_T50 HR1.out x5_1 p266 q266
                            obtain rfl : ad264 = ad266 := (by injection e266)
                            replace p266 := eq_true p266
                            replace q266 := eq_true q266
                            go_wp2
                            go_roundg kj3
                            case measure => have := HK1.out; have := HJ3.out; omega
                            case rel => exact ⟨(wrap64 (x5_1 + 1)), (by first | rfl | (simp; done) | (simp [*]; done)), H', ⟨by have := HK1.out; have := HJ3.out; omega⟩, by repeat (first | exact Drawn0.refl _ | apply Drawn0.step)⟩
                      · rw [if_neg c14] at H
                        have c14b0 : (a0 == 2) = false := beq_eq_false_iff_ne.mpr c14
                        have c14b1 : (a0 != 2) = true := bne_iff_ne.mpr c14
                        have H' := Aside0.mk H
                        clear H
                        have p264 : 0 ≤ (x5_1 : Int) := of_decide_eq_true (by first | (with_reducible assumption) | assumption)
                        have q264 : x5_1 < (l1.length : Int) := of_decide_eq_true (by first | (with_reducible assumption) | assumption)
                        obtain ⟨ad264, e264, hx264_0, hx264_1, hx264_2⟩ := at_T50 HR1.out x5_1 p264 q264
                        cases e264
                        replace p264 := eq_true p264
                        replace q264 := eq_true q264
                        go_wp2
                        go_roundg kj3
                        case measure => have := HK1.out; have := HJ3.out; omega
                        case rel => exact ⟨(wrap64 (x5_1 + 1)), (by first | rfl | (simp; done) | (simp [*]; done)), H', ⟨by have := HK1.out; have := HJ3.out; omega⟩, by repeat (first | exact Drawn0.refl _ | apply Drawn0.step)⟩
                    · rw [if_neg c13] at H
                      have c13b0 : (((rd_T50 l1 x5_1).f2) == 0) = false := beq_eq_false_iff_ne.mpr c13
                      have c13b1 : (((rd_T50 l1 x5_1).f2) != 0) = true := bne_iff_ne.mpr c13
                      obtain rfl := Option.some.inj H
                      have p264 : 0 ≤ (x5_1 : Int) := of_decide_eq_true (by first | (with_reducible assumption) | assumption)
                      have q264 : x5_1 < (l1.length : Int) := of_decide_eq_true (by first | (with_reducible assumption) | assumption)
                      obtain ⟨ad264, e264, hx264_0, hx264_1, hx264_2⟩ := at_T50 HR1.out x5_1 p264 q264
                      cases e264
                      replace p264 := eq_true p264
                      replace q264 := eq_true q264
                      go_wp2
                      go_ret
                      exact ⟨by first | rfl | (simp; done) | (simp [*]; done), by repeat (first | exact Drawn0.refl _ | apply Drawn0.step)⟩
                  · rw [if_neg c12] at H
                    exact absurd H (by simp)
                · rw [if_neg c11] at H
                  exact absurd H (by simp)
              · rw [if_neg c10] at H
                have c10b0 : (a0 == 1) = false := beq_eq_false_iff_ne.mpr c10
                have c10b1 : (a0 != 1) = true := bne_iff_ne.mpr c10
                by_cases c17 : a0 = 2
                · rw [if_pos c17] at H
                  have c17b0 : (a0 == 2) = true := beq_iff_eq.mpr c17
                  have c17b1 : (a0 != 2) = false := bne_eq_false_iff_eq.mpr c17
                  clear c17
                  by_cases c18 : 0 ≤ x5_1
                  · rw [if_pos c18] at H
                    have c18b0 : decide (0 ≤ x5_1) = true := decide_eq_true c18
                    clear c18
                    by_cases c19 : x5_1 < (l1.length : Int)
                    · rw [if_pos c19] at H
                      have c19b0 : decide (x5_1 < (l1.length : Int)) = true := decide_eq_true c19
                      clear c19
                      by_cases c20 : ((rd_T50 l1 x5_1).f2) < 1
                      · rw [if_pos c20] at H
                        have c20b0 : decide (((rd_T50 l1 x5_1).f2) < 1) = true := decide_eq_true c20
                        clear c20
                        obtain rfl := Option.some.inj H
                        have p267 : 0 ≤ (x5_1 : Int) := of_decide_eq_true (by first | (with_reducible assumption) | assumption)
                        have q267 : x5_1 < (l1.length : Int) := of_decide_eq_true (by first | (with_reducible assumption) | assumption)
                        obtain ⟨ad267, e267, hx267_0, hx267_1, hx267_2⟩ := at_T50 HR1.out x5_1 p267 q267
                        cases e267
                        replace p267 := eq_true p267
                        replace q267 := eq_true q267
                        go_wp2
                        go_ret
                        exact ⟨by first | rfl | (simp; done) | (simp [*]; done), by repeat (first | exact Drawn0.refl _ | apply Drawn0.step)⟩
                      · rw [if_neg c20] at H
                        have c20b0 : decide (((rd_T50 l1 x5_1).f2) < 1) = false := decide_eq_false c20
                        clear c20
                        by_cases c21 : ((rd_T50 l1 x5_1).f2) > 4294967296
                        · rw [if_pos c21] at H
                          have c21b0 : decide (4294967296 < ((rd_T50 l1 x5_1).f2)) = true := decide_eq_true c21
                          clear c21
                          obtain rfl := Option.some.inj H
                          have p267 : 0 ≤ (x5_1 : Int) := of_decide_eq_true (by first | (with_reducible assumption) | assumption)
                          have q267 : x5_1 < (l1.length : Int) := of_decide_eq_true (by first | (with_reducible assumption) | assumption)
                          obtain ⟨ad267, e267, hx267_0, hx267_1, hx267_2⟩ := at_T50 HR1.out x5_1 p267 q267
                          cases e267
                          replace p267 := eq_true p267
                          replace q267 := eq_true q267
                          have p268 : 0 ≤ (x5_1 : Int) := of_decide_eq_true (by first | (with_reducible assumption) | assumption)
                          have q268 : x5_1 < (l1.length : Int) := of_decide_eq_true (by first | (with_reducible assumption) | assumption)
                          obtain ⟨ad268, e268, hx268_0, hx268_1, hx268_2⟩ := at_T50 HR1.out x5_1 p268 q268
                          obtain rfl : ad267 = ad268 := (by injection e268)
                          replace p268 := eq_true p268
                          replace q268 := eq_true q268
                          go_wp2
                          go_ret
                          exact ⟨by first | rfl | (simp; done) | (simp [*]; done), by repeat (first | exact Drawn0.refl _ | apply Drawn0.step)⟩
                        · rw [if_neg c21] at H
                          have c21b0 : decide (4294967296 < ((rd_T50 l1 x5_1).f2)) = false := decide_eq_false c21
                          clear c21
                          have H' := Aside0.mk H
                          clear H
                          have p267 : 0 ≤ (x5_1 : Int) := of_decide_eq_true (by first | (with_reducible assumption) | assumption)
                          have q267 : x5_1 < (l1.length : Int) := of_decide_eq_true (by first | (with_reducible assumption) | assumption)
                          obtain ⟨ad267, e267, hx267_0, hx267_1, hx267_2⟩ := at_T50 HR1.out x5_1 p267 q267
                          cases e267
                          replace p267 := eq_true p267
                          replace q267 := eq_true q267
                          have p268 : 0 ≤ (x5_1 : Int) := of_decide_eq_true (by first | (with_reducible assumption) | assumption)
                          have q268 : x5_1 < (l1.length : Int) := of_decide_eq_true (by first | (with_reducible assumption) | assumption)
                          obtain ⟨ad268, e268, hx268_0, hx268_1, hx268_2⟩ := at_T50 HR1.out x5_1 p268 q268
                          obtain rfl : ad267 = ad268 := (by injection e268)
                          replace p268 := eq_true p268
                          replace q268 := eq_true q268
                          go_wp2
                          go_roundg kj3
                          case measure => have := HK1.out; have := HJ3.out; omega
                          case rel => exact ⟨(wrap64 (x5_1 + 1)), (by first | rfl | (simp; done) | (simp [*]; done)), H', ⟨by have := HK1.out; have := HJ3.out; omega⟩, by repeat (first | exact Drawn0.refl _ | apply Drawn0.step)⟩
                    · rw [if_neg c19] at H
                      exact absurd H (by simp)
                  · rw [if_neg c18] at H
                    exact absurd H (by simp)
                · rw [if_neg c17] at H
                  have c17b0 : (a0 == 2) = false := beq_eq_false_iff_ne.mpr c17
                  have c17b1 : (a0 != 2) = true := bne_iff_ne.mpr c17
                  have H' := Aside0.mk H
                  clear H
                  go_wp2
                  go_roundg kj3
                  case measure => have := HK1.out; have := HJ3.out; omega
                  case rel => exact ⟨(wrap64 (x5_1 + 1)), (by first | rfl | (simp; done) | (simp [*]; done)), H', ⟨by have := HK1.out; have := HJ3.out; omega⟩, by repeat (first | exact Drawn0.refl _ | apply Drawn0.step)⟩
      · rw [if_neg c3] at H
        have c3b0 : decide (x5_1 < (l1.length : Int)) = false := decide_eq_false c3
        clear c3
        by_cases c22 : (l1.length : Int) ≤ 64
        · rw [if_pos c22] at H
          have c22b0 : decide ((l1.length : Int) ≤ 64) = true := decide_eq_true c22
          have c22b1 : decide (l1.length ≤ 64) = true := decide_eq_true (by omega)
          clear c22
          replace H := Option.bind_eq_some_iff.mp H
          obtain ⟨t259, A230, H⟩ := H
          replace H : (some t259) = some r := H
          have A23 := Aside0.mk A230
          clear A230
          obtain rfl := Option.some.inj H
          go_wp2_with (first | (go_at_call 50; (with_reducible refine (changeoverref23_Rise.calls k1 _ _ l1 t259 _ ?side1 ?side2 A23.out).mono ?_); (case side1 => repeat (first | exact HR1.out | (with_reducible refine Kd.C_alloc ?_ _) | (with_reducible refine Kd.C_drewN ?_ _) | (with_reducible refine Kd.C_drew ?_))); (case side2 => exact HC1.out); rintro e w' ⟨rfl, ⟨nd, rfl⟩⟩))
          go_ret
          exact ⟨by first | rfl | (simp; done) | (simp [*]; done), by repeat (first | exact Drawn0.refl _ | apply Drawn0.step)⟩
        · rw [if_neg c22] at H
          have c22b0 : decide ((l1.length : Int) ≤ 64) = false := decide_eq_false c22
          have c22b1 : decide (l1.length ≤ 64) = false := decide_eq_false (by omega)
          clear c22
          obtain rfl := Option.some.inj H
          go_wp2
          go_ret
          exact ⟨by first | rfl | (simp; done) | (simp [*]; done), by repeat (first | exact Drawn0.refl _ | apply Drawn0.step)⟩

end Go.Proofs.YtalpmbeddldfoaaDoor.PA
