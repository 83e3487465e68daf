-- A text that a program wrote for this claim (print.py over stand-in bodies, tool/pr.sh).
import Derived.Test.YtalpmbeddldfoaaF0
namespace Go.Proofs.Ytalpmbeddldfoaa.PA
open Go.RowKit Go.Proofs.Ytalpmbeddldfoaa.Hand Go.Proofs.YtalpmbeddldfoaaW.PrintWords Go.Proofs.YtalpmbeddldfoaaW.PrintLast Go.Proofs.YtalpmbeddldfoaaW.PrintMore
attribute [local go_sem] max2_int min2_int max_two min_two max_three min_three max_four min_four   -- for this text's walks alone
attribute [local go_sem high] str_leq str_gtr str_geq
set_option linter.unusedVariables false
set_option linter.unusedSimpArgs false

/-! ### changeoverref22_With: function 54 -/
mutual
def changeoverref22_With.l0 : Nat → List (S111) → List (S111) → Bool → Int → Int → Int → Int → Bool → ByteArray → Int → Option ((List (S111)))
  | 0, _, _, _, _, _, _, _, _, _, _ => none
  | k + 1, x0, x5, x6, x7, x415000, x415001, x415002, x415003, x415004, x415005 => if x7 < (x0.length : Int) then (if x6 = true then (changeoverref22_With.j1 k x0 x5 x6 x7 false x415000 x415001 x415002 x415003 x415004 x415005) else (if 0 ≤ x7 then (changeoverref22_With.j1 k x0 x5 x6 x7 (decide (((rd_T111 x0 x7).f0) ≥ x415000)) x415000 x415001 x415002 x415003 x415004 x415005) else (none))) else (if x6 = true then (some x5) else (if x5.length < 1954687338268 then (some (x5 ++ [(⟨x415000, x415001, (⟨x415000, x415001, x415002, x415003, x415004, x415005⟩ : S60)⟩ : S111)])) else (none)))
def changeoverref22_With.j1 : Nat → List (S111) → List (S111) → Bool → Int → Bool → Int → Int → Int → Bool → ByteArray → Int → Option ((List (S111)))
  | 0, _, _, _, _, _, _, _, _, _, _, _ => none
  | k + 1, x0, x5, x6, x7, x25, x415000, x415001, x415002, x415003, x415004, x415005 => if x25 = true then (if x5.length < 1954687338268 then ((some (x5 ++ [(⟨x415000, x415001, (⟨x415000, x415001, x415002, x415003, x415004, x415005⟩ : S60)⟩ : S111)] : List (S111))).bind fun y419 => (if 0 ≤ x7 then (if x7 < (x0.length : Int) then (if ((rd_T111 x0 x7).f0) = x415000 then (changeoverref22_With.l0 k x0 y419 true (wrap64 (x7 + 1)) x415000 x415001 x415002 x415003 x415004 x415005) else (if y419.length < 1954687338268 then (changeoverref22_With.l0 k x0 (y419 ++ [(⟨(rd_T111 x0 x7).f0, (rd_T111 x0 x7).f1, (⟨(rd_T111 x0 x7).f2.f0, (rd_T111 x0 x7).f2.f1, (rd_T111 x0 x7).f2.f2, (rd_T111 x0 x7).f2.f3, (rd_T111 x0 x7).f2.f4, (rd_T111 x0 x7).f2.f5⟩ : S60)⟩ : S111)]) true (wrap64 (x7 + 1)) x415000 x415001 x415002 x415003 x415004 x415005) else (none))) else (none)) else (none))) else (none)) else (if 0 ≤ x7 then (if x7 < (x0.length : Int) then (if ((rd_T111 x0 x7).f0) = x415000 then (changeoverref22_With.l0 k x0 x5 x6 (wrap64 (x7 + 1)) x415000 x415001 x415002 x415003 x415004 x415005) else (if x5.length < 1954687338268 then (changeoverref22_With.l0 k x0 (x5 ++ [(⟨(rd_T111 x0 x7).f0, (rd_T111 x0 x7).f1, (⟨(rd_T111 x0 x7).f2.f0, (rd_T111 x0 x7).f2.f1, (rd_T111 x0 x7).f2.f2, (rd_T111 x0 x7).f2.f3, (rd_T111 x0 x7).f2.f4, (rd_T111 x0 x7).f2.f5⟩ : S60)⟩ : S111)]) x6 (wrap64 (x7 + 1)) x415000 x415001 x415002 x415003 x415004 x415005) else (none))) else (none)) else (none))
end
def changeoverref22_With.f (k : Nat) (l0 : List (S111)) (a1_0 : Int) (a1_1 : Int) (a1_2 : Int) (a1_3 : Bool) (a1_4 : ByteArray) (a1_5 : Int) : Option ((List (S111))) := changeoverref22_With.l0 k l0 ([] : List (S111)) false 0 a1_0 a1_1 a1_2 a1_3 a1_4 a1_5
theorem changeoverref22_With.mono_l : ∀ k, (∀ y0 y1 y2 y3 y4 y5 y6 y7 y8 y9, LeO (changeoverref22_With.l0 k y0 y1 y2 y3 y4 y5 y6 y7 y8 y9) (changeoverref22_With.l0 (k + 1) y0 y1 y2 y3 y4 y5 y6 y7 y8 y9)) ∧ (∀ y0 y1 y2 y3 y4 y5 y6 y7 y8 y9 y10, LeO (changeoverref22_With.j1 k y0 y1 y2 y3 y4 y5 y6 y7 y8 y9 y10) (changeoverref22_With.j1 (k + 1) y0 y1 y2 y3 y4 y5 y6 y7 y8 y9 y10))
  | 0 => ⟨fun _ _ _ _ _ _ _ _ _ _ r h => by simp [changeoverref22_With.l0] at h, fun _ _ _ _ _ _ _ _ _ _ _ r h => by simp [changeoverref22_With.j1] at h⟩
  | k + 1 => by
    obtain ⟨ih0, ih1⟩ := changeoverref22_With.mono_l k
    refine ⟨?_, ?_⟩
    · intro y0 y1 y2 y3 y4 y5 y6 y7 y8 y9
      unfold changeoverref22_With.l0
      repeat' first
      | (with_reducible exact ih0 _ _ _ _ _ _ _ _ _ _)
      | (with_reducible exact ih1 _ _ _ _ _ _ _ _ _ _ _)
      | (with_reducible exact LeO.refl _)
      | (with_reducible exact LeO.none _)
      | (with_reducible refine LeO.ite ?_ ?_)
      | (with_reducible refine LeO.bind ?_ (fun _ => ?_))
      | exact ih0 _ _ _ _ _ _ _ _ _ _
      | exact ih1 _ _ _ _ _ _ _ _ _ _ _
      | exact LeO.none _
      | refine LeO.ite ?_ ?_
      | refine LeO.bind ?_ (fun _ => ?_)
    · intro y0 y1 y2 y3 y4 y5 y6 y7 y8 y9 y10
      unfold changeoverref22_With.j1
      repeat' first
      | (with_reducible exact ih0 _ _ _ _ _ _ _ _ _ _)
      | (with_reducible exact ih1 _ _ _ _ _ _ _ _ _ _ _)
      | (with_reducible exact LeO.refl _)
      | (with_reducible exact LeO.none _)
      | (with_reducible refine LeO.ite ?_ ?_)
      | (with_reducible refine LeO.bind ?_ (fun _ => ?_))
      | exact ih0 _ _ _ _ _ _ _ _ _ _
      | exact ih1 _ _ _ _ _ _ _ _ _ _ _
      | exact LeO.none _
      | refine LeO.ite ?_ ?_
      | refine LeO.bind ?_ (fun _ => ?_)
theorem changeoverref22_With.mono : ∀ a0 a1 a2 a3 a4 a5 a6 k, LeO (changeoverref22_With.f k a0 a1 a2 a3 a4 a5 a6) (changeoverref22_With.f (k + 1) a0 a1 a2 a3 a4 a5 a6) := by
  intro a0 a1 a2 a3 a4 a5 a6 k
  obtain ⟨ih0, ih1⟩ := changeoverref22_With.mono_l k
  unfold changeoverref22_With.f
  repeat' first
      | (with_reducible exact ih0 _ _ _ _ _ _ _ _ _ _)
      | (with_reducible exact ih1 _ _ _ _ _ _ _ _ _ _ _)
      | (with_reducible exact LeO.refl _)
      | (with_reducible exact LeO.none _)
      | (with_reducible refine LeO.ite ?_ ?_)
      | (with_reducible refine LeO.bind ?_ (fun _ => ?_))
      | exact ih0 _ _ _ _ _ _ _ _ _ _
      | exact ih1 _ _ _ _ _ _ _ _ _ _ _
      | exact LeO.none _
      | refine LeO.ite ?_ ?_
      | refine LeO.bind ?_ (fun _ => ?_)
set_option maxHeartbeats 8000000 in
set_option maxRecDepth 100000 in
theorem changeoverref22_With.calls (k : Nat) (A0 : Option Addr) (c0 : Nat) (l0 : List (S111)) (a1_0 : Int) (a1_1 : Int) (a1_2 : Int) (a1_3 : Bool) (a1_4 : ByteArray) (a1_5 : Int) (r : List (S111)) (w : World) (hr0 : Kd.C k111 w A0 l0.length l0) (hc0 : l0.length ≤ c0) (h : changeoverref22_With.f k l0 a1_0 a1_1 a1_2 a1_3 a1_4 a1_5 = some r) :
    Calls Try.prog 54 #[.slice A0 l0.length c0, .agg #[.int .i64 a1_0, .int .i64 a1_1, .int .i64 a1_2, .bool a1_3, .string a1_4, .int .i64 a1_5]] w fun e w' => ∃ v0_ : Value, e = .returned (v0_) ∧ Kd.R k111 111 w' w.heap.size (fun _ => True) v0_ r ∧ Below w.heap.size w w' := by
  have hu60 := Try.underlying60
  have hu111 := Try.underlying111
  have HR0 := Aside0.mk hr0
  have HC0 := Aside0.mk hc0
  clear hr0 hc0
  have HB := Aside0.mk (Below.refl w.heap.size w)
  have H : (changeoverref22_With.l0 k l0 ([] : List (S111)) false 0 a1_0 a1_1 a1_2 a1_3 a1_4 a1_5) = some r := h
  clear h
  have H' := Aside0.mk H
  clear H
  go_enter Try.func54, Try.ntmps54
  go_wp2_with (first | ((with_reducible refine gate_dst (N := 3) rfl ?_); refine box_event ?hg (N := 3) ?hd (cs := #[.int .i64 a1_0, .int .i64 a1_1, .int .i64 a1_2, .bool a1_3, .string a1_4, .int .i64 a1_5]) (t := 60) ?hr ?_; (case hd => rfl); (case hg => rfl); (case hr => first | (go_simp; done) | (go_simp; rfl)); intro gb414 hg w3 hbox hb; have n0_ := Aside0.mk (below_step (by repeat (first | (with_reducible first | exact HB.out | apply below_alloc | apply pw_below_drewN | apply below_drew1) | exact HB.out)) hb); have n1_ := Aside0.mk (hbox); have n2_ := Aside0.mk ((by rw [hg]; exact (below_size (by repeat (first | (with_reducible first | exact HB.out | apply below_alloc | apply pw_below_drewN | apply below_drew1) | exact HB.out))) : w.heap.size ≤ gb414)); have n3_ := Aside0.mk ((by rw [hg]; exact (below_size (by repeat (first | (with_reducible first | exact HB.out | apply below_alloc | apply pw_below_drewN | apply below_drew1) | exact HB.out))) : w.heap.size ≤ gb414)); clear HB; have HB := n0_; have BK414 := n1_; have GW414 := n2_; have GE414 := n3_; clear n0_ n1_ n2_ n3_; clear hb hbox hg))
  repeat (go_quiet (first | ((with_reducible refine gate_dst (N := 3) rfl ?_); refine box_event ?hg (N := 3) ?hd (cs := #[.int .i64 a1_0, .int .i64 a1_1, .int .i64 a1_2, .bool a1_3, .string a1_4, .int .i64 a1_5]) (t := 60) ?hr ?_; (case hd => rfl); (case hg => rfl); (case hr => first | (go_simp; done) | (go_simp; rfl)); intro gb414 hg w3 hbox hb; have n0_ := Aside0.mk (below_step (by repeat (first | (with_reducible first | exact HB.out | apply below_alloc | apply pw_below_drewN | apply below_drew1) | exact HB.out)) hb); have n1_ := Aside0.mk (hbox); have n2_ := Aside0.mk ((by rw [hg]; exact (below_size (by repeat (first | (with_reducible first | exact HB.out | apply below_alloc | apply pw_below_drewN | apply below_drew1) | exact HB.out))) : w.heap.size ≤ gb414)); have n3_ := Aside0.mk ((by rw [hg]; exact (below_size (by repeat (first | (with_reducible first | exact HB.out | apply below_alloc | apply pw_below_drewN | apply below_drew1) | exact HB.out))) : w.heap.size ≤ gb414)); clear HB; have HB := n0_; have BK414 := n1_; have GW414 := n2_; have GE414 := n3_; clear n0_ n1_ n2_ n3_; clear hb hbox hg)); try go_wp2_with (first | ((with_reducible refine gate_dst (N := 3) rfl ?_); refine box_event ?hg (N := 3) ?hd (cs := #[.int .i64 a1_0, .int .i64 a1_1, .int .i64 a1_2, .bool a1_3, .string a1_4, .int .i64 a1_5]) (t := 60) ?hr ?_; (case hd => rfl); (case hg => rfl); (case hr => first | (go_simp; done) | (go_simp; rfl)); intro gb414 hg w3 hbox hb; have n0_ := Aside0.mk (below_step (by repeat (first | (with_reducible first | exact HB.out | apply below_alloc | apply pw_below_drewN | apply below_drew1) | exact HB.out)) hb); have n1_ := Aside0.mk (hbox); have n2_ := Aside0.mk ((by rw [hg]; exact (below_size (by repeat (first | (with_reducible first | exact HB.out | apply below_alloc | apply pw_below_drewN | apply below_drew1) | exact HB.out))) : w.heap.size ≤ gb414)); have n3_ := Aside0.mk ((by rw [hg]; exact (below_size (by repeat (first | (with_reducible first | exact HB.out | apply below_alloc | apply pw_below_drewN | apply below_drew1) | exact HB.out))) : w.heap.size ≤ gb414)); clear HB; have HB := n0_; have BK414 := n1_; have GW414 := n2_; have GE414 := n3_; clear n0_ n1_ n2_ n3_; clear hb hbox hg)))
  go_loopg [5, 6, 7] k (fun kq v5 v6 v7 w' => ∃ (x5_1 : List (S111)) (x6_1 : Bool) (x7_1 : Int), v6 = .bool x6_1 ∧ v7 = .int .i64 x7_1 ∧ Aside0 (changeoverref22_With.l0 kq l0 x5_1 x6_1 x7_1 a1_0 a1_1 a1_2 a1_3 a1_4 a1_5 = some r) ∧ Aside0 (kq ≤ k) ∧ Aside0 (Kd.R k111 111 w' w.heap.size (fun _ => True) v5 x5_1) ∧ Aside0 (w'.heap[gb414]? = some (.cells #[.int .i64 a1_0, .int .i64 a1_1, .int .i64 a1_2, .bool a1_3, .string a1_4, .int .i64 a1_5] 60 (0, 0))) ∧ Aside0 (Below w.heap.size w w'))
  case atStart => exact ⟨(([] : List (S111))), (false), (0), (by first | rfl | (simp; done) | (simp [*]; done)), (by first | rfl | (simp; done) | (simp [*]; done)), H', ⟨Nat.le_refl _⟩, ⟨by first | exact Kd.R_nil _ _ _ _ _ | exact Kd.N_nil _ _ _ _ _ | exact Kd.V_nil _ _ _ _ _ | exact Kd.Q_nil _ _ _ _ _ | exact Kd.S_nil _ _ _ _ _⟩, ⟨by (with_reducible repeat (first | refine blk_drewN ?_ _ | refine blk_drew ?_ | refine blk_alloc ?_ _)); exact BK414.out⟩, ⟨by repeat (first | (with_reducible first | exact HB.out | apply below_alloc | apply pw_below_drewN | apply below_drew1 | refine below_set ?_ GE414.out) | exact HB.out)⟩⟩
  case round =>
    clear H'
    try clear p2
    obtain ⟨x5_1, x6_1, x7_1, rfl, rfl, HA, HK1, HO_5, BK414, HB⟩ := hrel
    cases gk with
    | zero => exact absurd HA.out (by simp [changeoverref22_With.l0])
    | succ k1 =>
      have H := HA.out
      clear HA
      simp only [changeoverref22_With.l0] at H
      by_cases c4 : x7_1 < (l0.length : Int)
      · rw [if_pos c4] at H
        have c4b0 : decide (x7_1 < (l0.length : Int)) = true := decide_eq_true c4
        clear c4
        have HC5 := Aside0.mk H
        clear H
        go_upto_region 6 with (fail)
        repeat (go_quiet (fail); go_upto_region 6 with (fail))
        go_cut [25] (fun v25 wc => ∃ (kq : Nat) (x25_4 : Bool), v25 = .bool x25_4 ∧ Aside0 (changeoverref22_With.j1 kq l0 x5_1 x6_1 x7_1 x25_4 a1_0 a1_1 a1_2 a1_3 a1_4 a1_5 = some r) ∧ Aside0 (kq ≤ k1) ∧ Aside0 (Kd.R k111 111 wc w.heap.size (fun _ => True) u5 x5_1) ∧ Aside0 (wc.heap[gb414]? = some (.cells #[.int .i64 a1_0, .int .i64 a1_1, .int .i64 a1_2, .bool a1_3, .string a1_4, .int .i64 a1_5] 60 (0, 0))) ∧ Aside0 (Below w.heap.size w wc))
        case first =>
          have H := HC5.out
          clear HC5
          by_cases c6 : x6_1 = true
          · subst c6
            have H1 : (changeoverref22_With.j1 k1 l0 x5_1 true x7_1 false a1_0 a1_1 a1_2 a1_3 a1_4 a1_5) = some r := by rw [if_pos rfl] at H; exact H
            clear H
            have H := H1
            clear H1
            have H' := Aside0.mk H
            clear H
            go_wp2
            repeat (go_quiet (fail); try go_wp2)
            go_meet
            case rel => exact ⟨_, (false), (by first | rfl | (simp; done) | (simp [*]; done)), H', ⟨by have := HK1.out; first | omega | exact Nat.le_refl _⟩, ⟨by (with_reducible repeat (first | apply Kd.R_alloc | apply Kd.R_drewN | apply Kd.R_drew)); exact HO_5.out⟩, ⟨by (with_reducible repeat (first | refine blk_drewN ?_ _ | refine blk_drew ?_ | refine blk_alloc ?_ _)); exact BK414.out⟩, ⟨by repeat (first | (with_reducible first | exact HB.out | apply below_alloc | apply pw_below_drewN | apply below_drew1 | refine below_set ?_ GE414.out) | exact HB.out)⟩⟩
          · replace c6 := Bool.eq_false_iff.mpr c6
            subst c6
            have H1 : (if 0 ≤ x7_1 then (changeoverref22_With.j1 k1 l0 x5_1 false x7_1 (decide (((rd_T111 l0 x7_1).f0) ≥ a1_0)) a1_0 a1_1 a1_2 a1_3 a1_4 a1_5) else (none)) = some r := by rw [if_neg (show ¬ (false = true) by decide)] at H; exact H
            clear H
            have H := H1
            clear H1
            by_cases c7 : 0 ≤ x7_1
            · rw [if_pos c7] at H
              have c7b0 : decide (0 ≤ x7_1) = true := decide_eq_true c7
              clear c7
              (first | rw [c7b0] | (simp only [i64_w, i32_w]; rw [c7b0]) | skip)
              have H' := Aside0.mk H
              clear H
              have p418 : 0 ≤ (x7_1 : Int) := of_decide_eq_true (by first | (with_reducible assumption) | assumption)
              have q418 : x7_1 < (l0.length : Int) := of_decide_eq_true (by first | (with_reducible assumption) | assumption)
              obtain ⟨ad418, e418, hx418_0, hx418_1, hx418_2, hx418_3, hx418_4, hx418_5, hx418_6, hx418_7⟩ := at_T111 HR0.out x7_1 p418 q418
              cases e418
              replace hx418_0 := (HB.out.cell (World.block_lt_of_cell? w _ hx418_0)).trans hx418_0
              replace hx418_1 := (HB.out.cell (World.block_lt_of_cell? w _ hx418_1)).trans hx418_1
              replace hx418_2 := (HB.out.cell (World.block_lt_of_cell? w _ hx418_2)).trans hx418_2
              replace hx418_3 := (HB.out.cell (World.block_lt_of_cell? w _ hx418_3)).trans hx418_3
              replace hx418_4 := (HB.out.cell (World.block_lt_of_cell? w _ hx418_4)).trans hx418_4
              replace hx418_5 := (HB.out.cell (World.block_lt_of_cell? w _ hx418_5)).trans hx418_5
              replace hx418_6 := (HB.out.cell (World.block_lt_of_cell? w _ hx418_6)).trans hx418_6
              replace hx418_7 := (HB.out.cell (World.block_lt_of_cell? w _ hx418_7)).trans hx418_7
              replace p418 := eq_true p418
              replace q418 := eq_true q418
              have hcz8_0 : wr.cell? ⟨gb414, 0, none⟩ = some (.int .i64 a1_0) := (blk_cell BK414.out 0).trans rfl
              have hcz8_1 : wr.cell? ⟨gb414, 1, none⟩ = some (.int .i64 a1_1) := (blk_cell BK414.out 1).trans rfl
              have hcz8_2 : wr.cell? ⟨gb414, 2, none⟩ = some (.int .i64 a1_2) := (blk_cell BK414.out 2).trans rfl
              have hcz8_3 : wr.cell? ⟨gb414, 3, none⟩ = some (.bool a1_3) := (blk_cell BK414.out 3).trans rfl
              have hcz8_4 : wr.cell? ⟨gb414, 4, none⟩ = some (.string a1_4) := (blk_cell BK414.out 4).trans rfl
              have hcz8_5 : wr.cell? ⟨gb414, 5, none⟩ = some (.int .i64 a1_5) := (blk_cell BK414.out 5).trans rfl
              have hfz8_0 := blk_frozen BK414.out 0
              have hfz8_1 := blk_frozen BK414.out 1
              have hfz8_2 := blk_frozen BK414.out 2
              have hfz8_3 := blk_frozen BK414.out 3
              have hfz8_4 := blk_frozen BK414.out 4
              have hfz8_5 := blk_frozen BK414.out 5
              go_wp2
              repeat (go_quiet (fail); try go_wp2)
              go_meet
              case rel => exact ⟨_, (decide (((rd_T111 l0 x7_1).f0) ≥ a1_0)), (by first | rfl | (simp; done) | (simp [*]; done)), H', ⟨by have := HK1.out; first | omega | exact Nat.le_refl _⟩, ⟨by (with_reducible repeat (first | apply Kd.R_alloc | apply Kd.R_drewN | apply Kd.R_drew)); exact HO_5.out⟩, ⟨by (with_reducible repeat (first | refine blk_drewN ?_ _ | refine blk_drew ?_ | refine blk_alloc ?_ _)); exact BK414.out⟩, ⟨by repeat (first | (with_reducible first | exact HB.out | apply below_alloc | apply pw_below_drewN | apply below_drew1 | refine below_set ?_ GE414.out) | exact HB.out)⟩⟩
            · rw [if_neg c7] at H
              exact absurd H (by simp)
        case rest =>
          clear HC5
          try clear p2
          try clear c4
          try clear c4b0
          try clear p4
          try clear q4
          try clear hx4
          try clear c5
          try clear c6
          try clear c7
          try clear c7b0
          try clear hcz8_0
          try clear hcz8_1
          try clear hcz8_2
          try clear hcz8_3
          try clear hcz8_4
          try clear hcz8_5
          try clear hfz8_0
          try clear hfz8_1
          try clear hfz8_2
          try clear hfz8_3
          try clear hfz8_4
          try clear hfz8_5
          try clear hx418_0
          try clear hx418_1
          try clear hx418_2
          try clear hx418_3
          try clear hx418_4
          try clear hx418_5
          try clear hx418_6
          try clear hx418_7
          try clear p2
          try clear p418
          try clear q418
          obtain ⟨kq, x25_4, rfl, HA, HJ4, HO_5, BK414, HB⟩ := hcut
          cases kq with
          | zero => exact absurd HA.out (by simp [changeoverref22_With.j1])
          | succ kj4 =>
            have H := HA.out
            clear HA
            simp only [changeoverref22_With.j1] at H
            by_cases c9 : x25_4 = true
            · subst c9
              have H1 : (if x5_1.length < 1954687338268 then ((some (x5_1 ++ [(⟨a1_0, a1_1, (⟨a1_0, a1_1, a1_2, a1_3, a1_4, a1_5⟩ : S60)⟩ : S111)] : List (S111))).bind fun y419 => (if 0 ≤ x7_1 then (if x7_1 < (l0.length : Int) then (if ((rd_T111 l0 x7_1).f0) = a1_0 then (changeoverref22_With.l0 kj4 l0 y419 true (wrap64 (x7_1 + 1)) a1_0 a1_1 a1_2 a1_3 a1_4 a1_5) else (if y419.length < 1954687338268 then (changeoverref22_With.l0 kj4 l0 (y419 ++ [(⟨(rd_T111 l0 x7_1).f0, (rd_T111 l0 x7_1).f1, (⟨(rd_T111 l0 x7_1).f2.f0, (rd_T111 l0 x7_1).f2.f1, (rd_T111 l0 x7_1).f2.f2, (rd_T111 l0 x7_1).f2.f3, (rd_T111 l0 x7_1).f2.f4, (rd_T111 l0 x7_1).f2.f5⟩ : S60)⟩ : S111)]) true (wrap64 (x7_1 + 1)) a1_0 a1_1 a1_2 a1_3 a1_4 a1_5) else (none))) else (none)) else (none))) else (none)) = some r := by rw [if_pos rfl] at H; exact H
              clear H
              have H := H1
              clear H1
              by_cases c10 : x5_1.length < 1954687338268
              · rw [if_pos c10] at H
                have LMc10 := Aside0.mk c10
                clear c10
                obtain ⟨y419, hy419⟩ : ∃ y_ : List (S111), y_ = (x5_1 ++ [(⟨a1_0, a1_1, (⟨a1_0, a1_1, a1_2, a1_3, a1_4, a1_5⟩ : S60)⟩ : S111)]) := ⟨_, rfl⟩
                replace H : (if 0 ≤ x7_1 then (if x7_1 < (l0.length : Int) then (if ((rd_T111 l0 x7_1).f0) = a1_0 then (changeoverref22_With.l0 kj4 l0 y419 true (wrap64 (x7_1 + 1)) a1_0 a1_1 a1_2 a1_3 a1_4 a1_5) else (if y419.length < 1954687338268 then (changeoverref22_With.l0 kj4 l0 (y419 ++ [(⟨(rd_T111 l0 x7_1).f0, (rd_T111 l0 x7_1).f1, (⟨(rd_T111 l0 x7_1).f2.f0, (rd_T111 l0 x7_1).f2.f1, (rd_T111 l0 x7_1).f2.f2, (rd_T111 l0 x7_1).f2.f3, (rd_T111 l0 x7_1).f2.f4, (rd_T111 l0 x7_1).f2.f5⟩ : S60)⟩ : S111)]) true (wrap64 (x7_1 + 1)) a1_0 a1_1 a1_2 a1_3 a1_4 a1_5) else (none))) else (none)) else (none)) = some r := by first | (rw [hy419]; with_reducible exact H) | (have H2_ := (Option.bind_some _ _).symm.trans H; rw [hy419]; with_reducible exact H2_) | (have H2_ := (Option.bind_some _ _).symm.trans H; with_reducible exact H2_) | with_reducible exact H | (rw [hy419]; exact H) | exact H
                have Ny419 := Aside0.mk hy419
                clear hy419
                by_cases c11 : 0 ≤ x7_1
                · rw [if_pos c11] at H
                  have c11b0 : decide (0 ≤ x7_1) = true := decide_eq_true c11
                  clear c11
                  by_cases c12 : x7_1 < (l0.length : Int)
                  · rw [if_pos c12] at H
                    have c12b0 : decide (x7_1 < (l0.length : Int)) = true := decide_eq_true c12
                    clear c12
                    by_cases c13 : ((rd_T111 l0 x7_1).f0) = a1_0
                    · rw [if_pos c13] at H
                      have c13b0 : (((rd_T111 l0 x7_1).f0) == a1_0) = true := beq_iff_eq.mpr c13
                      have c13b1 : (((rd_T111 l0 x7_1).f0) != a1_0) = false := bne_eq_false_iff_eq.mpr c13
                      clear c13
                      have H' := Aside0.mk H
                      clear H
                      have hcz14_0 : wc.cell? ⟨gb414, 0, none⟩ = some (.int .i64 a1_0) := (blk_cell BK414.out 0).trans rfl
                      have hcz14_1 : wc.cell? ⟨gb414, 1, none⟩ = some (.int .i64 a1_1) := (blk_cell BK414.out 1).trans rfl
                      have hcz14_2 : wc.cell? ⟨gb414, 2, none⟩ = some (.int .i64 a1_2) := (blk_cell BK414.out 2).trans rfl
                      have hcz14_3 : wc.cell? ⟨gb414, 3, none⟩ = some (.bool a1_3) := (blk_cell BK414.out 3).trans rfl
                      have hcz14_4 : wc.cell? ⟨gb414, 4, none⟩ = some (.string a1_4) := (blk_cell BK414.out 4).trans rfl
                      have hcz14_5 : wc.cell? ⟨gb414, 5, none⟩ = some (.int .i64 a1_5) := (blk_cell BK414.out 5).trans rfl
                      have hfz14_0 := blk_frozen BK414.out 0
                      have hfz14_1 := blk_frozen BK414.out 1
                      have hfz14_2 := blk_frozen BK414.out 2
                      have hfz14_3 := blk_frozen BK414.out 3
                      have hfz14_4 := blk_frozen BK414.out 4
                      have hfz14_5 := blk_frozen BK414.out 5
                      go_wp2_with (first | ((with_reducible refine gate_builtin (b := .append) (xs := #[.tmp 26, .tmp 33]) rfl ?_); at_builtin; refine Kd.R_append k111 (w0 := w) w.heap.size rfl (.tmp 26) (.tmp 33) 57 111 (.agg #[(.int .i64 0), (.int .i64 0), (.int .i64 0), (.int .i64 0), (.int .i64 0), (.bool false), (.string ⟨#[]⟩), (.int .i64 0)]) 72 rfl Try.underlying57 info111 rfl (by decide) (by omega) u5 x5_1 (⟨a1_0, a1_1, (⟨a1_0, a1_1, a1_2, a1_3, a1_4, a1_5⟩ : S60)⟩ : S111) [.int .i64 a1_0, .int .i64 a1_1, .int .i64 a1_0, .int .i64 a1_1, .int .i64 a1_2, .bool a1_3, .string a1_4, .int .i64 a1_5] (fun _ => True) (fun _ => False) rfl rfl ?aP (fun _ hk => hk.elim) ?aF ?aO ?aB ?aS ?aL ?_; (case aP => exact k111_mkM _ _ _ (⟨a1_0, a1_1, (⟨a1_0, a1_1, a1_2, a1_3, a1_4, a1_5⟩ : S60)⟩ : S111)); (case aB => exact (by repeat (first | (with_reducible first | exact HB.out | apply below_alloc | apply pw_below_drewN | apply below_drew1 | refine below_set ?_ GE414.out) | exact HB.out))); (case aF => exact (fun _ _ => trivial)); (case aO => exact (by (with_reducible repeat (first | apply Kd.R_alloc | apply Kd.R_drewN | apply Kd.R_drew)); exact HO_5.out)); (case aS => exact (below_size (by repeat (first | (with_reducible first | exact HB.out | apply below_alloc | apply pw_below_drewN | apply below_drew1 | refine below_set ?_ GE414.out) | exact HB.out)))); (case aL => have := LMc10.out; omega); intro v420 w15 ho hb hg hat; rw [← Ny419.out] at ho; have n0_ := Aside0.mk (blk_grown (g := gb414) (o := .cells #[.int .i64 a1_0, .int .i64 a1_1, .int .i64 a1_2, .bool a1_3, .string a1_4, .int .i64 a1_5] 60 (0, 0)) (by (with_reducible repeat (first | refine blk_drewN ?_ _ | refine blk_drew ?_ | refine blk_alloc ?_ _)); exact BK414.out) hg (Kd.R_ne HO_5.out BK414.out (by decide))); have n1_ := Aside0.mk (hb); have n2_ := Aside0.mk (ho); clear BK414; clear HB; clear HO_5; have BK414 := n0_; have HB := n1_; have HO421 := n2_; clear n0_ n1_ n2_; clear ho hb hg hat; have p422 : 0 ≤ (x7_1 : Int) := of_decide_eq_true (by first | (with_reducible assumption) | assumption); have q422 : x7_1 < (l0.length : Int) := of_decide_eq_true (by first | (with_reducible assumption) | assumption); obtain ⟨ad422, e422, hx422_0, hx422_1, hx422_2, hx422_3, hx422_4, hx422_5, hx422_6, hx422_7⟩ := at_T111 HR0.out x7_1 p422 q422; cases e422; replace hx422_0 := (HB.out.cell (World.block_lt_of_cell? w _ hx422_0)).trans hx422_0; replace hx422_1 := (HB.out.cell (World.block_lt_of_cell? w _ hx422_1)).trans hx422_1; replace hx422_2 := (HB.out.cell (World.block_lt_of_cell? w _ hx422_2)).trans hx422_2; replace hx422_3 := (HB.out.cell (World.block_lt_of_cell? w _ hx422_3)).trans hx422_3; replace hx422_4 := (HB.out.cell (World.block_lt_of_cell? w _ hx422_4)).trans hx422_4; replace hx422_5 := (HB.out.cell (World.block_lt_of_cell? w _ hx422_5)).trans hx422_5; replace hx422_6 := (HB.out.cell (World.block_lt_of_cell? w _ hx422_6)).trans hx422_6; replace hx422_7 := (HB.out.cell (World.block_lt_of_cell? w _ hx422_7)).trans hx422_7; replace p422 := eq_true p422; replace q422 := eq_true q422; have hcz16_0 : w15.cell? ⟨gb414, 0, none⟩ = some (.int .i64 a1_0) := (blk_cell BK414.out 0).trans rfl; have hcz16_1 : w15.cell? ⟨gb414, 1, none⟩ = some (.int .i64 a1_1) := (blk_cell BK414.out 1).trans rfl; have hcz16_2 : w15.cell? ⟨gb414, 2, none⟩ = some (.int .i64 a1_2) := (blk_cell BK414.out 2).trans rfl; have hcz16_3 : w15.cell? ⟨gb414, 3, none⟩ = some (.bool a1_3) := (blk_cell BK414.out 3).trans rfl; have hcz16_4 : w15.cell? ⟨gb414, 4, none⟩ = some (.string a1_4) := (blk_cell BK414.out 4).trans rfl; have hcz16_5 : w15.cell? ⟨gb414, 5, none⟩ = some (.int .i64 a1_5) := (blk_cell BK414.out 5).trans rfl; have hfz16_0 := blk_frozen BK414.out 0; have hfz16_1 := blk_frozen BK414.out 1; have hfz16_2 := blk_frozen BK414.out 2; have hfz16_3 := blk_frozen BK414.out 3; have hfz16_4 := blk_frozen BK414.out 4; have hfz16_5 := blk_frozen BK414.out 5))
                      repeat (go_quiet (first | ((with_reducible refine gate_builtin (b := .append) (xs := #[.tmp 26, .tmp 33]) rfl ?_); at_builtin; refine Kd.R_append k111 (w0 := w) w.heap.size rfl (.tmp 26) (.tmp 33) 57 111 (.agg #[(.int .i64 0), (.int .i64 0), (.int .i64 0), (.int .i64 0), (.int .i64 0), (.bool false), (.string ⟨#[]⟩), (.int .i64 0)]) 72 rfl Try.underlying57 info111 rfl (by decide) (by omega) u5 x5_1 (⟨a1_0, a1_1, (⟨a1_0, a1_1, a1_2, a1_3, a1_4, a1_5⟩ : S60)⟩ : S111) [.int .i64 a1_0, .int .i64 a1_1, .int .i64 a1_0, .int .i64 a1_1, .int .i64 a1_2, .bool a1_3, .string a1_4, .int .i64 a1_5] (fun _ => True) (fun _ => False) rfl rfl ?aP (fun _ hk => hk.elim) ?aF ?aO ?aB ?aS ?aL ?_; (case aP => exact k111_mkM _ _ _ (⟨a1_0, a1_1, (⟨a1_0, a1_1, a1_2, a1_3, a1_4, a1_5⟩ : S60)⟩ : S111)); (case aB => exact (by repeat (first | (with_reducible first | exact HB.out | apply below_alloc | apply pw_below_drewN | apply below_drew1 | refine below_set ?_ GE414.out) | exact HB.out))); (case aF => exact (fun _ _ => trivial)); (case aO => exact (by (with_reducible repeat (first | apply Kd.R_alloc | apply Kd.R_drewN | apply Kd.R_drew)); exact HO_5.out)); (case aS => exact (below_size (by repeat (first | (with_reducible first | exact HB.out | apply below_alloc | apply pw_below_drewN | apply below_drew1 | refine below_set ?_ GE414.out) | exact HB.out)))); (case aL => have := LMc10.out; omega); intro v420 w15 ho hb hg hat; rw [← Ny419.out] at ho; have n0_ := Aside0.mk (blk_grown (g := gb414) (o := .cells #[.int .i64 a1_0, .int .i64 a1_1, .int .i64 a1_2, .bool a1_3, .string a1_4, .int .i64 a1_5] 60 (0, 0)) (by (with_reducible repeat (first | refine blk_drewN ?_ _ | refine blk_drew ?_ | refine blk_alloc ?_ _)); exact BK414.out) hg (Kd.R_ne HO_5.out BK414.out (by decide))); have n1_ := Aside0.mk (hb); have n2_ := Aside0.mk (ho); clear BK414; clear HB; clear HO_5; have BK414 := n0_; have HB := n1_; have HO421 := n2_; clear n0_ n1_ n2_; clear ho hb hg hat; have p422 : 0 ≤ (x7_1 : Int) := of_decide_eq_true (by first | (with_reducible assumption) | assumption); have q422 : x7_1 < (l0.length : Int) := of_decide_eq_true (by first | (with_reducible assumption) | assumption); obtain ⟨ad422, e422, hx422_0, hx422_1, hx422_2, hx422_3, hx422_4, hx422_5, hx422_6, hx422_7⟩ := at_T111 HR0.out x7_1 p422 q422; cases e422; replace hx422_0 := (HB.out.cell (World.block_lt_of_cell? w _ hx422_0)).trans hx422_0; replace hx422_1 := (HB.out.cell (World.block_lt_of_cell? w _ hx422_1)).trans hx422_1; replace hx422_2 := (HB.out.cell (World.block_lt_of_cell? w _ hx422_2)).trans hx422_2; replace hx422_3 := (HB.out.cell (World.block_lt_of_cell? w _ hx422_3)).trans hx422_3; replace hx422_4 := (HB.out.cell (World.block_lt_of_cell? w _ hx422_4)).trans hx422_4; replace hx422_5 := (HB.out.cell (World.block_lt_of_cell? w _ hx422_5)).trans hx422_5; replace hx422_6 := (HB.out.cell (World.block_lt_of_cell? w _ hx422_6)).trans hx422_6; replace hx422_7 := (HB.out.cell (World.block_lt_of_cell? w _ hx422_7)).trans hx422_7; replace p422 := eq_true p422; replace q422 := eq_true q422; have hcz16_0 : w15.cell? ⟨gb414, 0, none⟩ = some (.int .i64 a1_0) := (blk_cell BK414.out 0).trans rfl; have hcz16_1 : w15.cell? ⟨gb414, 1, none⟩ = some (.int .i64 a1_1) := (blk_cell BK414.out 1).trans rfl; have hcz16_2 : w15.cell? ⟨gb414, 2, none⟩ = some (.int .i64 a1_2) := (blk_cell BK414.out 2).trans rfl; have hcz16_3 : w15.cell? ⟨gb414, 3, none⟩ = some (.bool a1_3) := (blk_cell BK414.out 3).trans rfl; have hcz16_4 : w15.cell? ⟨gb414, 4, none⟩ = some (.string a1_4) := (blk_cell BK414.out 4).trans rfl; have hcz16_5 : w15.cell? ⟨gb414, 5, none⟩ = some (.int .i64 a1_5) := (blk_cell BK414.out 5).trans rfl; have hfz16_0 := blk_frozen BK414.out 0; have hfz16_1 := blk_frozen BK414.out 1; have hfz16_2 := blk_frozen BK414.out 2; have hfz16_3 := blk_frozen BK414.out 3; have hfz16_4 := blk_frozen BK414.out 4; have hfz16_5 := blk_frozen BK414.out 5)); try go_wp2_with (first | ((with_reducible refine gate_builtin (b := .append) (xs := #[.tmp 26, .tmp 33]) rfl ?_); at_builtin; refine Kd.R_append k111 (w0 := w) w.heap.size rfl (.tmp 26) (.tmp 33) 57 111 (.agg #[(.int .i64 0), (.int .i64 0), (.int .i64 0), (.int .i64 0), (.int .i64 0), (.bool false), (.string ⟨#[]⟩), (.int .i64 0)]) 72 rfl Try.underlying57 info111 rfl (by decide) (by omega) u5 x5_1 (⟨a1_0, a1_1, (⟨a1_0, a1_1, a1_2, a1_3, a1_4, a1_5⟩ : S60)⟩ : S111) [.int .i64 a1_0, .int .i64 a1_1, .int .i64 a1_0, .int .i64 a1_1, .int .i64 a1_2, .bool a1_3, .string a1_4, .int .i64 a1_5] (fun _ => True) (fun _ => False) rfl rfl ?aP (fun _ hk => hk.elim) ?aF ?aO ?aB ?aS ?aL ?_; (case aP => exact k111_mkM _ _ _ (⟨a1_0, a1_1, (⟨a1_0, a1_1, a1_2, a1_3, a1_4, a1_5⟩ : S60)⟩ : S111)); (case aB => exact (by repeat (first | (with_reducible first | exact HB.out | apply below_alloc | apply pw_below_drewN | apply below_drew1 | refine below_set ?_ GE414.out) | exact HB.out))); (case aF => exact (fun _ _ => trivial)); (case aO => exact (by (with_reducible repeat (first | apply Kd.R_alloc | apply Kd.R_drewN | apply Kd.R_drew)); exact HO_5.out)); (case aS => exact (below_size (by repeat (first | (with_reducible first | exact HB.out | apply below_alloc | apply pw_below_drewN | apply below_drew1 | refine below_set ?_ GE414.out) | exact HB.out)))); (case aL => have := LMc10.out; omega); intro v420 w15 ho hb hg hat; rw [← Ny419.out] at ho; have n0_ := Aside0.mk (blk_grown (g := gb414) (o := .cells #[.int .i64 a1_0, .int .i64 a1_1, .int .i64 a1_2, .bool a1_3, .string a1_4, .int .i64 a1_5] 60 (0, 0)) (by (with_reducible repeat (first | refine blk_drewN ?_ _ | refine blk_drew ?_ | refine blk_alloc ?_ _)); exact BK414.out) hg (Kd.R_ne HO_5.out BK414.out (by decide))); have n1_ := Aside0.mk (hb); have n2_ := Aside0.mk (ho); clear BK414; clear HB; clear HO_5; have BK414 := n0_; have HB := n1_; have HO421 := n2_; clear n0_ n1_ n2_; clear ho hb hg hat; have p422 : 0 ≤ (x7_1 : Int) := of_decide_eq_true (by first | (with_reducible assumption) | assumption); have q422 : x7_1 < (l0.length : Int) := of_decide_eq_true (by first | (with_reducible assumption) | assumption); obtain ⟨ad422, e422, hx422_0, hx422_1, hx422_2, hx422_3, hx422_4, hx422_5, hx422_6, hx422_7⟩ := at_T111 HR0.out x7_1 p422 q422; cases e422; replace hx422_0 := (HB.out.cell (World.block_lt_of_cell? w _ hx422_0)).trans hx422_0; replace hx422_1 := (HB.out.cell (World.block_lt_of_cell? w _ hx422_1)).trans hx422_1; replace hx422_2 := (HB.out.cell (World.block_lt_of_cell? w _ hx422_2)).trans hx422_2; replace hx422_3 := (HB.out.cell (World.block_lt_of_cell? w _ hx422_3)).trans hx422_3; replace hx422_4 := (HB.out.cell (World.block_lt_of_cell? w _ hx422_4)).trans hx422_4; replace hx422_5 := (HB.out.cell (World.block_lt_of_cell? w _ hx422_5)).trans hx422_5; replace hx422_6 := (HB.out.cell (World.block_lt_of_cell? w _ hx422_6)).trans hx422_6; replace hx422_7 := (HB.out.cell (World.block_lt_of_cell? w _ hx422_7)).trans hx422_7; replace p422 := eq_true p422; replace q422 := eq_true q422; have hcz16_0 : w15.cell? ⟨gb414, 0, none⟩ = some (.int .i64 a1_0) := (blk_cell BK414.out 0).trans rfl; have hcz16_1 : w15.cell? ⟨gb414, 1, none⟩ = some (.int .i64 a1_1) := (blk_cell BK414.out 1).trans rfl; have hcz16_2 : w15.cell? ⟨gb414, 2, none⟩ = some (.int .i64 a1_2) := (blk_cell BK414.out 2).trans rfl; have hcz16_3 : w15.cell? ⟨gb414, 3, none⟩ = some (.bool a1_3) := (blk_cell BK414.out 3).trans rfl; have hcz16_4 : w15.cell? ⟨gb414, 4, none⟩ = some (.string a1_4) := (blk_cell BK414.out 4).trans rfl; have hcz16_5 : w15.cell? ⟨gb414, 5, none⟩ = some (.int .i64 a1_5) := (blk_cell BK414.out 5).trans rfl; have hfz16_0 := blk_frozen BK414.out 0; have hfz16_1 := blk_frozen BK414.out 1; have hfz16_2 := blk_frozen BK414.out 2; have hfz16_3 := blk_frozen BK414.out 3; have hfz16_4 := blk_frozen BK414.out 4; have hfz16_5 := blk_frozen BK414.out 5)))
                      go_roundg kj4
                      case measure => have := HK1.out; have := HJ4.out; omega
                      case rel => exact ⟨(y419), (true), (wrap64 (x7_1 + 1)), (by first | rfl | (simp; done) | (simp [*]; done)), (by first | rfl | (simp; done) | (simp [*]; done)), H', ⟨by have := HK1.out; have := HJ4.out; omega⟩, ⟨by (with_reducible repeat (first | apply Kd.R_alloc | apply Kd.R_drewN | apply Kd.R_drew)); exact HO421.out⟩, ⟨by (with_reducible repeat (first | refine blk_drewN ?_ _ | refine blk_drew ?_ | refine blk_alloc ?_ _)); exact BK414.out⟩, ⟨by repeat (first | (with_reducible first | exact HB.out | apply below_alloc | apply pw_below_drewN | apply below_drew1 | refine below_set ?_ GE414.out) | exact HB.out)⟩⟩
                    · rw [if_neg c13] at H
                      have c13b0 : (((rd_T111 l0 x7_1).f0) == a1_0) = false := beq_eq_false_iff_ne.mpr c13
                      have c13b1 : (((rd_T111 l0 x7_1).f0) != a1_0) = true := bne_iff_ne.mpr c13
                      by_cases c17 : y419.length < 1954687338268
                      · rw [if_pos c17] at H
                        have LMc17 := Aside0.mk c17
                        clear c17
                        obtain ⟨y424, hy424⟩ : ∃ y_ : List (S111), y_ = (y419 ++ [(⟨(rd_T111 l0 x7_1).f0, (rd_T111 l0 x7_1).f1, (⟨(rd_T111 l0 x7_1).f2.f0, (rd_T111 l0 x7_1).f2.f1, (rd_T111 l0 x7_1).f2.f2, (rd_T111 l0 x7_1).f2.f3, (rd_T111 l0 x7_1).f2.f4, (rd_T111 l0 x7_1).f2.f5⟩ : S60)⟩ : S111)]) := ⟨_, rfl⟩
                        replace H : (changeoverref22_With.l0 kj4 l0 y424 true (wrap64 (x7_1 + 1)) a1_0 a1_1 a1_2 a1_3 a1_4 a1_5) = some r := by first | (rw [hy424]; with_reducible exact H) | (have H2_ := (Option.bind_some _ _).symm.trans H; rw [hy424]; with_reducible exact H2_) | (have H2_ := (Option.bind_some _ _).symm.trans H; with_reducible exact H2_) | with_reducible exact H | (rw [hy424]; exact H) | exact H
                        have Ny424 := Aside0.mk hy424
                        clear hy424
                        have H' := Aside0.mk H
                        clear H
                        have hcz18_0 : wc.cell? ⟨gb414, 0, none⟩ = some (.int .i64 a1_0) := (blk_cell BK414.out 0).trans rfl
                        have hcz18_1 : wc.cell? ⟨gb414, 1, none⟩ = some (.int .i64 a1_1) := (blk_cell BK414.out 1).trans rfl
                        have hcz18_2 : wc.cell? ⟨gb414, 2, none⟩ = some (.int .i64 a1_2) := (blk_cell BK414.out 2).trans rfl
                        have hcz18_3 : wc.cell? ⟨gb414, 3, none⟩ = some (.bool a1_3) := (blk_cell BK414.out 3).trans rfl
                        have hcz18_4 : wc.cell? ⟨gb414, 4, none⟩ = some (.string a1_4) := (blk_cell BK414.out 4).trans rfl
                        have hcz18_5 : wc.cell? ⟨gb414, 5, none⟩ = some (.int .i64 a1_5) := (blk_cell BK414.out 5).trans rfl
                        have hfz18_0 := blk_frozen BK414.out 0
                        have hfz18_1 := blk_frozen BK414.out 1
                        have hfz18_2 := blk_frozen BK414.out 2
                        have hfz18_3 := blk_frozen BK414.out 3
                        have hfz18_4 := blk_frozen BK414.out 4
                        have hfz18_5 := blk_frozen BK414.out 5
                        go_wp2_with (first | ((with_reducible refine gate_builtin (b := .append) (xs := #[.tmp 26, .tmp 33]) rfl ?_); at_builtin; refine Kd.R_append k111 (w0 := w) w.heap.size rfl (.tmp 26) (.tmp 33) 57 111 (.agg #[(.int .i64 0), (.int .i64 0), (.int .i64 0), (.int .i64 0), (.int .i64 0), (.bool false), (.string ⟨#[]⟩), (.int .i64 0)]) 72 rfl Try.underlying57 info111 rfl (by decide) (by omega) u5 x5_1 (⟨a1_0, a1_1, (⟨a1_0, a1_1, a1_2, a1_3, a1_4, a1_5⟩ : S60)⟩ : S111) [.int .i64 a1_0, .int .i64 a1_1, .int .i64 a1_0, .int .i64 a1_1, .int .i64 a1_2, .bool a1_3, .string a1_4, .int .i64 a1_5] (fun _ => True) (fun _ => False) rfl rfl ?aP (fun _ hk => hk.elim) ?aF ?aO ?aB ?aS ?aL ?_; (case aP => exact k111_mkM _ _ _ (⟨a1_0, a1_1, (⟨a1_0, a1_1, a1_2, a1_3, a1_4, a1_5⟩ : S60)⟩ : S111)); (case aB => exact (by repeat (first | (with_reducible first | exact HB.out | apply below_alloc | apply pw_below_drewN | apply below_drew1 | refine below_set ?_ GE414.out) | exact HB.out))); (case aF => exact (fun _ _ => trivial)); (case aO => exact (by (with_reducible repeat (first | apply Kd.R_alloc | apply Kd.R_drewN | apply Kd.R_drew)); exact HO_5.out)); (case aS => exact (below_size (by repeat (first | (with_reducible first | exact HB.out | apply below_alloc | apply pw_below_drewN | apply below_drew1 | refine below_set ?_ GE414.out) | exact HB.out)))); (case aL => have := LMc10.out; omega); intro v420 w19 ho hb hg hat; rw [← Ny419.out] at ho; have n0_ := Aside0.mk (blk_grown (g := gb414) (o := .cells #[.int .i64 a1_0, .int .i64 a1_1, .int .i64 a1_2, .bool a1_3, .string a1_4, .int .i64 a1_5] 60 (0, 0)) (by (with_reducible repeat (first | refine blk_drewN ?_ _ | refine blk_drew ?_ | refine blk_alloc ?_ _)); exact BK414.out) hg (Kd.R_ne HO_5.out BK414.out (by decide))); have n1_ := Aside0.mk (hb); have n2_ := Aside0.mk (ho); clear BK414; clear HB; clear HO_5; have BK414 := n0_; have HB := n1_; have HO421 := n2_; clear n0_ n1_ n2_; clear ho hb hg hat; have p422 : 0 ≤ (x7_1 : Int) := of_decide_eq_true (by first | (with_reducible assumption) | assumption); have q422 : x7_1 < (l0.length : Int) := of_decide_eq_true (by first | (with_reducible assumption) | assumption); obtain ⟨ad422, e422, hx422_0, hx422_1, hx422_2, hx422_3, hx422_4, hx422_5, hx422_6, hx422_7⟩ := at_T111 HR0.out x7_1 p422 q422; cases e422; replace hx422_0 := (HB.out.cell (World.block_lt_of_cell? w _ hx422_0)).trans hx422_0; replace hx422_1 := (HB.out.cell (World.block_lt_of_cell? w _ hx422_1)).trans hx422_1; replace hx422_2 := (HB.out.cell (World.block_lt_of_cell? w _ hx422_2)).trans hx422_2; replace hx422_3 := (HB.out.cell (World.block_lt_of_cell? w _ hx422_3)).trans hx422_3; replace hx422_4 := (HB.out.cell (World.block_lt_of_cell? w _ hx422_4)).trans hx422_4; replace hx422_5 := (HB.out.cell (World.block_lt_of_cell? w _ hx422_5)).trans hx422_5; replace hx422_6 := (HB.out.cell (World.block_lt_of_cell? w _ hx422_6)).trans hx422_6; replace hx422_7 := (HB.out.cell (World.block_lt_of_cell? w _ hx422_7)).trans hx422_7; replace p422 := eq_true p422; replace q422 := eq_true q422; have hcz20_0 : w19.cell? ⟨gb414, 0, none⟩ = some (.int .i64 a1_0) := (blk_cell BK414.out 0).trans rfl; have hcz20_1 : w19.cell? ⟨gb414, 1, none⟩ = some (.int .i64 a1_1) := (blk_cell BK414.out 1).trans rfl; have hcz20_2 : w19.cell? ⟨gb414, 2, none⟩ = some (.int .i64 a1_2) := (blk_cell BK414.out 2).trans rfl; have hcz20_3 : w19.cell? ⟨gb414, 3, none⟩ = some (.bool a1_3) := (blk_cell BK414.out 3).trans rfl; have hcz20_4 : w19.cell? ⟨gb414, 4, none⟩ = some (.string a1_4) := (blk_cell BK414.out 4).trans rfl; have hcz20_5 : w19.cell? ⟨gb414, 5, none⟩ = some (.int .i64 a1_5) := (blk_cell BK414.out 5).trans rfl; have hfz20_0 := blk_frozen BK414.out 0; have hfz20_1 := blk_frozen BK414.out 1; have hfz20_2 := blk_frozen BK414.out 2; have hfz20_3 := blk_frozen BK414.out 3; have hfz20_4 := blk_frozen BK414.out 4; have hfz20_5 := blk_frozen BK414.out 5; have p423 : 0 ≤ (x7_1 : Int) := of_decide_eq_true (by first | (with_reducible assumption) | assumption); have q423 : x7_1 < (l0.length : Int) := of_decide_eq_true (by first | (with_reducible assumption) | assumption); obtain ⟨ad423, e423, hx423_0, hx423_1, hx423_2, hx423_3, hx423_4, hx423_5, hx423_6, hx423_7⟩ := at_T111 HR0.out x7_1 p423 q423; obtain rfl : ad422 = ad423 := (by injection e423); replace hx423_0 := (HB.out.cell (World.block_lt_of_cell? w _ hx423_0)).trans hx423_0; replace hx423_1 := (HB.out.cell (World.block_lt_of_cell? w _ hx423_1)).trans hx423_1; replace hx423_2 := (HB.out.cell (World.block_lt_of_cell? w _ hx423_2)).trans hx423_2; replace hx423_3 := (HB.out.cell (World.block_lt_of_cell? w _ hx423_3)).trans hx423_3; replace hx423_4 := (HB.out.cell (World.block_lt_of_cell? w _ hx423_4)).trans hx423_4; replace hx423_5 := (HB.out.cell (World.block_lt_of_cell? w _ hx423_5)).trans hx423_5; replace hx423_6 := (HB.out.cell (World.block_lt_of_cell? w _ hx423_6)).trans hx423_6; replace hx423_7 := (HB.out.cell (World.block_lt_of_cell? w _ hx423_7)).trans hx423_7; replace p423 := eq_true p423; replace q423 := eq_true q423) | ((with_reducible refine gate_builtin (b := .append) (xs := #[.tmp 43, .tmp 48]) rfl ?_); at_builtin; refine Kd.R_append k111 (w0 := w) w.heap.size rfl (.tmp 43) (.tmp 48) 57 111 (.agg #[(.int .i64 0), (.int .i64 0), (.int .i64 0), (.int .i64 0), (.int .i64 0), (.bool false), (.string ⟨#[]⟩), (.int .i64 0)]) 72 rfl Try.underlying57 info111 rfl (by decide) (by omega) v420 y419 (⟨(rd_T111 l0 x7_1).f0, (rd_T111 l0 x7_1).f1, (⟨(rd_T111 l0 x7_1).f2.f0, (rd_T111 l0 x7_1).f2.f1, (rd_T111 l0 x7_1).f2.f2, (rd_T111 l0 x7_1).f2.f3, (rd_T111 l0 x7_1).f2.f4, (rd_T111 l0 x7_1).f2.f5⟩ : S60)⟩ : S111) [.int .i64 ((rd_T111 l0 x7_1).f0), .int .i64 ((rd_T111 l0 x7_1).f1), .int .i64 ((rd_T111 l0 x7_1).f2.f0), .int .i64 ((rd_T111 l0 x7_1).f2.f1), .int .i64 ((rd_T111 l0 x7_1).f2.f2), .bool ((rd_T111 l0 x7_1).f2.f3), .string ((rd_T111 l0 x7_1).f2.f4), .int .i64 ((rd_T111 l0 x7_1).f2.f5)] (fun _ => True) (fun _ => False) rfl rfl ?aP (fun _ hk => hk.elim) ?aF ?aO ?aB ?aS ?aL ?_; (case aP => exact k111_mkM _ _ _ (⟨(rd_T111 l0 x7_1).f0, (rd_T111 l0 x7_1).f1, (⟨(rd_T111 l0 x7_1).f2.f0, (rd_T111 l0 x7_1).f2.f1, (rd_T111 l0 x7_1).f2.f2, (rd_T111 l0 x7_1).f2.f3, (rd_T111 l0 x7_1).f2.f4, (rd_T111 l0 x7_1).f2.f5⟩ : S60)⟩ : S111)); (case aB => exact (by repeat (first | (with_reducible first | exact HB.out | apply below_alloc | apply pw_below_drewN | apply below_drew1 | refine below_set ?_ GE414.out) | exact HB.out))); (case aF => exact (fun _ _ => trivial)); (case aO => exact (by (with_reducible repeat (first | apply Kd.R_alloc | apply Kd.R_drewN | apply Kd.R_drew)); exact HO421.out)); (case aS => exact (below_size (by repeat (first | (with_reducible first | exact HB.out | apply below_alloc | apply pw_below_drewN | apply below_drew1 | refine below_set ?_ GE414.out) | exact HB.out)))); (case aL => have := LMc17.out; omega); intro v425 w21 ho hb hg hat; rw [← Ny424.out] at ho; have n0_ := Aside0.mk (blk_grown (g := gb414) (o := .cells #[.int .i64 a1_0, .int .i64 a1_1, .int .i64 a1_2, .bool a1_3, .string a1_4, .int .i64 a1_5] 60 (0, 0)) (by (with_reducible repeat (first | refine blk_drewN ?_ _ | refine blk_drew ?_ | refine blk_alloc ?_ _)); exact BK414.out) hg (Kd.R_ne HO421.out BK414.out (by decide))); have n1_ := Aside0.mk (hb); have n2_ := Aside0.mk (ho); clear BK414; clear HB; clear HO421; have BK414 := n0_; have HB := n1_; have HO426 := n2_; clear n0_ n1_ n2_; clear ho hb hg hat))
                        repeat (go_quiet (first | ((with_reducible refine gate_builtin (b := .append) (xs := #[.tmp 26, .tmp 33]) rfl ?_); at_builtin; refine Kd.R_append k111 (w0 := w) w.heap.size rfl (.tmp 26) (.tmp 33) 57 111 (.agg #[(.int .i64 0), (.int .i64 0), (.int .i64 0), (.int .i64 0), (.int .i64 0), (.bool false), (.string ⟨#[]⟩), (.int .i64 0)]) 72 rfl Try.underlying57 info111 rfl (by decide) (by omega) u5 x5_1 (⟨a1_0, a1_1, (⟨a1_0, a1_1, a1_2, a1_3, a1_4, a1_5⟩ : S60)⟩ : S111) [.int .i64 a1_0, .int .i64 a1_1, .int .i64 a1_0, .int .i64 a1_1, .int .i64 a1_2, .bool a1_3, .string a1_4, .int .i64 a1_5] (fun _ => True) (fun _ => False) rfl rfl ?aP (fun _ hk => hk.elim) ?aF ?aO ?aB ?aS ?aL ?_; (case aP => exact k111_mkM _ _ _ (⟨a1_0, a1_1, (⟨a1_0, a1_1, a1_2, a1_3, a1_4, a1_5⟩ : S60)⟩ : S111)); (case aB => exact (by repeat (first | (with_reducible first | exact HB.out | apply below_alloc | apply pw_below_drewN | apply below_drew1 | refine below_set ?_ GE414.out) | exact HB.out))); (case aF => exact (fun _ _ => trivial)); (case aO => exact (by (with_reducible repeat (first | apply Kd.R_alloc | apply Kd.R_drewN | apply Kd.R_drew)); exact HO_5.out)); (case aS => exact (below_size (by repeat (first | (with_reducible first | exact HB.out | apply below_alloc | apply pw_below_drewN | apply below_drew1 | refine below_set ?_ GE414.out) | exact HB.out)))); (case aL => have := LMc10.out; omega); intro v420 w19 ho hb hg hat; rw [← Ny419.out] at ho; have n0_ := Aside0.mk (blk_grown (g := gb414) (o := .cells #[.int .i64 a1_0, .int .i64 a1_1, .int .i64 a1_2, .bool a1_3, .string a1_4, .int .i64 a1_5] 60 (0, 0)) (by (with_reducible repeat (first | refine blk_drewN ?_ _ | refine blk_drew ?_ | refine blk_alloc ?_ _)); exact BK414.out) hg (Kd.R_ne HO_5.out BK414.out (by decide))); have n1_ := Aside0.mk (hb); have n2_ := Aside0.mk (ho); clear BK414; clear HB; clear HO_5; have BK414 := n0_; have HB := n1_; have HO421 := n2_; clear n0_ n1_ n2_; clear ho hb hg hat; have p422 : 0 ≤ (x7_1 : Int) := of_decide_eq_true (by first | (with_reducible assumption) | assumption); have q422 : x7_1 < (l0.length : Int) := of_decide_eq_true (by first | (with_reducible assumption) | assumption); obtain ⟨ad422, e422, hx422_0, hx422_1, hx422_2, hx422_3, hx422_4, hx422_5, hx422_6, hx422_7⟩ := at_T111 HR0.out x7_1 p422 q422; cases e422; replace hx422_0 := (HB.out.cell (World.block_lt_of_cell? w _ hx422_0)).trans hx422_0; replace hx422_1 := (HB.out.cell (World.block_lt_of_cell? w _ hx422_1)).trans hx422_1; replace hx422_2 := (HB.out.cell (World.block_lt_of_cell? w _ hx422_2)).trans hx422_2; replace hx422_3 := (HB.out.cell (World.block_lt_of_cell? w _ hx422_3)).trans hx422_3; replace hx422_4 := (HB.out.cell (World.block_lt_of_cell? w _ hx422_4)).trans hx422_4; replace hx422_5 := (HB.out.cell (World.block_lt_of_cell? w _ hx422_5)).trans hx422_5; replace hx422_6 := (HB.out.cell (World.block_lt_of_cell? w _ hx422_6)).trans hx422_6; replace hx422_7 := (HB.out.cell (World.block_lt_of_cell? w _ hx422_7)).trans hx422_7; replace p422 := eq_true p422; replace q422 := eq_true q422; have hcz20_0 : w19.cell? ⟨gb414, 0, none⟩ = some (.int .i64 a1_0) := (blk_cell BK414.out 0).trans rfl; have hcz20_1 : w19.cell? ⟨gb414, 1, none⟩ = some (.int .i64 a1_1) := (blk_cell BK414.out 1).trans rfl; have hcz20_2 : w19.cell? ⟨gb414, 2, none⟩ = some (.int .i64 a1_2) := (blk_cell BK414.out 2).trans rfl; have hcz20_3 : w19.cell? ⟨gb414, 3, none⟩ = some (.bool a1_3) := (blk_cell BK414.out 3).trans rfl; have hcz20_4 : w19.cell? ⟨gb414, 4, none⟩ = some (.string a1_4) := (blk_cell BK414.out 4).trans rfl; have hcz20_5 : w19.cell? ⟨gb414, 5, none⟩ = some (.int .i64 a1_5) := (blk_cell BK414.out 5).trans rfl; have hfz20_0 := blk_frozen BK414.out 0; have hfz20_1 := blk_frozen BK414.out 1; have hfz20_2 := blk_frozen BK414.out 2; have hfz20_3 := blk_frozen BK414.out 3; have hfz20_4 := blk_frozen BK414.out 4; have hfz20_5 := blk_frozen BK414.out 5; have p423 : 0 ≤ (x7_1 : Int) := of_decide_eq_true (by first | (with_reducible assumption) | assumption); have q423 : x7_1 < (l0.length : Int) := of_decide_eq_true (by first | (with_reducible assumption) | assumption); obtain ⟨ad423, e423, hx423_0, hx423_1, hx423_2, hx423_3, hx423_4, hx423_5, hx423_6, hx423_7⟩ := at_T111 HR0.out x7_1 p423 q423; obtain rfl : ad422 = ad423 := (by injection e423); replace hx423_0 := (HB.out.cell (World.block_lt_of_cell? w _ hx423_0)).trans hx423_0; replace hx423_1 := (HB.out.cell (World.block_lt_of_cell? w _ hx423_1)).trans hx423_1; replace hx423_2 := (HB.out.cell (World.block_lt_of_cell? w _ hx423_2)).trans hx423_2; replace hx423_3 := (HB.out.cell (World.block_lt_of_cell? w _ hx423_3)).trans hx423_3; replace hx423_4 := (HB.out.cell (World.block_lt_of_cell? w _ hx423_4)).trans hx423_4; replace hx423_5 := (HB.out.cell (World.block_lt_of_cell? w _ hx423_5)).trans hx423_5; replace hx423_6 := (HB.out.cell (World.block_lt_of_cell? w _ hx423_6)).trans hx423_6; replace hx423_7 := (HB.out.cell (World.block_lt_of_cell? w _ hx423_7)).trans hx423_7; replace p423 := eq_true p423; replace q423 := eq_true q423) | ((with_reducible refine gate_builtin (b := .append) (xs := #[.tmp 43, .tmp 48]) rfl ?_); at_builtin; refine Kd.R_append k111 (w0 := w) w.heap.size rfl (.tmp 43) (.tmp 48) 57 111 (.agg #[(.int .i64 0), (.int .i64 0), (.int .i64 0), (.int .i64 0), (.int .i64 0), (.bool false), (.string ⟨#[]⟩), (.int .i64 0)]) 72 rfl Try.underlying57 info111 rfl (by decide) (by omega) v420 y419 (⟨(rd_T111 l0 x7_1).f0, (rd_T111 l0 x7_1).f1, (⟨(rd_T111 l0 x7_1).f2.f0, (rd_T111 l0 x7_1).f2.f1, (rd_T111 l0 x7_1).f2.f2, (rd_T111 l0 x7_1).f2.f3, (rd_T111 l0 x7_1).f2.f4, (rd_T111 l0 x7_1).f2.f5⟩ : S60)⟩ : S111) [.int .i64 ((rd_T111 l0 x7_1).f0), .int .i64 ((rd_T111 l0 x7_1).f1), .int .i64 ((rd_T111 l0 x7_1).f2.f0), .int .i64 ((rd_T111 l0 x7_1).f2.f1), .int .i64 ((rd_T111 l0 x7_1).f2.f2), .bool ((rd_T111 l0 x7_1).f2.f3), .string ((rd_T111 l0 x7_1).f2.f4), .int .i64 ((rd_T111 l0 x7_1).f2.f5)] (fun _ => True) (fun _ => False) rfl rfl ?aP (fun _ hk => hk.elim) ?aF ?aO ?aB ?aS ?aL ?_; (case aP => exact k111_mkM _ _ _ (⟨(rd_T111 l0 x7_1).f0, (rd_T111 l0 x7_1).f1, (⟨(rd_T111 l0 x7_1).f2.f0, (rd_T111 l0 x7_1).f2.f1, (rd_T111 l0 x7_1).f2.f2, (rd_T111 l0 x7_1).f2.f3, (rd_T111 l0 x7_1).f2.f4, (rd_T111 l0 x7_1).f2.f5⟩ : S60)⟩ : S111)); (case aB => exact (by repeat (first | (with_reducible first | exact HB.out | apply below_alloc | apply pw_below_drewN | apply below_drew1 | refine below_set ?_ GE414.out) | exact HB.out))); (case aF => exact (fun _ _ => trivial)); (case aO => exact (by (with_reducible repeat (first | apply Kd.R_alloc | apply Kd.R_drewN | apply Kd.R_drew)); exact HO421.out)); (case aS => exact (below_size (by repeat (first | (with_reducible first | exact HB.out | apply below_alloc | apply pw_below_drewN | apply below_drew1 | refine below_set ?_ GE414.out) | exact HB.out)))); (case aL => have := LMc17.out; omega); intro v425 w21 ho hb hg hat; rw [← Ny424.out] at ho; have n0_ := Aside0.mk (blk_grown (g := gb414) (o := .cells #[.int .i64 a1_0, .int .i64 a1_1, .int .i64 a1_2, .bool a1_3, .string a1_4, .int .i64 a1_5] 60 (0, 0)) (by (with_reducible repeat (first | refine blk_drewN ?_ _ | refine blk_drew ?_ | refine blk_alloc ?_ _)); exact BK414.out) hg (Kd.R_ne HO421.out BK414.out (by decide))); have n1_ := Aside0.mk (hb); have n2_ := Aside0.mk (ho); clear BK414; clear HB; clear HO421; have BK414 := n0_; have HB := n1_; have HO426 := n2_; clear n0_ n1_ n2_; clear ho hb hg hat)); try go_wp2_with (first | ((with_reducible refine gate_builtin (b := .append) (xs := #[.tmp 26, .tmp 33]) rfl ?_); at_builtin; refine Kd.R_append k111 (w0 := w) w.heap.size rfl (.tmp 26) (.tmp 33) 57 111 (.agg #[(.int .i64 0), (.int .i64 0), (.int .i64 0), (.int .i64 0), (.int .i64 0), (.bool false), (.string ⟨#[]⟩), (.int .i64 0)]) 72 rfl Try.underlying57 info111 rfl (by decide) (by omega) u5 x5_1 (⟨a1_0, a1_1, (⟨a1_0, a1_1, a1_2, a1_3, a1_4, a1_5⟩ : S60)⟩ : S111) [.int .i64 a1_0, .int .i64 a1_1, .int .i64 a1_0, .int .i64 a1_1, .int .i64 a1_2, .bool a1_3, .string a1_4, .int .i64 a1_5] (fun _ => True) (fun _ => False) rfl rfl ?aP (fun _ hk => hk.elim) ?aF ?aO ?aB ?aS ?aL ?_; (case aP => exact k111_mkM _ _ _ (⟨a1_0, a1_1, (⟨a1_0, a1_1, a1_2, a1_3, a1_4, a1_5⟩ : S60)⟩ : S111)); (case aB => exact (by repeat (first | (with_reducible first | exact HB.out | apply below_alloc | apply pw_below_drewN | apply below_drew1 | refine below_set ?_ GE414.out) | exact HB.out))); (case aF => exact (fun _ _ => trivial)); (case aO => exact (by (with_reducible repeat (first | apply Kd.R_alloc | apply Kd.R_drewN | apply Kd.R_drew)); exact HO_5.out)); (case aS => exact (below_size (by repeat (first | (with_reducible first | exact HB.out | apply below_alloc | apply pw_below_drewN | apply below_drew1 | refine below_set ?_ GE414.out) | exact HB.out)))); (case aL => have := LMc10.out; omega); intro v420 w19 ho hb hg hat; rw [← Ny419.out] at ho; have n0_ := Aside0.mk (blk_grown (g := gb414) (o := .cells #[.int .i64 a1_0, .int .i64 a1_1, .int .i64 a1_2, .bool a1_3, .string a1_4, .int .i64 a1_5] 60 (0, 0)) (by (with_reducible repeat (first | refine blk_drewN ?_ _ | refine blk_drew ?_ | refine blk_alloc ?_ _)); exact BK414.out) hg (Kd.R_ne HO_5.out BK414.out (by decide))); have n1_ := Aside0.mk (hb); have n2_ := Aside0.mk (ho); clear BK414; clear HB; clear HO_5; have BK414 := n0_; have HB := n1_; have HO421 := n2_; clear n0_ n1_ n2_; clear ho hb hg hat; have p422 : 0 ≤ (x7_1 : Int) := of_decide_eq_true (by first | (with_reducible assumption) | assumption); have q422 : x7_1 < (l0.length : Int) := of_decide_eq_true (by first | (with_reducible assumption) | assumption); obtain ⟨ad422, e422, hx422_0, hx422_1, hx422_2, hx422_3, hx422_4, hx422_5, hx422_6, hx422_7⟩ := at_T111 HR0.out x7_1 p422 q422; cases e422; replace hx422_0 := (HB.out.cell (World.block_lt_of_cell? w _ hx422_0)).trans hx422_0; replace hx422_1 := (HB.out.cell (World.block_lt_of_cell? w _ hx422_1)).trans hx422_1; replace hx422_2 := (HB.out.cell (World.block_lt_of_cell? w _ hx422_2)).trans hx422_2; replace hx422_3 := (HB.out.cell (World.block_lt_of_cell? w _ hx422_3)).trans hx422_3; replace hx422_4 := (HB.out.cell (World.block_lt_of_cell? w _ hx422_4)).trans hx422_4; replace hx422_5 := (HB.out.cell (World.block_lt_of_cell? w _ hx422_5)).trans hx422_5; replace hx422_6 := (HB.out.cell (World.block_lt_of_cell? w _ hx422_6)).trans hx422_6; replace hx422_7 := (HB.out.cell (World.block_lt_of_cell? w _ hx422_7)).trans hx422_7; replace p422 := eq_true p422; replace q422 := eq_true q422; have hcz20_0 : w19.cell? ⟨gb414, 0, none⟩ = some (.int .i64 a1_0) := (blk_cell BK414.out 0).trans rfl; have hcz20_1 : w19.cell? ⟨gb414, 1, none⟩ = some (.int .i64 a1_1) := (blk_cell BK414.out 1).trans rfl; have hcz20_2 : w19.cell? ⟨gb414, 2, none⟩ = some (.int .i64 a1_2) := (blk_cell BK414.out 2).trans rfl; have hcz20_3 : w19.cell? ⟨gb414, 3, none⟩ = some (.bool a1_3) := (blk_cell BK414.out 3).trans rfl; have hcz20_4 : w19.cell? ⟨gb414, 4, none⟩ = some (.string a1_4) := (blk_cell BK414.out 4).trans rfl; have hcz20_5 : w19.cell? ⟨gb414, 5, none⟩ = some (.int .i64 a1_5) := (blk_cell BK414.out 5).trans rfl; have hfz20_0 := blk_frozen BK414.out 0; have hfz20_1 := blk_frozen BK414.out 1; have hfz20_2 := blk_frozen BK414.out 2; have hfz20_3 := blk_frozen BK414.out 3; have hfz20_4 := blk_frozen BK414.out 4; have hfz20_5 := blk_frozen BK414.out 5; have p423 : 0 ≤ (x7_1 : Int) := of_decide_eq_true (by first | (with_reducible assumption) | assumption); have q423 : x7_1 < (l0.length : Int) := of_decide_eq_true (by first | (with_reducible assumption) | assumption); obtain ⟨ad423, e423, hx423_0, hx423_1, hx423_2, hx423_3, hx423_4, hx423_5, hx423_6, hx423_7⟩ := at_T111 HR0.out x7_1 p423 q423; obtain rfl : ad422 = ad423 := (by injection e423); replace hx423_0 := (HB.out.cell (World.block_lt_of_cell? w _ hx423_0)).trans hx423_0; replace hx423_1 := (HB.out.cell (World.block_lt_of_cell? w _ hx423_1)).trans hx423_1; replace hx423_2 := (HB.out.cell (World.block_lt_of_cell? w _ hx423_2)).trans hx423_2; replace hx423_3 := (HB.out.cell (World.block_lt_of_cell? w _ hx423_3)).trans hx423_3; replace hx423_4 := (HB.out.cell (World.block_lt_of_cell? w _ hx423_4)).trans hx423_4; replace hx423_5 := (HB.out.cell (World.block_lt_of_cell? w _ hx423_5)).trans hx423_5; replace hx423_6 := (HB.out.cell (World.block_lt_of_cell? w _ hx423_6)).trans hx423_6; replace hx423_7 := (HB.out.cell (World.block_lt_of_cell? w _ hx423_7)).trans hx423_7; replace p423 := eq_true p423; replace q423 := eq_true q423) | ((with_reducible refine gate_builtin (b := .append) (xs := #[.tmp 43, .tmp 48]) rfl ?_); at_builtin; refine Kd.R_append k111 (w0 := w) w.heap.size rfl (.tmp 43) (.tmp 48) 57 111 (.agg #[(.int .i64 0), (.int .i64 0), (.int .i64 0), (.int .i64 0), (.int .i64 0), (.bool false), (.string ⟨#[]⟩), (.int .i64 0)]) 72 rfl Try.underlying57 info111 rfl (by decide) (by omega) v420 y419 (⟨(rd_T111 l0 x7_1).f0, (rd_T111 l0 x7_1).f1, (⟨(rd_T111 l0 x7_1).f2.f0, (rd_T111 l0 x7_1).f2.f1, (rd_T111 l0 x7_1).f2.f2, (rd_T111 l0 x7_1).f2.f3, (rd_T111 l0 x7_1).f2.f4, (rd_T111 l0 x7_1).f2.f5⟩ : S60)⟩ : S111) [.int .i64 ((rd_T111 l0 x7_1).f0), .int .i64 ((rd_T111 l0 x7_1).f1), .int .i64 ((rd_T111 l0 x7_1).f2.f0), .int .i64 ((rd_T111 l0 x7_1).f2.f1), .int .i64 ((rd_T111 l0 x7_1).f2.f2), .bool ((rd_T111 l0 x7_1).f2.f3), .string ((rd_T111 l0 x7_1).f2.f4), .int .i64 ((rd_T111 l0 x7_1).f2.f5)] (fun _ => True) (fun _ => False) rfl rfl ?aP (fun _ hk => hk.elim) ?aF ?aO ?aB ?aS ?aL ?_; (case aP => exact k111_mkM _ _ _ (⟨(rd_T111 l0 x7_1).f0, (rd_T111 l0 x7_1).f1, (⟨(rd_T111 l0 x7_1).f2.f0, (rd_T111 l0 x7_1).f2.f1, (rd_T111 l0 x7_1).f2.f2, (rd_T111 l0 x7_1).f2.f3, (rd_T111 l0 x7_1).f2.f4, (rd_T111 l0 x7_1).f2.f5⟩ : S60)⟩ : S111)); (case aB => exact (by repeat (first | (with_reducible first | exact HB.out | apply below_alloc | apply pw_below_drewN | apply below_drew1 | refine below_set ?_ GE414.out) | exact HB.out))); (case aF => exact (fun _ _ => trivial)); (case aO => exact (by (with_reducible repeat (first | apply Kd.R_alloc | apply Kd.R_drewN | apply Kd.R_drew)); exact HO421.out)); (case aS => exact (below_size (by repeat (first | (with_reducible first | exact HB.out | apply below_alloc | apply pw_below_drewN | apply below_drew1 | refine below_set ?_ GE414.out) | exact HB.out)))); (case aL => have := LMc17.out; omega); intro v425 w21 ho hb hg hat; rw [← Ny424.out] at ho; have n0_ := Aside0.mk (blk_grown (g := gb414) (o := .cells #[.int .i64 a1_0, .int .i64 a1_1, .int .i64 a1_2, .bool a1_3, .string a1_4, .int .i64 a1_5] 60 (0, 0)) (by (with_reducible repeat (first | refine blk_drewN ?_ _ | refine blk_drew ?_ | refine blk_alloc ?_ _)); exact BK414.out) hg (Kd.R_ne HO421.out BK414.out (by decide))); have n1_ := Aside0.mk (hb); have n2_ := Aside0.mk (ho); clear BK414; clear HB; clear HO421; have BK414 := n0_; have HB := n1_; have HO426 := n2_; clear n0_ n1_ n2_; clear ho hb hg hat)))
                        go_roundg kj4
                        case measure => have := HK1.out; have := HJ4.out; omega
                        case rel => exact ⟨(y424), (true), (wrap64 (x7_1 + 1)), (by first | rfl | (simp; done) | (simp [*]; done)), (by first | rfl | (simp; done) | (simp [*]; done)), H', ⟨by have := HK1.out; have := HJ4.out; omega⟩, ⟨by (with_reducible repeat (first | apply Kd.R_alloc | apply Kd.R_drewN | apply Kd.R_drew)); exact HO426.out⟩, ⟨by (with_reducible repeat (first | refine blk_drewN ?_ _ | refine blk_drew ?_ | refine blk_alloc ?_ _)); exact BK414.out⟩, ⟨by repeat (first | (with_reducible first | exact HB.out | apply below_alloc | apply pw_below_drewN | apply below_drew1 | refine below_set ?_ GE414.out) | exact HB.out)⟩⟩
                      · rw [if_neg c17] at H
                        exact absurd H (by simp)
                  · rw [if_neg c12] at H
                    exact absurd H (by simp)
                · rw [if_neg c11] at H
                  exact absurd H (by simp)
              · rw [if_neg c10] at H
                exact absurd H (by simp)
            · replace c9 := Bool.eq_false_iff.mpr c9
              subst c9
              have H1 : (if 0 ≤ x7_1 then (if x7_1 < (l0.length : Int) then (if ((rd_T111 l0 x7_1).f0) = a1_0 then (changeoverref22_With.l0 kj4 l0 x5_1 x6_1 (wrap64 (x7_1 + 1)) a1_0 a1_1 a1_2 a1_3 a1_4 a1_5) else (if x5_1.length < 1954687338268 then (changeoverref22_With.l0 kj4 l0 (x5_1 ++ [(⟨(rd_T111 l0 x7_1).f0, (rd_T111 l0 x7_1).f1, (⟨(rd_T111 l0 x7_1).f2.f0, (rd_T111 l0 x7_1).f2.f1, (rd_T111 l0 x7_1).f2.f2, (rd_T111 l0 x7_1).f2.f3, (rd_T111 l0 x7_1).f2.f4, (rd_T111 l0 x7_1).f2.f5⟩ : S60)⟩ : S111)]) x6_1 (wrap64 (x7_1 + 1)) a1_0 a1_1 a1_2 a1_3 a1_4 a1_5) else (none))) else (none)) else (none)) = some r := by rw [if_neg (show ¬ (false = true) by decide)] at H; exact H
              clear H
              have H := H1
              clear H1
              by_cases c22 : 0 ≤ x7_1
              · rw [if_pos c22] at H
                have c22b0 : decide (0 ≤ x7_1) = true := decide_eq_true c22
                clear c22
                by_cases c23 : x7_1 < (l0.length : Int)
                · rw [if_pos c23] at H
                  have c23b0 : decide (x7_1 < (l0.length : Int)) = true := decide_eq_true c23
                  clear c23
                  by_cases c24 : ((rd_T111 l0 x7_1).f0) = a1_0
                  · rw [if_pos c24] at H
                    have c24b0 : (((rd_T111 l0 x7_1).f0) == a1_0) = true := beq_iff_eq.mpr c24
                    have c24b1 : (((rd_T111 l0 x7_1).f0) != a1_0) = false := bne_eq_false_iff_eq.mpr c24
                    clear c24
                    have H' := Aside0.mk H
                    clear H
                    have p427 : 0 ≤ (x7_1 : Int) := of_decide_eq_true (by first | (with_reducible assumption) | assumption)
                    have q427 : x7_1 < (l0.length : Int) := of_decide_eq_true (by first | (with_reducible assumption) | assumption)
                    obtain ⟨ad427, e427, hx427_0, hx427_1, hx427_2, hx427_3, hx427_4, hx427_5, hx427_6, hx427_7⟩ := at_T111 HR0.out x7_1 p427 q427
                    cases e427
                    replace hx427_0 := (HB.out.cell (World.block_lt_of_cell? w _ hx427_0)).trans hx427_0
                    replace hx427_1 := (HB.out.cell (World.block_lt_of_cell? w _ hx427_1)).trans hx427_1
                    replace hx427_2 := (HB.out.cell (World.block_lt_of_cell? w _ hx427_2)).trans hx427_2
                    replace hx427_3 := (HB.out.cell (World.block_lt_of_cell? w _ hx427_3)).trans hx427_3
                    replace hx427_4 := (HB.out.cell (World.block_lt_of_cell? w _ hx427_4)).trans hx427_4
                    replace hx427_5 := (HB.out.cell (World.block_lt_of_cell? w _ hx427_5)).trans hx427_5
                    replace hx427_6 := (HB.out.cell (World.block_lt_of_cell? w _ hx427_6)).trans hx427_6
                    replace hx427_7 := (HB.out.cell (World.block_lt_of_cell? w _ hx427_7)).trans hx427_7
                    replace p427 := eq_true p427
                    replace q427 := eq_true q427
                    have hcz25_0 : wc.cell? ⟨gb414, 0, none⟩ = some (.int .i64 a1_0) := (blk_cell BK414.out 0).trans rfl
                    have hcz25_1 : wc.cell? ⟨gb414, 1, none⟩ = some (.int .i64 a1_1) := (blk_cell BK414.out 1).trans rfl
                    have hcz25_2 : wc.cell? ⟨gb414, 2, none⟩ = some (.int .i64 a1_2) := (blk_cell BK414.out 2).trans rfl
                    have hcz25_3 : wc.cell? ⟨gb414, 3, none⟩ = some (.bool a1_3) := (blk_cell BK414.out 3).trans rfl
                    have hcz25_4 : wc.cell? ⟨gb414, 4, none⟩ = some (.string a1_4) := (blk_cell BK414.out 4).trans rfl
                    have hcz25_5 : wc.cell? ⟨gb414, 5, none⟩ = some (.int .i64 a1_5) := (blk_cell BK414.out 5).trans rfl
                    have hfz25_0 := blk_frozen BK414.out 0
                    have hfz25_1 := blk_frozen BK414.out 1
                    have hfz25_2 := blk_frozen BK414.out 2
                    have hfz25_3 := blk_frozen BK414.out 3
                    have hfz25_4 := blk_frozen BK414.out 4
                    have hfz25_5 := blk_frozen BK414.out 5
                    go_wp2
                    repeat (go_quiet (fail); try go_wp2)
                    go_roundg kj4
                    case measure => have := HK1.out; have := HJ4.out; omega
                    case rel => exact ⟨(x5_1), (x6_1), (wrap64 (x7_1 + 1)), (by first | rfl | (simp; done) | (simp [*]; done)), (by first | rfl | (simp; done) | (simp [*]; done)), H', ⟨by have := HK1.out; have := HJ4.out; omega⟩, ⟨by (with_reducible repeat (first | apply Kd.R_alloc | apply Kd.R_drewN | apply Kd.R_drew)); exact HO_5.out⟩, ⟨by (with_reducible repeat (first | refine blk_drewN ?_ _ | refine blk_drew ?_ | refine blk_alloc ?_ _)); exact BK414.out⟩, ⟨by repeat (first | (with_reducible first | exact HB.out | apply below_alloc | apply pw_below_drewN | apply below_drew1 | refine below_set ?_ GE414.out) | exact HB.out)⟩⟩
                  · rw [if_neg c24] at H
                    have c24b0 : (((rd_T111 l0 x7_1).f0) == a1_0) = false := beq_eq_false_iff_ne.mpr c24
                    have c24b1 : (((rd_T111 l0 x7_1).f0) != a1_0) = true := bne_iff_ne.mpr c24
                    by_cases c26 : x5_1.length < 1954687338268
                    · rw [if_pos c26] at H
                      have LMc26 := Aside0.mk c26
                      clear c26
                      obtain ⟨y429, hy429⟩ : ∃ y_ : List (S111), y_ = (x5_1 ++ [(⟨(rd_T111 l0 x7_1).f0, (rd_T111 l0 x7_1).f1, (⟨(rd_T111 l0 x7_1).f2.f0, (rd_T111 l0 x7_1).f2.f1, (rd_T111 l0 x7_1).f2.f2, (rd_T111 l0 x7_1).f2.f3, (rd_T111 l0 x7_1).f2.f4, (rd_T111 l0 x7_1).f2.f5⟩ : S60)⟩ : S111)]) := ⟨_, rfl⟩
                      replace H : (changeoverref22_With.l0 kj4 l0 y429 x6_1 (wrap64 (x7_1 + 1)) a1_0 a1_1 a1_2 a1_3 a1_4 a1_5) = some r := by first | (rw [hy429]; with_reducible exact H) | (have H2_ := (Option.bind_some _ _).symm.trans H; rw [hy429]; with_reducible exact H2_) | (have H2_ := (Option.bind_some _ _).symm.trans H; with_reducible exact H2_) | with_reducible exact H | (rw [hy429]; exact H) | exact H
                      have Ny429 := Aside0.mk hy429
                      clear hy429
                      have H' := Aside0.mk H
                      clear H
                      have p427 : 0 ≤ (x7_1 : Int) := of_decide_eq_true (by first | (with_reducible assumption) | assumption)
                      have q427 : x7_1 < (l0.length : Int) := of_decide_eq_true (by first | (with_reducible assumption) | assumption)
                      obtain ⟨ad427, e427, hx427_0, hx427_1, hx427_2, hx427_3, hx427_4, hx427_5, hx427_6, hx427_7⟩ := at_T111 HR0.out x7_1 p427 q427
                      cases e427
                      replace hx427_0 := (HB.out.cell (World.block_lt_of_cell? w _ hx427_0)).trans hx427_0
                      replace hx427_1 := (HB.out.cell (World.block_lt_of_cell? w _ hx427_1)).trans hx427_1
                      replace hx427_2 := (HB.out.cell (World.block_lt_of_cell? w _ hx427_2)).trans hx427_2
                      replace hx427_3 := (HB.out.cell (World.block_lt_of_cell? w _ hx427_3)).trans hx427_3
                      replace hx427_4 := (HB.out.cell (World.block_lt_of_cell? w _ hx427_4)).trans hx427_4
                      replace hx427_5 := (HB.out.cell (World.block_lt_of_cell? w _ hx427_5)).trans hx427_5
                      replace hx427_6 := (HB.out.cell (World.block_lt_of_cell? w _ hx427_6)).trans hx427_6
                      replace hx427_7 := (HB.out.cell (World.block_lt_of_cell? w _ hx427_7)).trans hx427_7
                      replace p427 := eq_true p427
                      replace q427 := eq_true q427
                      have hcz27_0 : wc.cell? ⟨gb414, 0, none⟩ = some (.int .i64 a1_0) := (blk_cell BK414.out 0).trans rfl
                      have hcz27_1 : wc.cell? ⟨gb414, 1, none⟩ = some (.int .i64 a1_1) := (blk_cell BK414.out 1).trans rfl
                      have hcz27_2 : wc.cell? ⟨gb414, 2, none⟩ = some (.int .i64 a1_2) := (blk_cell BK414.out 2).trans rfl
                      have hcz27_3 : wc.cell? ⟨gb414, 3, none⟩ = some (.bool a1_3) := (blk_cell BK414.out 3).trans rfl
                      have hcz27_4 : wc.cell? ⟨gb414, 4, none⟩ = some (.string a1_4) := (blk_cell BK414.out 4).trans rfl
                      have hcz27_5 : wc.cell? ⟨gb414, 5, none⟩ = some (.int .i64 a1_5) := (blk_cell BK414.out 5).trans rfl
                      have hfz27_0 := blk_frozen BK414.out 0
                      have hfz27_1 := blk_frozen BK414.out 1
                      have hfz27_2 := blk_frozen BK414.out 2
                      have hfz27_3 := blk_frozen BK414.out 3
                      have hfz27_4 := blk_frozen BK414.out 4
                      have hfz27_5 := blk_frozen BK414.out 5
                      have p428 : 0 ≤ (x7_1 : Int) := of_decide_eq_true (by first | (with_reducible assumption) | assumption)
                      have q428 : x7_1 < (l0.length : Int) := of_decide_eq_true (by first | (with_reducible assumption) | assumption)
                      obtain ⟨ad428, e428, hx428_0, hx428_1, hx428_2, hx428_3, hx428_4, hx428_5, hx428_6, hx428_7⟩ := at_T111 HR0.out x7_1 p428 q428
                      obtain rfl : ad427 = ad428 := (by injection e428)
                      replace hx428_0 := (HB.out.cell (World.block_lt_of_cell? w _ hx428_0)).trans hx428_0
                      replace hx428_1 := (HB.out.cell (World.block_lt_of_cell? w _ hx428_1)).trans hx428_1
                      replace hx428_2 := (HB.out.cell (World.block_lt_of_cell? w _ hx428_2)).trans hx428_2
                      replace hx428_3 := (HB.out.cell (World.block_lt_of_cell? w _ hx428_3)).trans hx428_3
                      replace hx428_4 := (HB.out.cell (World.block_lt_of_cell? w _ hx428_4)).trans hx428_4
                      replace hx428_5 := (HB.out.cell (World.block_lt_of_cell? w _ hx428_5)).trans hx428_5
                      replace hx428_6 := (HB.out.cell (World.block_lt_of_cell? w _ hx428_6)).trans hx428_6
                      replace hx428_7 := (HB.out.cell (World.block_lt_of_cell? w _ hx428_7)).trans hx428_7
                      replace p428 := eq_true p428
                      replace q428 := eq_true q428
                      go_wp2_with (first | ((with_reducible refine gate_builtin (b := .append) (xs := #[.tmp 43, .tmp 48]) rfl ?_); at_builtin; refine Kd.R_append k111 (w0 := w) w.heap.size rfl (.tmp 43) (.tmp 48) 57 111 (.agg #[(.int .i64 0), (.int .i64 0), (.int .i64 0), (.int .i64 0), (.int .i64 0), (.bool false), (.string ⟨#[]⟩), (.int .i64 0)]) 72 rfl Try.underlying57 info111 rfl (by decide) (by omega) u5 x5_1 (⟨(rd_T111 l0 x7_1).f0, (rd_T111 l0 x7_1).f1, (⟨(rd_T111 l0 x7_1).f2.f0, (rd_T111 l0 x7_1).f2.f1, (rd_T111 l0 x7_1).f2.f2, (rd_T111 l0 x7_1).f2.f3, (rd_T111 l0 x7_1).f2.f4, (rd_T111 l0 x7_1).f2.f5⟩ : S60)⟩ : S111) [.int .i64 ((rd_T111 l0 x7_1).f0), .int .i64 ((rd_T111 l0 x7_1).f1), .int .i64 ((rd_T111 l0 x7_1).f2.f0), .int .i64 ((rd_T111 l0 x7_1).f2.f1), .int .i64 ((rd_T111 l0 x7_1).f2.f2), .bool ((rd_T111 l0 x7_1).f2.f3), .string ((rd_T111 l0 x7_1).f2.f4), .int .i64 ((rd_T111 l0 x7_1).f2.f5)] (fun _ => True) (fun _ => False) rfl rfl ?aP (fun _ hk => hk.elim) ?aF ?aO ?aB ?aS ?aL ?_; (case aP => exact k111_mkM _ _ _ (⟨(rd_T111 l0 x7_1).f0, (rd_T111 l0 x7_1).f1, (⟨(rd_T111 l0 x7_1).f2.f0, (rd_T111 l0 x7_1).f2.f1, (rd_T111 l0 x7_1).f2.f2, (rd_T111 l0 x7_1).f2.f3, (rd_T111 l0 x7_1).f2.f4, (rd_T111 l0 x7_1).f2.f5⟩ : S60)⟩ : S111)); (case aB => exact (by repeat (first | (with_reducible first | exact HB.out | apply below_alloc | apply pw_below_drewN | apply below_drew1 | refine below_set ?_ GE414.out) | exact HB.out))); (case aF => exact (fun _ _ => trivial)); (case aO => exact (by (with_reducible repeat (first | apply Kd.R_alloc | apply Kd.R_drewN | apply Kd.R_drew)); exact HO_5.out)); (case aS => exact (below_size (by repeat (first | (with_reducible first | exact HB.out | apply below_alloc | apply pw_below_drewN | apply below_drew1 | refine below_set ?_ GE414.out) | exact HB.out)))); (case aL => have := LMc26.out; omega); intro v430 w28 ho hb hg hat; rw [← Ny429.out] at ho; have n0_ := Aside0.mk (blk_grown (g := gb414) (o := .cells #[.int .i64 a1_0, .int .i64 a1_1, .int .i64 a1_2, .bool a1_3, .string a1_4, .int .i64 a1_5] 60 (0, 0)) (by (with_reducible repeat (first | refine blk_drewN ?_ _ | refine blk_drew ?_ | refine blk_alloc ?_ _)); exact BK414.out) hg (Kd.R_ne HO_5.out BK414.out (by decide))); have n1_ := Aside0.mk (hb); have n2_ := Aside0.mk (ho); clear BK414; clear HB; clear HO_5; have BK414 := n0_; have HB := n1_; have HO431 := n2_; clear n0_ n1_ n2_; clear ho hb hg hat))
                      repeat (go_quiet (first | ((with_reducible refine gate_builtin (b := .append) (xs := #[.tmp 43, .tmp 48]) rfl ?_); at_builtin; refine Kd.R_append k111 (w0 := w) w.heap.size rfl (.tmp 43) (.tmp 48) 57 111 (.agg #[(.int .i64 0), (.int .i64 0), (.int .i64 0), (.int .i64 0), (.int .i64 0), (.bool false), (.string ⟨#[]⟩), (.int .i64 0)]) 72 rfl Try.underlying57 info111 rfl (by decide) (by omega) u5 x5_1 (⟨(rd_T111 l0 x7_1).f0, (rd_T111 l0 x7_1).f1, (⟨(rd_T111 l0 x7_1).f2.f0, (rd_T111 l0 x7_1).f2.f1, (rd_T111 l0 x7_1).f2.f2, (rd_T111 l0 x7_1).f2.f3, (rd_T111 l0 x7_1).f2.f4, (rd_T111 l0 x7_1).f2.f5⟩ : S60)⟩ : S111) [.int .i64 ((rd_T111 l0 x7_1).f0), .int .i64 ((rd_T111 l0 x7_1).f1), .int .i64 ((rd_T111 l0 x7_1).f2.f0), .int .i64 ((rd_T111 l0 x7_1).f2.f1), .int .i64 ((rd_T111 l0 x7_1).f2.f2), .bool ((rd_T111 l0 x7_1).f2.f3), .string ((rd_T111 l0 x7_1).f2.f4), .int .i64 ((rd_T111 l0 x7_1).f2.f5)] (fun _ => True) (fun _ => False) rfl rfl ?aP (fun _ hk => hk.elim) ?aF ?aO ?aB ?aS ?aL ?_; (case aP => exact k111_mkM _ _ _ (⟨(rd_T111 l0 x7_1).f0, (rd_T111 l0 x7_1).f1, (⟨(rd_T111 l0 x7_1).f2.f0, (rd_T111 l0 x7_1).f2.f1, (rd_T111 l0 x7_1).f2.f2, (rd_T111 l0 x7_1).f2.f3, (rd_T111 l0 x7_1).f2.f4, (rd_T111 l0 x7_1).f2.f5⟩ : S60)⟩ : S111)); (case aB => exact (by repeat (first | (with_reducible first | exact HB.out | apply below_alloc | apply pw_below_drewN | apply below_drew1 | refine below_set ?_ GE414.out) | exact HB.out))); (case aF => exact (fun _ _ => trivial)); (case aO => exact (by (with_reducible repeat (first | apply Kd.R_alloc | apply Kd.R_drewN | apply Kd.R_drew)); exact HO_5.out)); (case aS => exact (below_size (by repeat (first | (with_reducible first | exact HB.out | apply below_alloc | apply pw_below_drewN | apply below_drew1 | refine below_set ?_ GE414.out) | exact HB.out)))); (case aL => have := LMc26.out; omega); intro v430 w28 ho hb hg hat; rw [← Ny429.out] at ho; have n0_ := Aside0.mk (blk_grown (g := gb414) (o := .cells #[.int .i64 a1_0, .int .i64 a1_1, .int .i64 a1_2, .bool a1_3, .string a1_4, .int .i64 a1_5] 60 (0, 0)) (by (with_reducible repeat (first | refine blk_drewN ?_ _ | refine blk_drew ?_ | refine blk_alloc ?_ _)); exact BK414.out) hg (Kd.R_ne HO_5.out BK414.out (by decide))); have n1_ := Aside0.mk (hb); have n2_ := Aside0.mk (ho); clear BK414; clear HB; clear HO_5; have BK414 := n0_; have HB := n1_; have HO431 := n2_; clear n0_ n1_ n2_; clear ho hb hg hat)); try go_wp2_with (first | ((with_reducible refine gate_builtin (b := .append) (xs := #[.tmp 43, .tmp 48]) rfl ?_); at_builtin; refine Kd.R_append k111 (w0 := w) w.heap.size rfl (.tmp 43) (.tmp 48) 57 111 (.agg #[(.int .i64 0), (.int .i64 0), (.int .i64 0), (.int .i64 0), (.int .i64 0), (.bool false), (.string ⟨#[]⟩), (.int .i64 0)]) 72 rfl Try.underlying57 info111 rfl (by decide) (by omega) u5 x5_1 (⟨(rd_T111 l0 x7_1).f0, (rd_T111 l0 x7_1).f1, (⟨(rd_T111 l0 x7_1).f2.f0, (rd_T111 l0 x7_1).f2.f1, (rd_T111 l0 x7_1).f2.f2, (rd_T111 l0 x7_1).f2.f3, (rd_T111 l0 x7_1).f2.f4, (rd_T111 l0 x7_1).f2.f5⟩ : S60)⟩ : S111) [.int .i64 ((rd_T111 l0 x7_1).f0), .int .i64 ((rd_T111 l0 x7_1).f1), .int .i64 ((rd_T111 l0 x7_1).f2.f0), .int .i64 ((rd_T111 l0 x7_1).f2.f1), .int .i64 ((rd_T111 l0 x7_1).f2.f2), .bool ((rd_T111 l0 x7_1).f2.f3), .string ((rd_T111 l0 x7_1).f2.f4), .int .i64 ((rd_T111 l0 x7_1).f2.f5)] (fun _ => True) (fun _ => False) rfl rfl ?aP (fun _ hk => hk.elim) ?aF ?aO ?aB ?aS ?aL ?_; (case aP => exact k111_mkM _ _ _ (⟨(rd_T111 l0 x7_1).f0, (rd_T111 l0 x7_1).f1, (⟨(rd_T111 l0 x7_1).f2.f0, (rd_T111 l0 x7_1).f2.f1, (rd_T111 l0 x7_1).f2.f2, (rd_T111 l0 x7_1).f2.f3, (rd_T111 l0 x7_1).f2.f4, (rd_T111 l0 x7_1).f2.f5⟩ : S60)⟩ : S111)); (case aB => exact (by repeat (first | (with_reducible first | exact HB.out | apply below_alloc | apply pw_below_drewN | apply below_drew1 | refine below_set ?_ GE414.out) | exact HB.out))); (case aF => exact (fun _ _ => trivial)); (case aO => exact (by (with_reducible repeat (first | apply Kd.R_alloc | apply Kd.R_drewN | apply Kd.R_drew)); exact HO_5.out)); (case aS => exact (below_size (by repeat (first | (with_reducible first | exact HB.out | apply below_alloc | apply pw_below_drewN | apply below_drew1 | refine below_set ?_ GE414.out) | exact HB.out)))); (case aL => have := LMc26.out; omega); intro v430 w28 ho hb hg hat; rw [← Ny429.out] at ho; have n0_ := Aside0.mk (blk_grown (g := gb414) (o := .cells #[.int .i64 a1_0, .int .i64 a1_1, .int .i64 a1_2, .bool a1_3, .string a1_4, .int .i64 a1_5] 60 (0, 0)) (by (with_reducible repeat (first | refine blk_drewN ?_ _ | refine blk_drew ?_ | refine blk_alloc ?_ _)); exact BK414.out) hg (Kd.R_ne HO_5.out BK414.out (by decide))); have n1_ := Aside0.mk (hb); have n2_ := Aside0.mk (ho); clear BK414; clear HB; clear HO_5; have BK414 := n0_; have HB := n1_; have HO431 := n2_; clear n0_ n1_ n2_; clear ho hb hg hat)))
                      go_roundg kj4
                      case measure => have := HK1.out; have := HJ4.out; omega
                      case rel => exact ⟨(y429), (x6_1), (wrap64 (x7_1 + 1)), (by first | rfl | (simp; done) | (simp [*]; done)), (by first | rfl | (simp; done) | (simp [*]; done)), H', ⟨by have := HK1.out; have := HJ4.out; omega⟩, ⟨by (with_reducible repeat (first | apply Kd.R_alloc | apply Kd.R_drewN | apply Kd.R_drew)); exact HO431.out⟩, ⟨by (with_reducible repeat (first | refine blk_drewN ?_ _ | refine blk_drew ?_ | refine blk_alloc ?_ _)); exact BK414.out⟩, ⟨by repeat (first | (with_reducible first | exact HB.out | apply below_alloc | apply pw_below_drewN | apply below_drew1 | refine below_set ?_ GE414.out) | exact HB.out)⟩⟩
                    · rw [if_neg c26] at H
                      exact absurd H (by simp)
                · rw [if_neg c23] at H
                  exact absurd H (by simp)
              · rw [if_neg c22] at H
                exact absurd H (by simp)
      · rw [if_neg c4] at H
        have c4b0 : decide (x7_1 < (l0.length : Int)) = false := decide_eq_false c4
        clear c4
        by_cases c29 : x6_1 = true
        · subst c29
          have H1 : (some x5_1) = some r := by rw [if_pos rfl] at H; exact H
          clear H
          have H := H1
          clear H1
          obtain rfl := Option.some.inj H
          go_wp2
          repeat (go_quiet (fail); try go_wp2)
          go_ret
          exact ⟨_, by first | rfl | (simp [errW_none, errW_some] <;> rfl) | (simp [*, errW_none, errW_some] <;> rfl), by (with_reducible repeat (first | apply Kd.R_alloc | apply Kd.R_drewN | apply Kd.R_drew)); exact HO_5.out, by repeat (first | (with_reducible first | exact HB.out | apply below_alloc | apply pw_below_drewN | apply below_drew1 | refine below_set ?_ GE414.out) | exact HB.out)⟩
        · replace c29 := Bool.eq_false_iff.mpr c29
          subst c29
          have H1 : (if x5_1.length < 1954687338268 then (some (x5_1 ++ [(⟨a1_0, a1_1, (⟨a1_0, a1_1, a1_2, a1_3, a1_4, a1_5⟩ : S60)⟩ : S111)])) else (none)) = some r := by rw [if_neg (show ¬ (false = true) by decide)] at H; exact H
          clear H
          have H := H1
          clear H1
          by_cases c30 : x5_1.length < 1954687338268
          · rw [if_pos c30] at H
            have LMc30 := Aside0.mk c30
            clear c30
            obtain ⟨y415, hy415⟩ : ∃ y_ : List (S111), y_ = (x5_1 ++ [(⟨a1_0, a1_1, (⟨a1_0, a1_1, a1_2, a1_3, a1_4, a1_5⟩ : S60)⟩ : S111)]) := ⟨_, rfl⟩
            replace H : (some y415) = some r := by first | (rw [hy415]; with_reducible exact H) | (have H2_ := (Option.bind_some _ _).symm.trans H; rw [hy415]; with_reducible exact H2_) | (have H2_ := (Option.bind_some _ _).symm.trans H; with_reducible exact H2_) | with_reducible exact H | (rw [hy415]; exact H) | exact H
            have Ny415 := Aside0.mk hy415
            clear hy415
            obtain rfl := Option.some.inj H
            have hcz31_0 : wr.cell? ⟨gb414, 0, none⟩ = some (.int .i64 a1_0) := (blk_cell BK414.out 0).trans rfl
            have hcz31_1 : wr.cell? ⟨gb414, 1, none⟩ = some (.int .i64 a1_1) := (blk_cell BK414.out 1).trans rfl
            have hcz31_2 : wr.cell? ⟨gb414, 2, none⟩ = some (.int .i64 a1_2) := (blk_cell BK414.out 2).trans rfl
            have hcz31_3 : wr.cell? ⟨gb414, 3, none⟩ = some (.bool a1_3) := (blk_cell BK414.out 3).trans rfl
            have hcz31_4 : wr.cell? ⟨gb414, 4, none⟩ = some (.string a1_4) := (blk_cell BK414.out 4).trans rfl
            have hcz31_5 : wr.cell? ⟨gb414, 5, none⟩ = some (.int .i64 a1_5) := (blk_cell BK414.out 5).trans rfl
            have hfz31_0 := blk_frozen BK414.out 0
            have hfz31_1 := blk_frozen BK414.out 1
            have hfz31_2 := blk_frozen BK414.out 2
            have hfz31_3 := blk_frozen BK414.out 3
            have hfz31_4 := blk_frozen BK414.out 4
            have hfz31_5 := blk_frozen BK414.out 5
            go_wp2_with (first | ((with_reducible refine gate_builtin (b := .append) (xs := #[.tmp 52, .tmp 59]) rfl ?_); at_builtin; refine Kd.R_append k111 (w0 := w) w.heap.size rfl (.tmp 52) (.tmp 59) 57 111 (.agg #[(.int .i64 0), (.int .i64 0), (.int .i64 0), (.int .i64 0), (.int .i64 0), (.bool false), (.string ⟨#[]⟩), (.int .i64 0)]) 72 rfl Try.underlying57 info111 rfl (by decide) (by omega) u5 x5_1 (⟨a1_0, a1_1, (⟨a1_0, a1_1, a1_2, a1_3, a1_4, a1_5⟩ : S60)⟩ : S111) [.int .i64 a1_0, .int .i64 a1_1, .int .i64 a1_0, .int .i64 a1_1, .int .i64 a1_2, .bool a1_3, .string a1_4, .int .i64 a1_5] (fun _ => True) (fun _ => False) rfl rfl ?aP (fun _ hk => hk.elim) ?aF ?aO ?aB ?aS ?aL ?_; (case aP => exact k111_mkM _ _ _ (⟨a1_0, a1_1, (⟨a1_0, a1_1, a1_2, a1_3, a1_4, a1_5⟩ : S60)⟩ : S111)); (case aB => exact (by repeat (first | (with_reducible first | exact HB.out | apply below_alloc | apply pw_below_drewN | apply below_drew1 | refine below_set ?_ GE414.out) | exact HB.out))); (case aF => exact (fun _ _ => trivial)); (case aO => exact (by (with_reducible repeat (first | apply Kd.R_alloc | apply Kd.R_drewN | apply Kd.R_drew)); exact HO_5.out)); (case aS => exact (below_size (by repeat (first | (with_reducible first | exact HB.out | apply below_alloc | apply pw_below_drewN | apply below_drew1 | refine below_set ?_ GE414.out) | exact HB.out)))); (case aL => have := LMc30.out; omega); intro v416 w32 ho hb hg hat; rw [← Ny415.out] at ho; have n0_ := Aside0.mk (blk_grown (g := gb414) (o := .cells #[.int .i64 a1_0, .int .i64 a1_1, .int .i64 a1_2, .bool a1_3, .string a1_4, .int .i64 a1_5] 60 (0, 0)) (by (with_reducible repeat (first | refine blk_drewN ?_ _ | refine blk_drew ?_ | refine blk_alloc ?_ _)); exact BK414.out) hg (Kd.R_ne HO_5.out BK414.out (by decide))); have n1_ := Aside0.mk (hb); have n2_ := Aside0.mk (ho); clear BK414; clear HB; clear HO_5; have BK414 := n0_; have HB := n1_; have HO417 := n2_; clear n0_ n1_ n2_; clear ho hb hg hat))
            repeat (go_quiet (first | ((with_reducible refine gate_builtin (b := .append) (xs := #[.tmp 52, .tmp 59]) rfl ?_); at_builtin; refine Kd.R_append k111 (w0 := w) w.heap.size rfl (.tmp 52) (.tmp 59) 57 111 (.agg #[(.int .i64 0), (.int .i64 0), (.int .i64 0), (.int .i64 0), (.int .i64 0), (.bool false), (.string ⟨#[]⟩), (.int .i64 0)]) 72 rfl Try.underlying57 info111 rfl (by decide) (by omega) u5 x5_1 (⟨a1_0, a1_1, (⟨a1_0, a1_1, a1_2, a1_3, a1_4, a1_5⟩ : S60)⟩ : S111) [.int .i64 a1_0, .int .i64 a1_1, .int .i64 a1_0, .int .i64 a1_1, .int .i64 a1_2, .bool a1_3, .string a1_4, .int .i64 a1_5] (fun _ => True) (fun _ => False) rfl rfl ?aP (fun _ hk => hk.elim) ?aF ?aO ?aB ?aS ?aL ?_; (case aP => exact k111_mkM _ _ _ (⟨a1_0, a1_1, (⟨a1_0, a1_1, a1_2, a1_3, a1_4, a1_5⟩ : S60)⟩ : S111)); (case aB => exact (by repeat (first | (with_reducible first | exact HB.out | apply below_alloc | apply pw_below_drewN | apply below_drew1 | refine below_set ?_ GE414.out) | exact HB.out))); (case aF => exact (fun _ _ => trivial)); (case aO => exact (by (with_reducible repeat (first | apply Kd.R_alloc | apply Kd.R_drewN | apply Kd.R_drew)); exact HO_5.out)); (case aS => exact (below_size (by repeat (first | (with_reducible first | exact HB.out | apply below_alloc | apply pw_below_drewN | apply below_drew1 | refine below_set ?_ GE414.out) | exact HB.out)))); (case aL => have := LMc30.out; omega); intro v416 w32 ho hb hg hat; rw [← Ny415.out] at ho; have n0_ := Aside0.mk (blk_grown (g := gb414) (o := .cells #[.int .i64 a1_0, .int .i64 a1_1, .int .i64 a1_2, .bool a1_3, .string a1_4, .int .i64 a1_5] 60 (0, 0)) (by (with_reducible repeat (first | refine blk_drewN ?_ _ | refine blk_drew ?_ | refine blk_alloc ?_ _)); exact BK414.out) hg (Kd.R_ne HO_5.out BK414.out (by decide))); have n1_ := Aside0.mk (hb); have n2_ := Aside0.mk (ho); clear BK414; clear HB; clear HO_5; have BK414 := n0_; have HB := n1_; have HO417 := n2_; clear n0_ n1_ n2_; clear ho hb hg hat)); try go_wp2_with (first | ((with_reducible refine gate_builtin (b := .append) (xs := #[.tmp 52, .tmp 59]) rfl ?_); at_builtin; refine Kd.R_append k111 (w0 := w) w.heap.size rfl (.tmp 52) (.tmp 59) 57 111 (.agg #[(.int .i64 0), (.int .i64 0), (.int .i64 0), (.int .i64 0), (.int .i64 0), (.bool false), (.string ⟨#[]⟩), (.int .i64 0)]) 72 rfl Try.underlying57 info111 rfl (by decide) (by omega) u5 x5_1 (⟨a1_0, a1_1, (⟨a1_0, a1_1, a1_2, a1_3, a1_4, a1_5⟩ : S60)⟩ : S111) [.int .i64 a1_0, .int .i64 a1_1, .int .i64 a1_0, .int .i64 a1_1, .int .i64 a1_2, .bool a1_3, .string a1_4, .int .i64 a1_5] (fun _ => True) (fun _ => False) rfl rfl ?aP (fun _ hk => hk.elim) ?aF ?aO ?aB ?aS ?aL ?_; (case aP => exact k111_mkM _ _ _ (⟨a1_0, a1_1, (⟨a1_0, a1_1, a1_2, a1_3, a1_4, a1_5⟩ : S60)⟩ : S111)); (case aB => exact (by repeat (first | (with_reducible first | exact HB.out | apply below_alloc | apply pw_below_drewN | apply below_drew1 | refine below_set ?_ GE414.out) | exact HB.out))); (case aF => exact (fun _ _ => trivial)); (case aO => exact (by (with_reducible repeat (first | apply Kd.R_alloc | apply Kd.R_drewN | apply Kd.R_drew)); exact HO_5.out)); (case aS => exact (below_size (by repeat (first | (with_reducible first | exact HB.out | apply below_alloc | apply pw_below_drewN | apply below_drew1 | refine below_set ?_ GE414.out) | exact HB.out)))); (case aL => have := LMc30.out; omega); intro v416 w32 ho hb hg hat; rw [← Ny415.out] at ho; have n0_ := Aside0.mk (blk_grown (g := gb414) (o := .cells #[.int .i64 a1_0, .int .i64 a1_1, .int .i64 a1_2, .bool a1_3, .string a1_4, .int .i64 a1_5] 60 (0, 0)) (by (with_reducible repeat (first | refine blk_drewN ?_ _ | refine blk_drew ?_ | refine blk_alloc ?_ _)); exact BK414.out) hg (Kd.R_ne HO_5.out BK414.out (by decide))); have n1_ := Aside0.mk (hb); have n2_ := Aside0.mk (ho); clear BK414; clear HB; clear HO_5; have BK414 := n0_; have HB := n1_; have HO417 := n2_; clear n0_ n1_ n2_; clear ho hb hg hat)))
            go_ret
            exact ⟨_, by first | rfl | (simp [errW_none, errW_some] <;> rfl) | (simp [*, errW_none, errW_some] <;> rfl), by (with_reducible repeat (first | apply Kd.R_alloc | apply Kd.R_drewN | apply Kd.R_drew)); exact HO417.out, by repeat (first | (with_reducible first | exact HB.out | apply below_alloc | apply pw_below_drewN | apply below_drew1 | refine below_set ?_ GE414.out) | exact HB.out)⟩
          · rw [if_neg c30] at H
            exact absurd H (by simp)

end Go.Proofs.Ytalpmbeddldfoaa.PA
