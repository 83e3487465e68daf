-- A text that a program wrote for this claim (print.py over stand-in bodies, tool/pr.sh).
import Derived.Test.YtalpmbeddldfoaaDoorF0
import Derived.Test.YtalpmbeddldfoaaDoorFAnswerCheck
import Derived.Test.YtalpmbeddldfoaaDoorHandD
namespace Go.Proofs.YtalpmbeddldfoaaDoor.PA
open Go.RowKit Go.Proofs.YtalpmbeddldfoaaDoor.Hand Go.Proofs.YtalpmbeddldfoaaDoorW.PrintWords Go.Proofs.YtalpmbeddldfoaaDoorW.PrintLast Go.Proofs.YtalpmbeddldfoaaDoorW.PrintMore
attribute [local go_sem] max2_int min2_int max_two min_two max_three min_three max_four min_four   -- for this text's walks alone
attribute [local go_sem high] str_leq str_gtr str_geq
set_option linter.unusedVariables false
set_option linter.unusedSimpArgs false

/-! ### sess_Check: function 45 -/
mutual
def sess_Check.l0 : Nat → List (S74) → List (S74) → Int → Int → Option (Int)
  | 0, _, _, _, _ => none
  | k + 1, x0, x5, x6, x7 => if x7 < x6 then (if 0 ≤ x7 then (if x7 < (x5.length : Int) then (if x7 > 0 then (if 0 ≤ (wrap64 (x7 - 1)) then (if (wrap64 (x7 - 1)) < (x0.length : Int) then (sess_Check.j1 k x0 x5 x6 x7 (decide (((rd_T74 x5 x7).f0) ≤ ((rd_T74 x0 (wrap64 (x7 - 1))).f0))) ((rd_T74 x5 x7).f0) ((rd_T74 x5 x7).f1) ((rd_T74 x5 x7).f2.f0) ((rd_T74 x5 x7).f2.f1) ((rd_T74 x5 x7).f2.f2) ((rd_T74 x5 x7).f2.f3) ((rd_T74 x5 x7).f2.f4) ((rd_T74 x5 x7).f2.f5)) else (none)) else (none)) else (sess_Check.j1 k x0 x5 x6 x7 false ((rd_T74 x5 x7).f0) ((rd_T74 x5 x7).f1) ((rd_T74 x5 x7).f2.f0) ((rd_T74 x5 x7).f2.f1) ((rd_T74 x5 x7).f2.f2) ((rd_T74 x5 x7).f2.f3) ((rd_T74 x5 x7).f2.f4) ((rd_T74 x5 x7).f2.f5))) else (none)) else (none)) else (some 0)
def sess_Check.j1 : Nat → List (S74) → List (S74) → Int → Int → Bool → Int → Int → Int → Int → Int → Bool → ByteArray → Int → Option (Int)
  | 0, _, _, _, _, _, _, _, _, _, _, _, _, _ => none
  | k + 1, x0, x5, x6, x7, x24, x176000, x176001, x176002, x176003, x176004, x176005, x176006, x176007 => if x24 = true then (some 3) else (if x176002 = x176000 then (if x176003 = x176001 then ((answer_Check.f k x176002 x176003 x176004 x176005 x176006 x176007).bind fun t177 => (if t177 = 0 then (sess_Check.l0 k x0 x5 x6 (wrap64 (x7 + 1))) else (some 3))) else (some 3)) else (some 3))
end
def sess_Check.f (k : Nat) (l0 : List (S74)) : Option (Int) := sess_Check.l0 k l0 l0 (l0.length : Int) 0
theorem sess_Check.mono_l : ∀ k, (∀ y0 y1 y2 y3, LeO (sess_Check.l0 k y0 y1 y2 y3) (sess_Check.l0 (k + 1) y0 y1 y2 y3)) ∧ (∀ y0 y1 y2 y3 y4 y5 y6 y7 y8 y9 y10 y11 y12, LeO (sess_Check.j1 k y0 y1 y2 y3 y4 y5 y6 y7 y8 y9 y10 y11 y12) (sess_Check.j1 (k + 1) y0 y1 y2 y3 y4 y5 y6 y7 y8 y9 y10 y11 y12))
  | 0 => ⟨fun _ _ _ _ r h => by simp [sess_Check.l0] at h, fun _ _ _ _ _ _ _ _ _ _ _ _ _ r h => by simp [sess_Check.j1] at h⟩
  | k + 1 => by
    obtain ⟨ih0, ih1⟩ := sess_Check.mono_l k
    refine ⟨?_, ?_⟩
    · intro y0 y1 y2 y3
      unfold sess_Check.l0
      repeat' first
      | (with_reducible exact ih0 _ _ _ _)
      | (with_reducible exact ih1 _ _ _ _ _ _ _ _ _ _ _ _ _)
      | (with_reducible exact answer_Check.mono _ _ _ _ _ _ _)
      | (with_reducible exact LeO.refl _)
      | (with_reducible exact LeO.none _)
      | (with_reducible refine LeO.ite ?_ ?_)
      | (with_reducible refine LeO.bind ?_ (fun _ => ?_))
      | exact ih0 _ _ _ _
      | exact ih1 _ _ _ _ _ _ _ _ _ _ _ _ _
      | exact answer_Check.mono _ _ _ _ _ _ _
      | exact LeO.none _
      | refine LeO.ite ?_ ?_
      | refine LeO.bind ?_ (fun _ => ?_)
    · intro y0 y1 y2 y3 y4 y5 y6 y7 y8 y9 y10 y11 y12
      unfold sess_Check.j1
      repeat' first
      | (with_reducible exact ih0 _ _ _ _)
      | (with_reducible exact ih1 _ _ _ _ _ _ _ _ _ _ _ _ _)
      | (with_reducible exact answer_Check.mono _ _ _ _ _ _ _)
      | (with_reducible exact LeO.refl _)
      | (with_reducible exact LeO.none _)
      | (with_reducible refine LeO.ite ?_ ?_)
      | (with_reducible refine LeO.bind ?_ (fun _ => ?_))
      | exact ih0 _ _ _ _
      | exact ih1 _ _ _ _ _ _ _ _ _ _ _ _ _
      | exact answer_Check.mono _ _ _ _ _ _ _
      | exact LeO.none _
      | refine LeO.ite ?_ ?_
      | refine LeO.bind ?_ (fun _ => ?_)
theorem sess_Check.mono : ∀ a0 k, LeO (sess_Check.f k a0) (sess_Check.f (k + 1) a0) := by
  intro a0 k
  obtain ⟨ih0, ih1⟩ := sess_Check.mono_l k
  unfold sess_Check.f
  repeat' first
      | (with_reducible exact ih0 _ _ _ _)
      | (with_reducible exact ih1 _ _ _ _ _ _ _ _ _ _ _ _ _)
      | (with_reducible exact answer_Check.mono _ _ _ _ _ _ _)
      | (with_reducible exact LeO.refl _)
      | (with_reducible exact LeO.none _)
      | (with_reducible refine LeO.ite ?_ ?_)
      | (with_reducible refine LeO.bind ?_ (fun _ => ?_))
      | exact ih0 _ _ _ _
      | exact ih1 _ _ _ _ _ _ _ _ _ _ _ _ _
      | exact answer_Check.mono _ _ _ _ _ _ _
      | exact LeO.none _
      | refine LeO.ite ?_ ?_
      | refine LeO.bind ?_ (fun _ => ?_)
set_option maxHeartbeats 8000000 in
set_option maxRecDepth 100000 in
theorem sess_Check.calls (k : Nat) (A0 : Option Addr) (c0 : Nat) (l0 : List (S74)) (r : Int) (w : World) (hr0 : Kd.C k74 w A0 l0.length l0) (hc0 : l0.length ≤ c0) (h : sess_Check.f k l0 = some r) (hT : Tabs w) :
    Calls Tryd.prog 45 #[.slice A0 l0.length c0] w fun e w' => e = .returned (.int .i64 r) ∧ Below w.heap.size w w' := by
  have HT := Aside0.mk hT
  clear hT
  have hu74 := Tryd.underlying74
  have hu72 := Tryd.underlying72
  have HR0 := Aside0.mk hr0
  have HC0 := Aside0.mk hc0
  clear hr0 hc0
  have HB := Aside0.mk (Below.refl w.heap.size w)
  have H : (sess_Check.l0 k l0 l0 (l0.length : Int) 0) = some r := h
  clear h
  have H' := Aside0.mk H
  clear H
  go_enter Tryd.func45, Tryd.ntmps45
  go_wp2
  repeat (go_quiet (fail); try go_wp2)
  go_loopg [7] k (fun kq v7 w' => ∃ (x7_1 : Int), v7 = .int .i64 x7_1 ∧ Aside0 (sess_Check.l0 kq l0 l0 (l0.length : Int) x7_1 = some r) ∧ Aside0 (kq ≤ k) ∧ Aside0 (Below w.heap.size w w'))
  case atStart => exact ⟨(0), (by first | rfl | (simp; done) | (simp [*]; done)), H', ⟨Nat.le_refl _⟩, ⟨by repeat (first | (with_reducible first | exact HB.out | apply below_alloc | apply pw_below_drewN | apply below_drew1) | exact HB.out)⟩⟩
  case round =>
    clear H'
    obtain ⟨x7_1, rfl, HA, HK1, HB⟩ := hrel
    cases gk with
    | zero => exact absurd HA.out (by simp [sess_Check.l0])
    | succ k1 =>
      have H := HA.out
      clear HA
      simp only [sess_Check.l0] at H
      by_cases c2 : x7_1 < (l0.length : Int)
      · rw [if_pos c2] at H
        have c2b0 : decide (x7_1 < (l0.length : Int)) = true := decide_eq_true c2
        clear c2
        by_cases c3 : 0 ≤ x7_1
        · rw [if_pos c3] at H
          have c3b0 : decide (0 ≤ x7_1) = true := decide_eq_true c3
          clear c3
          by_cases c4 : x7_1 < (l0.length : Int)
          · rw [if_pos c4] at H
            have c4b0 : decide (x7_1 < (l0.length : Int)) = true := decide_eq_true c4
            clear c4
            have HC5 := Aside0.mk H
            clear H
            have p174 : 0 ≤ (x7_1 : Int) := of_decide_eq_true (by first | (with_reducible assumption) | assumption)
            have q174 : x7_1 < (l0.length : Int) := of_decide_eq_true (by first | (with_reducible assumption) | assumption)
            obtain ⟨ad174, e174, hx174_0, hx174_1, hx174_2, hx174_3, hx174_4, hx174_5, hx174_6, hx174_7⟩ := at_T74 HR0.out x7_1 p174 q174
            cases e174
            replace hx174_0 := (HB.out.cell (World.block_lt_of_cell? w _ hx174_0)).trans hx174_0
            replace hx174_1 := (HB.out.cell (World.block_lt_of_cell? w _ hx174_1)).trans hx174_1
            replace hx174_2 := (HB.out.cell (World.block_lt_of_cell? w _ hx174_2)).trans hx174_2
            replace hx174_3 := (HB.out.cell (World.block_lt_of_cell? w _ hx174_3)).trans hx174_3
            replace hx174_4 := (HB.out.cell (World.block_lt_of_cell? w _ hx174_4)).trans hx174_4
            replace hx174_5 := (HB.out.cell (World.block_lt_of_cell? w _ hx174_5)).trans hx174_5
            replace hx174_6 := (HB.out.cell (World.block_lt_of_cell? w _ hx174_6)).trans hx174_6
            replace hx174_7 := (HB.out.cell (World.block_lt_of_cell? w _ hx174_7)).trans hx174_7
            replace p174 := eq_true p174
            replace q174 := eq_true q174
            go_upto_region 4 with (first | ((with_reducible refine gate_dst (N := 4) rfl ?_); refine box_event ?hg (N := 4) ?hd (cs := #[.int .i64 0, .int .i64 0, .int .i64 0, .int .i64 0, .int .i64 0, .bool false, .string (⟨#[]⟩ : ByteArray), .int .i64 0]) (t := 74) ?hr ?_; (case hd => rfl); (case hg => rfl); (case hr => first | (go_simp; done) | (go_simp; rfl)); intro gb175 hg w6 hbox hb; have n0_ := Aside0.mk (below_step (by repeat (first | (with_reducible first | exact HB.out | apply below_alloc | apply pw_below_drewN | apply below_drew1) | exact HB.out)) hb); have n1_ := Aside0.mk (hbox); have n2_ := Aside0.mk ((by rw [hg]; exact (below_size (by repeat (first | (with_reducible first | exact HB.out | apply below_alloc | apply pw_below_drewN | apply below_drew1) | exact HB.out))) : w.heap.size ≤ gb175)); have n3_ := Aside0.mk ((by rw [hg]; exact (below_size (by repeat (first | (with_reducible first | exact HB.out | apply below_alloc | apply pw_below_drewN | apply below_drew1) | exact HB.out))) : w.heap.size ≤ gb175)); clear HB; have HB := n0_; have BK175 := n1_; have GW175 := n2_; have GE175 := n3_; clear n0_ n1_ n2_ n3_; clear hb hbox hg; have hcz7_0 : w6.cell? ⟨gb175, 0, none⟩ = some (.int .i64 0) := (blk_cell BK175.out 0).trans rfl; have hcz7_1 : w6.cell? ⟨gb175, 1, none⟩ = some (.int .i64 0) := (blk_cell BK175.out 1).trans rfl; have hcz7_2 : w6.cell? ⟨gb175, 2, none⟩ = some (.int .i64 0) := (blk_cell BK175.out 2).trans rfl; have hcz7_3 : w6.cell? ⟨gb175, 3, none⟩ = some (.int .i64 0) := (blk_cell BK175.out 3).trans rfl; have hcz7_4 : w6.cell? ⟨gb175, 4, none⟩ = some (.int .i64 0) := (blk_cell BK175.out 4).trans rfl; have hcz7_5 : w6.cell? ⟨gb175, 5, none⟩ = some (.bool false) := (blk_cell BK175.out 5).trans rfl; have hcz7_6 : w6.cell? ⟨gb175, 6, none⟩ = some (.string (⟨#[]⟩ : ByteArray)) := (blk_cell BK175.out 6).trans rfl; have hcz7_7 : w6.cell? ⟨gb175, 7, none⟩ = some (.int .i64 0) := (blk_cell BK175.out 7).trans rfl; have hfz7_0 := blk_frozen BK175.out 0; have hfz7_1 := blk_frozen BK175.out 1; have hfz7_2 := blk_frozen BK175.out 2; have hfz7_3 := blk_frozen BK175.out 3; have hfz7_4 := blk_frozen BK175.out 4; have hfz7_5 := blk_frozen BK175.out 5; have hfz7_6 := blk_frozen BK175.out 6; have hfz7_7 := blk_frozen BK175.out 7))
            repeat (go_quiet (first | ((with_reducible refine gate_dst (N := 4) rfl ?_); refine box_event ?hg (N := 4) ?hd (cs := #[.int .i64 0, .int .i64 0, .int .i64 0, .int .i64 0, .int .i64 0, .bool false, .string (⟨#[]⟩ : ByteArray), .int .i64 0]) (t := 74) ?hr ?_; (case hd => rfl); (case hg => rfl); (case hr => first | (go_simp; done) | (go_simp; rfl)); intro gb175 hg w6 hbox hb; have n0_ := Aside0.mk (below_step (by repeat (first | (with_reducible first | exact HB.out | apply below_alloc | apply pw_below_drewN | apply below_drew1) | exact HB.out)) hb); have n1_ := Aside0.mk (hbox); have n2_ := Aside0.mk ((by rw [hg]; exact (below_size (by repeat (first | (with_reducible first | exact HB.out | apply below_alloc | apply pw_below_drewN | apply below_drew1) | exact HB.out))) : w.heap.size ≤ gb175)); have n3_ := Aside0.mk ((by rw [hg]; exact (below_size (by repeat (first | (with_reducible first | exact HB.out | apply below_alloc | apply pw_below_drewN | apply below_drew1) | exact HB.out))) : w.heap.size ≤ gb175)); clear HB; have HB := n0_; have BK175 := n1_; have GW175 := n2_; have GE175 := n3_; clear n0_ n1_ n2_ n3_; clear hb hbox hg; have hcz7_0 : w6.cell? ⟨gb175, 0, none⟩ = some (.int .i64 0) := (blk_cell BK175.out 0).trans rfl; have hcz7_1 : w6.cell? ⟨gb175, 1, none⟩ = some (.int .i64 0) := (blk_cell BK175.out 1).trans rfl; have hcz7_2 : w6.cell? ⟨gb175, 2, none⟩ = some (.int .i64 0) := (blk_cell BK175.out 2).trans rfl; have hcz7_3 : w6.cell? ⟨gb175, 3, none⟩ = some (.int .i64 0) := (blk_cell BK175.out 3).trans rfl; have hcz7_4 : w6.cell? ⟨gb175, 4, none⟩ = some (.int .i64 0) := (blk_cell BK175.out 4).trans rfl; have hcz7_5 : w6.cell? ⟨gb175, 5, none⟩ = some (.bool false) := (blk_cell BK175.out 5).trans rfl; have hcz7_6 : w6.cell? ⟨gb175, 6, none⟩ = some (.string (⟨#[]⟩ : ByteArray)) := (blk_cell BK175.out 6).trans rfl; have hcz7_7 : w6.cell? ⟨gb175, 7, none⟩ = some (.int .i64 0) := (blk_cell BK175.out 7).trans rfl; have hfz7_0 := blk_frozen BK175.out 0; have hfz7_1 := blk_frozen BK175.out 1; have hfz7_2 := blk_frozen BK175.out 2; have hfz7_3 := blk_frozen BK175.out 3; have hfz7_4 := blk_frozen BK175.out 4; have hfz7_5 := blk_frozen BK175.out 5; have hfz7_6 := blk_frozen BK175.out 6; have hfz7_7 := blk_frozen BK175.out 7)); go_upto_region 4 with (first | ((with_reducible refine gate_dst (N := 4) rfl ?_); refine box_event ?hg (N := 4) ?hd (cs := #[.int .i64 0, .int .i64 0, .int .i64 0, .int .i64 0, .int .i64 0, .bool false, .string (⟨#[]⟩ : ByteArray), .int .i64 0]) (t := 74) ?hr ?_; (case hd => rfl); (case hg => rfl); (case hr => first | (go_simp; done) | (go_simp; rfl)); intro gb175 hg w6 hbox hb; have n0_ := Aside0.mk (below_step (by repeat (first | (with_reducible first | exact HB.out | apply below_alloc | apply pw_below_drewN | apply below_drew1) | exact HB.out)) hb); have n1_ := Aside0.mk (hbox); have n2_ := Aside0.mk ((by rw [hg]; exact (below_size (by repeat (first | (with_reducible first | exact HB.out | apply below_alloc | apply pw_below_drewN | apply below_drew1) | exact HB.out))) : w.heap.size ≤ gb175)); have n3_ := Aside0.mk ((by rw [hg]; exact (below_size (by repeat (first | (with_reducible first | exact HB.out | apply below_alloc | apply pw_below_drewN | apply below_drew1) | exact HB.out))) : w.heap.size ≤ gb175)); clear HB; have HB := n0_; have BK175 := n1_; have GW175 := n2_; have GE175 := n3_; clear n0_ n1_ n2_ n3_; clear hb hbox hg; have hcz7_0 : w6.cell? ⟨gb175, 0, none⟩ = some (.int .i64 0) := (blk_cell BK175.out 0).trans rfl; have hcz7_1 : w6.cell? ⟨gb175, 1, none⟩ = some (.int .i64 0) := (blk_cell BK175.out 1).trans rfl; have hcz7_2 : w6.cell? ⟨gb175, 2, none⟩ = some (.int .i64 0) := (blk_cell BK175.out 2).trans rfl; have hcz7_3 : w6.cell? ⟨gb175, 3, none⟩ = some (.int .i64 0) := (blk_cell BK175.out 3).trans rfl; have hcz7_4 : w6.cell? ⟨gb175, 4, none⟩ = some (.int .i64 0) := (blk_cell BK175.out 4).trans rfl; have hcz7_5 : w6.cell? ⟨gb175, 5, none⟩ = some (.bool false) := (blk_cell BK175.out 5).trans rfl; have hcz7_6 : w6.cell? ⟨gb175, 6, none⟩ = some (.string (⟨#[]⟩ : ByteArray)) := (blk_cell BK175.out 6).trans rfl; have hcz7_7 : w6.cell? ⟨gb175, 7, none⟩ = some (.int .i64 0) := (blk_cell BK175.out 7).trans rfl; have hfz7_0 := blk_frozen BK175.out 0; have hfz7_1 := blk_frozen BK175.out 1; have hfz7_2 := blk_frozen BK175.out 2; have hfz7_3 := blk_frozen BK175.out 3; have hfz7_4 := blk_frozen BK175.out 4; have hfz7_5 := blk_frozen BK175.out 5; have hfz7_6 := blk_frozen BK175.out 6; have hfz7_7 := blk_frozen BK175.out 7)))
            (try simp only [Act.put, List.setIfInBounds_toArray, List.set_cons_zero, List.set_cons_succ])
            go_cut [24] (fun v24 wc => ∃ (kq : Nat) (x24_4 : Bool), v24 = .bool x24_4 ∧ Aside0 (sess_Check.j1 kq l0 l0 (l0.length : Int) x7_1 x24_4 ((rd_T74 l0 x7_1).f0) ((rd_T74 l0 x7_1).f1) ((rd_T74 l0 x7_1).f2.f0) ((rd_T74 l0 x7_1).f2.f1) ((rd_T74 l0 x7_1).f2.f2) ((rd_T74 l0 x7_1).f2.f3) ((rd_T74 l0 x7_1).f2.f4) ((rd_T74 l0 x7_1).f2.f5) = some r) ∧ Aside0 (kq ≤ k1) ∧ Aside0 (wc.heap[gb175]? = some (.cells #[.int .i64 ((rd_T74 l0 x7_1).f0), .int .i64 ((rd_T74 l0 x7_1).f1), .int .i64 ((rd_T74 l0 x7_1).f2.f0), .int .i64 ((rd_T74 l0 x7_1).f2.f1), .int .i64 ((rd_T74 l0 x7_1).f2.f2), .bool ((rd_T74 l0 x7_1).f2.f3), .string ((rd_T74 l0 x7_1).f2.f4), .int .i64 ((rd_T74 l0 x7_1).f2.f5)] 74 (0, 0))) ∧ Aside0 (Below w.heap.size w wc))
            case first =>
              have H := HC5.out
              clear HC5
              by_cases c8 : x7_1 > 0
              · rw [if_pos c8] at H
                have c8b0 : decide (0 < x7_1) = true := decide_eq_true c8
                clear c8
                (first | rw [c8b0] | (simp only [i64_w, i32_w]; rw [c8b0]) | skip)
                obtain ⟨ji9, hji9⟩ : ∃ j_ : Int, (wrap64 (x7_1 - 1)) = j_ := ⟨_, rfl⟩
                replace H : (if 0 ≤ (ji9) then (if (ji9) < (l0.length : Int) then (sess_Check.j1 k1 l0 l0 (l0.length : Int) x7_1 (decide (((rd_T74 l0 x7_1).f0) ≤ ((rd_T74 l0 (ji9)).f0))) ((rd_T74 l0 x7_1).f0) ((rd_T74 l0 x7_1).f1) ((rd_T74 l0 x7_1).f2.f0) ((rd_T74 l0 x7_1).f2.f1) ((rd_T74 l0 x7_1).f2.f2) ((rd_T74 l0 x7_1).f2.f3) ((rd_T74 l0 x7_1).f2.f4) ((rd_T74 l0 x7_1).f2.f5)) else (none)) else (none)) = some r := by first | (rw [hji9] at H; exact H) | (simp only [hji9] at H ⊢; exact H)
                have hji9w : (IntKind.i64.wrap (x7_1 - 1)) = ji9 := (i64_w _).trans hji9
                by_cases c10 : 0 ≤ (ji9)
                · rw [if_pos c10] at H
                  have c10b0 : decide (0 ≤ (ji9)) = true := decide_eq_true c10
                  clear c10
                  by_cases c11 : (ji9) < (l0.length : Int)
                  · rw [if_pos c11] at H
                    have c11b0 : decide ((ji9) < (l0.length : Int)) = true := decide_eq_true c11
                    clear c11
                    have H' := Aside0.mk H
                    clear H
                    have hcz12_0 : w6.cell? ⟨gb175, 0, none⟩ = some (.int .i64 0) := (blk_cell BK175.out 0).trans rfl
                    have hcz12_1 : w6.cell? ⟨gb175, 1, none⟩ = some (.int .i64 0) := (blk_cell BK175.out 1).trans rfl
                    have hcz12_2 : w6.cell? ⟨gb175, 2, none⟩ = some (.int .i64 0) := (blk_cell BK175.out 2).trans rfl
                    have hcz12_3 : w6.cell? ⟨gb175, 3, none⟩ = some (.int .i64 0) := (blk_cell BK175.out 3).trans rfl
                    have hcz12_4 : w6.cell? ⟨gb175, 4, none⟩ = some (.int .i64 0) := (blk_cell BK175.out 4).trans rfl
                    have hcz12_5 : w6.cell? ⟨gb175, 5, none⟩ = some (.bool false) := (blk_cell BK175.out 5).trans rfl
                    have hcz12_6 : w6.cell? ⟨gb175, 6, none⟩ = some (.string (⟨#[]⟩ : ByteArray)) := (blk_cell BK175.out 6).trans rfl
                    have hcz12_7 : w6.cell? ⟨gb175, 7, none⟩ = some (.int .i64 0) := (blk_cell BK175.out 7).trans rfl
                    have hfz12_0 := blk_frozen BK175.out 0
                    have hfz12_1 := blk_frozen BK175.out 1
                    have hfz12_2 := blk_frozen BK175.out 2
                    have hfz12_3 := blk_frozen BK175.out 3
                    have hfz12_4 := blk_frozen BK175.out 4
                    have hfz12_5 := blk_frozen BK175.out 5
                    have hfz12_6 := blk_frozen BK175.out 6
                    have hfz12_7 := blk_frozen BK175.out 7
                    have p176 : 0 ≤ ((ji9) : Int) := of_decide_eq_true (by first | (with_reducible assumption) | assumption)
                    have q176 : (ji9) < (l0.length : Int) := of_decide_eq_true (by first | (with_reducible assumption) | assumption)
                    obtain ⟨ad176, e176, hx176_0, hx176_1, hx176_2, hx176_3, hx176_4, hx176_5, hx176_6, hx176_7⟩ := at_T74 HR0.out (ji9) p176 q176
                    obtain rfl : ad174 = ad176 := (by injection e176)
                    have hn176_0 : ad174.block ≠ gb175 := Nat.ne_of_lt (Nat.lt_of_lt_of_le (by have := World.block_lt_of_cell? _ _ hx176_0; first | rwa [add_block] at this | exact this) GW175.out)
                    have hn176_1 : ad174.block ≠ gb175 := Nat.ne_of_lt (Nat.lt_of_lt_of_le (by have := World.block_lt_of_cell? _ _ hx176_0; first | rwa [add_block] at this | exact this) GW175.out)
                    have hn176_2 : ad174.block ≠ gb175 := Nat.ne_of_lt (Nat.lt_of_lt_of_le (by have := World.block_lt_of_cell? _ _ hx176_0; first | rwa [add_block] at this | exact this) GW175.out)
                    have hn176_3 : ad174.block ≠ gb175 := Nat.ne_of_lt (Nat.lt_of_lt_of_le (by have := World.block_lt_of_cell? _ _ hx176_0; first | rwa [add_block] at this | exact this) GW175.out)
                    have hn176_4 : ad174.block ≠ gb175 := Nat.ne_of_lt (Nat.lt_of_lt_of_le (by have := World.block_lt_of_cell? _ _ hx176_0; first | rwa [add_block] at this | exact this) GW175.out)
                    have hn176_5 : ad174.block ≠ gb175 := Nat.ne_of_lt (Nat.lt_of_lt_of_le (by have := World.block_lt_of_cell? _ _ hx176_0; first | rwa [add_block] at this | exact this) GW175.out)
                    have hn176_6 : ad174.block ≠ gb175 := Nat.ne_of_lt (Nat.lt_of_lt_of_le (by have := World.block_lt_of_cell? _ _ hx176_0; first | rwa [add_block] at this | exact this) GW175.out)
                    have hn176_7 : ad174.block ≠ gb175 := Nat.ne_of_lt (Nat.lt_of_lt_of_le (by have := World.block_lt_of_cell? _ _ hx176_0; first | rwa [add_block] at this | exact this) GW175.out)
                    replace hx176_0 := (HB.out.cell (World.block_lt_of_cell? w _ hx176_0)).trans hx176_0
                    replace hx176_1 := (HB.out.cell (World.block_lt_of_cell? w _ hx176_1)).trans hx176_1
                    replace hx176_2 := (HB.out.cell (World.block_lt_of_cell? w _ hx176_2)).trans hx176_2
                    replace hx176_3 := (HB.out.cell (World.block_lt_of_cell? w _ hx176_3)).trans hx176_3
                    replace hx176_4 := (HB.out.cell (World.block_lt_of_cell? w _ hx176_4)).trans hx176_4
                    replace hx176_5 := (HB.out.cell (World.block_lt_of_cell? w _ hx176_5)).trans hx176_5
                    replace hx176_6 := (HB.out.cell (World.block_lt_of_cell? w _ hx176_6)).trans hx176_6
                    replace hx176_7 := (HB.out.cell (World.block_lt_of_cell? w _ hx176_7)).trans hx176_7
                    replace hx176_0 := (cell_far (p := ⟨gb175, 0, none⟩) (by first | (rw [add_block]; exact hn176_0) | (show (Addr.add _ _).block ≠ _; rw [add_block]; exact hn176_0) | exact hn176_0) (.int .i64 ((rd_T74 l0 x7_1).f0))).trans hx176_0
                    replace hx176_1 := (cell_far (p := ⟨gb175, 0, none⟩) (by first | (rw [add_block]; exact hn176_0) | (show (Addr.add _ _).block ≠ _; rw [add_block]; exact hn176_0) | exact hn176_0) (.int .i64 ((rd_T74 l0 x7_1).f0))).trans hx176_1
                    replace hx176_2 := (cell_far (p := ⟨gb175, 0, none⟩) (by first | (rw [add_block]; exact hn176_0) | (show (Addr.add _ _).block ≠ _; rw [add_block]; exact hn176_0) | exact hn176_0) (.int .i64 ((rd_T74 l0 x7_1).f0))).trans hx176_2
                    replace hx176_3 := (cell_far (p := ⟨gb175, 0, none⟩) (by first | (rw [add_block]; exact hn176_0) | (show (Addr.add _ _).block ≠ _; rw [add_block]; exact hn176_0) | exact hn176_0) (.int .i64 ((rd_T74 l0 x7_1).f0))).trans hx176_3
                    replace hx176_4 := (cell_far (p := ⟨gb175, 0, none⟩) (by first | (rw [add_block]; exact hn176_0) | (show (Addr.add _ _).block ≠ _; rw [add_block]; exact hn176_0) | exact hn176_0) (.int .i64 ((rd_T74 l0 x7_1).f0))).trans hx176_4
                    replace hx176_5 := (cell_far (p := ⟨gb175, 0, none⟩) (by first | (rw [add_block]; exact hn176_0) | (show (Addr.add _ _).block ≠ _; rw [add_block]; exact hn176_0) | exact hn176_0) (.int .i64 ((rd_T74 l0 x7_1).f0))).trans hx176_5
                    replace hx176_6 := (cell_far (p := ⟨gb175, 0, none⟩) (by first | (rw [add_block]; exact hn176_0) | (show (Addr.add _ _).block ≠ _; rw [add_block]; exact hn176_0) | exact hn176_0) (.int .i64 ((rd_T74 l0 x7_1).f0))).trans hx176_6
                    replace hx176_7 := (cell_far (p := ⟨gb175, 0, none⟩) (by first | (rw [add_block]; exact hn176_0) | (show (Addr.add _ _).block ≠ _; rw [add_block]; exact hn176_0) | exact hn176_0) (.int .i64 ((rd_T74 l0 x7_1).f0))).trans hx176_7
                    replace hx176_0 := (cell_far (p := ⟨gb175, 1, none⟩) (by first | (rw [add_block]; exact hn176_1) | (show (Addr.add _ _).block ≠ _; rw [add_block]; exact hn176_1) | exact hn176_1) (.int .i64 ((rd_T74 l0 x7_1).f1))).trans hx176_0
                    replace hx176_1 := (cell_far (p := ⟨gb175, 1, none⟩) (by first | (rw [add_block]; exact hn176_1) | (show (Addr.add _ _).block ≠ _; rw [add_block]; exact hn176_1) | exact hn176_1) (.int .i64 ((rd_T74 l0 x7_1).f1))).trans hx176_1
                    replace hx176_2 := (cell_far (p := ⟨gb175, 1, none⟩) (by first | (rw [add_block]; exact hn176_1) | (show (Addr.add _ _).block ≠ _; rw [add_block]; exact hn176_1) | exact hn176_1) (.int .i64 ((rd_T74 l0 x7_1).f1))).trans hx176_2
                    replace hx176_3 := (cell_far (p := ⟨gb175, 1, none⟩) (by first | (rw [add_block]; exact hn176_1) | (show (Addr.add _ _).block ≠ _; rw [add_block]; exact hn176_1) | exact hn176_1) (.int .i64 ((rd_T74 l0 x7_1).f1))).trans hx176_3
                    replace hx176_4 := (cell_far (p := ⟨gb175, 1, none⟩) (by first | (rw [add_block]; exact hn176_1) | (show (Addr.add _ _).block ≠ _; rw [add_block]; exact hn176_1) | exact hn176_1) (.int .i64 ((rd_T74 l0 x7_1).f1))).trans hx176_4
                    replace hx176_5 := (cell_far (p := ⟨gb175, 1, none⟩) (by first | (rw [add_block]; exact hn176_1) | (show (Addr.add _ _).block ≠ _; rw [add_block]; exact hn176_1) | exact hn176_1) (.int .i64 ((rd_T74 l0 x7_1).f1))).trans hx176_5
                    replace hx176_6 := (cell_far (p := ⟨gb175, 1, none⟩) (by first | (rw [add_block]; exact hn176_1) | (show (Addr.add _ _).block ≠ _; rw [add_block]; exact hn176_1) | exact hn176_1) (.int .i64 ((rd_T74 l0 x7_1).f1))).trans hx176_6
                    replace hx176_7 := (cell_far (p := ⟨gb175, 1, none⟩) (by first | (rw [add_block]; exact hn176_1) | (show (Addr.add _ _).block ≠ _; rw [add_block]; exact hn176_1) | exact hn176_1) (.int .i64 ((rd_T74 l0 x7_1).f1))).trans hx176_7
                    replace hx176_0 := (cell_far (p := ⟨gb175, 2, none⟩) (by first | (rw [add_block]; exact hn176_2) | (show (Addr.add _ _).block ≠ _; rw [add_block]; exact hn176_2) | exact hn176_2) (.int .i64 ((rd_T74 l0 x7_1).f2.f0))).trans hx176_0
                    replace hx176_1 := (cell_far (p := ⟨gb175, 2, none⟩) (by first | (rw [add_block]; exact hn176_2) | (show (Addr.add _ _).block ≠ _; rw [add_block]; exact hn176_2) | exact hn176_2) (.int .i64 ((rd_T74 l0 x7_1).f2.f0))).trans hx176_1
                    replace hx176_2 := (cell_far (p := ⟨gb175, 2, none⟩) (by first | (rw [add_block]; exact hn176_2) | (show (Addr.add _ _).block ≠ _; rw [add_block]; exact hn176_2) | exact hn176_2) (.int .i64 ((rd_T74 l0 x7_1).f2.f0))).trans hx176_2
                    replace hx176_3 := (cell_far (p := ⟨gb175, 2, none⟩) (by first | (rw [add_block]; exact hn176_2) | (show (Addr.add _ _).block ≠ _; rw [add_block]; exact hn176_2) | exact hn176_2) (.int .i64 ((rd_T74 l0 x7_1).f2.f0))).trans hx176_3
                    replace hx176_4 := (cell_far (p := ⟨gb175, 2, none⟩) (by first | (rw [add_block]; exact hn176_2) | (show (Addr.add _ _).block ≠ _; rw [add_block]; exact hn176_2) | exact hn176_2) (.int .i64 ((rd_T74 l0 x7_1).f2.f0))).trans hx176_4
                    replace hx176_5 := (cell_far (p := ⟨gb175, 2, none⟩) (by first | (rw [add_block]; exact hn176_2) | (show (Addr.add _ _).block ≠ _; rw [add_block]; exact hn176_2) | exact hn176_2) (.int .i64 ((rd_T74 l0 x7_1).f2.f0))).trans hx176_5
                    replace hx176_6 := (cell_far (p := ⟨gb175, 2, none⟩) (by first | (rw [add_block]; exact hn176_2) | (show (Addr.add _ _).block ≠ _; rw [add_block]; exact hn176_2) | exact hn176_2) (.int .i64 ((rd_T74 l0 x7_1).f2.f0))).trans hx176_6
                    replace hx176_7 := (cell_far (p := ⟨gb175, 2, none⟩) (by first | (rw [add_block]; exact hn176_2) | (show (Addr.add _ _).block ≠ _; rw [add_block]; exact hn176_2) | exact hn176_2) (.int .i64 ((rd_T74 l0 x7_1).f2.f0))).trans hx176_7
                    replace hx176_0 := (cell_far (p := ⟨gb175, 3, none⟩) (by first | (rw [add_block]; exact hn176_3) | (show (Addr.add _ _).block ≠ _; rw [add_block]; exact hn176_3) | exact hn176_3) (.int .i64 ((rd_T74 l0 x7_1).f2.f1))).trans hx176_0
                    replace hx176_1 := (cell_far (p := ⟨gb175, 3, none⟩) (by first | (rw [add_block]; exact hn176_3) | (show (Addr.add _ _).block ≠ _; rw [add_block]; exact hn176_3) | exact hn176_3) (.int .i64 ((rd_T74 l0 x7_1).f2.f1))).trans hx176_1
                    replace hx176_2 := (cell_far (p := ⟨gb175, 3, none⟩) (by first | (rw [add_block]; exact hn176_3) | (show (Addr.add _ _).block ≠ _; rw [add_block]; exact hn176_3) | exact hn176_3) (.int .i64 ((rd_T74 l0 x7_1).f2.f1))).trans hx176_2
                    replace hx176_3 := (cell_far (p := ⟨gb175, 3, none⟩) (by first | (rw [add_block]; exact hn176_3) | (show (Addr.add _ _).block ≠ _; rw [add_block]; exact hn176_3) | exact hn176_3) (.int .i64 ((rd_T74 l0 x7_1).f2.f1))).trans hx176_3
                    replace hx176_4 := (cell_far (p := ⟨gb175, 3, none⟩) (by first | (rw [add_block]; exact hn176_3) | (show (Addr.add _ _).block ≠ _; rw [add_block]; exact hn176_3) | exact hn176_3) (.int .i64 ((rd_T74 l0 x7_1).f2.f1))).trans hx176_4
                    replace hx176_5 := (cell_far (p := ⟨gb175, 3, none⟩) (by first | (rw [add_block]; exact hn176_3) | (show (Addr.add _ _).block ≠ _; rw [add_block]; exact hn176_3) | exact hn176_3) (.int .i64 ((rd_T74 l0 x7_1).f2.f1))).trans hx176_5
                    replace hx176_6 := (cell_far (p := ⟨gb175, 3, none⟩) (by first | (rw [add_block]; exact hn176_3) | (show (Addr.add _ _).block ≠ _; rw [add_block]; exact hn176_3) | exact hn176_3) (.int .i64 ((rd_T74 l0 x7_1).f2.f1))).trans hx176_6
                    replace hx176_7 := (cell_far (p := ⟨gb175, 3, none⟩) (by first | (rw [add_block]; exact hn176_3) | (show (Addr.add _ _).block ≠ _; rw [add_block]; exact hn176_3) | exact hn176_3) (.int .i64 ((rd_T74 l0 x7_1).f2.f1))).trans hx176_7
                    replace hx176_0 := (cell_far (p := ⟨gb175, 4, none⟩) (by first | (rw [add_block]; exact hn176_4) | (show (Addr.add _ _).block ≠ _; rw [add_block]; exact hn176_4) | exact hn176_4) (.int .i64 ((rd_T74 l0 x7_1).f2.f2))).trans hx176_0
                    replace hx176_1 := (cell_far (p := ⟨gb175, 4, none⟩) (by first | (rw [add_block]; exact hn176_4) | (show (Addr.add _ _).block ≠ _; rw [add_block]; exact hn176_4) | exact hn176_4) (.int .i64 ((rd_T74 l0 x7_1).f2.f2))).trans hx176_1
                    replace hx176_2 := (cell_far (p := ⟨gb175, 4, none⟩) (by first | (rw [add_block]; exact hn176_4) | (show (Addr.add _ _).block ≠ _; rw [add_block]; exact hn176_4) | exact hn176_4) (.int .i64 ((rd_T74 l0 x7_1).f2.f2))).trans hx176_2
                    replace hx176_3 := (cell_far (p := ⟨gb175, 4, none⟩) (by first | (rw [add_block]; exact hn176_4) | (show (Addr.add _ _).block ≠ _; rw [add_block]; exact hn176_4) | exact hn176_4) (.int .i64 ((rd_T74 l0 x7_1).f2.f2))).trans hx176_3
                    replace hx176_4 := (cell_far (p := ⟨gb175, 4, none⟩) (by first | (rw [add_block]; exact hn176_4) | (show (Addr.add _ _).block ≠ _; rw [add_block]; exact hn176_4) | exact hn176_4) (.int .i64 ((rd_T74 l0 x7_1).f2.f2))).trans hx176_4
                    replace hx176_5 := (cell_far (p := ⟨gb175, 4, none⟩) (by first | (rw [add_block]; exact hn176_4) | (show (Addr.add _ _).block ≠ _; rw [add_block]; exact hn176_4) | exact hn176_4) (.int .i64 ((rd_T74 l0 x7_1).f2.f2))).trans hx176_5
                    replace hx176_6 := (cell_far (p := ⟨gb175, 4, none⟩) (by first | (rw [add_block]; exact hn176_4) | (show (Addr.add _ _).block ≠ _; rw [add_block]; exact hn176_4) | exact hn176_4) (.int .i64 ((rd_T74 l0 x7_1).f2.f2))).trans hx176_6
                    replace hx176_7 := (cell_far (p := ⟨gb175, 4, none⟩) (by first | (rw [add_block]; exact hn176_4) | (show (Addr.add _ _).block ≠ _; rw [add_block]; exact hn176_4) | exact hn176_4) (.int .i64 ((rd_T74 l0 x7_1).f2.f2))).trans hx176_7
                    replace hx176_0 := (cell_far (p := ⟨gb175, 5, none⟩) (by first | (rw [add_block]; exact hn176_5) | (show (Addr.add _ _).block ≠ _; rw [add_block]; exact hn176_5) | exact hn176_5) (.bool ((rd_T74 l0 x7_1).f2.f3))).trans hx176_0
                    replace hx176_1 := (cell_far (p := ⟨gb175, 5, none⟩) (by first | (rw [add_block]; exact hn176_5) | (show (Addr.add _ _).block ≠ _; rw [add_block]; exact hn176_5) | exact hn176_5) (.bool ((rd_T74 l0 x7_1).f2.f3))).trans hx176_1
                    replace hx176_2 := (cell_far (p := ⟨gb175, 5, none⟩) (by first | (rw [add_block]; exact hn176_5) | (show (Addr.add _ _).block ≠ _; rw [add_block]; exact hn176_5) | exact hn176_5) (.bool ((rd_T74 l0 x7_1).f2.f3))).trans hx176_2
                    replace hx176_3 := (cell_far (p := ⟨gb175, 5, none⟩) (by first | (rw [add_block]; exact hn176_5) | (show (Addr.add _ _).block ≠ _; rw [add_block]; exact hn176_5) | exact hn176_5) (.bool ((rd_T74 l0 x7_1).f2.f3))).trans hx176_3
                    replace hx176_4 := (cell_far (p := ⟨gb175, 5, none⟩) (by first | (rw [add_block]; exact hn176_5) | (show (Addr.add _ _).block ≠ _; rw [add_block]; exact hn176_5) | exact hn176_5) (.bool ((rd_T74 l0 x7_1).f2.f3))).trans hx176_4
                    replace hx176_5 := (cell_far (p := ⟨gb175, 5, none⟩) (by first | (rw [add_block]; exact hn176_5) | (show (Addr.add _ _).block ≠ _; rw [add_block]; exact hn176_5) | exact hn176_5) (.bool ((rd_T74 l0 x7_1).f2.f3))).trans hx176_5
                    replace hx176_6 := (cell_far (p := ⟨gb175, 5, none⟩) (by first | (rw [add_block]; exact hn176_5) | (show (Addr.add _ _).block ≠ _; rw [add_block]; exact hn176_5) | exact hn176_5) (.bool ((rd_T74 l0 x7_1).f2.f3))).trans hx176_6
                    replace hx176_7 := (cell_far (p := ⟨gb175, 5, none⟩) (by first | (rw [add_block]; exact hn176_5) | (show (Addr.add _ _).block ≠ _; rw [add_block]; exact hn176_5) | exact hn176_5) (.bool ((rd_T74 l0 x7_1).f2.f3))).trans hx176_7
                    replace hx176_0 := (cell_far (p := ⟨gb175, 6, none⟩) (by first | (rw [add_block]; exact hn176_6) | (show (Addr.add _ _).block ≠ _; rw [add_block]; exact hn176_6) | exact hn176_6) (.string ((rd_T74 l0 x7_1).f2.f4))).trans hx176_0
                    replace hx176_1 := (cell_far (p := ⟨gb175, 6, none⟩) (by first | (rw [add_block]; exact hn176_6) | (show (Addr.add _ _).block ≠ _; rw [add_block]; exact hn176_6) | exact hn176_6) (.string ((rd_T74 l0 x7_1).f2.f4))).trans hx176_1
                    replace hx176_2 := (cell_far (p := ⟨gb175, 6, none⟩) (by first | (rw [add_block]; exact hn176_6) | (show (Addr.add _ _).block ≠ _; rw [add_block]; exact hn176_6) | exact hn176_6) (.string ((rd_T74 l0 x7_1).f2.f4))).trans hx176_2
                    replace hx176_3 := (cell_far (p := ⟨gb175, 6, none⟩) (by first | (rw [add_block]; exact hn176_6) | (show (Addr.add _ _).block ≠ _; rw [add_block]; exact hn176_6) | exact hn176_6) (.string ((rd_T74 l0 x7_1).f2.f4))).trans hx176_3
                    replace hx176_4 := (cell_far (p := ⟨gb175, 6, none⟩) (by first | (rw [add_block]; exact hn176_6) | (show (Addr.add _ _).block ≠ _; rw [add_block]; exact hn176_6) | exact hn176_6) (.string ((rd_T74 l0 x7_1).f2.f4))).trans hx176_4
                    replace hx176_5 := (cell_far (p := ⟨gb175, 6, none⟩) (by first | (rw [add_block]; exact hn176_6) | (show (Addr.add _ _).block ≠ _; rw [add_block]; exact hn176_6) | exact hn176_6) (.string ((rd_T74 l0 x7_1).f2.f4))).trans hx176_5
                    replace hx176_6 := (cell_far (p := ⟨gb175, 6, none⟩) (by first | (rw [add_block]; exact hn176_6) | (show (Addr.add _ _).block ≠ _; rw [add_block]; exact hn176_6) | exact hn176_6) (.string ((rd_T74 l0 x7_1).f2.f4))).trans hx176_6
                    replace hx176_7 := (cell_far (p := ⟨gb175, 6, none⟩) (by first | (rw [add_block]; exact hn176_6) | (show (Addr.add _ _).block ≠ _; rw [add_block]; exact hn176_6) | exact hn176_6) (.string ((rd_T74 l0 x7_1).f2.f4))).trans hx176_7
                    replace hx176_0 := (cell_far (p := ⟨gb175, 7, none⟩) (by first | (rw [add_block]; exact hn176_7) | (show (Addr.add _ _).block ≠ _; rw [add_block]; exact hn176_7) | exact hn176_7) (.int .i64 ((rd_T74 l0 x7_1).f2.f5))).trans hx176_0
                    replace hx176_1 := (cell_far (p := ⟨gb175, 7, none⟩) (by first | (rw [add_block]; exact hn176_7) | (show (Addr.add _ _).block ≠ _; rw [add_block]; exact hn176_7) | exact hn176_7) (.int .i64 ((rd_T74 l0 x7_1).f2.f5))).trans hx176_1
                    replace hx176_2 := (cell_far (p := ⟨gb175, 7, none⟩) (by first | (rw [add_block]; exact hn176_7) | (show (Addr.add _ _).block ≠ _; rw [add_block]; exact hn176_7) | exact hn176_7) (.int .i64 ((rd_T74 l0 x7_1).f2.f5))).trans hx176_2
                    replace hx176_3 := (cell_far (p := ⟨gb175, 7, none⟩) (by first | (rw [add_block]; exact hn176_7) | (show (Addr.add _ _).block ≠ _; rw [add_block]; exact hn176_7) | exact hn176_7) (.int .i64 ((rd_T74 l0 x7_1).f2.f5))).trans hx176_3
                    replace hx176_4 := (cell_far (p := ⟨gb175, 7, none⟩) (by first | (rw [add_block]; exact hn176_7) | (show (Addr.add _ _).block ≠ _; rw [add_block]; exact hn176_7) | exact hn176_7) (.int .i64 ((rd_T74 l0 x7_1).f2.f5))).trans hx176_4
                    replace hx176_5 := (cell_far (p := ⟨gb175, 7, none⟩) (by first | (rw [add_block]; exact hn176_7) | (show (Addr.add _ _).block ≠ _; rw [add_block]; exact hn176_7) | exact hn176_7) (.int .i64 ((rd_T74 l0 x7_1).f2.f5))).trans hx176_5
                    replace hx176_6 := (cell_far (p := ⟨gb175, 7, none⟩) (by first | (rw [add_block]; exact hn176_7) | (show (Addr.add _ _).block ≠ _; rw [add_block]; exact hn176_7) | exact hn176_7) (.int .i64 ((rd_T74 l0 x7_1).f2.f5))).trans hx176_6
                    replace hx176_7 := (cell_far (p := ⟨gb175, 7, none⟩) (by first | (rw [add_block]; exact hn176_7) | (show (Addr.add _ _).block ≠ _; rw [add_block]; exact hn176_7) | exact hn176_7) (.int .i64 ((rd_T74 l0 x7_1).f2.f5))).trans hx176_7
                    (try have hy176_0 := fun (n_ : Nat) => (cell_drawn (A := (((((((((w6.drewN n_).setCell ⟨gb175, 0, none⟩ (.int .i64 ((rd_T74 l0 x7_1).f0))).setCell ⟨gb175, 1, none⟩ (.int .i64 ((rd_T74 l0 x7_1).f1))).setCell ⟨gb175, 2, none⟩ (.int .i64 ((rd_T74 l0 x7_1).f2.f0))).setCell ⟨gb175, 3, none⟩ (.int .i64 ((rd_T74 l0 x7_1).f2.f1))).setCell ⟨gb175, 4, none⟩ (.int .i64 ((rd_T74 l0 x7_1).f2.f2))).setCell ⟨gb175, 5, none⟩ (.bool ((rd_T74 l0 x7_1).f2.f3))).setCell ⟨gb175, 6, none⟩ (.string ((rd_T74 l0 x7_1).f2.f4))).setCell ⟨gb175, 7, none⟩ (.int .i64 ((rd_T74 l0 x7_1).f2.f5)))) (n := n_) (by simp only [setCell_drawn]) hx176_0))
                    (try have hy176_1 := fun (n_ : Nat) => (cell_drawn (A := (((((((((w6.drewN n_).setCell ⟨gb175, 0, none⟩ (.int .i64 ((rd_T74 l0 x7_1).f0))).setCell ⟨gb175, 1, none⟩ (.int .i64 ((rd_T74 l0 x7_1).f1))).setCell ⟨gb175, 2, none⟩ (.int .i64 ((rd_T74 l0 x7_1).f2.f0))).setCell ⟨gb175, 3, none⟩ (.int .i64 ((rd_T74 l0 x7_1).f2.f1))).setCell ⟨gb175, 4, none⟩ (.int .i64 ((rd_T74 l0 x7_1).f2.f2))).setCell ⟨gb175, 5, none⟩ (.bool ((rd_T74 l0 x7_1).f2.f3))).setCell ⟨gb175, 6, none⟩ (.string ((rd_T74 l0 x7_1).f2.f4))).setCell ⟨gb175, 7, none⟩ (.int .i64 ((rd_T74 l0 x7_1).f2.f5)))) (n := n_) (by simp only [setCell_drawn]) hx176_1))
                    (try have hy176_2 := fun (n_ : Nat) => (cell_drawn (A := (((((((((w6.drewN n_).setCell ⟨gb175, 0, none⟩ (.int .i64 ((rd_T74 l0 x7_1).f0))).setCell ⟨gb175, 1, none⟩ (.int .i64 ((rd_T74 l0 x7_1).f1))).setCell ⟨gb175, 2, none⟩ (.int .i64 ((rd_T74 l0 x7_1).f2.f0))).setCell ⟨gb175, 3, none⟩ (.int .i64 ((rd_T74 l0 x7_1).f2.f1))).setCell ⟨gb175, 4, none⟩ (.int .i64 ((rd_T74 l0 x7_1).f2.f2))).setCell ⟨gb175, 5, none⟩ (.bool ((rd_T74 l0 x7_1).f2.f3))).setCell ⟨gb175, 6, none⟩ (.string ((rd_T74 l0 x7_1).f2.f4))).setCell ⟨gb175, 7, none⟩ (.int .i64 ((rd_T74 l0 x7_1).f2.f5)))) (n := n_) (by simp only [setCell_drawn]) hx176_2))
                    (try have hy176_3 := fun (n_ : Nat) => (cell_drawn (A := (((((((((w6.drewN n_).setCell ⟨gb175, 0, none⟩ (.int .i64 ((rd_T74 l0 x7_1).f0))).setCell ⟨gb175, 1, none⟩ (.int .i64 ((rd_T74 l0 x7_1).f1))).setCell ⟨gb175, 2, none⟩ (.int .i64 ((rd_T74 l0 x7_1).f2.f0))).setCell ⟨gb175, 3, none⟩ (.int .i64 ((rd_T74 l0 x7_1).f2.f1))).setCell ⟨gb175, 4, none⟩ (.int .i64 ((rd_T74 l0 x7_1).f2.f2))).setCell ⟨gb175, 5, none⟩ (.bool ((rd_T74 l0 x7_1).f2.f3))).setCell ⟨gb175, 6, none⟩ (.string ((rd_T74 l0 x7_1).f2.f4))).setCell ⟨gb175, 7, none⟩ (.int .i64 ((rd_T74 l0 x7_1).f2.f5)))) (n := n_) (by simp only [setCell_drawn]) hx176_3))
                    (try have hy176_4 := fun (n_ : Nat) => (cell_drawn (A := (((((((((w6.drewN n_).setCell ⟨gb175, 0, none⟩ (.int .i64 ((rd_T74 l0 x7_1).f0))).setCell ⟨gb175, 1, none⟩ (.int .i64 ((rd_T74 l0 x7_1).f1))).setCell ⟨gb175, 2, none⟩ (.int .i64 ((rd_T74 l0 x7_1).f2.f0))).setCell ⟨gb175, 3, none⟩ (.int .i64 ((rd_T74 l0 x7_1).f2.f1))).setCell ⟨gb175, 4, none⟩ (.int .i64 ((rd_T74 l0 x7_1).f2.f2))).setCell ⟨gb175, 5, none⟩ (.bool ((rd_T74 l0 x7_1).f2.f3))).setCell ⟨gb175, 6, none⟩ (.string ((rd_T74 l0 x7_1).f2.f4))).setCell ⟨gb175, 7, none⟩ (.int .i64 ((rd_T74 l0 x7_1).f2.f5)))) (n := n_) (by simp only [setCell_drawn]) hx176_4))
                    (try have hy176_5 := fun (n_ : Nat) => (cell_drawn (A := (((((((((w6.drewN n_).setCell ⟨gb175, 0, none⟩ (.int .i64 ((rd_T74 l0 x7_1).f0))).setCell ⟨gb175, 1, none⟩ (.int .i64 ((rd_T74 l0 x7_1).f1))).setCell ⟨gb175, 2, none⟩ (.int .i64 ((rd_T74 l0 x7_1).f2.f0))).setCell ⟨gb175, 3, none⟩ (.int .i64 ((rd_T74 l0 x7_1).f2.f1))).setCell ⟨gb175, 4, none⟩ (.int .i64 ((rd_T74 l0 x7_1).f2.f2))).setCell ⟨gb175, 5, none⟩ (.bool ((rd_T74 l0 x7_1).f2.f3))).setCell ⟨gb175, 6, none⟩ (.string ((rd_T74 l0 x7_1).f2.f4))).setCell ⟨gb175, 7, none⟩ (.int .i64 ((rd_T74 l0 x7_1).f2.f5)))) (n := n_) (by simp only [setCell_drawn]) hx176_5))
                    (try have hy176_6 := fun (n_ : Nat) => (cell_drawn (A := (((((((((w6.drewN n_).setCell ⟨gb175, 0, none⟩ (.int .i64 ((rd_T74 l0 x7_1).f0))).setCell ⟨gb175, 1, none⟩ (.int .i64 ((rd_T74 l0 x7_1).f1))).setCell ⟨gb175, 2, none⟩ (.int .i64 ((rd_T74 l0 x7_1).f2.f0))).setCell ⟨gb175, 3, none⟩ (.int .i64 ((rd_T74 l0 x7_1).f2.f1))).setCell ⟨gb175, 4, none⟩ (.int .i64 ((rd_T74 l0 x7_1).f2.f2))).setCell ⟨gb175, 5, none⟩ (.bool ((rd_T74 l0 x7_1).f2.f3))).setCell ⟨gb175, 6, none⟩ (.string ((rd_T74 l0 x7_1).f2.f4))).setCell ⟨gb175, 7, none⟩ (.int .i64 ((rd_T74 l0 x7_1).f2.f5)))) (n := n_) (by simp only [setCell_drawn]) hx176_6))
                    (try have hy176_7 := fun (n_ : Nat) => (cell_drawn (A := (((((((((w6.drewN n_).setCell ⟨gb175, 0, none⟩ (.int .i64 ((rd_T74 l0 x7_1).f0))).setCell ⟨gb175, 1, none⟩ (.int .i64 ((rd_T74 l0 x7_1).f1))).setCell ⟨gb175, 2, none⟩ (.int .i64 ((rd_T74 l0 x7_1).f2.f0))).setCell ⟨gb175, 3, none⟩ (.int .i64 ((rd_T74 l0 x7_1).f2.f1))).setCell ⟨gb175, 4, none⟩ (.int .i64 ((rd_T74 l0 x7_1).f2.f2))).setCell ⟨gb175, 5, none⟩ (.bool ((rd_T74 l0 x7_1).f2.f3))).setCell ⟨gb175, 6, none⟩ (.string ((rd_T74 l0 x7_1).f2.f4))).setCell ⟨gb175, 7, none⟩ (.int .i64 ((rd_T74 l0 x7_1).f2.f5)))) (n := n_) (by simp only [setCell_drawn]) hx176_7))
                    clear hn176_0
                    clear hn176_1
                    clear hn176_2
                    clear hn176_3
                    clear hn176_4
                    clear hn176_5
                    clear hn176_6
                    clear hn176_7
                    replace p176 := eq_true p176
                    replace q176 := eq_true q176
                    go_wp2
                    repeat (go_quiet (fail); try go_wp2)
                    go_meet
                    case rel => exact ⟨_, (decide (((rd_T74 l0 x7_1).f0) ≤ ((rd_T74 l0 (ji9)).f0))), (by first | rfl | (simp; done) | (simp only [← hji9] <;> (first | rfl | simp)) | (simp [*]; done)), H', ⟨by have := HK1.out; first | omega | exact Nat.le_refl _⟩, ⟨by (with_reducible repeat (first | refine blk_drewN ?_ _ | refine blk_drew ?_ | refine blk_alloc ?_ _)); refine blk_put (cs := #[.int .i64 ((rd_T74 l0 x7_1).f0), .int .i64 ((rd_T74 l0 x7_1).f1), .int .i64 ((rd_T74 l0 x7_1).f2.f0), .int .i64 ((rd_T74 l0 x7_1).f2.f1), .int .i64 ((rd_T74 l0 x7_1).f2.f2), .bool ((rd_T74 l0 x7_1).f2.f3), .string ((rd_T74 l0 x7_1).f2.f4), .int .i64 0]) ?_ 7 _ rfl; (with_reducible repeat (first | refine blk_drewN ?_ _ | refine blk_drew ?_ | refine blk_alloc ?_ _)); refine blk_put (cs := #[.int .i64 ((rd_T74 l0 x7_1).f0), .int .i64 ((rd_T74 l0 x7_1).f1), .int .i64 ((rd_T74 l0 x7_1).f2.f0), .int .i64 ((rd_T74 l0 x7_1).f2.f1), .int .i64 ((rd_T74 l0 x7_1).f2.f2), .bool ((rd_T74 l0 x7_1).f2.f3), .string (⟨#[]⟩ : ByteArray), .int .i64 0]) ?_ 6 _ rfl; (with_reducible repeat (first | refine blk_drewN ?_ _ | refine blk_drew ?_ | refine blk_alloc ?_ _)); refine blk_put (cs := #[.int .i64 ((rd_T74 l0 x7_1).f0), .int .i64 ((rd_T74 l0 x7_1).f1), .int .i64 ((rd_T74 l0 x7_1).f2.f0), .int .i64 ((rd_T74 l0 x7_1).f2.f1), .int .i64 ((rd_T74 l0 x7_1).f2.f2), .bool false, .string (⟨#[]⟩ : ByteArray), .int .i64 0]) ?_ 5 _ rfl; (with_reducible repeat (first | refine blk_drewN ?_ _ | refine blk_drew ?_ | refine blk_alloc ?_ _)); refine blk_put (cs := #[.int .i64 ((rd_T74 l0 x7_1).f0), .int .i64 ((rd_T74 l0 x7_1).f1), .int .i64 ((rd_T74 l0 x7_1).f2.f0), .int .i64 ((rd_T74 l0 x7_1).f2.f1), .int .i64 0, .bool false, .string (⟨#[]⟩ : ByteArray), .int .i64 0]) ?_ 4 _ rfl; (with_reducible repeat (first | refine blk_drewN ?_ _ | refine blk_drew ?_ | refine blk_alloc ?_ _)); refine blk_put (cs := #[.int .i64 ((rd_T74 l0 x7_1).f0), .int .i64 ((rd_T74 l0 x7_1).f1), .int .i64 ((rd_T74 l0 x7_1).f2.f0), .int .i64 0, .int .i64 0, .bool false, .string (⟨#[]⟩ : ByteArray), .int .i64 0]) ?_ 3 _ rfl; (with_reducible repeat (first | refine blk_drewN ?_ _ | refine blk_drew ?_ | refine blk_alloc ?_ _)); refine blk_put (cs := #[.int .i64 ((rd_T74 l0 x7_1).f0), .int .i64 ((rd_T74 l0 x7_1).f1), .int .i64 0, .int .i64 0, .int .i64 0, .bool false, .string (⟨#[]⟩ : ByteArray), .int .i64 0]) ?_ 2 _ rfl; (with_reducible repeat (first | refine blk_drewN ?_ _ | refine blk_drew ?_ | refine blk_alloc ?_ _)); refine blk_put (cs := #[.int .i64 ((rd_T74 l0 x7_1).f0), .int .i64 0, .int .i64 0, .int .i64 0, .int .i64 0, .bool false, .string (⟨#[]⟩ : ByteArray), .int .i64 0]) ?_ 1 _ rfl; (with_reducible repeat (first | refine blk_drewN ?_ _ | refine blk_drew ?_ | refine blk_alloc ?_ _)); refine blk_put (cs := #[.int .i64 0, .int .i64 0, .int .i64 0, .int .i64 0, .int .i64 0, .bool false, .string (⟨#[]⟩ : ByteArray), .int .i64 0]) ?_ 0 _ rfl; (with_reducible repeat (first | refine blk_drewN ?_ _ | refine blk_drew ?_ | refine blk_alloc ?_ _)); exact BK175.out⟩, ⟨by repeat (first | (with_reducible first | exact HB.out | apply below_alloc | apply pw_below_drewN | apply below_drew1 | refine below_set ?_ GE175.out) | exact HB.out)⟩⟩
                  · rw [if_neg c11] at H
                    exact absurd H (by simp)
                · rw [if_neg c10] at H
                  exact absurd H (by simp)
              · rw [if_neg c8] at H
                have c8b0 : decide (0 < x7_1) = false := decide_eq_false c8
                clear c8
                (first | rw [c8b0] | (simp only [i64_w, i32_w]; rw [c8b0]) | skip)
                have H' := Aside0.mk H
                clear H
                go_wp2
                repeat (go_quiet (fail); try go_wp2)
                go_meet
                case rel => exact ⟨_, (false), (by first | rfl | (simp; done) | (simp [*]; done)), H', ⟨by have := HK1.out; first | omega | exact Nat.le_refl _⟩, ⟨by (with_reducible repeat (first | refine blk_drewN ?_ _ | refine blk_drew ?_ | refine blk_alloc ?_ _)); refine blk_put (cs := #[.int .i64 ((rd_T74 l0 x7_1).f0), .int .i64 ((rd_T74 l0 x7_1).f1), .int .i64 ((rd_T74 l0 x7_1).f2.f0), .int .i64 ((rd_T74 l0 x7_1).f2.f1), .int .i64 ((rd_T74 l0 x7_1).f2.f2), .bool ((rd_T74 l0 x7_1).f2.f3), .string ((rd_T74 l0 x7_1).f2.f4), .int .i64 0]) ?_ 7 _ rfl; (with_reducible repeat (first | refine blk_drewN ?_ _ | refine blk_drew ?_ | refine blk_alloc ?_ _)); refine blk_put (cs := #[.int .i64 ((rd_T74 l0 x7_1).f0), .int .i64 ((rd_T74 l0 x7_1).f1), .int .i64 ((rd_T74 l0 x7_1).f2.f0), .int .i64 ((rd_T74 l0 x7_1).f2.f1), .int .i64 ((rd_T74 l0 x7_1).f2.f2), .bool ((rd_T74 l0 x7_1).f2.f3), .string (⟨#[]⟩ : ByteArray), .int .i64 0]) ?_ 6 _ rfl; (with_reducible repeat (first | refine blk_drewN ?_ _ | refine blk_drew ?_ | refine blk_alloc ?_ _)); refine blk_put (cs := #[.int .i64 ((rd_T74 l0 x7_1).f0), .int .i64 ((rd_T74 l0 x7_1).f1), .int .i64 ((rd_T74 l0 x7_1).f2.f0), .int .i64 ((rd_T74 l0 x7_1).f2.f1), .int .i64 ((rd_T74 l0 x7_1).f2.f2), .bool false, .string (⟨#[]⟩ : ByteArray), .int .i64 0]) ?_ 5 _ rfl; (with_reducible repeat (first | refine blk_drewN ?_ _ | refine blk_drew ?_ | refine blk_alloc ?_ _)); refine blk_put (cs := #[.int .i64 ((rd_T74 l0 x7_1).f0), .int .i64 ((rd_T74 l0 x7_1).f1), .int .i64 ((rd_T74 l0 x7_1).f2.f0), .int .i64 ((rd_T74 l0 x7_1).f2.f1), .int .i64 0, .bool false, .string (⟨#[]⟩ : ByteArray), .int .i64 0]) ?_ 4 _ rfl; (with_reducible repeat (first | refine blk_drewN ?_ _ | refine blk_drew ?_ | refine blk_alloc ?_ _)); refine blk_put (cs := #[.int .i64 ((rd_T74 l0 x7_1).f0), .int .i64 ((rd_T74 l0 x7_1).f1), .int .i64 ((rd_T74 l0 x7_1).f2.f0), .int .i64 0, .int .i64 0, .bool false, .string (⟨#[]⟩ : ByteArray), .int .i64 0]) ?_ 3 _ rfl; (with_reducible repeat (first | refine blk_drewN ?_ _ | refine blk_drew ?_ | refine blk_alloc ?_ _)); refine blk_put (cs := #[.int .i64 ((rd_T74 l0 x7_1).f0), .int .i64 ((rd_T74 l0 x7_1).f1), .int .i64 0, .int .i64 0, .int .i64 0, .bool false, .string (⟨#[]⟩ : ByteArray), .int .i64 0]) ?_ 2 _ rfl; (with_reducible repeat (first | refine blk_drewN ?_ _ | refine blk_drew ?_ | refine blk_alloc ?_ _)); refine blk_put (cs := #[.int .i64 ((rd_T74 l0 x7_1).f0), .int .i64 0, .int .i64 0, .int .i64 0, .int .i64 0, .bool false, .string (⟨#[]⟩ : ByteArray), .int .i64 0]) ?_ 1 _ rfl; (with_reducible repeat (first | refine blk_drewN ?_ _ | refine blk_drew ?_ | refine blk_alloc ?_ _)); refine blk_put (cs := #[.int .i64 0, .int .i64 0, .int .i64 0, .int .i64 0, .int .i64 0, .bool false, .string (⟨#[]⟩ : ByteArray), .int .i64 0]) ?_ 0 _ rfl; (with_reducible repeat (first | refine blk_drewN ?_ _ | refine blk_drew ?_ | refine blk_alloc ?_ _)); exact BK175.out⟩, ⟨by repeat (first | (with_reducible first | exact HB.out | apply below_alloc | apply pw_below_drewN | apply below_drew1 | refine below_set ?_ GE175.out) | exact HB.out)⟩⟩
            case rest =>
              clear HC5
              try clear c1
              try clear p1
              try clear q1
              try clear hx1
              try clear c2
              try clear c2b0
              try clear p2
              try clear c3
              try clear c3b0
              try clear c4
              try clear c4b0
              try clear p6
              try clear c8
              try clear c8b0
              try clear c10
              try clear c10b0
              try clear c11
              try clear c11b0
              try clear hcz12_0
              try clear hcz12_1
              try clear hcz12_2
              try clear hcz12_3
              try clear hcz12_4
              try clear hcz12_5
              try clear hcz12_6
              try clear hcz12_7
              try clear hcz7_0
              try clear hcz7_1
              try clear hcz7_2
              try clear hcz7_3
              try clear hcz7_4
              try clear hcz7_5
              try clear hcz7_6
              try clear hcz7_7
              try clear hfz12_0
              try clear hfz12_1
              try clear hfz12_2
              try clear hfz12_3
              try clear hfz12_4
              try clear hfz12_5
              try clear hfz12_6
              try clear hfz12_7
              try clear hfz7_0
              try clear hfz7_1
              try clear hfz7_2
              try clear hfz7_3
              try clear hfz7_4
              try clear hfz7_5
              try clear hfz7_6
              try clear hfz7_7
              try clear hx174_0
              try clear hx174_1
              try clear hx174_2
              try clear hx174_3
              try clear hx174_4
              try clear hx174_5
              try clear hx174_6
              try clear hx174_7
              try clear hx176_0
              try clear hx176_1
              try clear hx176_2
              try clear hx176_3
              try clear hx176_4
              try clear hx176_5
              try clear hx176_6
              try clear hx176_7
              try clear p174
              try clear p176
              try clear q174
              try clear q176
              obtain ⟨kq, x24_4, rfl, HA, HJ4, BK175, HB⟩ := hcut
              cases kq with
              | zero => exact absurd HA.out (by simp [sess_Check.j1])
              | succ kj4 =>
                have H := HA.out
                clear HA
                simp only [sess_Check.j1] at H
                by_cases c13 : x24_4 = true
                · subst c13
                  have H1 : (some 3) = some r := by rw [if_pos rfl] at H; exact H
                  clear H
                  have H := H1
                  clear H1
                  obtain rfl := Option.some.inj H
                  go_wp2
                  repeat (go_quiet (fail); try go_wp2)
                  go_ret
                  exact ⟨by first | rfl | (simp [errW_none, errW_some] <;> rfl) | (simp [*, errW_none, errW_some] <;> rfl), by repeat (first | (with_reducible first | exact HB.out | apply below_alloc | apply pw_below_drewN | apply below_drew1 | refine below_set ?_ GE175.out) | exact HB.out)⟩
                · replace c13 := Bool.eq_false_iff.mpr c13
                  subst c13
                  have H1 : (if ((rd_T74 l0 x7_1).f2.f0) = ((rd_T74 l0 x7_1).f0) then (if ((rd_T74 l0 x7_1).f2.f1) = ((rd_T74 l0 x7_1).f1) then ((answer_Check.f kj4 ((rd_T74 l0 x7_1).f2.f0) ((rd_T74 l0 x7_1).f2.f1) ((rd_T74 l0 x7_1).f2.f2) ((rd_T74 l0 x7_1).f2.f3) ((rd_T74 l0 x7_1).f2.f4) ((rd_T74 l0 x7_1).f2.f5)).bind fun t177 => (if t177 = 0 then (sess_Check.l0 kj4 l0 l0 (l0.length : Int) (wrap64 (x7_1 + 1))) else (some 3))) else (some 3)) else (some 3)) = some r := by rw [if_neg (show ¬ (false = true) by decide)] at H; exact H
                  clear H
                  have H := H1
                  clear H1
                  by_cases c14 : ((rd_T74 l0 x7_1).f2.f0) = ((rd_T74 l0 x7_1).f0)
                  · rw [if_pos c14] at H
                    have c14b0 : (((rd_T74 l0 x7_1).f2.f0) == ((rd_T74 l0 x7_1).f0)) = true := beq_iff_eq.mpr c14
                    have c14b1 : (((rd_T74 l0 x7_1).f2.f0) != ((rd_T74 l0 x7_1).f0)) = false := bne_eq_false_iff_eq.mpr c14
                    clear c14
                    by_cases c15 : ((rd_T74 l0 x7_1).f2.f1) = ((rd_T74 l0 x7_1).f1)
                    · rw [if_pos c15] at H
                      have c15b0 : (((rd_T74 l0 x7_1).f2.f1) == ((rd_T74 l0 x7_1).f1)) = true := beq_iff_eq.mpr c15
                      have c15b1 : (((rd_T74 l0 x7_1).f2.f1) != ((rd_T74 l0 x7_1).f1)) = false := bne_eq_false_iff_eq.mpr c15
                      clear c15
                      replace H := Option.bind_eq_some_iff.mp H
                      obtain ⟨t177, A160, H⟩ := H
                      replace H : (if t177 = 0 then (sess_Check.l0 kj4 l0 l0 (l0.length : Int) (wrap64 (x7_1 + 1))) else (some 3)) = some r := H
                      have A16 := Aside0.mk A160
                      clear A160
                      by_cases c17 : t177 = 0
                      · rw [if_pos c17] at H
                        have c17b0 : (t177 == 0) = true := beq_iff_eq.mpr c17
                        have c17b1 : (t177 != 0) = false := bne_eq_false_iff_eq.mpr c17
                        clear c17
                        have H' := Aside0.mk H
                        clear H
                        have hcz18_0 : wc.cell? ⟨gb175, 0, none⟩ = some (.int .i64 ((rd_T74 l0 x7_1).f0)) := (blk_cell BK175.out 0).trans rfl
                        have hcz18_1 : wc.cell? ⟨gb175, 1, none⟩ = some (.int .i64 ((rd_T74 l0 x7_1).f1)) := (blk_cell BK175.out 1).trans rfl
                        have hcz18_2 : wc.cell? ⟨gb175, 2, none⟩ = some (.int .i64 ((rd_T74 l0 x7_1).f2.f0)) := (blk_cell BK175.out 2).trans rfl
                        have hcz18_3 : wc.cell? ⟨gb175, 3, none⟩ = some (.int .i64 ((rd_T74 l0 x7_1).f2.f1)) := (blk_cell BK175.out 3).trans rfl
                        have hcz18_4 : wc.cell? ⟨gb175, 4, none⟩ = some (.int .i64 ((rd_T74 l0 x7_1).f2.f2)) := (blk_cell BK175.out 4).trans rfl
                        have hcz18_5 : wc.cell? ⟨gb175, 5, none⟩ = some (.bool ((rd_T74 l0 x7_1).f2.f3)) := (blk_cell BK175.out 5).trans rfl
                        have hcz18_6 : wc.cell? ⟨gb175, 6, none⟩ = some (.string ((rd_T74 l0 x7_1).f2.f4)) := (blk_cell BK175.out 6).trans rfl
                        have hcz18_7 : wc.cell? ⟨gb175, 7, none⟩ = some (.int .i64 ((rd_T74 l0 x7_1).f2.f5)) := (blk_cell BK175.out 7).trans rfl
                        have hfz18_0 := blk_frozen BK175.out 0
                        have hfz18_1 := blk_frozen BK175.out 1
                        have hfz18_2 := blk_frozen BK175.out 2
                        have hfz18_3 := blk_frozen BK175.out 3
                        have hfz18_4 := blk_frozen BK175.out 4
                        have hfz18_5 := blk_frozen BK175.out 5
                        have hfz18_6 := blk_frozen BK175.out 6
                        have hfz18_7 := blk_frozen BK175.out 7
                        go_wp2_with (first | (go_at_call 83; (with_reducible refine (answer_Check.calls kj4 ((rd_T74 l0 x7_1).f2.f0) ((rd_T74 l0 x7_1).f2.f1) ((rd_T74 l0 x7_1).f2.f2) ((rd_T74 l0 x7_1).f2.f3) ((rd_T74 l0 x7_1).f2.f4) ((rd_T74 l0 x7_1).f2.f5) t177 _ A16.out (HT.out.go (by repeat (first | (with_reducible first | exact HB.out | apply below_alloc | apply pw_below_drewN | apply below_drew1 | refine below_set ?_ GE175.out) | exact HB.out)))).mono ?_); rintro e w19 ⟨rfl, hb⟩; have n0_ := Aside0.mk (blk_below (g := gb175) (o := .cells #[.int .i64 ((rd_T74 l0 x7_1).f0), .int .i64 ((rd_T74 l0 x7_1).f1), .int .i64 ((rd_T74 l0 x7_1).f2.f0), .int .i64 ((rd_T74 l0 x7_1).f2.f1), .int .i64 ((rd_T74 l0 x7_1).f2.f2), .bool ((rd_T74 l0 x7_1).f2.f3), .string ((rd_T74 l0 x7_1).f2.f4), .int .i64 ((rd_T74 l0 x7_1).f2.f5)] 74 (0, 0)) (by (with_reducible repeat (first | refine blk_drewN ?_ _ | refine blk_drew ?_ | refine blk_alloc ?_ _)); exact BK175.out) hb); have n1_ := Aside0.mk (below_step (by repeat (first | (with_reducible first | exact HB.out | apply below_alloc | apply pw_below_drewN | apply below_drew1 | refine below_set ?_ GE175.out) | exact HB.out)) hb); clear BK175; clear HB; have BK175 := n0_; have HB := n1_; clear n0_ n1_; (try clear hb); (try clear hb2); (try clear hk); (try clear hi)))
                        repeat (go_quiet (first | (go_at_call 83; (with_reducible refine (answer_Check.calls kj4 ((rd_T74 l0 x7_1).f2.f0) ((rd_T74 l0 x7_1).f2.f1) ((rd_T74 l0 x7_1).f2.f2) ((rd_T74 l0 x7_1).f2.f3) ((rd_T74 l0 x7_1).f2.f4) ((rd_T74 l0 x7_1).f2.f5) t177 _ A16.out (HT.out.go (by repeat (first | (with_reducible first | exact HB.out | apply below_alloc | apply pw_below_drewN | apply below_drew1 | refine below_set ?_ GE175.out) | exact HB.out)))).mono ?_); rintro e w19 ⟨rfl, hb⟩; have n0_ := Aside0.mk (blk_below (g := gb175) (o := .cells #[.int .i64 ((rd_T74 l0 x7_1).f0), .int .i64 ((rd_T74 l0 x7_1).f1), .int .i64 ((rd_T74 l0 x7_1).f2.f0), .int .i64 ((rd_T74 l0 x7_1).f2.f1), .int .i64 ((rd_T74 l0 x7_1).f2.f2), .bool ((rd_T74 l0 x7_1).f2.f3), .string ((rd_T74 l0 x7_1).f2.f4), .int .i64 ((rd_T74 l0 x7_1).f2.f5)] 74 (0, 0)) (by (with_reducible repeat (first | refine blk_drewN ?_ _ | refine blk_drew ?_ | refine blk_alloc ?_ _)); exact BK175.out) hb); have n1_ := Aside0.mk (below_step (by repeat (first | (with_reducible first | exact HB.out | apply below_alloc | apply pw_below_drewN | apply below_drew1 | refine below_set ?_ GE175.out) | exact HB.out)) hb); clear BK175; clear HB; have BK175 := n0_; have HB := n1_; clear n0_ n1_; (try clear hb); (try clear hb2); (try clear hk); (try clear hi))); try go_wp2_with (first | (go_at_call 83; (with_reducible refine (answer_Check.calls kj4 ((rd_T74 l0 x7_1).f2.f0) ((rd_T74 l0 x7_1).f2.f1) ((rd_T74 l0 x7_1).f2.f2) ((rd_T74 l0 x7_1).f2.f3) ((rd_T74 l0 x7_1).f2.f4) ((rd_T74 l0 x7_1).f2.f5) t177 _ A16.out (HT.out.go (by repeat (first | (with_reducible first | exact HB.out | apply below_alloc | apply pw_below_drewN | apply below_drew1 | refine below_set ?_ GE175.out) | exact HB.out)))).mono ?_); rintro e w19 ⟨rfl, hb⟩; have n0_ := Aside0.mk (blk_below (g := gb175) (o := .cells #[.int .i64 ((rd_T74 l0 x7_1).f0), .int .i64 ((rd_T74 l0 x7_1).f1), .int .i64 ((rd_T74 l0 x7_1).f2.f0), .int .i64 ((rd_T74 l0 x7_1).f2.f1), .int .i64 ((rd_T74 l0 x7_1).f2.f2), .bool ((rd_T74 l0 x7_1).f2.f3), .string ((rd_T74 l0 x7_1).f2.f4), .int .i64 ((rd_T74 l0 x7_1).f2.f5)] 74 (0, 0)) (by (with_reducible repeat (first | refine blk_drewN ?_ _ | refine blk_drew ?_ | refine blk_alloc ?_ _)); exact BK175.out) hb); have n1_ := Aside0.mk (below_step (by repeat (first | (with_reducible first | exact HB.out | apply below_alloc | apply pw_below_drewN | apply below_drew1 | refine below_set ?_ GE175.out) | exact HB.out)) hb); clear BK175; clear HB; have BK175 := n0_; have HB := n1_; clear n0_ n1_; (try clear hb); (try clear hb2); (try clear hk); (try clear hi))))
                        go_roundg kj4
                        case measure => have := HK1.out; have := HJ4.out; omega
                        case rel => exact ⟨(wrap64 (x7_1 + 1)), (by first | rfl | (simp; done) | (simp [*]; done)), H', ⟨by have := HK1.out; have := HJ4.out; omega⟩, ⟨by repeat (first | (with_reducible first | exact HB.out | apply below_alloc | apply pw_below_drewN | apply below_drew1 | refine below_set ?_ GE175.out) | exact HB.out)⟩⟩
                      · rw [if_neg c17] at H
                        have c17b0 : (t177 == 0) = false := beq_eq_false_iff_ne.mpr c17
                        have c17b1 : (t177 != 0) = true := bne_iff_ne.mpr c17
                        obtain rfl := Option.some.inj H
                        have hcz20_0 : wc.cell? ⟨gb175, 0, none⟩ = some (.int .i64 ((rd_T74 l0 x7_1).f0)) := (blk_cell BK175.out 0).trans rfl
                        have hcz20_1 : wc.cell? ⟨gb175, 1, none⟩ = some (.int .i64 ((rd_T74 l0 x7_1).f1)) := (blk_cell BK175.out 1).trans rfl
                        have hcz20_2 : wc.cell? ⟨gb175, 2, none⟩ = some (.int .i64 ((rd_T74 l0 x7_1).f2.f0)) := (blk_cell BK175.out 2).trans rfl
                        have hcz20_3 : wc.cell? ⟨gb175, 3, none⟩ = some (.int .i64 ((rd_T74 l0 x7_1).f2.f1)) := (blk_cell BK175.out 3).trans rfl
                        have hcz20_4 : wc.cell? ⟨gb175, 4, none⟩ = some (.int .i64 ((rd_T74 l0 x7_1).f2.f2)) := (blk_cell BK175.out 4).trans rfl
                        have hcz20_5 : wc.cell? ⟨gb175, 5, none⟩ = some (.bool ((rd_T74 l0 x7_1).f2.f3)) := (blk_cell BK175.out 5).trans rfl
                        have hcz20_6 : wc.cell? ⟨gb175, 6, none⟩ = some (.string ((rd_T74 l0 x7_1).f2.f4)) := (blk_cell BK175.out 6).trans rfl
                        have hcz20_7 : wc.cell? ⟨gb175, 7, none⟩ = some (.int .i64 ((rd_T74 l0 x7_1).f2.f5)) := (blk_cell BK175.out 7).trans rfl
                        have hfz20_0 := blk_frozen BK175.out 0
                        have hfz20_1 := blk_frozen BK175.out 1
                        have hfz20_2 := blk_frozen BK175.out 2
                        have hfz20_3 := blk_frozen BK175.out 3
                        have hfz20_4 := blk_frozen BK175.out 4
                        have hfz20_5 := blk_frozen BK175.out 5
                        have hfz20_6 := blk_frozen BK175.out 6
                        have hfz20_7 := blk_frozen BK175.out 7
                        go_wp2_with (first | (go_at_call 83; (with_reducible refine (answer_Check.calls kj4 ((rd_T74 l0 x7_1).f2.f0) ((rd_T74 l0 x7_1).f2.f1) ((rd_T74 l0 x7_1).f2.f2) ((rd_T74 l0 x7_1).f2.f3) ((rd_T74 l0 x7_1).f2.f4) ((rd_T74 l0 x7_1).f2.f5) t177 _ A16.out (HT.out.go (by repeat (first | (with_reducible first | exact HB.out | apply below_alloc | apply pw_below_drewN | apply below_drew1 | refine below_set ?_ GE175.out) | exact HB.out)))).mono ?_); rintro e w21 ⟨rfl, hb⟩; have n0_ := Aside0.mk (blk_below (g := gb175) (o := .cells #[.int .i64 ((rd_T74 l0 x7_1).f0), .int .i64 ((rd_T74 l0 x7_1).f1), .int .i64 ((rd_T74 l0 x7_1).f2.f0), .int .i64 ((rd_T74 l0 x7_1).f2.f1), .int .i64 ((rd_T74 l0 x7_1).f2.f2), .bool ((rd_T74 l0 x7_1).f2.f3), .string ((rd_T74 l0 x7_1).f2.f4), .int .i64 ((rd_T74 l0 x7_1).f2.f5)] 74 (0, 0)) (by (with_reducible repeat (first | refine blk_drewN ?_ _ | refine blk_drew ?_ | refine blk_alloc ?_ _)); exact BK175.out) hb); have n1_ := Aside0.mk (below_step (by repeat (first | (with_reducible first | exact HB.out | apply below_alloc | apply pw_below_drewN | apply below_drew1 | refine below_set ?_ GE175.out) | exact HB.out)) hb); clear BK175; clear HB; have BK175 := n0_; have HB := n1_; clear n0_ n1_; (try clear hb); (try clear hb2); (try clear hk); (try clear hi)))
                        repeat (go_quiet (first | (go_at_call 83; (with_reducible refine (answer_Check.calls kj4 ((rd_T74 l0 x7_1).f2.f0) ((rd_T74 l0 x7_1).f2.f1) ((rd_T74 l0 x7_1).f2.f2) ((rd_T74 l0 x7_1).f2.f3) ((rd_T74 l0 x7_1).f2.f4) ((rd_T74 l0 x7_1).f2.f5) t177 _ A16.out (HT.out.go (by repeat (first | (with_reducible first | exact HB.out | apply below_alloc | apply pw_below_drewN | apply below_drew1 | refine below_set ?_ GE175.out) | exact HB.out)))).mono ?_); rintro e w21 ⟨rfl, hb⟩; have n0_ := Aside0.mk (blk_below (g := gb175) (o := .cells #[.int .i64 ((rd_T74 l0 x7_1).f0), .int .i64 ((rd_T74 l0 x7_1).f1), .int .i64 ((rd_T74 l0 x7_1).f2.f0), .int .i64 ((rd_T74 l0 x7_1).f2.f1), .int .i64 ((rd_T74 l0 x7_1).f2.f2), .bool ((rd_T74 l0 x7_1).f2.f3), .string ((rd_T74 l0 x7_1).f2.f4), .int .i64 ((rd_T74 l0 x7_1).f2.f5)] 74 (0, 0)) (by (with_reducible repeat (first | refine blk_drewN ?_ _ | refine blk_drew ?_ | refine blk_alloc ?_ _)); exact BK175.out) hb); have n1_ := Aside0.mk (below_step (by repeat (first | (with_reducible first | exact HB.out | apply below_alloc | apply pw_below_drewN | apply below_drew1 | refine below_set ?_ GE175.out) | exact HB.out)) hb); clear BK175; clear HB; have BK175 := n0_; have HB := n1_; clear n0_ n1_; (try clear hb); (try clear hb2); (try clear hk); (try clear hi))); try go_wp2_with (first | (go_at_call 83; (with_reducible refine (answer_Check.calls kj4 ((rd_T74 l0 x7_1).f2.f0) ((rd_T74 l0 x7_1).f2.f1) ((rd_T74 l0 x7_1).f2.f2) ((rd_T74 l0 x7_1).f2.f3) ((rd_T74 l0 x7_1).f2.f4) ((rd_T74 l0 x7_1).f2.f5) t177 _ A16.out (HT.out.go (by repeat (first | (with_reducible first | exact HB.out | apply below_alloc | apply pw_below_drewN | apply below_drew1 | refine below_set ?_ GE175.out) | exact HB.out)))).mono ?_); rintro e w21 ⟨rfl, hb⟩; have n0_ := Aside0.mk (blk_below (g := gb175) (o := .cells #[.int .i64 ((rd_T74 l0 x7_1).f0), .int .i64 ((rd_T74 l0 x7_1).f1), .int .i64 ((rd_T74 l0 x7_1).f2.f0), .int .i64 ((rd_T74 l0 x7_1).f2.f1), .int .i64 ((rd_T74 l0 x7_1).f2.f2), .bool ((rd_T74 l0 x7_1).f2.f3), .string ((rd_T74 l0 x7_1).f2.f4), .int .i64 ((rd_T74 l0 x7_1).f2.f5)] 74 (0, 0)) (by (with_reducible repeat (first | refine blk_drewN ?_ _ | refine blk_drew ?_ | refine blk_alloc ?_ _)); exact BK175.out) hb); have n1_ := Aside0.mk (below_step (by repeat (first | (with_reducible first | exact HB.out | apply below_alloc | apply pw_below_drewN | apply below_drew1 | refine below_set ?_ GE175.out) | exact HB.out)) hb); clear BK175; clear HB; have BK175 := n0_; have HB := n1_; clear n0_ n1_; (try clear hb); (try clear hb2); (try clear hk); (try clear hi))))
                        go_ret
                        exact ⟨by first | rfl | (simp [errW_none, errW_some] <;> rfl) | (simp [*, errW_none, errW_some] <;> rfl), by repeat (first | (with_reducible first | exact HB.out | apply below_alloc | apply pw_below_drewN | apply below_drew1 | refine below_set ?_ GE175.out) | exact HB.out)⟩
                    · rw [if_neg c15] at H
                      have c15b0 : (((rd_T74 l0 x7_1).f2.f1) == ((rd_T74 l0 x7_1).f1)) = false := beq_eq_false_iff_ne.mpr c15
                      have c15b1 : (((rd_T74 l0 x7_1).f2.f1) != ((rd_T74 l0 x7_1).f1)) = true := bne_iff_ne.mpr c15
                      obtain rfl := Option.some.inj H
                      have hcz22_0 : wc.cell? ⟨gb175, 0, none⟩ = some (.int .i64 ((rd_T74 l0 x7_1).f0)) := (blk_cell BK175.out 0).trans rfl
                      have hcz22_1 : wc.cell? ⟨gb175, 1, none⟩ = some (.int .i64 ((rd_T74 l0 x7_1).f1)) := (blk_cell BK175.out 1).trans rfl
                      have hcz22_2 : wc.cell? ⟨gb175, 2, none⟩ = some (.int .i64 ((rd_T74 l0 x7_1).f2.f0)) := (blk_cell BK175.out 2).trans rfl
                      have hcz22_3 : wc.cell? ⟨gb175, 3, none⟩ = some (.int .i64 ((rd_T74 l0 x7_1).f2.f1)) := (blk_cell BK175.out 3).trans rfl
                      have hcz22_4 : wc.cell? ⟨gb175, 4, none⟩ = some (.int .i64 ((rd_T74 l0 x7_1).f2.f2)) := (blk_cell BK175.out 4).trans rfl
                      have hcz22_5 : wc.cell? ⟨gb175, 5, none⟩ = some (.bool ((rd_T74 l0 x7_1).f2.f3)) := (blk_cell BK175.out 5).trans rfl
                      have hcz22_6 : wc.cell? ⟨gb175, 6, none⟩ = some (.string ((rd_T74 l0 x7_1).f2.f4)) := (blk_cell BK175.out 6).trans rfl
                      have hcz22_7 : wc.cell? ⟨gb175, 7, none⟩ = some (.int .i64 ((rd_T74 l0 x7_1).f2.f5)) := (blk_cell BK175.out 7).trans rfl
                      have hfz22_0 := blk_frozen BK175.out 0
                      have hfz22_1 := blk_frozen BK175.out 1
                      have hfz22_2 := blk_frozen BK175.out 2
                      have hfz22_3 := blk_frozen BK175.out 3
                      have hfz22_4 := blk_frozen BK175.out 4
                      have hfz22_5 := blk_frozen BK175.out 5
                      have hfz22_6 := blk_frozen BK175.out 6
                      have hfz22_7 := blk_frozen BK175.out 7
                      go_wp2
                      repeat (go_quiet (fail); try go_wp2)
                      go_ret
                      exact ⟨by first | rfl | (simp [errW_none, errW_some] <;> rfl) | (simp [*, errW_none, errW_some] <;> rfl), by repeat (first | (with_reducible first | exact HB.out | apply below_alloc | apply pw_below_drewN | apply below_drew1 | refine below_set ?_ GE175.out) | exact HB.out)⟩
                  · rw [if_neg c14] at H
                    have c14b0 : (((rd_T74 l0 x7_1).f2.f0) == ((rd_T74 l0 x7_1).f0)) = false := beq_eq_false_iff_ne.mpr c14
                    have c14b1 : (((rd_T74 l0 x7_1).f2.f0) != ((rd_T74 l0 x7_1).f0)) = true := bne_iff_ne.mpr c14
                    obtain rfl := Option.some.inj H
                    have hcz23_0 : wc.cell? ⟨gb175, 0, none⟩ = some (.int .i64 ((rd_T74 l0 x7_1).f0)) := (blk_cell BK175.out 0).trans rfl
                    have hcz23_1 : wc.cell? ⟨gb175, 1, none⟩ = some (.int .i64 ((rd_T74 l0 x7_1).f1)) := (blk_cell BK175.out 1).trans rfl
                    have hcz23_2 : wc.cell? ⟨gb175, 2, none⟩ = some (.int .i64 ((rd_T74 l0 x7_1).f2.f0)) := (blk_cell BK175.out 2).trans rfl
                    have hcz23_3 : wc.cell? ⟨gb175, 3, none⟩ = some (.int .i64 ((rd_T74 l0 x7_1).f2.f1)) := (blk_cell BK175.out 3).trans rfl
                    have hcz23_4 : wc.cell? ⟨gb175, 4, none⟩ = some (.int .i64 ((rd_T74 l0 x7_1).f2.f2)) := (blk_cell BK175.out 4).trans rfl
                    have hcz23_5 : wc.cell? ⟨gb175, 5, none⟩ = some (.bool ((rd_T74 l0 x7_1).f2.f3)) := (blk_cell BK175.out 5).trans rfl
                    have hcz23_6 : wc.cell? ⟨gb175, 6, none⟩ = some (.string ((rd_T74 l0 x7_1).f2.f4)) := (blk_cell BK175.out 6).trans rfl
                    have hcz23_7 : wc.cell? ⟨gb175, 7, none⟩ = some (.int .i64 ((rd_T74 l0 x7_1).f2.f5)) := (blk_cell BK175.out 7).trans rfl
                    have hfz23_0 := blk_frozen BK175.out 0
                    have hfz23_1 := blk_frozen BK175.out 1
                    have hfz23_2 := blk_frozen BK175.out 2
                    have hfz23_3 := blk_frozen BK175.out 3
                    have hfz23_4 := blk_frozen BK175.out 4
                    have hfz23_5 := blk_frozen BK175.out 5
                    have hfz23_6 := blk_frozen BK175.out 6
                    have hfz23_7 := blk_frozen BK175.out 7
                    go_wp2
                    repeat (go_quiet (fail); try go_wp2)
                    go_ret
                    exact ⟨by first | rfl | (simp [errW_none, errW_some] <;> rfl) | (simp [*, errW_none, errW_some] <;> rfl), by repeat (first | (with_reducible first | exact HB.out | apply below_alloc | apply pw_below_drewN | apply below_drew1 | refine below_set ?_ GE175.out) | exact HB.out)⟩
          · rw [if_neg c4] at H
            exact absurd H (by simp)
        · rw [if_neg c3] at H
          exact absurd H (by simp)
      · rw [if_neg c2] at H
        have c2b0 : decide (x7_1 < (l0.length : Int)) = false := decide_eq_false c2
        clear c2
        obtain rfl := Option.some.inj H
        go_wp2
        repeat (go_quiet (fail); try go_wp2)
        go_ret
        exact ⟨by first | rfl | (simp [errW_none, errW_some] <;> rfl) | (simp [*, errW_none, errW_some] <;> rfl), by repeat (first | (with_reducible first | exact HB.out | apply below_alloc | apply pw_below_drewN | apply below_drew1) | exact HB.out)⟩

end Go.Proofs.YtalpmbeddldfoaaDoor.PA
