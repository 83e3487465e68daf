-- A text that a program wrote for this claim (print.py over stand-in bodies, tool/pr.sh).
import Derived.Test.YtalpmbeddldfoaaF0
namespace Go.Proofs.Ytalpmbeddldfoaa.PA
open Go.RowKit Go.Proofs.Ytalpmbeddldfoaa.Hand Go.Proofs.YtalpmbeddldfoaaW.PrintWords Go.Proofs.YtalpmbeddldfoaaW.PrintLast Go.Proofs.YtalpmbeddldfoaaW.PrintMore
attribute [local go_sem] max2_int min2_int max_two min_two max_three min_three max_four min_four   -- for this text's walks alone
attribute [local go_sem high] str_leq str_gtr str_geq
set_option linter.unusedVariables false
set_option linter.unusedSimpArgs false

/-! ### changeoverlaw23_large: function 56 -/
def changeoverlaw23_large.f (a0_0 : Int) (a0_1 : Int) (a0_2 : Int) (a0_3 : ByteArray) (a0_4 : ByteArray) (a0_5 : ByteArray) (a0_6 : Int) : Option (Bool) := if (a0_3.size : Int) > 200 then (some true) else (if (a0_4.size : Int) > 200 then (some true) else (some (decide ((a0_5.size : Int) > 200))))
set_option maxHeartbeats 8000000 in
set_option maxRecDepth 100000 in
theorem changeoverlaw23_large.calls (a0_0 : Int) (a0_1 : Int) (a0_2 : Int) (a0_3 : ByteArray) (a0_4 : ByteArray) (a0_5 : ByteArray) (a0_6 : Int) (r : Bool) (w : World) (h : changeoverlaw23_large.f a0_0 a0_1 a0_2 a0_3 a0_4 a0_5 a0_6 = some r) :
    Calls Try.prog 56 #[.agg #[.int .i64 a0_0, .int .i64 a0_1, .int .i64 a0_2, .string a0_3, .string a0_4, .string a0_5, .int .i64 a0_6]] w fun e w' => e = .returned (.bool r) ∧ Below w.heap.size w w' := by
  have hu72 := Try.underlying72
  have HB := Aside0.mk (Below.refl w.heap.size w)
  have H : (if (a0_3.size : Int) > 200 then (some true) else (if (a0_4.size : Int) > 200 then (some true) else (some (decide ((a0_5.size : Int) > 200))))) = some r := h
  clear h
  by_cases c2 : (a0_3.size : Int) > 200
  · rw [if_pos c2] at H
    have c2b0 : decide (200 < (a0_3.size : Int)) = true := decide_eq_true c2
    have c2b1 : decide (200 < a0_3.size) = true := decide_eq_true (by omega)
    clear c2
    obtain rfl := Option.some.inj H
    go_enter Try.func56, Try.ntmps56
    go_wp2_with (first | ((with_reducible refine gate_dst (N := 1) rfl ?_); (try (refine gate_guard (by rfl) ?_; dsimp only)); refine box_event ?hg (N := 1) ?hd (cs := #[.int .i64 a0_0, .int .i64 a0_1, .int .i64 a0_2, .string a0_3, .string a0_4, .string a0_5, .int .i64 a0_6]) (t := 72) ?hr ?_; (case hd => rfl); (case hg => rfl); (case hr => first | (go_simp; done) | (go_simp; rfl)); intro gb463 hg w3 hbox hb; have n0_ := Aside0.mk (below_step (by repeat (first | (with_reducible first | exact HB.out | apply below_alloc | apply pw_below_drewN | apply below_drew1) | exact HB.out)) hb); have n1_ := Aside0.mk (hbox); have n2_ := Aside0.mk ((by rw [hg]; exact (below_size (by repeat (first | (with_reducible first | exact HB.out | apply below_alloc | apply pw_below_drewN | apply below_drew1) | exact HB.out))) : w.heap.size ≤ gb463)); have n3_ := Aside0.mk ((by rw [hg]; exact (below_size (by repeat (first | (with_reducible first | exact HB.out | apply below_alloc | apply pw_below_drewN | apply below_drew1) | exact HB.out))) : w.heap.size ≤ gb463)); clear HB; have HB := n0_; have BK463 := n1_; have GW463 := n2_; have GE463 := n3_; clear n0_ n1_ n2_ n3_; clear hb hbox hg; have hcz4_0 : w3.cell? ⟨gb463, 0, none⟩ = some (.int .i64 a0_0) := (blk_cell BK463.out 0).trans rfl; have hcz4_1 : w3.cell? ⟨gb463, 1, none⟩ = some (.int .i64 a0_1) := (blk_cell BK463.out 1).trans rfl; have hcz4_2 : w3.cell? ⟨gb463, 2, none⟩ = some (.int .i64 a0_2) := (blk_cell BK463.out 2).trans rfl; have hcz4_3 : w3.cell? ⟨gb463, 3, none⟩ = some (.string a0_3) := (blk_cell BK463.out 3).trans rfl; have hcz4_4 : w3.cell? ⟨gb463, 4, none⟩ = some (.string a0_4) := (blk_cell BK463.out 4).trans rfl; have hcz4_5 : w3.cell? ⟨gb463, 5, none⟩ = some (.string a0_5) := (blk_cell BK463.out 5).trans rfl; have hcz4_6 : w3.cell? ⟨gb463, 6, none⟩ = some (.int .i64 a0_6) := (blk_cell BK463.out 6).trans rfl; have hfz4_0 := blk_frozen BK463.out 0; have hfz4_1 := blk_frozen BK463.out 1; have hfz4_2 := blk_frozen BK463.out 2; have hfz4_3 := blk_frozen BK463.out 3; have hfz4_4 := blk_frozen BK463.out 4; have hfz4_5 := blk_frozen BK463.out 5; have hfz4_6 := blk_frozen BK463.out 6))
    go_ret
    exact ⟨by first | rfl | (simp [errW_none, errW_some] <;> rfl) | (simp [*, errW_none, errW_some] <;> rfl), by repeat (first | (with_reducible first | exact HB.out | apply below_alloc | apply pw_below_drewN | apply below_drew1 | refine below_set ?_ GE463.out) | exact HB.out)⟩
  · rw [if_neg c2] at H
    have c2b0 : decide (200 < (a0_3.size : Int)) = false := decide_eq_false c2
    have c2b1 : decide (200 < a0_3.size) = false := decide_eq_false (by omega)
    clear c2
    by_cases c5 : (a0_4.size : Int) > 200
    · rw [if_pos c5] at H
      have c5b0 : decide (200 < (a0_4.size : Int)) = true := decide_eq_true c5
      have c5b1 : decide (200 < a0_4.size) = true := decide_eq_true (by omega)
      clear c5
      obtain rfl := Option.some.inj H
      go_enter Try.func56, Try.ntmps56
      go_wp2_with (first | ((with_reducible refine gate_dst (N := 1) rfl ?_); (try (refine gate_guard (by rfl) ?_; dsimp only)); refine box_event ?hg (N := 1) ?hd (cs := #[.int .i64 a0_0, .int .i64 a0_1, .int .i64 a0_2, .string a0_3, .string a0_4, .string a0_5, .int .i64 a0_6]) (t := 72) ?hr ?_; (case hd => rfl); (case hg => rfl); (case hr => first | (go_simp; done) | (go_simp; rfl)); intro gb463 hg w6 hbox hb; have n0_ := Aside0.mk (below_step (by repeat (first | (with_reducible first | exact HB.out | apply below_alloc | apply pw_below_drewN | apply below_drew1) | exact HB.out)) hb); have n1_ := Aside0.mk (hbox); have n2_ := Aside0.mk ((by rw [hg]; exact (below_size (by repeat (first | (with_reducible first | exact HB.out | apply below_alloc | apply pw_below_drewN | apply below_drew1) | exact HB.out))) : w.heap.size ≤ gb463)); have n3_ := Aside0.mk ((by rw [hg]; exact (below_size (by repeat (first | (with_reducible first | exact HB.out | apply below_alloc | apply pw_below_drewN | apply below_drew1) | exact HB.out))) : w.heap.size ≤ gb463)); clear HB; have HB := n0_; have BK463 := n1_; have GW463 := n2_; have GE463 := n3_; clear n0_ n1_ n2_ n3_; clear hb hbox hg; have hcz7_0 : w6.cell? ⟨gb463, 0, none⟩ = some (.int .i64 a0_0) := (blk_cell BK463.out 0).trans rfl; have hcz7_1 : w6.cell? ⟨gb463, 1, none⟩ = some (.int .i64 a0_1) := (blk_cell BK463.out 1).trans rfl; have hcz7_2 : w6.cell? ⟨gb463, 2, none⟩ = some (.int .i64 a0_2) := (blk_cell BK463.out 2).trans rfl; have hcz7_3 : w6.cell? ⟨gb463, 3, none⟩ = some (.string a0_3) := (blk_cell BK463.out 3).trans rfl; have hcz7_4 : w6.cell? ⟨gb463, 4, none⟩ = some (.string a0_4) := (blk_cell BK463.out 4).trans rfl; have hcz7_5 : w6.cell? ⟨gb463, 5, none⟩ = some (.string a0_5) := (blk_cell BK463.out 5).trans rfl; have hcz7_6 : w6.cell? ⟨gb463, 6, none⟩ = some (.int .i64 a0_6) := (blk_cell BK463.out 6).trans rfl; have hfz7_0 := blk_frozen BK463.out 0; have hfz7_1 := blk_frozen BK463.out 1; have hfz7_2 := blk_frozen BK463.out 2; have hfz7_3 := blk_frozen BK463.out 3; have hfz7_4 := blk_frozen BK463.out 4; have hfz7_5 := blk_frozen BK463.out 5; have hfz7_6 := blk_frozen BK463.out 6))
      go_ret
      exact ⟨by first | rfl | (simp [errW_none, errW_some] <;> rfl) | (simp [*, errW_none, errW_some] <;> rfl), by repeat (first | (with_reducible first | exact HB.out | apply below_alloc | apply pw_below_drewN | apply below_drew1 | refine below_set ?_ GE463.out) | exact HB.out)⟩
    · rw [if_neg c5] at H
      have c5b0 : decide (200 < (a0_4.size : Int)) = false := decide_eq_false c5
      have c5b1 : decide (200 < a0_4.size) = false := decide_eq_false (by omega)
      clear c5
      obtain rfl := Option.some.inj H
      go_enter Try.func56, Try.ntmps56
      go_wp2_with (first | ((with_reducible refine gate_dst (N := 1) rfl ?_); (try (refine gate_guard (by rfl) ?_; dsimp only)); refine box_event ?hg (N := 1) ?hd (cs := #[.int .i64 a0_0, .int .i64 a0_1, .int .i64 a0_2, .string a0_3, .string a0_4, .string a0_5, .int .i64 a0_6]) (t := 72) ?hr ?_; (case hd => rfl); (case hg => rfl); (case hr => first | (go_simp; done) | (go_simp; rfl)); intro gb463 hg w8 hbox hb; have n0_ := Aside0.mk (below_step (by repeat (first | (with_reducible first | exact HB.out | apply below_alloc | apply pw_below_drewN | apply below_drew1) | exact HB.out)) hb); have n1_ := Aside0.mk (hbox); have n2_ := Aside0.mk ((by rw [hg]; exact (below_size (by repeat (first | (with_reducible first | exact HB.out | apply below_alloc | apply pw_below_drewN | apply below_drew1) | exact HB.out))) : w.heap.size ≤ gb463)); have n3_ := Aside0.mk ((by rw [hg]; exact (below_size (by repeat (first | (with_reducible first | exact HB.out | apply below_alloc | apply pw_below_drewN | apply below_drew1) | exact HB.out))) : w.heap.size ≤ gb463)); clear HB; have HB := n0_; have BK463 := n1_; have GW463 := n2_; have GE463 := n3_; clear n0_ n1_ n2_ n3_; clear hb hbox hg; have hcz9_0 : w8.cell? ⟨gb463, 0, none⟩ = some (.int .i64 a0_0) := (blk_cell BK463.out 0).trans rfl; have hcz9_1 : w8.cell? ⟨gb463, 1, none⟩ = some (.int .i64 a0_1) := (blk_cell BK463.out 1).trans rfl; have hcz9_2 : w8.cell? ⟨gb463, 2, none⟩ = some (.int .i64 a0_2) := (blk_cell BK463.out 2).trans rfl; have hcz9_3 : w8.cell? ⟨gb463, 3, none⟩ = some (.string a0_3) := (blk_cell BK463.out 3).trans rfl; have hcz9_4 : w8.cell? ⟨gb463, 4, none⟩ = some (.string a0_4) := (blk_cell BK463.out 4).trans rfl; have hcz9_5 : w8.cell? ⟨gb463, 5, none⟩ = some (.string a0_5) := (blk_cell BK463.out 5).trans rfl; have hcz9_6 : w8.cell? ⟨gb463, 6, none⟩ = some (.int .i64 a0_6) := (blk_cell BK463.out 6).trans rfl; have hfz9_0 := blk_frozen BK463.out 0; have hfz9_1 := blk_frozen BK463.out 1; have hfz9_2 := blk_frozen BK463.out 2; have hfz9_3 := blk_frozen BK463.out 3; have hfz9_4 := blk_frozen BK463.out 4; have hfz9_5 := blk_frozen BK463.out 5; have hfz9_6 := blk_frozen BK463.out 6))
      go_ret
      exact ⟨by first | rfl | (simp [errW_none, errW_some] <;> rfl) | (simp [*, errW_none, errW_some] <;> rfl), by repeat (first | (with_reducible first | exact HB.out | apply below_alloc | apply pw_below_drewN | apply below_drew1 | refine below_set ?_ GE463.out) | exact HB.out)⟩

end Go.Proofs.Ytalpmbeddldfoaa.PA
