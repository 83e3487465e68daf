-- A text that a program wrote for this claim (print.py over stand-in bodies, tool/pr.sh).
import Derived.Test.YtalpmbeddldfoaaF0
import Derived.Test.YtalpmbeddldfoaaFKvoneFind
import Derived.Test.YtalpmbeddldfoaaFKvtwoSet
import Derived.Test.YtalpmbeddldfoaaFKvtwoNext
namespace Go.Proofs.Ytalpmbeddldfoaa.PA
open Go.RowKit Go.Proofs.Ytalpmbeddldfoaa.Hand Go.Proofs.YtalpmbeddldfoaaW.PrintWords Go.Proofs.YtalpmbeddldfoaaW.PrintLast Go.Proofs.YtalpmbeddldfoaaW.PrintMore
attribute [local go_sem] max2_int min2_int max_two min_two max_three min_three max_four min_four   -- for this text's walks alone
attribute [local go_sem high] str_leq str_gtr str_geq
set_option linter.unusedVariables false
set_option linter.unusedSimpArgs false

/-! ### kvtwo_cas: function 101 -/
def kvtwo_cas.f (k : Nat) (l0 : List (S78)) (a1_0 : Int) (a1_1 : Int) (a1_2 : Int) (a1_3 : ByteArray) (a1_4 : ByteArray) (a1_5 : ByteArray) (a1_6 : Int) : Option ((List (S78)) × Int × Int × Int × Bool × ByteArray × Int) := (kvone_Find.f k l0 a1_3).bind fun bt646 => (if bt646.2.2.2 = true then (if bt646.2.1.toList = a1_5.toList then ((kvtwo_next.f bt646.2.2.1).bind fun t651 => ((kvtwo_set.f k l0 a1_3 a1_4 t651).bind fun t652 => (some (t652, a1_1, a1_2, 0, true, bt646.2.1, t651)))) else (some (l0, a1_1, a1_2, 15, true, bt646.2.1, bt646.2.2.1))) else (some (l0, a1_1, a1_2, 10, false, (⟨#[]⟩ : ByteArray), 0)))
theorem kvtwo_cas.mono : ∀ a0 a1 a2 a3 a4 a5 a6 a7 k, LeO (kvtwo_cas.f k a0 a1 a2 a3 a4 a5 a6 a7) (kvtwo_cas.f (k + 1) a0 a1 a2 a3 a4 a5 a6 a7) := by
  intro a0 a1 a2 a3 a4 a5 a6 a7 k
  unfold kvtwo_cas.f
  repeat' first
      | (with_reducible exact kvone_Find.mono _ _ _)
      | (with_reducible exact kvtwo_set.mono _ _ _ _ _)
      | (with_reducible exact LeO.refl _)
      | (with_reducible exact LeO.none _)
      | (with_reducible refine LeO.ite ?_ ?_)
      | (with_reducible refine LeO.bind ?_ (fun _ => ?_))
      | exact kvone_Find.mono _ _ _
      | exact kvtwo_set.mono _ _ _ _ _
      | exact LeO.none _
      | refine LeO.ite ?_ ?_
      | refine LeO.bind ?_ (fun _ => ?_)
def kvtwo_cas.T6 : Bool × List (List Nat × List Nat) := (true, [([], []), ([0], [0]), ([], []), ([2], [2]), ([], []), ([4], [4]), ([0, 1, 4, 5], []), ([6, 1, 5, 0, 1, 4, 5], [1, 6]), ([0, 1, 2, 3, 4, 5, 6, 7], []), ([8, 3, 7, 0, 1, 2, 3, 4, 5, 6, 7], [3, 8])])
def kvtwo_cas.B6 : List Nat := [0, 1, 0, 4, 0, 16, 51, 115, 255, 511]
theorem kvtwo_cas.tab6 : rtab .any (opsOf Try.f101 6) = kvtwo_cas.T6 := by kernel_rfl
theorem kvtwo_cas.bits6 : waitsOk kvtwo_cas.T6.2 kvtwo_cas.B6 = true := by kernel_rfl
def kvtwo_cas.T11 : Bool × List (List Nat × List Nat) := (true, [([], []), ([], []), ([1], [1]), ([], []), ([3], [3]), ([], []), ([5], [5]), ([2, 4, 6], [2, 4, 6]), ([0, 7], [0, 7]), ([], []), ([8, 8, 0, 1, 2, 3, 4, 5, 6, 7, 8], [8]), ([9, 10, 0, 1, 2, 3, 4, 5, 6, 7, 8, 9, 10], [9])])
def kvtwo_cas.B11 : List Nat := [0, 0, 2, 0, 8, 0, 32, 126, 255, 0, 511, 2047]
theorem kvtwo_cas.tab11 : rtab .any (opsOf Try.f101 11) = kvtwo_cas.T11 := by kernel_rfl
theorem kvtwo_cas.bits11 : waitsOk kvtwo_cas.T11.2 kvtwo_cas.B11 = true := by kernel_rfl
set_option maxHeartbeats 8000000 in
set_option maxRecDepth 100000 in
theorem kvtwo_cas.calls (k : Nat) (P0_ : Nat → Prop) (u9000_ : Value) (l0 : List (S78)) (a1_0 : Int) (a1_1 : Int) (a1_2 : Int) (a1_3 : ByteArray) (a1_4 : ByteArray) (a1_5 : ByteArray) (a1_6 : Int) (r1 : List (S78)) (r2 : Int) (r3 : Int) (r4 : Int) (r5 : Bool) (r6 : ByteArray) (r7 : Int) (w0 w : World) (hB : Below w0.heap.size w0 w) (ho0 : Kd.R k78 78 w w0.heap.size P0_ u9000_ l0) (h : kvtwo_cas.f k l0 a1_0 a1_1 a1_2 a1_3 a1_4 a1_5 a1_6 = some (r1, r2, r3, r4, r5, r6, r7)) :
    Calls Try.prog 101 #[u9000_, .agg #[.int .i64 a1_0, .int .i64 a1_1, .int .i64 a1_2, .string a1_3, .string a1_4, .string a1_5, .int .i64 a1_6]] w fun e w' => ∃ v0_ : Value, e = .returned (.tuple #[v0_, .agg #[.int .i64 r2, .int .i64 r3, .int .i64 r4, .bool r5, .string r6, .int .i64 r7]]) ∧ Kd.R k78 78 w' w0.heap.size (fun k_ => (P0_ k_ ∨ w.heap.size ≤ k_)) v0_ r1 ∧ Below w0.heap.size w0 w' ∧ Kept w w' (fun k_ => P0_ k_) := by
  have hu72 := Try.underlying72
  have hu60 := Try.underlying60
  have hu78 := Try.underlying78
  have HO0 := Aside0.mk (show Kd.R k78 78 w w0.heap.size (fun k_ => (P0_ k_ ∨ w.heap.size ≤ k_)) u9000_ l0 from Kd.R_mono ho0 (fun k_ hk => (.inl hk)))
  have HK := Aside0.mk (Kept.refl w (fun k_ => P0_ k_))
  have HW0 := Aside0.mk hB.size
  have HB := Aside0.mk hB
  clear hB
  have H : ((kvone_Find.f k l0 a1_3).bind fun bt646 => (if bt646.2.2.2 = true then (if bt646.2.1.toList = a1_5.toList then ((kvtwo_next.f bt646.2.2.1).bind fun t651 => ((kvtwo_set.f k l0 a1_3 a1_4 t651).bind fun t652 => (some (t652, a1_1, a1_2, 0, true, bt646.2.1, t651)))) else (some (l0, a1_1, a1_2, 15, true, bt646.2.1, bt646.2.2.1))) else (some (l0, a1_1, a1_2, 10, false, (⟨#[]⟩ : ByteArray), 0)))) = some (r1, r2, r3, r4, r5, r6, r7) := h
  clear h
  replace H := Option.bind_eq_some_iff.mp H
  obtain ⟨⟨t646, t647, t648, t649⟩, A30, H⟩ := H
  replace H : (if t649 = true then (if t647.toList = a1_5.toList then ((kvtwo_next.f t648).bind fun t651 => ((kvtwo_set.f k l0 a1_3 a1_4 t651).bind fun t652 => (some (t652, a1_1, a1_2, 0, true, t647, t651)))) else (some (l0, a1_1, a1_2, 15, true, t647, t648))) else (some (l0, a1_1, a1_2, 10, false, (⟨#[]⟩ : ByteArray), 0))) = some (r1, r2, r3, r4, r5, r6, r7) := H
  have A3 := Aside0.mk A30
  clear A30
  by_cases c4 : t649 = true
  · subst c4
    have H1 : (if t647.toList = a1_5.toList then ((kvtwo_next.f t648).bind fun t651 => ((kvtwo_set.f k l0 a1_3 a1_4 t651).bind fun t652 => (some (t652, a1_1, a1_2, 0, true, t647, t651)))) else (some (l0, a1_1, a1_2, 15, true, t647, t648))) = some (r1, r2, r3, r4, r5, r6, r7) := by rw [if_pos rfl] at H; exact H
    clear H
    have H := H1
    clear H1
    by_cases c5 : t647.toList = a1_5.toList
    · rw [if_pos c5] at H
      have c5b0 : (t647.toList == a1_5.toList) = true := beq_iff_eq.mpr c5
      have c5b1 : (t647.toList != a1_5.toList) = false := bne_eq_false_iff_eq.mpr c5
      clear c5
      replace H := Option.bind_eq_some_iff.mp H
      obtain ⟨t651, A60, H⟩ := H
      replace H : ((kvtwo_set.f k l0 a1_3 a1_4 t651).bind fun t652 => (some (t652, a1_1, a1_2, 0, true, t647, t651))) = some (r1, r2, r3, r4, r5, r6, r7) := H
      have A6 := Aside0.mk A60
      clear A60
      replace H := Option.bind_eq_some_iff.mp H
      obtain ⟨t652, A70, H⟩ := H
      replace H : (some (t652, a1_1, a1_2, 0, true, t647, t651)) = some (r1, r2, r3, r4, r5, r6, r7) := H
      have A7 := Aside0.mk A70
      clear A70
      simp only [Option.some.injEq, Prod.mk.injEq] at H
      obtain ⟨rfl, rfl, rfl, rfl, rfl, rfl, rfl⟩ := H
      go_enter Try.func101, Try.ntmps101
      try go_wp2_with (first | ((with_reducible refine gate_dst (N := 3) rfl ?_); refine box_event ?hg (N := 3) ?hd (cs := #[.int .i64 a1_0, .int .i64 a1_1, .int .i64 a1_2, .string a1_3, .string a1_4, .string a1_5, .int .i64 a1_6]) (t := 72) ?hr ?_; (case hd => rfl); (case hg => rfl); (case hr => first | (go_simp; done) | (go_simp; rfl)); intro gb643 hg w8 hbox hb; have n0_ := Aside0.mk (Kd.R_below (by (with_reducible repeat (first | apply Kd.R_alloc | apply Kd.R_drewN | apply Kd.R_drew)); exact HO0.out) hb); have n1_ := Aside0.mk (Kept.below (S := (fun k_ => P0_ k_)) (by repeat (first | (with_reducible first | exact HK.out | apply Kept.alloc | apply Kept.drewN | apply Kept.drew) | exact HK.out)) hb); have n2_ := Aside0.mk (below_step (by repeat (first | (with_reducible first | exact HB.out | apply below_alloc | apply pw_below_drewN | apply below_drew1) | exact HB.out)) hb); have n3_ := Aside0.mk (hbox); have n4_ := Aside0.mk ((by rw [hg]; exact (by first | exact HK.out.1 | exact (show Kept w _ (fun k_ => P0_ k_) from by repeat (first | (with_reducible first | exact HK.out | apply Kept.alloc | apply Kept.drewN | apply Kept.drew) | exact HK.out)).1) : w.heap.size ≤ gb643)); have n5_ := Aside0.mk ((by rw [hg]; exact (below_size (by repeat (first | (with_reducible first | exact HB.out | apply below_alloc | apply pw_below_drewN | apply below_drew1) | exact HB.out))) : w0.heap.size ≤ gb643)); clear HO0; clear HK; clear HB; have HO0 := n0_; have HK := n1_; have HB := n2_; have BK643 := n3_; have GW643 := n4_; have GE643 := n5_; clear n0_ n1_ n2_ n3_ n4_ n5_; clear hb hbox hg) | ((with_reducible refine gate_dst (N := 5) rfl ?_); refine box_event ?hg (N := 5) ?hd (cs := #[.int .i64 0, .int .i64 0, .int .i64 0, .bool false, .string (⟨#[]⟩ : ByteArray), .int .i64 0]) (t := 60) ?hr ?_; (case hd => rfl); (case hg => rfl); (case hr => first | (go_simp; done) | (go_simp; rfl)); intro gb644 hg w9 hbox hb; have n0_ := Aside0.mk (Kd.R_below (by (with_reducible repeat (first | apply Kd.R_alloc | apply Kd.R_drewN | apply Kd.R_drew)); exact HO0.out) hb); have n1_ := Aside0.mk (blk_below (g := gb643) (o := .cells #[.int .i64 a1_0, .int .i64 a1_1, .int .i64 a1_2, .string a1_3, .string a1_4, .string a1_5, .int .i64 a1_6] 72 (0, 0)) (by (with_reducible repeat (first | refine blk_drewN ?_ _ | refine blk_drew ?_ | refine blk_alloc ?_ _)); exact BK643.out) hb); have n2_ := Aside0.mk (Kept.below (S := (fun k_ => P0_ k_)) (by repeat (first | (with_reducible first | exact HK.out | apply Kept.alloc | apply Kept.drewN | apply Kept.drew | refine Kept.setCell ?_ (.inr GW643.out) _) | exact HK.out)) hb); have n3_ := Aside0.mk (below_step (by repeat (first | (with_reducible first | exact HB.out | apply below_alloc | apply pw_below_drewN | apply below_drew1 | refine below_set ?_ GE643.out) | exact HB.out)) hb); have n4_ := Aside0.mk (hbox); have n5_ := Aside0.mk ((by rw [hg]; exact (by first | exact HK.out.1 | exact (show Kept w _ (fun k_ => P0_ k_) from by repeat (first | (with_reducible first | exact HK.out | apply Kept.alloc | apply Kept.drewN | apply Kept.drew | refine Kept.setCell ?_ (.inr GW643.out) _) | exact HK.out)).1) : w.heap.size ≤ gb644)); have n6_ := Aside0.mk ((by rw [hg]; exact (below_size (by repeat (first | (with_reducible first | exact HB.out | apply below_alloc | apply pw_below_drewN | apply below_drew1 | refine below_set ?_ GE643.out) | exact HB.out))) : w0.heap.size ≤ gb644)); have n7_ := Aside0.mk ((by rw [hg]; exact Nat.ne_of_lt (blk_lt (g := gb643) (o := .cells #[.int .i64 a1_0, .int .i64 a1_1, .int .i64 a1_2, .string a1_3, .string a1_4, .string a1_5, .int .i64 a1_6] 72 (0, 0)) (by (with_reducible repeat (first | refine blk_drewN ?_ _ | refine blk_drew ?_ | refine blk_alloc ?_ _)); exact BK643.out)) : gb643 ≠ gb644)); have n8_ := Aside0.mk ((by rw [hg]; exact Nat.ne_of_gt (blk_lt (g := gb643) (o := .cells #[.int .i64 a1_0, .int .i64 a1_1, .int .i64 a1_2, .string a1_3, .string a1_4, .string a1_5, .int .i64 a1_6] 72 (0, 0)) (by (with_reducible repeat (first | refine blk_drewN ?_ _ | refine blk_drew ?_ | refine blk_alloc ?_ _)); exact BK643.out)) : gb644 ≠ gb643)); clear HO0; clear BK643; clear HK; clear HB; have HO0 := n0_; have BK643 := n1_; have HK := n2_; have HB := n3_; have BK644 := n4_; have GW644 := n5_; have GE644 := n6_; have NB643_644 := n7_; have NB644_643 := n8_; clear n0_ n1_ n2_ n3_ n4_ n5_ n6_ n7_ n8_; clear hb hbox hg; have hnb10 := NB643_644.out; have hnc10 := NB644_643.out; have hcz11_0 : w9.cell? ⟨gb643, 0, none⟩ = some (.int .i64 a1_0) := (blk_cell BK643.out 0).trans rfl; have hcz11_1 : w9.cell? ⟨gb643, 1, none⟩ = some (.int .i64 a1_1) := (blk_cell BK643.out 1).trans rfl; have hcz11_2 : w9.cell? ⟨gb643, 2, none⟩ = some (.int .i64 a1_2) := (blk_cell BK643.out 2).trans rfl; have hcz11_3 : w9.cell? ⟨gb643, 3, none⟩ = some (.string a1_3) := (blk_cell BK643.out 3).trans rfl; have hcz11_4 : w9.cell? ⟨gb643, 4, none⟩ = some (.string a1_4) := (blk_cell BK643.out 4).trans rfl; have hcz11_5 : w9.cell? ⟨gb643, 5, none⟩ = some (.string a1_5) := (blk_cell BK643.out 5).trans rfl; have hcz11_6 : w9.cell? ⟨gb643, 6, none⟩ = some (.int .i64 a1_6) := (blk_cell BK643.out 6).trans rfl; have hfz11_0 := blk_frozen BK643.out 0; have hfz11_1 := blk_frozen BK643.out 1; have hfz11_2 := blk_frozen BK643.out 2; have hfz11_3 := blk_frozen BK643.out 3; have hfz11_4 := blk_frozen BK643.out 4; have hfz11_5 := blk_frozen BK643.out 5; have hfz11_6 := blk_frozen BK643.out 6) | ((with_reducible refine gate_dst (N := 6) rfl ?_); refine box_event ?hg (N := 6) ?hd (cs := #[.int .i64 0, .int .i64 0, .int .i64 0, .bool false, .string (⟨#[]⟩ : ByteArray), .int .i64 0]) (t := 60) ?hr ?_; (case hd => rfl); (case hg => rfl); (case hr => first | (go_simp; done) | (go_simp; rfl)); intro gb645 hg w12 hbox hb; have n0_ := Aside0.mk (Kd.R_below (by (with_reducible repeat (first | apply Kd.R_alloc | apply Kd.R_drewN | apply Kd.R_drew)); exact HO0.out) hb); have n1_ := Aside0.mk (blk_below (g := gb643) (o := .cells #[.int .i64 a1_0, .int .i64 a1_1, .int .i64 a1_2, .string a1_3, .string a1_4, .string a1_5, .int .i64 a1_6] 72 (0, 0)) (by (with_reducible repeat (first | refine blk_drewN ?_ _ | refine blk_drew ?_ | refine blk_alloc ?_ _)); exact BK643.out) hb); have n2_ := Aside0.mk (blk_below (g := gb644) (o := .cells #[.int .i64 0, .int .i64 0, .int .i64 0, .bool false, .string (⟨#[]⟩ : ByteArray), .int .i64 0] 60 (0, 0)) (by (with_reducible repeat (first | refine blk_drewN ?_ _ | refine blk_drew ?_ | refine blk_alloc ?_ _)); exact BK644.out) hb); have n3_ := Aside0.mk (Kept.below (S := (fun k_ => P0_ k_)) (by repeat (first | (with_reducible first | exact HK.out | apply Kept.alloc | apply Kept.drewN | apply Kept.drew | refine Kept.setCell ?_ (.inr GW643.out) _ | refine Kept.setCell ?_ (.inr GW644.out) _) | exact HK.out)) hb); have n4_ := Aside0.mk (below_step (by repeat (first | (with_reducible first | exact HB.out | apply below_alloc | apply pw_below_drewN | apply below_drew1 | refine below_set ?_ GE643.out | refine below_set ?_ GE644.out) | exact HB.out)) hb); have n5_ := Aside0.mk (hbox); have n6_ := Aside0.mk ((by rw [hg]; exact (by first | exact HK.out.1 | exact (show Kept w _ (fun k_ => P0_ k_) from by repeat (first | (with_reducible first | exact HK.out | apply Kept.alloc | apply Kept.drewN | apply Kept.drew | refine Kept.setCell ?_ (.inr GW643.out) _ | refine Kept.setCell ?_ (.inr GW644.out) _) | exact HK.out)).1) : w.heap.size ≤ gb645)); have n7_ := Aside0.mk ((by rw [hg]; exact (below_size (by repeat (first | (with_reducible first | exact HB.out | apply below_alloc | apply pw_below_drewN | apply below_drew1 | refine below_set ?_ GE643.out | refine below_set ?_ GE644.out) | exact HB.out))) : w0.heap.size ≤ gb645)); have n8_ := Aside0.mk ((by rw [hg]; exact Nat.ne_of_lt (blk_lt (g := gb643) (o := .cells #[.int .i64 a1_0, .int .i64 a1_1, .int .i64 a1_2, .string a1_3, .string a1_4, .string a1_5, .int .i64 a1_6] 72 (0, 0)) (by (with_reducible repeat (first | refine blk_drewN ?_ _ | refine blk_drew ?_ | refine blk_alloc ?_ _)); exact BK643.out)) : gb643 ≠ gb645)); have n9_ := Aside0.mk ((by rw [hg]; exact Nat.ne_of_gt (blk_lt (g := gb643) (o := .cells #[.int .i64 a1_0, .int .i64 a1_1, .int .i64 a1_2, .string a1_3, .string a1_4, .string a1_5, .int .i64 a1_6] 72 (0, 0)) (by (with_reducible repeat (first | refine blk_drewN ?_ _ | refine blk_drew ?_ | refine blk_alloc ?_ _)); exact BK643.out)) : gb645 ≠ gb643)); have n10_ := Aside0.mk ((by rw [hg]; exact Nat.ne_of_lt (blk_lt (g := gb644) (o := .cells #[.int .i64 0, .int .i64 0, .int .i64 0, .bool false, .string (⟨#[]⟩ : ByteArray), .int .i64 0] 60 (0, 0)) (by (with_reducible repeat (first | refine blk_drewN ?_ _ | refine blk_drew ?_ | refine blk_alloc ?_ _)); exact BK644.out)) : gb644 ≠ gb645)); have n11_ := Aside0.mk ((by rw [hg]; exact Nat.ne_of_gt (blk_lt (g := gb644) (o := .cells #[.int .i64 0, .int .i64 0, .int .i64 0, .bool false, .string (⟨#[]⟩ : ByteArray), .int .i64 0] 60 (0, 0)) (by (with_reducible repeat (first | refine blk_drewN ?_ _ | refine blk_drew ?_ | refine blk_alloc ?_ _)); exact BK644.out)) : gb645 ≠ gb644)); clear HO0; clear BK643; clear BK644; clear HK; clear HB; have HO0 := n0_; have BK643 := n1_; have BK644 := n2_; have HK := n3_; have HB := n4_; have BK645 := n5_; have GW645 := n6_; have GE645 := n7_; have NB643_645 := n8_; have NB645_643 := n9_; have NB644_645 := n10_; have NB645_644 := n11_; clear n0_ n1_ n2_ n3_ n4_ n5_ n6_ n7_ n8_ n9_ n10_ n11_; clear hb hbox hg; have hnb13 := NB645_643.out; have hnc13 := NB643_645.out; have hnb14 := NB645_644.out; have hnc14 := NB644_645.out; have hcz15_0 : w12.cell? ⟨gb645, 0, none⟩ = some (.int .i64 0) := (blk_cell BK645.out 0).trans rfl; have hcz15_1 : w12.cell? ⟨gb645, 1, none⟩ = some (.int .i64 0) := (blk_cell BK645.out 1).trans rfl; have hcz15_2 : w12.cell? ⟨gb645, 2, none⟩ = some (.int .i64 0) := (blk_cell BK645.out 2).trans rfl; have hcz15_3 : w12.cell? ⟨gb645, 3, none⟩ = some (.bool false) := (blk_cell BK645.out 3).trans rfl; have hcz15_4 : w12.cell? ⟨gb645, 4, none⟩ = some (.string (⟨#[]⟩ : ByteArray)) := (blk_cell BK645.out 4).trans rfl; have hcz15_5 : w12.cell? ⟨gb645, 5, none⟩ = some (.int .i64 0) := (blk_cell BK645.out 5).trans rfl; have hfz15_0 := blk_frozen BK645.out 0; have hfz15_1 := blk_frozen BK645.out 1; have hfz15_2 := blk_frozen BK645.out 2; have hfz15_3 := blk_frozen BK645.out 3; have hfz15_4 := blk_frozen BK645.out 4; have hfz15_5 := blk_frozen BK645.out 5; have hcz16_0 : w12.cell? ⟨gb643, 0, none⟩ = some (.int .i64 a1_0) := (blk_cell BK643.out 0).trans rfl; have hcz16_1 : w12.cell? ⟨gb643, 1, none⟩ = some (.int .i64 a1_1) := (blk_cell BK643.out 1).trans rfl; have hcz16_2 : w12.cell? ⟨gb643, 2, none⟩ = some (.int .i64 a1_2) := (blk_cell BK643.out 2).trans rfl; have hcz16_3 : w12.cell? ⟨gb643, 3, none⟩ = some (.string a1_3) := (blk_cell BK643.out 3).trans rfl; have hcz16_4 : w12.cell? ⟨gb643, 4, none⟩ = some (.string a1_4) := (blk_cell BK643.out 4).trans rfl; have hcz16_5 : w12.cell? ⟨gb643, 5, none⟩ = some (.string a1_5) := (blk_cell BK643.out 5).trans rfl; have hcz16_6 : w12.cell? ⟨gb643, 6, none⟩ = some (.int .i64 a1_6) := (blk_cell BK643.out 6).trans rfl; have hfz16_0 := blk_frozen BK643.out 0; have hfz16_1 := blk_frozen BK643.out 1; have hfz16_2 := blk_frozen BK643.out 2; have hfz16_3 := blk_frozen BK643.out 3; have hfz16_4 := blk_frozen BK643.out 4; have hfz16_5 := blk_frozen BK643.out 5; have hfz16_6 := blk_frozen BK643.out 6; obtain ⟨Ao17, co17, eo17⟩ := Kd.R_slice HO0.out; subst eo17) | ((with_reducible refine gate_callee (f := 60) rfl ?_); refine goesL_ (some 18) rfl rfl Try.func60 (by kernel_rfl) rfl #[.slice Ao17 l0.length co17, .string a1_3] rfl (by (try simp only [List.map_toArray, List.map_cons, List.map_nil]); first | done | rfl | (simp only [List.length_drop, List.length_take]; rfl)) ?_; (with_reducible refine (kvone_Find.calls k _ _ l0 a1_3 t646 t647 t648 true _ ?side1 ?side2 A3.out).mono ?_); (case side1 => refine (Kd.R_reads' (e := 78) (base := w0.heap.size) (ok := fun k_ => (P0_ k_ ∨ w.heap.size ≤ k_)) (n := l0.length) (c := co17) ?_).2.2; exact (by (with_reducible repeat (first | apply Kd.R_alloc | apply Kd.R_drewN | apply Kd.R_drew)); exact (Kd.R_mono (Kd.R_far (p := ⟨gb645, 5, none⟩) (Kd.R_far (p := ⟨gb645, 4, none⟩) (Kd.R_far (p := ⟨gb645, 3, none⟩) (Kd.R_far (p := ⟨gb645, 2, none⟩) (Kd.R_far (p := ⟨gb645, 1, none⟩) (Kd.R_far (p := ⟨gb645, 0, none⟩) (Kd.R_types HO0.out BK645.out (by decide)) (fun _ hk => hk.2) (.int .i64 a1_1)) (fun _ hk => hk.2) (.int .i64 a1_2)) (fun _ hk => hk.2) (.int .i64 0)) (fun _ hk => hk.2) (.bool false)) (fun _ hk => hk.2) (.string (⟨#[]⟩ : ByteArray))) (fun _ hk => hk.2) (.int .i64 0)) (fun _ h_ => h_.1)))); (case side2 => exact (Kd.R_reads' HO0.out).2.1); rintro e w18 ⟨rfl, hb⟩; refine ⟨_, rfl, ?_⟩; have n0_ := Aside0.mk (Kd.R_below (by (with_reducible repeat (first | apply Kd.R_alloc | apply Kd.R_drewN | apply Kd.R_drew)); exact (Kd.R_mono (Kd.R_far (p := ⟨gb645, 5, none⟩) (Kd.R_far (p := ⟨gb645, 4, none⟩) (Kd.R_far (p := ⟨gb645, 3, none⟩) (Kd.R_far (p := ⟨gb645, 2, none⟩) (Kd.R_far (p := ⟨gb645, 1, none⟩) (Kd.R_far (p := ⟨gb645, 0, none⟩) (Kd.R_types HO0.out BK645.out (by decide)) (fun _ hk => hk.2) (.int .i64 a1_1)) (fun _ hk => hk.2) (.int .i64 a1_2)) (fun _ hk => hk.2) (.int .i64 0)) (fun _ hk => hk.2) (.bool false)) (fun _ hk => hk.2) (.string (⟨#[]⟩ : ByteArray))) (fun _ hk => hk.2) (.int .i64 0)) (fun _ h_ => h_.1))) hb); have n1_ := Aside0.mk (blk_below (g := gb643) (o := .cells #[.int .i64 a1_0, .int .i64 a1_1, .int .i64 a1_2, .string a1_3, .string a1_4, .string a1_5, .int .i64 a1_6] 72 (0, 0)) (by (with_reducible repeat (first | refine blk_drewN ?_ _ | refine blk_drew ?_ | refine blk_alloc ?_ _)); refine blk_far ?_ NB643_645.out _; (with_reducible repeat (first | refine blk_drewN ?_ _ | refine blk_drew ?_ | refine blk_alloc ?_ _)); refine blk_far ?_ NB643_645.out _; (with_reducible repeat (first | refine blk_drewN ?_ _ | refine blk_drew ?_ | refine blk_alloc ?_ _)); refine blk_far ?_ NB643_645.out _; (with_reducible repeat (first | refine blk_drewN ?_ _ | refine blk_drew ?_ | refine blk_alloc ?_ _)); refine blk_far ?_ NB643_645.out _; (with_reducible repeat (first | refine blk_drewN ?_ _ | refine blk_drew ?_ | refine blk_alloc ?_ _)); refine blk_far ?_ NB643_645.out _; (with_reducible repeat (first | refine blk_drewN ?_ _ | refine blk_drew ?_ | refine blk_alloc ?_ _)); refine blk_far ?_ NB643_645.out _; (with_reducible repeat (first | refine blk_drewN ?_ _ | refine blk_drew ?_ | refine blk_alloc ?_ _)); exact BK643.out) hb); have n2_ := Aside0.mk (blk_below (g := gb644) (o := .cells #[.int .i64 0, .int .i64 0, .int .i64 0, .bool false, .string (⟨#[]⟩ : ByteArray), .int .i64 0] 60 (0, 0)) (by (with_reducible repeat (first | refine blk_drewN ?_ _ | refine blk_drew ?_ | refine blk_alloc ?_ _)); refine blk_far ?_ NB644_645.out _; (with_reducible repeat (first | refine blk_drewN ?_ _ | refine blk_drew ?_ | refine blk_alloc ?_ _)); refine blk_far ?_ NB644_645.out _; (with_reducible repeat (first | refine blk_drewN ?_ _ | refine blk_drew ?_ | refine blk_alloc ?_ _)); refine blk_far ?_ NB644_645.out _; (with_reducible repeat (first | refine blk_drewN ?_ _ | refine blk_drew ?_ | refine blk_alloc ?_ _)); refine blk_far ?_ NB644_645.out _; (with_reducible repeat (first | refine blk_drewN ?_ _ | refine blk_drew ?_ | refine blk_alloc ?_ _)); refine blk_far ?_ NB644_645.out _; (with_reducible repeat (first | refine blk_drewN ?_ _ | refine blk_drew ?_ | refine blk_alloc ?_ _)); refine blk_far ?_ NB644_645.out _; (with_reducible repeat (first | refine blk_drewN ?_ _ | refine blk_drew ?_ | refine blk_alloc ?_ _)); exact BK644.out) hb); have n3_ := Aside0.mk (blk_below (g := gb645) (o := .cells #[.int .i64 a1_1, .int .i64 a1_2, .int .i64 0, .bool false, .string (⟨#[]⟩ : ByteArray), .int .i64 0] 60 (0, 0)) (by (with_reducible repeat (first | refine blk_drewN ?_ _ | refine blk_drew ?_ | refine blk_alloc ?_ _)); refine blk_put (cs := #[.int .i64 a1_1, .int .i64 a1_2, .int .i64 0, .bool false, .string (⟨#[]⟩ : ByteArray), .int .i64 0]) ?_ 5 _ rfl; (with_reducible repeat (first | refine blk_drewN ?_ _ | refine blk_drew ?_ | refine blk_alloc ?_ _)); refine blk_put (cs := #[.int .i64 a1_1, .int .i64 a1_2, .int .i64 0, .bool false, .string (⟨#[]⟩ : ByteArray), .int .i64 0]) ?_ 4 _ rfl; (with_reducible repeat (first | refine blk_drewN ?_ _ | refine blk_drew ?_ | refine blk_alloc ?_ _)); refine blk_put (cs := #[.int .i64 a1_1, .int .i64 a1_2, .int .i64 0, .bool false, .string (⟨#[]⟩ : ByteArray), .int .i64 0]) ?_ 3 _ rfl; (with_reducible repeat (first | refine blk_drewN ?_ _ | refine blk_drew ?_ | refine blk_alloc ?_ _)); refine blk_put (cs := #[.int .i64 a1_1, .int .i64 a1_2, .int .i64 0, .bool false, .string (⟨#[]⟩ : ByteArray), .int .i64 0]) ?_ 2 _ rfl; (with_reducible repeat (first | refine blk_drewN ?_ _ | refine blk_drew ?_ | refine blk_alloc ?_ _)); refine blk_put (cs := #[.int .i64 a1_1, .int .i64 0, .int .i64 0, .bool false, .string (⟨#[]⟩ : ByteArray), .int .i64 0]) ?_ 1 _ rfl; (with_reducible repeat (first | refine blk_drewN ?_ _ | refine blk_drew ?_ | refine blk_alloc ?_ _)); refine blk_put (cs := #[.int .i64 0, .int .i64 0, .int .i64 0, .bool false, .string (⟨#[]⟩ : ByteArray), .int .i64 0]) ?_ 0 _ rfl; (with_reducible repeat (first | refine blk_drewN ?_ _ | refine blk_drew ?_ | refine blk_alloc ?_ _)); exact BK645.out) hb); have n4_ := Aside0.mk (Kept.below (S := (fun k_ => P0_ k_)) (by repeat (first | (with_reducible first | exact HK.out | apply Kept.alloc | apply Kept.drewN | apply Kept.drew | refine Kept.setCell ?_ (.inr GW643.out) _ | refine Kept.setCell ?_ (.inr GW644.out) _ | refine Kept.setCell ?_ (.inr GW645.out) _) | exact HK.out)) hb); have n5_ := Aside0.mk (below_step (by repeat (first | (with_reducible first | exact HB.out | apply below_alloc | apply pw_below_drewN | apply below_drew1 | refine below_set ?_ GE643.out | refine below_set ?_ GE644.out | refine below_set ?_ GE645.out) | exact HB.out)) hb); clear HO0; clear BK643; clear BK644; clear BK645; clear HK; clear HB; have HO0 := n0_; have BK643 := n1_; have BK644 := n2_; have BK645 := n3_; have HK := n4_; have HB := n5_; clear n0_ n1_ n2_ n3_ n4_ n5_; (try clear hb); (try clear hb2); (try clear hk); (try clear hi)) | ((with_reducible refine gate_dst (N := 7) rfl ?_); refine box_event ?hg (N := 7) ?hd (cs := #[.string (⟨#[]⟩ : ByteArray), .string (⟨#[]⟩ : ByteArray), .int .i64 0]) (t := 78) ?hr ?_; (case hd => rfl); (case hg => rfl); (case hr => first | (go_simp; done) | (go_simp; rfl)); intro gb650 hg w19 hbox hb; have n0_ := Aside0.mk (Kd.R_below (Kd.R_elderB (by (with_reducible repeat (first | apply Kd.R_alloc | apply Kd.R_drewN | apply Kd.R_drew)); exact HO0.out) gb650 (Nat.le_of_eq hg.symm)) hb); have n1_ := Aside0.mk (blk_below (g := gb643) (o := .cells #[.int .i64 a1_0, .int .i64 a1_1, .int .i64 a1_2, .string a1_3, .string a1_4, .string a1_5, .int .i64 a1_6] 72 (0, 0)) (by (with_reducible repeat (first | refine blk_drewN ?_ _ | refine blk_drew ?_ | refine blk_alloc ?_ _)); exact BK643.out) hb); have n2_ := Aside0.mk (blk_below (g := gb644) (o := .cells #[.int .i64 0, .int .i64 0, .int .i64 0, .bool false, .string (⟨#[]⟩ : ByteArray), .int .i64 0] 60 (0, 0)) (by (with_reducible repeat (first | refine blk_drewN ?_ _ | refine blk_drew ?_ | refine blk_alloc ?_ _)); exact BK644.out) hb); have n3_ := Aside0.mk (blk_below (g := gb645) (o := .cells #[.int .i64 a1_1, .int .i64 a1_2, .int .i64 0, .bool false, .string (⟨#[]⟩ : ByteArray), .int .i64 0] 60 (0, 0)) (by (with_reducible repeat (first | refine blk_drewN ?_ _ | refine blk_drew ?_ | refine blk_alloc ?_ _)); exact BK645.out) hb); have n4_ := Aside0.mk (Kept.below (S := (fun k_ => P0_ k_)) (by repeat (first | (with_reducible first | exact HK.out | apply Kept.alloc | apply Kept.drewN | apply Kept.drew | refine Kept.setCell ?_ (.inr GW643.out) _ | refine Kept.setCell ?_ (.inr GW644.out) _ | refine Kept.setCell ?_ (.inr GW645.out) _) | exact HK.out)) hb); have n5_ := Aside0.mk (below_step (by repeat (first | (with_reducible first | exact HB.out | apply below_alloc | apply pw_below_drewN | apply below_drew1 | refine below_set ?_ GE643.out | refine below_set ?_ GE644.out | refine below_set ?_ GE645.out) | exact HB.out)) hb); have n6_ := Aside0.mk (hbox); have n7_ := Aside0.mk ((by rw [hg]; exact (by first | exact HK.out.1 | exact (show Kept w _ (fun k_ => P0_ k_) from by repeat (first | (with_reducible first | exact HK.out | apply Kept.alloc | apply Kept.drewN | apply Kept.drew | refine Kept.setCell ?_ (.inr GW643.out) _ | refine Kept.setCell ?_ (.inr GW644.out) _ | refine Kept.setCell ?_ (.inr GW645.out) _) | exact HK.out)).1) : w.heap.size ≤ gb650)); have n8_ := Aside0.mk ((by rw [hg]; exact (below_size (by repeat (first | (with_reducible first | exact HB.out | apply below_alloc | apply pw_below_drewN | apply below_drew1 | refine below_set ?_ GE643.out | refine below_set ?_ GE644.out | refine below_set ?_ GE645.out) | exact HB.out))) : w0.heap.size ≤ gb650)); have n9_ := Aside0.mk ((by rw [hg]; exact Nat.ne_of_lt (blk_lt (g := gb643) (o := .cells #[.int .i64 a1_0, .int .i64 a1_1, .int .i64 a1_2, .string a1_3, .string a1_4, .string a1_5, .int .i64 a1_6] 72 (0, 0)) (by (with_reducible repeat (first | refine blk_drewN ?_ _ | refine blk_drew ?_ | refine blk_alloc ?_ _)); exact BK643.out)) : gb643 ≠ gb650)); have n10_ := Aside0.mk ((by rw [hg]; exact Nat.ne_of_gt (blk_lt (g := gb643) (o := .cells #[.int .i64 a1_0, .int .i64 a1_1, .int .i64 a1_2, .string a1_3, .string a1_4, .string a1_5, .int .i64 a1_6] 72 (0, 0)) (by (with_reducible repeat (first | refine blk_drewN ?_ _ | refine blk_drew ?_ | refine blk_alloc ?_ _)); exact BK643.out)) : gb650 ≠ gb643)); have n11_ := Aside0.mk ((by rw [hg]; exact Nat.ne_of_lt (blk_lt (g := gb644) (o := .cells #[.int .i64 0, .int .i64 0, .int .i64 0, .bool false, .string (⟨#[]⟩ : ByteArray), .int .i64 0] 60 (0, 0)) (by (with_reducible repeat (first | refine blk_drewN ?_ _ | refine blk_drew ?_ | refine blk_alloc ?_ _)); exact BK644.out)) : gb644 ≠ gb650)); have n12_ := Aside0.mk ((by rw [hg]; exact Nat.ne_of_gt (blk_lt (g := gb644) (o := .cells #[.int .i64 0, .int .i64 0, .int .i64 0, .bool false, .string (⟨#[]⟩ : ByteArray), .int .i64 0] 60 (0, 0)) (by (with_reducible repeat (first | refine blk_drewN ?_ _ | refine blk_drew ?_ | refine blk_alloc ?_ _)); exact BK644.out)) : gb650 ≠ gb644)); have n13_ := Aside0.mk ((by rw [hg]; exact Nat.ne_of_lt (blk_lt (g := gb645) (o := .cells #[.int .i64 a1_1, .int .i64 a1_2, .int .i64 0, .bool false, .string (⟨#[]⟩ : ByteArray), .int .i64 0] 60 (0, 0)) (by (with_reducible repeat (first | refine blk_drewN ?_ _ | refine blk_drew ?_ | refine blk_alloc ?_ _)); exact BK645.out)) : gb645 ≠ gb650)); have n14_ := Aside0.mk ((by rw [hg]; exact Nat.ne_of_gt (blk_lt (g := gb645) (o := .cells #[.int .i64 a1_1, .int .i64 a1_2, .int .i64 0, .bool false, .string (⟨#[]⟩ : ByteArray), .int .i64 0] 60 (0, 0)) (by (with_reducible repeat (first | refine blk_drewN ?_ _ | refine blk_drew ?_ | refine blk_alloc ?_ _)); exact BK645.out)) : gb650 ≠ gb645)); clear HO0; clear BK643; clear BK644; clear BK645; clear HK; clear HB; have HO0 := n0_; have BK643 := n1_; have BK644 := n2_; have BK645 := n3_; have HK := n4_; have HB := n5_; have BK650 := n6_; have GW650 := n7_; have GE650 := n8_; have NB643_650 := n9_; have NB650_643 := n10_; have NB644_650 := n11_; have NB650_644 := n12_; have NB645_650 := n13_; have NB650_645 := n14_; clear n0_ n1_ n2_ n3_ n4_ n5_ n6_ n7_ n8_ n9_ n10_ n11_ n12_ n13_ n14_; clear hb hbox hg; have hnb20 := NB650_643.out; have hnc20 := NB643_650.out; have hnb21 := NB650_644.out; have hnc21 := NB644_650.out; have hnb22 := NB650_645.out; have hnc22 := NB645_650.out; have hcz23_0 : w19.cell? ⟨gb650, 0, none⟩ = some (.string (⟨#[]⟩ : ByteArray)) := (blk_cell BK650.out 0).trans rfl; have hcz23_1 : w19.cell? ⟨gb650, 1, none⟩ = some (.string (⟨#[]⟩ : ByteArray)) := (blk_cell BK650.out 1).trans rfl; have hcz23_2 : w19.cell? ⟨gb650, 2, none⟩ = some (.int .i64 0) := (blk_cell BK650.out 2).trans rfl; have hfz23_0 := blk_frozen BK650.out 0; have hfz23_1 := blk_frozen BK650.out 1; have hfz23_2 := blk_frozen BK650.out 2))
      have n0_ : Aside0 (Kd.R k78 78 (((w19.setCell ⟨gb650, 0, none⟩ (.string t646)).setCell ⟨gb650, 1, none⟩ (.string t647)).setCell ⟨gb650, 2, none⟩ (.int .i64 t648)) w0.heap.size (fun k_ => (P0_ k_ ∨ w.heap.size ≤ k_) ∧ k_ ≠ gb650) (.slice Ao17 l0.length co17) l0) := ⟨by (with_reducible repeat (first | apply Kd.R_alloc | apply Kd.R_drewN | apply Kd.R_drew)); exact Kd.R_mono (Kd.R_far (p := ⟨gb650, 2, none⟩) (Kd.R_far (p := ⟨gb650, 1, none⟩) (Kd.R_far (p := ⟨gb650, 0, none⟩) (Kd.R_mono HO0.out (fun k_ hk => (⟨hk, hk.2⟩ : _ ∧ k_ ≠ gb650))) (fun _ hk => hk.2) (.string t646)) (fun _ hk => hk.2) (.string t647)) (fun _ hk => hk.2) (.int .i64 t648)) (fun _ hk => ⟨hk.1.1, hk.1.2⟩)⟩
      have n1_ : Aside0 ((((w19.setCell ⟨gb650, 0, none⟩ (.string t646)).setCell ⟨gb650, 1, none⟩ (.string t647)).setCell ⟨gb650, 2, none⟩ (.int .i64 t648)).heap[gb643]? = some (.cells #[.int .i64 a1_0, .int .i64 a1_1, .int .i64 a1_2, .string a1_3, .string a1_4, .string a1_5, .int .i64 a1_6] 72 (0, 0))) := ⟨by (with_reducible repeat (first | refine blk_drewN ?_ _ | refine blk_drew ?_ | refine blk_alloc ?_ _)); refine blk_far ?_ NB643_650.out _; (with_reducible repeat (first | refine blk_drewN ?_ _ | refine blk_drew ?_ | refine blk_alloc ?_ _)); refine blk_far ?_ NB643_650.out _; (with_reducible repeat (first | refine blk_drewN ?_ _ | refine blk_drew ?_ | refine blk_alloc ?_ _)); refine blk_far ?_ NB643_650.out _; (with_reducible repeat (first | refine blk_drewN ?_ _ | refine blk_drew ?_ | refine blk_alloc ?_ _)); exact BK643.out⟩
      have n2_ : Aside0 ((((w19.setCell ⟨gb650, 0, none⟩ (.string t646)).setCell ⟨gb650, 1, none⟩ (.string t647)).setCell ⟨gb650, 2, none⟩ (.int .i64 t648)).heap[gb644]? = some (.cells #[.int .i64 0, .int .i64 0, .int .i64 0, .bool false, .string (⟨#[]⟩ : ByteArray), .int .i64 0] 60 (0, 0))) := ⟨by (with_reducible repeat (first | refine blk_drewN ?_ _ | refine blk_drew ?_ | refine blk_alloc ?_ _)); refine blk_far ?_ NB644_650.out _; (with_reducible repeat (first | refine blk_drewN ?_ _ | refine blk_drew ?_ | refine blk_alloc ?_ _)); refine blk_far ?_ NB644_650.out _; (with_reducible repeat (first | refine blk_drewN ?_ _ | refine blk_drew ?_ | refine blk_alloc ?_ _)); refine blk_far ?_ NB644_650.out _; (with_reducible repeat (first | refine blk_drewN ?_ _ | refine blk_drew ?_ | refine blk_alloc ?_ _)); exact BK644.out⟩
      have n3_ : Aside0 ((((w19.setCell ⟨gb650, 0, none⟩ (.string t646)).setCell ⟨gb650, 1, none⟩ (.string t647)).setCell ⟨gb650, 2, none⟩ (.int .i64 t648)).heap[gb645]? = some (.cells #[.int .i64 a1_1, .int .i64 a1_2, .int .i64 0, .bool false, .string (⟨#[]⟩ : ByteArray), .int .i64 0] 60 (0, 0))) := ⟨by (with_reducible repeat (first | refine blk_drewN ?_ _ | refine blk_drew ?_ | refine blk_alloc ?_ _)); refine blk_far ?_ NB645_650.out _; (with_reducible repeat (first | refine blk_drewN ?_ _ | refine blk_drew ?_ | refine blk_alloc ?_ _)); refine blk_far ?_ NB645_650.out _; (with_reducible repeat (first | refine blk_drewN ?_ _ | refine blk_drew ?_ | refine blk_alloc ?_ _)); refine blk_far ?_ NB645_650.out _; (with_reducible repeat (first | refine blk_drewN ?_ _ | refine blk_drew ?_ | refine blk_alloc ?_ _)); exact BK645.out⟩
      have n4_ : Aside0 ((((w19.setCell ⟨gb650, 0, none⟩ (.string t646)).setCell ⟨gb650, 1, none⟩ (.string t647)).setCell ⟨gb650, 2, none⟩ (.int .i64 t648)).heap[gb650]? = some (.cells #[.string t646, .string t647, .int .i64 t648] 78 (0, 0))) := ⟨by (with_reducible repeat (first | refine blk_drewN ?_ _ | refine blk_drew ?_ | refine blk_alloc ?_ _)); refine blk_put (cs := #[.string t646, .string t647, .int .i64 0]) ?_ 2 _ rfl; (with_reducible repeat (first | refine blk_drewN ?_ _ | refine blk_drew ?_ | refine blk_alloc ?_ _)); refine blk_put (cs := #[.string t646, .string (⟨#[]⟩ : ByteArray), .int .i64 0]) ?_ 1 _ rfl; (with_reducible repeat (first | refine blk_drewN ?_ _ | refine blk_drew ?_ | refine blk_alloc ?_ _)); refine blk_put (cs := #[.string (⟨#[]⟩ : ByteArray), .string (⟨#[]⟩ : ByteArray), .int .i64 0]) ?_ 0 _ rfl; (with_reducible repeat (first | refine blk_drewN ?_ _ | refine blk_drew ?_ | refine blk_alloc ?_ _)); exact BK650.out⟩
      have n5_ : Aside0 (Kept w (((w19.setCell ⟨gb650, 0, none⟩ (.string t646)).setCell ⟨gb650, 1, none⟩ (.string t647)).setCell ⟨gb650, 2, none⟩ (.int .i64 t648)) (fun k_ => P0_ k_)) := ⟨by repeat (first | (with_reducible first | exact HK.out | apply Kept.alloc | apply Kept.drewN | apply Kept.drew | refine Kept.setCell ?_ (.inr GW643.out) _ | refine Kept.setCell ?_ (.inr GW644.out) _ | refine Kept.setCell ?_ (.inr GW645.out) _ | refine Kept.setCell ?_ (.inr GW650.out) _) | exact HK.out)⟩
      have n6_ : Aside0 (Below w0.heap.size w0 (((w19.setCell ⟨gb650, 0, none⟩ (.string t646)).setCell ⟨gb650, 1, none⟩ (.string t647)).setCell ⟨gb650, 2, none⟩ (.int .i64 t648))) := ⟨by repeat (first | (with_reducible first | exact HB.out | apply below_alloc | apply pw_below_drewN | apply below_drew1 | refine below_set ?_ GE643.out | refine below_set ?_ GE644.out | refine below_set ?_ GE645.out | refine below_set ?_ GE650.out) | exact HB.out)⟩
      (try clear HO0)
      (try clear BK643)
      (try clear BK644)
      (try clear BK645)
      (try clear BK650)
      (try clear HK)
      (try clear HB)
      generalize (((w19.setCell ⟨gb650, 0, none⟩ (.string t646)).setCell ⟨gb650, 1, none⟩ (.string t647)).setCell ⟨gb650, 2, none⟩ (.int .i64 t648)) = w24 at n0_ n1_ n2_ n3_ n4_ n5_ n6_ ⊢
      have HO0 := n0_
      have BK643 := n1_
      have BK644 := n2_
      have BK645 := n3_
      have BK650 := n4_
      have HK := n5_
      have HB := n6_
      clear n0_ n1_ n2_ n3_ n4_ n5_ n6_
      have n0_ := Aside0.mk (Kd.R_drew HO0.out)
      have n1_ := Aside0.mk (blk_drew BK643.out)
      have n2_ := Aside0.mk (blk_drew BK644.out)
      have n3_ := Aside0.mk (blk_drew BK645.out)
      have n4_ := Aside0.mk (blk_drew BK650.out)
      have n5_ := Aside0.mk (Kept.drew HK.out)
      have n6_ := Aside0.mk (below_drew1 HB.out)
      clear HO0
      clear BK643
      clear BK644
      clear BK645
      clear BK650
      clear HK
      clear HB
      have HO0 := n0_
      have BK643 := n1_
      have BK644 := n2_
      have BK645 := n3_
      have BK650 := n4_
      have HK := n5_
      have HB := n6_
      clear n0_ n1_ n2_ n3_ n4_ n5_ n6_
      refine start_ (n := 10) (S := fun w' => w'.cell? ⟨gb650, 0, none⟩ = some (.string t646) ∧ w'.cell? ⟨gb650, 1, none⟩ = some (.string t647) ∧ w'.cell? ⟨gb650, 2, none⟩ = some (.int .i64 t648)) (ds := []) #[false, false, false, false, false, false, false, false, false, false] (by kernel_rfl) rfl rfl ⟨(blk_cell BK650.out 0).trans rfl, (blk_cell BK650.out 1).trans rfl, (blk_cell BK650.out 2).trans rfl⟩ (fun hHeld => ?_); refine with_tabW kvtwo_cas.tab6 kvtwo_cas.bits6 (fun HT_ HW_ => ?_)
      generalize w24.drew = w25 at HO0 BK643 BK644 BK645 BK650 HK HB hHeld ⊢
      refine pure_ (i := 0) (N := some 26) (v := ?_) (a' := ?_) #[true, false, false, false, false, false, false, false, false, false] rfl rfl (any_of HT_.out (by kernel_rfl)) (fun _ _ _ h => h) (Or.inl ⟨by rfl, ?_⟩) ?_ ?_
      rotate_left
      · intro w'
        go_simp
        with_reducible rfl
      rotate_left
      · simp only [Act.put, List.setIfInBounds_toArray, List.set_cons_zero, List.set_cons_succ, i64_w, i32_w]
        rfl
      refine pure_ (i := 2) (N := some 28) (v := ?_) (a' := ?_) #[true, false, true, false, false, false, false, false, false, false] rfl rfl (any_of HT_.out (by kernel_rfl)) (fun _ _ _ h => h) (Or.inl ⟨by rfl, ?_⟩) ?_ ?_
      rotate_left
      · intro w'
        go_simp
        with_reducible rfl
      rotate_left
      · simp only [Act.put, List.setIfInBounds_toArray, List.set_cons_zero, List.set_cons_succ, i64_w, i32_w]
        rfl
      refine pure_ (i := 4) (N := some 30) (v := ?_) (a' := ?_) #[true, false, true, false, true, false, false, false, false, false] rfl rfl (any_of HT_.out (by kernel_rfl)) (fun _ _ _ h => h) (Or.inl ⟨by rfl, ?_⟩) ?_ ?_
      rotate_left
      · intro w'
        go_simp
        with_reducible rfl
      rotate_left
      · simp only [Act.put, List.setIfInBounds_toArray, List.set_cons_zero, List.set_cons_succ, i64_w, i32_w]
        rfl
      refine take_ (i := 1) (N := some 27) (v := ?_) (a' := ?_) #[true, true, true, false, true, false, false, false, false, false] rfl rfl (take_ofW HT_.out HW_.out (by kernel_rfl)) (fun _ _ _ h => h) (Or.inl ⟨by rfl, ?_⟩) hHeld ?_ ?_
      rotate_left
      · rintro w' ⟨s0, s1, s2⟩
        go_simp
        with_reducible rfl
      rotate_left
      · simp only [Act.put, List.setIfInBounds_toArray, List.set_cons_zero, List.set_cons_succ, i64_w, i32_w]
        rfl
      refine take_ (i := 3) (N := some 29) (v := ?_) (a' := ?_) #[true, true, true, true, true, false, false, false, false, false] rfl rfl (take_ofW HT_.out HW_.out (by kernel_rfl)) (fun _ _ _ h => h) (Or.inl ⟨by rfl, ?_⟩) hHeld ?_ ?_
      rotate_left
      · rintro w' ⟨s0, s1, s2⟩
        go_simp
        with_reducible rfl
      rotate_left
      · simp only [Act.put, List.setIfInBounds_toArray, List.set_cons_zero, List.set_cons_succ, i64_w, i32_w]
        rfl
      refine one_ (i := 5) (N := none) #[true, true, true, true, true, true, false, false, false, false] rfl rfl (one_of HT_.out (by kernel_rfl)) (by decide) (fun K hK => ?_)
      have hs26 : w25.cell? ⟨gb645, 3, none⟩ = some (.bool false) := (blk_cell BK645.out 3).trans rfl
      have hfs26 := blk_frozen BK645.out 3
      have hns26_0 := NB643_645.out
      have hns26_1 := NB644_645.out
      have hns26_3 := NB650_645.out
      have hms26_0 := NB645_643.out
      have hms26_1 := NB645_644.out
      have hms26_3 := NB645_650.out
      refine skip_ (w1 := ?_) (by rfl) rfl ?_ ?_
      rotate_left
      · go_simp
        rfl
      refine hK.out _ _ ⟨((cell_far (p := ⟨gb645, _, none⟩) NB650_645.out _).trans (hHeld.1)), ((cell_far (p := ⟨gb645, _, none⟩) NB650_645.out _).trans (hHeld.2.1)), ((cell_far (p := ⟨gb645, _, none⟩) NB650_645.out _).trans (hHeld.2.2))⟩ (fun hHeld => ?_)
      clear hK K
      refine pure_ (i := 6) (N := some 31) (v := ?_) (a' := ?_) #[true, true, true, true, true, true, true, false, false, false] rfl rfl (any_of HT_.out (by kernel_rfl)) (fun _ _ _ h => h) (Or.inl ⟨by rfl, ?_⟩) ?_ ?_
      rotate_left
      · intro w'
        go_simp
        with_reducible rfl
      rotate_left
      · simp only [Act.put, List.setIfInBounds_toArray, List.set_cons_zero, List.set_cons_succ, i64_w, i32_w]
        rfl
      refine one_ (i := 7) (N := none) #[true, true, true, true, true, true, true, true, false, false] rfl rfl (one_of HT_.out (by kernel_rfl)) (by decide) (fun K hK => ?_)
      have hs27 : w25.cell? ⟨gb645, 4, none⟩ = some (.string (⟨#[]⟩ : ByteArray)) := (blk_cell BK645.out 4).trans rfl
      have hfs27 := blk_frozen BK645.out 4
      have hns27_0 := NB643_645.out
      have hns27_1 := NB644_645.out
      have hns27_3 := NB650_645.out
      have hms27_0 := NB645_643.out
      have hms27_1 := NB645_644.out
      have hms27_3 := NB645_650.out
      refine skip_ (w1 := ?_) (by rfl) rfl ?_ ?_
      rotate_left
      · go_simp
        rfl
      refine hK.out _ _ ⟨((cell_far (p := ⟨gb645, _, none⟩) NB650_645.out _).trans (hHeld.1)), ((cell_far (p := ⟨gb645, _, none⟩) NB650_645.out _).trans (hHeld.2.1)), ((cell_far (p := ⟨gb645, _, none⟩) NB650_645.out _).trans (hHeld.2.2))⟩ (fun hHeld => ?_)
      clear hK K
      refine pure_ (i := 8) (N := some 32) (v := ?_) (a' := ?_) #[true, true, true, true, true, true, true, true, true, false] rfl rfl (any_of HT_.out (by kernel_rfl)) (fun _ _ _ h => h) (Or.inl ⟨by rfl, ?_⟩) ?_ ?_
      rotate_left
      · intro w'
        go_simp
        with_reducible rfl
      rotate_left
      · simp only [Act.put, List.setIfInBounds_toArray, List.set_cons_zero, List.set_cons_succ, i64_w, i32_w]
        rfl
      refine one_ (i := 9) (N := none) #[true, true, true, true, true, true, true, true, true, true] rfl rfl (one_of HT_.out (by kernel_rfl)) (by decide) (fun K hK => ?_)
      have hs28 : w25.cell? ⟨gb645, 5, none⟩ = some (.int .i64 0) := (blk_cell BK645.out 5).trans rfl
      have hfs28 := blk_frozen BK645.out 5
      have hns28_0 := NB643_645.out
      have hns28_1 := NB644_645.out
      have hns28_3 := NB650_645.out
      have hms28_0 := NB645_643.out
      have hms28_1 := NB645_644.out
      have hms28_3 := NB645_650.out
      refine skip_ (w1 := ?_) (by rfl) rfl ?_ ?_
      rotate_left
      · go_simp
        rfl
      refine hK.out _ _ ⟨((cell_far (p := ⟨gb645, _, none⟩) NB650_645.out _).trans (hHeld.1)), ((cell_far (p := ⟨gb645, _, none⟩) NB650_645.out _).trans (hHeld.2.1)), ((cell_far (p := ⟨gb645, _, none⟩) NB650_645.out _).trans (hHeld.2.2))⟩ (fun hHeld => ?_)
      clear hK K
      refine done_ (done_of HT_.out (by kernel_rfl)) ?_
      have hcz29_0 : w25.cell? ⟨gb650, 0, none⟩ = some (.string t646) := (blk_cell BK650.out 0).trans rfl
      have hcz29_1 : w25.cell? ⟨gb650, 1, none⟩ = some (.string t647) := (blk_cell BK650.out 1).trans rfl
      have hcz29_2 : w25.cell? ⟨gb650, 2, none⟩ = some (.int .i64 t648) := (blk_cell BK650.out 2).trans rfl
      have hfz29_0 := blk_frozen BK650.out 0
      have hfz29_1 := blk_frozen BK650.out 1
      have hfz29_2 := blk_frozen BK650.out 2
      have hcz30_0 : w25.cell? ⟨gb643, 0, none⟩ = some (.int .i64 a1_0) := (blk_cell BK643.out 0).trans rfl
      have hcz30_1 : w25.cell? ⟨gb643, 1, none⟩ = some (.int .i64 a1_1) := (blk_cell BK643.out 1).trans rfl
      have hcz30_2 : w25.cell? ⟨gb643, 2, none⟩ = some (.int .i64 a1_2) := (blk_cell BK643.out 2).trans rfl
      have hcz30_3 : w25.cell? ⟨gb643, 3, none⟩ = some (.string a1_3) := (blk_cell BK643.out 3).trans rfl
      have hcz30_4 : w25.cell? ⟨gb643, 4, none⟩ = some (.string a1_4) := (blk_cell BK643.out 4).trans rfl
      have hcz30_5 : w25.cell? ⟨gb643, 5, none⟩ = some (.string a1_5) := (blk_cell BK643.out 5).trans rfl
      have hcz30_6 : w25.cell? ⟨gb643, 6, none⟩ = some (.int .i64 a1_6) := (blk_cell BK643.out 6).trans rfl
      have hfz30_0 := blk_frozen BK643.out 0
      have hfz30_1 := blk_frozen BK643.out 1
      have hfz30_2 := blk_frozen BK643.out 2
      have hfz30_3 := blk_frozen BK643.out 3
      have hfz30_4 := blk_frozen BK643.out 4
      have hfz30_5 := blk_frozen BK643.out 5
      have hfz30_6 := blk_frozen BK643.out 6
      try go_wp2_with (first | ((with_reducible refine gate_callee (f := 103) rfl ?_); refine goesL_ (some 43) rfl rfl Try.func103 (by kernel_rfl) rfl #[.int .i64 t648] rfl (by (try simp only [List.map_toArray, List.map_cons, List.map_nil]); first | done | rfl | (simp only [List.length_drop, List.length_take]; rfl)) ?_; (with_reducible refine (kvtwo_next.calls t648 t651 _ A6.out).mono ?_); rintro e w31 ⟨rfl, hb⟩; refine ⟨_, rfl, ?_⟩; have n0_ := Aside0.mk (Kd.R_below (by (with_reducible repeat (first | apply Kd.R_alloc | apply Kd.R_drewN | apply Kd.R_drew)); exact (Kd.R_mono (Kd.R_far (p := ⟨gb645, 5, none⟩) (Kd.R_far (p := ⟨gb645, 4, none⟩) (Kd.R_far (p := ⟨gb645, 3, none⟩) (Kd.R_types HO0.out BK645.out (by decide)) (fun _ hk => hk.2) (.bool true)) (fun _ hk => hk.2) (.string t647)) (fun _ hk => hk.2) (.int .i64 t648)) (fun _ h_ => h_.1))) hb); have n1_ := Aside0.mk (blk_below (g := gb643) (o := .cells #[.int .i64 a1_0, .int .i64 a1_1, .int .i64 a1_2, .string a1_3, .string a1_4, .string a1_5, .int .i64 a1_6] 72 (0, 0)) (by (with_reducible repeat (first | refine blk_drewN ?_ _ | refine blk_drew ?_ | refine blk_alloc ?_ _)); refine blk_far ?_ NB643_645.out _; (with_reducible repeat (first | refine blk_drewN ?_ _ | refine blk_drew ?_ | refine blk_alloc ?_ _)); refine blk_far ?_ NB643_645.out _; (with_reducible repeat (first | refine blk_drewN ?_ _ | refine blk_drew ?_ | refine blk_alloc ?_ _)); refine blk_far ?_ NB643_645.out _; (with_reducible repeat (first | refine blk_drewN ?_ _ | refine blk_drew ?_ | refine blk_alloc ?_ _)); exact BK643.out) hb); have n2_ := Aside0.mk (blk_below (g := gb644) (o := .cells #[.int .i64 0, .int .i64 0, .int .i64 0, .bool false, .string (⟨#[]⟩ : ByteArray), .int .i64 0] 60 (0, 0)) (by (with_reducible repeat (first | refine blk_drewN ?_ _ | refine blk_drew ?_ | refine blk_alloc ?_ _)); refine blk_far ?_ NB644_645.out _; (with_reducible repeat (first | refine blk_drewN ?_ _ | refine blk_drew ?_ | refine blk_alloc ?_ _)); refine blk_far ?_ NB644_645.out _; (with_reducible repeat (first | refine blk_drewN ?_ _ | refine blk_drew ?_ | refine blk_alloc ?_ _)); refine blk_far ?_ NB644_645.out _; (with_reducible repeat (first | refine blk_drewN ?_ _ | refine blk_drew ?_ | refine blk_alloc ?_ _)); exact BK644.out) hb); have n3_ := Aside0.mk (blk_below (g := gb645) (o := .cells #[.int .i64 a1_1, .int .i64 a1_2, .int .i64 0, .bool true, .string t647, .int .i64 t648] 60 (0, 0)) (by (with_reducible repeat (first | refine blk_drewN ?_ _ | refine blk_drew ?_ | refine blk_alloc ?_ _)); refine blk_put (cs := #[.int .i64 a1_1, .int .i64 a1_2, .int .i64 0, .bool true, .string t647, .int .i64 0]) ?_ 5 _ rfl; (with_reducible repeat (first | refine blk_drewN ?_ _ | refine blk_drew ?_ | refine blk_alloc ?_ _)); refine blk_put (cs := #[.int .i64 a1_1, .int .i64 a1_2, .int .i64 0, .bool true, .string (⟨#[]⟩ : ByteArray), .int .i64 0]) ?_ 4 _ rfl; (with_reducible repeat (first | refine blk_drewN ?_ _ | refine blk_drew ?_ | refine blk_alloc ?_ _)); refine blk_put (cs := #[.int .i64 a1_1, .int .i64 a1_2, .int .i64 0, .bool false, .string (⟨#[]⟩ : ByteArray), .int .i64 0]) ?_ 3 _ rfl; (with_reducible repeat (first | refine blk_drewN ?_ _ | refine blk_drew ?_ | refine blk_alloc ?_ _)); exact BK645.out) hb); have n4_ := Aside0.mk (blk_below (g := gb650) (o := .cells #[.string t646, .string t647, .int .i64 t648] 78 (0, 0)) (by (with_reducible repeat (first | refine blk_drewN ?_ _ | refine blk_drew ?_ | refine blk_alloc ?_ _)); refine blk_far ?_ NB650_645.out _; (with_reducible repeat (first | refine blk_drewN ?_ _ | refine blk_drew ?_ | refine blk_alloc ?_ _)); refine blk_far ?_ NB650_645.out _; (with_reducible repeat (first | refine blk_drewN ?_ _ | refine blk_drew ?_ | refine blk_alloc ?_ _)); refine blk_far ?_ NB650_645.out _; (with_reducible repeat (first | refine blk_drewN ?_ _ | refine blk_drew ?_ | refine blk_alloc ?_ _)); exact BK650.out) hb); have n5_ := Aside0.mk (Kept.below (S := (fun k_ => P0_ k_)) (by repeat (first | (with_reducible first | exact HK.out | apply Kept.alloc | apply Kept.drewN | apply Kept.drew | refine Kept.setCell ?_ (.inr GW643.out) _ | refine Kept.setCell ?_ (.inr GW644.out) _ | refine Kept.setCell ?_ (.inr GW645.out) _ | refine Kept.setCell ?_ (.inr GW650.out) _) | exact HK.out)) hb); have n6_ := Aside0.mk (below_step (by repeat (first | (with_reducible first | exact HB.out | apply below_alloc | apply pw_below_drewN | apply below_drew1 | refine below_set ?_ GE643.out | refine below_set ?_ GE644.out | refine below_set ?_ GE645.out | refine below_set ?_ GE650.out) | exact HB.out)) hb); clear HO0; clear BK643; clear BK644; clear BK645; clear BK650; clear HK; clear HB; have HO0 := n0_; have BK643 := n1_; have BK644 := n2_; have BK645 := n3_; have BK650 := n4_; have HK := n5_; have HB := n6_; clear n0_ n1_ n2_ n3_ n4_ n5_ n6_; (try clear hb); (try clear hb2); (try clear hk); (try clear hi); have hcz32_0 : w31.cell? ⟨gb645, 0, none⟩ = some (.int .i64 a1_1) := (blk_cell BK645.out 0).trans rfl; have hcz32_1 : w31.cell? ⟨gb645, 1, none⟩ = some (.int .i64 a1_2) := (blk_cell BK645.out 1).trans rfl; have hcz32_2 : w31.cell? ⟨gb645, 2, none⟩ = some (.int .i64 0) := (blk_cell BK645.out 2).trans rfl; have hcz32_3 : w31.cell? ⟨gb645, 3, none⟩ = some (.bool true) := (blk_cell BK645.out 3).trans rfl; have hcz32_4 : w31.cell? ⟨gb645, 4, none⟩ = some (.string t647) := (blk_cell BK645.out 4).trans rfl; have hcz32_5 : w31.cell? ⟨gb645, 5, none⟩ = some (.int .i64 t648) := (blk_cell BK645.out 5).trans rfl; have hfz32_0 := blk_frozen BK645.out 0; have hfz32_1 := blk_frozen BK645.out 1; have hfz32_2 := blk_frozen BK645.out 2; have hfz32_3 := blk_frozen BK645.out 3; have hfz32_4 := blk_frozen BK645.out 4; have hfz32_5 := blk_frozen BK645.out 5))
      have n0_ : Aside0 (Kd.R k78 78 (w31.setCell ⟨gb645, 5, none⟩ (.int .i64 t651)) w0.heap.size (fun k_ => (P0_ k_ ∨ w.heap.size ≤ k_) ∧ k_ ≠ gb650) (.slice Ao17 l0.length co17) l0) := ⟨by (with_reducible repeat (first | apply Kd.R_alloc | apply Kd.R_drewN | apply Kd.R_drew)); exact Kd.R_mono (Kd.R_far (p := ⟨gb645, 5, none⟩) (Kd.R_types HO0.out BK645.out (by decide)) (fun _ hk => hk.2) (.int .i64 t651)) (fun _ hk => ⟨hk.1.1, hk.1.2⟩)⟩
      have n1_ : Aside0 ((w31.setCell ⟨gb645, 5, none⟩ (.int .i64 t651)).heap[gb643]? = some (.cells #[.int .i64 a1_0, .int .i64 a1_1, .int .i64 a1_2, .string a1_3, .string a1_4, .string a1_5, .int .i64 a1_6] 72 (0, 0))) := ⟨by (with_reducible repeat (first | refine blk_drewN ?_ _ | refine blk_drew ?_ | refine blk_alloc ?_ _)); refine blk_far ?_ NB643_645.out _; (with_reducible repeat (first | refine blk_drewN ?_ _ | refine blk_drew ?_ | refine blk_alloc ?_ _)); exact BK643.out⟩
      have n2_ : Aside0 ((w31.setCell ⟨gb645, 5, none⟩ (.int .i64 t651)).heap[gb644]? = some (.cells #[.int .i64 0, .int .i64 0, .int .i64 0, .bool false, .string (⟨#[]⟩ : ByteArray), .int .i64 0] 60 (0, 0))) := ⟨by (with_reducible repeat (first | refine blk_drewN ?_ _ | refine blk_drew ?_ | refine blk_alloc ?_ _)); refine blk_far ?_ NB644_645.out _; (with_reducible repeat (first | refine blk_drewN ?_ _ | refine blk_drew ?_ | refine blk_alloc ?_ _)); exact BK644.out⟩
      have n3_ : Aside0 ((w31.setCell ⟨gb645, 5, none⟩ (.int .i64 t651)).heap[gb645]? = some (.cells #[.int .i64 a1_1, .int .i64 a1_2, .int .i64 0, .bool true, .string t647, .int .i64 t651] 60 (0, 0))) := ⟨by (with_reducible repeat (first | refine blk_drewN ?_ _ | refine blk_drew ?_ | refine blk_alloc ?_ _)); refine blk_put (cs := #[.int .i64 a1_1, .int .i64 a1_2, .int .i64 0, .bool true, .string t647, .int .i64 t648]) ?_ 5 _ rfl; (with_reducible repeat (first | refine blk_drewN ?_ _ | refine blk_drew ?_ | refine blk_alloc ?_ _)); exact BK645.out⟩
      have n4_ : Aside0 ((w31.setCell ⟨gb645, 5, none⟩ (.int .i64 t651)).heap[gb650]? = some (.cells #[.string t646, .string t647, .int .i64 t648] 78 (0, 0))) := ⟨by (with_reducible repeat (first | refine blk_drewN ?_ _ | refine blk_drew ?_ | refine blk_alloc ?_ _)); refine blk_far ?_ NB650_645.out _; (with_reducible repeat (first | refine blk_drewN ?_ _ | refine blk_drew ?_ | refine blk_alloc ?_ _)); exact BK650.out⟩
      have n5_ : Aside0 (Kept w (w31.setCell ⟨gb645, 5, none⟩ (.int .i64 t651)) (fun k_ => P0_ k_)) := ⟨by repeat (first | (with_reducible first | exact HK.out | apply Kept.alloc | apply Kept.drewN | apply Kept.drew | refine Kept.setCell ?_ (.inr GW643.out) _ | refine Kept.setCell ?_ (.inr GW644.out) _ | refine Kept.setCell ?_ (.inr GW645.out) _ | refine Kept.setCell ?_ (.inr GW650.out) _) | exact HK.out)⟩
      have n6_ : Aside0 (Below w0.heap.size w0 (w31.setCell ⟨gb645, 5, none⟩ (.int .i64 t651))) := ⟨by repeat (first | (with_reducible first | exact HB.out | apply below_alloc | apply pw_below_drewN | apply below_drew1 | refine below_set ?_ GE643.out | refine below_set ?_ GE644.out | refine below_set ?_ GE645.out | refine below_set ?_ GE650.out) | exact HB.out)⟩
      (try clear HO0)
      (try clear BK643)
      (try clear BK644)
      (try clear BK645)
      (try clear BK650)
      (try clear HK)
      (try clear HB)
      generalize (w31.setCell ⟨gb645, 5, none⟩ (.int .i64 t651)) = w33 at n0_ n1_ n2_ n3_ n4_ n5_ n6_ ⊢
      have HO0 := n0_
      have BK643 := n1_
      have BK644 := n2_
      have BK645 := n3_
      have BK650 := n4_
      have HK := n5_
      have HB := n6_
      clear n0_ n1_ n2_ n3_ n4_ n5_ n6_
      have n0_ := Aside0.mk (Kd.R_drew HO0.out)
      have n1_ := Aside0.mk (blk_drew BK643.out)
      have n2_ := Aside0.mk (blk_drew BK644.out)
      have n3_ := Aside0.mk (blk_drew BK645.out)
      have n4_ := Aside0.mk (blk_drew BK650.out)
      have n5_ := Aside0.mk (Kept.drew HK.out)
      have n6_ := Aside0.mk (below_drew1 HB.out)
      clear HO0
      clear BK643
      clear BK644
      clear BK645
      clear BK650
      clear HK
      clear HB
      have HO0 := n0_
      have BK643 := n1_
      have BK644 := n2_
      have BK645 := n3_
      have BK650 := n4_
      have HK := n5_
      have HB := n6_
      clear n0_ n1_ n2_ n3_ n4_ n5_ n6_
      refine start_ (n := 12) (S := fun w' => w'.cell? ⟨gb643, 0, none⟩ = some (.int .i64 a1_0) ∧ w'.cell? ⟨gb643, 1, none⟩ = some (.int .i64 a1_1) ∧ w'.cell? ⟨gb643, 2, none⟩ = some (.int .i64 a1_2) ∧ w'.cell? ⟨gb643, 3, none⟩ = some (.string a1_3) ∧ w'.cell? ⟨gb643, 4, none⟩ = some (.string a1_4) ∧ w'.cell? ⟨gb643, 5, none⟩ = some (.string a1_5) ∧ w'.cell? ⟨gb643, 6, none⟩ = some (.int .i64 a1_6) ∧ w'.cell? ⟨gb645, 0, none⟩ = some (.int .i64 a1_1) ∧ w'.cell? ⟨gb645, 1, none⟩ = some (.int .i64 a1_2) ∧ w'.cell? ⟨gb645, 2, none⟩ = some (.int .i64 0) ∧ w'.cell? ⟨gb645, 3, none⟩ = some (.bool true) ∧ w'.cell? ⟨gb645, 4, none⟩ = some (.string t647) ∧ w'.cell? ⟨gb645, 5, none⟩ = some (.int .i64 t651)) (ds := []) #[false, false, false, false, false, false, false, false, false, false, false, false] (by kernel_rfl) rfl rfl ⟨(blk_cell BK643.out 0).trans rfl, (blk_cell BK643.out 1).trans rfl, (blk_cell BK643.out 2).trans rfl, (blk_cell BK643.out 3).trans rfl, (blk_cell BK643.out 4).trans rfl, (blk_cell BK643.out 5).trans rfl, (blk_cell BK643.out 6).trans rfl, (blk_cell BK645.out 0).trans rfl, (blk_cell BK645.out 1).trans rfl, (blk_cell BK645.out 2).trans rfl, (blk_cell BK645.out 3).trans rfl, (blk_cell BK645.out 4).trans rfl, (blk_cell BK645.out 5).trans rfl⟩ (fun hHeld => ?_); refine with_tabW kvtwo_cas.tab11 kvtwo_cas.bits11 (fun HT_ HW_ => ?_)
      generalize w33.drew = w34 at HO0 BK643 BK644 BK645 BK650 HK HB hHeld ⊢
      refine pure_ (i := 0) (N := some 45) (v := ?_) (a' := ?_) #[true, false, false, false, false, false, false, false, false, false, false, false] rfl rfl (any_of HT_.out (by kernel_rfl)) (fun _ _ _ h => h) (Or.inl ⟨by rfl, ?_⟩) ?_ ?_
      rotate_left
      · intro w'
        go_simp
        with_reducible rfl
      rotate_left
      · simp only [Act.put, List.setIfInBounds_toArray, List.set_cons_zero, List.set_cons_succ, i64_w, i32_w]
        rfl
      refine pure_ (i := 1) (N := some 46) (v := ?_) (a' := ?_) #[true, true, false, false, false, false, false, false, false, false, false, false] rfl rfl (any_of HT_.out (by kernel_rfl)) (fun _ _ _ h => h) (Or.inl ⟨by rfl, ?_⟩) ?_ ?_
      rotate_left
      · intro w'
        go_simp
        with_reducible rfl
      rotate_left
      · simp only [Act.put, List.setIfInBounds_toArray, List.set_cons_zero, List.set_cons_succ, i64_w, i32_w]
        rfl
      refine pure_ (i := 3) (N := some 48) (v := ?_) (a' := ?_) #[true, true, false, true, false, false, false, false, false, false, false, false] rfl rfl (any_of HT_.out (by kernel_rfl)) (fun _ _ _ h => h) (Or.inl ⟨by rfl, ?_⟩) ?_ ?_
      rotate_left
      · intro w'
        go_simp
        with_reducible rfl
      rotate_left
      · simp only [Act.put, List.setIfInBounds_toArray, List.set_cons_zero, List.set_cons_succ, i64_w, i32_w]
        rfl
      refine pure_ (i := 5) (N := some 50) (v := ?_) (a' := ?_) #[true, true, false, true, false, true, false, false, false, false, false, false] rfl rfl (any_of HT_.out (by kernel_rfl)) (fun _ _ _ h => h) (Or.inl ⟨by rfl, ?_⟩) ?_ ?_
      rotate_left
      · intro w'
        go_simp
        with_reducible rfl
      rotate_left
      · simp only [Act.put, List.setIfInBounds_toArray, List.set_cons_zero, List.set_cons_succ, i64_w, i32_w]
        rfl
      refine take_ (i := 2) (N := some 47) (v := ?_) (a' := ?_) #[true, true, true, true, false, true, false, false, false, false, false, false] rfl rfl (take_ofW HT_.out HW_.out (by kernel_rfl)) (fun _ _ _ h => h) (Or.inl ⟨by rfl, ?_⟩) hHeld ?_ ?_
      rotate_left
      · rintro w' ⟨s0, s1, s2, s3, s4, s5, s6, s7, s8, s9, s10, s11, s12⟩
        go_simp
        with_reducible rfl
      rotate_left
      · simp only [Act.put, List.setIfInBounds_toArray, List.set_cons_zero, List.set_cons_succ, i64_w, i32_w]
        rfl
      refine take_ (i := 4) (N := some 49) (v := ?_) (a' := ?_) #[true, true, true, true, true, true, false, false, false, false, false, false] rfl rfl (take_ofW HT_.out HW_.out (by kernel_rfl)) (fun _ _ _ h => h) (Or.inl ⟨by rfl, ?_⟩) hHeld ?_ ?_
      rotate_left
      · rintro w' ⟨s0, s1, s2, s3, s4, s5, s6, s7, s8, s9, s10, s11, s12⟩
        go_simp
        with_reducible rfl
      rotate_left
      · simp only [Act.put, List.setIfInBounds_toArray, List.set_cons_zero, List.set_cons_succ, i64_w, i32_w]
        rfl
      refine take_ (i := 6) (N := some 51) (v := ?_) (a' := ?_) #[true, true, true, true, true, true, true, false, false, false, false, false] rfl rfl (take_ofW HT_.out HW_.out (by kernel_rfl)) (fun _ _ _ h => h) (Or.inl ⟨by rfl, ?_⟩) hHeld ?_ ?_
      rotate_left
      · rintro w' ⟨s0, s1, s2, s3, s4, s5, s6, s7, s8, s9, s10, s11, s12⟩
        go_simp
        with_reducible rfl
      rotate_left
      · simp only [Act.put, List.setIfInBounds_toArray, List.set_cons_zero, List.set_cons_succ, i64_w, i32_w]
        rfl
      refine pure_ (i := 7) (N := some 52) (v := ?_) (a' := ?_) #[true, true, true, true, true, true, true, true, false, false, false, false] rfl rfl (any_of HT_.out (by kernel_rfl)) (fun _ _ _ h => h) (Or.inl ⟨by rfl, ?_⟩) ?_ ?_
      rotate_left
      · intro w'
        go_simp
        with_reducible rfl
      rotate_left
      · simp only [Act.put, List.setIfInBounds_toArray, List.set_cons_zero, List.set_cons_succ, i64_w, i32_w]
        rfl
      refine take_ (i := 9) (N := some 54) (v := ?_) (a' := ?_) #[true, true, true, true, true, true, true, true, false, true, false, false] rfl rfl (take_ofW HT_.out HW_.out (by kernel_rfl)) (fun _ _ _ h => h) (Or.inl ⟨by rfl, ?_⟩) hHeld ?_ ?_
      rotate_left
      · rintro w' ⟨s0, s1, s2, s3, s4, s5, s6, s7, s8, s9, s10, s11, s12⟩
        go_simp
        with_reducible rfl
      rotate_left
      · simp only [Act.put, List.setIfInBounds_toArray, List.set_cons_zero, List.set_cons_succ, i64_w, i32_w]
        rfl
      refine one_ (i := 8) (N := some 53) #[true, true, true, true, true, true, true, true, true, true, false, false] rfl rfl (one_of HT_.out (by kernel_rfl)) (by decide) (fun K hK => ?_)
      refine goes_ Try.func102 (by kernel_rfl) rfl #[.slice Ao17 l0.length co17, .agg #[.string a1_3, .string a1_4, .int .i64 t651]] (by rfl) rfl rfl (by (try simp only [List.map_toArray, List.map_cons, List.map_nil]); first | done | rfl | (simp only [List.length_drop, List.length_take]; rfl)) ?_
      with_reducible refine (kvtwo_set.calls k (fun k_ => some k_ = (.slice Ao17 l0.length co17 : Value).ownBlock) (.slice Ao17 l0.length co17) l0 a1_3 a1_4 t651 t652 w0 _ ?side1 ?side2 A7.out).mono ?_
      (case side1 => repeat (first | (with_reducible first | exact HB.out | apply below_alloc | apply pw_below_drewN | apply below_drew1 | refine below_set ?_ GE643.out | refine below_set ?_ GE644.out | refine below_set ?_ GE645.out | refine below_set ?_ GE650.out) | exact HB.out))
      (case side2 => exact Kd.R_tight rfl HO0.out)
      rintro e w35 ⟨v653, rfl, ho0, hb, hkp⟩
      refine ⟨_, rfl, ?_⟩
      have n0_ := Aside0.mk (blk_kept (by (with_reducible repeat (first | refine blk_drewN ?_ _ | refine blk_drew ?_ | refine blk_alloc ?_ _)); exact BK643.out) hkp (fun hs_ => (fun e_ => (Kd.R_ne HO0.out BK643.out (by decide)) e_) hs_))
      have n1_ := Aside0.mk (blk_kept (by (with_reducible repeat (first | refine blk_drewN ?_ _ | refine blk_drew ?_ | refine blk_alloc ?_ _)); exact BK644.out) hkp (fun hs_ => (fun e_ => (Kd.R_ne HO0.out BK644.out (by decide)) e_) hs_))
      have n2_ := Aside0.mk (blk_kept (by (with_reducible repeat (first | refine blk_drewN ?_ _ | refine blk_drew ?_ | refine blk_alloc ?_ _)); exact BK645.out) hkp (fun hs_ => (fun e_ => (Kd.R_ne HO0.out BK645.out (by decide)) e_) hs_))
      have n3_ := Aside0.mk (blk_kept (by (with_reducible repeat (first | refine blk_drewN ?_ _ | refine blk_drew ?_ | refine blk_alloc ?_ _)); exact BK650.out) hkp (fun hs_ => (fun e_ => (Kd.R_away HO0.out (fun _ hk => hk.2)) e_) hs_))
      have n4_ := Aside0.mk (Kd.R_mono (ok' := fun k_ => (P0_ k_ ∨ w.heap.size ≤ k_) ∧ k_ ≠ gb650) ho0 (fun k_ hk_ => ⟨Or.elim hk_ (fun hs_ => (HO0.out.1 k_ (hs_).symm).1) (fun hn_ => (.inr (Nat.le_trans (by first | exact HK.out.1 | exact (show Kept w _ (fun k_ => P0_ k_) from by repeat (first | (with_reducible first | exact HK.out | apply Kept.alloc | apply Kept.drewN | apply Kept.drew | refine Kept.setCell ?_ (.inr GW643.out) _ | refine Kept.setCell ?_ (.inr GW644.out) _ | refine Kept.setCell ?_ (.inr GW645.out) _ | refine Kept.setCell ?_ (.inr GW650.out) _) | exact HK.out)).1) hn_))), Or.elim hk_ (fun hs_ => fun e_ => (Kd.R_away HO0.out (fun _ hk => hk.2)) (by rw [← e_]; exact hs_)) (fun hn_ => (Kd.freshB (g := gb650) (o := .cells #[.string t646, .string t647, .int .i64 t648] 78 (0, 0)) (by (with_reducible repeat (first | refine blk_drewN ?_ _ | refine blk_drew ?_ | refine blk_alloc ?_ _)); exact BK650.out) k_ hn_))⟩))
      have n5_ := Aside0.mk (Kept.then_ (S := (fun k_ => P0_ k_)) (by repeat (first | (with_reducible first | exact HK.out | apply Kept.alloc | apply Kept.drewN | apply Kept.drew | refine Kept.setCell ?_ (.inr GW643.out) _ | refine Kept.setCell ?_ (.inr GW644.out) _ | refine Kept.setCell ?_ (.inr GW645.out) _ | refine Kept.setCell ?_ (.inr GW650.out) _) | exact HK.out)) hkp (fun k_ hs_ => (fun e_ => (HO0.out.1 k_ e_.symm).1) hs_))
      have n6_ := Aside0.mk (hb)
      clear BK643
      clear BK644
      clear BK645
      clear BK650
      clear HK
      clear HB
      clear HO0
      have BK643 := n0_
      have BK644 := n1_
      have BK645 := n2_
      have BK650 := n3_
      have HO654 := n4_
      have HK := n5_
      have HB := n6_
      clear n0_ n1_ n2_ n3_ n4_ n5_ n6_
      (try clear hb)
      (try clear hkp)
      (try clear ho0)
      refine hK.out _ _ ⟨(blk_cell BK643.out 0).trans rfl, (blk_cell BK643.out 1).trans rfl, (blk_cell BK643.out 2).trans rfl, (blk_cell BK643.out 3).trans rfl, (blk_cell BK643.out 4).trans rfl, (blk_cell BK643.out 5).trans rfl, (blk_cell BK643.out 6).trans rfl, (blk_cell BK645.out 0).trans rfl, (blk_cell BK645.out 1).trans rfl, (blk_cell BK645.out 2).trans rfl, (blk_cell BK645.out 3).trans rfl, (blk_cell BK645.out 4).trans rfl, (blk_cell BK645.out 5).trans rfl⟩ (fun hHeld => ?_)
      clear hK K
      refine norm_ (a' := ?_) ?_ ?_
      rotate_left
      · show Act.put _ (some 53) _ = _
        simp only [Act.put, List.setIfInBounds_toArray, List.set_cons_zero, List.set_cons_succ, i64_w, i32_w]
        rfl
      refine pure_ (i := 10) (N := some 4) (v := ?_) (a' := ?_) #[true, true, true, true, true, true, true, true, true, true, true, false] rfl rfl (any_of HT_.out (by kernel_rfl)) (fun _ _ _ h => h) (Or.inl ⟨by rfl, ?_⟩) ?_ ?_
      rotate_left
      · intro w'
        go_simp
        with_reducible rfl
      rotate_left
      · simp only [Act.put, List.setIfInBounds_toArray, List.set_cons_zero, List.set_cons_succ, i64_w, i32_w]
        rfl
      refine one_ (i := 11) (N := none) #[true, true, true, true, true, true, true, true, true, true, true, true] rfl rfl (one_of HT_.out (by kernel_rfl)) (by decide) (fun K hK => ?_)
      have hs36 : w35.cell? ⟨gb644, 0, none⟩ = some (.int .i64 0) := (blk_cell BK644.out 0).trans rfl
      have hfs36 := blk_frozen BK644.out 0
      have hns36_0 := NB643_644.out
      have hns36_2 := NB645_644.out
      have hns36_3 := NB650_644.out
      have hms36_0 := NB644_643.out
      have hms36_2 := NB644_645.out
      have hms36_3 := NB644_650.out
      have hs37 : w35.cell? ⟨gb644, 1, none⟩ = some (.int .i64 0) := (blk_cell BK644.out 1).trans rfl
      have hfs37 := blk_frozen BK644.out 1
      have hns37_0 := NB643_644.out
      have hns37_2 := NB645_644.out
      have hns37_3 := NB650_644.out
      have hms37_0 := NB644_643.out
      have hms37_2 := NB644_645.out
      have hms37_3 := NB644_650.out
      have hs38 : w35.cell? ⟨gb644, 2, none⟩ = some (.int .i64 0) := (blk_cell BK644.out 2).trans rfl
      have hfs38 := blk_frozen BK644.out 2
      have hns38_0 := NB643_644.out
      have hns38_2 := NB645_644.out
      have hns38_3 := NB650_644.out
      have hms38_0 := NB644_643.out
      have hms38_2 := NB644_645.out
      have hms38_3 := NB644_650.out
      have hs39 : w35.cell? ⟨gb644, 3, none⟩ = some (.bool false) := (blk_cell BK644.out 3).trans rfl
      have hfs39 := blk_frozen BK644.out 3
      have hns39_0 := NB643_644.out
      have hns39_2 := NB645_644.out
      have hns39_3 := NB650_644.out
      have hms39_0 := NB644_643.out
      have hms39_2 := NB644_645.out
      have hms39_3 := NB644_650.out
      have hs40 : w35.cell? ⟨gb644, 4, none⟩ = some (.string (⟨#[]⟩ : ByteArray)) := (blk_cell BK644.out 4).trans rfl
      have hfs40 := blk_frozen BK644.out 4
      have hns40_0 := NB643_644.out
      have hns40_2 := NB645_644.out
      have hns40_3 := NB650_644.out
      have hms40_0 := NB644_643.out
      have hms40_2 := NB644_645.out
      have hms40_3 := NB644_650.out
      have hs41 : w35.cell? ⟨gb644, 5, none⟩ = some (.int .i64 0) := (blk_cell BK644.out 5).trans rfl
      have hfs41 := blk_frozen BK644.out 5
      have hns41_0 := NB643_644.out
      have hns41_2 := NB645_644.out
      have hns41_3 := NB650_644.out
      have hms41_0 := NB644_643.out
      have hms41_2 := NB644_645.out
      have hms41_3 := NB644_650.out
      refine skip_ (w1 := ?_) (by rfl) rfl ?_ ?_
      rotate_left
      · go_simp
        rfl
      refine hK.out _ _ ⟨((cell_far (p := ⟨gb644, _, none⟩) NB643_644.out _).trans (((cell_far (p := ⟨gb644, _, none⟩) NB643_644.out _).trans (((cell_far (p := ⟨gb644, _, none⟩) NB643_644.out _).trans (((cell_far (p := ⟨gb644, _, none⟩) NB643_644.out _).trans (((cell_far (p := ⟨gb644, _, none⟩) NB643_644.out _).trans (((cell_far (p := ⟨gb644, _, none⟩) NB643_644.out _).trans (hHeld.1)))))))))))), ((cell_far (p := ⟨gb644, _, none⟩) NB643_644.out _).trans (((cell_far (p := ⟨gb644, _, none⟩) NB643_644.out _).trans (((cell_far (p := ⟨gb644, _, none⟩) NB643_644.out _).trans (((cell_far (p := ⟨gb644, _, none⟩) NB643_644.out _).trans (((cell_far (p := ⟨gb644, _, none⟩) NB643_644.out _).trans (((cell_far (p := ⟨gb644, _, none⟩) NB643_644.out _).trans (hHeld.2.1)))))))))))), ((cell_far (p := ⟨gb644, _, none⟩) NB643_644.out _).trans (((cell_far (p := ⟨gb644, _, none⟩) NB643_644.out _).trans (((cell_far (p := ⟨gb644, _, none⟩) NB643_644.out _).trans (((cell_far (p := ⟨gb644, _, none⟩) NB643_644.out _).trans (((cell_far (p := ⟨gb644, _, none⟩) NB643_644.out _).trans (((cell_far (p := ⟨gb644, _, none⟩) NB643_644.out _).trans (hHeld.2.2.1)))))))))))), ((cell_far (p := ⟨gb644, _, none⟩) NB643_644.out _).trans (((cell_far (p := ⟨gb644, _, none⟩) NB643_644.out _).trans (((cell_far (p := ⟨gb644, _, none⟩) NB643_644.out _).trans (((cell_far (p := ⟨gb644, _, none⟩) NB643_644.out _).trans (((cell_far (p := ⟨gb644, _, none⟩) NB643_644.out _).trans (((cell_far (p := ⟨gb644, _, none⟩) NB643_644.out _).trans (hHeld.2.2.2.1)))))))))))), ((cell_far (p := ⟨gb644, _, none⟩) NB643_644.out _).trans (((cell_far (p := ⟨gb644, _, none⟩) NB643_644.out _).trans (((cell_far (p := ⟨gb644, _, none⟩) NB643_644.out _).trans (((cell_far (p := ⟨gb644, _, none⟩) NB643_644.out _).trans (((cell_far (p := ⟨gb644, _, none⟩) NB643_644.out _).trans (((cell_far (p := ⟨gb644, _, none⟩) NB643_644.out _).trans (hHeld.2.2.2.2.1)))))))))))), ((cell_far (p := ⟨gb644, _, none⟩) NB643_644.out _).trans (((cell_far (p := ⟨gb644, _, none⟩) NB643_644.out _).trans (((cell_far (p := ⟨gb644, _, none⟩) NB643_644.out _).trans (((cell_far (p := ⟨gb644, _, none⟩) NB643_644.out _).trans (((cell_far (p := ⟨gb644, _, none⟩) NB643_644.out _).trans (((cell_far (p := ⟨gb644, _, none⟩) NB643_644.out _).trans (hHeld.2.2.2.2.2.1)))))))))))), ((cell_far (p := ⟨gb644, _, none⟩) NB643_644.out _).trans (((cell_far (p := ⟨gb644, _, none⟩) NB643_644.out _).trans (((cell_far (p := ⟨gb644, _, none⟩) NB643_644.out _).trans (((cell_far (p := ⟨gb644, _, none⟩) NB643_644.out _).trans (((cell_far (p := ⟨gb644, _, none⟩) NB643_644.out _).trans (((cell_far (p := ⟨gb644, _, none⟩) NB643_644.out _).trans (hHeld.2.2.2.2.2.2.1)))))))))))), ((cell_far (p := ⟨gb644, _, none⟩) NB645_644.out _).trans (((cell_far (p := ⟨gb644, _, none⟩) NB645_644.out _).trans (((cell_far (p := ⟨gb644, _, none⟩) NB645_644.out _).trans (((cell_far (p := ⟨gb644, _, none⟩) NB645_644.out _).trans (((cell_far (p := ⟨gb644, _, none⟩) NB645_644.out _).trans (((cell_far (p := ⟨gb644, _, none⟩) NB645_644.out _).trans (hHeld.2.2.2.2.2.2.2.1)))))))))))), ((cell_far (p := ⟨gb644, _, none⟩) NB645_644.out _).trans (((cell_far (p := ⟨gb644, _, none⟩) NB645_644.out _).trans (((cell_far (p := ⟨gb644, _, none⟩) NB645_644.out _).trans (((cell_far (p := ⟨gb644, _, none⟩) NB645_644.out _).trans (((cell_far (p := ⟨gb644, _, none⟩) NB645_644.out _).trans (((cell_far (p := ⟨gb644, _, none⟩) NB645_644.out _).trans (hHeld.2.2.2.2.2.2.2.2.1)))))))))))), ((cell_far (p := ⟨gb644, _, none⟩) NB645_644.out _).trans (((cell_far (p := ⟨gb644, _, none⟩) NB645_644.out _).trans (((cell_far (p := ⟨gb644, _, none⟩) NB645_644.out _).trans (((cell_far (p := ⟨gb644, _, none⟩) NB645_644.out _).trans (((cell_far (p := ⟨gb644, _, none⟩) NB645_644.out _).trans (((cell_far (p := ⟨gb644, _, none⟩) NB645_644.out _).trans (hHeld.2.2.2.2.2.2.2.2.2.1)))))))))))), ((cell_far (p := ⟨gb644, _, none⟩) NB645_644.out _).trans (((cell_far (p := ⟨gb644, _, none⟩) NB645_644.out _).trans (((cell_far (p := ⟨gb644, _, none⟩) NB645_644.out _).trans (((cell_far (p := ⟨gb644, _, none⟩) NB645_644.out _).trans (((cell_far (p := ⟨gb644, _, none⟩) NB645_644.out _).trans (((cell_far (p := ⟨gb644, _, none⟩) NB645_644.out _).trans (hHeld.2.2.2.2.2.2.2.2.2.2.1)))))))))))), ((cell_far (p := ⟨gb644, _, none⟩) NB645_644.out _).trans (((cell_far (p := ⟨gb644, _, none⟩) NB645_644.out _).trans (((cell_far (p := ⟨gb644, _, none⟩) NB645_644.out _).trans (((cell_far (p := ⟨gb644, _, none⟩) NB645_644.out _).trans (((cell_far (p := ⟨gb644, _, none⟩) NB645_644.out _).trans (((cell_far (p := ⟨gb644, _, none⟩) NB645_644.out _).trans (hHeld.2.2.2.2.2.2.2.2.2.2.2.1)))))))))))), ((cell_far (p := ⟨gb644, _, none⟩) NB645_644.out _).trans (((cell_far (p := ⟨gb644, _, none⟩) NB645_644.out _).trans (((cell_far (p := ⟨gb644, _, none⟩) NB645_644.out _).trans (((cell_far (p := ⟨gb644, _, none⟩) NB645_644.out _).trans (((cell_far (p := ⟨gb644, _, none⟩) NB645_644.out _).trans (((cell_far (p := ⟨gb644, _, none⟩) NB645_644.out _).trans (hHeld.2.2.2.2.2.2.2.2.2.2.2.2))))))))))))⟩ (fun hHeld => ?_)
      clear hK K
      refine done_ (done_of HT_.out (by kernel_rfl)) ?_
      try go_wp2
      refine bodyPost_ret (results_tc rfl _ _ gb644 60 #[.int .i64 a1_1, .int .i64 a1_2, .int .i64 0, .bool true, .string t647, .int .i64 t651] (0, 0) _ rfl (by (with_reducible repeat (first | refine blk_drewN ?_ _ | refine blk_drew ?_ | refine blk_alloc ?_ _)); refine blk_put (cs := #[.int .i64 a1_1, .int .i64 a1_2, .int .i64 0, .bool true, .string t647, .int .i64 0]) ?_ 5 _ rfl; (with_reducible repeat (first | refine blk_drewN ?_ _ | refine blk_drew ?_ | refine blk_alloc ?_ _)); refine blk_put (cs := #[.int .i64 a1_1, .int .i64 a1_2, .int .i64 0, .bool true, .string (⟨#[]⟩ : ByteArray), .int .i64 0]) ?_ 4 _ rfl; (with_reducible repeat (first | refine blk_drewN ?_ _ | refine blk_drew ?_ | refine blk_alloc ?_ _)); refine blk_put (cs := #[.int .i64 a1_1, .int .i64 a1_2, .int .i64 0, .bool false, .string (⟨#[]⟩ : ByteArray), .int .i64 0]) ?_ 3 _ rfl; (with_reducible repeat (first | refine blk_drewN ?_ _ | refine blk_drew ?_ | refine blk_alloc ?_ _)); refine blk_put (cs := #[.int .i64 a1_1, .int .i64 a1_2, .int .i64 0, .bool false, .string (⟨#[]⟩ : ByteArray), .int .i64 0]) ?_ 2 _ rfl; (with_reducible repeat (first | refine blk_drewN ?_ _ | refine blk_drew ?_ | refine blk_alloc ?_ _)); refine blk_put (cs := #[.int .i64 a1_1, .int .i64 0, .int .i64 0, .bool false, .string (⟨#[]⟩ : ByteArray), .int .i64 0]) ?_ 1 _ rfl; (with_reducible repeat (first | refine blk_drewN ?_ _ | refine blk_drew ?_ | refine blk_alloc ?_ _)); refine blk_put (cs := #[.int .i64 0, .int .i64 0, .int .i64 0, .bool false, .string (⟨#[]⟩ : ByteArray), .int .i64 0]) ?_ 0 _ rfl; (with_reducible repeat (first | refine blk_drewN ?_ _ | refine blk_drew ?_ | refine blk_alloc ?_ _)); exact BK644.out) Try.underlying60 rfl (by kernel_rfl)) rfl ?_
      exact ⟨_, by first | rfl | (simp [errW_none, errW_some] <;> rfl) | (simp [*, errW_none, errW_some] <;> rfl), by (with_reducible repeat (first | apply Kd.R_alloc | apply Kd.R_drewN | apply Kd.R_drew)); exact Kd.R_mono (Kd.R_far (p := ⟨gb644, 5, none⟩) (Kd.R_far (p := ⟨gb644, 4, none⟩) (Kd.R_far (p := ⟨gb644, 3, none⟩) (Kd.R_far (p := ⟨gb644, 2, none⟩) (Kd.R_far (p := ⟨gb644, 1, none⟩) (Kd.R_far (p := ⟨gb644, 0, none⟩) (Kd.R_types HO654.out BK644.out (by decide)) (fun _ hk => hk.2) (.int .i64 a1_1)) (fun _ hk => hk.2) (.int .i64 a1_2)) (fun _ hk => hk.2) (.int .i64 0)) (fun _ hk => hk.2) (.bool true)) (fun _ hk => hk.2) (.string t647)) (fun _ hk => hk.2) (.int .i64 t651)) (fun _ hk => hk.1.1), by repeat (first | (with_reducible first | exact HB.out | apply below_alloc | apply pw_below_drewN | apply below_drew1 | refine below_set ?_ GE643.out | refine below_set ?_ GE644.out | refine below_set ?_ GE645.out | refine below_set ?_ GE650.out) | exact HB.out), by repeat (first | (with_reducible first | exact HK.out | apply Kept.alloc | apply Kept.drewN | apply Kept.drew | refine Kept.setCell ?_ (.inr GW643.out) _ | refine Kept.setCell ?_ (.inr GW644.out) _ | refine Kept.setCell ?_ (.inr GW645.out) _ | refine Kept.setCell ?_ (.inr GW650.out) _) | exact HK.out)⟩
    · rw [if_neg c5] at H
      have c5b0 : (t647.toList == a1_5.toList) = false := beq_eq_false_iff_ne.mpr c5
      have c5b1 : (t647.toList != a1_5.toList) = true := bne_iff_ne.mpr c5
      simp only [Option.some.injEq, Prod.mk.injEq] at H
      obtain ⟨rfl, rfl, rfl, rfl, rfl, rfl, rfl⟩ := H
      go_enter Try.func101, Try.ntmps101
      try go_wp2_with (first | ((with_reducible refine gate_dst (N := 3) rfl ?_); refine box_event ?hg (N := 3) ?hd (cs := #[.int .i64 a1_0, .int .i64 a1_1, .int .i64 a1_2, .string a1_3, .string a1_4, .string a1_5, .int .i64 a1_6]) (t := 72) ?hr ?_; (case hd => rfl); (case hg => rfl); (case hr => first | (go_simp; done) | (go_simp; rfl)); intro gb643 hg w42 hbox hb; have n0_ := Aside0.mk (Kd.R_below (by (with_reducible repeat (first | apply Kd.R_alloc | apply Kd.R_drewN | apply Kd.R_drew)); exact HO0.out) hb); have n1_ := Aside0.mk (Kept.below (S := (fun k_ => P0_ k_)) (by repeat (first | (with_reducible first | exact HK.out | apply Kept.alloc | apply Kept.drewN | apply Kept.drew) | exact HK.out)) hb); have n2_ := Aside0.mk (below_step (by repeat (first | (with_reducible first | exact HB.out | apply below_alloc | apply pw_below_drewN | apply below_drew1) | exact HB.out)) hb); have n3_ := Aside0.mk (hbox); have n4_ := Aside0.mk ((by rw [hg]; exact (by first | exact HK.out.1 | exact (show Kept w _ (fun k_ => P0_ k_) from by repeat (first | (with_reducible first | exact HK.out | apply Kept.alloc | apply Kept.drewN | apply Kept.drew) | exact HK.out)).1) : w.heap.size ≤ gb643)); have n5_ := Aside0.mk ((by rw [hg]; exact (below_size (by repeat (first | (with_reducible first | exact HB.out | apply below_alloc | apply pw_below_drewN | apply below_drew1) | exact HB.out))) : w0.heap.size ≤ gb643)); clear HO0; clear HK; clear HB; have HO0 := n0_; have HK := n1_; have HB := n2_; have BK643 := n3_; have GW643 := n4_; have GE643 := n5_; clear n0_ n1_ n2_ n3_ n4_ n5_; clear hb hbox hg) | ((with_reducible refine gate_dst (N := 5) rfl ?_); refine box_event ?hg (N := 5) ?hd (cs := #[.int .i64 0, .int .i64 0, .int .i64 0, .bool false, .string (⟨#[]⟩ : ByteArray), .int .i64 0]) (t := 60) ?hr ?_; (case hd => rfl); (case hg => rfl); (case hr => first | (go_simp; done) | (go_simp; rfl)); intro gb644 hg w43 hbox hb; have n0_ := Aside0.mk (Kd.R_below (by (with_reducible repeat (first | apply Kd.R_alloc | apply Kd.R_drewN | apply Kd.R_drew)); exact HO0.out) hb); have n1_ := Aside0.mk (blk_below (g := gb643) (o := .cells #[.int .i64 a1_0, .int .i64 a1_1, .int .i64 a1_2, .string a1_3, .string a1_4, .string a1_5, .int .i64 a1_6] 72 (0, 0)) (by (with_reducible repeat (first | refine blk_drewN ?_ _ | refine blk_drew ?_ | refine blk_alloc ?_ _)); exact BK643.out) hb); have n2_ := Aside0.mk (Kept.below (S := (fun k_ => P0_ k_)) (by repeat (first | (with_reducible first | exact HK.out | apply Kept.alloc | apply Kept.drewN | apply Kept.drew | refine Kept.setCell ?_ (.inr GW643.out) _) | exact HK.out)) hb); have n3_ := Aside0.mk (below_step (by repeat (first | (with_reducible first | exact HB.out | apply below_alloc | apply pw_below_drewN | apply below_drew1 | refine below_set ?_ GE643.out) | exact HB.out)) hb); have n4_ := Aside0.mk (hbox); have n5_ := Aside0.mk ((by rw [hg]; exact (by first | exact HK.out.1 | exact (show Kept w _ (fun k_ => P0_ k_) from by repeat (first | (with_reducible first | exact HK.out | apply Kept.alloc | apply Kept.drewN | apply Kept.drew | refine Kept.setCell ?_ (.inr GW643.out) _) | exact HK.out)).1) : w.heap.size ≤ gb644)); have n6_ := Aside0.mk ((by rw [hg]; exact (below_size (by repeat (first | (with_reducible first | exact HB.out | apply below_alloc | apply pw_below_drewN | apply below_drew1 | refine below_set ?_ GE643.out) | exact HB.out))) : w0.heap.size ≤ gb644)); have n7_ := Aside0.mk ((by rw [hg]; exact Nat.ne_of_lt (blk_lt (g := gb643) (o := .cells #[.int .i64 a1_0, .int .i64 a1_1, .int .i64 a1_2, .string a1_3, .string a1_4, .string a1_5, .int .i64 a1_6] 72 (0, 0)) (by (with_reducible repeat (first | refine blk_drewN ?_ _ | refine blk_drew ?_ | refine blk_alloc ?_ _)); exact BK643.out)) : gb643 ≠ gb644)); have n8_ := Aside0.mk ((by rw [hg]; exact Nat.ne_of_gt (blk_lt (g := gb643) (o := .cells #[.int .i64 a1_0, .int .i64 a1_1, .int .i64 a1_2, .string a1_3, .string a1_4, .string a1_5, .int .i64 a1_6] 72 (0, 0)) (by (with_reducible repeat (first | refine blk_drewN ?_ _ | refine blk_drew ?_ | refine blk_alloc ?_ _)); exact BK643.out)) : gb644 ≠ gb643)); clear HO0; clear BK643; clear HK; clear HB; have HO0 := n0_; have BK643 := n1_; have HK := n2_; have HB := n3_; have BK644 := n4_; have GW644 := n5_; have GE644 := n6_; have NB643_644 := n7_; have NB644_643 := n8_; clear n0_ n1_ n2_ n3_ n4_ n5_ n6_ n7_ n8_; clear hb hbox hg; have hnb44 := NB643_644.out; have hnc44 := NB644_643.out; have hcz45_0 : w43.cell? ⟨gb643, 0, none⟩ = some (.int .i64 a1_0) := (blk_cell BK643.out 0).trans rfl; have hcz45_1 : w43.cell? ⟨gb643, 1, none⟩ = some (.int .i64 a1_1) := (blk_cell BK643.out 1).trans rfl; have hcz45_2 : w43.cell? ⟨gb643, 2, none⟩ = some (.int .i64 a1_2) := (blk_cell BK643.out 2).trans rfl; have hcz45_3 : w43.cell? ⟨gb643, 3, none⟩ = some (.string a1_3) := (blk_cell BK643.out 3).trans rfl; have hcz45_4 : w43.cell? ⟨gb643, 4, none⟩ = some (.string a1_4) := (blk_cell BK643.out 4).trans rfl; have hcz45_5 : w43.cell? ⟨gb643, 5, none⟩ = some (.string a1_5) := (blk_cell BK643.out 5).trans rfl; have hcz45_6 : w43.cell? ⟨gb643, 6, none⟩ = some (.int .i64 a1_6) := (blk_cell BK643.out 6).trans rfl; have hfz45_0 := blk_frozen BK643.out 0; have hfz45_1 := blk_frozen BK643.out 1; have hfz45_2 := blk_frozen BK643.out 2; have hfz45_3 := blk_frozen BK643.out 3; have hfz45_4 := blk_frozen BK643.out 4; have hfz45_5 := blk_frozen BK643.out 5; have hfz45_6 := blk_frozen BK643.out 6) | ((with_reducible refine gate_dst (N := 6) rfl ?_); refine box_event ?hg (N := 6) ?hd (cs := #[.int .i64 0, .int .i64 0, .int .i64 0, .bool false, .string (⟨#[]⟩ : ByteArray), .int .i64 0]) (t := 60) ?hr ?_; (case hd => rfl); (case hg => rfl); (case hr => first | (go_simp; done) | (go_simp; rfl)); intro gb645 hg w46 hbox hb; have n0_ := Aside0.mk (Kd.R_below (by (with_reducible repeat (first | apply Kd.R_alloc | apply Kd.R_drewN | apply Kd.R_drew)); exact HO0.out) hb); have n1_ := Aside0.mk (blk_below (g := gb643) (o := .cells #[.int .i64 a1_0, .int .i64 a1_1, .int .i64 a1_2, .string a1_3, .string a1_4, .string a1_5, .int .i64 a1_6] 72 (0, 0)) (by (with_reducible repeat (first | refine blk_drewN ?_ _ | refine blk_drew ?_ | refine blk_alloc ?_ _)); exact BK643.out) hb); have n2_ := Aside0.mk (blk_below (g := gb644) (o := .cells #[.int .i64 0, .int .i64 0, .int .i64 0, .bool false, .string (⟨#[]⟩ : ByteArray), .int .i64 0] 60 (0, 0)) (by (with_reducible repeat (first | refine blk_drewN ?_ _ | refine blk_drew ?_ | refine blk_alloc ?_ _)); exact BK644.out) hb); have n3_ := Aside0.mk (Kept.below (S := (fun k_ => P0_ k_)) (by repeat (first | (with_reducible first | exact HK.out | apply Kept.alloc | apply Kept.drewN | apply Kept.drew | refine Kept.setCell ?_ (.inr GW643.out) _ | refine Kept.setCell ?_ (.inr GW644.out) _) | exact HK.out)) hb); have n4_ := Aside0.mk (below_step (by repeat (first | (with_reducible first | exact HB.out | apply below_alloc | apply pw_below_drewN | apply below_drew1 | refine below_set ?_ GE643.out | refine below_set ?_ GE644.out) | exact HB.out)) hb); have n5_ := Aside0.mk (hbox); have n6_ := Aside0.mk ((by rw [hg]; exact (by first | exact HK.out.1 | exact (show Kept w _ (fun k_ => P0_ k_) from by repeat (first | (with_reducible first | exact HK.out | apply Kept.alloc | apply Kept.drewN | apply Kept.drew | refine Kept.setCell ?_ (.inr GW643.out) _ | refine Kept.setCell ?_ (.inr GW644.out) _) | exact HK.out)).1) : w.heap.size ≤ gb645)); have n7_ := Aside0.mk ((by rw [hg]; exact (below_size (by repeat (first | (with_reducible first | exact HB.out | apply below_alloc | apply pw_below_drewN | apply below_drew1 | refine below_set ?_ GE643.out | refine below_set ?_ GE644.out) | exact HB.out))) : w0.heap.size ≤ gb645)); have n8_ := Aside0.mk ((by rw [hg]; exact Nat.ne_of_lt (blk_lt (g := gb643) (o := .cells #[.int .i64 a1_0, .int .i64 a1_1, .int .i64 a1_2, .string a1_3, .string a1_4, .string a1_5, .int .i64 a1_6] 72 (0, 0)) (by (with_reducible repeat (first | refine blk_drewN ?_ _ | refine blk_drew ?_ | refine blk_alloc ?_ _)); exact BK643.out)) : gb643 ≠ gb645)); have n9_ := Aside0.mk ((by rw [hg]; exact Nat.ne_of_gt (blk_lt (g := gb643) (o := .cells #[.int .i64 a1_0, .int .i64 a1_1, .int .i64 a1_2, .string a1_3, .string a1_4, .string a1_5, .int .i64 a1_6] 72 (0, 0)) (by (with_reducible repeat (first | refine blk_drewN ?_ _ | refine blk_drew ?_ | refine blk_alloc ?_ _)); exact BK643.out)) : gb645 ≠ gb643)); have n10_ := Aside0.mk ((by rw [hg]; exact Nat.ne_of_lt (blk_lt (g := gb644) (o := .cells #[.int .i64 0, .int .i64 0, .int .i64 0, .bool false, .string (⟨#[]⟩ : ByteArray), .int .i64 0] 60 (0, 0)) (by (with_reducible repeat (first | refine blk_drewN ?_ _ | refine blk_drew ?_ | refine blk_alloc ?_ _)); exact BK644.out)) : gb644 ≠ gb645)); have n11_ := Aside0.mk ((by rw [hg]; exact Nat.ne_of_gt (blk_lt (g := gb644) (o := .cells #[.int .i64 0, .int .i64 0, .int .i64 0, .bool false, .string (⟨#[]⟩ : ByteArray), .int .i64 0] 60 (0, 0)) (by (with_reducible repeat (first | refine blk_drewN ?_ _ | refine blk_drew ?_ | refine blk_alloc ?_ _)); exact BK644.out)) : gb645 ≠ gb644)); clear HO0; clear BK643; clear BK644; clear HK; clear HB; have HO0 := n0_; have BK643 := n1_; have BK644 := n2_; have HK := n3_; have HB := n4_; have BK645 := n5_; have GW645 := n6_; have GE645 := n7_; have NB643_645 := n8_; have NB645_643 := n9_; have NB644_645 := n10_; have NB645_644 := n11_; clear n0_ n1_ n2_ n3_ n4_ n5_ n6_ n7_ n8_ n9_ n10_ n11_; clear hb hbox hg; have hnb47 := NB645_643.out; have hnc47 := NB643_645.out; have hnb48 := NB645_644.out; have hnc48 := NB644_645.out; have hcz49_0 : w46.cell? ⟨gb645, 0, none⟩ = some (.int .i64 0) := (blk_cell BK645.out 0).trans rfl; have hcz49_1 : w46.cell? ⟨gb645, 1, none⟩ = some (.int .i64 0) := (blk_cell BK645.out 1).trans rfl; have hcz49_2 : w46.cell? ⟨gb645, 2, none⟩ = some (.int .i64 0) := (blk_cell BK645.out 2).trans rfl; have hcz49_3 : w46.cell? ⟨gb645, 3, none⟩ = some (.bool false) := (blk_cell BK645.out 3).trans rfl; have hcz49_4 : w46.cell? ⟨gb645, 4, none⟩ = some (.string (⟨#[]⟩ : ByteArray)) := (blk_cell BK645.out 4).trans rfl; have hcz49_5 : w46.cell? ⟨gb645, 5, none⟩ = some (.int .i64 0) := (blk_cell BK645.out 5).trans rfl; have hfz49_0 := blk_frozen BK645.out 0; have hfz49_1 := blk_frozen BK645.out 1; have hfz49_2 := blk_frozen BK645.out 2; have hfz49_3 := blk_frozen BK645.out 3; have hfz49_4 := blk_frozen BK645.out 4; have hfz49_5 := blk_frozen BK645.out 5; have hcz50_0 : w46.cell? ⟨gb643, 0, none⟩ = some (.int .i64 a1_0) := (blk_cell BK643.out 0).trans rfl; have hcz50_1 : w46.cell? ⟨gb643, 1, none⟩ = some (.int .i64 a1_1) := (blk_cell BK643.out 1).trans rfl; have hcz50_2 : w46.cell? ⟨gb643, 2, none⟩ = some (.int .i64 a1_2) := (blk_cell BK643.out 2).trans rfl; have hcz50_3 : w46.cell? ⟨gb643, 3, none⟩ = some (.string a1_3) := (blk_cell BK643.out 3).trans rfl; have hcz50_4 : w46.cell? ⟨gb643, 4, none⟩ = some (.string a1_4) := (blk_cell BK643.out 4).trans rfl; have hcz50_5 : w46.cell? ⟨gb643, 5, none⟩ = some (.string a1_5) := (blk_cell BK643.out 5).trans rfl; have hcz50_6 : w46.cell? ⟨gb643, 6, none⟩ = some (.int .i64 a1_6) := (blk_cell BK643.out 6).trans rfl; have hfz50_0 := blk_frozen BK643.out 0; have hfz50_1 := blk_frozen BK643.out 1; have hfz50_2 := blk_frozen BK643.out 2; have hfz50_3 := blk_frozen BK643.out 3; have hfz50_4 := blk_frozen BK643.out 4; have hfz50_5 := blk_frozen BK643.out 5; have hfz50_6 := blk_frozen BK643.out 6; obtain ⟨Ao51, co51, eo51⟩ := Kd.R_slice HO0.out; subst eo51) | ((with_reducible refine gate_callee (f := 60) rfl ?_); refine goesL_ (some 18) rfl rfl Try.func60 (by kernel_rfl) rfl #[.slice Ao51 l0.length co51, .string a1_3] rfl (by (try simp only [List.map_toArray, List.map_cons, List.map_nil]); first | done | rfl | (simp only [List.length_drop, List.length_take]; rfl)) ?_; (with_reducible refine (kvone_Find.calls k _ _ l0 a1_3 t646 t647 t648 true _ ?side1 ?side2 A3.out).mono ?_); (case side1 => refine (Kd.R_reads' (e := 78) (base := w0.heap.size) (ok := fun k_ => (P0_ k_ ∨ w.heap.size ≤ k_)) (n := l0.length) (c := co51) ?_).2.2; exact (by (with_reducible repeat (first | apply Kd.R_alloc | apply Kd.R_drewN | apply Kd.R_drew)); exact (Kd.R_mono (Kd.R_far (p := ⟨gb645, 5, none⟩) (Kd.R_far (p := ⟨gb645, 4, none⟩) (Kd.R_far (p := ⟨gb645, 3, none⟩) (Kd.R_far (p := ⟨gb645, 2, none⟩) (Kd.R_far (p := ⟨gb645, 1, none⟩) (Kd.R_far (p := ⟨gb645, 0, none⟩) (Kd.R_types HO0.out BK645.out (by decide)) (fun _ hk => hk.2) (.int .i64 a1_1)) (fun _ hk => hk.2) (.int .i64 a1_2)) (fun _ hk => hk.2) (.int .i64 0)) (fun _ hk => hk.2) (.bool false)) (fun _ hk => hk.2) (.string (⟨#[]⟩ : ByteArray))) (fun _ hk => hk.2) (.int .i64 0)) (fun _ h_ => h_.1)))); (case side2 => exact (Kd.R_reads' HO0.out).2.1); rintro e w52 ⟨rfl, hb⟩; refine ⟨_, rfl, ?_⟩; have n0_ := Aside0.mk (Kd.R_below (by (with_reducible repeat (first | apply Kd.R_alloc | apply Kd.R_drewN | apply Kd.R_drew)); exact (Kd.R_mono (Kd.R_far (p := ⟨gb645, 5, none⟩) (Kd.R_far (p := ⟨gb645, 4, none⟩) (Kd.R_far (p := ⟨gb645, 3, none⟩) (Kd.R_far (p := ⟨gb645, 2, none⟩) (Kd.R_far (p := ⟨gb645, 1, none⟩) (Kd.R_far (p := ⟨gb645, 0, none⟩) (Kd.R_types HO0.out BK645.out (by decide)) (fun _ hk => hk.2) (.int .i64 a1_1)) (fun _ hk => hk.2) (.int .i64 a1_2)) (fun _ hk => hk.2) (.int .i64 0)) (fun _ hk => hk.2) (.bool false)) (fun _ hk => hk.2) (.string (⟨#[]⟩ : ByteArray))) (fun _ hk => hk.2) (.int .i64 0)) (fun _ h_ => h_.1))) hb); have n1_ := Aside0.mk (blk_below (g := gb643) (o := .cells #[.int .i64 a1_0, .int .i64 a1_1, .int .i64 a1_2, .string a1_3, .string a1_4, .string a1_5, .int .i64 a1_6] 72 (0, 0)) (by (with_reducible repeat (first | refine blk_drewN ?_ _ | refine blk_drew ?_ | refine blk_alloc ?_ _)); refine blk_far ?_ NB643_645.out _; (with_reducible repeat (first | refine blk_drewN ?_ _ | refine blk_drew ?_ | refine blk_alloc ?_ _)); refine blk_far ?_ NB643_645.out _; (with_reducible repeat (first | refine blk_drewN ?_ _ | refine blk_drew ?_ | refine blk_alloc ?_ _)); refine blk_far ?_ NB643_645.out _; (with_reducible repeat (first | refine blk_drewN ?_ _ | refine blk_drew ?_ | refine blk_alloc ?_ _)); refine blk_far ?_ NB643_645.out _; (with_reducible repeat (first | refine blk_drewN ?_ _ | refine blk_drew ?_ | refine blk_alloc ?_ _)); refine blk_far ?_ NB643_645.out _; (with_reducible repeat (first | refine blk_drewN ?_ _ | refine blk_drew ?_ | refine blk_alloc ?_ _)); refine blk_far ?_ NB643_645.out _; (with_reducible repeat (first | refine blk_drewN ?_ _ | refine blk_drew ?_ | refine blk_alloc ?_ _)); exact BK643.out) hb); have n2_ := Aside0.mk (blk_below (g := gb644) (o := .cells #[.int .i64 0, .int .i64 0, .int .i64 0, .bool false, .string (⟨#[]⟩ : ByteArray), .int .i64 0] 60 (0, 0)) (by (with_reducible repeat (first | refine blk_drewN ?_ _ | refine blk_drew ?_ | refine blk_alloc ?_ _)); refine blk_far ?_ NB644_645.out _; (with_reducible repeat (first | refine blk_drewN ?_ _ | refine blk_drew ?_ | refine blk_alloc ?_ _)); refine blk_far ?_ NB644_645.out _; (with_reducible repeat (first | refine blk_drewN ?_ _ | refine blk_drew ?_ | refine blk_alloc ?_ _)); refine blk_far ?_ NB644_645.out _; (with_reducible repeat (first | refine blk_drewN ?_ _ | refine blk_drew ?_ | refine blk_alloc ?_ _)); refine blk_far ?_ NB644_645.out _; (with_reducible repeat (first | refine blk_drewN ?_ _ | refine blk_drew ?_ | refine blk_alloc ?_ _)); refine blk_far ?_ NB644_645.out _; (with_reducible repeat (first | refine blk_drewN ?_ _ | refine blk_drew ?_ | refine blk_alloc ?_ _)); refine blk_far ?_ NB644_645.out _; (with_reducible repeat (first | refine blk_drewN ?_ _ | refine blk_drew ?_ | refine blk_alloc ?_ _)); exact BK644.out) hb); have n3_ := Aside0.mk (blk_below (g := gb645) (o := .cells #[.int .i64 a1_1, .int .i64 a1_2, .int .i64 0, .bool false, .string (⟨#[]⟩ : ByteArray), .int .i64 0] 60 (0, 0)) (by (with_reducible repeat (first | refine blk_drewN ?_ _ | refine blk_drew ?_ | refine blk_alloc ?_ _)); refine blk_put (cs := #[.int .i64 a1_1, .int .i64 a1_2, .int .i64 0, .bool false, .string (⟨#[]⟩ : ByteArray), .int .i64 0]) ?_ 5 _ rfl; (with_reducible repeat (first | refine blk_drewN ?_ _ | refine blk_drew ?_ | refine blk_alloc ?_ _)); refine blk_put (cs := #[.int .i64 a1_1, .int .i64 a1_2, .int .i64 0, .bool false, .string (⟨#[]⟩ : ByteArray), .int .i64 0]) ?_ 4 _ rfl; (with_reducible repeat (first | refine blk_drewN ?_ _ | refine blk_drew ?_ | refine blk_alloc ?_ _)); refine blk_put (cs := #[.int .i64 a1_1, .int .i64 a1_2, .int .i64 0, .bool false, .string (⟨#[]⟩ : ByteArray), .int .i64 0]) ?_ 3 _ rfl; (with_reducible repeat (first | refine blk_drewN ?_ _ | refine blk_drew ?_ | refine blk_alloc ?_ _)); refine blk_put (cs := #[.int .i64 a1_1, .int .i64 a1_2, .int .i64 0, .bool false, .string (⟨#[]⟩ : ByteArray), .int .i64 0]) ?_ 2 _ rfl; (with_reducible repeat (first | refine blk_drewN ?_ _ | refine blk_drew ?_ | refine blk_alloc ?_ _)); refine blk_put (cs := #[.int .i64 a1_1, .int .i64 0, .int .i64 0, .bool false, .string (⟨#[]⟩ : ByteArray), .int .i64 0]) ?_ 1 _ rfl; (with_reducible repeat (first | refine blk_drewN ?_ _ | refine blk_drew ?_ | refine blk_alloc ?_ _)); refine blk_put (cs := #[.int .i64 0, .int .i64 0, .int .i64 0, .bool false, .string (⟨#[]⟩ : ByteArray), .int .i64 0]) ?_ 0 _ rfl; (with_reducible repeat (first | refine blk_drewN ?_ _ | refine blk_drew ?_ | refine blk_alloc ?_ _)); exact BK645.out) hb); have n4_ := Aside0.mk (Kept.below (S := (fun k_ => P0_ k_)) (by repeat (first | (with_reducible first | exact HK.out | apply Kept.alloc | apply Kept.drewN | apply Kept.drew | refine Kept.setCell ?_ (.inr GW643.out) _ | refine Kept.setCell ?_ (.inr GW644.out) _ | refine Kept.setCell ?_ (.inr GW645.out) _) | exact HK.out)) hb); have n5_ := Aside0.mk (below_step (by repeat (first | (with_reducible first | exact HB.out | apply below_alloc | apply pw_below_drewN | apply below_drew1 | refine below_set ?_ GE643.out | refine below_set ?_ GE644.out | refine below_set ?_ GE645.out) | exact HB.out)) hb); clear HO0; clear BK643; clear BK644; clear BK645; clear HK; clear HB; have HO0 := n0_; have BK643 := n1_; have BK644 := n2_; have BK645 := n3_; have HK := n4_; have HB := n5_; clear n0_ n1_ n2_ n3_ n4_ n5_; (try clear hb); (try clear hb2); (try clear hk); (try clear hi)) | ((with_reducible refine gate_dst (N := 7) rfl ?_); refine box_event ?hg (N := 7) ?hd (cs := #[.string (⟨#[]⟩ : ByteArray), .string (⟨#[]⟩ : ByteArray), .int .i64 0]) (t := 78) ?hr ?_; (case hd => rfl); (case hg => rfl); (case hr => first | (go_simp; done) | (go_simp; rfl)); intro gb650 hg w53 hbox hb; have n0_ := Aside0.mk (Kd.R_below (Kd.R_elderB (by (with_reducible repeat (first | apply Kd.R_alloc | apply Kd.R_drewN | apply Kd.R_drew)); exact HO0.out) gb650 (Nat.le_of_eq hg.symm)) hb); have n1_ := Aside0.mk (blk_below (g := gb643) (o := .cells #[.int .i64 a1_0, .int .i64 a1_1, .int .i64 a1_2, .string a1_3, .string a1_4, .string a1_5, .int .i64 a1_6] 72 (0, 0)) (by (with_reducible repeat (first | refine blk_drewN ?_ _ | refine blk_drew ?_ | refine blk_alloc ?_ _)); exact BK643.out) hb); have n2_ := Aside0.mk (blk_below (g := gb644) (o := .cells #[.int .i64 0, .int .i64 0, .int .i64 0, .bool false, .string (⟨#[]⟩ : ByteArray), .int .i64 0] 60 (0, 0)) (by (with_reducible repeat (first | refine blk_drewN ?_ _ | refine blk_drew ?_ | refine blk_alloc ?_ _)); exact BK644.out) hb); have n3_ := Aside0.mk (blk_below (g := gb645) (o := .cells #[.int .i64 a1_1, .int .i64 a1_2, .int .i64 0, .bool false, .string (⟨#[]⟩ : ByteArray), .int .i64 0] 60 (0, 0)) (by (with_reducible repeat (first | refine blk_drewN ?_ _ | refine blk_drew ?_ | refine blk_alloc ?_ _)); exact BK645.out) hb); have n4_ := Aside0.mk (Kept.below (S := (fun k_ => P0_ k_)) (by repeat (first | (with_reducible first | exact HK.out | apply Kept.alloc | apply Kept.drewN | apply Kept.drew | refine Kept.setCell ?_ (.inr GW643.out) _ | refine Kept.setCell ?_ (.inr GW644.out) _ | refine Kept.setCell ?_ (.inr GW645.out) _) | exact HK.out)) hb); have n5_ := Aside0.mk (below_step (by repeat (first | (with_reducible first | exact HB.out | apply below_alloc | apply pw_below_drewN | apply below_drew1 | refine below_set ?_ GE643.out | refine below_set ?_ GE644.out | refine below_set ?_ GE645.out) | exact HB.out)) hb); have n6_ := Aside0.mk (hbox); have n7_ := Aside0.mk ((by rw [hg]; exact (by first | exact HK.out.1 | exact (show Kept w _ (fun k_ => P0_ k_) from by repeat (first | (with_reducible first | exact HK.out | apply Kept.alloc | apply Kept.drewN | apply Kept.drew | refine Kept.setCell ?_ (.inr GW643.out) _ | refine Kept.setCell ?_ (.inr GW644.out) _ | refine Kept.setCell ?_ (.inr GW645.out) _) | exact HK.out)).1) : w.heap.size ≤ gb650)); have n8_ := Aside0.mk ((by rw [hg]; exact (below_size (by repeat (first | (with_reducible first | exact HB.out | apply below_alloc | apply pw_below_drewN | apply below_drew1 | refine below_set ?_ GE643.out | refine below_set ?_ GE644.out | refine below_set ?_ GE645.out) | exact HB.out))) : w0.heap.size ≤ gb650)); have n9_ := Aside0.mk ((by rw [hg]; exact Nat.ne_of_lt (blk_lt (g := gb643) (o := .cells #[.int .i64 a1_0, .int .i64 a1_1, .int .i64 a1_2, .string a1_3, .string a1_4, .string a1_5, .int .i64 a1_6] 72 (0, 0)) (by (with_reducible repeat (first | refine blk_drewN ?_ _ | refine blk_drew ?_ | refine blk_alloc ?_ _)); exact BK643.out)) : gb643 ≠ gb650)); have n10_ := Aside0.mk ((by rw [hg]; exact Nat.ne_of_gt (blk_lt (g := gb643) (o := .cells #[.int .i64 a1_0, .int .i64 a1_1, .int .i64 a1_2, .string a1_3, .string a1_4, .string a1_5, .int .i64 a1_6] 72 (0, 0)) (by (with_reducible repeat (first | refine blk_drewN ?_ _ | refine blk_drew ?_ | refine blk_alloc ?_ _)); exact BK643.out)) : gb650 ≠ gb643)); have n11_ := Aside0.mk ((by rw [hg]; exact Nat.ne_of_lt (blk_lt (g := gb644) (o := .cells #[.int .i64 0, .int .i64 0, .int .i64 0, .bool false, .string (⟨#[]⟩ : ByteArray), .int .i64 0] 60 (0, 0)) (by (with_reducible repeat (first | refine blk_drewN ?_ _ | refine blk_drew ?_ | refine blk_alloc ?_ _)); exact BK644.out)) : gb644 ≠ gb650)); have n12_ := Aside0.mk ((by rw [hg]; exact Nat.ne_of_gt (blk_lt (g := gb644) (o := .cells #[.int .i64 0, .int .i64 0, .int .i64 0, .bool false, .string (⟨#[]⟩ : ByteArray), .int .i64 0] 60 (0, 0)) (by (with_reducible repeat (first | refine blk_drewN ?_ _ | refine blk_drew ?_ | refine blk_alloc ?_ _)); exact BK644.out)) : gb650 ≠ gb644)); have n13_ := Aside0.mk ((by rw [hg]; exact Nat.ne_of_lt (blk_lt (g := gb645) (o := .cells #[.int .i64 a1_1, .int .i64 a1_2, .int .i64 0, .bool false, .string (⟨#[]⟩ : ByteArray), .int .i64 0] 60 (0, 0)) (by (with_reducible repeat (first | refine blk_drewN ?_ _ | refine blk_drew ?_ | refine blk_alloc ?_ _)); exact BK645.out)) : gb645 ≠ gb650)); have n14_ := Aside0.mk ((by rw [hg]; exact Nat.ne_of_gt (blk_lt (g := gb645) (o := .cells #[.int .i64 a1_1, .int .i64 a1_2, .int .i64 0, .bool false, .string (⟨#[]⟩ : ByteArray), .int .i64 0] 60 (0, 0)) (by (with_reducible repeat (first | refine blk_drewN ?_ _ | refine blk_drew ?_ | refine blk_alloc ?_ _)); exact BK645.out)) : gb650 ≠ gb645)); clear HO0; clear BK643; clear BK644; clear BK645; clear HK; clear HB; have HO0 := n0_; have BK643 := n1_; have BK644 := n2_; have BK645 := n3_; have HK := n4_; have HB := n5_; have BK650 := n6_; have GW650 := n7_; have GE650 := n8_; have NB643_650 := n9_; have NB650_643 := n10_; have NB644_650 := n11_; have NB650_644 := n12_; have NB645_650 := n13_; have NB650_645 := n14_; clear n0_ n1_ n2_ n3_ n4_ n5_ n6_ n7_ n8_ n9_ n10_ n11_ n12_ n13_ n14_; clear hb hbox hg; have hnb54 := NB650_643.out; have hnc54 := NB643_650.out; have hnb55 := NB650_644.out; have hnc55 := NB644_650.out; have hnb56 := NB650_645.out; have hnc56 := NB645_650.out; have hcz57_0 : w53.cell? ⟨gb650, 0, none⟩ = some (.string (⟨#[]⟩ : ByteArray)) := (blk_cell BK650.out 0).trans rfl; have hcz57_1 : w53.cell? ⟨gb650, 1, none⟩ = some (.string (⟨#[]⟩ : ByteArray)) := (blk_cell BK650.out 1).trans rfl; have hcz57_2 : w53.cell? ⟨gb650, 2, none⟩ = some (.int .i64 0) := (blk_cell BK650.out 2).trans rfl; have hfz57_0 := blk_frozen BK650.out 0; have hfz57_1 := blk_frozen BK650.out 1; have hfz57_2 := blk_frozen BK650.out 2))
      have n0_ : Aside0 (Kd.R k78 78 (((w53.setCell ⟨gb650, 0, none⟩ (.string t646)).setCell ⟨gb650, 1, none⟩ (.string t647)).setCell ⟨gb650, 2, none⟩ (.int .i64 t648)) w0.heap.size (fun k_ => (P0_ k_ ∨ w.heap.size ≤ k_) ∧ k_ ≠ gb650) (.slice Ao51 l0.length co51) l0) := ⟨by (with_reducible repeat (first | apply Kd.R_alloc | apply Kd.R_drewN | apply Kd.R_drew)); exact Kd.R_mono (Kd.R_far (p := ⟨gb650, 2, none⟩) (Kd.R_far (p := ⟨gb650, 1, none⟩) (Kd.R_far (p := ⟨gb650, 0, none⟩) (Kd.R_mono HO0.out (fun k_ hk => (⟨hk, hk.2⟩ : _ ∧ k_ ≠ gb650))) (fun _ hk => hk.2) (.string t646)) (fun _ hk => hk.2) (.string t647)) (fun _ hk => hk.2) (.int .i64 t648)) (fun _ hk => ⟨hk.1.1, hk.1.2⟩)⟩
      have n1_ : Aside0 ((((w53.setCell ⟨gb650, 0, none⟩ (.string t646)).setCell ⟨gb650, 1, none⟩ (.string t647)).setCell ⟨gb650, 2, none⟩ (.int .i64 t648)).heap[gb643]? = some (.cells #[.int .i64 a1_0, .int .i64 a1_1, .int .i64 a1_2, .string a1_3, .string a1_4, .string a1_5, .int .i64 a1_6] 72 (0, 0))) := ⟨by (with_reducible repeat (first | refine blk_drewN ?_ _ | refine blk_drew ?_ | refine blk_alloc ?_ _)); refine blk_far ?_ NB643_650.out _; (with_reducible repeat (first | refine blk_drewN ?_ _ | refine blk_drew ?_ | refine blk_alloc ?_ _)); refine blk_far ?_ NB643_650.out _; (with_reducible repeat (first | refine blk_drewN ?_ _ | refine blk_drew ?_ | refine blk_alloc ?_ _)); refine blk_far ?_ NB643_650.out _; (with_reducible repeat (first | refine blk_drewN ?_ _ | refine blk_drew ?_ | refine blk_alloc ?_ _)); exact BK643.out⟩
      have n2_ : Aside0 ((((w53.setCell ⟨gb650, 0, none⟩ (.string t646)).setCell ⟨gb650, 1, none⟩ (.string t647)).setCell ⟨gb650, 2, none⟩ (.int .i64 t648)).heap[gb644]? = some (.cells #[.int .i64 0, .int .i64 0, .int .i64 0, .bool false, .string (⟨#[]⟩ : ByteArray), .int .i64 0] 60 (0, 0))) := ⟨by (with_reducible repeat (first | refine blk_drewN ?_ _ | refine blk_drew ?_ | refine blk_alloc ?_ _)); refine blk_far ?_ NB644_650.out _; (with_reducible repeat (first | refine blk_drewN ?_ _ | refine blk_drew ?_ | refine blk_alloc ?_ _)); refine blk_far ?_ NB644_650.out _; (with_reducible repeat (first | refine blk_drewN ?_ _ | refine blk_drew ?_ | refine blk_alloc ?_ _)); refine blk_far ?_ NB644_650.out _; (with_reducible repeat (first | refine blk_drewN ?_ _ | refine blk_drew ?_ | refine blk_alloc ?_ _)); exact BK644.out⟩
      have n3_ : Aside0 ((((w53.setCell ⟨gb650, 0, none⟩ (.string t646)).setCell ⟨gb650, 1, none⟩ (.string t647)).setCell ⟨gb650, 2, none⟩ (.int .i64 t648)).heap[gb645]? = some (.cells #[.int .i64 a1_1, .int .i64 a1_2, .int .i64 0, .bool false, .string (⟨#[]⟩ : ByteArray), .int .i64 0] 60 (0, 0))) := ⟨by (with_reducible repeat (first | refine blk_drewN ?_ _ | refine blk_drew ?_ | refine blk_alloc ?_ _)); refine blk_far ?_ NB645_650.out _; (with_reducible repeat (first | refine blk_drewN ?_ _ | refine blk_drew ?_ | refine blk_alloc ?_ _)); refine blk_far ?_ NB645_650.out _; (with_reducible repeat (first | refine blk_drewN ?_ _ | refine blk_drew ?_ | refine blk_alloc ?_ _)); refine blk_far ?_ NB645_650.out _; (with_reducible repeat (first | refine blk_drewN ?_ _ | refine blk_drew ?_ | refine blk_alloc ?_ _)); exact BK645.out⟩
      have n4_ : Aside0 ((((w53.setCell ⟨gb650, 0, none⟩ (.string t646)).setCell ⟨gb650, 1, none⟩ (.string t647)).setCell ⟨gb650, 2, none⟩ (.int .i64 t648)).heap[gb650]? = some (.cells #[.string t646, .string t647, .int .i64 t648] 78 (0, 0))) := ⟨by (with_reducible repeat (first | refine blk_drewN ?_ _ | refine blk_drew ?_ | refine blk_alloc ?_ _)); refine blk_put (cs := #[.string t646, .string t647, .int .i64 0]) ?_ 2 _ rfl; (with_reducible repeat (first | refine blk_drewN ?_ _ | refine blk_drew ?_ | refine blk_alloc ?_ _)); refine blk_put (cs := #[.string t646, .string (⟨#[]⟩ : ByteArray), .int .i64 0]) ?_ 1 _ rfl; (with_reducible repeat (first | refine blk_drewN ?_ _ | refine blk_drew ?_ | refine blk_alloc ?_ _)); refine blk_put (cs := #[.string (⟨#[]⟩ : ByteArray), .string (⟨#[]⟩ : ByteArray), .int .i64 0]) ?_ 0 _ rfl; (with_reducible repeat (first | refine blk_drewN ?_ _ | refine blk_drew ?_ | refine blk_alloc ?_ _)); exact BK650.out⟩
      have n5_ : Aside0 (Kept w (((w53.setCell ⟨gb650, 0, none⟩ (.string t646)).setCell ⟨gb650, 1, none⟩ (.string t647)).setCell ⟨gb650, 2, none⟩ (.int .i64 t648)) (fun k_ => P0_ k_)) := ⟨by repeat (first | (with_reducible first | exact HK.out | apply Kept.alloc | apply Kept.drewN | apply Kept.drew | refine Kept.setCell ?_ (.inr GW643.out) _ | refine Kept.setCell ?_ (.inr GW644.out) _ | refine Kept.setCell ?_ (.inr GW645.out) _ | refine Kept.setCell ?_ (.inr GW650.out) _) | exact HK.out)⟩
      have n6_ : Aside0 (Below w0.heap.size w0 (((w53.setCell ⟨gb650, 0, none⟩ (.string t646)).setCell ⟨gb650, 1, none⟩ (.string t647)).setCell ⟨gb650, 2, none⟩ (.int .i64 t648))) := ⟨by repeat (first | (with_reducible first | exact HB.out | apply below_alloc | apply pw_below_drewN | apply below_drew1 | refine below_set ?_ GE643.out | refine below_set ?_ GE644.out | refine below_set ?_ GE645.out | refine below_set ?_ GE650.out) | exact HB.out)⟩
      (try clear HO0)
      (try clear BK643)
      (try clear BK644)
      (try clear BK645)
      (try clear BK650)
      (try clear HK)
      (try clear HB)
      generalize (((w53.setCell ⟨gb650, 0, none⟩ (.string t646)).setCell ⟨gb650, 1, none⟩ (.string t647)).setCell ⟨gb650, 2, none⟩ (.int .i64 t648)) = w58 at n0_ n1_ n2_ n3_ n4_ n5_ n6_ ⊢
      have HO0 := n0_
      have BK643 := n1_
      have BK644 := n2_
      have BK645 := n3_
      have BK650 := n4_
      have HK := n5_
      have HB := n6_
      clear n0_ n1_ n2_ n3_ n4_ n5_ n6_
      have n0_ := Aside0.mk (Kd.R_drew HO0.out)
      have n1_ := Aside0.mk (blk_drew BK643.out)
      have n2_ := Aside0.mk (blk_drew BK644.out)
      have n3_ := Aside0.mk (blk_drew BK645.out)
      have n4_ := Aside0.mk (blk_drew BK650.out)
      have n5_ := Aside0.mk (Kept.drew HK.out)
      have n6_ := Aside0.mk (below_drew1 HB.out)
      clear HO0
      clear BK643
      clear BK644
      clear BK645
      clear BK650
      clear HK
      clear HB
      have HO0 := n0_
      have BK643 := n1_
      have BK644 := n2_
      have BK645 := n3_
      have BK650 := n4_
      have HK := n5_
      have HB := n6_
      clear n0_ n1_ n2_ n3_ n4_ n5_ n6_
      refine start_ (n := 10) (S := fun w' => w'.cell? ⟨gb650, 0, none⟩ = some (.string t646) ∧ w'.cell? ⟨gb650, 1, none⟩ = some (.string t647) ∧ w'.cell? ⟨gb650, 2, none⟩ = some (.int .i64 t648)) (ds := []) #[false, false, false, false, false, false, false, false, false, false] (by kernel_rfl) rfl rfl ⟨(blk_cell BK650.out 0).trans rfl, (blk_cell BK650.out 1).trans rfl, (blk_cell BK650.out 2).trans rfl⟩ (fun hHeld => ?_); refine with_tabW kvtwo_cas.tab6 kvtwo_cas.bits6 (fun HT_ HW_ => ?_)
      generalize w58.drew = w59 at HO0 BK643 BK644 BK645 BK650 HK HB hHeld ⊢
      refine pure_ (i := 0) (N := some 26) (v := ?_) (a' := ?_) #[true, false, false, false, false, false, false, false, false, false] rfl rfl (any_of HT_.out (by kernel_rfl)) (fun _ _ _ h => h) (Or.inl ⟨by rfl, ?_⟩) ?_ ?_
      rotate_left
      · intro w'
        go_simp
        with_reducible rfl
      rotate_left
      · simp only [Act.put, List.setIfInBounds_toArray, List.set_cons_zero, List.set_cons_succ, i64_w, i32_w]
        rfl
      refine pure_ (i := 2) (N := some 28) (v := ?_) (a' := ?_) #[true, false, true, false, false, false, false, false, false, false] rfl rfl (any_of HT_.out (by kernel_rfl)) (fun _ _ _ h => h) (Or.inl ⟨by rfl, ?_⟩) ?_ ?_
      rotate_left
      · intro w'
        go_simp
        with_reducible rfl
      rotate_left
      · simp only [Act.put, List.setIfInBounds_toArray, List.set_cons_zero, List.set_cons_succ, i64_w, i32_w]
        rfl
      refine pure_ (i := 4) (N := some 30) (v := ?_) (a' := ?_) #[true, false, true, false, true, false, false, false, false, false] rfl rfl (any_of HT_.out (by kernel_rfl)) (fun _ _ _ h => h) (Or.inl ⟨by rfl, ?_⟩) ?_ ?_
      rotate_left
      · intro w'
        go_simp
        with_reducible rfl
      rotate_left
      · simp only [Act.put, List.setIfInBounds_toArray, List.set_cons_zero, List.set_cons_succ, i64_w, i32_w]
        rfl
      refine take_ (i := 1) (N := some 27) (v := ?_) (a' := ?_) #[true, true, true, false, true, false, false, false, false, false] rfl rfl (take_ofW HT_.out HW_.out (by kernel_rfl)) (fun _ _ _ h => h) (Or.inl ⟨by rfl, ?_⟩) hHeld ?_ ?_
      rotate_left
      · rintro w' ⟨s0, s1, s2⟩
        go_simp
        with_reducible rfl
      rotate_left
      · simp only [Act.put, List.setIfInBounds_toArray, List.set_cons_zero, List.set_cons_succ, i64_w, i32_w]
        rfl
      refine take_ (i := 3) (N := some 29) (v := ?_) (a' := ?_) #[true, true, true, true, true, false, false, false, false, false] rfl rfl (take_ofW HT_.out HW_.out (by kernel_rfl)) (fun _ _ _ h => h) (Or.inl ⟨by rfl, ?_⟩) hHeld ?_ ?_
      rotate_left
      · rintro w' ⟨s0, s1, s2⟩
        go_simp
        with_reducible rfl
      rotate_left
      · simp only [Act.put, List.setIfInBounds_toArray, List.set_cons_zero, List.set_cons_succ, i64_w, i32_w]
        rfl
      refine one_ (i := 5) (N := none) #[true, true, true, true, true, true, false, false, false, false] rfl rfl (one_of HT_.out (by kernel_rfl)) (by decide) (fun K hK => ?_)
      have hs60 : w59.cell? ⟨gb645, 3, none⟩ = some (.bool false) := (blk_cell BK645.out 3).trans rfl
      have hfs60 := blk_frozen BK645.out 3
      have hns60_0 := NB643_645.out
      have hns60_1 := NB644_645.out
      have hns60_3 := NB650_645.out
      have hms60_0 := NB645_643.out
      have hms60_1 := NB645_644.out
      have hms60_3 := NB645_650.out
      refine skip_ (w1 := ?_) (by rfl) rfl ?_ ?_
      rotate_left
      · go_simp
        rfl
      refine hK.out _ _ ⟨((cell_far (p := ⟨gb645, _, none⟩) NB650_645.out _).trans (hHeld.1)), ((cell_far (p := ⟨gb645, _, none⟩) NB650_645.out _).trans (hHeld.2.1)), ((cell_far (p := ⟨gb645, _, none⟩) NB650_645.out _).trans (hHeld.2.2))⟩ (fun hHeld => ?_)
      clear hK K
      refine pure_ (i := 6) (N := some 31) (v := ?_) (a' := ?_) #[true, true, true, true, true, true, true, false, false, false] rfl rfl (any_of HT_.out (by kernel_rfl)) (fun _ _ _ h => h) (Or.inl ⟨by rfl, ?_⟩) ?_ ?_
      rotate_left
      · intro w'
        go_simp
        with_reducible rfl
      rotate_left
      · simp only [Act.put, List.setIfInBounds_toArray, List.set_cons_zero, List.set_cons_succ, i64_w, i32_w]
        rfl
      refine one_ (i := 7) (N := none) #[true, true, true, true, true, true, true, true, false, false] rfl rfl (one_of HT_.out (by kernel_rfl)) (by decide) (fun K hK => ?_)
      have hs61 : w59.cell? ⟨gb645, 4, none⟩ = some (.string (⟨#[]⟩ : ByteArray)) := (blk_cell BK645.out 4).trans rfl
      have hfs61 := blk_frozen BK645.out 4
      have hns61_0 := NB643_645.out
      have hns61_1 := NB644_645.out
      have hns61_3 := NB650_645.out
      have hms61_0 := NB645_643.out
      have hms61_1 := NB645_644.out
      have hms61_3 := NB645_650.out
      refine skip_ (w1 := ?_) (by rfl) rfl ?_ ?_
      rotate_left
      · go_simp
        rfl
      refine hK.out _ _ ⟨((cell_far (p := ⟨gb645, _, none⟩) NB650_645.out _).trans (hHeld.1)), ((cell_far (p := ⟨gb645, _, none⟩) NB650_645.out _).trans (hHeld.2.1)), ((cell_far (p := ⟨gb645, _, none⟩) NB650_645.out _).trans (hHeld.2.2))⟩ (fun hHeld => ?_)
      clear hK K
      refine pure_ (i := 8) (N := some 32) (v := ?_) (a' := ?_) #[true, true, true, true, true, true, true, true, true, false] rfl rfl (any_of HT_.out (by kernel_rfl)) (fun _ _ _ h => h) (Or.inl ⟨by rfl, ?_⟩) ?_ ?_
      rotate_left
      · intro w'
        go_simp
        with_reducible rfl
      rotate_left
      · simp only [Act.put, List.setIfInBounds_toArray, List.set_cons_zero, List.set_cons_succ, i64_w, i32_w]
        rfl
      refine one_ (i := 9) (N := none) #[true, true, true, true, true, true, true, true, true, true] rfl rfl (one_of HT_.out (by kernel_rfl)) (by decide) (fun K hK => ?_)
      have hs62 : w59.cell? ⟨gb645, 5, none⟩ = some (.int .i64 0) := (blk_cell BK645.out 5).trans rfl
      have hfs62 := blk_frozen BK645.out 5
      have hns62_0 := NB643_645.out
      have hns62_1 := NB644_645.out
      have hns62_3 := NB650_645.out
      have hms62_0 := NB645_643.out
      have hms62_1 := NB645_644.out
      have hms62_3 := NB645_650.out
      refine skip_ (w1 := ?_) (by rfl) rfl ?_ ?_
      rotate_left
      · go_simp
        rfl
      refine hK.out _ _ ⟨((cell_far (p := ⟨gb645, _, none⟩) NB650_645.out _).trans (hHeld.1)), ((cell_far (p := ⟨gb645, _, none⟩) NB650_645.out _).trans (hHeld.2.1)), ((cell_far (p := ⟨gb645, _, none⟩) NB650_645.out _).trans (hHeld.2.2))⟩ (fun hHeld => ?_)
      clear hK K
      refine done_ (done_of HT_.out (by kernel_rfl)) ?_
      have hcz63_0 : w59.cell? ⟨gb650, 0, none⟩ = some (.string t646) := (blk_cell BK650.out 0).trans rfl
      have hcz63_1 : w59.cell? ⟨gb650, 1, none⟩ = some (.string t647) := (blk_cell BK650.out 1).trans rfl
      have hcz63_2 : w59.cell? ⟨gb650, 2, none⟩ = some (.int .i64 t648) := (blk_cell BK650.out 2).trans rfl
      have hfz63_0 := blk_frozen BK650.out 0
      have hfz63_1 := blk_frozen BK650.out 1
      have hfz63_2 := blk_frozen BK650.out 2
      have hcz64_0 : w59.cell? ⟨gb643, 0, none⟩ = some (.int .i64 a1_0) := (blk_cell BK643.out 0).trans rfl
      have hcz64_1 : w59.cell? ⟨gb643, 1, none⟩ = some (.int .i64 a1_1) := (blk_cell BK643.out 1).trans rfl
      have hcz64_2 : w59.cell? ⟨gb643, 2, none⟩ = some (.int .i64 a1_2) := (blk_cell BK643.out 2).trans rfl
      have hcz64_3 : w59.cell? ⟨gb643, 3, none⟩ = some (.string a1_3) := (blk_cell BK643.out 3).trans rfl
      have hcz64_4 : w59.cell? ⟨gb643, 4, none⟩ = some (.string a1_4) := (blk_cell BK643.out 4).trans rfl
      have hcz64_5 : w59.cell? ⟨gb643, 5, none⟩ = some (.string a1_5) := (blk_cell BK643.out 5).trans rfl
      have hcz64_6 : w59.cell? ⟨gb643, 6, none⟩ = some (.int .i64 a1_6) := (blk_cell BK643.out 6).trans rfl
      have hfz64_0 := blk_frozen BK643.out 0
      have hfz64_1 := blk_frozen BK643.out 1
      have hfz64_2 := blk_frozen BK643.out 2
      have hfz64_3 := blk_frozen BK643.out 3
      have hfz64_4 := blk_frozen BK643.out 4
      have hfz64_5 := blk_frozen BK643.out 5
      have hfz64_6 := blk_frozen BK643.out 6
      have hcz65_0 : w59.cell? ⟨gb645, 0, none⟩ = some (.int .i64 a1_1) := (blk_cell BK645.out 0).trans rfl
      have hcz65_1 : w59.cell? ⟨gb645, 1, none⟩ = some (.int .i64 a1_2) := (blk_cell BK645.out 1).trans rfl
      have hcz65_2 : w59.cell? ⟨gb645, 2, none⟩ = some (.int .i64 0) := (blk_cell BK645.out 2).trans rfl
      have hcz65_3 : w59.cell? ⟨gb645, 3, none⟩ = some (.bool false) := (blk_cell BK645.out 3).trans rfl
      have hcz65_4 : w59.cell? ⟨gb645, 4, none⟩ = some (.string (⟨#[]⟩ : ByteArray)) := (blk_cell BK645.out 4).trans rfl
      have hcz65_5 : w59.cell? ⟨gb645, 5, none⟩ = some (.int .i64 0) := (blk_cell BK645.out 5).trans rfl
      have hfz65_0 := blk_frozen BK645.out 0
      have hfz65_1 := blk_frozen BK645.out 1
      have hfz65_2 := blk_frozen BK645.out 2
      have hfz65_3 := blk_frozen BK645.out 3
      have hfz65_4 := blk_frozen BK645.out 4
      have hfz65_5 := blk_frozen BK645.out 5
      try go_wp2
      have n0_ : Aside0 (Kd.R k78 78 ((((w59.setCell ⟨gb645, 3, none⟩ (.bool true)).setCell ⟨gb645, 4, none⟩ (.string t647)).setCell ⟨gb645, 5, none⟩ (.int .i64 t648)).setCell ⟨gb645, 2, none⟩ (.int .i64 15)) w0.heap.size (fun k_ => (P0_ k_ ∨ w.heap.size ≤ k_) ∧ k_ ≠ gb650) (.slice Ao51 l0.length co51) l0) := ⟨by (with_reducible repeat (first | apply Kd.R_alloc | apply Kd.R_drewN | apply Kd.R_drew)); exact Kd.R_mono (Kd.R_far (p := ⟨gb645, 2, none⟩) (Kd.R_far (p := ⟨gb645, 5, none⟩) (Kd.R_far (p := ⟨gb645, 4, none⟩) (Kd.R_far (p := ⟨gb645, 3, none⟩) (Kd.R_types HO0.out BK645.out (by decide)) (fun _ hk => hk.2) (.bool true)) (fun _ hk => hk.2) (.string t647)) (fun _ hk => hk.2) (.int .i64 t648)) (fun _ hk => hk.2) (.int .i64 15)) (fun _ hk => ⟨hk.1.1, hk.1.2⟩)⟩
      have n1_ : Aside0 (((((w59.setCell ⟨gb645, 3, none⟩ (.bool true)).setCell ⟨gb645, 4, none⟩ (.string t647)).setCell ⟨gb645, 5, none⟩ (.int .i64 t648)).setCell ⟨gb645, 2, none⟩ (.int .i64 15)).heap[gb643]? = some (.cells #[.int .i64 a1_0, .int .i64 a1_1, .int .i64 a1_2, .string a1_3, .string a1_4, .string a1_5, .int .i64 a1_6] 72 (0, 0))) := ⟨by (with_reducible repeat (first | refine blk_drewN ?_ _ | refine blk_drew ?_ | refine blk_alloc ?_ _)); refine blk_far ?_ NB643_645.out _; (with_reducible repeat (first | refine blk_drewN ?_ _ | refine blk_drew ?_ | refine blk_alloc ?_ _)); refine blk_far ?_ NB643_645.out _; (with_reducible repeat (first | refine blk_drewN ?_ _ | refine blk_drew ?_ | refine blk_alloc ?_ _)); refine blk_far ?_ NB643_645.out _; (with_reducible repeat (first | refine blk_drewN ?_ _ | refine blk_drew ?_ | refine blk_alloc ?_ _)); refine blk_far ?_ NB643_645.out _; (with_reducible repeat (first | refine blk_drewN ?_ _ | refine blk_drew ?_ | refine blk_alloc ?_ _)); exact BK643.out⟩
      have n2_ : Aside0 (((((w59.setCell ⟨gb645, 3, none⟩ (.bool true)).setCell ⟨gb645, 4, none⟩ (.string t647)).setCell ⟨gb645, 5, none⟩ (.int .i64 t648)).setCell ⟨gb645, 2, none⟩ (.int .i64 15)).heap[gb644]? = some (.cells #[.int .i64 0, .int .i64 0, .int .i64 0, .bool false, .string (⟨#[]⟩ : ByteArray), .int .i64 0] 60 (0, 0))) := ⟨by (with_reducible repeat (first | refine blk_drewN ?_ _ | refine blk_drew ?_ | refine blk_alloc ?_ _)); refine blk_far ?_ NB644_645.out _; (with_reducible repeat (first | refine blk_drewN ?_ _ | refine blk_drew ?_ | refine blk_alloc ?_ _)); refine blk_far ?_ NB644_645.out _; (with_reducible repeat (first | refine blk_drewN ?_ _ | refine blk_drew ?_ | refine blk_alloc ?_ _)); refine blk_far ?_ NB644_645.out _; (with_reducible repeat (first | refine blk_drewN ?_ _ | refine blk_drew ?_ | refine blk_alloc ?_ _)); refine blk_far ?_ NB644_645.out _; (with_reducible repeat (first | refine blk_drewN ?_ _ | refine blk_drew ?_ | refine blk_alloc ?_ _)); exact BK644.out⟩
      have n3_ : Aside0 (((((w59.setCell ⟨gb645, 3, none⟩ (.bool true)).setCell ⟨gb645, 4, none⟩ (.string t647)).setCell ⟨gb645, 5, none⟩ (.int .i64 t648)).setCell ⟨gb645, 2, none⟩ (.int .i64 15)).heap[gb645]? = some (.cells #[.int .i64 a1_1, .int .i64 a1_2, .int .i64 15, .bool true, .string t647, .int .i64 t648] 60 (0, 0))) := ⟨by (with_reducible repeat (first | refine blk_drewN ?_ _ | refine blk_drew ?_ | refine blk_alloc ?_ _)); refine blk_put (cs := #[.int .i64 a1_1, .int .i64 a1_2, .int .i64 0, .bool true, .string t647, .int .i64 t648]) ?_ 2 _ rfl; (with_reducible repeat (first | refine blk_drewN ?_ _ | refine blk_drew ?_ | refine blk_alloc ?_ _)); refine blk_put (cs := #[.int .i64 a1_1, .int .i64 a1_2, .int .i64 0, .bool true, .string t647, .int .i64 0]) ?_ 5 _ rfl; (with_reducible repeat (first | refine blk_drewN ?_ _ | refine blk_drew ?_ | refine blk_alloc ?_ _)); refine blk_put (cs := #[.int .i64 a1_1, .int .i64 a1_2, .int .i64 0, .bool true, .string (⟨#[]⟩ : ByteArray), .int .i64 0]) ?_ 4 _ rfl; (with_reducible repeat (first | refine blk_drewN ?_ _ | refine blk_drew ?_ | refine blk_alloc ?_ _)); refine blk_put (cs := #[.int .i64 a1_1, .int .i64 a1_2, .int .i64 0, .bool false, .string (⟨#[]⟩ : ByteArray), .int .i64 0]) ?_ 3 _ rfl; (with_reducible repeat (first | refine blk_drewN ?_ _ | refine blk_drew ?_ | refine blk_alloc ?_ _)); exact BK645.out⟩
      have n4_ : Aside0 (((((w59.setCell ⟨gb645, 3, none⟩ (.bool true)).setCell ⟨gb645, 4, none⟩ (.string t647)).setCell ⟨gb645, 5, none⟩ (.int .i64 t648)).setCell ⟨gb645, 2, none⟩ (.int .i64 15)).heap[gb650]? = some (.cells #[.string t646, .string t647, .int .i64 t648] 78 (0, 0))) := ⟨by (with_reducible repeat (first | refine blk_drewN ?_ _ | refine blk_drew ?_ | refine blk_alloc ?_ _)); refine blk_far ?_ NB650_645.out _; (with_reducible repeat (first | refine blk_drewN ?_ _ | refine blk_drew ?_ | refine blk_alloc ?_ _)); refine blk_far ?_ NB650_645.out _; (with_reducible repeat (first | refine blk_drewN ?_ _ | refine blk_drew ?_ | refine blk_alloc ?_ _)); refine blk_far ?_ NB650_645.out _; (with_reducible repeat (first | refine blk_drewN ?_ _ | refine blk_drew ?_ | refine blk_alloc ?_ _)); refine blk_far ?_ NB650_645.out _; (with_reducible repeat (first | refine blk_drewN ?_ _ | refine blk_drew ?_ | refine blk_alloc ?_ _)); exact BK650.out⟩
      have n5_ : Aside0 (Kept w ((((w59.setCell ⟨gb645, 3, none⟩ (.bool true)).setCell ⟨gb645, 4, none⟩ (.string t647)).setCell ⟨gb645, 5, none⟩ (.int .i64 t648)).setCell ⟨gb645, 2, none⟩ (.int .i64 15)) (fun k_ => P0_ k_)) := ⟨by repeat (first | (with_reducible first | exact HK.out | apply Kept.alloc | apply Kept.drewN | apply Kept.drew | refine Kept.setCell ?_ (.inr GW643.out) _ | refine Kept.setCell ?_ (.inr GW644.out) _ | refine Kept.setCell ?_ (.inr GW645.out) _ | refine Kept.setCell ?_ (.inr GW650.out) _) | exact HK.out)⟩
      have n6_ : Aside0 (Below w0.heap.size w0 ((((w59.setCell ⟨gb645, 3, none⟩ (.bool true)).setCell ⟨gb645, 4, none⟩ (.string t647)).setCell ⟨gb645, 5, none⟩ (.int .i64 t648)).setCell ⟨gb645, 2, none⟩ (.int .i64 15))) := ⟨by repeat (first | (with_reducible first | exact HB.out | apply below_alloc | apply pw_below_drewN | apply below_drew1 | refine below_set ?_ GE643.out | refine below_set ?_ GE644.out | refine below_set ?_ GE645.out | refine below_set ?_ GE650.out) | exact HB.out)⟩
      (try clear HO0)
      (try clear BK643)
      (try clear BK644)
      (try clear BK645)
      (try clear BK650)
      (try clear HK)
      (try clear HB)
      generalize ((((w59.setCell ⟨gb645, 3, none⟩ (.bool true)).setCell ⟨gb645, 4, none⟩ (.string t647)).setCell ⟨gb645, 5, none⟩ (.int .i64 t648)).setCell ⟨gb645, 2, none⟩ (.int .i64 15)) = w66 at n0_ n1_ n2_ n3_ n4_ n5_ n6_ ⊢
      have HO0 := n0_
      have BK643 := n1_
      have BK644 := n2_
      have BK645 := n3_
      have BK650 := n4_
      have HK := n5_
      have HB := n6_
      clear n0_ n1_ n2_ n3_ n4_ n5_ n6_
      have n0_ := Aside0.mk (Kd.R_drew HO0.out)
      have n1_ := Aside0.mk (blk_drew BK643.out)
      have n2_ := Aside0.mk (blk_drew BK644.out)
      have n3_ := Aside0.mk (blk_drew BK645.out)
      have n4_ := Aside0.mk (blk_drew BK650.out)
      have n5_ := Aside0.mk (Kept.drew HK.out)
      have n6_ := Aside0.mk (below_drew1 HB.out)
      clear HO0
      clear BK643
      clear BK644
      clear BK645
      clear BK650
      clear HK
      clear HB
      have HO0 := n0_
      have BK643 := n1_
      have BK644 := n2_
      have BK645 := n3_
      have BK650 := n4_
      have HK := n5_
      have HB := n6_
      clear n0_ n1_ n2_ n3_ n4_ n5_ n6_
      refine start_ (n := 4) (S := fun w' => w'.cell? ⟨gb645, 0, none⟩ = some (.int .i64 a1_1) ∧ w'.cell? ⟨gb645, 1, none⟩ = some (.int .i64 a1_2) ∧ w'.cell? ⟨gb645, 2, none⟩ = some (.int .i64 15) ∧ w'.cell? ⟨gb645, 3, none⟩ = some (.bool true) ∧ w'.cell? ⟨gb645, 4, none⟩ = some (.string t647) ∧ w'.cell? ⟨gb645, 5, none⟩ = some (.int .i64 t648)) (ds := []) #[false, false, false, false] (by kernel_rfl) rfl rfl ⟨(blk_cell BK645.out 0).trans rfl, (blk_cell BK645.out 1).trans rfl, (blk_cell BK645.out 2).trans rfl, (blk_cell BK645.out 3).trans rfl, (blk_cell BK645.out 4).trans rfl, (blk_cell BK645.out 5).trans rfl⟩ (fun hHeld => ?_)
      generalize w66.drew = w67 at HO0 BK643 BK644 BK645 BK650 HK HB hHeld ⊢
      refine pure_ (i := 0) (N := some 39) (v := ?_) (a' := ?_) #[true, false, false, false] rfl rfl (by kernel_rfl) (fun _ _ _ h => h) (Or.inl ⟨by rfl, ?_⟩) ?_ ?_
      rotate_left
      · intro w'
        go_simp
        with_reducible rfl
      rotate_left
      · simp only [Act.put, List.setIfInBounds_toArray, List.set_cons_zero, List.set_cons_succ, i64_w, i32_w]
        rfl
      refine pure_ (i := 2) (N := some 4) (v := ?_) (a' := ?_) #[true, false, true, false] rfl rfl (by kernel_rfl) (fun _ _ _ h => h) (Or.inl ⟨by rfl, ?_⟩) ?_ ?_
      rotate_left
      · intro w'
        go_simp
        with_reducible rfl
      rotate_left
      · simp only [Act.put, List.setIfInBounds_toArray, List.set_cons_zero, List.set_cons_succ, i64_w, i32_w]
        rfl
      refine take_ (i := 1) (N := some 40) (v := ?_) (a' := ?_) #[true, true, true, false] rfl rfl (by kernel_rfl) (fun _ _ _ h => h) (Or.inl ⟨by rfl, ?_⟩) hHeld ?_ ?_
      rotate_left
      · rintro w' ⟨s0, s1, s2, s3, s4, s5⟩
        go_simp
        with_reducible rfl
      rotate_left
      · simp only [Act.put, List.setIfInBounds_toArray, List.set_cons_zero, List.set_cons_succ, i64_w, i32_w]
        rfl
      refine one_ (i := 3) (N := none) #[true, true, true, true] rfl rfl (by kernel_rfl) (by decide) (fun K hK => ?_)
      have hs68 : w67.cell? ⟨gb644, 0, none⟩ = some (.int .i64 0) := (blk_cell BK644.out 0).trans rfl
      have hfs68 := blk_frozen BK644.out 0
      have hns68_0 := NB643_644.out
      have hns68_2 := NB645_644.out
      have hns68_3 := NB650_644.out
      have hms68_0 := NB644_643.out
      have hms68_2 := NB644_645.out
      have hms68_3 := NB644_650.out
      have hs69 : w67.cell? ⟨gb644, 1, none⟩ = some (.int .i64 0) := (blk_cell BK644.out 1).trans rfl
      have hfs69 := blk_frozen BK644.out 1
      have hns69_0 := NB643_644.out
      have hns69_2 := NB645_644.out
      have hns69_3 := NB650_644.out
      have hms69_0 := NB644_643.out
      have hms69_2 := NB644_645.out
      have hms69_3 := NB644_650.out
      have hs70 : w67.cell? ⟨gb644, 2, none⟩ = some (.int .i64 0) := (blk_cell BK644.out 2).trans rfl
      have hfs70 := blk_frozen BK644.out 2
      have hns70_0 := NB643_644.out
      have hns70_2 := NB645_644.out
      have hns70_3 := NB650_644.out
      have hms70_0 := NB644_643.out
      have hms70_2 := NB644_645.out
      have hms70_3 := NB644_650.out
      have hs71 : w67.cell? ⟨gb644, 3, none⟩ = some (.bool false) := (blk_cell BK644.out 3).trans rfl
      have hfs71 := blk_frozen BK644.out 3
      have hns71_0 := NB643_644.out
      have hns71_2 := NB645_644.out
      have hns71_3 := NB650_644.out
      have hms71_0 := NB644_643.out
      have hms71_2 := NB644_645.out
      have hms71_3 := NB644_650.out
      have hs72 : w67.cell? ⟨gb644, 4, none⟩ = some (.string (⟨#[]⟩ : ByteArray)) := (blk_cell BK644.out 4).trans rfl
      have hfs72 := blk_frozen BK644.out 4
      have hns72_0 := NB643_644.out
      have hns72_2 := NB645_644.out
      have hns72_3 := NB650_644.out
      have hms72_0 := NB644_643.out
      have hms72_2 := NB644_645.out
      have hms72_3 := NB644_650.out
      have hs73 : w67.cell? ⟨gb644, 5, none⟩ = some (.int .i64 0) := (blk_cell BK644.out 5).trans rfl
      have hfs73 := blk_frozen BK644.out 5
      have hns73_0 := NB643_644.out
      have hns73_2 := NB645_644.out
      have hns73_3 := NB650_644.out
      have hms73_0 := NB644_643.out
      have hms73_2 := NB644_645.out
      have hms73_3 := NB644_650.out
      refine skip_ (w1 := ?_) (by rfl) rfl ?_ ?_
      rotate_left
      · go_simp
        rfl
      refine hK.out _ _ ⟨((cell_far (p := ⟨gb644, _, none⟩) NB645_644.out _).trans (((cell_far (p := ⟨gb644, _, none⟩) NB645_644.out _).trans (((cell_far (p := ⟨gb644, _, none⟩) NB645_644.out _).trans (((cell_far (p := ⟨gb644, _, none⟩) NB645_644.out _).trans (((cell_far (p := ⟨gb644, _, none⟩) NB645_644.out _).trans (((cell_far (p := ⟨gb644, _, none⟩) NB645_644.out _).trans (hHeld.1)))))))))))), ((cell_far (p := ⟨gb644, _, none⟩) NB645_644.out _).trans (((cell_far (p := ⟨gb644, _, none⟩) NB645_644.out _).trans (((cell_far (p := ⟨gb644, _, none⟩) NB645_644.out _).trans (((cell_far (p := ⟨gb644, _, none⟩) NB645_644.out _).trans (((cell_far (p := ⟨gb644, _, none⟩) NB645_644.out _).trans (((cell_far (p := ⟨gb644, _, none⟩) NB645_644.out _).trans (hHeld.2.1)))))))))))), ((cell_far (p := ⟨gb644, _, none⟩) NB645_644.out _).trans (((cell_far (p := ⟨gb644, _, none⟩) NB645_644.out _).trans (((cell_far (p := ⟨gb644, _, none⟩) NB645_644.out _).trans (((cell_far (p := ⟨gb644, _, none⟩) NB645_644.out _).trans (((cell_far (p := ⟨gb644, _, none⟩) NB645_644.out _).trans (((cell_far (p := ⟨gb644, _, none⟩) NB645_644.out _).trans (hHeld.2.2.1)))))))))))), ((cell_far (p := ⟨gb644, _, none⟩) NB645_644.out _).trans (((cell_far (p := ⟨gb644, _, none⟩) NB645_644.out _).trans (((cell_far (p := ⟨gb644, _, none⟩) NB645_644.out _).trans (((cell_far (p := ⟨gb644, _, none⟩) NB645_644.out _).trans (((cell_far (p := ⟨gb644, _, none⟩) NB645_644.out _).trans (((cell_far (p := ⟨gb644, _, none⟩) NB645_644.out _).trans (hHeld.2.2.2.1)))))))))))), ((cell_far (p := ⟨gb644, _, none⟩) NB645_644.out _).trans (((cell_far (p := ⟨gb644, _, none⟩) NB645_644.out _).trans (((cell_far (p := ⟨gb644, _, none⟩) NB645_644.out _).trans (((cell_far (p := ⟨gb644, _, none⟩) NB645_644.out _).trans (((cell_far (p := ⟨gb644, _, none⟩) NB645_644.out _).trans (((cell_far (p := ⟨gb644, _, none⟩) NB645_644.out _).trans (hHeld.2.2.2.2.1)))))))))))), ((cell_far (p := ⟨gb644, _, none⟩) NB645_644.out _).trans (((cell_far (p := ⟨gb644, _, none⟩) NB645_644.out _).trans (((cell_far (p := ⟨gb644, _, none⟩) NB645_644.out _).trans (((cell_far (p := ⟨gb644, _, none⟩) NB645_644.out _).trans (((cell_far (p := ⟨gb644, _, none⟩) NB645_644.out _).trans (((cell_far (p := ⟨gb644, _, none⟩) NB645_644.out _).trans (hHeld.2.2.2.2.2))))))))))))⟩ (fun hHeld => ?_)
      clear hK K
      refine done_ (by kernel_rfl) ?_
      try go_wp2
      refine bodyPost_ret (results_tc rfl _ _ gb644 60 #[.int .i64 a1_1, .int .i64 a1_2, .int .i64 15, .bool true, .string t647, .int .i64 t648] (0, 0) _ rfl (by (with_reducible repeat (first | refine blk_drewN ?_ _ | refine blk_drew ?_ | refine blk_alloc ?_ _)); refine blk_put (cs := #[.int .i64 a1_1, .int .i64 a1_2, .int .i64 15, .bool true, .string t647, .int .i64 0]) ?_ 5 _ rfl; (with_reducible repeat (first | refine blk_drewN ?_ _ | refine blk_drew ?_ | refine blk_alloc ?_ _)); refine blk_put (cs := #[.int .i64 a1_1, .int .i64 a1_2, .int .i64 15, .bool true, .string (⟨#[]⟩ : ByteArray), .int .i64 0]) ?_ 4 _ rfl; (with_reducible repeat (first | refine blk_drewN ?_ _ | refine blk_drew ?_ | refine blk_alloc ?_ _)); refine blk_put (cs := #[.int .i64 a1_1, .int .i64 a1_2, .int .i64 15, .bool false, .string (⟨#[]⟩ : ByteArray), .int .i64 0]) ?_ 3 _ rfl; (with_reducible repeat (first | refine blk_drewN ?_ _ | refine blk_drew ?_ | refine blk_alloc ?_ _)); refine blk_put (cs := #[.int .i64 a1_1, .int .i64 a1_2, .int .i64 0, .bool false, .string (⟨#[]⟩ : ByteArray), .int .i64 0]) ?_ 2 _ rfl; (with_reducible repeat (first | refine blk_drewN ?_ _ | refine blk_drew ?_ | refine blk_alloc ?_ _)); refine blk_put (cs := #[.int .i64 a1_1, .int .i64 0, .int .i64 0, .bool false, .string (⟨#[]⟩ : ByteArray), .int .i64 0]) ?_ 1 _ rfl; (with_reducible repeat (first | refine blk_drewN ?_ _ | refine blk_drew ?_ | refine blk_alloc ?_ _)); refine blk_put (cs := #[.int .i64 0, .int .i64 0, .int .i64 0, .bool false, .string (⟨#[]⟩ : ByteArray), .int .i64 0]) ?_ 0 _ rfl; (with_reducible repeat (first | refine blk_drewN ?_ _ | refine blk_drew ?_ | refine blk_alloc ?_ _)); exact BK644.out) Try.underlying60 rfl (by kernel_rfl)) rfl ?_
      exact ⟨_, by first | rfl | (simp [errW_none, errW_some] <;> rfl) | (simp [*, errW_none, errW_some] <;> rfl), by (with_reducible repeat (first | apply Kd.R_alloc | apply Kd.R_drewN | apply Kd.R_drew)); exact Kd.R_mono (Kd.R_far (p := ⟨gb644, 5, none⟩) (Kd.R_far (p := ⟨gb644, 4, none⟩) (Kd.R_far (p := ⟨gb644, 3, none⟩) (Kd.R_far (p := ⟨gb644, 2, none⟩) (Kd.R_far (p := ⟨gb644, 1, none⟩) (Kd.R_far (p := ⟨gb644, 0, none⟩) (Kd.R_types HO0.out BK644.out (by decide)) (fun _ hk => hk.2) (.int .i64 a1_1)) (fun _ hk => hk.2) (.int .i64 a1_2)) (fun _ hk => hk.2) (.int .i64 15)) (fun _ hk => hk.2) (.bool true)) (fun _ hk => hk.2) (.string t647)) (fun _ hk => hk.2) (.int .i64 t648)) (fun _ hk => hk.1.1), by repeat (first | (with_reducible first | exact HB.out | apply below_alloc | apply pw_below_drewN | apply below_drew1 | refine below_set ?_ GE643.out | refine below_set ?_ GE644.out | refine below_set ?_ GE645.out | refine below_set ?_ GE650.out) | exact HB.out), by repeat (first | (with_reducible first | exact HK.out | apply Kept.alloc | apply Kept.drewN | apply Kept.drew | refine Kept.setCell ?_ (.inr GW643.out) _ | refine Kept.setCell ?_ (.inr GW644.out) _ | refine Kept.setCell ?_ (.inr GW645.out) _ | refine Kept.setCell ?_ (.inr GW650.out) _) | exact HK.out)⟩
  · replace c4 := Bool.eq_false_iff.mpr c4
    subst c4
    have H1 : (some (l0, a1_1, a1_2, 10, false, (⟨#[]⟩ : ByteArray), 0)) = some (r1, r2, r3, r4, r5, r6, r7) := by rw [if_neg (show ¬ (false = true) by decide)] at H; exact H
    clear H
    have H := H1
    clear H1
    simp only [Option.some.injEq, Prod.mk.injEq] at H
    obtain ⟨rfl, rfl, rfl, rfl, rfl, rfl, rfl⟩ := H
    go_enter Try.func101, Try.ntmps101
    try go_wp2_with (first | ((with_reducible refine gate_dst (N := 3) rfl ?_); refine box_event ?hg (N := 3) ?hd (cs := #[.int .i64 a1_0, .int .i64 a1_1, .int .i64 a1_2, .string a1_3, .string a1_4, .string a1_5, .int .i64 a1_6]) (t := 72) ?hr ?_; (case hd => rfl); (case hg => rfl); (case hr => first | (go_simp; done) | (go_simp; rfl)); intro gb643 hg w74 hbox hb; have n0_ := Aside0.mk (Kd.R_below (by (with_reducible repeat (first | apply Kd.R_alloc | apply Kd.R_drewN | apply Kd.R_drew)); exact HO0.out) hb); have n1_ := Aside0.mk (Kept.below (S := (fun k_ => P0_ k_)) (by repeat (first | (with_reducible first | exact HK.out | apply Kept.alloc | apply Kept.drewN | apply Kept.drew) | exact HK.out)) hb); have n2_ := Aside0.mk (below_step (by repeat (first | (with_reducible first | exact HB.out | apply below_alloc | apply pw_below_drewN | apply below_drew1) | exact HB.out)) hb); have n3_ := Aside0.mk (hbox); have n4_ := Aside0.mk ((by rw [hg]; exact (by first | exact HK.out.1 | exact (show Kept w _ (fun k_ => P0_ k_) from by repeat (first | (with_reducible first | exact HK.out | apply Kept.alloc | apply Kept.drewN | apply Kept.drew) | exact HK.out)).1) : w.heap.size ≤ gb643)); have n5_ := Aside0.mk ((by rw [hg]; exact (below_size (by repeat (first | (with_reducible first | exact HB.out | apply below_alloc | apply pw_below_drewN | apply below_drew1) | exact HB.out))) : w0.heap.size ≤ gb643)); clear HO0; clear HK; clear HB; have HO0 := n0_; have HK := n1_; have HB := n2_; have BK643 := n3_; have GW643 := n4_; have GE643 := n5_; clear n0_ n1_ n2_ n3_ n4_ n5_; clear hb hbox hg) | ((with_reducible refine gate_dst (N := 5) rfl ?_); refine box_event ?hg (N := 5) ?hd (cs := #[.int .i64 0, .int .i64 0, .int .i64 0, .bool false, .string (⟨#[]⟩ : ByteArray), .int .i64 0]) (t := 60) ?hr ?_; (case hd => rfl); (case hg => rfl); (case hr => first | (go_simp; done) | (go_simp; rfl)); intro gb644 hg w75 hbox hb; have n0_ := Aside0.mk (Kd.R_below (by (with_reducible repeat (first | apply Kd.R_alloc | apply Kd.R_drewN | apply Kd.R_drew)); exact HO0.out) hb); have n1_ := Aside0.mk (blk_below (g := gb643) (o := .cells #[.int .i64 a1_0, .int .i64 a1_1, .int .i64 a1_2, .string a1_3, .string a1_4, .string a1_5, .int .i64 a1_6] 72 (0, 0)) (by (with_reducible repeat (first | refine blk_drewN ?_ _ | refine blk_drew ?_ | refine blk_alloc ?_ _)); exact BK643.out) hb); have n2_ := Aside0.mk (Kept.below (S := (fun k_ => P0_ k_)) (by repeat (first | (with_reducible first | exact HK.out | apply Kept.alloc | apply Kept.drewN | apply Kept.drew | refine Kept.setCell ?_ (.inr GW643.out) _) | exact HK.out)) hb); have n3_ := Aside0.mk (below_step (by repeat (first | (with_reducible first | exact HB.out | apply below_alloc | apply pw_below_drewN | apply below_drew1 | refine below_set ?_ GE643.out) | exact HB.out)) hb); have n4_ := Aside0.mk (hbox); have n5_ := Aside0.mk ((by rw [hg]; exact (by first | exact HK.out.1 | exact (show Kept w _ (fun k_ => P0_ k_) from by repeat (first | (with_reducible first | exact HK.out | apply Kept.alloc | apply Kept.drewN | apply Kept.drew | refine Kept.setCell ?_ (.inr GW643.out) _) | exact HK.out)).1) : w.heap.size ≤ gb644)); have n6_ := Aside0.mk ((by rw [hg]; exact (below_size (by repeat (first | (with_reducible first | exact HB.out | apply below_alloc | apply pw_below_drewN | apply below_drew1 | refine below_set ?_ GE643.out) | exact HB.out))) : w0.heap.size ≤ gb644)); have n7_ := Aside0.mk ((by rw [hg]; exact Nat.ne_of_lt (blk_lt (g := gb643) (o := .cells #[.int .i64 a1_0, .int .i64 a1_1, .int .i64 a1_2, .string a1_3, .string a1_4, .string a1_5, .int .i64 a1_6] 72 (0, 0)) (by (with_reducible repeat (first | refine blk_drewN ?_ _ | refine blk_drew ?_ | refine blk_alloc ?_ _)); exact BK643.out)) : gb643 ≠ gb644)); have n8_ := Aside0.mk ((by rw [hg]; exact Nat.ne_of_gt (blk_lt (g := gb643) (o := .cells #[.int .i64 a1_0, .int .i64 a1_1, .int .i64 a1_2, .string a1_3, .string a1_4, .string a1_5, .int .i64 a1_6] 72 (0, 0)) (by (with_reducible repeat (first | refine blk_drewN ?_ _ | refine blk_drew ?_ | refine blk_alloc ?_ _)); exact BK643.out)) : gb644 ≠ gb643)); clear HO0; clear BK643; clear HK; clear HB; have HO0 := n0_; have BK643 := n1_; have HK := n2_; have HB := n3_; have BK644 := n4_; have GW644 := n5_; have GE644 := n6_; have NB643_644 := n7_; have NB644_643 := n8_; clear n0_ n1_ n2_ n3_ n4_ n5_ n6_ n7_ n8_; clear hb hbox hg; have hnb76 := NB643_644.out; have hnc76 := NB644_643.out; have hcz77_0 : w75.cell? ⟨gb643, 0, none⟩ = some (.int .i64 a1_0) := (blk_cell BK643.out 0).trans rfl; have hcz77_1 : w75.cell? ⟨gb643, 1, none⟩ = some (.int .i64 a1_1) := (blk_cell BK643.out 1).trans rfl; have hcz77_2 : w75.cell? ⟨gb643, 2, none⟩ = some (.int .i64 a1_2) := (blk_cell BK643.out 2).trans rfl; have hcz77_3 : w75.cell? ⟨gb643, 3, none⟩ = some (.string a1_3) := (blk_cell BK643.out 3).trans rfl; have hcz77_4 : w75.cell? ⟨gb643, 4, none⟩ = some (.string a1_4) := (blk_cell BK643.out 4).trans rfl; have hcz77_5 : w75.cell? ⟨gb643, 5, none⟩ = some (.string a1_5) := (blk_cell BK643.out 5).trans rfl; have hcz77_6 : w75.cell? ⟨gb643, 6, none⟩ = some (.int .i64 a1_6) := (blk_cell BK643.out 6).trans rfl; have hfz77_0 := blk_frozen BK643.out 0; have hfz77_1 := blk_frozen BK643.out 1; have hfz77_2 := blk_frozen BK643.out 2; have hfz77_3 := blk_frozen BK643.out 3; have hfz77_4 := blk_frozen BK643.out 4; have hfz77_5 := blk_frozen BK643.out 5; have hfz77_6 := blk_frozen BK643.out 6) | ((with_reducible refine gate_dst (N := 6) rfl ?_); refine box_event ?hg (N := 6) ?hd (cs := #[.int .i64 0, .int .i64 0, .int .i64 0, .bool false, .string (⟨#[]⟩ : ByteArray), .int .i64 0]) (t := 60) ?hr ?_; (case hd => rfl); (case hg => rfl); (case hr => first | (go_simp; done) | (go_simp; rfl)); intro gb645 hg w78 hbox hb; have n0_ := Aside0.mk (Kd.R_below (by (with_reducible repeat (first | apply Kd.R_alloc | apply Kd.R_drewN | apply Kd.R_drew)); exact HO0.out) hb); have n1_ := Aside0.mk (blk_below (g := gb643) (o := .cells #[.int .i64 a1_0, .int .i64 a1_1, .int .i64 a1_2, .string a1_3, .string a1_4, .string a1_5, .int .i64 a1_6] 72 (0, 0)) (by (with_reducible repeat (first | refine blk_drewN ?_ _ | refine blk_drew ?_ | refine blk_alloc ?_ _)); exact BK643.out) hb); have n2_ := Aside0.mk (blk_below (g := gb644) (o := .cells #[.int .i64 0, .int .i64 0, .int .i64 0, .bool false, .string (⟨#[]⟩ : ByteArray), .int .i64 0] 60 (0, 0)) (by (with_reducible repeat (first | refine blk_drewN ?_ _ | refine blk_drew ?_ | refine blk_alloc ?_ _)); exact BK644.out) hb); have n3_ := Aside0.mk (Kept.below (S := (fun k_ => P0_ k_)) (by repeat (first | (with_reducible first | exact HK.out | apply Kept.alloc | apply Kept.drewN | apply Kept.drew | refine Kept.setCell ?_ (.inr GW643.out) _ | refine Kept.setCell ?_ (.inr GW644.out) _) | exact HK.out)) hb); have n4_ := Aside0.mk (below_step (by repeat (first | (with_reducible first | exact HB.out | apply below_alloc | apply pw_below_drewN | apply below_drew1 | refine below_set ?_ GE643.out | refine below_set ?_ GE644.out) | exact HB.out)) hb); have n5_ := Aside0.mk (hbox); have n6_ := Aside0.mk ((by rw [hg]; exact (by first | exact HK.out.1 | exact (show Kept w _ (fun k_ => P0_ k_) from by repeat (first | (with_reducible first | exact HK.out | apply Kept.alloc | apply Kept.drewN | apply Kept.drew | refine Kept.setCell ?_ (.inr GW643.out) _ | refine Kept.setCell ?_ (.inr GW644.out) _) | exact HK.out)).1) : w.heap.size ≤ gb645)); have n7_ := Aside0.mk ((by rw [hg]; exact (below_size (by repeat (first | (with_reducible first | exact HB.out | apply below_alloc | apply pw_below_drewN | apply below_drew1 | refine below_set ?_ GE643.out | refine below_set ?_ GE644.out) | exact HB.out))) : w0.heap.size ≤ gb645)); have n8_ := Aside0.mk ((by rw [hg]; exact Nat.ne_of_lt (blk_lt (g := gb643) (o := .cells #[.int .i64 a1_0, .int .i64 a1_1, .int .i64 a1_2, .string a1_3, .string a1_4, .string a1_5, .int .i64 a1_6] 72 (0, 0)) (by (with_reducible repeat (first | refine blk_drewN ?_ _ | refine blk_drew ?_ | refine blk_alloc ?_ _)); exact BK643.out)) : gb643 ≠ gb645)); have n9_ := Aside0.mk ((by rw [hg]; exact Nat.ne_of_gt (blk_lt (g := gb643) (o := .cells #[.int .i64 a1_0, .int .i64 a1_1, .int .i64 a1_2, .string a1_3, .string a1_4, .string a1_5, .int .i64 a1_6] 72 (0, 0)) (by (with_reducible repeat (first | refine blk_drewN ?_ _ | refine blk_drew ?_ | refine blk_alloc ?_ _)); exact BK643.out)) : gb645 ≠ gb643)); have n10_ := Aside0.mk ((by rw [hg]; exact Nat.ne_of_lt (blk_lt (g := gb644) (o := .cells #[.int .i64 0, .int .i64 0, .int .i64 0, .bool false, .string (⟨#[]⟩ : ByteArray), .int .i64 0] 60 (0, 0)) (by (with_reducible repeat (first | refine blk_drewN ?_ _ | refine blk_drew ?_ | refine blk_alloc ?_ _)); exact BK644.out)) : gb644 ≠ gb645)); have n11_ := Aside0.mk ((by rw [hg]; exact Nat.ne_of_gt (blk_lt (g := gb644) (o := .cells #[.int .i64 0, .int .i64 0, .int .i64 0, .bool false, .string (⟨#[]⟩ : ByteArray), .int .i64 0] 60 (0, 0)) (by (with_reducible repeat (first | refine blk_drewN ?_ _ | refine blk_drew ?_ | refine blk_alloc ?_ _)); exact BK644.out)) : gb645 ≠ gb644)); clear HO0; clear BK643; clear BK644; clear HK; clear HB; have HO0 := n0_; have BK643 := n1_; have BK644 := n2_; have HK := n3_; have HB := n4_; have BK645 := n5_; have GW645 := n6_; have GE645 := n7_; have NB643_645 := n8_; have NB645_643 := n9_; have NB644_645 := n10_; have NB645_644 := n11_; clear n0_ n1_ n2_ n3_ n4_ n5_ n6_ n7_ n8_ n9_ n10_ n11_; clear hb hbox hg; have hnb79 := NB645_643.out; have hnc79 := NB643_645.out; have hnb80 := NB645_644.out; have hnc80 := NB644_645.out; have hcz81_0 : w78.cell? ⟨gb645, 0, none⟩ = some (.int .i64 0) := (blk_cell BK645.out 0).trans rfl; have hcz81_1 : w78.cell? ⟨gb645, 1, none⟩ = some (.int .i64 0) := (blk_cell BK645.out 1).trans rfl; have hcz81_2 : w78.cell? ⟨gb645, 2, none⟩ = some (.int .i64 0) := (blk_cell BK645.out 2).trans rfl; have hcz81_3 : w78.cell? ⟨gb645, 3, none⟩ = some (.bool false) := (blk_cell BK645.out 3).trans rfl; have hcz81_4 : w78.cell? ⟨gb645, 4, none⟩ = some (.string (⟨#[]⟩ : ByteArray)) := (blk_cell BK645.out 4).trans rfl; have hcz81_5 : w78.cell? ⟨gb645, 5, none⟩ = some (.int .i64 0) := (blk_cell BK645.out 5).trans rfl; have hfz81_0 := blk_frozen BK645.out 0; have hfz81_1 := blk_frozen BK645.out 1; have hfz81_2 := blk_frozen BK645.out 2; have hfz81_3 := blk_frozen BK645.out 3; have hfz81_4 := blk_frozen BK645.out 4; have hfz81_5 := blk_frozen BK645.out 5; have hcz82_0 : w78.cell? ⟨gb643, 0, none⟩ = some (.int .i64 a1_0) := (blk_cell BK643.out 0).trans rfl; have hcz82_1 : w78.cell? ⟨gb643, 1, none⟩ = some (.int .i64 a1_1) := (blk_cell BK643.out 1).trans rfl; have hcz82_2 : w78.cell? ⟨gb643, 2, none⟩ = some (.int .i64 a1_2) := (blk_cell BK643.out 2).trans rfl; have hcz82_3 : w78.cell? ⟨gb643, 3, none⟩ = some (.string a1_3) := (blk_cell BK643.out 3).trans rfl; have hcz82_4 : w78.cell? ⟨gb643, 4, none⟩ = some (.string a1_4) := (blk_cell BK643.out 4).trans rfl; have hcz82_5 : w78.cell? ⟨gb643, 5, none⟩ = some (.string a1_5) := (blk_cell BK643.out 5).trans rfl; have hcz82_6 : w78.cell? ⟨gb643, 6, none⟩ = some (.int .i64 a1_6) := (blk_cell BK643.out 6).trans rfl; have hfz82_0 := blk_frozen BK643.out 0; have hfz82_1 := blk_frozen BK643.out 1; have hfz82_2 := blk_frozen BK643.out 2; have hfz82_3 := blk_frozen BK643.out 3; have hfz82_4 := blk_frozen BK643.out 4; have hfz82_5 := blk_frozen BK643.out 5; have hfz82_6 := blk_frozen BK643.out 6; obtain ⟨Ao83, co83, eo83⟩ := Kd.R_slice HO0.out; subst eo83) | ((with_reducible refine gate_callee (f := 60) rfl ?_); refine goesL_ (some 18) rfl rfl Try.func60 (by kernel_rfl) rfl #[.slice Ao83 l0.length co83, .string a1_3] rfl (by (try simp only [List.map_toArray, List.map_cons, List.map_nil]); first | done | rfl | (simp only [List.length_drop, List.length_take]; rfl)) ?_; (with_reducible refine (kvone_Find.calls k _ _ l0 a1_3 t646 t647 t648 false _ ?side1 ?side2 A3.out).mono ?_); (case side1 => refine (Kd.R_reads' (e := 78) (base := w0.heap.size) (ok := fun k_ => (P0_ k_ ∨ w.heap.size ≤ k_)) (n := l0.length) (c := co83) ?_).2.2; exact (by (with_reducible repeat (first | apply Kd.R_alloc | apply Kd.R_drewN | apply Kd.R_drew)); exact (Kd.R_mono (Kd.R_far (p := ⟨gb645, 5, none⟩) (Kd.R_far (p := ⟨gb645, 4, none⟩) (Kd.R_far (p := ⟨gb645, 3, none⟩) (Kd.R_far (p := ⟨gb645, 2, none⟩) (Kd.R_far (p := ⟨gb645, 1, none⟩) (Kd.R_far (p := ⟨gb645, 0, none⟩) (Kd.R_types HO0.out BK645.out (by decide)) (fun _ hk => hk.2) (.int .i64 a1_1)) (fun _ hk => hk.2) (.int .i64 a1_2)) (fun _ hk => hk.2) (.int .i64 0)) (fun _ hk => hk.2) (.bool false)) (fun _ hk => hk.2) (.string (⟨#[]⟩ : ByteArray))) (fun _ hk => hk.2) (.int .i64 0)) (fun _ h_ => h_.1)))); (case side2 => exact (Kd.R_reads' HO0.out).2.1); rintro e w84 ⟨rfl, hb⟩; refine ⟨_, rfl, ?_⟩; have n0_ := Aside0.mk (Kd.R_below (by (with_reducible repeat (first | apply Kd.R_alloc | apply Kd.R_drewN | apply Kd.R_drew)); exact (Kd.R_mono (Kd.R_far (p := ⟨gb645, 5, none⟩) (Kd.R_far (p := ⟨gb645, 4, none⟩) (Kd.R_far (p := ⟨gb645, 3, none⟩) (Kd.R_far (p := ⟨gb645, 2, none⟩) (Kd.R_far (p := ⟨gb645, 1, none⟩) (Kd.R_far (p := ⟨gb645, 0, none⟩) (Kd.R_types HO0.out BK645.out (by decide)) (fun _ hk => hk.2) (.int .i64 a1_1)) (fun _ hk => hk.2) (.int .i64 a1_2)) (fun _ hk => hk.2) (.int .i64 0)) (fun _ hk => hk.2) (.bool false)) (fun _ hk => hk.2) (.string (⟨#[]⟩ : ByteArray))) (fun _ hk => hk.2) (.int .i64 0)) (fun _ h_ => h_.1))) hb); have n1_ := Aside0.mk (blk_below (g := gb643) (o := .cells #[.int .i64 a1_0, .int .i64 a1_1, .int .i64 a1_2, .string a1_3, .string a1_4, .string a1_5, .int .i64 a1_6] 72 (0, 0)) (by (with_reducible repeat (first | refine blk_drewN ?_ _ | refine blk_drew ?_ | refine blk_alloc ?_ _)); refine blk_far ?_ NB643_645.out _; (with_reducible repeat (first | refine blk_drewN ?_ _ | refine blk_drew ?_ | refine blk_alloc ?_ _)); refine blk_far ?_ NB643_645.out _; (with_reducible repeat (first | refine blk_drewN ?_ _ | refine blk_drew ?_ | refine blk_alloc ?_ _)); refine blk_far ?_ NB643_645.out _; (with_reducible repeat (first | refine blk_drewN ?_ _ | refine blk_drew ?_ | refine blk_alloc ?_ _)); refine blk_far ?_ NB643_645.out _; (with_reducible repeat (first | refine blk_drewN ?_ _ | refine blk_drew ?_ | refine blk_alloc ?_ _)); refine blk_far ?_ NB643_645.out _; (with_reducible repeat (first | refine blk_drewN ?_ _ | refine blk_drew ?_ | refine blk_alloc ?_ _)); refine blk_far ?_ NB643_645.out _; (with_reducible repeat (first | refine blk_drewN ?_ _ | refine blk_drew ?_ | refine blk_alloc ?_ _)); exact BK643.out) hb); have n2_ := Aside0.mk (blk_below (g := gb644) (o := .cells #[.int .i64 0, .int .i64 0, .int .i64 0, .bool false, .string (⟨#[]⟩ : ByteArray), .int .i64 0] 60 (0, 0)) (by (with_reducible repeat (first | refine blk_drewN ?_ _ | refine blk_drew ?_ | refine blk_alloc ?_ _)); refine blk_far ?_ NB644_645.out _; (with_reducible repeat (first | refine blk_drewN ?_ _ | refine blk_drew ?_ | refine blk_alloc ?_ _)); refine blk_far ?_ NB644_645.out _; (with_reducible repeat (first | refine blk_drewN ?_ _ | refine blk_drew ?_ | refine blk_alloc ?_ _)); refine blk_far ?_ NB644_645.out _; (with_reducible repeat (first | refine blk_drewN ?_ _ | refine blk_drew ?_ | refine blk_alloc ?_ _)); refine blk_far ?_ NB644_645.out _; (with_reducible repeat (first | refine blk_drewN ?_ _ | refine blk_drew ?_ | refine blk_alloc ?_ _)); refine blk_far ?_ NB644_645.out _; (with_reducible repeat (first | refine blk_drewN ?_ _ | refine blk_drew ?_ | refine blk_alloc ?_ _)); refine blk_far ?_ NB644_645.out _; (with_reducible repeat (first | refine blk_drewN ?_ _ | refine blk_drew ?_ | refine blk_alloc ?_ _)); exact BK644.out) hb); have n3_ := Aside0.mk (blk_below (g := gb645) (o := .cells #[.int .i64 a1_1, .int .i64 a1_2, .int .i64 0, .bool false, .string (⟨#[]⟩ : ByteArray), .int .i64 0] 60 (0, 0)) (by (with_reducible repeat (first | refine blk_drewN ?_ _ | refine blk_drew ?_ | refine blk_alloc ?_ _)); refine blk_put (cs := #[.int .i64 a1_1, .int .i64 a1_2, .int .i64 0, .bool false, .string (⟨#[]⟩ : ByteArray), .int .i64 0]) ?_ 5 _ rfl; (with_reducible repeat (first | refine blk_drewN ?_ _ | refine blk_drew ?_ | refine blk_alloc ?_ _)); refine blk_put (cs := #[.int .i64 a1_1, .int .i64 a1_2, .int .i64 0, .bool false, .string (⟨#[]⟩ : ByteArray), .int .i64 0]) ?_ 4 _ rfl; (with_reducible repeat (first | refine blk_drewN ?_ _ | refine blk_drew ?_ | refine blk_alloc ?_ _)); refine blk_put (cs := #[.int .i64 a1_1, .int .i64 a1_2, .int .i64 0, .bool false, .string (⟨#[]⟩ : ByteArray), .int .i64 0]) ?_ 3 _ rfl; (with_reducible repeat (first | refine blk_drewN ?_ _ | refine blk_drew ?_ | refine blk_alloc ?_ _)); refine blk_put (cs := #[.int .i64 a1_1, .int .i64 a1_2, .int .i64 0, .bool false, .string (⟨#[]⟩ : ByteArray), .int .i64 0]) ?_ 2 _ rfl; (with_reducible repeat (first | refine blk_drewN ?_ _ | refine blk_drew ?_ | refine blk_alloc ?_ _)); refine blk_put (cs := #[.int .i64 a1_1, .int .i64 0, .int .i64 0, .bool false, .string (⟨#[]⟩ : ByteArray), .int .i64 0]) ?_ 1 _ rfl; (with_reducible repeat (first | refine blk_drewN ?_ _ | refine blk_drew ?_ | refine blk_alloc ?_ _)); refine blk_put (cs := #[.int .i64 0, .int .i64 0, .int .i64 0, .bool false, .string (⟨#[]⟩ : ByteArray), .int .i64 0]) ?_ 0 _ rfl; (with_reducible repeat (first | refine blk_drewN ?_ _ | refine blk_drew ?_ | refine blk_alloc ?_ _)); exact BK645.out) hb); have n4_ := Aside0.mk (Kept.below (S := (fun k_ => P0_ k_)) (by repeat (first | (with_reducible first | exact HK.out | apply Kept.alloc | apply Kept.drewN | apply Kept.drew | refine Kept.setCell ?_ (.inr GW643.out) _ | refine Kept.setCell ?_ (.inr GW644.out) _ | refine Kept.setCell ?_ (.inr GW645.out) _) | exact HK.out)) hb); have n5_ := Aside0.mk (below_step (by repeat (first | (with_reducible first | exact HB.out | apply below_alloc | apply pw_below_drewN | apply below_drew1 | refine below_set ?_ GE643.out | refine below_set ?_ GE644.out | refine below_set ?_ GE645.out) | exact HB.out)) hb); clear HO0; clear BK643; clear BK644; clear BK645; clear HK; clear HB; have HO0 := n0_; have BK643 := n1_; have BK644 := n2_; have BK645 := n3_; have HK := n4_; have HB := n5_; clear n0_ n1_ n2_ n3_ n4_ n5_; (try clear hb); (try clear hb2); (try clear hk); (try clear hi)) | ((with_reducible refine gate_dst (N := 7) rfl ?_); refine box_event ?hg (N := 7) ?hd (cs := #[.string (⟨#[]⟩ : ByteArray), .string (⟨#[]⟩ : ByteArray), .int .i64 0]) (t := 78) ?hr ?_; (case hd => rfl); (case hg => rfl); (case hr => first | (go_simp; done) | (go_simp; rfl)); intro gb650 hg w85 hbox hb; have n0_ := Aside0.mk (Kd.R_below (Kd.R_elderB (by (with_reducible repeat (first | apply Kd.R_alloc | apply Kd.R_drewN | apply Kd.R_drew)); exact HO0.out) gb650 (Nat.le_of_eq hg.symm)) hb); have n1_ := Aside0.mk (blk_below (g := gb643) (o := .cells #[.int .i64 a1_0, .int .i64 a1_1, .int .i64 a1_2, .string a1_3, .string a1_4, .string a1_5, .int .i64 a1_6] 72 (0, 0)) (by (with_reducible repeat (first | refine blk_drewN ?_ _ | refine blk_drew ?_ | refine blk_alloc ?_ _)); exact BK643.out) hb); have n2_ := Aside0.mk (blk_below (g := gb644) (o := .cells #[.int .i64 0, .int .i64 0, .int .i64 0, .bool false, .string (⟨#[]⟩ : ByteArray), .int .i64 0] 60 (0, 0)) (by (with_reducible repeat (first | refine blk_drewN ?_ _ | refine blk_drew ?_ | refine blk_alloc ?_ _)); exact BK644.out) hb); have n3_ := Aside0.mk (blk_below (g := gb645) (o := .cells #[.int .i64 a1_1, .int .i64 a1_2, .int .i64 0, .bool false, .string (⟨#[]⟩ : ByteArray), .int .i64 0] 60 (0, 0)) (by (with_reducible repeat (first | refine blk_drewN ?_ _ | refine blk_drew ?_ | refine blk_alloc ?_ _)); exact BK645.out) hb); have n4_ := Aside0.mk (Kept.below (S := (fun k_ => P0_ k_)) (by repeat (first | (with_reducible first | exact HK.out | apply Kept.alloc | apply Kept.drewN | apply Kept.drew | refine Kept.setCell ?_ (.inr GW643.out) _ | refine Kept.setCell ?_ (.inr GW644.out) _ | refine Kept.setCell ?_ (.inr GW645.out) _) | exact HK.out)) hb); have n5_ := Aside0.mk (below_step (by repeat (first | (with_reducible first | exact HB.out | apply below_alloc | apply pw_below_drewN | apply below_drew1 | refine below_set ?_ GE643.out | refine below_set ?_ GE644.out | refine below_set ?_ GE645.out) | exact HB.out)) hb); have n6_ := Aside0.mk (hbox); have n7_ := Aside0.mk ((by rw [hg]; exact (by first | exact HK.out.1 | exact (show Kept w _ (fun k_ => P0_ k_) from by repeat (first | (with_reducible first | exact HK.out | apply Kept.alloc | apply Kept.drewN | apply Kept.drew | refine Kept.setCell ?_ (.inr GW643.out) _ | refine Kept.setCell ?_ (.inr GW644.out) _ | refine Kept.setCell ?_ (.inr GW645.out) _) | exact HK.out)).1) : w.heap.size ≤ gb650)); have n8_ := Aside0.mk ((by rw [hg]; exact (below_size (by repeat (first | (with_reducible first | exact HB.out | apply below_alloc | apply pw_below_drewN | apply below_drew1 | refine below_set ?_ GE643.out | refine below_set ?_ GE644.out | refine below_set ?_ GE645.out) | exact HB.out))) : w0.heap.size ≤ gb650)); have n9_ := Aside0.mk ((by rw [hg]; exact Nat.ne_of_lt (blk_lt (g := gb643) (o := .cells #[.int .i64 a1_0, .int .i64 a1_1, .int .i64 a1_2, .string a1_3, .string a1_4, .string a1_5, .int .i64 a1_6] 72 (0, 0)) (by (with_reducible repeat (first | refine blk_drewN ?_ _ | refine blk_drew ?_ | refine blk_alloc ?_ _)); exact BK643.out)) : gb643 ≠ gb650)); have n10_ := Aside0.mk ((by rw [hg]; exact Nat.ne_of_gt (blk_lt (g := gb643) (o := .cells #[.int .i64 a1_0, .int .i64 a1_1, .int .i64 a1_2, .string a1_3, .string a1_4, .string a1_5, .int .i64 a1_6] 72 (0, 0)) (by (with_reducible repeat (first | refine blk_drewN ?_ _ | refine blk_drew ?_ | refine blk_alloc ?_ _)); exact BK643.out)) : gb650 ≠ gb643)); have n11_ := Aside0.mk ((by rw [hg]; exact Nat.ne_of_lt (blk_lt (g := gb644) (o := .cells #[.int .i64 0, .int .i64 0, .int .i64 0, .bool false, .string (⟨#[]⟩ : ByteArray), .int .i64 0] 60 (0, 0)) (by (with_reducible repeat (first | refine blk_drewN ?_ _ | refine blk_drew ?_ | refine blk_alloc ?_ _)); exact BK644.out)) : gb644 ≠ gb650)); have n12_ := Aside0.mk ((by rw [hg]; exact Nat.ne_of_gt (blk_lt (g := gb644) (o := .cells #[.int .i64 0, .int .i64 0, .int .i64 0, .bool false, .string (⟨#[]⟩ : ByteArray), .int .i64 0] 60 (0, 0)) (by (with_reducible repeat (first | refine blk_drewN ?_ _ | refine blk_drew ?_ | refine blk_alloc ?_ _)); exact BK644.out)) : gb650 ≠ gb644)); have n13_ := Aside0.mk ((by rw [hg]; exact Nat.ne_of_lt (blk_lt (g := gb645) (o := .cells #[.int .i64 a1_1, .int .i64 a1_2, .int .i64 0, .bool false, .string (⟨#[]⟩ : ByteArray), .int .i64 0] 60 (0, 0)) (by (with_reducible repeat (first | refine blk_drewN ?_ _ | refine blk_drew ?_ | refine blk_alloc ?_ _)); exact BK645.out)) : gb645 ≠ gb650)); have n14_ := Aside0.mk ((by rw [hg]; exact Nat.ne_of_gt (blk_lt (g := gb645) (o := .cells #[.int .i64 a1_1, .int .i64 a1_2, .int .i64 0, .bool false, .string (⟨#[]⟩ : ByteArray), .int .i64 0] 60 (0, 0)) (by (with_reducible repeat (first | refine blk_drewN ?_ _ | refine blk_drew ?_ | refine blk_alloc ?_ _)); exact BK645.out)) : gb650 ≠ gb645)); clear HO0; clear BK643; clear BK644; clear BK645; clear HK; clear HB; have HO0 := n0_; have BK643 := n1_; have BK644 := n2_; have BK645 := n3_; have HK := n4_; have HB := n5_; have BK650 := n6_; have GW650 := n7_; have GE650 := n8_; have NB643_650 := n9_; have NB650_643 := n10_; have NB644_650 := n11_; have NB650_644 := n12_; have NB645_650 := n13_; have NB650_645 := n14_; clear n0_ n1_ n2_ n3_ n4_ n5_ n6_ n7_ n8_ n9_ n10_ n11_ n12_ n13_ n14_; clear hb hbox hg; have hnb86 := NB650_643.out; have hnc86 := NB643_650.out; have hnb87 := NB650_644.out; have hnc87 := NB644_650.out; have hnb88 := NB650_645.out; have hnc88 := NB645_650.out; have hcz89_0 : w85.cell? ⟨gb650, 0, none⟩ = some (.string (⟨#[]⟩ : ByteArray)) := (blk_cell BK650.out 0).trans rfl; have hcz89_1 : w85.cell? ⟨gb650, 1, none⟩ = some (.string (⟨#[]⟩ : ByteArray)) := (blk_cell BK650.out 1).trans rfl; have hcz89_2 : w85.cell? ⟨gb650, 2, none⟩ = some (.int .i64 0) := (blk_cell BK650.out 2).trans rfl; have hfz89_0 := blk_frozen BK650.out 0; have hfz89_1 := blk_frozen BK650.out 1; have hfz89_2 := blk_frozen BK650.out 2; have hcz90_0 : w85.cell? ⟨gb645, 0, none⟩ = some (.int .i64 a1_1) := (blk_cell BK645.out 0).trans rfl; have hcz90_1 : w85.cell? ⟨gb645, 1, none⟩ = some (.int .i64 a1_2) := (blk_cell BK645.out 1).trans rfl; have hcz90_2 : w85.cell? ⟨gb645, 2, none⟩ = some (.int .i64 0) := (blk_cell BK645.out 2).trans rfl; have hcz90_3 : w85.cell? ⟨gb645, 3, none⟩ = some (.bool false) := (blk_cell BK645.out 3).trans rfl; have hcz90_4 : w85.cell? ⟨gb645, 4, none⟩ = some (.string (⟨#[]⟩ : ByteArray)) := (blk_cell BK645.out 4).trans rfl; have hcz90_5 : w85.cell? ⟨gb645, 5, none⟩ = some (.int .i64 0) := (blk_cell BK645.out 5).trans rfl; have hfz90_0 := blk_frozen BK645.out 0; have hfz90_1 := blk_frozen BK645.out 1; have hfz90_2 := blk_frozen BK645.out 2; have hfz90_3 := blk_frozen BK645.out 3; have hfz90_4 := blk_frozen BK645.out 4; have hfz90_5 := blk_frozen BK645.out 5))
    have n0_ : Aside0 (Kd.R k78 78 ((((w85.setCell ⟨gb650, 0, none⟩ (.string t646)).setCell ⟨gb650, 1, none⟩ (.string t647)).setCell ⟨gb650, 2, none⟩ (.int .i64 t648)).setCell ⟨gb645, 2, none⟩ (.int .i64 10)) w0.heap.size (fun k_ => (P0_ k_ ∨ w.heap.size ≤ k_) ∧ k_ ≠ gb650) (.slice Ao83 l0.length co83) l0) := ⟨by (with_reducible repeat (first | apply Kd.R_alloc | apply Kd.R_drewN | apply Kd.R_drew)); exact Kd.R_mono (Kd.R_far (p := ⟨gb645, 2, none⟩) (Kd.R_far (p := ⟨gb650, 2, none⟩) (Kd.R_far (p := ⟨gb650, 1, none⟩) (Kd.R_far (p := ⟨gb650, 0, none⟩) (Kd.R_types (Kd.R_mono HO0.out (fun k_ hk => (⟨hk, hk.2⟩ : _ ∧ k_ ≠ gb650))) BK645.out (by decide)) (fun _ hk => hk.1.2) (.string t646)) (fun _ hk => hk.1.2) (.string t647)) (fun _ hk => hk.1.2) (.int .i64 t648)) (fun _ hk => hk.2) (.int .i64 10)) (fun _ hk => ⟨hk.1.1.1, hk.1.1.2⟩)⟩
    have n1_ : Aside0 (((((w85.setCell ⟨gb650, 0, none⟩ (.string t646)).setCell ⟨gb650, 1, none⟩ (.string t647)).setCell ⟨gb650, 2, none⟩ (.int .i64 t648)).setCell ⟨gb645, 2, none⟩ (.int .i64 10)).heap[gb643]? = some (.cells #[.int .i64 a1_0, .int .i64 a1_1, .int .i64 a1_2, .string a1_3, .string a1_4, .string a1_5, .int .i64 a1_6] 72 (0, 0))) := ⟨by (with_reducible repeat (first | refine blk_drewN ?_ _ | refine blk_drew ?_ | refine blk_alloc ?_ _)); refine blk_far ?_ NB643_645.out _; (with_reducible repeat (first | refine blk_drewN ?_ _ | refine blk_drew ?_ | refine blk_alloc ?_ _)); refine blk_far ?_ NB643_650.out _; (with_reducible repeat (first | refine blk_drewN ?_ _ | refine blk_drew ?_ | refine blk_alloc ?_ _)); refine blk_far ?_ NB643_650.out _; (with_reducible repeat (first | refine blk_drewN ?_ _ | refine blk_drew ?_ | refine blk_alloc ?_ _)); refine blk_far ?_ NB643_650.out _; (with_reducible repeat (first | refine blk_drewN ?_ _ | refine blk_drew ?_ | refine blk_alloc ?_ _)); exact BK643.out⟩
    have n2_ : Aside0 (((((w85.setCell ⟨gb650, 0, none⟩ (.string t646)).setCell ⟨gb650, 1, none⟩ (.string t647)).setCell ⟨gb650, 2, none⟩ (.int .i64 t648)).setCell ⟨gb645, 2, none⟩ (.int .i64 10)).heap[gb644]? = some (.cells #[.int .i64 0, .int .i64 0, .int .i64 0, .bool false, .string (⟨#[]⟩ : ByteArray), .int .i64 0] 60 (0, 0))) := ⟨by (with_reducible repeat (first | refine blk_drewN ?_ _ | refine blk_drew ?_ | refine blk_alloc ?_ _)); refine blk_far ?_ NB644_645.out _; (with_reducible repeat (first | refine blk_drewN ?_ _ | refine blk_drew ?_ | refine blk_alloc ?_ _)); refine blk_far ?_ NB644_650.out _; (with_reducible repeat (first | refine blk_drewN ?_ _ | refine blk_drew ?_ | refine blk_alloc ?_ _)); refine blk_far ?_ NB644_650.out _; (with_reducible repeat (first | refine blk_drewN ?_ _ | refine blk_drew ?_ | refine blk_alloc ?_ _)); refine blk_far ?_ NB644_650.out _; (with_reducible repeat (first | refine blk_drewN ?_ _ | refine blk_drew ?_ | refine blk_alloc ?_ _)); exact BK644.out⟩
    have n3_ : Aside0 (((((w85.setCell ⟨gb650, 0, none⟩ (.string t646)).setCell ⟨gb650, 1, none⟩ (.string t647)).setCell ⟨gb650, 2, none⟩ (.int .i64 t648)).setCell ⟨gb645, 2, none⟩ (.int .i64 10)).heap[gb645]? = some (.cells #[.int .i64 a1_1, .int .i64 a1_2, .int .i64 10, .bool false, .string (⟨#[]⟩ : ByteArray), .int .i64 0] 60 (0, 0))) := ⟨by (with_reducible repeat (first | refine blk_drewN ?_ _ | refine blk_drew ?_ | refine blk_alloc ?_ _)); refine blk_put (cs := #[.int .i64 a1_1, .int .i64 a1_2, .int .i64 0, .bool false, .string (⟨#[]⟩ : ByteArray), .int .i64 0]) ?_ 2 _ rfl; (with_reducible repeat (first | refine blk_drewN ?_ _ | refine blk_drew ?_ | refine blk_alloc ?_ _)); refine blk_far ?_ NB645_650.out _; (with_reducible repeat (first | refine blk_drewN ?_ _ | refine blk_drew ?_ | refine blk_alloc ?_ _)); refine blk_far ?_ NB645_650.out _; (with_reducible repeat (first | refine blk_drewN ?_ _ | refine blk_drew ?_ | refine blk_alloc ?_ _)); refine blk_far ?_ NB645_650.out _; (with_reducible repeat (first | refine blk_drewN ?_ _ | refine blk_drew ?_ | refine blk_alloc ?_ _)); exact BK645.out⟩
    have n4_ : Aside0 (((((w85.setCell ⟨gb650, 0, none⟩ (.string t646)).setCell ⟨gb650, 1, none⟩ (.string t647)).setCell ⟨gb650, 2, none⟩ (.int .i64 t648)).setCell ⟨gb645, 2, none⟩ (.int .i64 10)).heap[gb650]? = some (.cells #[.string t646, .string t647, .int .i64 t648] 78 (0, 0))) := ⟨by (with_reducible repeat (first | refine blk_drewN ?_ _ | refine blk_drew ?_ | refine blk_alloc ?_ _)); refine blk_far ?_ NB650_645.out _; (with_reducible repeat (first | refine blk_drewN ?_ _ | refine blk_drew ?_ | refine blk_alloc ?_ _)); refine blk_put (cs := #[.string t646, .string t647, .int .i64 0]) ?_ 2 _ rfl; (with_reducible repeat (first | refine blk_drewN ?_ _ | refine blk_drew ?_ | refine blk_alloc ?_ _)); refine blk_put (cs := #[.string t646, .string (⟨#[]⟩ : ByteArray), .int .i64 0]) ?_ 1 _ rfl; (with_reducible repeat (first | refine blk_drewN ?_ _ | refine blk_drew ?_ | refine blk_alloc ?_ _)); refine blk_put (cs := #[.string (⟨#[]⟩ : ByteArray), .string (⟨#[]⟩ : ByteArray), .int .i64 0]) ?_ 0 _ rfl; (with_reducible repeat (first | refine blk_drewN ?_ _ | refine blk_drew ?_ | refine blk_alloc ?_ _)); exact BK650.out⟩
    have n5_ : Aside0 (Kept w ((((w85.setCell ⟨gb650, 0, none⟩ (.string t646)).setCell ⟨gb650, 1, none⟩ (.string t647)).setCell ⟨gb650, 2, none⟩ (.int .i64 t648)).setCell ⟨gb645, 2, none⟩ (.int .i64 10)) (fun k_ => P0_ k_)) := ⟨by repeat (first | (with_reducible first | exact HK.out | apply Kept.alloc | apply Kept.drewN | apply Kept.drew | refine Kept.setCell ?_ (.inr GW643.out) _ | refine Kept.setCell ?_ (.inr GW644.out) _ | refine Kept.setCell ?_ (.inr GW645.out) _ | refine Kept.setCell ?_ (.inr GW650.out) _) | exact HK.out)⟩
    have n6_ : Aside0 (Below w0.heap.size w0 ((((w85.setCell ⟨gb650, 0, none⟩ (.string t646)).setCell ⟨gb650, 1, none⟩ (.string t647)).setCell ⟨gb650, 2, none⟩ (.int .i64 t648)).setCell ⟨gb645, 2, none⟩ (.int .i64 10))) := ⟨by repeat (first | (with_reducible first | exact HB.out | apply below_alloc | apply pw_below_drewN | apply below_drew1 | refine below_set ?_ GE643.out | refine below_set ?_ GE644.out | refine below_set ?_ GE645.out | refine below_set ?_ GE650.out) | exact HB.out)⟩
    (try clear HO0)
    (try clear BK643)
    (try clear BK644)
    (try clear BK645)
    (try clear BK650)
    (try clear HK)
    (try clear HB)
    generalize ((((w85.setCell ⟨gb650, 0, none⟩ (.string t646)).setCell ⟨gb650, 1, none⟩ (.string t647)).setCell ⟨gb650, 2, none⟩ (.int .i64 t648)).setCell ⟨gb645, 2, none⟩ (.int .i64 10)) = w91 at n0_ n1_ n2_ n3_ n4_ n5_ n6_ ⊢
    have HO0 := n0_
    have BK643 := n1_
    have BK644 := n2_
    have BK645 := n3_
    have BK650 := n4_
    have HK := n5_
    have HB := n6_
    clear n0_ n1_ n2_ n3_ n4_ n5_ n6_
    have n0_ := Aside0.mk (Kd.R_drew HO0.out)
    have n1_ := Aside0.mk (blk_drew BK643.out)
    have n2_ := Aside0.mk (blk_drew BK644.out)
    have n3_ := Aside0.mk (blk_drew BK645.out)
    have n4_ := Aside0.mk (blk_drew BK650.out)
    have n5_ := Aside0.mk (Kept.drew HK.out)
    have n6_ := Aside0.mk (below_drew1 HB.out)
    clear HO0
    clear BK643
    clear BK644
    clear BK645
    clear BK650
    clear HK
    clear HB
    have HO0 := n0_
    have BK643 := n1_
    have BK644 := n2_
    have BK645 := n3_
    have BK650 := n4_
    have HK := n5_
    have HB := n6_
    clear n0_ n1_ n2_ n3_ n4_ n5_ n6_
    refine start_ (n := 4) (S := fun w' => w'.cell? ⟨gb645, 0, none⟩ = some (.int .i64 a1_1) ∧ w'.cell? ⟨gb645, 1, none⟩ = some (.int .i64 a1_2) ∧ w'.cell? ⟨gb645, 2, none⟩ = some (.int .i64 10) ∧ w'.cell? ⟨gb645, 3, none⟩ = some (.bool false) ∧ w'.cell? ⟨gb645, 4, none⟩ = some (.string (⟨#[]⟩ : ByteArray)) ∧ w'.cell? ⟨gb645, 5, none⟩ = some (.int .i64 0)) (ds := []) #[false, false, false, false] (by kernel_rfl) rfl rfl ⟨(blk_cell BK645.out 0).trans rfl, (blk_cell BK645.out 1).trans rfl, (blk_cell BK645.out 2).trans rfl, (blk_cell BK645.out 3).trans rfl, (blk_cell BK645.out 4).trans rfl, (blk_cell BK645.out 5).trans rfl⟩ (fun hHeld => ?_)
    generalize w91.drew = w92 at HO0 BK643 BK644 BK645 BK650 HK HB hHeld ⊢
    refine pure_ (i := 0) (N := some 24) (v := ?_) (a' := ?_) #[true, false, false, false] rfl rfl (by kernel_rfl) (fun _ _ _ h => h) (Or.inl ⟨by rfl, ?_⟩) ?_ ?_
    rotate_left
    · intro w'
      go_simp
      with_reducible rfl
    rotate_left
    · simp only [Act.put, List.setIfInBounds_toArray, List.set_cons_zero, List.set_cons_succ, i64_w, i32_w]
      rfl
    refine pure_ (i := 2) (N := some 4) (v := ?_) (a' := ?_) #[true, false, true, false] rfl rfl (by kernel_rfl) (fun _ _ _ h => h) (Or.inl ⟨by rfl, ?_⟩) ?_ ?_
    rotate_left
    · intro w'
      go_simp
      with_reducible rfl
    rotate_left
    · simp only [Act.put, List.setIfInBounds_toArray, List.set_cons_zero, List.set_cons_succ, i64_w, i32_w]
      rfl
    refine take_ (i := 1) (N := some 25) (v := ?_) (a' := ?_) #[true, true, true, false] rfl rfl (by kernel_rfl) (fun _ _ _ h => h) (Or.inl ⟨by rfl, ?_⟩) hHeld ?_ ?_
    rotate_left
    · rintro w' ⟨s0, s1, s2, s3, s4, s5⟩
      go_simp
      with_reducible rfl
    rotate_left
    · simp only [Act.put, List.setIfInBounds_toArray, List.set_cons_zero, List.set_cons_succ, i64_w, i32_w]
      rfl
    refine one_ (i := 3) (N := none) #[true, true, true, true] rfl rfl (by kernel_rfl) (by decide) (fun K hK => ?_)
    have hs93 : w92.cell? ⟨gb644, 0, none⟩ = some (.int .i64 0) := (blk_cell BK644.out 0).trans rfl
    have hfs93 := blk_frozen BK644.out 0
    have hns93_0 := NB643_644.out
    have hns93_2 := NB645_644.out
    have hns93_3 := NB650_644.out
    have hms93_0 := NB644_643.out
    have hms93_2 := NB644_645.out
    have hms93_3 := NB644_650.out
    have hs94 : w92.cell? ⟨gb644, 1, none⟩ = some (.int .i64 0) := (blk_cell BK644.out 1).trans rfl
    have hfs94 := blk_frozen BK644.out 1
    have hns94_0 := NB643_644.out
    have hns94_2 := NB645_644.out
    have hns94_3 := NB650_644.out
    have hms94_0 := NB644_643.out
    have hms94_2 := NB644_645.out
    have hms94_3 := NB644_650.out
    have hs95 : w92.cell? ⟨gb644, 2, none⟩ = some (.int .i64 0) := (blk_cell BK644.out 2).trans rfl
    have hfs95 := blk_frozen BK644.out 2
    have hns95_0 := NB643_644.out
    have hns95_2 := NB645_644.out
    have hns95_3 := NB650_644.out
    have hms95_0 := NB644_643.out
    have hms95_2 := NB644_645.out
    have hms95_3 := NB644_650.out
    have hs96 : w92.cell? ⟨gb644, 3, none⟩ = some (.bool false) := (blk_cell BK644.out 3).trans rfl
    have hfs96 := blk_frozen BK644.out 3
    have hns96_0 := NB643_644.out
    have hns96_2 := NB645_644.out
    have hns96_3 := NB650_644.out
    have hms96_0 := NB644_643.out
    have hms96_2 := NB644_645.out
    have hms96_3 := NB644_650.out
    have hs97 : w92.cell? ⟨gb644, 4, none⟩ = some (.string (⟨#[]⟩ : ByteArray)) := (blk_cell BK644.out 4).trans rfl
    have hfs97 := blk_frozen BK644.out 4
    have hns97_0 := NB643_644.out
    have hns97_2 := NB645_644.out
    have hns97_3 := NB650_644.out
    have hms97_0 := NB644_643.out
    have hms97_2 := NB644_645.out
    have hms97_3 := NB644_650.out
    have hs98 : w92.cell? ⟨gb644, 5, none⟩ = some (.int .i64 0) := (blk_cell BK644.out 5).trans rfl
    have hfs98 := blk_frozen BK644.out 5
    have hns98_0 := NB643_644.out
    have hns98_2 := NB645_644.out
    have hns98_3 := NB650_644.out
    have hms98_0 := NB644_643.out
    have hms98_2 := NB644_645.out
    have hms98_3 := NB644_650.out
    refine skip_ (w1 := ?_) (by rfl) rfl ?_ ?_
    rotate_left
    · go_simp
      rfl
    refine hK.out _ _ ⟨((cell_far (p := ⟨gb644, _, none⟩) NB645_644.out _).trans (((cell_far (p := ⟨gb644, _, none⟩) NB645_644.out _).trans (((cell_far (p := ⟨gb644, _, none⟩) NB645_644.out _).trans (((cell_far (p := ⟨gb644, _, none⟩) NB645_644.out _).trans (((cell_far (p := ⟨gb644, _, none⟩) NB645_644.out _).trans (((cell_far (p := ⟨gb644, _, none⟩) NB645_644.out _).trans (hHeld.1)))))))))))), ((cell_far (p := ⟨gb644, _, none⟩) NB645_644.out _).trans (((cell_far (p := ⟨gb644, _, none⟩) NB645_644.out _).trans (((cell_far (p := ⟨gb644, _, none⟩) NB645_644.out _).trans (((cell_far (p := ⟨gb644, _, none⟩) NB645_644.out _).trans (((cell_far (p := ⟨gb644, _, none⟩) NB645_644.out _).trans (((cell_far (p := ⟨gb644, _, none⟩) NB645_644.out _).trans (hHeld.2.1)))))))))))), ((cell_far (p := ⟨gb644, _, none⟩) NB645_644.out _).trans (((cell_far (p := ⟨gb644, _, none⟩) NB645_644.out _).trans (((cell_far (p := ⟨gb644, _, none⟩) NB645_644.out _).trans (((cell_far (p := ⟨gb644, _, none⟩) NB645_644.out _).trans (((cell_far (p := ⟨gb644, _, none⟩) NB645_644.out _).trans (((cell_far (p := ⟨gb644, _, none⟩) NB645_644.out _).trans (hHeld.2.2.1)))))))))))), ((cell_far (p := ⟨gb644, _, none⟩) NB645_644.out _).trans (((cell_far (p := ⟨gb644, _, none⟩) NB645_644.out _).trans (((cell_far (p := ⟨gb644, _, none⟩) NB645_644.out _).trans (((cell_far (p := ⟨gb644, _, none⟩) NB645_644.out _).trans (((cell_far (p := ⟨gb644, _, none⟩) NB645_644.out _).trans (((cell_far (p := ⟨gb644, _, none⟩) NB645_644.out _).trans (hHeld.2.2.2.1)))))))))))), ((cell_far (p := ⟨gb644, _, none⟩) NB645_644.out _).trans (((cell_far (p := ⟨gb644, _, none⟩) NB645_644.out _).trans (((cell_far (p := ⟨gb644, _, none⟩) NB645_644.out _).trans (((cell_far (p := ⟨gb644, _, none⟩) NB645_644.out _).trans (((cell_far (p := ⟨gb644, _, none⟩) NB645_644.out _).trans (((cell_far (p := ⟨gb644, _, none⟩) NB645_644.out _).trans (hHeld.2.2.2.2.1)))))))))))), ((cell_far (p := ⟨gb644, _, none⟩) NB645_644.out _).trans (((cell_far (p := ⟨gb644, _, none⟩) NB645_644.out _).trans (((cell_far (p := ⟨gb644, _, none⟩) NB645_644.out _).trans (((cell_far (p := ⟨gb644, _, none⟩) NB645_644.out _).trans (((cell_far (p := ⟨gb644, _, none⟩) NB645_644.out _).trans (((cell_far (p := ⟨gb644, _, none⟩) NB645_644.out _).trans (hHeld.2.2.2.2.2))))))))))))⟩ (fun hHeld => ?_)
    clear hK K
    refine done_ (by kernel_rfl) ?_
    try go_wp2
    refine bodyPost_ret (results_tc rfl _ _ gb644 60 #[.int .i64 a1_1, .int .i64 a1_2, .int .i64 10, .bool false, .string (⟨#[]⟩ : ByteArray), .int .i64 0] (0, 0) _ rfl (by (with_reducible repeat (first | refine blk_drewN ?_ _ | refine blk_drew ?_ | refine blk_alloc ?_ _)); refine blk_put (cs := #[.int .i64 a1_1, .int .i64 a1_2, .int .i64 10, .bool false, .string (⟨#[]⟩ : ByteArray), .int .i64 0]) ?_ 5 _ rfl; (with_reducible repeat (first | refine blk_drewN ?_ _ | refine blk_drew ?_ | refine blk_alloc ?_ _)); refine blk_put (cs := #[.int .i64 a1_1, .int .i64 a1_2, .int .i64 10, .bool false, .string (⟨#[]⟩ : ByteArray), .int .i64 0]) ?_ 4 _ rfl; (with_reducible repeat (first | refine blk_drewN ?_ _ | refine blk_drew ?_ | refine blk_alloc ?_ _)); refine blk_put (cs := #[.int .i64 a1_1, .int .i64 a1_2, .int .i64 10, .bool false, .string (⟨#[]⟩ : ByteArray), .int .i64 0]) ?_ 3 _ rfl; (with_reducible repeat (first | refine blk_drewN ?_ _ | refine blk_drew ?_ | refine blk_alloc ?_ _)); refine blk_put (cs := #[.int .i64 a1_1, .int .i64 a1_2, .int .i64 0, .bool false, .string (⟨#[]⟩ : ByteArray), .int .i64 0]) ?_ 2 _ rfl; (with_reducible repeat (first | refine blk_drewN ?_ _ | refine blk_drew ?_ | refine blk_alloc ?_ _)); refine blk_put (cs := #[.int .i64 a1_1, .int .i64 0, .int .i64 0, .bool false, .string (⟨#[]⟩ : ByteArray), .int .i64 0]) ?_ 1 _ rfl; (with_reducible repeat (first | refine blk_drewN ?_ _ | refine blk_drew ?_ | refine blk_alloc ?_ _)); refine blk_put (cs := #[.int .i64 0, .int .i64 0, .int .i64 0, .bool false, .string (⟨#[]⟩ : ByteArray), .int .i64 0]) ?_ 0 _ rfl; (with_reducible repeat (first | refine blk_drewN ?_ _ | refine blk_drew ?_ | refine blk_alloc ?_ _)); exact BK644.out) Try.underlying60 rfl (by kernel_rfl)) rfl ?_
    exact ⟨_, by first | rfl | (simp [errW_none, errW_some] <;> rfl) | (simp [*, errW_none, errW_some] <;> rfl), by (with_reducible repeat (first | apply Kd.R_alloc | apply Kd.R_drewN | apply Kd.R_drew)); exact Kd.R_mono (Kd.R_far (p := ⟨gb644, 5, none⟩) (Kd.R_far (p := ⟨gb644, 4, none⟩) (Kd.R_far (p := ⟨gb644, 3, none⟩) (Kd.R_far (p := ⟨gb644, 2, none⟩) (Kd.R_far (p := ⟨gb644, 1, none⟩) (Kd.R_far (p := ⟨gb644, 0, none⟩) (Kd.R_types HO0.out BK644.out (by decide)) (fun _ hk => hk.2) (.int .i64 a1_1)) (fun _ hk => hk.2) (.int .i64 a1_2)) (fun _ hk => hk.2) (.int .i64 10)) (fun _ hk => hk.2) (.bool false)) (fun _ hk => hk.2) (.string (⟨#[]⟩ : ByteArray))) (fun _ hk => hk.2) (.int .i64 0)) (fun _ hk => hk.1.1), by repeat (first | (with_reducible first | exact HB.out | apply below_alloc | apply pw_below_drewN | apply below_drew1 | refine below_set ?_ GE643.out | refine below_set ?_ GE644.out | refine below_set ?_ GE645.out | refine below_set ?_ GE650.out) | exact HB.out), by repeat (first | (with_reducible first | exact HK.out | apply Kept.alloc | apply Kept.drewN | apply Kept.drew | refine Kept.setCell ?_ (.inr GW643.out) _ | refine Kept.setCell ?_ (.inr GW644.out) _ | refine Kept.setCell ?_ (.inr GW645.out) _ | refine Kept.setCell ?_ (.inr GW650.out) _) | exact HK.out)⟩

end Go.Proofs.Ytalpmbeddldfoaa.PA
