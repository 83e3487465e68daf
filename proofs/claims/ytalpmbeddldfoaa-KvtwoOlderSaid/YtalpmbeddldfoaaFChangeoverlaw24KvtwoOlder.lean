-- A text that a program wrote for this claim (print.py over stand-in bodies, tool/pr.sh).
import Derived.Test.YtalpmbeddldfoaaF0
import Derived.Test.YtalpmbeddldfoaaFEq1
import Derived.Test.YtalpmbeddldfoaaFChangeoverref23Large
import Derived.Test.YtalpmbeddldfoaaFChangeoverref23Rise
import Derived.Test.YtalpmbeddldfoaaFKvoneDo
import Derived.Test.YtalpmbeddldfoaaFChangeoverlaw24Large
import Derived.Test.YtalpmbeddldfoaaFKvtwoDo
import Derived.Test.YtalpmbeddldfoaaFChangeoverlaw24Awake
import Derived.Test.YtalpmbeddldfoaaFChangeoverref23Same
import Derived.Test.YtalpmbeddldfoaaFKvtwoPlain
namespace Go.Proofs.Ytalpmbeddldfoaa.PA
open Go.RowKit Go.Proofs.Ytalpmbeddldfoaa.Hand Go.Proofs.YtalpmbeddldfoaaW.PrintWords Go.Proofs.YtalpmbeddldfoaaW.PrintLast Go.Proofs.YtalpmbeddldfoaaW.PrintMore
attribute [local go_sem] max2_int min2_int max_two min_two max_three min_three max_four min_four   -- for this text's walks alone
attribute [local go_sem high] str_leq str_gtr str_geq
set_option linter.unusedVariables false
set_option linter.unusedSimpArgs false

attribute [local go_sem high] eqA60
/-! ### changeoverlaw24_KvtwoOlder: function 13 -/
def changeoverlaw24_KvtwoOlder.j0 : Nat → List (S78) → Bool → Int → Int → Int → ByteArray → ByteArray → ByteArray → Int → Option (Bool)
  | 0, _, _, _, _, _, _, _, _, _ => none
  | k + 1, x0, x24, x743000, x743001, x743002, x743003, x743004, x743005, x743006 => if x24 = true then ((changeoverlaw24_awake.f k).bind fun t746 => (some t746)) else ((kvtwo_Do.f k x0 x743000 x743001 x743002 x743003 x743004 x743005 x743006).bind fun bt747 => ((kvtwo_Plain.f k x0).bind fun t757 => ((kvone_Do.f k t757 x743000 x743001 x743002 x743003 x743004 x743005 x743006).bind fun bt760 => ((kvtwo_Plain.f k bt747.1).bind fun t770 => ((changeoverref23_Same.f k t770 bt760.1).bind fun t773 => (if t773 = true then (if (bt747.2.1 == bt760.2.1 && (bt747.2.2.1 == bt760.2.2.1 && (bt747.2.2.2.1 == bt760.2.2.2.1 && (bt747.2.2.2.2.1 == bt760.2.2.2.2.1 && (bt747.2.2.2.2.2.1.toList == bt760.2.2.2.2.2.1.toList && (bt747.2.2.2.2.2.2 == bt760.2.2.2.2.2.2)))))) = true then ((changeoverlaw24_awake.f k).bind fun t774 => (some t774)) else (some false)) else (some false)))))))
def changeoverlaw24_KvtwoOlder.f (k : Nat) (l0 : List (S78)) (a1_0 : Int) (a1_1 : Int) (a1_2 : Int) (a1_3 : ByteArray) (a1_4 : ByteArray) (a1_5 : ByteArray) (a1_6 : Int) : Option (Bool) := (changeoverref23_Large.f k l0).bind fun t743 => (if t743 = true then (changeoverlaw24_KvtwoOlder.j0 k l0 true a1_0 a1_1 a1_2 a1_3 a1_4 a1_5 a1_6) else ((changeoverlaw24_large.f a1_0 a1_1 a1_2 a1_3 a1_4 a1_5 a1_6).bind fun t744 => (if t744 = true then (changeoverlaw24_KvtwoOlder.j0 k l0 true a1_0 a1_1 a1_2 a1_3 a1_4 a1_5 a1_6) else ((changeoverref23_Rise.f k l0).bind fun t745 => (if t745 = true then (changeoverlaw24_KvtwoOlder.j0 k l0 (a1_0 == 5) a1_0 a1_1 a1_2 a1_3 a1_4 a1_5 a1_6) else (changeoverlaw24_KvtwoOlder.j0 k l0 true a1_0 a1_1 a1_2 a1_3 a1_4 a1_5 a1_6))))))
theorem changeoverlaw24_KvtwoOlder.mono_l : ∀ k, (∀ y0 y1 y2 y3 y4 y5 y6 y7 y8, LeO (changeoverlaw24_KvtwoOlder.j0 k y0 y1 y2 y3 y4 y5 y6 y7 y8) (changeoverlaw24_KvtwoOlder.j0 (k + 1) y0 y1 y2 y3 y4 y5 y6 y7 y8))
  | 0 => fun _ _ _ _ _ _ _ _ _ r h => by simp [changeoverlaw24_KvtwoOlder.j0] at h
  | k + 1 => by
    have ih0 := changeoverlaw24_KvtwoOlder.mono_l k
    · intro y0 y1 y2 y3 y4 y5 y6 y7 y8
      unfold changeoverlaw24_KvtwoOlder.j0
      repeat' first
      | (with_reducible exact ih0 _ _ _ _ _ _ _ _ _)
      | (with_reducible exact changeoverlaw24_awake.mono _)
      | (with_reducible exact changeoverref23_Large.mono _ _)
      | (with_reducible exact changeoverref23_Rise.mono _ _)
      | (with_reducible exact changeoverref23_Same.mono _ _ _)
      | (with_reducible exact kvone_Do.mono _ _ _ _ _ _ _ _ _)
      | (with_reducible exact kvtwo_Do.mono _ _ _ _ _ _ _ _ _)
      | (with_reducible exact kvtwo_Plain.mono _ _)
      | (with_reducible exact LeO.refl _)
      | (with_reducible exact LeO.none _)
      | (with_reducible refine LeO.ite ?_ ?_)
      | (with_reducible refine LeO.bind ?_ (fun _ => ?_))
      | exact ih0 _ _ _ _ _ _ _ _ _
      | exact changeoverlaw24_awake.mono _
      | exact changeoverref23_Large.mono _ _
      | exact changeoverref23_Rise.mono _ _
      | exact changeoverref23_Same.mono _ _ _
      | exact kvone_Do.mono _ _ _ _ _ _ _ _ _
      | exact kvtwo_Do.mono _ _ _ _ _ _ _ _ _
      | exact kvtwo_Plain.mono _ _
      | exact LeO.none _
      | refine LeO.ite ?_ ?_
      | refine LeO.bind ?_ (fun _ => ?_)
theorem changeoverlaw24_KvtwoOlder.mono : ∀ a0 a1 a2 a3 a4 a5 a6 a7 k, LeO (changeoverlaw24_KvtwoOlder.f k a0 a1 a2 a3 a4 a5 a6 a7) (changeoverlaw24_KvtwoOlder.f (k + 1) a0 a1 a2 a3 a4 a5 a6 a7) := by
  intro a0 a1 a2 a3 a4 a5 a6 a7 k
  have ih0 := changeoverlaw24_KvtwoOlder.mono_l k
  unfold changeoverlaw24_KvtwoOlder.f
  repeat' first
      | (with_reducible exact ih0 _ _ _ _ _ _ _ _ _)
      | (with_reducible exact changeoverlaw24_awake.mono _)
      | (with_reducible exact changeoverref23_Large.mono _ _)
      | (with_reducible exact changeoverref23_Rise.mono _ _)
      | (with_reducible exact changeoverref23_Same.mono _ _ _)
      | (with_reducible exact kvone_Do.mono _ _ _ _ _ _ _ _ _)
      | (with_reducible exact kvtwo_Do.mono _ _ _ _ _ _ _ _ _)
      | (with_reducible exact kvtwo_Plain.mono _ _)
      | (with_reducible exact LeO.refl _)
      | (with_reducible exact LeO.none _)
      | (with_reducible refine LeO.ite ?_ ?_)
      | (with_reducible refine LeO.bind ?_ (fun _ => ?_))
      | exact ih0 _ _ _ _ _ _ _ _ _
      | exact changeoverlaw24_awake.mono _
      | exact changeoverref23_Large.mono _ _
      | exact changeoverref23_Rise.mono _ _
      | exact changeoverref23_Same.mono _ _ _
      | exact kvone_Do.mono _ _ _ _ _ _ _ _ _
      | exact kvtwo_Do.mono _ _ _ _ _ _ _ _ _
      | exact kvtwo_Plain.mono _ _
      | exact LeO.none _
      | refine LeO.ite ?_ ?_
      | refine LeO.bind ?_ (fun _ => ?_)
def changeoverlaw24_KvtwoOlder.T4 : Bool × List (List Nat × List Nat) := (true, [([], []), ([0], [0]), ([], []), ([1, 2, 1], [1, 2]), ([3], [3]), ([4], [4]), ([4], [4]), ([], []), ([5, 3, 0, 1, 2, 3, 4, 5, 7], [5]), ([7, 6, 8, 0, 1, 2, 3, 4, 5, 6, 7, 8], [6, 7])])
def changeoverlaw24_KvtwoOlder.B4 : List Nat := [0, 1, 0, 7, 15, 31, 31, 0, 191, 511]
theorem changeoverlaw24_KvtwoOlder.tab4 : rtab .any (opsOf Try.f13 4) = changeoverlaw24_KvtwoOlder.T4 := by kernel_rfl
theorem changeoverlaw24_KvtwoOlder.bits4 : waitsOk changeoverlaw24_KvtwoOlder.T4.2 changeoverlaw24_KvtwoOlder.B4 = true := by kernel_rfl
set_option maxHeartbeats 8000000 in
set_option maxRecDepth 100000 in
theorem changeoverlaw24_KvtwoOlder.calls (k : Nat) (A0 : Option Addr) (c0 : Nat) (l0 : List (S78)) (a1_0 : Int) (a1_1 : Int) (a1_2 : Int) (a1_3 : ByteArray) (a1_4 : ByteArray) (a1_5 : ByteArray) (a1_6 : Int) (r : Bool) (w : World) (hr0 : Kd.C k78 w A0 l0.length l0) (hc0 : l0.length ≤ c0) (h : changeoverlaw24_KvtwoOlder.f k l0 a1_0 a1_1 a1_2 a1_3 a1_4 a1_5 a1_6 = some r) :
    Calls Try.prog 13 #[.slice A0 l0.length c0, .agg #[.int .i64 a1_0, .int .i64 a1_1, .int .i64 a1_2, .string a1_3, .string a1_4, .string a1_5, .int .i64 a1_6]] w fun e w' => e = .returned (.bool r) ∧ Below w.heap.size w w' := by
  have hu72 := Try.underlying72
  have hu60 := Try.underlying60
  have HR0 := Aside0.mk hr0
  have HC0 := Aside0.mk hc0
  clear hr0 hc0
  have HB := Aside0.mk (Below.refl w.heap.size w)
  have H : ((changeoverref23_Large.f k l0).bind fun t743 => (if t743 = true then (changeoverlaw24_KvtwoOlder.j0 k l0 true a1_0 a1_1 a1_2 a1_3 a1_4 a1_5 a1_6) else ((changeoverlaw24_large.f a1_0 a1_1 a1_2 a1_3 a1_4 a1_5 a1_6).bind fun t744 => (if t744 = true then (changeoverlaw24_KvtwoOlder.j0 k l0 true a1_0 a1_1 a1_2 a1_3 a1_4 a1_5 a1_6) else ((changeoverref23_Rise.f k l0).bind fun t745 => (if t745 = true then (changeoverlaw24_KvtwoOlder.j0 k l0 (a1_0 == 5) a1_0 a1_1 a1_2 a1_3 a1_4 a1_5 a1_6) else (changeoverlaw24_KvtwoOlder.j0 k l0 true a1_0 a1_1 a1_2 a1_3 a1_4 a1_5 a1_6))))))) = some r := h
  clear h
  have HC3 := Aside0.mk H
  clear H
  go_enter Try.func13, Try.ntmps13
  go_upto_region 1 with (first | ((with_reducible refine gate_dst (N := 3) rfl ?_); refine box_event ?hg (N := 3) ?hd (cs := #[.int .i64 a1_0, .int .i64 a1_1, .int .i64 a1_2, .string a1_3, .string a1_4, .string a1_5, .int .i64 a1_6]) (t := 72) ?hr ?_; (case hd => rfl); (case hg => rfl); (case hr => first | (go_simp; done) | (go_simp; rfl)); intro gb742 hg w4 hbox hb; have n0_ := Aside0.mk (below_step (by repeat (first | (with_reducible first | exact HB.out | apply below_alloc | apply pw_below_drewN | apply below_drew1) | exact HB.out)) hb); have n1_ := Aside0.mk (hbox); have n2_ := Aside0.mk ((by rw [hg]; exact (below_size (by repeat (first | (with_reducible first | exact HB.out | apply below_alloc | apply pw_below_drewN | apply below_drew1) | exact HB.out))) : w.heap.size ≤ gb742)); have n3_ := Aside0.mk ((by rw [hg]; exact (below_size (by repeat (first | (with_reducible first | exact HB.out | apply below_alloc | apply pw_below_drewN | apply below_drew1) | exact HB.out))) : w.heap.size ≤ gb742)); clear HB; have HB := n0_; have BK742 := n1_; have GW742 := n2_; have GE742 := n3_; clear n0_ n1_ n2_ n3_; clear hb hbox hg))
  (try simp only [Act.put, List.setIfInBounds_toArray, List.set_cons_zero, List.set_cons_succ])
  go_cut [24] (fun v24 wc => ∃ (kq : Nat) (x24_2 : Bool), v24 = .bool x24_2 ∧ Aside0 (changeoverlaw24_KvtwoOlder.j0 kq l0 x24_2 a1_0 a1_1 a1_2 a1_3 a1_4 a1_5 a1_6 = some r) ∧ Aside0 (kq ≤ k) ∧ Aside0 (wc.heap[gb742]? = some (.cells #[.int .i64 a1_0, .int .i64 a1_1, .int .i64 a1_2, .string a1_3, .string a1_4, .string a1_5, .int .i64 a1_6] 72 (0, 0))) ∧ Aside0 (Below w.heap.size w wc))
  case first =>
    have H := HC3.out
    clear HC3
    replace H := Option.bind_eq_some_iff.mp H
    obtain ⟨t743, A50, H⟩ := H
    replace H : (if t743 = true then (changeoverlaw24_KvtwoOlder.j0 k l0 true a1_0 a1_1 a1_2 a1_3 a1_4 a1_5 a1_6) else ((changeoverlaw24_large.f a1_0 a1_1 a1_2 a1_3 a1_4 a1_5 a1_6).bind fun t744 => (if t744 = true then (changeoverlaw24_KvtwoOlder.j0 k l0 true a1_0 a1_1 a1_2 a1_3 a1_4 a1_5 a1_6) else ((changeoverref23_Rise.f k l0).bind fun t745 => (if t745 = true then (changeoverlaw24_KvtwoOlder.j0 k l0 (a1_0 == 5) a1_0 a1_1 a1_2 a1_3 a1_4 a1_5 a1_6) else (changeoverlaw24_KvtwoOlder.j0 k l0 true a1_0 a1_1 a1_2 a1_3 a1_4 a1_5 a1_6)))))) = some r := H
    have A5 := Aside0.mk A50
    clear A50
    by_cases c6 : t743 = true
    · subst c6
      have H1 : (changeoverlaw24_KvtwoOlder.j0 k l0 true a1_0 a1_1 a1_2 a1_3 a1_4 a1_5 a1_6) = some r := by rw [if_pos rfl] at H; exact H
      clear H
      have H := H1
      clear H1
      have H' := Aside0.mk H
      clear H
      go_wp2_with (first | ((with_reducible refine gate_callee (f := 55) rfl ?_); refine goesL_ (some 10) rfl rfl Try.func55 (by kernel_rfl) rfl #[.slice A0 l0.length c0] rfl (by (try simp only [List.map_toArray, List.map_cons, List.map_nil]); first | done | rfl | (simp only [List.length_drop, List.length_take]; rfl)) ?_; (with_reducible refine (changeoverref23_Large.calls k _ _ l0 true _ ?side1 ?side2 A5.out).mono ?_); (case side1 => repeat (first | exact (Kd.C_below HR0.out HB.out) | (with_reducible refine Kd.C_alloc ?_ _) | (with_reducible refine Kd.C_drewN ?_ _) | (with_reducible refine Kd.C_drew ?_))); (case side2 => exact HC0.out); rintro e w' ⟨rfl, ⟨nd, rfl⟩⟩; refine ⟨_, rfl, ?_⟩))
      go_meet
      case rel => exact ⟨_, (true), (by first | rfl | (simp; done) | (simp [*]; done)), H', ⟨by first | omega | exact Nat.le_refl _⟩, ⟨by (with_reducible repeat (first | refine blk_drewN ?_ _ | refine blk_drew ?_ | refine blk_alloc ?_ _)); exact BK742.out⟩, ⟨by repeat (first | (with_reducible first | exact HB.out | apply below_alloc | apply pw_below_drewN | apply below_drew1 | refine below_set ?_ GE742.out) | exact HB.out)⟩⟩
    · replace c6 := Bool.eq_false_iff.mpr c6
      subst c6
      have H1 : ((changeoverlaw24_large.f a1_0 a1_1 a1_2 a1_3 a1_4 a1_5 a1_6).bind fun t744 => (if t744 = true then (changeoverlaw24_KvtwoOlder.j0 k l0 true a1_0 a1_1 a1_2 a1_3 a1_4 a1_5 a1_6) else ((changeoverref23_Rise.f k l0).bind fun t745 => (if t745 = true then (changeoverlaw24_KvtwoOlder.j0 k l0 (a1_0 == 5) a1_0 a1_1 a1_2 a1_3 a1_4 a1_5 a1_6) else (changeoverlaw24_KvtwoOlder.j0 k l0 true a1_0 a1_1 a1_2 a1_3 a1_4 a1_5 a1_6))))) = some r := by rw [if_neg (show ¬ (false = true) by decide)] at H; exact H
      clear H
      have H := H1
      clear H1
      replace H := Option.bind_eq_some_iff.mp H
      obtain ⟨t744, A70, H⟩ := H
      replace H : (if t744 = true then (changeoverlaw24_KvtwoOlder.j0 k l0 true a1_0 a1_1 a1_2 a1_3 a1_4 a1_5 a1_6) else ((changeoverref23_Rise.f k l0).bind fun t745 => (if t745 = true then (changeoverlaw24_KvtwoOlder.j0 k l0 (a1_0 == 5) a1_0 a1_1 a1_2 a1_3 a1_4 a1_5 a1_6) else (changeoverlaw24_KvtwoOlder.j0 k l0 true a1_0 a1_1 a1_2 a1_3 a1_4 a1_5 a1_6)))) = some r := H
      have A7 := Aside0.mk A70
      clear A70
      by_cases c8 : t744 = true
      · subst c8
        have H1 : (changeoverlaw24_KvtwoOlder.j0 k l0 true a1_0 a1_1 a1_2 a1_3 a1_4 a1_5 a1_6) = some r := by rw [if_pos rfl] at H; exact H
        clear H
        have H := H1
        clear H1
        have H' := Aside0.mk H
        clear H
        go_wp2_with (first | ((with_reducible refine gate_callee (f := 55) rfl ?_); refine goesL_ (some 10) rfl rfl Try.func55 (by kernel_rfl) rfl #[.slice A0 l0.length c0] rfl (by (try simp only [List.map_toArray, List.map_cons, List.map_nil]); first | done | rfl | (simp only [List.length_drop, List.length_take]; rfl)) ?_; (with_reducible refine (changeoverref23_Large.calls k _ _ l0 false _ ?side1 ?side2 A5.out).mono ?_); (case side1 => repeat (first | exact (Kd.C_below HR0.out HB.out) | (with_reducible refine Kd.C_alloc ?_ _) | (with_reducible refine Kd.C_drewN ?_ _) | (with_reducible refine Kd.C_drew ?_))); (case side2 => exact HC0.out); rintro e w' ⟨rfl, ⟨nd, rfl⟩⟩; refine ⟨_, rfl, ?_⟩; have hcz9_0 : w4.cell? ⟨gb742, 0, none⟩ = some (.int .i64 a1_0) := (blk_cell BK742.out 0).trans rfl; have hcz9_1 : w4.cell? ⟨gb742, 1, none⟩ = some (.int .i64 a1_1) := (blk_cell BK742.out 1).trans rfl; have hcz9_2 : w4.cell? ⟨gb742, 2, none⟩ = some (.int .i64 a1_2) := (blk_cell BK742.out 2).trans rfl; have hcz9_3 : w4.cell? ⟨gb742, 3, none⟩ = some (.string a1_3) := (blk_cell BK742.out 3).trans rfl; have hcz9_4 : w4.cell? ⟨gb742, 4, none⟩ = some (.string a1_4) := (blk_cell BK742.out 4).trans rfl; have hcz9_5 : w4.cell? ⟨gb742, 5, none⟩ = some (.string a1_5) := (blk_cell BK742.out 5).trans rfl; have hcz9_6 : w4.cell? ⟨gb742, 6, none⟩ = some (.int .i64 a1_6) := (blk_cell BK742.out 6).trans rfl; have hfz9_0 := blk_frozen BK742.out 0; have hfz9_1 := blk_frozen BK742.out 1; have hfz9_2 := blk_frozen BK742.out 2; have hfz9_3 := blk_frozen BK742.out 3; have hfz9_4 := blk_frozen BK742.out 4; have hfz9_5 := blk_frozen BK742.out 5; have hfz9_6 := blk_frozen BK742.out 6) | (go_at_call 62; (with_reducible refine (changeoverlaw24_large.calls a1_0 a1_1 a1_2 a1_3 a1_4 a1_5 a1_6 true _ A7.out).mono ?_); rintro e w10 ⟨rfl, hb⟩; have n0_ := Aside0.mk (blk_below (g := gb742) (o := .cells #[.int .i64 a1_0, .int .i64 a1_1, .int .i64 a1_2, .string a1_3, .string a1_4, .string a1_5, .int .i64 a1_6] 72 (0, 0)) (by (with_reducible repeat (first | refine blk_drewN ?_ _ | refine blk_drew ?_ | refine blk_alloc ?_ _)); exact BK742.out) hb); have n1_ := Aside0.mk (below_step (by repeat (first | (with_reducible first | exact HB.out | apply below_alloc | apply pw_below_drewN | apply below_drew1 | refine below_set ?_ GE742.out) | exact HB.out)) hb); clear BK742; clear HB; have BK742 := n0_; have HB := n1_; clear n0_ n1_; (try clear hb); (try clear hb2); (try clear hk); (try clear hi)))
        go_meet
        case rel => exact ⟨_, (true), (by first | rfl | (simp; done) | (simp [*]; done)), H', ⟨by first | omega | exact Nat.le_refl _⟩, ⟨by (with_reducible repeat (first | refine blk_drewN ?_ _ | refine blk_drew ?_ | refine blk_alloc ?_ _)); exact BK742.out⟩, ⟨by repeat (first | (with_reducible first | exact HB.out | apply below_alloc | apply pw_below_drewN | apply below_drew1 | refine below_set ?_ GE742.out) | exact HB.out)⟩⟩
      · replace c8 := Bool.eq_false_iff.mpr c8
        subst c8
        have H1 : ((changeoverref23_Rise.f k l0).bind fun t745 => (if t745 = true then (changeoverlaw24_KvtwoOlder.j0 k l0 (a1_0 == 5) a1_0 a1_1 a1_2 a1_3 a1_4 a1_5 a1_6) else (changeoverlaw24_KvtwoOlder.j0 k l0 true a1_0 a1_1 a1_2 a1_3 a1_4 a1_5 a1_6))) = some r := by rw [if_neg (show ¬ (false = true) by decide)] at H; exact H
        clear H
        have H := H1
        clear H1
        replace H := Option.bind_eq_some_iff.mp H
        obtain ⟨t745, A110, H⟩ := H
        replace H : (if t745 = true then (changeoverlaw24_KvtwoOlder.j0 k l0 (a1_0 == 5) a1_0 a1_1 a1_2 a1_3 a1_4 a1_5 a1_6) else (changeoverlaw24_KvtwoOlder.j0 k l0 true a1_0 a1_1 a1_2 a1_3 a1_4 a1_5 a1_6)) = some r := H
        have A11 := Aside0.mk A110
        clear A110
        by_cases c12 : t745 = true
        · subst c12
          have H1 : (changeoverlaw24_KvtwoOlder.j0 k l0 (a1_0 == 5) a1_0 a1_1 a1_2 a1_3 a1_4 a1_5 a1_6) = some r := by rw [if_pos rfl] at H; exact H
          clear H
          have H := H1
          clear H1
          have H' := Aside0.mk H
          clear H
          go_wp2_with (first | ((with_reducible refine gate_callee (f := 55) rfl ?_); refine goesL_ (some 10) rfl rfl Try.func55 (by kernel_rfl) rfl #[.slice A0 l0.length c0] rfl (by (try simp only [List.map_toArray, List.map_cons, List.map_nil]); first | done | rfl | (simp only [List.length_drop, List.length_take]; rfl)) ?_; (with_reducible refine (changeoverref23_Large.calls k _ _ l0 false _ ?side1 ?side2 A5.out).mono ?_); (case side1 => repeat (first | exact (Kd.C_below HR0.out HB.out) | (with_reducible refine Kd.C_alloc ?_ _) | (with_reducible refine Kd.C_drewN ?_ _) | (with_reducible refine Kd.C_drew ?_))); (case side2 => exact HC0.out); rintro e w' ⟨rfl, ⟨nd, rfl⟩⟩; refine ⟨_, rfl, ?_⟩; have hcz13_0 : w4.cell? ⟨gb742, 0, none⟩ = some (.int .i64 a1_0) := (blk_cell BK742.out 0).trans rfl; have hcz13_1 : w4.cell? ⟨gb742, 1, none⟩ = some (.int .i64 a1_1) := (blk_cell BK742.out 1).trans rfl; have hcz13_2 : w4.cell? ⟨gb742, 2, none⟩ = some (.int .i64 a1_2) := (blk_cell BK742.out 2).trans rfl; have hcz13_3 : w4.cell? ⟨gb742, 3, none⟩ = some (.string a1_3) := (blk_cell BK742.out 3).trans rfl; have hcz13_4 : w4.cell? ⟨gb742, 4, none⟩ = some (.string a1_4) := (blk_cell BK742.out 4).trans rfl; have hcz13_5 : w4.cell? ⟨gb742, 5, none⟩ = some (.string a1_5) := (blk_cell BK742.out 5).trans rfl; have hcz13_6 : w4.cell? ⟨gb742, 6, none⟩ = some (.int .i64 a1_6) := (blk_cell BK742.out 6).trans rfl; have hfz13_0 := blk_frozen BK742.out 0; have hfz13_1 := blk_frozen BK742.out 1; have hfz13_2 := blk_frozen BK742.out 2; have hfz13_3 := blk_frozen BK742.out 3; have hfz13_4 := blk_frozen BK742.out 4; have hfz13_5 := blk_frozen BK742.out 5; have hfz13_6 := blk_frozen BK742.out 6) | (go_at_call 62; (with_reducible refine (changeoverlaw24_large.calls a1_0 a1_1 a1_2 a1_3 a1_4 a1_5 a1_6 false _ A7.out).mono ?_); rintro e w14 ⟨rfl, hb⟩; have n0_ := Aside0.mk (blk_below (g := gb742) (o := .cells #[.int .i64 a1_0, .int .i64 a1_1, .int .i64 a1_2, .string a1_3, .string a1_4, .string a1_5, .int .i64 a1_6] 72 (0, 0)) (by (with_reducible repeat (first | refine blk_drewN ?_ _ | refine blk_drew ?_ | refine blk_alloc ?_ _)); exact BK742.out) hb); have n1_ := Aside0.mk (below_step (by repeat (first | (with_reducible first | exact HB.out | apply below_alloc | apply pw_below_drewN | apply below_drew1 | refine below_set ?_ GE742.out) | exact HB.out)) hb); clear BK742; clear HB; have BK742 := n0_; have HB := n1_; clear n0_ n1_; (try clear hb); (try clear hb2); (try clear hk); (try clear hi)) | (go_at_call 57; (with_reducible refine (changeoverref23_Rise.calls k _ _ l0 true _ ?side1 ?side2 A11.out).mono ?_); (case side1 => repeat (first | exact (Kd.C_below HR0.out HB.out) | (with_reducible refine Kd.C_alloc ?_ _) | (with_reducible refine Kd.C_drewN ?_ _) | (with_reducible refine Kd.C_drew ?_))); (case side2 => exact HC0.out); rintro e w' ⟨rfl, ⟨nd, rfl⟩⟩; have hcz15_0 : w14.cell? ⟨gb742, 0, none⟩ = some (.int .i64 a1_0) := (blk_cell BK742.out 0).trans rfl; have hcz15_1 : w14.cell? ⟨gb742, 1, none⟩ = some (.int .i64 a1_1) := (blk_cell BK742.out 1).trans rfl; have hcz15_2 : w14.cell? ⟨gb742, 2, none⟩ = some (.int .i64 a1_2) := (blk_cell BK742.out 2).trans rfl; have hcz15_3 : w14.cell? ⟨gb742, 3, none⟩ = some (.string a1_3) := (blk_cell BK742.out 3).trans rfl; have hcz15_4 : w14.cell? ⟨gb742, 4, none⟩ = some (.string a1_4) := (blk_cell BK742.out 4).trans rfl; have hcz15_5 : w14.cell? ⟨gb742, 5, none⟩ = some (.string a1_5) := (blk_cell BK742.out 5).trans rfl; have hcz15_6 : w14.cell? ⟨gb742, 6, none⟩ = some (.int .i64 a1_6) := (blk_cell BK742.out 6).trans rfl; have hfz15_0 := blk_frozen BK742.out 0; have hfz15_1 := blk_frozen BK742.out 1; have hfz15_2 := blk_frozen BK742.out 2; have hfz15_3 := blk_frozen BK742.out 3; have hfz15_4 := blk_frozen BK742.out 4; have hfz15_5 := blk_frozen BK742.out 5; have hfz15_6 := blk_frozen BK742.out 6))
          go_meet
          case rel => exact ⟨_, ((a1_0 == 5)), (by first | rfl | (simp; done) | (simp [*]; done)), H', ⟨by first | omega | exact Nat.le_refl _⟩, ⟨by (with_reducible repeat (first | refine blk_drewN ?_ _ | refine blk_drew ?_ | refine blk_alloc ?_ _)); exact BK742.out⟩, ⟨by repeat (first | (with_reducible first | exact HB.out | apply below_alloc | apply pw_below_drewN | apply below_drew1 | refine below_set ?_ GE742.out) | exact HB.out)⟩⟩
        · replace c12 := Bool.eq_false_iff.mpr c12
          subst c12
          have H1 : (changeoverlaw24_KvtwoOlder.j0 k l0 true a1_0 a1_1 a1_2 a1_3 a1_4 a1_5 a1_6) = some r := by rw [if_neg (show ¬ (false = true) by decide)] at H; exact H
          clear H
          have H := H1
          clear H1
          have H' := Aside0.mk H
          clear H
          go_wp2_with (first | ((with_reducible refine gate_callee (f := 55) rfl ?_); refine goesL_ (some 10) rfl rfl Try.func55 (by kernel_rfl) rfl #[.slice A0 l0.length c0] rfl (by (try simp only [List.map_toArray, List.map_cons, List.map_nil]); first | done | rfl | (simp only [List.length_drop, List.length_take]; rfl)) ?_; (with_reducible refine (changeoverref23_Large.calls k _ _ l0 false _ ?side1 ?side2 A5.out).mono ?_); (case side1 => repeat (first | exact (Kd.C_below HR0.out HB.out) | (with_reducible refine Kd.C_alloc ?_ _) | (with_reducible refine Kd.C_drewN ?_ _) | (with_reducible refine Kd.C_drew ?_))); (case side2 => exact HC0.out); rintro e w' ⟨rfl, ⟨nd, rfl⟩⟩; refine ⟨_, rfl, ?_⟩; have hcz16_0 : w4.cell? ⟨gb742, 0, none⟩ = some (.int .i64 a1_0) := (blk_cell BK742.out 0).trans rfl; have hcz16_1 : w4.cell? ⟨gb742, 1, none⟩ = some (.int .i64 a1_1) := (blk_cell BK742.out 1).trans rfl; have hcz16_2 : w4.cell? ⟨gb742, 2, none⟩ = some (.int .i64 a1_2) := (blk_cell BK742.out 2).trans rfl; have hcz16_3 : w4.cell? ⟨gb742, 3, none⟩ = some (.string a1_3) := (blk_cell BK742.out 3).trans rfl; have hcz16_4 : w4.cell? ⟨gb742, 4, none⟩ = some (.string a1_4) := (blk_cell BK742.out 4).trans rfl; have hcz16_5 : w4.cell? ⟨gb742, 5, none⟩ = some (.string a1_5) := (blk_cell BK742.out 5).trans rfl; have hcz16_6 : w4.cell? ⟨gb742, 6, none⟩ = some (.int .i64 a1_6) := (blk_cell BK742.out 6).trans rfl; have hfz16_0 := blk_frozen BK742.out 0; have hfz16_1 := blk_frozen BK742.out 1; have hfz16_2 := blk_frozen BK742.out 2; have hfz16_3 := blk_frozen BK742.out 3; have hfz16_4 := blk_frozen BK742.out 4; have hfz16_5 := blk_frozen BK742.out 5; have hfz16_6 := blk_frozen BK742.out 6) | (go_at_call 62; (with_reducible refine (changeoverlaw24_large.calls a1_0 a1_1 a1_2 a1_3 a1_4 a1_5 a1_6 false _ A7.out).mono ?_); rintro e w17 ⟨rfl, hb⟩; have n0_ := Aside0.mk (blk_below (g := gb742) (o := .cells #[.int .i64 a1_0, .int .i64 a1_1, .int .i64 a1_2, .string a1_3, .string a1_4, .string a1_5, .int .i64 a1_6] 72 (0, 0)) (by (with_reducible repeat (first | refine blk_drewN ?_ _ | refine blk_drew ?_ | refine blk_alloc ?_ _)); exact BK742.out) hb); have n1_ := Aside0.mk (below_step (by repeat (first | (with_reducible first | exact HB.out | apply below_alloc | apply pw_below_drewN | apply below_drew1 | refine below_set ?_ GE742.out) | exact HB.out)) hb); clear BK742; clear HB; have BK742 := n0_; have HB := n1_; clear n0_ n1_; (try clear hb); (try clear hb2); (try clear hk); (try clear hi)) | (go_at_call 57; (with_reducible refine (changeoverref23_Rise.calls k _ _ l0 false _ ?side1 ?side2 A11.out).mono ?_); (case side1 => repeat (first | exact (Kd.C_below HR0.out HB.out) | (with_reducible refine Kd.C_alloc ?_ _) | (with_reducible refine Kd.C_drewN ?_ _) | (with_reducible refine Kd.C_drew ?_))); (case side2 => exact HC0.out); rintro e w' ⟨rfl, ⟨nd, rfl⟩⟩))
          go_meet
          case rel => exact ⟨_, (true), (by first | rfl | (simp; done) | (simp [*]; done)), H', ⟨by first | omega | exact Nat.le_refl _⟩, ⟨by (with_reducible repeat (first | refine blk_drewN ?_ _ | refine blk_drew ?_ | refine blk_alloc ?_ _)); exact BK742.out⟩, ⟨by repeat (first | (with_reducible first | exact HB.out | apply below_alloc | apply pw_below_drewN | apply below_drew1 | refine below_set ?_ GE742.out) | exact HB.out)⟩⟩
  case rest =>
    clear HC3
    try clear c1
    try clear p2
    try clear c5
    try clear c6
    try clear c8
    try clear c12
    try clear c13
    try clear hcz13_0
    try clear hcz13_1
    try clear hcz13_2
    try clear hcz13_3
    try clear hcz13_4
    try clear hcz13_5
    try clear hcz13_6
    try clear hcz15_0
    try clear hcz15_1
    try clear hcz15_2
    try clear hcz15_3
    try clear hcz15_4
    try clear hcz15_5
    try clear hcz15_6
    try clear hcz16_0
    try clear hcz16_1
    try clear hcz16_2
    try clear hcz16_3
    try clear hcz16_4
    try clear hcz16_5
    try clear hcz16_6
    try clear hcz9_0
    try clear hcz9_1
    try clear hcz9_2
    try clear hcz9_3
    try clear hcz9_4
    try clear hcz9_5
    try clear hcz9_6
    try clear hfz13_0
    try clear hfz13_1
    try clear hfz13_2
    try clear hfz13_3
    try clear hfz13_4
    try clear hfz13_5
    try clear hfz13_6
    try clear hfz15_0
    try clear hfz15_1
    try clear hfz15_2
    try clear hfz15_3
    try clear hfz15_4
    try clear hfz15_5
    try clear hfz15_6
    try clear hfz16_0
    try clear hfz16_1
    try clear hfz16_2
    try clear hfz16_3
    try clear hfz16_4
    try clear hfz16_5
    try clear hfz16_6
    try clear hfz9_0
    try clear hfz9_1
    try clear hfz9_2
    try clear hfz9_3
    try clear hfz9_4
    try clear hfz9_5
    try clear hfz9_6
    obtain ⟨kq, x24_2, rfl, HA, HJ2, BK742, HB⟩ := hcut
    cases kq with
    | zero => exact absurd HA.out (by simp [changeoverlaw24_KvtwoOlder.j0])
    | succ kj2 =>
      have H := HA.out
      clear HA
      simp only [changeoverlaw24_KvtwoOlder.j0] at H
      by_cases c18 : x24_2 = true
      · subst c18
        have H1 : ((changeoverlaw24_awake.f kj2).bind fun t746 => (some t746)) = some r := by rw [if_pos rfl] at H; exact H
        clear H
        have H := H1
        clear H1
        replace H := Option.bind_eq_some_iff.mp H
        obtain ⟨t746, A190, H⟩ := H
        replace H : (some t746) = some r := H
        have A19 := Aside0.mk A190
        clear A190
        obtain rfl := Option.some.inj H
        go_wp2_with (first | ((with_reducible refine gate_callee (f := 63) rfl ?_); refine goesL_ (some 25) rfl rfl Try.func63 (by kernel_rfl) rfl #[] rfl (by (try simp only [List.map_toArray, List.map_cons, List.map_nil]); first | done | rfl | (simp only [List.length_drop, List.length_take]; rfl)) ?_; (with_reducible refine (changeoverlaw24_awake.calls kj2  t746 _ A19.out).mono ?_); rintro e w20 ⟨rfl, hb⟩; refine ⟨_, rfl, ?_⟩; have n0_ := Aside0.mk (blk_below (g := gb742) (o := .cells #[.int .i64 a1_0, .int .i64 a1_1, .int .i64 a1_2, .string a1_3, .string a1_4, .string a1_5, .int .i64 a1_6] 72 (0, 0)) (by (with_reducible repeat (first | refine blk_drewN ?_ _ | refine blk_drew ?_ | refine blk_alloc ?_ _)); exact BK742.out) hb); have n1_ := Aside0.mk (below_step (by repeat (first | (with_reducible first | exact HB.out | apply below_alloc | apply pw_below_drewN | apply below_drew1 | refine below_set ?_ GE742.out) | exact HB.out)) hb); clear BK742; clear HB; have BK742 := n0_; have HB := n1_; clear n0_ n1_; (try clear hb); (try clear hb2); (try clear hk); (try clear hi)))
        go_ret
        exact ⟨by first | rfl | (simp [errW_none, errW_some] <;> rfl) | (simp [*, errW_none, errW_some] <;> rfl), by repeat (first | (with_reducible first | exact HB.out | apply below_alloc | apply pw_below_drewN | apply below_drew1 | refine below_set ?_ GE742.out) | exact HB.out)⟩
      · replace c18 := Bool.eq_false_iff.mpr c18
        subst c18
        have H1 : ((kvtwo_Do.f kj2 l0 a1_0 a1_1 a1_2 a1_3 a1_4 a1_5 a1_6).bind fun bt747 => ((kvtwo_Plain.f kj2 l0).bind fun t757 => ((kvone_Do.f kj2 t757 a1_0 a1_1 a1_2 a1_3 a1_4 a1_5 a1_6).bind fun bt760 => ((kvtwo_Plain.f kj2 bt747.1).bind fun t770 => ((changeoverref23_Same.f kj2 t770 bt760.1).bind fun t773 => (if t773 = true then (if (bt747.2.1 == bt760.2.1 && (bt747.2.2.1 == bt760.2.2.1 && (bt747.2.2.2.1 == bt760.2.2.2.1 && (bt747.2.2.2.2.1 == bt760.2.2.2.2.1 && (bt747.2.2.2.2.2.1.toList == bt760.2.2.2.2.2.1.toList && (bt747.2.2.2.2.2.2 == bt760.2.2.2.2.2.2)))))) = true then ((changeoverlaw24_awake.f kj2).bind fun t774 => (some t774)) else (some false)) else (some false))))))) = some r := by rw [if_neg (show ¬ (false = true) by decide)] at H; exact H
        clear H
        have H := H1
        clear H1
        replace H := Option.bind_eq_some_iff.mp H
        obtain ⟨⟨t747, t750, t751, t752, t753, t754, t755⟩, A210, H⟩ := H
        replace H : ((kvtwo_Plain.f kj2 l0).bind fun t757 => ((kvone_Do.f kj2 t757 a1_0 a1_1 a1_2 a1_3 a1_4 a1_5 a1_6).bind fun bt760 => ((kvtwo_Plain.f kj2 t747).bind fun t770 => ((changeoverref23_Same.f kj2 t770 bt760.1).bind fun t773 => (if t773 = true then (if (t750 == bt760.2.1 && (t751 == bt760.2.2.1 && (t752 == bt760.2.2.2.1 && (t753 == bt760.2.2.2.2.1 && (t754.toList == bt760.2.2.2.2.2.1.toList && (t755 == bt760.2.2.2.2.2.2)))))) = true then ((changeoverlaw24_awake.f kj2).bind fun t774 => (some t774)) else (some false)) else (some false)))))) = some r := H
        have A21 := Aside0.mk A210
        clear A210
        replace H := Option.bind_eq_some_iff.mp H
        obtain ⟨t757, A220, H⟩ := H
        replace H : ((kvone_Do.f kj2 t757 a1_0 a1_1 a1_2 a1_3 a1_4 a1_5 a1_6).bind fun bt760 => ((kvtwo_Plain.f kj2 t747).bind fun t770 => ((changeoverref23_Same.f kj2 t770 bt760.1).bind fun t773 => (if t773 = true then (if (t750 == bt760.2.1 && (t751 == bt760.2.2.1 && (t752 == bt760.2.2.2.1 && (t753 == bt760.2.2.2.2.1 && (t754.toList == bt760.2.2.2.2.2.1.toList && (t755 == bt760.2.2.2.2.2.2)))))) = true then ((changeoverlaw24_awake.f kj2).bind fun t774 => (some t774)) else (some false)) else (some false))))) = some r := H
        have A22 := Aside0.mk A220
        clear A220
        replace H := Option.bind_eq_some_iff.mp H
        obtain ⟨⟨t760, t763, t764, t765, t766, t767, t768⟩, A230, H⟩ := H
        replace H : ((kvtwo_Plain.f kj2 t747).bind fun t770 => ((changeoverref23_Same.f kj2 t770 t760).bind fun t773 => (if t773 = true then (if (t750 == t763 && (t751 == t764 && (t752 == t765 && (t753 == t766 && (t754.toList == t767.toList && (t755 == t768)))))) = true then ((changeoverlaw24_awake.f kj2).bind fun t774 => (some t774)) else (some false)) else (some false)))) = some r := H
        have A23 := Aside0.mk A230
        clear A230
        replace H := Option.bind_eq_some_iff.mp H
        obtain ⟨t770, A240, H⟩ := H
        replace H : ((changeoverref23_Same.f kj2 t770 t760).bind fun t773 => (if t773 = true then (if (t750 == t763 && (t751 == t764 && (t752 == t765 && (t753 == t766 && (t754.toList == t767.toList && (t755 == t768)))))) = true then ((changeoverlaw24_awake.f kj2).bind fun t774 => (some t774)) else (some false)) else (some false))) = some r := H
        have A24 := Aside0.mk A240
        clear A240
        replace H := Option.bind_eq_some_iff.mp H
        obtain ⟨t773, A250, H⟩ := H
        replace H : (if t773 = true then (if (t750 == t763 && (t751 == t764 && (t752 == t765 && (t753 == t766 && (t754.toList == t767.toList && (t755 == t768)))))) = true then ((changeoverlaw24_awake.f kj2).bind fun t774 => (some t774)) else (some false)) else (some false)) = some r := H
        have A25 := Aside0.mk A250
        clear A250
        by_cases c26 : t773 = true
        · subst c26
          have H1 : (if (t750 == t763 && (t751 == t764 && (t752 == t765 && (t753 == t766 && (t754.toList == t767.toList && (t755 == t768)))))) = true then ((changeoverlaw24_awake.f kj2).bind fun t774 => (some t774)) else (some false)) = some r := by rw [if_pos rfl] at H; exact H
          clear H
          have H := H1
          clear H1
          by_cases c27 : (t750 == t763 && (t751 == t764 && (t752 == t765 && (t753 == t766 && (t754.toList == t767.toList && (t755 == t768)))))) = true
          · rw [if_pos c27] at H
            have c27b0 : (t750 == t763 && (t751 == t764 && (t752 == t765 && (t753 == t766 && (t754.toList == t767.toList && (t755 == t768)))))) = true := c27
            (try (have c27b1 : decide (t750 = t763 && (t751 == t764 && (t752 == t765 && (t753 == t766 && (t754.toList == t767.toList && (t755 == t768)))))) = true := by simpa using c27))
            (try (have c27b2 : (t750 == t763 && (t751 == t764 && (t752 == t765 && (t753 == t766 && (t754.toList == t767.toList && (t755 == t768)))))) = true := by simpa using c27))
            clear c27
            replace H := Option.bind_eq_some_iff.mp H
            obtain ⟨t774, A280, H⟩ := H
            replace H : (some t774) = some r := H
            have A28 := Aside0.mk A280
            clear A280
            obtain rfl := Option.some.inj H
            have hcz29_0 : wc.cell? ⟨gb742, 0, none⟩ = some (.int .i64 a1_0) := (blk_cell BK742.out 0).trans rfl
            have hcz29_1 : wc.cell? ⟨gb742, 1, none⟩ = some (.int .i64 a1_1) := (blk_cell BK742.out 1).trans rfl
            have hcz29_2 : wc.cell? ⟨gb742, 2, none⟩ = some (.int .i64 a1_2) := (blk_cell BK742.out 2).trans rfl
            have hcz29_3 : wc.cell? ⟨gb742, 3, none⟩ = some (.string a1_3) := (blk_cell BK742.out 3).trans rfl
            have hcz29_4 : wc.cell? ⟨gb742, 4, none⟩ = some (.string a1_4) := (blk_cell BK742.out 4).trans rfl
            have hcz29_5 : wc.cell? ⟨gb742, 5, none⟩ = some (.string a1_5) := (blk_cell BK742.out 5).trans rfl
            have hcz29_6 : wc.cell? ⟨gb742, 6, none⟩ = some (.int .i64 a1_6) := (blk_cell BK742.out 6).trans rfl
            have hfz29_0 := blk_frozen BK742.out 0
            have hfz29_1 := blk_frozen BK742.out 1
            have hfz29_2 := blk_frozen BK742.out 2
            have hfz29_3 := blk_frozen BK742.out 3
            have hfz29_4 := blk_frozen BK742.out 4
            have hfz29_5 := blk_frozen BK742.out 5
            have hfz29_6 := blk_frozen BK742.out 6
            try go_wp2_with (first | ((with_reducible refine gate_callee (f := 64) rfl ?_); refine goesL_ (some 29) rfl rfl Try.func64 (by kernel_rfl) rfl #[.slice A0 l0.length c0, .agg #[.int .i64 a1_0, .int .i64 a1_1, .int .i64 a1_2, .string a1_3, .string a1_4, .string a1_5, .int .i64 a1_6]] rfl (by (try simp only [List.map_toArray, List.map_cons, List.map_nil]); first | done | rfl | (simp only [List.length_drop, List.length_take]; rfl)) ?_; (with_reducible refine (kvtwo_Do.calls kj2 _ _ l0 a1_0 a1_1 a1_2 a1_3 a1_4 a1_5 a1_6 t747 t750 t751 t752 t753 t754 t755 _ ?side1 ?side2 A21.out).mono ?_); (case side1 => repeat (first | exact (Kd.C_below HR0.out HB.out) | (with_reducible refine Kd.C_alloc ?_ _) | (with_reducible refine Kd.C_drewN ?_ _) | (with_reducible refine Kd.C_drew ?_))); (case side2 => exact HC0.out); rintro e w30 ⟨v748, rfl, ho0, hb⟩; refine ⟨_, rfl, ?_⟩; have n0_ := Aside0.mk (Kd.R_lower ho0 (below_size (by repeat (first | (with_reducible first | exact HB.out | apply below_alloc | apply pw_below_drewN | apply below_drew1 | refine below_set ?_ GE742.out) | exact HB.out)))); have n1_ := Aside0.mk (blk_below (g := gb742) (o := .cells #[.int .i64 a1_0, .int .i64 a1_1, .int .i64 a1_2, .string a1_3, .string a1_4, .string a1_5, .int .i64 a1_6] 72 (0, 0)) (by (with_reducible repeat (first | refine blk_drewN ?_ _ | refine blk_drew ?_ | refine blk_alloc ?_ _)); exact BK742.out) hb); have n2_ := Aside0.mk (below_step (by repeat (first | (with_reducible first | exact HB.out | apply below_alloc | apply pw_below_drewN | apply below_drew1 | refine below_set ?_ GE742.out) | exact HB.out)) hb); clear BK742; clear HB; have HO749 := n0_; have BK742 := n1_; have HB := n2_; clear n0_ n1_ n2_; (try clear hb); (try clear hb2); (try clear hk); (try clear hi); (try clear ho0)) | ((with_reducible refine gate_dst (N := 6) rfl ?_); refine box_event ?hg (N := 6) ?hd (cs := #[.int .i64 0, .int .i64 0, .int .i64 0, .bool false, .string (⟨#[]⟩ : ByteArray), .int .i64 0]) (t := 60) ?hr ?_; (case hd => rfl); (case hg => rfl); (case hr => first | (go_simp; done) | (go_simp; rfl)); intro gb756 hg w31 hbox hb; have n0_ := Aside0.mk (Kd.R_below (by (with_reducible repeat (first | apply Kd.R_alloc | apply Kd.R_drewN | apply Kd.R_drew)); exact HO749.out) hb); have n1_ := Aside0.mk (blk_below (g := gb742) (o := .cells #[.int .i64 a1_0, .int .i64 a1_1, .int .i64 a1_2, .string a1_3, .string a1_4, .string a1_5, .int .i64 a1_6] 72 (0, 0)) (by (with_reducible repeat (first | refine blk_drewN ?_ _ | refine blk_drew ?_ | refine blk_alloc ?_ _)); exact BK742.out) hb); have n2_ := Aside0.mk (below_step (by repeat (first | (with_reducible first | exact HB.out | apply below_alloc | apply pw_below_drewN | apply below_drew1 | refine below_set ?_ GE742.out) | exact HB.out)) hb); have n3_ := Aside0.mk (hbox); have n4_ := Aside0.mk ((by rw [hg]; exact (below_size (by repeat (first | (with_reducible first | exact HB.out | apply below_alloc | apply pw_below_drewN | apply below_drew1 | refine below_set ?_ GE742.out) | exact HB.out))) : w.heap.size ≤ gb756)); have n5_ := Aside0.mk ((by rw [hg]; exact (below_size (by repeat (first | (with_reducible first | exact HB.out | apply below_alloc | apply pw_below_drewN | apply below_drew1 | refine below_set ?_ GE742.out) | exact HB.out))) : w.heap.size ≤ gb756)); have n6_ := Aside0.mk ((by rw [hg]; exact Nat.ne_of_lt (blk_lt (g := gb742) (o := .cells #[.int .i64 a1_0, .int .i64 a1_1, .int .i64 a1_2, .string a1_3, .string a1_4, .string a1_5, .int .i64 a1_6] 72 (0, 0)) (by (with_reducible repeat (first | refine blk_drewN ?_ _ | refine blk_drew ?_ | refine blk_alloc ?_ _)); exact BK742.out)) : gb742 ≠ gb756)); have n7_ := Aside0.mk ((by rw [hg]; exact Nat.ne_of_gt (blk_lt (g := gb742) (o := .cells #[.int .i64 a1_0, .int .i64 a1_1, .int .i64 a1_2, .string a1_3, .string a1_4, .string a1_5, .int .i64 a1_6] 72 (0, 0)) (by (with_reducible repeat (first | refine blk_drewN ?_ _ | refine blk_drew ?_ | refine blk_alloc ?_ _)); exact BK742.out)) : gb756 ≠ gb742)); clear HO749; clear BK742; clear HB; have HO749 := n0_; have BK742 := n1_; have HB := n2_; have BK756 := n3_; have GW756 := n4_; have GE756 := n5_; have NB742_756 := n6_; have NB756_742 := n7_; clear n0_ n1_ n2_ n3_ n4_ n5_ n6_ n7_; clear hb hbox hg; have hnb32 := NB756_742.out; have hnc32 := NB742_756.out; have hcz33_0 : w31.cell? ⟨gb756, 0, none⟩ = some (.int .i64 0) := (blk_cell BK756.out 0).trans rfl; have hcz33_1 : w31.cell? ⟨gb756, 1, none⟩ = some (.int .i64 0) := (blk_cell BK756.out 1).trans rfl; have hcz33_2 : w31.cell? ⟨gb756, 2, none⟩ = some (.int .i64 0) := (blk_cell BK756.out 2).trans rfl; have hcz33_3 : w31.cell? ⟨gb756, 3, none⟩ = some (.bool false) := (blk_cell BK756.out 3).trans rfl; have hcz33_4 : w31.cell? ⟨gb756, 4, none⟩ = some (.string (⟨#[]⟩ : ByteArray)) := (blk_cell BK756.out 4).trans rfl; have hcz33_5 : w31.cell? ⟨gb756, 5, none⟩ = some (.int .i64 0) := (blk_cell BK756.out 5).trans rfl; have hfz33_0 := blk_frozen BK756.out 0; have hfz33_1 := blk_frozen BK756.out 1; have hfz33_2 := blk_frozen BK756.out 2; have hfz33_3 := blk_frozen BK756.out 3; have hfz33_4 := blk_frozen BK756.out 4; have hfz33_5 := blk_frozen BK756.out 5))
            have n0_ : Aside0 (Kd.R k78 78 ((((((w31.setCell ⟨gb756, 0, none⟩ (.int .i64 t750)).setCell ⟨gb756, 1, none⟩ (.int .i64 t751)).setCell ⟨gb756, 2, none⟩ (.int .i64 t752)).setCell ⟨gb756, 3, none⟩ (.bool t753)).setCell ⟨gb756, 4, none⟩ (.string t754)).setCell ⟨gb756, 5, none⟩ (.int .i64 t755)) w.heap.size (fun _ => True) v748 t747) := ⟨by (with_reducible repeat (first | apply Kd.R_alloc | apply Kd.R_drewN | apply Kd.R_drew)); exact Kd.R_mono (Kd.R_far (p := ⟨gb756, 5, none⟩) (Kd.R_far (p := ⟨gb756, 4, none⟩) (Kd.R_far (p := ⟨gb756, 3, none⟩) (Kd.R_far (p := ⟨gb756, 2, none⟩) (Kd.R_far (p := ⟨gb756, 1, none⟩) (Kd.R_far (p := ⟨gb756, 0, none⟩) (Kd.R_types HO749.out BK756.out (by decide)) (fun _ hk => hk.2) (.int .i64 t750)) (fun _ hk => hk.2) (.int .i64 t751)) (fun _ hk => hk.2) (.int .i64 t752)) (fun _ hk => hk.2) (.bool t753)) (fun _ hk => hk.2) (.string t754)) (fun _ hk => hk.2) (.int .i64 t755)) (fun _ hk => trivial)⟩
            have n1_ : Aside0 (((((((w31.setCell ⟨gb756, 0, none⟩ (.int .i64 t750)).setCell ⟨gb756, 1, none⟩ (.int .i64 t751)).setCell ⟨gb756, 2, none⟩ (.int .i64 t752)).setCell ⟨gb756, 3, none⟩ (.bool t753)).setCell ⟨gb756, 4, none⟩ (.string t754)).setCell ⟨gb756, 5, none⟩ (.int .i64 t755)).heap[gb742]? = some (.cells #[.int .i64 a1_0, .int .i64 a1_1, .int .i64 a1_2, .string a1_3, .string a1_4, .string a1_5, .int .i64 a1_6] 72 (0, 0))) := ⟨by (with_reducible repeat (first | refine blk_drewN ?_ _ | refine blk_drew ?_ | refine blk_alloc ?_ _)); refine blk_far ?_ NB742_756.out _; (with_reducible repeat (first | refine blk_drewN ?_ _ | refine blk_drew ?_ | refine blk_alloc ?_ _)); refine blk_far ?_ NB742_756.out _; (with_reducible repeat (first | refine blk_drewN ?_ _ | refine blk_drew ?_ | refine blk_alloc ?_ _)); refine blk_far ?_ NB742_756.out _; (with_reducible repeat (first | refine blk_drewN ?_ _ | refine blk_drew ?_ | refine blk_alloc ?_ _)); refine blk_far ?_ NB742_756.out _; (with_reducible repeat (first | refine blk_drewN ?_ _ | refine blk_drew ?_ | refine blk_alloc ?_ _)); refine blk_far ?_ NB742_756.out _; (with_reducible repeat (first | refine blk_drewN ?_ _ | refine blk_drew ?_ | refine blk_alloc ?_ _)); refine blk_far ?_ NB742_756.out _; (with_reducible repeat (first | refine blk_drewN ?_ _ | refine blk_drew ?_ | refine blk_alloc ?_ _)); exact BK742.out⟩
            have n2_ : Aside0 (((((((w31.setCell ⟨gb756, 0, none⟩ (.int .i64 t750)).setCell ⟨gb756, 1, none⟩ (.int .i64 t751)).setCell ⟨gb756, 2, none⟩ (.int .i64 t752)).setCell ⟨gb756, 3, none⟩ (.bool t753)).setCell ⟨gb756, 4, none⟩ (.string t754)).setCell ⟨gb756, 5, none⟩ (.int .i64 t755)).heap[gb756]? = some (.cells #[.int .i64 t750, .int .i64 t751, .int .i64 t752, .bool t753, .string t754, .int .i64 t755] 60 (0, 0))) := ⟨by (with_reducible repeat (first | refine blk_drewN ?_ _ | refine blk_drew ?_ | refine blk_alloc ?_ _)); refine blk_put (cs := #[.int .i64 t750, .int .i64 t751, .int .i64 t752, .bool t753, .string t754, .int .i64 0]) ?_ 5 _ rfl; (with_reducible repeat (first | refine blk_drewN ?_ _ | refine blk_drew ?_ | refine blk_alloc ?_ _)); refine blk_put (cs := #[.int .i64 t750, .int .i64 t751, .int .i64 t752, .bool t753, .string (⟨#[]⟩ : ByteArray), .int .i64 0]) ?_ 4 _ rfl; (with_reducible repeat (first | refine blk_drewN ?_ _ | refine blk_drew ?_ | refine blk_alloc ?_ _)); refine blk_put (cs := #[.int .i64 t750, .int .i64 t751, .int .i64 t752, .bool false, .string (⟨#[]⟩ : ByteArray), .int .i64 0]) ?_ 3 _ rfl; (with_reducible repeat (first | refine blk_drewN ?_ _ | refine blk_drew ?_ | refine blk_alloc ?_ _)); refine blk_put (cs := #[.int .i64 t750, .int .i64 t751, .int .i64 0, .bool false, .string (⟨#[]⟩ : ByteArray), .int .i64 0]) ?_ 2 _ rfl; (with_reducible repeat (first | refine blk_drewN ?_ _ | refine blk_drew ?_ | refine blk_alloc ?_ _)); refine blk_put (cs := #[.int .i64 t750, .int .i64 0, .int .i64 0, .bool false, .string (⟨#[]⟩ : ByteArray), .int .i64 0]) ?_ 1 _ rfl; (with_reducible repeat (first | refine blk_drewN ?_ _ | refine blk_drew ?_ | refine blk_alloc ?_ _)); refine blk_put (cs := #[.int .i64 0, .int .i64 0, .int .i64 0, .bool false, .string (⟨#[]⟩ : ByteArray), .int .i64 0]) ?_ 0 _ rfl; (with_reducible repeat (first | refine blk_drewN ?_ _ | refine blk_drew ?_ | refine blk_alloc ?_ _)); exact BK756.out⟩
            have n3_ : Aside0 (Below w.heap.size w ((((((w31.setCell ⟨gb756, 0, none⟩ (.int .i64 t750)).setCell ⟨gb756, 1, none⟩ (.int .i64 t751)).setCell ⟨gb756, 2, none⟩ (.int .i64 t752)).setCell ⟨gb756, 3, none⟩ (.bool t753)).setCell ⟨gb756, 4, none⟩ (.string t754)).setCell ⟨gb756, 5, none⟩ (.int .i64 t755))) := ⟨by repeat (first | (with_reducible first | exact HB.out | apply below_alloc | apply pw_below_drewN | apply below_drew1 | refine below_set ?_ GE742.out | refine below_set ?_ GE756.out) | exact HB.out)⟩
            (try clear HO749)
            (try clear BK742)
            (try clear BK756)
            (try clear HB)
            generalize ((((((w31.setCell ⟨gb756, 0, none⟩ (.int .i64 t750)).setCell ⟨gb756, 1, none⟩ (.int .i64 t751)).setCell ⟨gb756, 2, none⟩ (.int .i64 t752)).setCell ⟨gb756, 3, none⟩ (.bool t753)).setCell ⟨gb756, 4, none⟩ (.string t754)).setCell ⟨gb756, 5, none⟩ (.int .i64 t755)) = w34 at n0_ n1_ n2_ n3_ ⊢
            have HO749 := n0_
            have BK742 := n1_
            have BK756 := n2_
            have HB := n3_
            clear n0_ n1_ n2_ n3_
            have n0_ := Aside0.mk (Kd.R_drew HO749.out)
            have n1_ := Aside0.mk (blk_drew BK742.out)
            have n2_ := Aside0.mk (blk_drew BK756.out)
            have n3_ := Aside0.mk (below_drew1 HB.out)
            clear HO749
            clear BK742
            clear BK756
            clear HB
            have HO749 := n0_
            have BK742 := n1_
            have BK756 := n2_
            have HB := n3_
            clear n0_ n1_ n2_ n3_
            refine start_ (n := 10) (S := fun w' => w'.cell? ⟨gb742, 0, none⟩ = some (.int .i64 a1_0) ∧ w'.cell? ⟨gb742, 1, none⟩ = some (.int .i64 a1_1) ∧ w'.cell? ⟨gb742, 2, none⟩ = some (.int .i64 a1_2) ∧ w'.cell? ⟨gb742, 3, none⟩ = some (.string a1_3) ∧ w'.cell? ⟨gb742, 4, none⟩ = some (.string a1_4) ∧ w'.cell? ⟨gb742, 5, none⟩ = some (.string a1_5) ∧ w'.cell? ⟨gb742, 6, none⟩ = some (.int .i64 a1_6)) (ds := []) #[false, false, false, false, false, false, false, false, false, false] (by kernel_rfl) rfl rfl ⟨(blk_cell BK742.out 0).trans rfl, (blk_cell BK742.out 1).trans rfl, (blk_cell BK742.out 2).trans rfl, (blk_cell BK742.out 3).trans rfl, (blk_cell BK742.out 4).trans rfl, (blk_cell BK742.out 5).trans rfl, (blk_cell BK742.out 6).trans rfl⟩ (fun hHeld => ?_); refine with_tabW changeoverlaw24_KvtwoOlder.tab4 changeoverlaw24_KvtwoOlder.bits4 (fun HT_ HW_ => ?_)
            generalize w34.drew = w35 at HO749 BK742 BK756 HB hHeld ⊢
            refine pure_ (i := 0) (N := some 33) (v := ?_) (a' := ?_) #[true, false, false, false, false, false, false, false, false, false] rfl rfl (any_of HT_.out (by kernel_rfl)) (fun _ _ _ h => h) (Or.inl ⟨by rfl, ?_⟩) ?_ ?_
            rotate_left
            · intro w'
              go_simp
              with_reducible rfl
            rotate_left
            · simp only [Act.put, List.setIfInBounds_toArray, List.set_cons_zero, List.set_cons_succ, i64_w, i32_w]
              rfl
            refine take_ (i := 2) (N := some 35) (v := ?_) (a' := ?_) #[true, false, true, false, false, false, false, false, false, false] rfl rfl (take_ofW HT_.out HW_.out (by kernel_rfl)) (fun _ _ _ h => h) (Or.inl ⟨by rfl, ?_⟩) hHeld ?_ ?_
            rotate_left
            · rintro w' ⟨s0, s1, s2, s3, s4, s5, s6⟩
              go_simp
              with_reducible rfl
            rotate_left
            · simp only [Act.put, List.setIfInBounds_toArray, List.set_cons_zero, List.set_cons_succ, i64_w, i32_w]
              rfl
            refine join_ (σ := Value × Value × Nat) 2 #[true, true, true, true, true, true, true, true, false, false] (fun s_ => [(34, s_.1), (36, .tuple #[s_.2.1, .agg #[.int .i64 t763, .int .i64 t764, .int .i64 t765, .bool t766, .string t767, .int .i64 t768]]), (8, .pointer (some ⟨s_.2.2, 0, none⟩)), (32, .tuple #[s_.2.1, .agg #[.int .i64 t763, .int .i64 t764, .int .i64 t765, .bool t766, .string t767, .int .i64 t768]]), (37, s_.2.1), (38, .agg #[.int .i64 t763, .int .i64 t764, .int .i64 t765, .bool t766, .string t767, .int .i64 t768])]) (fun s_ w' => (w'.cell? ⟨gb742, 0, none⟩ = some (.int .i64 a1_0) ∧ w'.cell? ⟨gb742, 1, none⟩ = some (.int .i64 a1_1) ∧ w'.cell? ⟨gb742, 2, none⟩ = some (.int .i64 a1_2) ∧ w'.cell? ⟨gb742, 3, none⟩ = some (.string a1_3) ∧ w'.cell? ⟨gb742, 4, none⟩ = some (.string a1_4) ∧ w'.cell? ⟨gb742, 5, none⟩ = some (.string a1_5) ∧ w'.cell? ⟨gb742, 6, none⟩ = some (.int .i64 a1_6)) ∧ (Kd.R k78 78 w' w.heap.size (fun k_ => some k_ ≠ (s_.1 : Value).ownBlock ∧ some k_ ≠ (s_.2.1 : Value).ownBlock) v748 t747) ∧ (Kd.R k78 78 w' w.heap.size (fun k_ => some k_ ≠ (v748 : Value).ownBlock ∧ some k_ ≠ (s_.2.1 : Value).ownBlock) s_.1 t757) ∧ (Kd.R k78 78 w' w.heap.size (fun k_ => some k_ ≠ (v748 : Value).ownBlock ∧ some k_ ≠ (s_.1 : Value).ownBlock) s_.2.1 t760) ∧ (w'.heap[gb742]? = some (.cells #[.int .i64 a1_0, .int .i64 a1_1, .int .i64 a1_2, .string a1_3, .string a1_4, .string a1_5, .int .i64 a1_6] 72 (0, 0))) ∧ (w'.heap[gb756]? = some (.cells #[.int .i64 t750, .int .i64 t751, .int .i64 t752, .bool t753, .string t754, .int .i64 t755] 60 (0, 0))) ∧ (w'.heap[s_.2.2]? = some (.cells #[.int .i64 0, .int .i64 0, .int .i64 0, .bool false, .string (⟨#[]⟩ : ByteArray), .int .i64 0] 60 (0, 0))) ∧ (w.heap.size ≤ s_.2.2) ∧ (w.heap.size ≤ s_.2.2) ∧ (gb742 ≠ s_.2.2) ∧ (s_.2.2 ≠ gb742) ∧ (gb756 ≠ s_.2.2) ∧ (s_.2.2 ≠ gb756) ∧ (Below w.heap.size w w')) ?_ ?_
            rotate_left
            · intro hCont
              refine two_ (i := 1) (j := 7) (Ni := some 34) (Nj := some 8) #[true, true, true, false, false, false, false, false, false, false] #[true, false, true, false, false, false, false, true, false, false] rfl rfl rfl rfl (two_of HT_.out (by kernel_rfl)) (by decide) (by decide) (fun K hK => ?_) (fun K hK => ?_)
              · skip
                refine goes_ Try.func71 (by kernel_rfl) rfl #[.slice A0 l0.length c0] (by rfl) rfl rfl (by (try simp only [List.map_toArray, List.map_cons, List.map_nil]); first | done | rfl | (simp only [List.length_drop, List.length_take]; rfl)) ?_
                with_reducible refine (kvtwo_Plain.calls kj2 _ _ l0 t757 _ ?side1 ?side2 A22.out).mono ?_
                (case side1 => repeat (first | exact (Kd.C_below HR0.out HB.out) | (with_reducible refine Kd.C_alloc ?_ _) | (with_reducible refine Kd.C_drewN ?_ _) | (with_reducible refine Kd.C_drew ?_)))
                (case side2 => exact HC0.out)
                rintro e w36 ⟨v758, rfl, ho0, hb⟩
                refine ⟨_, rfl, ?_⟩
                have n0_ := Aside0.mk (Kd.R_elder' (by (with_reducible repeat (first | apply Kd.R_alloc | apply Kd.R_drewN | apply Kd.R_drew)); exact HO749.out) (Kd.R_base ho0) hb)
                have n1_ := Aside0.mk (Kd.R_lower (Kd.R_new' ho0 (Kd.R_lt (by (with_reducible repeat (first | apply Kd.R_alloc | apply Kd.R_drewN | apply Kd.R_drew)); exact HO749.out))) (below_size (by repeat (first | (with_reducible first | exact HB.out | apply below_alloc | apply pw_below_drewN | apply below_drew1 | refine below_set ?_ GE742.out | refine below_set ?_ GE756.out) | exact HB.out))))
                have n2_ := Aside0.mk (blk_below (g := gb742) (o := .cells #[.int .i64 a1_0, .int .i64 a1_1, .int .i64 a1_2, .string a1_3, .string a1_4, .string a1_5, .int .i64 a1_6] 72 (0, 0)) (by (with_reducible repeat (first | refine blk_drewN ?_ _ | refine blk_drew ?_ | refine blk_alloc ?_ _)); exact BK742.out) hb)
                have n3_ := Aside0.mk (blk_below (g := gb756) (o := .cells #[.int .i64 t750, .int .i64 t751, .int .i64 t752, .bool t753, .string t754, .int .i64 t755] 60 (0, 0)) (by (with_reducible repeat (first | refine blk_drewN ?_ _ | refine blk_drew ?_ | refine blk_alloc ?_ _)); exact BK756.out) hb)
                have n4_ := Aside0.mk (below_step (by repeat (first | (with_reducible first | exact HB.out | apply below_alloc | apply pw_below_drewN | apply below_drew1 | refine below_set ?_ GE742.out | refine below_set ?_ GE756.out) | exact HB.out)) hb)
                clear HO749
                clear BK742
                clear BK756
                clear HB
                have HO749 := n0_
                have HO759 := n1_
                have BK742 := n2_
                have BK756 := n3_
                have HB := n4_
                clear n0_ n1_ n2_ n3_ n4_
                (try clear hb)
                (try clear hb2)
                (try clear hk)
                (try clear hi)
                (try clear ho0)
                obtain ⟨Ao37, co37, eo37⟩ := Kd.R_slice HO759.out
                (first | subst eo37 | (injection eo37 with f1_ f2_ f3_; have f4_ := f1_.symm; have f5_ := f3_.symm; clear f1_ f2_ f3_; subst f4_; subst f5_))
                refine hK.out _ _ ⟨(blk_cell BK742.out 0).trans rfl, (blk_cell BK742.out 1).trans rfl, (blk_cell BK742.out 2).trans rfl, (blk_cell BK742.out 3).trans rfl, (blk_cell BK742.out 4).trans rfl, (blk_cell BK742.out 5).trans rfl, (blk_cell BK742.out 6).trans rfl⟩ (fun hHeld => ?_)
                clear hK K
                refine norm_ (a' := ?_) ?_ ?_
                rotate_left
                · show Act.put _ (some 34) _ = _
                  simp only [Act.put, List.setIfInBounds_toArray, List.set_cons_zero, List.set_cons_succ, i64_w, i32_w]
                  rfl
                refine two_ (i := 3) (j := 7) (Ni := some 36) (Nj := some 8) #[true, true, true, true, false, false, false, false, false, false] #[true, true, true, false, false, false, false, true, false, false] rfl rfl rfl rfl (two_of HT_.out (by kernel_rfl)) (by decide) (by decide) (fun K hK => ?_) (fun K hK => ?_)
                · skip
                  refine goes_ Try.func59 (by kernel_rfl) rfl #[.slice Ao37 t757.length co37, .agg #[.int .i64 a1_0, .int .i64 a1_1, .int .i64 a1_2, .string a1_3, .string a1_4, .string a1_5, .int .i64 a1_6]] (by rfl) rfl rfl (by (try simp only [List.map_toArray, List.map_cons, List.map_nil]); first | done | rfl | (simp only [List.length_drop, List.length_take]; rfl)) ?_
                  with_reducible refine (kvone_Do.calls kj2 _ _ t757 a1_0 a1_1 a1_2 a1_3 a1_4 a1_5 a1_6 t760 t763 t764 t765 t766 t767 t768 _ ?side1 ?side2 A23.out).mono ?_
                  (case side1 => repeat (first | exact (Kd.R_reads' HO759.out).2.2 | (with_reducible refine Kd.C_alloc ?_ _) | (with_reducible refine Kd.C_drewN ?_ _) | (with_reducible refine Kd.C_drew ?_)))
                  (case side2 => exact (Kd.R_reads' HO759.out).2.1)
                  rintro e w38 ⟨v761, rfl, ho0, hb⟩
                  refine ⟨_, rfl, ?_⟩
                  have n0_ := Aside0.mk (Kd.R_elder' (by (with_reducible repeat (first | apply Kd.R_alloc | apply Kd.R_drewN | apply Kd.R_drew)); exact HO749.out) (Kd.R_base ho0) hb)
                  have n1_ := Aside0.mk (Kd.R_elder' (by (with_reducible repeat (first | apply Kd.R_alloc | apply Kd.R_drewN | apply Kd.R_drew)); exact HO759.out) (Kd.R_base ho0) hb)
                  have n2_ := Aside0.mk (Kd.R_lower (Kd.R_new' (Kd.R_new' ho0 (Kd.R_lt (by (with_reducible repeat (first | apply Kd.R_alloc | apply Kd.R_drewN | apply Kd.R_drew)); exact HO749.out))) (Kd.R_lt (by (with_reducible repeat (first | apply Kd.R_alloc | apply Kd.R_drewN | apply Kd.R_drew)); exact HO759.out))) (below_size (by repeat (first | (with_reducible first | exact HB.out | apply below_alloc | apply pw_below_drewN | apply below_drew1 | refine below_set ?_ GE742.out | refine below_set ?_ GE756.out) | exact HB.out))))
                  have n3_ := Aside0.mk (blk_below (g := gb742) (o := .cells #[.int .i64 a1_0, .int .i64 a1_1, .int .i64 a1_2, .string a1_3, .string a1_4, .string a1_5, .int .i64 a1_6] 72 (0, 0)) (by (with_reducible repeat (first | refine blk_drewN ?_ _ | refine blk_drew ?_ | refine blk_alloc ?_ _)); exact BK742.out) hb)
                  have n4_ := Aside0.mk (blk_below (g := gb756) (o := .cells #[.int .i64 t750, .int .i64 t751, .int .i64 t752, .bool t753, .string t754, .int .i64 t755] 60 (0, 0)) (by (with_reducible repeat (first | refine blk_drewN ?_ _ | refine blk_drew ?_ | refine blk_alloc ?_ _)); exact BK756.out) hb)
                  have n5_ := Aside0.mk (below_step (by repeat (first | (with_reducible first | exact HB.out | apply below_alloc | apply pw_below_drewN | apply below_drew1 | refine below_set ?_ GE742.out | refine below_set ?_ GE756.out) | exact HB.out)) hb)
                  clear HO749
                  clear HO759
                  clear BK742
                  clear BK756
                  clear HB
                  have HO749 := n0_
                  have HO759 := n1_
                  have HO762 := n2_
                  have BK742 := n3_
                  have BK756 := n4_
                  have HB := n5_
                  clear n0_ n1_ n2_ n3_ n4_ n5_
                  (try clear hb)
                  (try clear hb2)
                  (try clear hk)
                  (try clear hi)
                  (try clear ho0)
                  refine hK.out _ _ ⟨(blk_cell BK742.out 0).trans rfl, (blk_cell BK742.out 1).trans rfl, (blk_cell BK742.out 2).trans rfl, (blk_cell BK742.out 3).trans rfl, (blk_cell BK742.out 4).trans rfl, (blk_cell BK742.out 5).trans rfl, (blk_cell BK742.out 6).trans rfl⟩ (fun hHeld => ?_)
                  clear hK K
                  refine norm_ (a' := ?_) ?_ ?_
                  rotate_left
                  · show Act.put _ (some 36) _ = _
                    simp only [Act.put, List.setIfInBounds_toArray, List.set_cons_zero, List.set_cons_succ, i64_w, i32_w]
                    rfl
                  refine pure_ (i := 4) (N := some 32) (v := ?_) (a' := ?_) #[true, true, true, true, true, false, false, false, false, false] rfl rfl (any_of HT_.out (by kernel_rfl)) (fun _ _ _ h => h) (Or.inl ⟨by rfl, ?_⟩) ?_ ?_
                  rotate_left
                  · intro w'
                    go_simp
                    with_reducible rfl
                  rotate_left
                  · simp only [Act.put, List.setIfInBounds_toArray, List.set_cons_zero, List.set_cons_succ, i64_w, i32_w]
                    rfl
                  refine pure_ (i := 5) (N := some 37) (v := ?_) (a' := ?_) #[true, true, true, true, true, true, false, false, false, false] rfl rfl (any_of HT_.out (by kernel_rfl)) (fun _ _ _ h => h) (Or.inl ⟨by rfl, ?_⟩) ?_ ?_
                  rotate_left
                  · intro w'
                    go_simp
                    with_reducible rfl
                  rotate_left
                  · simp only [Act.put, List.setIfInBounds_toArray, List.set_cons_zero, List.set_cons_succ, i64_w, i32_w]
                    rfl
                  refine pure_ (i := 6) (N := some 38) (v := ?_) (a' := ?_) #[true, true, true, true, true, true, true, false, false, false] rfl rfl (any_of HT_.out (by kernel_rfl)) (fun _ _ _ h => h) (Or.inl ⟨by rfl, ?_⟩) ?_ ?_
                  rotate_left
                  · intro w'
                    go_simp
                    with_reducible rfl
                  rotate_left
                  · simp only [Act.put, List.setIfInBounds_toArray, List.set_cons_zero, List.set_cons_succ, i64_w, i32_w]
                    rfl
                  refine one_ (i := 7) (N := some 8) #[true, true, true, true, true, true, true, true, false, false] rfl rfl (one_of HT_.out (by kernel_rfl)) (by decide) (fun K hK => ?_)
                  refine box_step ?hg (N := 8) ?hd (cs := #[.int .i64 0, .int .i64 0, .int .i64 0, .bool false, .string (⟨#[]⟩ : ByteArray), .int .i64 0]) (t := 60) ?hr ?_; (case hd => rfl); (case hg => rfl); (case hr => first | (go_simp; done) | (go_simp; rfl))
                  intro gb769 hg w39 hbox hb
                  have n0_ := Aside0.mk (Kd.R_below (by (with_reducible repeat (first | apply Kd.R_alloc | apply Kd.R_drewN | apply Kd.R_drew)); exact HO749.out) hb)
                  have n1_ := Aside0.mk (Kd.R_below (by (with_reducible repeat (first | apply Kd.R_alloc | apply Kd.R_drewN | apply Kd.R_drew)); exact HO759.out) hb)
                  have n2_ := Aside0.mk (Kd.R_below (by (with_reducible repeat (first | apply Kd.R_alloc | apply Kd.R_drewN | apply Kd.R_drew)); exact HO762.out) hb)
                  have n3_ := Aside0.mk (blk_below (g := gb742) (o := .cells #[.int .i64 a1_0, .int .i64 a1_1, .int .i64 a1_2, .string a1_3, .string a1_4, .string a1_5, .int .i64 a1_6] 72 (0, 0)) (by (with_reducible repeat (first | refine blk_drewN ?_ _ | refine blk_drew ?_ | refine blk_alloc ?_ _)); exact BK742.out) hb)
                  have n4_ := Aside0.mk (blk_below (g := gb756) (o := .cells #[.int .i64 t750, .int .i64 t751, .int .i64 t752, .bool t753, .string t754, .int .i64 t755] 60 (0, 0)) (by (with_reducible repeat (first | refine blk_drewN ?_ _ | refine blk_drew ?_ | refine blk_alloc ?_ _)); exact BK756.out) hb)
                  have n5_ := Aside0.mk (below_step (by repeat (first | (with_reducible first | exact HB.out | apply below_alloc | apply pw_below_drewN | apply below_drew1 | refine below_set ?_ GE742.out | refine below_set ?_ GE756.out) | exact HB.out)) hb)
                  have n6_ := Aside0.mk (hbox)
                  have n7_ := Aside0.mk ((by rw [hg]; exact (below_size (by repeat (first | (with_reducible first | exact HB.out | apply below_alloc | apply pw_below_drewN | apply below_drew1 | refine below_set ?_ GE742.out | refine below_set ?_ GE756.out) | exact HB.out))) : w.heap.size ≤ gb769))
                  have n8_ := Aside0.mk ((by rw [hg]; exact (below_size (by repeat (first | (with_reducible first | exact HB.out | apply below_alloc | apply pw_below_drewN | apply below_drew1 | refine below_set ?_ GE742.out | refine below_set ?_ GE756.out) | exact HB.out))) : w.heap.size ≤ gb769))
                  have n9_ := Aside0.mk ((by rw [hg]; exact Nat.ne_of_lt (blk_lt (g := gb742) (o := .cells #[.int .i64 a1_0, .int .i64 a1_1, .int .i64 a1_2, .string a1_3, .string a1_4, .string a1_5, .int .i64 a1_6] 72 (0, 0)) (by (with_reducible repeat (first | refine blk_drewN ?_ _ | refine blk_drew ?_ | refine blk_alloc ?_ _)); exact BK742.out)) : gb742 ≠ gb769))
                  have n10_ := Aside0.mk ((by rw [hg]; exact Nat.ne_of_gt (blk_lt (g := gb742) (o := .cells #[.int .i64 a1_0, .int .i64 a1_1, .int .i64 a1_2, .string a1_3, .string a1_4, .string a1_5, .int .i64 a1_6] 72 (0, 0)) (by (with_reducible repeat (first | refine blk_drewN ?_ _ | refine blk_drew ?_ | refine blk_alloc ?_ _)); exact BK742.out)) : gb769 ≠ gb742))
                  have n11_ := Aside0.mk ((by rw [hg]; exact Nat.ne_of_lt (blk_lt (g := gb756) (o := .cells #[.int .i64 t750, .int .i64 t751, .int .i64 t752, .bool t753, .string t754, .int .i64 t755] 60 (0, 0)) (by (with_reducible repeat (first | refine blk_drewN ?_ _ | refine blk_drew ?_ | refine blk_alloc ?_ _)); exact BK756.out)) : gb756 ≠ gb769))
                  have n12_ := Aside0.mk ((by rw [hg]; exact Nat.ne_of_gt (blk_lt (g := gb756) (o := .cells #[.int .i64 t750, .int .i64 t751, .int .i64 t752, .bool t753, .string t754, .int .i64 t755] 60 (0, 0)) (by (with_reducible repeat (first | refine blk_drewN ?_ _ | refine blk_drew ?_ | refine blk_alloc ?_ _)); exact BK756.out)) : gb769 ≠ gb756))
                  clear HO749
                  clear HO759
                  clear HO762
                  clear BK742
                  clear BK756
                  clear HB
                  have HO749 := n0_
                  have HO759 := n1_
                  have HO762 := n2_
                  have BK742 := n3_
                  have BK756 := n4_
                  have HB := n5_
                  have BK769 := n6_
                  have GW769 := n7_
                  have GE769 := n8_
                  have NB742_769 := n9_
                  have NB769_742 := n10_
                  have NB756_769 := n11_
                  have NB769_756 := n12_
                  clear n0_ n1_ n2_ n3_ n4_ n5_ n6_ n7_ n8_ n9_ n10_ n11_ n12_
                  clear hb hbox hg
                  refine hK.out _ _ ⟨(blk_cell BK742.out 0).trans rfl, (blk_cell BK742.out 1).trans rfl, (blk_cell BK742.out 2).trans rfl, (blk_cell BK742.out 3).trans rfl, (blk_cell BK742.out 4).trans rfl, (blk_cell BK742.out 5).trans rfl, (blk_cell BK742.out 6).trans rfl⟩ (fun hHeld => ?_)
                  clear hK K
                  refine norm_ (a' := ?_) ?_ ?_
                  rotate_left
                  · show Act.put _ (some 8) _ = _
                    simp only [Act.put, List.setIfInBounds_toArray, List.set_cons_zero, List.set_cons_succ, i64_w, i32_w]
                    rfl
                  exact norm_ (by simp only [putAll, Act.put, List.setIfInBounds_toArray, List.set_cons_zero, List.set_cons_succ]) (hCont (.slice Ao37 t757.length co37, v761, gb769) _ ⟨hHeld, (by (with_reducible repeat (first | apply Kd.R_alloc | apply Kd.R_drewN | apply Kd.R_drew)); exact Kd.R_mono HO749.out (fun _ hk => ⟨hk.1.2, hk.2⟩)), (by (with_reducible repeat (first | apply Kd.R_alloc | apply Kd.R_drewN | apply Kd.R_drew)); exact Kd.R_mono HO759.out (fun _ hk => ⟨hk.1.2, hk.2⟩)), (by (with_reducible repeat (first | apply Kd.R_alloc | apply Kd.R_drewN | apply Kd.R_drew)); exact Kd.R_mono HO762.out (fun _ hk => ⟨hk.1.2, hk.2⟩)), (by (with_reducible repeat (first | refine blk_drewN ?_ _ | refine blk_drew ?_ | refine blk_alloc ?_ _)); exact BK742.out), (by (with_reducible repeat (first | refine blk_drewN ?_ _ | refine blk_drew ?_ | refine blk_alloc ?_ _)); exact BK756.out), (by (with_reducible repeat (first | refine blk_drewN ?_ _ | refine blk_drew ?_ | refine blk_alloc ?_ _)); exact BK769.out), GW769.out, GE769.out, NB742_769.out, NB769_742.out, NB756_769.out, NB769_756.out, (by repeat (first | (with_reducible first | exact HB.out | apply below_alloc | apply pw_below_drewN | apply below_drew1 | refine below_set ?_ GE742.out | refine below_set ?_ GE756.out | refine below_set ?_ GE769.out) | exact HB.out))⟩)
                · skip
                  refine box_step ?hg (N := 8) ?hd (cs := #[.int .i64 0, .int .i64 0, .int .i64 0, .bool false, .string (⟨#[]⟩ : ByteArray), .int .i64 0]) (t := 60) ?hr ?_; (case hd => rfl); (case hg => rfl); (case hr => first | (go_simp; done) | (go_simp; rfl))
                  intro gb769 hg w37 hbox hb
                  have n0_ := Aside0.mk (Kd.R_below (by (with_reducible repeat (first | apply Kd.R_alloc | apply Kd.R_drewN | apply Kd.R_drew)); exact HO749.out) hb)
                  have n1_ := Aside0.mk (Kd.R_below (by (with_reducible repeat (first | apply Kd.R_alloc | apply Kd.R_drewN | apply Kd.R_drew)); exact HO759.out) hb)
                  have n2_ := Aside0.mk (blk_below (g := gb742) (o := .cells #[.int .i64 a1_0, .int .i64 a1_1, .int .i64 a1_2, .string a1_3, .string a1_4, .string a1_5, .int .i64 a1_6] 72 (0, 0)) (by (with_reducible repeat (first | refine blk_drewN ?_ _ | refine blk_drew ?_ | refine blk_alloc ?_ _)); exact BK742.out) hb)
                  have n3_ := Aside0.mk (blk_below (g := gb756) (o := .cells #[.int .i64 t750, .int .i64 t751, .int .i64 t752, .bool t753, .string t754, .int .i64 t755] 60 (0, 0)) (by (with_reducible repeat (first | refine blk_drewN ?_ _ | refine blk_drew ?_ | refine blk_alloc ?_ _)); exact BK756.out) hb)
                  have n4_ := Aside0.mk (below_step (by repeat (first | (with_reducible first | exact HB.out | apply below_alloc | apply pw_below_drewN | apply below_drew1 | refine below_set ?_ GE742.out | refine below_set ?_ GE756.out) | exact HB.out)) hb)
                  have n5_ := Aside0.mk (hbox)
                  have n6_ := Aside0.mk ((by rw [hg]; exact (below_size (by repeat (first | (with_reducible first | exact HB.out | apply below_alloc | apply pw_below_drewN | apply below_drew1 | refine below_set ?_ GE742.out | refine below_set ?_ GE756.out) | exact HB.out))) : w.heap.size ≤ gb769))
                  have n7_ := Aside0.mk ((by rw [hg]; exact (below_size (by repeat (first | (with_reducible first | exact HB.out | apply below_alloc | apply pw_below_drewN | apply below_drew1 | refine below_set ?_ GE742.out | refine below_set ?_ GE756.out) | exact HB.out))) : w.heap.size ≤ gb769))
                  have n8_ := Aside0.mk ((by rw [hg]; exact Nat.ne_of_lt (blk_lt (g := gb742) (o := .cells #[.int .i64 a1_0, .int .i64 a1_1, .int .i64 a1_2, .string a1_3, .string a1_4, .string a1_5, .int .i64 a1_6] 72 (0, 0)) (by (with_reducible repeat (first | refine blk_drewN ?_ _ | refine blk_drew ?_ | refine blk_alloc ?_ _)); exact BK742.out)) : gb742 ≠ gb769))
                  have n9_ := Aside0.mk ((by rw [hg]; exact Nat.ne_of_gt (blk_lt (g := gb742) (o := .cells #[.int .i64 a1_0, .int .i64 a1_1, .int .i64 a1_2, .string a1_3, .string a1_4, .string a1_5, .int .i64 a1_6] 72 (0, 0)) (by (with_reducible repeat (first | refine blk_drewN ?_ _ | refine blk_drew ?_ | refine blk_alloc ?_ _)); exact BK742.out)) : gb769 ≠ gb742))
                  have n10_ := Aside0.mk ((by rw [hg]; exact Nat.ne_of_lt (blk_lt (g := gb756) (o := .cells #[.int .i64 t750, .int .i64 t751, .int .i64 t752, .bool t753, .string t754, .int .i64 t755] 60 (0, 0)) (by (with_reducible repeat (first | refine blk_drewN ?_ _ | refine blk_drew ?_ | refine blk_alloc ?_ _)); exact BK756.out)) : gb756 ≠ gb769))
                  have n11_ := Aside0.mk ((by rw [hg]; exact Nat.ne_of_gt (blk_lt (g := gb756) (o := .cells #[.int .i64 t750, .int .i64 t751, .int .i64 t752, .bool t753, .string t754, .int .i64 t755] 60 (0, 0)) (by (with_reducible repeat (first | refine blk_drewN ?_ _ | refine blk_drew ?_ | refine blk_alloc ?_ _)); exact BK756.out)) : gb769 ≠ gb756))
                  clear HO749
                  clear HO759
                  clear BK742
                  clear BK756
                  clear HB
                  have HO749 := n0_
                  have HO759 := n1_
                  have BK742 := n2_
                  have BK756 := n3_
                  have HB := n4_
                  have BK769 := n5_
                  have GW769 := n6_
                  have GE769 := n7_
                  have NB742_769 := n8_
                  have NB769_742 := n9_
                  have NB756_769 := n10_
                  have NB769_756 := n11_
                  clear n0_ n1_ n2_ n3_ n4_ n5_ n6_ n7_ n8_ n9_ n10_ n11_
                  clear hb hbox hg
                  obtain ⟨Ao38, co38, eo38⟩ := Kd.R_slice HO759.out
                  (first | subst eo38 | (injection eo38 with f1_ f2_ f3_; have f4_ := f1_.symm; have f5_ := f3_.symm; clear f1_ f2_ f3_; subst f4_; subst f5_))
                  refine hK.out _ _ ⟨(blk_cell BK742.out 0).trans rfl, (blk_cell BK742.out 1).trans rfl, (blk_cell BK742.out 2).trans rfl, (blk_cell BK742.out 3).trans rfl, (blk_cell BK742.out 4).trans rfl, (blk_cell BK742.out 5).trans rfl, (blk_cell BK742.out 6).trans rfl⟩ (fun hHeld => ?_)
                  clear hK K
                  refine norm_ (a' := ?_) ?_ ?_
                  rotate_left
                  · show Act.put _ (some 8) _ = _
                    simp only [Act.put, List.setIfInBounds_toArray, List.set_cons_zero, List.set_cons_succ, i64_w, i32_w]
                    rfl
                  refine one_ (i := 3) (N := some 36) #[true, true, true, true, false, false, false, true, false, false] rfl rfl (one_of HT_.out (by kernel_rfl)) (by decide) (fun K hK => ?_)
                  refine goes_ Try.func59 (by kernel_rfl) rfl #[.slice Ao38 t757.length co38, .agg #[.int .i64 a1_0, .int .i64 a1_1, .int .i64 a1_2, .string a1_3, .string a1_4, .string a1_5, .int .i64 a1_6]] (by rfl) rfl rfl (by (try simp only [List.map_toArray, List.map_cons, List.map_nil]); first | done | rfl | (simp only [List.length_drop, List.length_take]; rfl)) ?_
                  with_reducible refine (kvone_Do.calls kj2 _ _ t757 a1_0 a1_1 a1_2 a1_3 a1_4 a1_5 a1_6 t760 t763 t764 t765 t766 t767 t768 _ ?side1 ?side2 A23.out).mono ?_
                  (case side1 => repeat (first | exact (Kd.R_reads' HO759.out).2.2 | (with_reducible refine Kd.C_alloc ?_ _) | (with_reducible refine Kd.C_drewN ?_ _) | (with_reducible refine Kd.C_drew ?_)))
                  (case side2 => exact (Kd.R_reads' HO759.out).2.1)
                  rintro e w39 ⟨v761, rfl, ho0, hb⟩
                  refine ⟨_, rfl, ?_⟩
                  have n0_ := Aside0.mk (Kd.R_elder' (by (with_reducible repeat (first | apply Kd.R_alloc | apply Kd.R_drewN | apply Kd.R_drew)); exact HO749.out) (Kd.R_base ho0) hb)
                  have n1_ := Aside0.mk (Kd.R_elder' (by (with_reducible repeat (first | apply Kd.R_alloc | apply Kd.R_drewN | apply Kd.R_drew)); exact HO759.out) (Kd.R_base ho0) hb)
                  have n2_ := Aside0.mk (Kd.R_lower (Kd.R_new' (Kd.R_new' ho0 (Kd.R_lt (by (with_reducible repeat (first | apply Kd.R_alloc | apply Kd.R_drewN | apply Kd.R_drew)); exact HO749.out))) (Kd.R_lt (by (with_reducible repeat (first | apply Kd.R_alloc | apply Kd.R_drewN | apply Kd.R_drew)); exact HO759.out))) (below_size (by repeat (first | (with_reducible first | exact HB.out | apply below_alloc | apply pw_below_drewN | apply below_drew1 | refine below_set ?_ GE742.out | refine below_set ?_ GE756.out | refine below_set ?_ GE769.out) | exact HB.out))))
                  have n3_ := Aside0.mk (blk_below (g := gb742) (o := .cells #[.int .i64 a1_0, .int .i64 a1_1, .int .i64 a1_2, .string a1_3, .string a1_4, .string a1_5, .int .i64 a1_6] 72 (0, 0)) (by (with_reducible repeat (first | refine blk_drewN ?_ _ | refine blk_drew ?_ | refine blk_alloc ?_ _)); exact BK742.out) hb)
                  have n4_ := Aside0.mk (blk_below (g := gb756) (o := .cells #[.int .i64 t750, .int .i64 t751, .int .i64 t752, .bool t753, .string t754, .int .i64 t755] 60 (0, 0)) (by (with_reducible repeat (first | refine blk_drewN ?_ _ | refine blk_drew ?_ | refine blk_alloc ?_ _)); exact BK756.out) hb)
                  have n5_ := Aside0.mk (blk_below (g := gb769) (o := .cells #[.int .i64 0, .int .i64 0, .int .i64 0, .bool false, .string (⟨#[]⟩ : ByteArray), .int .i64 0] 60 (0, 0)) (by (with_reducible repeat (first | refine blk_drewN ?_ _ | refine blk_drew ?_ | refine blk_alloc ?_ _)); exact BK769.out) hb)
                  have n6_ := Aside0.mk (below_step (by repeat (first | (with_reducible first | exact HB.out | apply below_alloc | apply pw_below_drewN | apply below_drew1 | refine below_set ?_ GE742.out | refine below_set ?_ GE756.out | refine below_set ?_ GE769.out) | exact HB.out)) hb)
                  clear HO749
                  clear HO759
                  clear BK742
                  clear BK756
                  clear BK769
                  clear HB
                  have HO749 := n0_
                  have HO759 := n1_
                  have HO762 := n2_
                  have BK742 := n3_
                  have BK756 := n4_
                  have BK769 := n5_
                  have HB := n6_
                  clear n0_ n1_ n2_ n3_ n4_ n5_ n6_
                  (try clear hb)
                  (try clear hb2)
                  (try clear hk)
                  (try clear hi)
                  (try clear ho0)
                  refine hK.out _ _ ⟨(blk_cell BK742.out 0).trans rfl, (blk_cell BK742.out 1).trans rfl, (blk_cell BK742.out 2).trans rfl, (blk_cell BK742.out 3).trans rfl, (blk_cell BK742.out 4).trans rfl, (blk_cell BK742.out 5).trans rfl, (blk_cell BK742.out 6).trans rfl⟩ (fun hHeld => ?_)
                  clear hK K
                  refine norm_ (a' := ?_) ?_ ?_
                  rotate_left
                  · show Act.put _ (some 36) _ = _
                    simp only [Act.put, List.setIfInBounds_toArray, List.set_cons_zero, List.set_cons_succ, i64_w, i32_w]
                    rfl
                  refine pure_ (i := 4) (N := some 32) (v := ?_) (a' := ?_) #[true, true, true, true, true, false, false, true, false, false] rfl rfl (any_of HT_.out (by kernel_rfl)) (fun _ _ _ h => h) (Or.inl ⟨by rfl, ?_⟩) ?_ ?_
                  rotate_left
                  · intro w'
                    go_simp
                    with_reducible rfl
                  rotate_left
                  · simp only [Act.put, List.setIfInBounds_toArray, List.set_cons_zero, List.set_cons_succ, i64_w, i32_w]
                    rfl
                  refine pure_ (i := 5) (N := some 37) (v := ?_) (a' := ?_) #[true, true, true, true, true, true, false, true, false, false] rfl rfl (any_of HT_.out (by kernel_rfl)) (fun _ _ _ h => h) (Or.inl ⟨by rfl, ?_⟩) ?_ ?_
                  rotate_left
                  · intro w'
                    go_simp
                    with_reducible rfl
                  rotate_left
                  · simp only [Act.put, List.setIfInBounds_toArray, List.set_cons_zero, List.set_cons_succ, i64_w, i32_w]
                    rfl
                  refine pure_ (i := 6) (N := some 38) (v := ?_) (a' := ?_) #[true, true, true, true, true, true, true, true, false, false] rfl rfl (any_of HT_.out (by kernel_rfl)) (fun _ _ _ h => h) (Or.inl ⟨by rfl, ?_⟩) ?_ ?_
                  rotate_left
                  · intro w'
                    go_simp
                    with_reducible rfl
                  rotate_left
                  · simp only [Act.put, List.setIfInBounds_toArray, List.set_cons_zero, List.set_cons_succ, i64_w, i32_w]
                    rfl
                  exact norm_ (by simp only [putAll, Act.put, List.setIfInBounds_toArray, List.set_cons_zero, List.set_cons_succ]) (hCont (.slice Ao38 t757.length co38, v761, gb769) _ ⟨hHeld, (by (with_reducible repeat (first | apply Kd.R_alloc | apply Kd.R_drewN | apply Kd.R_drew)); exact Kd.R_mono HO749.out (fun _ hk => ⟨hk.1.2, hk.2⟩)), (by (with_reducible repeat (first | apply Kd.R_alloc | apply Kd.R_drewN | apply Kd.R_drew)); exact Kd.R_mono HO759.out (fun _ hk => ⟨hk.1.2, hk.2⟩)), (by (with_reducible repeat (first | apply Kd.R_alloc | apply Kd.R_drewN | apply Kd.R_drew)); exact Kd.R_mono HO762.out (fun _ hk => ⟨hk.1.2, hk.2⟩)), (by (with_reducible repeat (first | refine blk_drewN ?_ _ | refine blk_drew ?_ | refine blk_alloc ?_ _)); exact BK742.out), (by (with_reducible repeat (first | refine blk_drewN ?_ _ | refine blk_drew ?_ | refine blk_alloc ?_ _)); exact BK756.out), (by (with_reducible repeat (first | refine blk_drewN ?_ _ | refine blk_drew ?_ | refine blk_alloc ?_ _)); exact BK769.out), GW769.out, GE769.out, NB742_769.out, NB769_742.out, NB756_769.out, NB769_756.out, (by repeat (first | (with_reducible first | exact HB.out | apply below_alloc | apply pw_below_drewN | apply below_drew1 | refine below_set ?_ GE742.out | refine below_set ?_ GE756.out | refine below_set ?_ GE769.out) | exact HB.out))⟩)
              · skip
                refine box_step ?hg (N := 8) ?hd (cs := #[.int .i64 0, .int .i64 0, .int .i64 0, .bool false, .string (⟨#[]⟩ : ByteArray), .int .i64 0]) (t := 60) ?hr ?_; (case hd => rfl); (case hg => rfl); (case hr => first | (go_simp; done) | (go_simp; rfl))
                intro gb769 hg w36 hbox hb
                have n0_ := Aside0.mk (Kd.R_below (by (with_reducible repeat (first | apply Kd.R_alloc | apply Kd.R_drewN | apply Kd.R_drew)); exact HO749.out) hb)
                have n1_ := Aside0.mk (blk_below (g := gb742) (o := .cells #[.int .i64 a1_0, .int .i64 a1_1, .int .i64 a1_2, .string a1_3, .string a1_4, .string a1_5, .int .i64 a1_6] 72 (0, 0)) (by (with_reducible repeat (first | refine blk_drewN ?_ _ | refine blk_drew ?_ | refine blk_alloc ?_ _)); exact BK742.out) hb)
                have n2_ := Aside0.mk (blk_below (g := gb756) (o := .cells #[.int .i64 t750, .int .i64 t751, .int .i64 t752, .bool t753, .string t754, .int .i64 t755] 60 (0, 0)) (by (with_reducible repeat (first | refine blk_drewN ?_ _ | refine blk_drew ?_ | refine blk_alloc ?_ _)); exact BK756.out) hb)
                have n3_ := Aside0.mk (below_step (by repeat (first | (with_reducible first | exact HB.out | apply below_alloc | apply pw_below_drewN | apply below_drew1 | refine below_set ?_ GE742.out | refine below_set ?_ GE756.out) | exact HB.out)) hb)
                have n4_ := Aside0.mk (hbox)
                have n5_ := Aside0.mk ((by rw [hg]; exact (below_size (by repeat (first | (with_reducible first | exact HB.out | apply below_alloc | apply pw_below_drewN | apply below_drew1 | refine below_set ?_ GE742.out | refine below_set ?_ GE756.out) | exact HB.out))) : w.heap.size ≤ gb769))
                have n6_ := Aside0.mk ((by rw [hg]; exact (below_size (by repeat (first | (with_reducible first | exact HB.out | apply below_alloc | apply pw_below_drewN | apply below_drew1 | refine below_set ?_ GE742.out | refine below_set ?_ GE756.out) | exact HB.out))) : w.heap.size ≤ gb769))
                have n7_ := Aside0.mk ((by rw [hg]; exact Nat.ne_of_lt (blk_lt (g := gb742) (o := .cells #[.int .i64 a1_0, .int .i64 a1_1, .int .i64 a1_2, .string a1_3, .string a1_4, .string a1_5, .int .i64 a1_6] 72 (0, 0)) (by (with_reducible repeat (first | refine blk_drewN ?_ _ | refine blk_drew ?_ | refine blk_alloc ?_ _)); exact BK742.out)) : gb742 ≠ gb769))
                have n8_ := Aside0.mk ((by rw [hg]; exact Nat.ne_of_gt (blk_lt (g := gb742) (o := .cells #[.int .i64 a1_0, .int .i64 a1_1, .int .i64 a1_2, .string a1_3, .string a1_4, .string a1_5, .int .i64 a1_6] 72 (0, 0)) (by (with_reducible repeat (first | refine blk_drewN ?_ _ | refine blk_drew ?_ | refine blk_alloc ?_ _)); exact BK742.out)) : gb769 ≠ gb742))
                have n9_ := Aside0.mk ((by rw [hg]; exact Nat.ne_of_lt (blk_lt (g := gb756) (o := .cells #[.int .i64 t750, .int .i64 t751, .int .i64 t752, .bool t753, .string t754, .int .i64 t755] 60 (0, 0)) (by (with_reducible repeat (first | refine blk_drewN ?_ _ | refine blk_drew ?_ | refine blk_alloc ?_ _)); exact BK756.out)) : gb756 ≠ gb769))
                have n10_ := Aside0.mk ((by rw [hg]; exact Nat.ne_of_gt (blk_lt (g := gb756) (o := .cells #[.int .i64 t750, .int .i64 t751, .int .i64 t752, .bool t753, .string t754, .int .i64 t755] 60 (0, 0)) (by (with_reducible repeat (first | refine blk_drewN ?_ _ | refine blk_drew ?_ | refine blk_alloc ?_ _)); exact BK756.out)) : gb769 ≠ gb756))
                clear HO749
                clear BK742
                clear BK756
                clear HB
                have HO749 := n0_
                have BK742 := n1_
                have BK756 := n2_
                have HB := n3_
                have BK769 := n4_
                have GW769 := n5_
                have GE769 := n6_
                have NB742_769 := n7_
                have NB769_742 := n8_
                have NB756_769 := n9_
                have NB769_756 := n10_
                clear n0_ n1_ n2_ n3_ n4_ n5_ n6_ n7_ n8_ n9_ n10_
                clear hb hbox hg
                refine hK.out _ _ ⟨(blk_cell BK742.out 0).trans rfl, (blk_cell BK742.out 1).trans rfl, (blk_cell BK742.out 2).trans rfl, (blk_cell BK742.out 3).trans rfl, (blk_cell BK742.out 4).trans rfl, (blk_cell BK742.out 5).trans rfl, (blk_cell BK742.out 6).trans rfl⟩ (fun hHeld => ?_)
                clear hK K
                refine norm_ (a' := ?_) ?_ ?_
                rotate_left
                · show Act.put _ (some 8) _ = _
                  simp only [Act.put, List.setIfInBounds_toArray, List.set_cons_zero, List.set_cons_succ, i64_w, i32_w]
                  rfl
                refine one_ (i := 1) (N := some 34) #[true, true, true, false, false, false, false, true, false, false] rfl rfl (one_of HT_.out (by kernel_rfl)) (by decide) (fun K hK => ?_)
                refine goes_ Try.func71 (by kernel_rfl) rfl #[.slice A0 l0.length c0] (by rfl) rfl rfl (by (try simp only [List.map_toArray, List.map_cons, List.map_nil]); first | done | rfl | (simp only [List.length_drop, List.length_take]; rfl)) ?_
                with_reducible refine (kvtwo_Plain.calls kj2 _ _ l0 t757 _ ?side1 ?side2 A22.out).mono ?_
                (case side1 => repeat (first | exact (Kd.C_below HR0.out HB.out) | (with_reducible refine Kd.C_alloc ?_ _) | (with_reducible refine Kd.C_drewN ?_ _) | (with_reducible refine Kd.C_drew ?_)))
                (case side2 => exact HC0.out)
                rintro e w37 ⟨v758, rfl, ho0, hb⟩
                refine ⟨_, rfl, ?_⟩
                have n0_ := Aside0.mk (Kd.R_elder' (by (with_reducible repeat (first | apply Kd.R_alloc | apply Kd.R_drewN | apply Kd.R_drew)); exact HO749.out) (Kd.R_base ho0) hb)
                have n1_ := Aside0.mk (Kd.R_lower (Kd.R_new' ho0 (Kd.R_lt (by (with_reducible repeat (first | apply Kd.R_alloc | apply Kd.R_drewN | apply Kd.R_drew)); exact HO749.out))) (below_size (by repeat (first | (with_reducible first | exact HB.out | apply below_alloc | apply pw_below_drewN | apply below_drew1 | refine below_set ?_ GE742.out | refine below_set ?_ GE756.out | refine below_set ?_ GE769.out) | exact HB.out))))
                have n2_ := Aside0.mk (blk_below (g := gb742) (o := .cells #[.int .i64 a1_0, .int .i64 a1_1, .int .i64 a1_2, .string a1_3, .string a1_4, .string a1_5, .int .i64 a1_6] 72 (0, 0)) (by (with_reducible repeat (first | refine blk_drewN ?_ _ | refine blk_drew ?_ | refine blk_alloc ?_ _)); exact BK742.out) hb)
                have n3_ := Aside0.mk (blk_below (g := gb756) (o := .cells #[.int .i64 t750, .int .i64 t751, .int .i64 t752, .bool t753, .string t754, .int .i64 t755] 60 (0, 0)) (by (with_reducible repeat (first | refine blk_drewN ?_ _ | refine blk_drew ?_ | refine blk_alloc ?_ _)); exact BK756.out) hb)
                have n4_ := Aside0.mk (blk_below (g := gb769) (o := .cells #[.int .i64 0, .int .i64 0, .int .i64 0, .bool false, .string (⟨#[]⟩ : ByteArray), .int .i64 0] 60 (0, 0)) (by (with_reducible repeat (first | refine blk_drewN ?_ _ | refine blk_drew ?_ | refine blk_alloc ?_ _)); exact BK769.out) hb)
                have n5_ := Aside0.mk (below_step (by repeat (first | (with_reducible first | exact HB.out | apply below_alloc | apply pw_below_drewN | apply below_drew1 | refine below_set ?_ GE742.out | refine below_set ?_ GE756.out | refine below_set ?_ GE769.out) | exact HB.out)) hb)
                clear HO749
                clear BK742
                clear BK756
                clear BK769
                clear HB
                have HO749 := n0_
                have HO759 := n1_
                have BK742 := n2_
                have BK756 := n3_
                have BK769 := n4_
                have HB := n5_
                clear n0_ n1_ n2_ n3_ n4_ n5_
                (try clear hb)
                (try clear hb2)
                (try clear hk)
                (try clear hi)
                (try clear ho0)
                obtain ⟨Ao38, co38, eo38⟩ := Kd.R_slice HO759.out
                (first | subst eo38 | (injection eo38 with f1_ f2_ f3_; have f4_ := f1_.symm; have f5_ := f3_.symm; clear f1_ f2_ f3_; subst f4_; subst f5_))
                refine hK.out _ _ ⟨(blk_cell BK742.out 0).trans rfl, (blk_cell BK742.out 1).trans rfl, (blk_cell BK742.out 2).trans rfl, (blk_cell BK742.out 3).trans rfl, (blk_cell BK742.out 4).trans rfl, (blk_cell BK742.out 5).trans rfl, (blk_cell BK742.out 6).trans rfl⟩ (fun hHeld => ?_)
                clear hK K
                refine norm_ (a' := ?_) ?_ ?_
                rotate_left
                · show Act.put _ (some 34) _ = _
                  simp only [Act.put, List.setIfInBounds_toArray, List.set_cons_zero, List.set_cons_succ, i64_w, i32_w]
                  rfl
                refine one_ (i := 3) (N := some 36) #[true, true, true, true, false, false, false, true, false, false] rfl rfl (one_of HT_.out (by kernel_rfl)) (by decide) (fun K hK => ?_)
                refine goes_ Try.func59 (by kernel_rfl) rfl #[.slice Ao38 t757.length co38, .agg #[.int .i64 a1_0, .int .i64 a1_1, .int .i64 a1_2, .string a1_3, .string a1_4, .string a1_5, .int .i64 a1_6]] (by rfl) rfl rfl (by (try simp only [List.map_toArray, List.map_cons, List.map_nil]); first | done | rfl | (simp only [List.length_drop, List.length_take]; rfl)) ?_
                with_reducible refine (kvone_Do.calls kj2 _ _ t757 a1_0 a1_1 a1_2 a1_3 a1_4 a1_5 a1_6 t760 t763 t764 t765 t766 t767 t768 _ ?side1 ?side2 A23.out).mono ?_
                (case side1 => repeat (first | exact (Kd.R_reads' HO759.out).2.2 | (with_reducible refine Kd.C_alloc ?_ _) | (with_reducible refine Kd.C_drewN ?_ _) | (with_reducible refine Kd.C_drew ?_)))
                (case side2 => exact (Kd.R_reads' HO759.out).2.1)
                rintro e w39 ⟨v761, rfl, ho0, hb⟩
                refine ⟨_, rfl, ?_⟩
                have n0_ := Aside0.mk (Kd.R_elder' (by (with_reducible repeat (first | apply Kd.R_alloc | apply Kd.R_drewN | apply Kd.R_drew)); exact HO749.out) (Kd.R_base ho0) hb)
                have n1_ := Aside0.mk (Kd.R_elder' (by (with_reducible repeat (first | apply Kd.R_alloc | apply Kd.R_drewN | apply Kd.R_drew)); exact HO759.out) (Kd.R_base ho0) hb)
                have n2_ := Aside0.mk (Kd.R_lower (Kd.R_new' (Kd.R_new' ho0 (Kd.R_lt (by (with_reducible repeat (first | apply Kd.R_alloc | apply Kd.R_drewN | apply Kd.R_drew)); exact HO749.out))) (Kd.R_lt (by (with_reducible repeat (first | apply Kd.R_alloc | apply Kd.R_drewN | apply Kd.R_drew)); exact HO759.out))) (below_size (by repeat (first | (with_reducible first | exact HB.out | apply below_alloc | apply pw_below_drewN | apply below_drew1 | refine below_set ?_ GE742.out | refine below_set ?_ GE756.out | refine below_set ?_ GE769.out) | exact HB.out))))
                have n3_ := Aside0.mk (blk_below (g := gb742) (o := .cells #[.int .i64 a1_0, .int .i64 a1_1, .int .i64 a1_2, .string a1_3, .string a1_4, .string a1_5, .int .i64 a1_6] 72 (0, 0)) (by (with_reducible repeat (first | refine blk_drewN ?_ _ | refine blk_drew ?_ | refine blk_alloc ?_ _)); exact BK742.out) hb)
                have n4_ := Aside0.mk (blk_below (g := gb756) (o := .cells #[.int .i64 t750, .int .i64 t751, .int .i64 t752, .bool t753, .string t754, .int .i64 t755] 60 (0, 0)) (by (with_reducible repeat (first | refine blk_drewN ?_ _ | refine blk_drew ?_ | refine blk_alloc ?_ _)); exact BK756.out) hb)
                have n5_ := Aside0.mk (blk_below (g := gb769) (o := .cells #[.int .i64 0, .int .i64 0, .int .i64 0, .bool false, .string (⟨#[]⟩ : ByteArray), .int .i64 0] 60 (0, 0)) (by (with_reducible repeat (first | refine blk_drewN ?_ _ | refine blk_drew ?_ | refine blk_alloc ?_ _)); exact BK769.out) hb)
                have n6_ := Aside0.mk (below_step (by repeat (first | (with_reducible first | exact HB.out | apply below_alloc | apply pw_below_drewN | apply below_drew1 | refine below_set ?_ GE742.out | refine below_set ?_ GE756.out | refine below_set ?_ GE769.out) | exact HB.out)) hb)
                clear HO749
                clear HO759
                clear BK742
                clear BK756
                clear BK769
                clear HB
                have HO749 := n0_
                have HO759 := n1_
                have HO762 := n2_
                have BK742 := n3_
                have BK756 := n4_
                have BK769 := n5_
                have HB := n6_
                clear n0_ n1_ n2_ n3_ n4_ n5_ n6_
                (try clear hb)
                (try clear hb2)
                (try clear hk)
                (try clear hi)
                (try clear ho0)
                refine hK.out _ _ ⟨(blk_cell BK742.out 0).trans rfl, (blk_cell BK742.out 1).trans rfl, (blk_cell BK742.out 2).trans rfl, (blk_cell BK742.out 3).trans rfl, (blk_cell BK742.out 4).trans rfl, (blk_cell BK742.out 5).trans rfl, (blk_cell BK742.out 6).trans rfl⟩ (fun hHeld => ?_)
                clear hK K
                refine norm_ (a' := ?_) ?_ ?_
                rotate_left
                · show Act.put _ (some 36) _ = _
                  simp only [Act.put, List.setIfInBounds_toArray, List.set_cons_zero, List.set_cons_succ, i64_w, i32_w]
                  rfl
                refine pure_ (i := 4) (N := some 32) (v := ?_) (a' := ?_) #[true, true, true, true, true, false, false, true, false, false] rfl rfl (any_of HT_.out (by kernel_rfl)) (fun _ _ _ h => h) (Or.inl ⟨by rfl, ?_⟩) ?_ ?_
                rotate_left
                · intro w'
                  go_simp
                  with_reducible rfl
                rotate_left
                · simp only [Act.put, List.setIfInBounds_toArray, List.set_cons_zero, List.set_cons_succ, i64_w, i32_w]
                  rfl
                refine pure_ (i := 5) (N := some 37) (v := ?_) (a' := ?_) #[true, true, true, true, true, true, false, true, false, false] rfl rfl (any_of HT_.out (by kernel_rfl)) (fun _ _ _ h => h) (Or.inl ⟨by rfl, ?_⟩) ?_ ?_
                rotate_left
                · intro w'
                  go_simp
                  with_reducible rfl
                rotate_left
                · simp only [Act.put, List.setIfInBounds_toArray, List.set_cons_zero, List.set_cons_succ, i64_w, i32_w]
                  rfl
                refine pure_ (i := 6) (N := some 38) (v := ?_) (a' := ?_) #[true, true, true, true, true, true, true, true, false, false] rfl rfl (any_of HT_.out (by kernel_rfl)) (fun _ _ _ h => h) (Or.inl ⟨by rfl, ?_⟩) ?_ ?_
                rotate_left
                · intro w'
                  go_simp
                  with_reducible rfl
                rotate_left
                · simp only [Act.put, List.setIfInBounds_toArray, List.set_cons_zero, List.set_cons_succ, i64_w, i32_w]
                  rfl
                exact norm_ (by simp only [putAll, Act.put, List.setIfInBounds_toArray, List.set_cons_zero, List.set_cons_succ]) (hCont (.slice Ao38 t757.length co38, v761, gb769) _ ⟨hHeld, (by (with_reducible repeat (first | apply Kd.R_alloc | apply Kd.R_drewN | apply Kd.R_drew)); exact Kd.R_mono HO749.out (fun _ hk => ⟨hk.1.2, hk.2⟩)), (by (with_reducible repeat (first | apply Kd.R_alloc | apply Kd.R_drewN | apply Kd.R_drew)); exact Kd.R_mono HO759.out (fun _ hk => ⟨hk.1.2, hk.2⟩)), (by (with_reducible repeat (first | apply Kd.R_alloc | apply Kd.R_drewN | apply Kd.R_drew)); exact Kd.R_mono HO762.out (fun _ hk => ⟨hk.1.2, hk.2⟩)), (by (with_reducible repeat (first | refine blk_drewN ?_ _ | refine blk_drew ?_ | refine blk_alloc ?_ _)); exact BK742.out), (by (with_reducible repeat (first | refine blk_drewN ?_ _ | refine blk_drew ?_ | refine blk_alloc ?_ _)); exact BK756.out), (by (with_reducible repeat (first | refine blk_drewN ?_ _ | refine blk_drew ?_ | refine blk_alloc ?_ _)); exact BK769.out), GW769.out, GE769.out, NB742_769.out, NB769_742.out, NB756_769.out, NB769_756.out, (by repeat (first | (with_reducible first | exact HB.out | apply below_alloc | apply pw_below_drewN | apply below_drew1 | refine below_set ?_ GE742.out | refine below_set ?_ GE756.out | refine below_set ?_ GE769.out) | exact HB.out))⟩)
            rintro ⟨v758, v761, gb769⟩ w40 ⟨hS_, h0_, h1_, h2_, h3_, h4_, h5_, h6_, h7_, h8_, h9_, h10_, h11_, h12_⟩
            have n0_ : Aside0 (Kd.R k78 78 w40 w.heap.size (fun k_ => some k_ ≠ (v758 : Value).ownBlock ∧ some k_ ≠ (v761 : Value).ownBlock) v748 t747) := ⟨h0_⟩
            have n1_ : Aside0 (Kd.R k78 78 w40 w.heap.size (fun k_ => some k_ ≠ (v748 : Value).ownBlock ∧ some k_ ≠ (v761 : Value).ownBlock) v758 t757) := ⟨h1_⟩
            have n2_ : Aside0 (Kd.R k78 78 w40 w.heap.size (fun k_ => some k_ ≠ (v748 : Value).ownBlock ∧ some k_ ≠ (v758 : Value).ownBlock) v761 t760) := ⟨h2_⟩
            have n3_ : Aside0 (w40.heap[gb742]? = some (.cells #[.int .i64 a1_0, .int .i64 a1_1, .int .i64 a1_2, .string a1_3, .string a1_4, .string a1_5, .int .i64 a1_6] 72 (0, 0))) := ⟨h3_⟩
            have n4_ : Aside0 (w40.heap[gb756]? = some (.cells #[.int .i64 t750, .int .i64 t751, .int .i64 t752, .bool t753, .string t754, .int .i64 t755] 60 (0, 0))) := ⟨h4_⟩
            have n5_ : Aside0 (w40.heap[gb769]? = some (.cells #[.int .i64 0, .int .i64 0, .int .i64 0, .bool false, .string (⟨#[]⟩ : ByteArray), .int .i64 0] 60 (0, 0))) := ⟨h5_⟩
            have n6_ : Aside0 (w.heap.size ≤ gb769) := ⟨h6_⟩
            have n7_ : Aside0 (w.heap.size ≤ gb769) := ⟨h7_⟩
            have n8_ : Aside0 (gb742 ≠ gb769) := ⟨h8_⟩
            have n9_ : Aside0 (gb769 ≠ gb742) := ⟨h9_⟩
            have n10_ : Aside0 (gb756 ≠ gb769) := ⟨h10_⟩
            have n11_ : Aside0 (gb769 ≠ gb756) := ⟨h11_⟩
            have n12_ : Aside0 (Below w.heap.size w w40) := ⟨h12_⟩
            clear HO749
            clear BK742
            clear BK756
            clear HB
            clear h0_ h1_ h2_ h3_ h4_ h5_ h6_ h7_ h8_ h9_ h10_ h11_ h12_
            have HO749 := n0_
            have HO759 := n1_
            have HO762 := n2_
            have BK742 := n3_
            have BK756 := n4_
            have BK769 := n5_
            have GW769 := n6_
            have GE769 := n7_
            have NB742_769 := n8_
            have NB769_742 := n9_
            have NB756_769 := n10_
            have NB769_756 := n11_
            have HB := n12_
            clear n0_ n1_ n2_ n3_ n4_ n5_ n6_ n7_ n8_ n9_ n10_ n11_ n12_
            have hHeld : w40.cell? ⟨gb742, 0, none⟩ = some (.int .i64 a1_0) ∧ w40.cell? ⟨gb742, 1, none⟩ = some (.int .i64 a1_1) ∧ w40.cell? ⟨gb742, 2, none⟩ = some (.int .i64 a1_2) ∧ w40.cell? ⟨gb742, 3, none⟩ = some (.string a1_3) ∧ w40.cell? ⟨gb742, 4, none⟩ = some (.string a1_4) ∧ w40.cell? ⟨gb742, 5, none⟩ = some (.string a1_5) ∧ w40.cell? ⟨gb742, 6, none⟩ = some (.int .i64 a1_6) := hS_
            refine norm_ (a' := ?_) ?_ ?_
            rotate_left
            · simp only [putAll, Act.put, List.setIfInBounds_toArray, List.set_cons_zero, List.set_cons_succ]
              rfl
            refine pure_ (i := 8) (N := some 7) (v := ?_) (a' := ?_) #[true, true, true, true, true, true, true, true, true, false] rfl rfl (any_of HT_.out (by kernel_rfl)) (fun _ _ _ h => h) (Or.inl ⟨by rfl, ?_⟩) ?_ ?_
            rotate_left
            · intro w'
              go_simp
              with_reducible rfl
            rotate_left
            · simp only [Act.put, List.setIfInBounds_toArray, List.set_cons_zero, List.set_cons_succ, i64_w, i32_w]
              rfl
            refine one_ (i := 9) (N := none) #[true, true, true, true, true, true, true, true, true, true] rfl rfl (one_of HT_.out (by kernel_rfl)) (by decide) (fun K hK => ?_)
            have hs41 : w40.cell? ⟨gb769, 0, none⟩ = some (.int .i64 0) := (blk_cell BK769.out 0).trans rfl
            have hfs41 := blk_frozen BK769.out 0
            have hns41_0 := NB742_769.out
            have hns41_1 := NB756_769.out
            have hms41_0 := NB769_742.out
            have hms41_1 := NB769_756.out
            have hs42 : w40.cell? ⟨gb769, 1, none⟩ = some (.int .i64 0) := (blk_cell BK769.out 1).trans rfl
            have hfs42 := blk_frozen BK769.out 1
            have hns42_0 := NB742_769.out
            have hns42_1 := NB756_769.out
            have hms42_0 := NB769_742.out
            have hms42_1 := NB769_756.out
            have hs43 : w40.cell? ⟨gb769, 2, none⟩ = some (.int .i64 0) := (blk_cell BK769.out 2).trans rfl
            have hfs43 := blk_frozen BK769.out 2
            have hns43_0 := NB742_769.out
            have hns43_1 := NB756_769.out
            have hms43_0 := NB769_742.out
            have hms43_1 := NB769_756.out
            have hs44 : w40.cell? ⟨gb769, 3, none⟩ = some (.bool false) := (blk_cell BK769.out 3).trans rfl
            have hfs44 := blk_frozen BK769.out 3
            have hns44_0 := NB742_769.out
            have hns44_1 := NB756_769.out
            have hms44_0 := NB769_742.out
            have hms44_1 := NB769_756.out
            have hs45 : w40.cell? ⟨gb769, 4, none⟩ = some (.string (⟨#[]⟩ : ByteArray)) := (blk_cell BK769.out 4).trans rfl
            have hfs45 := blk_frozen BK769.out 4
            have hns45_0 := NB742_769.out
            have hns45_1 := NB756_769.out
            have hms45_0 := NB769_742.out
            have hms45_1 := NB769_756.out
            have hs46 : w40.cell? ⟨gb769, 5, none⟩ = some (.int .i64 0) := (blk_cell BK769.out 5).trans rfl
            have hfs46 := blk_frozen BK769.out 5
            have hns46_0 := NB742_769.out
            have hns46_1 := NB756_769.out
            have hms46_0 := NB769_742.out
            have hms46_1 := NB769_756.out
            refine skip_ (w1 := ?_) (by rfl) rfl ?_ ?_
            rotate_left
            · go_simp
              rfl
            refine hK.out _ _ ⟨((cell_far (p := ⟨gb769, _, none⟩) NB742_769.out _).trans (((cell_far (p := ⟨gb769, _, none⟩) NB742_769.out _).trans (((cell_far (p := ⟨gb769, _, none⟩) NB742_769.out _).trans (((cell_far (p := ⟨gb769, _, none⟩) NB742_769.out _).trans (((cell_far (p := ⟨gb769, _, none⟩) NB742_769.out _).trans (((cell_far (p := ⟨gb769, _, none⟩) NB742_769.out _).trans (hHeld.1)))))))))))), ((cell_far (p := ⟨gb769, _, none⟩) NB742_769.out _).trans (((cell_far (p := ⟨gb769, _, none⟩) NB742_769.out _).trans (((cell_far (p := ⟨gb769, _, none⟩) NB742_769.out _).trans (((cell_far (p := ⟨gb769, _, none⟩) NB742_769.out _).trans (((cell_far (p := ⟨gb769, _, none⟩) NB742_769.out _).trans (((cell_far (p := ⟨gb769, _, none⟩) NB742_769.out _).trans (hHeld.2.1)))))))))))), ((cell_far (p := ⟨gb769, _, none⟩) NB742_769.out _).trans (((cell_far (p := ⟨gb769, _, none⟩) NB742_769.out _).trans (((cell_far (p := ⟨gb769, _, none⟩) NB742_769.out _).trans (((cell_far (p := ⟨gb769, _, none⟩) NB742_769.out _).trans (((cell_far (p := ⟨gb769, _, none⟩) NB742_769.out _).trans (((cell_far (p := ⟨gb769, _, none⟩) NB742_769.out _).trans (hHeld.2.2.1)))))))))))), ((cell_far (p := ⟨gb769, _, none⟩) NB742_769.out _).trans (((cell_far (p := ⟨gb769, _, none⟩) NB742_769.out _).trans (((cell_far (p := ⟨gb769, _, none⟩) NB742_769.out _).trans (((cell_far (p := ⟨gb769, _, none⟩) NB742_769.out _).trans (((cell_far (p := ⟨gb769, _, none⟩) NB742_769.out _).trans (((cell_far (p := ⟨gb769, _, none⟩) NB742_769.out _).trans (hHeld.2.2.2.1)))))))))))), ((cell_far (p := ⟨gb769, _, none⟩) NB742_769.out _).trans (((cell_far (p := ⟨gb769, _, none⟩) NB742_769.out _).trans (((cell_far (p := ⟨gb769, _, none⟩) NB742_769.out _).trans (((cell_far (p := ⟨gb769, _, none⟩) NB742_769.out _).trans (((cell_far (p := ⟨gb769, _, none⟩) NB742_769.out _).trans (((cell_far (p := ⟨gb769, _, none⟩) NB742_769.out _).trans (hHeld.2.2.2.2.1)))))))))))), ((cell_far (p := ⟨gb769, _, none⟩) NB742_769.out _).trans (((cell_far (p := ⟨gb769, _, none⟩) NB742_769.out _).trans (((cell_far (p := ⟨gb769, _, none⟩) NB742_769.out _).trans (((cell_far (p := ⟨gb769, _, none⟩) NB742_769.out _).trans (((cell_far (p := ⟨gb769, _, none⟩) NB742_769.out _).trans (((cell_far (p := ⟨gb769, _, none⟩) NB742_769.out _).trans (hHeld.2.2.2.2.2.1)))))))))))), ((cell_far (p := ⟨gb769, _, none⟩) NB742_769.out _).trans (((cell_far (p := ⟨gb769, _, none⟩) NB742_769.out _).trans (((cell_far (p := ⟨gb769, _, none⟩) NB742_769.out _).trans (((cell_far (p := ⟨gb769, _, none⟩) NB742_769.out _).trans (((cell_far (p := ⟨gb769, _, none⟩) NB742_769.out _).trans (((cell_far (p := ⟨gb769, _, none⟩) NB742_769.out _).trans (hHeld.2.2.2.2.2.2))))))))))))⟩ (fun hHeld => ?_)
            clear hK K
            refine done_ (done_of HT_.out (by kernel_rfl)) ?_
            obtain ⟨Ao47, co47, eo47⟩ := Kd.R_slice HO749.out
            subst eo47
            try go_wp2_with (first | ((with_reducible refine gate_callee (f := 71) rfl ?_); refine goesL_ (some 40) rfl rfl Try.func71 (by kernel_rfl) rfl #[.slice Ao47 t747.length co47] rfl (by (try simp only [List.map_toArray, List.map_cons, List.map_nil]); first | done | rfl | (simp only [List.length_drop, List.length_take]; rfl)) ?_; (with_reducible refine (kvtwo_Plain.calls kj2 _ _ t747 t770 _ ?side1 ?side2 A24.out).mono ?_); (case side1 => refine (Kd.R_reads' (e := 78) (base := w.heap.size) (ok := fun k_ => (some k_ ≠ (v758 : Value).ownBlock ∧ some k_ ≠ (v761 : Value).ownBlock)) (n := t747.length) (c := co47) ?_).2.2; exact (by (with_reducible repeat (first | apply Kd.R_alloc | apply Kd.R_drewN | apply Kd.R_drew)); exact (Kd.R_mono (Kd.R_far (p := ⟨gb769, 5, none⟩) (Kd.R_far (p := ⟨gb769, 4, none⟩) (Kd.R_far (p := ⟨gb769, 3, none⟩) (Kd.R_far (p := ⟨gb769, 2, none⟩) (Kd.R_far (p := ⟨gb769, 1, none⟩) (Kd.R_far (p := ⟨gb769, 0, none⟩) (Kd.R_types HO749.out BK769.out (by decide)) (fun _ hk => hk.2) (.int .i64 t763)) (fun _ hk => hk.2) (.int .i64 t764)) (fun _ hk => hk.2) (.int .i64 t765)) (fun _ hk => hk.2) (.bool t766)) (fun _ hk => hk.2) (.string t767)) (fun _ hk => hk.2) (.int .i64 t768)) (fun _ h_ => h_.1)))); (case side2 => exact (Kd.R_reads' HO749.out).2.1); rintro e w48 ⟨v771, rfl, ho0, hb⟩; refine ⟨_, rfl, ?_⟩; have n0_ := Aside0.mk (Kd.R_elder' (by (with_reducible repeat (first | apply Kd.R_alloc | apply Kd.R_drewN | apply Kd.R_drew)); exact (Kd.R_mono (Kd.R_far (p := ⟨gb769, 5, none⟩) (Kd.R_far (p := ⟨gb769, 4, none⟩) (Kd.R_far (p := ⟨gb769, 3, none⟩) (Kd.R_far (p := ⟨gb769, 2, none⟩) (Kd.R_far (p := ⟨gb769, 1, none⟩) (Kd.R_far (p := ⟨gb769, 0, none⟩) (Kd.R_types HO749.out BK769.out (by decide)) (fun _ hk => hk.2) (.int .i64 t763)) (fun _ hk => hk.2) (.int .i64 t764)) (fun _ hk => hk.2) (.int .i64 t765)) (fun _ hk => hk.2) (.bool t766)) (fun _ hk => hk.2) (.string t767)) (fun _ hk => hk.2) (.int .i64 t768)) (fun _ h_ => h_.1))) (Kd.R_base ho0) hb); have n1_ := Aside0.mk (Kd.R_elder' (by (with_reducible repeat (first | apply Kd.R_alloc | apply Kd.R_drewN | apply Kd.R_drew)); exact (Kd.R_mono (Kd.R_far (p := ⟨gb769, 5, none⟩) (Kd.R_far (p := ⟨gb769, 4, none⟩) (Kd.R_far (p := ⟨gb769, 3, none⟩) (Kd.R_far (p := ⟨gb769, 2, none⟩) (Kd.R_far (p := ⟨gb769, 1, none⟩) (Kd.R_far (p := ⟨gb769, 0, none⟩) (Kd.R_types HO759.out BK769.out (by decide)) (fun _ hk => hk.2) (.int .i64 t763)) (fun _ hk => hk.2) (.int .i64 t764)) (fun _ hk => hk.2) (.int .i64 t765)) (fun _ hk => hk.2) (.bool t766)) (fun _ hk => hk.2) (.string t767)) (fun _ hk => hk.2) (.int .i64 t768)) (fun _ h_ => h_.1))) (Kd.R_base ho0) hb); have n2_ := Aside0.mk (Kd.R_elder' (by (with_reducible repeat (first | apply Kd.R_alloc | apply Kd.R_drewN | apply Kd.R_drew)); exact (Kd.R_mono (Kd.R_far (p := ⟨gb769, 5, none⟩) (Kd.R_far (p := ⟨gb769, 4, none⟩) (Kd.R_far (p := ⟨gb769, 3, none⟩) (Kd.R_far (p := ⟨gb769, 2, none⟩) (Kd.R_far (p := ⟨gb769, 1, none⟩) (Kd.R_far (p := ⟨gb769, 0, none⟩) (Kd.R_types HO762.out BK769.out (by decide)) (fun _ hk => hk.2) (.int .i64 t763)) (fun _ hk => hk.2) (.int .i64 t764)) (fun _ hk => hk.2) (.int .i64 t765)) (fun _ hk => hk.2) (.bool t766)) (fun _ hk => hk.2) (.string t767)) (fun _ hk => hk.2) (.int .i64 t768)) (fun _ h_ => h_.1))) (Kd.R_base ho0) hb); have n3_ := Aside0.mk (Kd.R_lower (Kd.R_new' (Kd.R_new' (Kd.R_new' ho0 (Kd.R_lt (by (with_reducible repeat (first | apply Kd.R_alloc | apply Kd.R_drewN | apply Kd.R_drew)); exact (Kd.R_mono (Kd.R_far (p := ⟨gb769, 5, none⟩) (Kd.R_far (p := ⟨gb769, 4, none⟩) (Kd.R_far (p := ⟨gb769, 3, none⟩) (Kd.R_far (p := ⟨gb769, 2, none⟩) (Kd.R_far (p := ⟨gb769, 1, none⟩) (Kd.R_far (p := ⟨gb769, 0, none⟩) (Kd.R_types HO749.out BK769.out (by decide)) (fun _ hk => hk.2) (.int .i64 t763)) (fun _ hk => hk.2) (.int .i64 t764)) (fun _ hk => hk.2) (.int .i64 t765)) (fun _ hk => hk.2) (.bool t766)) (fun _ hk => hk.2) (.string t767)) (fun _ hk => hk.2) (.int .i64 t768)) (fun _ h_ => h_.1))))) (Kd.R_lt (by (with_reducible repeat (first | apply Kd.R_alloc | apply Kd.R_drewN | apply Kd.R_drew)); exact (Kd.R_mono (Kd.R_far (p := ⟨gb769, 5, none⟩) (Kd.R_far (p := ⟨gb769, 4, none⟩) (Kd.R_far (p := ⟨gb769, 3, none⟩) (Kd.R_far (p := ⟨gb769, 2, none⟩) (Kd.R_far (p := ⟨gb769, 1, none⟩) (Kd.R_far (p := ⟨gb769, 0, none⟩) (Kd.R_types HO759.out BK769.out (by decide)) (fun _ hk => hk.2) (.int .i64 t763)) (fun _ hk => hk.2) (.int .i64 t764)) (fun _ hk => hk.2) (.int .i64 t765)) (fun _ hk => hk.2) (.bool t766)) (fun _ hk => hk.2) (.string t767)) (fun _ hk => hk.2) (.int .i64 t768)) (fun _ h_ => h_.1))))) (Kd.R_lt (by (with_reducible repeat (first | apply Kd.R_alloc | apply Kd.R_drewN | apply Kd.R_drew)); exact (Kd.R_mono (Kd.R_far (p := ⟨gb769, 5, none⟩) (Kd.R_far (p := ⟨gb769, 4, none⟩) (Kd.R_far (p := ⟨gb769, 3, none⟩) (Kd.R_far (p := ⟨gb769, 2, none⟩) (Kd.R_far (p := ⟨gb769, 1, none⟩) (Kd.R_far (p := ⟨gb769, 0, none⟩) (Kd.R_types HO762.out BK769.out (by decide)) (fun _ hk => hk.2) (.int .i64 t763)) (fun _ hk => hk.2) (.int .i64 t764)) (fun _ hk => hk.2) (.int .i64 t765)) (fun _ hk => hk.2) (.bool t766)) (fun _ hk => hk.2) (.string t767)) (fun _ hk => hk.2) (.int .i64 t768)) (fun _ h_ => h_.1))))) (below_size (by repeat (first | (with_reducible first | exact HB.out | apply below_alloc | apply pw_below_drewN | apply below_drew1 | refine below_set ?_ GE742.out | refine below_set ?_ GE756.out | refine below_set ?_ GE769.out) | exact HB.out)))); have n4_ := Aside0.mk (blk_below (g := gb742) (o := .cells #[.int .i64 a1_0, .int .i64 a1_1, .int .i64 a1_2, .string a1_3, .string a1_4, .string a1_5, .int .i64 a1_6] 72 (0, 0)) (by (with_reducible repeat (first | refine blk_drewN ?_ _ | refine blk_drew ?_ | refine blk_alloc ?_ _)); refine blk_far ?_ NB742_769.out _; (with_reducible repeat (first | refine blk_drewN ?_ _ | refine blk_drew ?_ | refine blk_alloc ?_ _)); refine blk_far ?_ NB742_769.out _; (with_reducible repeat (first | refine blk_drewN ?_ _ | refine blk_drew ?_ | refine blk_alloc ?_ _)); refine blk_far ?_ NB742_769.out _; (with_reducible repeat (first | refine blk_drewN ?_ _ | refine blk_drew ?_ | refine blk_alloc ?_ _)); refine blk_far ?_ NB742_769.out _; (with_reducible repeat (first | refine blk_drewN ?_ _ | refine blk_drew ?_ | refine blk_alloc ?_ _)); refine blk_far ?_ NB742_769.out _; (with_reducible repeat (first | refine blk_drewN ?_ _ | refine blk_drew ?_ | refine blk_alloc ?_ _)); refine blk_far ?_ NB742_769.out _; (with_reducible repeat (first | refine blk_drewN ?_ _ | refine blk_drew ?_ | refine blk_alloc ?_ _)); exact BK742.out) hb); have n5_ := Aside0.mk (blk_below (g := gb756) (o := .cells #[.int .i64 t750, .int .i64 t751, .int .i64 t752, .bool t753, .string t754, .int .i64 t755] 60 (0, 0)) (by (with_reducible repeat (first | refine blk_drewN ?_ _ | refine blk_drew ?_ | refine blk_alloc ?_ _)); refine blk_far ?_ NB756_769.out _; (with_reducible repeat (first | refine blk_drewN ?_ _ | refine blk_drew ?_ | refine blk_alloc ?_ _)); refine blk_far ?_ NB756_769.out _; (with_reducible repeat (first | refine blk_drewN ?_ _ | refine blk_drew ?_ | refine blk_alloc ?_ _)); refine blk_far ?_ NB756_769.out _; (with_reducible repeat (first | refine blk_drewN ?_ _ | refine blk_drew ?_ | refine blk_alloc ?_ _)); refine blk_far ?_ NB756_769.out _; (with_reducible repeat (first | refine blk_drewN ?_ _ | refine blk_drew ?_ | refine blk_alloc ?_ _)); refine blk_far ?_ NB756_769.out _; (with_reducible repeat (first | refine blk_drewN ?_ _ | refine blk_drew ?_ | refine blk_alloc ?_ _)); refine blk_far ?_ NB756_769.out _; (with_reducible repeat (first | refine blk_drewN ?_ _ | refine blk_drew ?_ | refine blk_alloc ?_ _)); exact BK756.out) hb); have n6_ := Aside0.mk (blk_below (g := gb769) (o := .cells #[.int .i64 t763, .int .i64 t764, .int .i64 t765, .bool t766, .string t767, .int .i64 t768] 60 (0, 0)) (by (with_reducible repeat (first | refine blk_drewN ?_ _ | refine blk_drew ?_ | refine blk_alloc ?_ _)); refine blk_put (cs := #[.int .i64 t763, .int .i64 t764, .int .i64 t765, .bool t766, .string t767, .int .i64 0]) ?_ 5 _ rfl; (with_reducible repeat (first | refine blk_drewN ?_ _ | refine blk_drew ?_ | refine blk_alloc ?_ _)); refine blk_put (cs := #[.int .i64 t763, .int .i64 t764, .int .i64 t765, .bool t766, .string (⟨#[]⟩ : ByteArray), .int .i64 0]) ?_ 4 _ rfl; (with_reducible repeat (first | refine blk_drewN ?_ _ | refine blk_drew ?_ | refine blk_alloc ?_ _)); refine blk_put (cs := #[.int .i64 t763, .int .i64 t764, .int .i64 t765, .bool false, .string (⟨#[]⟩ : ByteArray), .int .i64 0]) ?_ 3 _ rfl; (with_reducible repeat (first | refine blk_drewN ?_ _ | refine blk_drew ?_ | refine blk_alloc ?_ _)); refine blk_put (cs := #[.int .i64 t763, .int .i64 t764, .int .i64 0, .bool false, .string (⟨#[]⟩ : ByteArray), .int .i64 0]) ?_ 2 _ rfl; (with_reducible repeat (first | refine blk_drewN ?_ _ | refine blk_drew ?_ | refine blk_alloc ?_ _)); refine blk_put (cs := #[.int .i64 t763, .int .i64 0, .int .i64 0, .bool false, .string (⟨#[]⟩ : ByteArray), .int .i64 0]) ?_ 1 _ rfl; (with_reducible repeat (first | refine blk_drewN ?_ _ | refine blk_drew ?_ | refine blk_alloc ?_ _)); refine blk_put (cs := #[.int .i64 0, .int .i64 0, .int .i64 0, .bool false, .string (⟨#[]⟩ : ByteArray), .int .i64 0]) ?_ 0 _ rfl; (with_reducible repeat (first | refine blk_drewN ?_ _ | refine blk_drew ?_ | refine blk_alloc ?_ _)); exact BK769.out) hb); have n7_ := Aside0.mk (below_step (by repeat (first | (with_reducible first | exact HB.out | apply below_alloc | apply pw_below_drewN | apply below_drew1 | refine below_set ?_ GE742.out | refine below_set ?_ GE756.out | refine below_set ?_ GE769.out) | exact HB.out)) hb); clear HO749; clear HO759; clear HO762; clear BK742; clear BK756; clear BK769; clear HB; have HO749 := n0_; have HO759 := n1_; have HO762 := n2_; have HO772 := n3_; have BK742 := n4_; have BK756 := n5_; have BK769 := n6_; have HB := n7_; clear n0_ n1_ n2_ n3_ n4_ n5_ n6_ n7_; (try clear hb); (try clear hb2); (try clear hk); (try clear hi); (try clear ho0); obtain ⟨Ao49, co49, eo49⟩ := Kd.R_slice HO772.out; subst eo49; obtain ⟨Ao50, co50, eo50⟩ := Kd.R_slice HO762.out; subst eo50) | ((with_reducible refine gate_callee (f := 66) rfl ?_); refine goesL_ (some 42) rfl rfl Try.func66 (by kernel_rfl) rfl #[.slice Ao49 t770.length co49, .slice Ao50 t760.length co50] rfl (by (try simp only [List.map_toArray, List.map_cons, List.map_nil]); first | done | rfl | (simp only [List.length_drop, List.length_take]; rfl)) ?_; (with_reducible refine (changeoverref23_Same.calls kj2 _ _ t770 _ _ t760 true _ ?side1 ?side2 ?side3 ?side4 A25.out).mono ?_); (case side1 => repeat (first | exact (Kd.R_reads' HO772.out).2.2 | (with_reducible refine Kd.C_alloc ?_ _) | (with_reducible refine Kd.C_drewN ?_ _) | (with_reducible refine Kd.C_drew ?_))); (case side2 => exact (Kd.R_reads' HO772.out).2.1); (case side3 => repeat (first | exact (Kd.R_reads' HO762.out).2.2 | (with_reducible refine Kd.C_alloc ?_ _) | (with_reducible refine Kd.C_drewN ?_ _) | (with_reducible refine Kd.C_drew ?_))); (case side4 => exact (Kd.R_reads' HO762.out).2.1); rintro e w' ⟨rfl, ⟨nd, rfl⟩⟩; refine ⟨_, rfl, ?_⟩; have hnb51 := NB756_769.out; have hnc51 := NB769_756.out; have hcz52_0 : w48.cell? ⟨gb756, 0, none⟩ = some (.int .i64 t750) := (blk_cell BK756.out 0).trans rfl; have hcz52_1 : w48.cell? ⟨gb756, 1, none⟩ = some (.int .i64 t751) := (blk_cell BK756.out 1).trans rfl; have hcz52_2 : w48.cell? ⟨gb756, 2, none⟩ = some (.int .i64 t752) := (blk_cell BK756.out 2).trans rfl; have hcz52_3 : w48.cell? ⟨gb756, 3, none⟩ = some (.bool t753) := (blk_cell BK756.out 3).trans rfl; have hcz52_4 : w48.cell? ⟨gb756, 4, none⟩ = some (.string t754) := (blk_cell BK756.out 4).trans rfl; have hcz52_5 : w48.cell? ⟨gb756, 5, none⟩ = some (.int .i64 t755) := (blk_cell BK756.out 5).trans rfl; have hfz52_0 := blk_frozen BK756.out 0; have hfz52_1 := blk_frozen BK756.out 1; have hfz52_2 := blk_frozen BK756.out 2; have hfz52_3 := blk_frozen BK756.out 3; have hfz52_4 := blk_frozen BK756.out 4; have hfz52_5 := blk_frozen BK756.out 5; have hnb53 := NB769_742.out; have hnc53 := NB742_769.out; have hcz54_0 : w48.cell? ⟨gb769, 0, none⟩ = some (.int .i64 t763) := (blk_cell BK769.out 0).trans rfl; have hcz54_1 : w48.cell? ⟨gb769, 1, none⟩ = some (.int .i64 t764) := (blk_cell BK769.out 1).trans rfl; have hcz54_2 : w48.cell? ⟨gb769, 2, none⟩ = some (.int .i64 t765) := (blk_cell BK769.out 2).trans rfl; have hcz54_3 : w48.cell? ⟨gb769, 3, none⟩ = some (.bool t766) := (blk_cell BK769.out 3).trans rfl; have hcz54_4 : w48.cell? ⟨gb769, 4, none⟩ = some (.string t767) := (blk_cell BK769.out 4).trans rfl; have hcz54_5 : w48.cell? ⟨gb769, 5, none⟩ = some (.int .i64 t768) := (blk_cell BK769.out 5).trans rfl; have hfz54_0 := blk_frozen BK769.out 0; have hfz54_1 := blk_frozen BK769.out 1; have hfz54_2 := blk_frozen BK769.out 2; have hfz54_3 := blk_frozen BK769.out 3; have hfz54_4 := blk_frozen BK769.out 4; have hfz54_5 := blk_frozen BK769.out 5) | (go_at_call 63; (with_reducible refine (changeoverlaw24_awake.calls kj2  t774 _ A28.out).mono ?_); rintro e w55 ⟨rfl, hb⟩; have n0_ := Aside0.mk (Kd.R_below (by (with_reducible repeat (first | apply Kd.R_alloc | apply Kd.R_drewN | apply Kd.R_drew)); exact HO749.out) hb); have n1_ := Aside0.mk (Kd.R_below (by (with_reducible repeat (first | apply Kd.R_alloc | apply Kd.R_drewN | apply Kd.R_drew)); exact HO759.out) hb); have n2_ := Aside0.mk (Kd.R_below (by (with_reducible repeat (first | apply Kd.R_alloc | apply Kd.R_drewN | apply Kd.R_drew)); exact HO762.out) hb); have n3_ := Aside0.mk (Kd.R_below (by (with_reducible repeat (first | apply Kd.R_alloc | apply Kd.R_drewN | apply Kd.R_drew)); exact HO772.out) hb); have n4_ := Aside0.mk (blk_below (g := gb742) (o := .cells #[.int .i64 a1_0, .int .i64 a1_1, .int .i64 a1_2, .string a1_3, .string a1_4, .string a1_5, .int .i64 a1_6] 72 (0, 0)) (by (with_reducible repeat (first | refine blk_drewN ?_ _ | refine blk_drew ?_ | refine blk_alloc ?_ _)); exact BK742.out) hb); have n5_ := Aside0.mk (blk_below (g := gb756) (o := .cells #[.int .i64 t750, .int .i64 t751, .int .i64 t752, .bool t753, .string t754, .int .i64 t755] 60 (0, 0)) (by (with_reducible repeat (first | refine blk_drewN ?_ _ | refine blk_drew ?_ | refine blk_alloc ?_ _)); exact BK756.out) hb); have n6_ := Aside0.mk (blk_below (g := gb769) (o := .cells #[.int .i64 t763, .int .i64 t764, .int .i64 t765, .bool t766, .string t767, .int .i64 t768] 60 (0, 0)) (by (with_reducible repeat (first | refine blk_drewN ?_ _ | refine blk_drew ?_ | refine blk_alloc ?_ _)); exact BK769.out) hb); have n7_ := Aside0.mk (below_step (by repeat (first | (with_reducible first | exact HB.out | apply below_alloc | apply pw_below_drewN | apply below_drew1 | refine below_set ?_ GE742.out | refine below_set ?_ GE756.out | refine below_set ?_ GE769.out) | exact HB.out)) hb); clear HO749; clear HO759; clear HO762; clear HO772; clear BK742; clear BK756; clear BK769; clear HB; have HO749 := n0_; have HO759 := n1_; have HO762 := n2_; have HO772 := n3_; have BK742 := n4_; have BK756 := n5_; have BK769 := n6_; have HB := n7_; clear n0_ n1_ n2_ n3_ n4_ n5_ n6_ n7_; (try clear hb); (try clear hb2); (try clear hk); (try clear hi)))
            go_ret
            exact ⟨by first | rfl | (simp [errW_none, errW_some] <;> rfl) | (simp [*, errW_none, errW_some] <;> rfl), by repeat (first | (with_reducible first | exact HB.out | apply below_alloc | apply pw_below_drewN | apply below_drew1 | refine below_set ?_ GE742.out | refine below_set ?_ GE756.out | refine below_set ?_ GE769.out) | exact HB.out)⟩
          · rw [if_neg c27] at H
            have c27b0 : (t750 == t763 && (t751 == t764 && (t752 == t765 && (t753 == t766 && (t754.toList == t767.toList && (t755 == t768)))))) = false := by simpa using c27
            (try (have c27b1 : decide (t750 = t763 && (t751 == t764 && (t752 == t765 && (t753 == t766 && (t754.toList == t767.toList && (t755 == t768)))))) = false := by simpa using c27))
            (try (have c27b2 : (t750 == t763 && (t751 == t764 && (t752 == t765 && (t753 == t766 && (t754.toList == t767.toList && (t755 == t768)))))) = false := by simpa using c27))
            (try (have c27b3 : ¬ (t750 = t763 && (t751 == t764 && (t752 == t765 && (t753 == t766 && (t754.toList == t767.toList && (t755 == t768)))))) := by simpa using c27))
            clear c27
            obtain rfl := Option.some.inj H
            have hcz56_0 : wc.cell? ⟨gb742, 0, none⟩ = some (.int .i64 a1_0) := (blk_cell BK742.out 0).trans rfl
            have hcz56_1 : wc.cell? ⟨gb742, 1, none⟩ = some (.int .i64 a1_1) := (blk_cell BK742.out 1).trans rfl
            have hcz56_2 : wc.cell? ⟨gb742, 2, none⟩ = some (.int .i64 a1_2) := (blk_cell BK742.out 2).trans rfl
            have hcz56_3 : wc.cell? ⟨gb742, 3, none⟩ = some (.string a1_3) := (blk_cell BK742.out 3).trans rfl
            have hcz56_4 : wc.cell? ⟨gb742, 4, none⟩ = some (.string a1_4) := (blk_cell BK742.out 4).trans rfl
            have hcz56_5 : wc.cell? ⟨gb742, 5, none⟩ = some (.string a1_5) := (blk_cell BK742.out 5).trans rfl
            have hcz56_6 : wc.cell? ⟨gb742, 6, none⟩ = some (.int .i64 a1_6) := (blk_cell BK742.out 6).trans rfl
            have hfz56_0 := blk_frozen BK742.out 0
            have hfz56_1 := blk_frozen BK742.out 1
            have hfz56_2 := blk_frozen BK742.out 2
            have hfz56_3 := blk_frozen BK742.out 3
            have hfz56_4 := blk_frozen BK742.out 4
            have hfz56_5 := blk_frozen BK742.out 5
            have hfz56_6 := blk_frozen BK742.out 6
            try go_wp2_with (first | ((with_reducible refine gate_callee (f := 64) rfl ?_); refine goesL_ (some 29) rfl rfl Try.func64 (by kernel_rfl) rfl #[.slice A0 l0.length c0, .agg #[.int .i64 a1_0, .int .i64 a1_1, .int .i64 a1_2, .string a1_3, .string a1_4, .string a1_5, .int .i64 a1_6]] rfl (by (try simp only [List.map_toArray, List.map_cons, List.map_nil]); first | done | rfl | (simp only [List.length_drop, List.length_take]; rfl)) ?_; (with_reducible refine (kvtwo_Do.calls kj2 _ _ l0 a1_0 a1_1 a1_2 a1_3 a1_4 a1_5 a1_6 t747 t750 t751 t752 t753 t754 t755 _ ?side1 ?side2 A21.out).mono ?_); (case side1 => repeat (first | exact (Kd.C_below HR0.out HB.out) | (with_reducible refine Kd.C_alloc ?_ _) | (with_reducible refine Kd.C_drewN ?_ _) | (with_reducible refine Kd.C_drew ?_))); (case side2 => exact HC0.out); rintro e w57 ⟨v748, rfl, ho0, hb⟩; refine ⟨_, rfl, ?_⟩; have n0_ := Aside0.mk (Kd.R_lower ho0 (below_size (by repeat (first | (with_reducible first | exact HB.out | apply below_alloc | apply pw_below_drewN | apply below_drew1 | refine below_set ?_ GE742.out) | exact HB.out)))); have n1_ := Aside0.mk (blk_below (g := gb742) (o := .cells #[.int .i64 a1_0, .int .i64 a1_1, .int .i64 a1_2, .string a1_3, .string a1_4, .string a1_5, .int .i64 a1_6] 72 (0, 0)) (by (with_reducible repeat (first | refine blk_drewN ?_ _ | refine blk_drew ?_ | refine blk_alloc ?_ _)); exact BK742.out) hb); have n2_ := Aside0.mk (below_step (by repeat (first | (with_reducible first | exact HB.out | apply below_alloc | apply pw_below_drewN | apply below_drew1 | refine below_set ?_ GE742.out) | exact HB.out)) hb); clear BK742; clear HB; have HO749 := n0_; have BK742 := n1_; have HB := n2_; clear n0_ n1_ n2_; (try clear hb); (try clear hb2); (try clear hk); (try clear hi); (try clear ho0)) | ((with_reducible refine gate_dst (N := 6) rfl ?_); refine box_event ?hg (N := 6) ?hd (cs := #[.int .i64 0, .int .i64 0, .int .i64 0, .bool false, .string (⟨#[]⟩ : ByteArray), .int .i64 0]) (t := 60) ?hr ?_; (case hd => rfl); (case hg => rfl); (case hr => first | (go_simp; done) | (go_simp; rfl)); intro gb756 hg w58 hbox hb; have n0_ := Aside0.mk (Kd.R_below (by (with_reducible repeat (first | apply Kd.R_alloc | apply Kd.R_drewN | apply Kd.R_drew)); exact HO749.out) hb); have n1_ := Aside0.mk (blk_below (g := gb742) (o := .cells #[.int .i64 a1_0, .int .i64 a1_1, .int .i64 a1_2, .string a1_3, .string a1_4, .string a1_5, .int .i64 a1_6] 72 (0, 0)) (by (with_reducible repeat (first | refine blk_drewN ?_ _ | refine blk_drew ?_ | refine blk_alloc ?_ _)); exact BK742.out) hb); have n2_ := Aside0.mk (below_step (by repeat (first | (with_reducible first | exact HB.out | apply below_alloc | apply pw_below_drewN | apply below_drew1 | refine below_set ?_ GE742.out) | exact HB.out)) hb); have n3_ := Aside0.mk (hbox); have n4_ := Aside0.mk ((by rw [hg]; exact (below_size (by repeat (first | (with_reducible first | exact HB.out | apply below_alloc | apply pw_below_drewN | apply below_drew1 | refine below_set ?_ GE742.out) | exact HB.out))) : w.heap.size ≤ gb756)); have n5_ := Aside0.mk ((by rw [hg]; exact (below_size (by repeat (first | (with_reducible first | exact HB.out | apply below_alloc | apply pw_below_drewN | apply below_drew1 | refine below_set ?_ GE742.out) | exact HB.out))) : w.heap.size ≤ gb756)); have n6_ := Aside0.mk ((by rw [hg]; exact Nat.ne_of_lt (blk_lt (g := gb742) (o := .cells #[.int .i64 a1_0, .int .i64 a1_1, .int .i64 a1_2, .string a1_3, .string a1_4, .string a1_5, .int .i64 a1_6] 72 (0, 0)) (by (with_reducible repeat (first | refine blk_drewN ?_ _ | refine blk_drew ?_ | refine blk_alloc ?_ _)); exact BK742.out)) : gb742 ≠ gb756)); have n7_ := Aside0.mk ((by rw [hg]; exact Nat.ne_of_gt (blk_lt (g := gb742) (o := .cells #[.int .i64 a1_0, .int .i64 a1_1, .int .i64 a1_2, .string a1_3, .string a1_4, .string a1_5, .int .i64 a1_6] 72 (0, 0)) (by (with_reducible repeat (first | refine blk_drewN ?_ _ | refine blk_drew ?_ | refine blk_alloc ?_ _)); exact BK742.out)) : gb756 ≠ gb742)); clear HO749; clear BK742; clear HB; have HO749 := n0_; have BK742 := n1_; have HB := n2_; have BK756 := n3_; have GW756 := n4_; have GE756 := n5_; have NB742_756 := n6_; have NB756_742 := n7_; clear n0_ n1_ n2_ n3_ n4_ n5_ n6_ n7_; clear hb hbox hg; have hnb59 := NB756_742.out; have hnc59 := NB742_756.out; have hcz60_0 : w58.cell? ⟨gb756, 0, none⟩ = some (.int .i64 0) := (blk_cell BK756.out 0).trans rfl; have hcz60_1 : w58.cell? ⟨gb756, 1, none⟩ = some (.int .i64 0) := (blk_cell BK756.out 1).trans rfl; have hcz60_2 : w58.cell? ⟨gb756, 2, none⟩ = some (.int .i64 0) := (blk_cell BK756.out 2).trans rfl; have hcz60_3 : w58.cell? ⟨gb756, 3, none⟩ = some (.bool false) := (blk_cell BK756.out 3).trans rfl; have hcz60_4 : w58.cell? ⟨gb756, 4, none⟩ = some (.string (⟨#[]⟩ : ByteArray)) := (blk_cell BK756.out 4).trans rfl; have hcz60_5 : w58.cell? ⟨gb756, 5, none⟩ = some (.int .i64 0) := (blk_cell BK756.out 5).trans rfl; have hfz60_0 := blk_frozen BK756.out 0; have hfz60_1 := blk_frozen BK756.out 1; have hfz60_2 := blk_frozen BK756.out 2; have hfz60_3 := blk_frozen BK756.out 3; have hfz60_4 := blk_frozen BK756.out 4; have hfz60_5 := blk_frozen BK756.out 5))
            have n0_ : Aside0 (Kd.R k78 78 ((((((w58.setCell ⟨gb756, 0, none⟩ (.int .i64 t750)).setCell ⟨gb756, 1, none⟩ (.int .i64 t751)).setCell ⟨gb756, 2, none⟩ (.int .i64 t752)).setCell ⟨gb756, 3, none⟩ (.bool t753)).setCell ⟨gb756, 4, none⟩ (.string t754)).setCell ⟨gb756, 5, none⟩ (.int .i64 t755)) w.heap.size (fun _ => True) v748 t747) := ⟨by (with_reducible repeat (first | apply Kd.R_alloc | apply Kd.R_drewN | apply Kd.R_drew)); exact Kd.R_mono (Kd.R_far (p := ⟨gb756, 5, none⟩) (Kd.R_far (p := ⟨gb756, 4, none⟩) (Kd.R_far (p := ⟨gb756, 3, none⟩) (Kd.R_far (p := ⟨gb756, 2, none⟩) (Kd.R_far (p := ⟨gb756, 1, none⟩) (Kd.R_far (p := ⟨gb756, 0, none⟩) (Kd.R_types HO749.out BK756.out (by decide)) (fun _ hk => hk.2) (.int .i64 t750)) (fun _ hk => hk.2) (.int .i64 t751)) (fun _ hk => hk.2) (.int .i64 t752)) (fun _ hk => hk.2) (.bool t753)) (fun _ hk => hk.2) (.string t754)) (fun _ hk => hk.2) (.int .i64 t755)) (fun _ hk => trivial)⟩
            have n1_ : Aside0 (((((((w58.setCell ⟨gb756, 0, none⟩ (.int .i64 t750)).setCell ⟨gb756, 1, none⟩ (.int .i64 t751)).setCell ⟨gb756, 2, none⟩ (.int .i64 t752)).setCell ⟨gb756, 3, none⟩ (.bool t753)).setCell ⟨gb756, 4, none⟩ (.string t754)).setCell ⟨gb756, 5, none⟩ (.int .i64 t755)).heap[gb742]? = some (.cells #[.int .i64 a1_0, .int .i64 a1_1, .int .i64 a1_2, .string a1_3, .string a1_4, .string a1_5, .int .i64 a1_6] 72 (0, 0))) := ⟨by (with_reducible repeat (first | refine blk_drewN ?_ _ | refine blk_drew ?_ | refine blk_alloc ?_ _)); refine blk_far ?_ NB742_756.out _; (with_reducible repeat (first | refine blk_drewN ?_ _ | refine blk_drew ?_ | refine blk_alloc ?_ _)); refine blk_far ?_ NB742_756.out _; (with_reducible repeat (first | refine blk_drewN ?_ _ | refine blk_drew ?_ | refine blk_alloc ?_ _)); refine blk_far ?_ NB742_756.out _; (with_reducible repeat (first | refine blk_drewN ?_ _ | refine blk_drew ?_ | refine blk_alloc ?_ _)); refine blk_far ?_ NB742_756.out _; (with_reducible repeat (first | refine blk_drewN ?_ _ | refine blk_drew ?_ | refine blk_alloc ?_ _)); refine blk_far ?_ NB742_756.out _; (with_reducible repeat (first | refine blk_drewN ?_ _ | refine blk_drew ?_ | refine blk_alloc ?_ _)); refine blk_far ?_ NB742_756.out _; (with_reducible repeat (first | refine blk_drewN ?_ _ | refine blk_drew ?_ | refine blk_alloc ?_ _)); exact BK742.out⟩
            have n2_ : Aside0 (((((((w58.setCell ⟨gb756, 0, none⟩ (.int .i64 t750)).setCell ⟨gb756, 1, none⟩ (.int .i64 t751)).setCell ⟨gb756, 2, none⟩ (.int .i64 t752)).setCell ⟨gb756, 3, none⟩ (.bool t753)).setCell ⟨gb756, 4, none⟩ (.string t754)).setCell ⟨gb756, 5, none⟩ (.int .i64 t755)).heap[gb756]? = some (.cells #[.int .i64 t750, .int .i64 t751, .int .i64 t752, .bool t753, .string t754, .int .i64 t755] 60 (0, 0))) := ⟨by (with_reducible repeat (first | refine blk_drewN ?_ _ | refine blk_drew ?_ | refine blk_alloc ?_ _)); refine blk_put (cs := #[.int .i64 t750, .int .i64 t751, .int .i64 t752, .bool t753, .string t754, .int .i64 0]) ?_ 5 _ rfl; (with_reducible repeat (first | refine blk_drewN ?_ _ | refine blk_drew ?_ | refine blk_alloc ?_ _)); refine blk_put (cs := #[.int .i64 t750, .int .i64 t751, .int .i64 t752, .bool t753, .string (⟨#[]⟩ : ByteArray), .int .i64 0]) ?_ 4 _ rfl; (with_reducible repeat (first | refine blk_drewN ?_ _ | refine blk_drew ?_ | refine blk_alloc ?_ _)); refine blk_put (cs := #[.int .i64 t750, .int .i64 t751, .int .i64 t752, .bool false, .string (⟨#[]⟩ : ByteArray), .int .i64 0]) ?_ 3 _ rfl; (with_reducible repeat (first | refine blk_drewN ?_ _ | refine blk_drew ?_ | refine blk_alloc ?_ _)); refine blk_put (cs := #[.int .i64 t750, .int .i64 t751, .int .i64 0, .bool false, .string (⟨#[]⟩ : ByteArray), .int .i64 0]) ?_ 2 _ rfl; (with_reducible repeat (first | refine blk_drewN ?_ _ | refine blk_drew ?_ | refine blk_alloc ?_ _)); refine blk_put (cs := #[.int .i64 t750, .int .i64 0, .int .i64 0, .bool false, .string (⟨#[]⟩ : ByteArray), .int .i64 0]) ?_ 1 _ rfl; (with_reducible repeat (first | refine blk_drewN ?_ _ | refine blk_drew ?_ | refine blk_alloc ?_ _)); refine blk_put (cs := #[.int .i64 0, .int .i64 0, .int .i64 0, .bool false, .string (⟨#[]⟩ : ByteArray), .int .i64 0]) ?_ 0 _ rfl; (with_reducible repeat (first | refine blk_drewN ?_ _ | refine blk_drew ?_ | refine blk_alloc ?_ _)); exact BK756.out⟩
            have n3_ : Aside0 (Below w.heap.size w ((((((w58.setCell ⟨gb756, 0, none⟩ (.int .i64 t750)).setCell ⟨gb756, 1, none⟩ (.int .i64 t751)).setCell ⟨gb756, 2, none⟩ (.int .i64 t752)).setCell ⟨gb756, 3, none⟩ (.bool t753)).setCell ⟨gb756, 4, none⟩ (.string t754)).setCell ⟨gb756, 5, none⟩ (.int .i64 t755))) := ⟨by repeat (first | (with_reducible first | exact HB.out | apply below_alloc | apply pw_below_drewN | apply below_drew1 | refine below_set ?_ GE742.out | refine below_set ?_ GE756.out) | exact HB.out)⟩
            (try clear HO749)
            (try clear BK742)
            (try clear BK756)
            (try clear HB)
            generalize ((((((w58.setCell ⟨gb756, 0, none⟩ (.int .i64 t750)).setCell ⟨gb756, 1, none⟩ (.int .i64 t751)).setCell ⟨gb756, 2, none⟩ (.int .i64 t752)).setCell ⟨gb756, 3, none⟩ (.bool t753)).setCell ⟨gb756, 4, none⟩ (.string t754)).setCell ⟨gb756, 5, none⟩ (.int .i64 t755)) = w61 at n0_ n1_ n2_ n3_ ⊢
            have HO749 := n0_
            have BK742 := n1_
            have BK756 := n2_
            have HB := n3_
            clear n0_ n1_ n2_ n3_
            have n0_ := Aside0.mk (Kd.R_drew HO749.out)
            have n1_ := Aside0.mk (blk_drew BK742.out)
            have n2_ := Aside0.mk (blk_drew BK756.out)
            have n3_ := Aside0.mk (below_drew1 HB.out)
            clear HO749
            clear BK742
            clear BK756
            clear HB
            have HO749 := n0_
            have BK742 := n1_
            have BK756 := n2_
            have HB := n3_
            clear n0_ n1_ n2_ n3_
            refine start_ (n := 10) (S := fun w' => w'.cell? ⟨gb742, 0, none⟩ = some (.int .i64 a1_0) ∧ w'.cell? ⟨gb742, 1, none⟩ = some (.int .i64 a1_1) ∧ w'.cell? ⟨gb742, 2, none⟩ = some (.int .i64 a1_2) ∧ w'.cell? ⟨gb742, 3, none⟩ = some (.string a1_3) ∧ w'.cell? ⟨gb742, 4, none⟩ = some (.string a1_4) ∧ w'.cell? ⟨gb742, 5, none⟩ = some (.string a1_5) ∧ w'.cell? ⟨gb742, 6, none⟩ = some (.int .i64 a1_6)) (ds := []) #[false, false, false, false, false, false, false, false, false, false] (by kernel_rfl) rfl rfl ⟨(blk_cell BK742.out 0).trans rfl, (blk_cell BK742.out 1).trans rfl, (blk_cell BK742.out 2).trans rfl, (blk_cell BK742.out 3).trans rfl, (blk_cell BK742.out 4).trans rfl, (blk_cell BK742.out 5).trans rfl, (blk_cell BK742.out 6).trans rfl⟩ (fun hHeld => ?_); refine with_tabW changeoverlaw24_KvtwoOlder.tab4 changeoverlaw24_KvtwoOlder.bits4 (fun HT_ HW_ => ?_)
            generalize w61.drew = w62 at HO749 BK742 BK756 HB hHeld ⊢
            refine pure_ (i := 0) (N := some 33) (v := ?_) (a' := ?_) #[true, false, false, false, false, false, false, false, false, false] rfl rfl (any_of HT_.out (by kernel_rfl)) (fun _ _ _ h => h) (Or.inl ⟨by rfl, ?_⟩) ?_ ?_
            rotate_left
            · intro w'
              go_simp
              with_reducible rfl
            rotate_left
            · simp only [Act.put, List.setIfInBounds_toArray, List.set_cons_zero, List.set_cons_succ, i64_w, i32_w]
              rfl
            refine take_ (i := 2) (N := some 35) (v := ?_) (a' := ?_) #[true, false, true, false, false, false, false, false, false, false] rfl rfl (take_ofW HT_.out HW_.out (by kernel_rfl)) (fun _ _ _ h => h) (Or.inl ⟨by rfl, ?_⟩) hHeld ?_ ?_
            rotate_left
            · rintro w' ⟨s0, s1, s2, s3, s4, s5, s6⟩
              go_simp
              with_reducible rfl
            rotate_left
            · simp only [Act.put, List.setIfInBounds_toArray, List.set_cons_zero, List.set_cons_succ, i64_w, i32_w]
              rfl
            refine join_ (σ := Value × Value × Nat) 2 #[true, true, true, true, true, true, true, true, false, false] (fun s_ => [(34, s_.1), (36, .tuple #[s_.2.1, .agg #[.int .i64 t763, .int .i64 t764, .int .i64 t765, .bool t766, .string t767, .int .i64 t768]]), (8, .pointer (some ⟨s_.2.2, 0, none⟩)), (32, .tuple #[s_.2.1, .agg #[.int .i64 t763, .int .i64 t764, .int .i64 t765, .bool t766, .string t767, .int .i64 t768]]), (37, s_.2.1), (38, .agg #[.int .i64 t763, .int .i64 t764, .int .i64 t765, .bool t766, .string t767, .int .i64 t768])]) (fun s_ w' => (w'.cell? ⟨gb742, 0, none⟩ = some (.int .i64 a1_0) ∧ w'.cell? ⟨gb742, 1, none⟩ = some (.int .i64 a1_1) ∧ w'.cell? ⟨gb742, 2, none⟩ = some (.int .i64 a1_2) ∧ w'.cell? ⟨gb742, 3, none⟩ = some (.string a1_3) ∧ w'.cell? ⟨gb742, 4, none⟩ = some (.string a1_4) ∧ w'.cell? ⟨gb742, 5, none⟩ = some (.string a1_5) ∧ w'.cell? ⟨gb742, 6, none⟩ = some (.int .i64 a1_6)) ∧ (Kd.R k78 78 w' w.heap.size (fun k_ => some k_ ≠ (s_.1 : Value).ownBlock ∧ some k_ ≠ (s_.2.1 : Value).ownBlock) v748 t747) ∧ (Kd.R k78 78 w' w.heap.size (fun k_ => some k_ ≠ (v748 : Value).ownBlock ∧ some k_ ≠ (s_.2.1 : Value).ownBlock) s_.1 t757) ∧ (Kd.R k78 78 w' w.heap.size (fun k_ => some k_ ≠ (v748 : Value).ownBlock ∧ some k_ ≠ (s_.1 : Value).ownBlock) s_.2.1 t760) ∧ (w'.heap[gb742]? = some (.cells #[.int .i64 a1_0, .int .i64 a1_1, .int .i64 a1_2, .string a1_3, .string a1_4, .string a1_5, .int .i64 a1_6] 72 (0, 0))) ∧ (w'.heap[gb756]? = some (.cells #[.int .i64 t750, .int .i64 t751, .int .i64 t752, .bool t753, .string t754, .int .i64 t755] 60 (0, 0))) ∧ (w'.heap[s_.2.2]? = some (.cells #[.int .i64 0, .int .i64 0, .int .i64 0, .bool false, .string (⟨#[]⟩ : ByteArray), .int .i64 0] 60 (0, 0))) ∧ (w.heap.size ≤ s_.2.2) ∧ (w.heap.size ≤ s_.2.2) ∧ (gb742 ≠ s_.2.2) ∧ (s_.2.2 ≠ gb742) ∧ (gb756 ≠ s_.2.2) ∧ (s_.2.2 ≠ gb756) ∧ (Below w.heap.size w w')) ?_ ?_
            rotate_left
            · intro hCont
              refine two_ (i := 1) (j := 7) (Ni := some 34) (Nj := some 8) #[true, true, true, false, false, false, false, false, false, false] #[true, false, true, false, false, false, false, true, false, false] rfl rfl rfl rfl (two_of HT_.out (by kernel_rfl)) (by decide) (by decide) (fun K hK => ?_) (fun K hK => ?_)
              · skip
                refine goes_ Try.func71 (by kernel_rfl) rfl #[.slice A0 l0.length c0] (by rfl) rfl rfl (by (try simp only [List.map_toArray, List.map_cons, List.map_nil]); first | done | rfl | (simp only [List.length_drop, List.length_take]; rfl)) ?_
                with_reducible refine (kvtwo_Plain.calls kj2 _ _ l0 t757 _ ?side1 ?side2 A22.out).mono ?_
                (case side1 => repeat (first | exact (Kd.C_below HR0.out HB.out) | (with_reducible refine Kd.C_alloc ?_ _) | (with_reducible refine Kd.C_drewN ?_ _) | (with_reducible refine Kd.C_drew ?_)))
                (case side2 => exact HC0.out)
                rintro e w63 ⟨v758, rfl, ho0, hb⟩
                refine ⟨_, rfl, ?_⟩
                have n0_ := Aside0.mk (Kd.R_elder' (by (with_reducible repeat (first | apply Kd.R_alloc | apply Kd.R_drewN | apply Kd.R_drew)); exact HO749.out) (Kd.R_base ho0) hb)
                have n1_ := Aside0.mk (Kd.R_lower (Kd.R_new' ho0 (Kd.R_lt (by (with_reducible repeat (first | apply Kd.R_alloc | apply Kd.R_drewN | apply Kd.R_drew)); exact HO749.out))) (below_size (by repeat (first | (with_reducible first | exact HB.out | apply below_alloc | apply pw_below_drewN | apply below_drew1 | refine below_set ?_ GE742.out | refine below_set ?_ GE756.out) | exact HB.out))))
                have n2_ := Aside0.mk (blk_below (g := gb742) (o := .cells #[.int .i64 a1_0, .int .i64 a1_1, .int .i64 a1_2, .string a1_3, .string a1_4, .string a1_5, .int .i64 a1_6] 72 (0, 0)) (by (with_reducible repeat (first | refine blk_drewN ?_ _ | refine blk_drew ?_ | refine blk_alloc ?_ _)); exact BK742.out) hb)
                have n3_ := Aside0.mk (blk_below (g := gb756) (o := .cells #[.int .i64 t750, .int .i64 t751, .int .i64 t752, .bool t753, .string t754, .int .i64 t755] 60 (0, 0)) (by (with_reducible repeat (first | refine blk_drewN ?_ _ | refine blk_drew ?_ | refine blk_alloc ?_ _)); exact BK756.out) hb)
                have n4_ := Aside0.mk (below_step (by repeat (first | (with_reducible first | exact HB.out | apply below_alloc | apply pw_below_drewN | apply below_drew1 | refine below_set ?_ GE742.out | refine below_set ?_ GE756.out) | exact HB.out)) hb)
                clear HO749
                clear BK742
                clear BK756
                clear HB
                have HO749 := n0_
                have HO759 := n1_
                have BK742 := n2_
                have BK756 := n3_
                have HB := n4_
                clear n0_ n1_ n2_ n3_ n4_
                (try clear hb)
                (try clear hb2)
                (try clear hk)
                (try clear hi)
                (try clear ho0)
                obtain ⟨Ao64, co64, eo64⟩ := Kd.R_slice HO759.out
                (first | subst eo64 | (injection eo64 with f1_ f2_ f3_; have f4_ := f1_.symm; have f5_ := f3_.symm; clear f1_ f2_ f3_; subst f4_; subst f5_))
                refine hK.out _ _ ⟨(blk_cell BK742.out 0).trans rfl, (blk_cell BK742.out 1).trans rfl, (blk_cell BK742.out 2).trans rfl, (blk_cell BK742.out 3).trans rfl, (blk_cell BK742.out 4).trans rfl, (blk_cell BK742.out 5).trans rfl, (blk_cell BK742.out 6).trans rfl⟩ (fun hHeld => ?_)
                clear hK K
                refine norm_ (a' := ?_) ?_ ?_
                rotate_left
                · show Act.put _ (some 34) _ = _
                  simp only [Act.put, List.setIfInBounds_toArray, List.set_cons_zero, List.set_cons_succ, i64_w, i32_w]
                  rfl
                refine two_ (i := 3) (j := 7) (Ni := some 36) (Nj := some 8) #[true, true, true, true, false, false, false, false, false, false] #[true, true, true, false, false, false, false, true, false, false] rfl rfl rfl rfl (two_of HT_.out (by kernel_rfl)) (by decide) (by decide) (fun K hK => ?_) (fun K hK => ?_)
                · skip
                  refine goes_ Try.func59 (by kernel_rfl) rfl #[.slice Ao64 t757.length co64, .agg #[.int .i64 a1_0, .int .i64 a1_1, .int .i64 a1_2, .string a1_3, .string a1_4, .string a1_5, .int .i64 a1_6]] (by rfl) rfl rfl (by (try simp only [List.map_toArray, List.map_cons, List.map_nil]); first | done | rfl | (simp only [List.length_drop, List.length_take]; rfl)) ?_
                  with_reducible refine (kvone_Do.calls kj2 _ _ t757 a1_0 a1_1 a1_2 a1_3 a1_4 a1_5 a1_6 t760 t763 t764 t765 t766 t767 t768 _ ?side1 ?side2 A23.out).mono ?_
                  (case side1 => repeat (first | exact (Kd.R_reads' HO759.out).2.2 | (with_reducible refine Kd.C_alloc ?_ _) | (with_reducible refine Kd.C_drewN ?_ _) | (with_reducible refine Kd.C_drew ?_)))
                  (case side2 => exact (Kd.R_reads' HO759.out).2.1)
                  rintro e w65 ⟨v761, rfl, ho0, hb⟩
                  refine ⟨_, rfl, ?_⟩
                  have n0_ := Aside0.mk (Kd.R_elder' (by (with_reducible repeat (first | apply Kd.R_alloc | apply Kd.R_drewN | apply Kd.R_drew)); exact HO749.out) (Kd.R_base ho0) hb)
                  have n1_ := Aside0.mk (Kd.R_elder' (by (with_reducible repeat (first | apply Kd.R_alloc | apply Kd.R_drewN | apply Kd.R_drew)); exact HO759.out) (Kd.R_base ho0) hb)
                  have n2_ := Aside0.mk (Kd.R_lower (Kd.R_new' (Kd.R_new' ho0 (Kd.R_lt (by (with_reducible repeat (first | apply Kd.R_alloc | apply Kd.R_drewN | apply Kd.R_drew)); exact HO749.out))) (Kd.R_lt (by (with_reducible repeat (first | apply Kd.R_alloc | apply Kd.R_drewN | apply Kd.R_drew)); exact HO759.out))) (below_size (by repeat (first | (with_reducible first | exact HB.out | apply below_alloc | apply pw_below_drewN | apply below_drew1 | refine below_set ?_ GE742.out | refine below_set ?_ GE756.out) | exact HB.out))))
                  have n3_ := Aside0.mk (blk_below (g := gb742) (o := .cells #[.int .i64 a1_0, .int .i64 a1_1, .int .i64 a1_2, .string a1_3, .string a1_4, .string a1_5, .int .i64 a1_6] 72 (0, 0)) (by (with_reducible repeat (first | refine blk_drewN ?_ _ | refine blk_drew ?_ | refine blk_alloc ?_ _)); exact BK742.out) hb)
                  have n4_ := Aside0.mk (blk_below (g := gb756) (o := .cells #[.int .i64 t750, .int .i64 t751, .int .i64 t752, .bool t753, .string t754, .int .i64 t755] 60 (0, 0)) (by (with_reducible repeat (first | refine blk_drewN ?_ _ | refine blk_drew ?_ | refine blk_alloc ?_ _)); exact BK756.out) hb)
                  have n5_ := Aside0.mk (below_step (by repeat (first | (with_reducible first | exact HB.out | apply below_alloc | apply pw_below_drewN | apply below_drew1 | refine below_set ?_ GE742.out | refine below_set ?_ GE756.out) | exact HB.out)) hb)
                  clear HO749
                  clear HO759
                  clear BK742
                  clear BK756
                  clear HB
                  have HO749 := n0_
                  have HO759 := n1_
                  have HO762 := n2_
                  have BK742 := n3_
                  have BK756 := n4_
                  have HB := n5_
                  clear n0_ n1_ n2_ n3_ n4_ n5_
                  (try clear hb)
                  (try clear hb2)
                  (try clear hk)
                  (try clear hi)
                  (try clear ho0)
                  refine hK.out _ _ ⟨(blk_cell BK742.out 0).trans rfl, (blk_cell BK742.out 1).trans rfl, (blk_cell BK742.out 2).trans rfl, (blk_cell BK742.out 3).trans rfl, (blk_cell BK742.out 4).trans rfl, (blk_cell BK742.out 5).trans rfl, (blk_cell BK742.out 6).trans rfl⟩ (fun hHeld => ?_)
                  clear hK K
                  refine norm_ (a' := ?_) ?_ ?_
                  rotate_left
                  · show Act.put _ (some 36) _ = _
                    simp only [Act.put, List.setIfInBounds_toArray, List.set_cons_zero, List.set_cons_succ, i64_w, i32_w]
                    rfl
                  refine pure_ (i := 4) (N := some 32) (v := ?_) (a' := ?_) #[true, true, true, true, true, false, false, false, false, false] rfl rfl (any_of HT_.out (by kernel_rfl)) (fun _ _ _ h => h) (Or.inl ⟨by rfl, ?_⟩) ?_ ?_
                  rotate_left
                  · intro w'
                    go_simp
                    with_reducible rfl
                  rotate_left
                  · simp only [Act.put, List.setIfInBounds_toArray, List.set_cons_zero, List.set_cons_succ, i64_w, i32_w]
                    rfl
                  refine pure_ (i := 5) (N := some 37) (v := ?_) (a' := ?_) #[true, true, true, true, true, true, false, false, false, false] rfl rfl (any_of HT_.out (by kernel_rfl)) (fun _ _ _ h => h) (Or.inl ⟨by rfl, ?_⟩) ?_ ?_
                  rotate_left
                  · intro w'
                    go_simp
                    with_reducible rfl
                  rotate_left
                  · simp only [Act.put, List.setIfInBounds_toArray, List.set_cons_zero, List.set_cons_succ, i64_w, i32_w]
                    rfl
                  refine pure_ (i := 6) (N := some 38) (v := ?_) (a' := ?_) #[true, true, true, true, true, true, true, false, false, false] rfl rfl (any_of HT_.out (by kernel_rfl)) (fun _ _ _ h => h) (Or.inl ⟨by rfl, ?_⟩) ?_ ?_
                  rotate_left
                  · intro w'
                    go_simp
                    with_reducible rfl
                  rotate_left
                  · simp only [Act.put, List.setIfInBounds_toArray, List.set_cons_zero, List.set_cons_succ, i64_w, i32_w]
                    rfl
                  refine one_ (i := 7) (N := some 8) #[true, true, true, true, true, true, true, true, false, false] rfl rfl (one_of HT_.out (by kernel_rfl)) (by decide) (fun K hK => ?_)
                  refine box_step ?hg (N := 8) ?hd (cs := #[.int .i64 0, .int .i64 0, .int .i64 0, .bool false, .string (⟨#[]⟩ : ByteArray), .int .i64 0]) (t := 60) ?hr ?_; (case hd => rfl); (case hg => rfl); (case hr => first | (go_simp; done) | (go_simp; rfl))
                  intro gb769 hg w66 hbox hb
                  have n0_ := Aside0.mk (Kd.R_below (by (with_reducible repeat (first | apply Kd.R_alloc | apply Kd.R_drewN | apply Kd.R_drew)); exact HO749.out) hb)
                  have n1_ := Aside0.mk (Kd.R_below (by (with_reducible repeat (first | apply Kd.R_alloc | apply Kd.R_drewN | apply Kd.R_drew)); exact HO759.out) hb)
                  have n2_ := Aside0.mk (Kd.R_below (by (with_reducible repeat (first | apply Kd.R_alloc | apply Kd.R_drewN | apply Kd.R_drew)); exact HO762.out) hb)
                  have n3_ := Aside0.mk (blk_below (g := gb742) (o := .cells #[.int .i64 a1_0, .int .i64 a1_1, .int .i64 a1_2, .string a1_3, .string a1_4, .string a1_5, .int .i64 a1_6] 72 (0, 0)) (by (with_reducible repeat (first | refine blk_drewN ?_ _ | refine blk_drew ?_ | refine blk_alloc ?_ _)); exact BK742.out) hb)
                  have n4_ := Aside0.mk (blk_below (g := gb756) (o := .cells #[.int .i64 t750, .int .i64 t751, .int .i64 t752, .bool t753, .string t754, .int .i64 t755] 60 (0, 0)) (by (with_reducible repeat (first | refine blk_drewN ?_ _ | refine blk_drew ?_ | refine blk_alloc ?_ _)); exact BK756.out) hb)
                  have n5_ := Aside0.mk (below_step (by repeat (first | (with_reducible first | exact HB.out | apply below_alloc | apply pw_below_drewN | apply below_drew1 | refine below_set ?_ GE742.out | refine below_set ?_ GE756.out) | exact HB.out)) hb)
                  have n6_ := Aside0.mk (hbox)
                  have n7_ := Aside0.mk ((by rw [hg]; exact (below_size (by repeat (first | (with_reducible first | exact HB.out | apply below_alloc | apply pw_below_drewN | apply below_drew1 | refine below_set ?_ GE742.out | refine below_set ?_ GE756.out) | exact HB.out))) : w.heap.size ≤ gb769))
                  have n8_ := Aside0.mk ((by rw [hg]; exact (below_size (by repeat (first | (with_reducible first | exact HB.out | apply below_alloc | apply pw_below_drewN | apply below_drew1 | refine below_set ?_ GE742.out | refine below_set ?_ GE756.out) | exact HB.out))) : w.heap.size ≤ gb769))
                  have n9_ := Aside0.mk ((by rw [hg]; exact Nat.ne_of_lt (blk_lt (g := gb742) (o := .cells #[.int .i64 a1_0, .int .i64 a1_1, .int .i64 a1_2, .string a1_3, .string a1_4, .string a1_5, .int .i64 a1_6] 72 (0, 0)) (by (with_reducible repeat (first | refine blk_drewN ?_ _ | refine blk_drew ?_ | refine blk_alloc ?_ _)); exact BK742.out)) : gb742 ≠ gb769))
                  have n10_ := Aside0.mk ((by rw [hg]; exact Nat.ne_of_gt (blk_lt (g := gb742) (o := .cells #[.int .i64 a1_0, .int .i64 a1_1, .int .i64 a1_2, .string a1_3, .string a1_4, .string a1_5, .int .i64 a1_6] 72 (0, 0)) (by (with_reducible repeat (first | refine blk_drewN ?_ _ | refine blk_drew ?_ | refine blk_alloc ?_ _)); exact BK742.out)) : gb769 ≠ gb742))
                  have n11_ := Aside0.mk ((by rw [hg]; exact Nat.ne_of_lt (blk_lt (g := gb756) (o := .cells #[.int .i64 t750, .int .i64 t751, .int .i64 t752, .bool t753, .string t754, .int .i64 t755] 60 (0, 0)) (by (with_reducible repeat (first | refine blk_drewN ?_ _ | refine blk_drew ?_ | refine blk_alloc ?_ _)); exact BK756.out)) : gb756 ≠ gb769))
                  have n12_ := Aside0.mk ((by rw [hg]; exact Nat.ne_of_gt (blk_lt (g := gb756) (o := .cells #[.int .i64 t750, .int .i64 t751, .int .i64 t752, .bool t753, .string t754, .int .i64 t755] 60 (0, 0)) (by (with_reducible repeat (first | refine blk_drewN ?_ _ | refine blk_drew ?_ | refine blk_alloc ?_ _)); exact BK756.out)) : gb769 ≠ gb756))
                  clear HO749
                  clear HO759
                  clear HO762
                  clear BK742
                  clear BK756
                  clear HB
                  have HO749 := n0_
                  have HO759 := n1_
                  have HO762 := n2_
                  have BK742 := n3_
                  have BK756 := n4_
                  have HB := n5_
                  have BK769 := n6_
                  have GW769 := n7_
                  have GE769 := n8_
                  have NB742_769 := n9_
                  have NB769_742 := n10_
                  have NB756_769 := n11_
                  have NB769_756 := n12_
                  clear n0_ n1_ n2_ n3_ n4_ n5_ n6_ n7_ n8_ n9_ n10_ n11_ n12_
                  clear hb hbox hg
                  refine hK.out _ _ ⟨(blk_cell BK742.out 0).trans rfl, (blk_cell BK742.out 1).trans rfl, (blk_cell BK742.out 2).trans rfl, (blk_cell BK742.out 3).trans rfl, (blk_cell BK742.out 4).trans rfl, (blk_cell BK742.out 5).trans rfl, (blk_cell BK742.out 6).trans rfl⟩ (fun hHeld => ?_)
                  clear hK K
                  refine norm_ (a' := ?_) ?_ ?_
                  rotate_left
                  · show Act.put _ (some 8) _ = _
                    simp only [Act.put, List.setIfInBounds_toArray, List.set_cons_zero, List.set_cons_succ, i64_w, i32_w]
                    rfl
                  exact norm_ (by simp only [putAll, Act.put, List.setIfInBounds_toArray, List.set_cons_zero, List.set_cons_succ]) (hCont (.slice Ao64 t757.length co64, v761, gb769) _ ⟨hHeld, (by (with_reducible repeat (first | apply Kd.R_alloc | apply Kd.R_drewN | apply Kd.R_drew)); exact Kd.R_mono HO749.out (fun _ hk => ⟨hk.1.2, hk.2⟩)), (by (with_reducible repeat (first | apply Kd.R_alloc | apply Kd.R_drewN | apply Kd.R_drew)); exact Kd.R_mono HO759.out (fun _ hk => ⟨hk.1.2, hk.2⟩)), (by (with_reducible repeat (first | apply Kd.R_alloc | apply Kd.R_drewN | apply Kd.R_drew)); exact Kd.R_mono HO762.out (fun _ hk => ⟨hk.1.2, hk.2⟩)), (by (with_reducible repeat (first | refine blk_drewN ?_ _ | refine blk_drew ?_ | refine blk_alloc ?_ _)); exact BK742.out), (by (with_reducible repeat (first | refine blk_drewN ?_ _ | refine blk_drew ?_ | refine blk_alloc ?_ _)); exact BK756.out), (by (with_reducible repeat (first | refine blk_drewN ?_ _ | refine blk_drew ?_ | refine blk_alloc ?_ _)); exact BK769.out), GW769.out, GE769.out, NB742_769.out, NB769_742.out, NB756_769.out, NB769_756.out, (by repeat (first | (with_reducible first | exact HB.out | apply below_alloc | apply pw_below_drewN | apply below_drew1 | refine below_set ?_ GE742.out | refine below_set ?_ GE756.out | refine below_set ?_ GE769.out) | exact HB.out))⟩)
                · skip
                  refine box_step ?hg (N := 8) ?hd (cs := #[.int .i64 0, .int .i64 0, .int .i64 0, .bool false, .string (⟨#[]⟩ : ByteArray), .int .i64 0]) (t := 60) ?hr ?_; (case hd => rfl); (case hg => rfl); (case hr => first | (go_simp; done) | (go_simp; rfl))
                  intro gb769 hg w64 hbox hb
                  have n0_ := Aside0.mk (Kd.R_below (by (with_reducible repeat (first | apply Kd.R_alloc | apply Kd.R_drewN | apply Kd.R_drew)); exact HO749.out) hb)
                  have n1_ := Aside0.mk (Kd.R_below (by (with_reducible repeat (first | apply Kd.R_alloc | apply Kd.R_drewN | apply Kd.R_drew)); exact HO759.out) hb)
                  have n2_ := Aside0.mk (blk_below (g := gb742) (o := .cells #[.int .i64 a1_0, .int .i64 a1_1, .int .i64 a1_2, .string a1_3, .string a1_4, .string a1_5, .int .i64 a1_6] 72 (0, 0)) (by (with_reducible repeat (first | refine blk_drewN ?_ _ | refine blk_drew ?_ | refine blk_alloc ?_ _)); exact BK742.out) hb)
                  have n3_ := Aside0.mk (blk_below (g := gb756) (o := .cells #[.int .i64 t750, .int .i64 t751, .int .i64 t752, .bool t753, .string t754, .int .i64 t755] 60 (0, 0)) (by (with_reducible repeat (first | refine blk_drewN ?_ _ | refine blk_drew ?_ | refine blk_alloc ?_ _)); exact BK756.out) hb)
                  have n4_ := Aside0.mk (below_step (by repeat (first | (with_reducible first | exact HB.out | apply below_alloc | apply pw_below_drewN | apply below_drew1 | refine below_set ?_ GE742.out | refine below_set ?_ GE756.out) | exact HB.out)) hb)
                  have n5_ := Aside0.mk (hbox)
                  have n6_ := Aside0.mk ((by rw [hg]; exact (below_size (by repeat (first | (with_reducible first | exact HB.out | apply below_alloc | apply pw_below_drewN | apply below_drew1 | refine below_set ?_ GE742.out | refine below_set ?_ GE756.out) | exact HB.out))) : w.heap.size ≤ gb769))
                  have n7_ := Aside0.mk ((by rw [hg]; exact (below_size (by repeat (first | (with_reducible first | exact HB.out | apply below_alloc | apply pw_below_drewN | apply below_drew1 | refine below_set ?_ GE742.out | refine below_set ?_ GE756.out) | exact HB.out))) : w.heap.size ≤ gb769))
                  have n8_ := Aside0.mk ((by rw [hg]; exact Nat.ne_of_lt (blk_lt (g := gb742) (o := .cells #[.int .i64 a1_0, .int .i64 a1_1, .int .i64 a1_2, .string a1_3, .string a1_4, .string a1_5, .int .i64 a1_6] 72 (0, 0)) (by (with_reducible repeat (first | refine blk_drewN ?_ _ | refine blk_drew ?_ | refine blk_alloc ?_ _)); exact BK742.out)) : gb742 ≠ gb769))
                  have n9_ := Aside0.mk ((by rw [hg]; exact Nat.ne_of_gt (blk_lt (g := gb742) (o := .cells #[.int .i64 a1_0, .int .i64 a1_1, .int .i64 a1_2, .string a1_3, .string a1_4, .string a1_5, .int .i64 a1_6] 72 (0, 0)) (by (with_reducible repeat (first | refine blk_drewN ?_ _ | refine blk_drew ?_ | refine blk_alloc ?_ _)); exact BK742.out)) : gb769 ≠ gb742))
                  have n10_ := Aside0.mk ((by rw [hg]; exact Nat.ne_of_lt (blk_lt (g := gb756) (o := .cells #[.int .i64 t750, .int .i64 t751, .int .i64 t752, .bool t753, .string t754, .int .i64 t755] 60 (0, 0)) (by (with_reducible repeat (first | refine blk_drewN ?_ _ | refine blk_drew ?_ | refine blk_alloc ?_ _)); exact BK756.out)) : gb756 ≠ gb769))
                  have n11_ := Aside0.mk ((by rw [hg]; exact Nat.ne_of_gt (blk_lt (g := gb756) (o := .cells #[.int .i64 t750, .int .i64 t751, .int .i64 t752, .bool t753, .string t754, .int .i64 t755] 60 (0, 0)) (by (with_reducible repeat (first | refine blk_drewN ?_ _ | refine blk_drew ?_ | refine blk_alloc ?_ _)); exact BK756.out)) : gb769 ≠ gb756))
                  clear HO749
                  clear HO759
                  clear BK742
                  clear BK756
                  clear HB
                  have HO749 := n0_
                  have HO759 := n1_
                  have BK742 := n2_
                  have BK756 := n3_
                  have HB := n4_
                  have BK769 := n5_
                  have GW769 := n6_
                  have GE769 := n7_
                  have NB742_769 := n8_
                  have NB769_742 := n9_
                  have NB756_769 := n10_
                  have NB769_756 := n11_
                  clear n0_ n1_ n2_ n3_ n4_ n5_ n6_ n7_ n8_ n9_ n10_ n11_
                  clear hb hbox hg
                  obtain ⟨Ao65, co65, eo65⟩ := Kd.R_slice HO759.out
                  (first | subst eo65 | (injection eo65 with f1_ f2_ f3_; have f4_ := f1_.symm; have f5_ := f3_.symm; clear f1_ f2_ f3_; subst f4_; subst f5_))
                  refine hK.out _ _ ⟨(blk_cell BK742.out 0).trans rfl, (blk_cell BK742.out 1).trans rfl, (blk_cell BK742.out 2).trans rfl, (blk_cell BK742.out 3).trans rfl, (blk_cell BK742.out 4).trans rfl, (blk_cell BK742.out 5).trans rfl, (blk_cell BK742.out 6).trans rfl⟩ (fun hHeld => ?_)
                  clear hK K
                  refine norm_ (a' := ?_) ?_ ?_
                  rotate_left
                  · show Act.put _ (some 8) _ = _
                    simp only [Act.put, List.setIfInBounds_toArray, List.set_cons_zero, List.set_cons_succ, i64_w, i32_w]
                    rfl
                  refine one_ (i := 3) (N := some 36) #[true, true, true, true, false, false, false, true, false, false] rfl rfl (one_of HT_.out (by kernel_rfl)) (by decide) (fun K hK => ?_)
                  refine goes_ Try.func59 (by kernel_rfl) rfl #[.slice Ao65 t757.length co65, .agg #[.int .i64 a1_0, .int .i64 a1_1, .int .i64 a1_2, .string a1_3, .string a1_4, .string a1_5, .int .i64 a1_6]] (by rfl) rfl rfl (by (try simp only [List.map_toArray, List.map_cons, List.map_nil]); first | done | rfl | (simp only [List.length_drop, List.length_take]; rfl)) ?_
                  with_reducible refine (kvone_Do.calls kj2 _ _ t757 a1_0 a1_1 a1_2 a1_3 a1_4 a1_5 a1_6 t760 t763 t764 t765 t766 t767 t768 _ ?side1 ?side2 A23.out).mono ?_
                  (case side1 => repeat (first | exact (Kd.R_reads' HO759.out).2.2 | (with_reducible refine Kd.C_alloc ?_ _) | (with_reducible refine Kd.C_drewN ?_ _) | (with_reducible refine Kd.C_drew ?_)))
                  (case side2 => exact (Kd.R_reads' HO759.out).2.1)
                  rintro e w66 ⟨v761, rfl, ho0, hb⟩
                  refine ⟨_, rfl, ?_⟩
                  have n0_ := Aside0.mk (Kd.R_elder' (by (with_reducible repeat (first | apply Kd.R_alloc | apply Kd.R_drewN | apply Kd.R_drew)); exact HO749.out) (Kd.R_base ho0) hb)
                  have n1_ := Aside0.mk (Kd.R_elder' (by (with_reducible repeat (first | apply Kd.R_alloc | apply Kd.R_drewN | apply Kd.R_drew)); exact HO759.out) (Kd.R_base ho0) hb)
                  have n2_ := Aside0.mk (Kd.R_lower (Kd.R_new' (Kd.R_new' ho0 (Kd.R_lt (by (with_reducible repeat (first | apply Kd.R_alloc | apply Kd.R_drewN | apply Kd.R_drew)); exact HO749.out))) (Kd.R_lt (by (with_reducible repeat (first | apply Kd.R_alloc | apply Kd.R_drewN | apply Kd.R_drew)); exact HO759.out))) (below_size (by repeat (first | (with_reducible first | exact HB.out | apply below_alloc | apply pw_below_drewN | apply below_drew1 | refine below_set ?_ GE742.out | refine below_set ?_ GE756.out | refine below_set ?_ GE769.out) | exact HB.out))))
                  have n3_ := Aside0.mk (blk_below (g := gb742) (o := .cells #[.int .i64 a1_0, .int .i64 a1_1, .int .i64 a1_2, .string a1_3, .string a1_4, .string a1_5, .int .i64 a1_6] 72 (0, 0)) (by (with_reducible repeat (first | refine blk_drewN ?_ _ | refine blk_drew ?_ | refine blk_alloc ?_ _)); exact BK742.out) hb)
                  have n4_ := Aside0.mk (blk_below (g := gb756) (o := .cells #[.int .i64 t750, .int .i64 t751, .int .i64 t752, .bool t753, .string t754, .int .i64 t755] 60 (0, 0)) (by (with_reducible repeat (first | refine blk_drewN ?_ _ | refine blk_drew ?_ | refine blk_alloc ?_ _)); exact BK756.out) hb)
                  have n5_ := Aside0.mk (blk_below (g := gb769) (o := .cells #[.int .i64 0, .int .i64 0, .int .i64 0, .bool false, .string (⟨#[]⟩ : ByteArray), .int .i64 0] 60 (0, 0)) (by (with_reducible repeat (first | refine blk_drewN ?_ _ | refine blk_drew ?_ | refine blk_alloc ?_ _)); exact BK769.out) hb)
                  have n6_ := Aside0.mk (below_step (by repeat (first | (with_reducible first | exact HB.out | apply below_alloc | apply pw_below_drewN | apply below_drew1 | refine below_set ?_ GE742.out | refine below_set ?_ GE756.out | refine below_set ?_ GE769.out) | exact HB.out)) hb)
                  clear HO749
                  clear HO759
                  clear BK742
                  clear BK756
                  clear BK769
                  clear HB
                  have HO749 := n0_
                  have HO759 := n1_
                  have HO762 := n2_
                  have BK742 := n3_
                  have BK756 := n4_
                  have BK769 := n5_
                  have HB := n6_
                  clear n0_ n1_ n2_ n3_ n4_ n5_ n6_
                  (try clear hb)
                  (try clear hb2)
                  (try clear hk)
                  (try clear hi)
                  (try clear ho0)
                  refine hK.out _ _ ⟨(blk_cell BK742.out 0).trans rfl, (blk_cell BK742.out 1).trans rfl, (blk_cell BK742.out 2).trans rfl, (blk_cell BK742.out 3).trans rfl, (blk_cell BK742.out 4).trans rfl, (blk_cell BK742.out 5).trans rfl, (blk_cell BK742.out 6).trans rfl⟩ (fun hHeld => ?_)
                  clear hK K
                  refine norm_ (a' := ?_) ?_ ?_
                  rotate_left
                  · show Act.put _ (some 36) _ = _
                    simp only [Act.put, List.setIfInBounds_toArray, List.set_cons_zero, List.set_cons_succ, i64_w, i32_w]
                    rfl
                  refine pure_ (i := 4) (N := some 32) (v := ?_) (a' := ?_) #[true, true, true, true, true, false, false, true, false, false] rfl rfl (any_of HT_.out (by kernel_rfl)) (fun _ _ _ h => h) (Or.inl ⟨by rfl, ?_⟩) ?_ ?_
                  rotate_left
                  · intro w'
                    go_simp
                    with_reducible rfl
                  rotate_left
                  · simp only [Act.put, List.setIfInBounds_toArray, List.set_cons_zero, List.set_cons_succ, i64_w, i32_w]
                    rfl
                  refine pure_ (i := 5) (N := some 37) (v := ?_) (a' := ?_) #[true, true, true, true, true, true, false, true, false, false] rfl rfl (any_of HT_.out (by kernel_rfl)) (fun _ _ _ h => h) (Or.inl ⟨by rfl, ?_⟩) ?_ ?_
                  rotate_left
                  · intro w'
                    go_simp
                    with_reducible rfl
                  rotate_left
                  · simp only [Act.put, List.setIfInBounds_toArray, List.set_cons_zero, List.set_cons_succ, i64_w, i32_w]
                    rfl
                  refine pure_ (i := 6) (N := some 38) (v := ?_) (a' := ?_) #[true, true, true, true, true, true, true, true, false, false] rfl rfl (any_of HT_.out (by kernel_rfl)) (fun _ _ _ h => h) (Or.inl ⟨by rfl, ?_⟩) ?_ ?_
                  rotate_left
                  · intro w'
                    go_simp
                    with_reducible rfl
                  rotate_left
                  · simp only [Act.put, List.setIfInBounds_toArray, List.set_cons_zero, List.set_cons_succ, i64_w, i32_w]
                    rfl
                  exact norm_ (by simp only [putAll, Act.put, List.setIfInBounds_toArray, List.set_cons_zero, List.set_cons_succ]) (hCont (.slice Ao65 t757.length co65, v761, gb769) _ ⟨hHeld, (by (with_reducible repeat (first | apply Kd.R_alloc | apply Kd.R_drewN | apply Kd.R_drew)); exact Kd.R_mono HO749.out (fun _ hk => ⟨hk.1.2, hk.2⟩)), (by (with_reducible repeat (first | apply Kd.R_alloc | apply Kd.R_drewN | apply Kd.R_drew)); exact Kd.R_mono HO759.out (fun _ hk => ⟨hk.1.2, hk.2⟩)), (by (with_reducible repeat (first | apply Kd.R_alloc | apply Kd.R_drewN | apply Kd.R_drew)); exact Kd.R_mono HO762.out (fun _ hk => ⟨hk.1.2, hk.2⟩)), (by (with_reducible repeat (first | refine blk_drewN ?_ _ | refine blk_drew ?_ | refine blk_alloc ?_ _)); exact BK742.out), (by (with_reducible repeat (first | refine blk_drewN ?_ _ | refine blk_drew ?_ | refine blk_alloc ?_ _)); exact BK756.out), (by (with_reducible repeat (first | refine blk_drewN ?_ _ | refine blk_drew ?_ | refine blk_alloc ?_ _)); exact BK769.out), GW769.out, GE769.out, NB742_769.out, NB769_742.out, NB756_769.out, NB769_756.out, (by repeat (first | (with_reducible first | exact HB.out | apply below_alloc | apply pw_below_drewN | apply below_drew1 | refine below_set ?_ GE742.out | refine below_set ?_ GE756.out | refine below_set ?_ GE769.out) | exact HB.out))⟩)
              · skip
                refine box_step ?hg (N := 8) ?hd (cs := #[.int .i64 0, .int .i64 0, .int .i64 0, .bool false, .string (⟨#[]⟩ : ByteArray), .int .i64 0]) (t := 60) ?hr ?_; (case hd => rfl); (case hg => rfl); (case hr => first | (go_simp; done) | (go_simp; rfl))
                intro gb769 hg w63 hbox hb
                have n0_ := Aside0.mk (Kd.R_below (by (with_reducible repeat (first | apply Kd.R_alloc | apply Kd.R_drewN | apply Kd.R_drew)); exact HO749.out) hb)
                have n1_ := Aside0.mk (blk_below (g := gb742) (o := .cells #[.int .i64 a1_0, .int .i64 a1_1, .int .i64 a1_2, .string a1_3, .string a1_4, .string a1_5, .int .i64 a1_6] 72 (0, 0)) (by (with_reducible repeat (first | refine blk_drewN ?_ _ | refine blk_drew ?_ | refine blk_alloc ?_ _)); exact BK742.out) hb)
                have n2_ := Aside0.mk (blk_below (g := gb756) (o := .cells #[.int .i64 t750, .int .i64 t751, .int .i64 t752, .bool t753, .string t754, .int .i64 t755] 60 (0, 0)) (by (with_reducible repeat (first | refine blk_drewN ?_ _ | refine blk_drew ?_ | refine blk_alloc ?_ _)); exact BK756.out) hb)
                have n3_ := Aside0.mk (below_step (by repeat (first | (with_reducible first | exact HB.out | apply below_alloc | apply pw_below_drewN | apply below_drew1 | refine below_set ?_ GE742.out | refine below_set ?_ GE756.out) | exact HB.out)) hb)
                have n4_ := Aside0.mk (hbox)
                have n5_ := Aside0.mk ((by rw [hg]; exact (below_size (by repeat (first | (with_reducible first | exact HB.out | apply below_alloc | apply pw_below_drewN | apply below_drew1 | refine below_set ?_ GE742.out | refine below_set ?_ GE756.out) | exact HB.out))) : w.heap.size ≤ gb769))
                have n6_ := Aside0.mk ((by rw [hg]; exact (below_size (by repeat (first | (with_reducible first | exact HB.out | apply below_alloc | apply pw_below_drewN | apply below_drew1 | refine below_set ?_ GE742.out | refine below_set ?_ GE756.out) | exact HB.out))) : w.heap.size ≤ gb769))
                have n7_ := Aside0.mk ((by rw [hg]; exact Nat.ne_of_lt (blk_lt (g := gb742) (o := .cells #[.int .i64 a1_0, .int .i64 a1_1, .int .i64 a1_2, .string a1_3, .string a1_4, .string a1_5, .int .i64 a1_6] 72 (0, 0)) (by (with_reducible repeat (first | refine blk_drewN ?_ _ | refine blk_drew ?_ | refine blk_alloc ?_ _)); exact BK742.out)) : gb742 ≠ gb769))
                have n8_ := Aside0.mk ((by rw [hg]; exact Nat.ne_of_gt (blk_lt (g := gb742) (o := .cells #[.int .i64 a1_0, .int .i64 a1_1, .int .i64 a1_2, .string a1_3, .string a1_4, .string a1_5, .int .i64 a1_6] 72 (0, 0)) (by (with_reducible repeat (first | refine blk_drewN ?_ _ | refine blk_drew ?_ | refine blk_alloc ?_ _)); exact BK742.out)) : gb769 ≠ gb742))
                have n9_ := Aside0.mk ((by rw [hg]; exact Nat.ne_of_lt (blk_lt (g := gb756) (o := .cells #[.int .i64 t750, .int .i64 t751, .int .i64 t752, .bool t753, .string t754, .int .i64 t755] 60 (0, 0)) (by (with_reducible repeat (first | refine blk_drewN ?_ _ | refine blk_drew ?_ | refine blk_alloc ?_ _)); exact BK756.out)) : gb756 ≠ gb769))
                have n10_ := Aside0.mk ((by rw [hg]; exact Nat.ne_of_gt (blk_lt (g := gb756) (o := .cells #[.int .i64 t750, .int .i64 t751, .int .i64 t752, .bool t753, .string t754, .int .i64 t755] 60 (0, 0)) (by (with_reducible repeat (first | refine blk_drewN ?_ _ | refine blk_drew ?_ | refine blk_alloc ?_ _)); exact BK756.out)) : gb769 ≠ gb756))
                clear HO749
                clear BK742
                clear BK756
                clear HB
                have HO749 := n0_
                have BK742 := n1_
                have BK756 := n2_
                have HB := n3_
                have BK769 := n4_
                have GW769 := n5_
                have GE769 := n6_
                have NB742_769 := n7_
                have NB769_742 := n8_
                have NB756_769 := n9_
                have NB769_756 := n10_
                clear n0_ n1_ n2_ n3_ n4_ n5_ n6_ n7_ n8_ n9_ n10_
                clear hb hbox hg
                refine hK.out _ _ ⟨(blk_cell BK742.out 0).trans rfl, (blk_cell BK742.out 1).trans rfl, (blk_cell BK742.out 2).trans rfl, (blk_cell BK742.out 3).trans rfl, (blk_cell BK742.out 4).trans rfl, (blk_cell BK742.out 5).trans rfl, (blk_cell BK742.out 6).trans rfl⟩ (fun hHeld => ?_)
                clear hK K
                refine norm_ (a' := ?_) ?_ ?_
                rotate_left
                · show Act.put _ (some 8) _ = _
                  simp only [Act.put, List.setIfInBounds_toArray, List.set_cons_zero, List.set_cons_succ, i64_w, i32_w]
                  rfl
                refine one_ (i := 1) (N := some 34) #[true, true, true, false, false, false, false, true, false, false] rfl rfl (one_of HT_.out (by kernel_rfl)) (by decide) (fun K hK => ?_)
                refine goes_ Try.func71 (by kernel_rfl) rfl #[.slice A0 l0.length c0] (by rfl) rfl rfl (by (try simp only [List.map_toArray, List.map_cons, List.map_nil]); first | done | rfl | (simp only [List.length_drop, List.length_take]; rfl)) ?_
                with_reducible refine (kvtwo_Plain.calls kj2 _ _ l0 t757 _ ?side1 ?side2 A22.out).mono ?_
                (case side1 => repeat (first | exact (Kd.C_below HR0.out HB.out) | (with_reducible refine Kd.C_alloc ?_ _) | (with_reducible refine Kd.C_drewN ?_ _) | (with_reducible refine Kd.C_drew ?_)))
                (case side2 => exact HC0.out)
                rintro e w64 ⟨v758, rfl, ho0, hb⟩
                refine ⟨_, rfl, ?_⟩
                have n0_ := Aside0.mk (Kd.R_elder' (by (with_reducible repeat (first | apply Kd.R_alloc | apply Kd.R_drewN | apply Kd.R_drew)); exact HO749.out) (Kd.R_base ho0) hb)
                have n1_ := Aside0.mk (Kd.R_lower (Kd.R_new' ho0 (Kd.R_lt (by (with_reducible repeat (first | apply Kd.R_alloc | apply Kd.R_drewN | apply Kd.R_drew)); exact HO749.out))) (below_size (by repeat (first | (with_reducible first | exact HB.out | apply below_alloc | apply pw_below_drewN | apply below_drew1 | refine below_set ?_ GE742.out | refine below_set ?_ GE756.out | refine below_set ?_ GE769.out) | exact HB.out))))
                have n2_ := Aside0.mk (blk_below (g := gb742) (o := .cells #[.int .i64 a1_0, .int .i64 a1_1, .int .i64 a1_2, .string a1_3, .string a1_4, .string a1_5, .int .i64 a1_6] 72 (0, 0)) (by (with_reducible repeat (first | refine blk_drewN ?_ _ | refine blk_drew ?_ | refine blk_alloc ?_ _)); exact BK742.out) hb)
                have n3_ := Aside0.mk (blk_below (g := gb756) (o := .cells #[.int .i64 t750, .int .i64 t751, .int .i64 t752, .bool t753, .string t754, .int .i64 t755] 60 (0, 0)) (by (with_reducible repeat (first | refine blk_drewN ?_ _ | refine blk_drew ?_ | refine blk_alloc ?_ _)); exact BK756.out) hb)
                have n4_ := Aside0.mk (blk_below (g := gb769) (o := .cells #[.int .i64 0, .int .i64 0, .int .i64 0, .bool false, .string (⟨#[]⟩ : ByteArray), .int .i64 0] 60 (0, 0)) (by (with_reducible repeat (first | refine blk_drewN ?_ _ | refine blk_drew ?_ | refine blk_alloc ?_ _)); exact BK769.out) hb)
                have n5_ := Aside0.mk (below_step (by repeat (first | (with_reducible first | exact HB.out | apply below_alloc | apply pw_below_drewN | apply below_drew1 | refine below_set ?_ GE742.out | refine below_set ?_ GE756.out | refine below_set ?_ GE769.out) | exact HB.out)) hb)
                clear HO749
                clear BK742
                clear BK756
                clear BK769
                clear HB
                have HO749 := n0_
                have HO759 := n1_
                have BK742 := n2_
                have BK756 := n3_
                have BK769 := n4_
                have HB := n5_
                clear n0_ n1_ n2_ n3_ n4_ n5_
                (try clear hb)
                (try clear hb2)
                (try clear hk)
                (try clear hi)
                (try clear ho0)
                obtain ⟨Ao65, co65, eo65⟩ := Kd.R_slice HO759.out
                (first | subst eo65 | (injection eo65 with f1_ f2_ f3_; have f4_ := f1_.symm; have f5_ := f3_.symm; clear f1_ f2_ f3_; subst f4_; subst f5_))
                refine hK.out _ _ ⟨(blk_cell BK742.out 0).trans rfl, (blk_cell BK742.out 1).trans rfl, (blk_cell BK742.out 2).trans rfl, (blk_cell BK742.out 3).trans rfl, (blk_cell BK742.out 4).trans rfl, (blk_cell BK742.out 5).trans rfl, (blk_cell BK742.out 6).trans rfl⟩ (fun hHeld => ?_)
                clear hK K
                refine norm_ (a' := ?_) ?_ ?_
                rotate_left
                · show Act.put _ (some 34) _ = _
                  simp only [Act.put, List.setIfInBounds_toArray, List.set_cons_zero, List.set_cons_succ, i64_w, i32_w]
                  rfl
                refine one_ (i := 3) (N := some 36) #[true, true, true, true, false, false, false, true, false, false] rfl rfl (one_of HT_.out (by kernel_rfl)) (by decide) (fun K hK => ?_)
                refine goes_ Try.func59 (by kernel_rfl) rfl #[.slice Ao65 t757.length co65, .agg #[.int .i64 a1_0, .int .i64 a1_1, .int .i64 a1_2, .string a1_3, .string a1_4, .string a1_5, .int .i64 a1_6]] (by rfl) rfl rfl (by (try simp only [List.map_toArray, List.map_cons, List.map_nil]); first | done | rfl | (simp only [List.length_drop, List.length_take]; rfl)) ?_
                with_reducible refine (kvone_Do.calls kj2 _ _ t757 a1_0 a1_1 a1_2 a1_3 a1_4 a1_5 a1_6 t760 t763 t764 t765 t766 t767 t768 _ ?side1 ?side2 A23.out).mono ?_
                (case side1 => repeat (first | exact (Kd.R_reads' HO759.out).2.2 | (with_reducible refine Kd.C_alloc ?_ _) | (with_reducible refine Kd.C_drewN ?_ _) | (with_reducible refine Kd.C_drew ?_)))
                (case side2 => exact (Kd.R_reads' HO759.out).2.1)
                rintro e w66 ⟨v761, rfl, ho0, hb⟩
                refine ⟨_, rfl, ?_⟩
                have n0_ := Aside0.mk (Kd.R_elder' (by (with_reducible repeat (first | apply Kd.R_alloc | apply Kd.R_drewN | apply Kd.R_drew)); exact HO749.out) (Kd.R_base ho0) hb)
                have n1_ := Aside0.mk (Kd.R_elder' (by (with_reducible repeat (first | apply Kd.R_alloc | apply Kd.R_drewN | apply Kd.R_drew)); exact HO759.out) (Kd.R_base ho0) hb)
                have n2_ := Aside0.mk (Kd.R_lower (Kd.R_new' (Kd.R_new' ho0 (Kd.R_lt (by (with_reducible repeat (first | apply Kd.R_alloc | apply Kd.R_drewN | apply Kd.R_drew)); exact HO749.out))) (Kd.R_lt (by (with_reducible repeat (first | apply Kd.R_alloc | apply Kd.R_drewN | apply Kd.R_drew)); exact HO759.out))) (below_size (by repeat (first | (with_reducible first | exact HB.out | apply below_alloc | apply pw_below_drewN | apply below_drew1 | refine below_set ?_ GE742.out | refine below_set ?_ GE756.out | refine below_set ?_ GE769.out) | exact HB.out))))
                have n3_ := Aside0.mk (blk_below (g := gb742) (o := .cells #[.int .i64 a1_0, .int .i64 a1_1, .int .i64 a1_2, .string a1_3, .string a1_4, .string a1_5, .int .i64 a1_6] 72 (0, 0)) (by (with_reducible repeat (first | refine blk_drewN ?_ _ | refine blk_drew ?_ | refine blk_alloc ?_ _)); exact BK742.out) hb)
                have n4_ := Aside0.mk (blk_below (g := gb756) (o := .cells #[.int .i64 t750, .int .i64 t751, .int .i64 t752, .bool t753, .string t754, .int .i64 t755] 60 (0, 0)) (by (with_reducible repeat (first | refine blk_drewN ?_ _ | refine blk_drew ?_ | refine blk_alloc ?_ _)); exact BK756.out) hb)
                have n5_ := Aside0.mk (blk_below (g := gb769) (o := .cells #[.int .i64 0, .int .i64 0, .int .i64 0, .bool false, .string (⟨#[]⟩ : ByteArray), .int .i64 0] 60 (0, 0)) (by (with_reducible repeat (first | refine blk_drewN ?_ _ | refine blk_drew ?_ | refine blk_alloc ?_ _)); exact BK769.out) hb)
                have n6_ := Aside0.mk (below_step (by repeat (first | (with_reducible first | exact HB.out | apply below_alloc | apply pw_below_drewN | apply below_drew1 | refine below_set ?_ GE742.out | refine below_set ?_ GE756.out | refine below_set ?_ GE769.out) | exact HB.out)) hb)
                clear HO749
                clear HO759
                clear BK742
                clear BK756
                clear BK769
                clear HB
                have HO749 := n0_
                have HO759 := n1_
                have HO762 := n2_
                have BK742 := n3_
                have BK756 := n4_
                have BK769 := n5_
                have HB := n6_
                clear n0_ n1_ n2_ n3_ n4_ n5_ n6_
                (try clear hb)
                (try clear hb2)
                (try clear hk)
                (try clear hi)
                (try clear ho0)
                refine hK.out _ _ ⟨(blk_cell BK742.out 0).trans rfl, (blk_cell BK742.out 1).trans rfl, (blk_cell BK742.out 2).trans rfl, (blk_cell BK742.out 3).trans rfl, (blk_cell BK742.out 4).trans rfl, (blk_cell BK742.out 5).trans rfl, (blk_cell BK742.out 6).trans rfl⟩ (fun hHeld => ?_)
                clear hK K
                refine norm_ (a' := ?_) ?_ ?_
                rotate_left
                · show Act.put _ (some 36) _ = _
                  simp only [Act.put, List.setIfInBounds_toArray, List.set_cons_zero, List.set_cons_succ, i64_w, i32_w]
                  rfl
                refine pure_ (i := 4) (N := some 32) (v := ?_) (a' := ?_) #[true, true, true, true, true, false, false, true, false, false] rfl rfl (any_of HT_.out (by kernel_rfl)) (fun _ _ _ h => h) (Or.inl ⟨by rfl, ?_⟩) ?_ ?_
                rotate_left
                · intro w'
                  go_simp
                  with_reducible rfl
                rotate_left
                · simp only [Act.put, List.setIfInBounds_toArray, List.set_cons_zero, List.set_cons_succ, i64_w, i32_w]
                  rfl
                refine pure_ (i := 5) (N := some 37) (v := ?_) (a' := ?_) #[true, true, true, true, true, true, false, true, false, false] rfl rfl (any_of HT_.out (by kernel_rfl)) (fun _ _ _ h => h) (Or.inl ⟨by rfl, ?_⟩) ?_ ?_
                rotate_left
                · intro w'
                  go_simp
                  with_reducible rfl
                rotate_left
                · simp only [Act.put, List.setIfInBounds_toArray, List.set_cons_zero, List.set_cons_succ, i64_w, i32_w]
                  rfl
                refine pure_ (i := 6) (N := some 38) (v := ?_) (a' := ?_) #[true, true, true, true, true, true, true, true, false, false] rfl rfl (any_of HT_.out (by kernel_rfl)) (fun _ _ _ h => h) (Or.inl ⟨by rfl, ?_⟩) ?_ ?_
                rotate_left
                · intro w'
                  go_simp
                  with_reducible rfl
                rotate_left
                · simp only [Act.put, List.setIfInBounds_toArray, List.set_cons_zero, List.set_cons_succ, i64_w, i32_w]
                  rfl
                exact norm_ (by simp only [putAll, Act.put, List.setIfInBounds_toArray, List.set_cons_zero, List.set_cons_succ]) (hCont (.slice Ao65 t757.length co65, v761, gb769) _ ⟨hHeld, (by (with_reducible repeat (first | apply Kd.R_alloc | apply Kd.R_drewN | apply Kd.R_drew)); exact Kd.R_mono HO749.out (fun _ hk => ⟨hk.1.2, hk.2⟩)), (by (with_reducible repeat (first | apply Kd.R_alloc | apply Kd.R_drewN | apply Kd.R_drew)); exact Kd.R_mono HO759.out (fun _ hk => ⟨hk.1.2, hk.2⟩)), (by (with_reducible repeat (first | apply Kd.R_alloc | apply Kd.R_drewN | apply Kd.R_drew)); exact Kd.R_mono HO762.out (fun _ hk => ⟨hk.1.2, hk.2⟩)), (by (with_reducible repeat (first | refine blk_drewN ?_ _ | refine blk_drew ?_ | refine blk_alloc ?_ _)); exact BK742.out), (by (with_reducible repeat (first | refine blk_drewN ?_ _ | refine blk_drew ?_ | refine blk_alloc ?_ _)); exact BK756.out), (by (with_reducible repeat (first | refine blk_drewN ?_ _ | refine blk_drew ?_ | refine blk_alloc ?_ _)); exact BK769.out), GW769.out, GE769.out, NB742_769.out, NB769_742.out, NB756_769.out, NB769_756.out, (by repeat (first | (with_reducible first | exact HB.out | apply below_alloc | apply pw_below_drewN | apply below_drew1 | refine below_set ?_ GE742.out | refine below_set ?_ GE756.out | refine below_set ?_ GE769.out) | exact HB.out))⟩)
            rintro ⟨v758, v761, gb769⟩ w67 ⟨hS_, h0_, h1_, h2_, h3_, h4_, h5_, h6_, h7_, h8_, h9_, h10_, h11_, h12_⟩
            have n0_ : Aside0 (Kd.R k78 78 w67 w.heap.size (fun k_ => some k_ ≠ (v758 : Value).ownBlock ∧ some k_ ≠ (v761 : Value).ownBlock) v748 t747) := ⟨h0_⟩
            have n1_ : Aside0 (Kd.R k78 78 w67 w.heap.size (fun k_ => some k_ ≠ (v748 : Value).ownBlock ∧ some k_ ≠ (v761 : Value).ownBlock) v758 t757) := ⟨h1_⟩
            have n2_ : Aside0 (Kd.R k78 78 w67 w.heap.size (fun k_ => some k_ ≠ (v748 : Value).ownBlock ∧ some k_ ≠ (v758 : Value).ownBlock) v761 t760) := ⟨h2_⟩
            have n3_ : Aside0 (w67.heap[gb742]? = some (.cells #[.int .i64 a1_0, .int .i64 a1_1, .int .i64 a1_2, .string a1_3, .string a1_4, .string a1_5, .int .i64 a1_6] 72 (0, 0))) := ⟨h3_⟩
            have n4_ : Aside0 (w67.heap[gb756]? = some (.cells #[.int .i64 t750, .int .i64 t751, .int .i64 t752, .bool t753, .string t754, .int .i64 t755] 60 (0, 0))) := ⟨h4_⟩
            have n5_ : Aside0 (w67.heap[gb769]? = some (.cells #[.int .i64 0, .int .i64 0, .int .i64 0, .bool false, .string (⟨#[]⟩ : ByteArray), .int .i64 0] 60 (0, 0))) := ⟨h5_⟩
            have n6_ : Aside0 (w.heap.size ≤ gb769) := ⟨h6_⟩
            have n7_ : Aside0 (w.heap.size ≤ gb769) := ⟨h7_⟩
            have n8_ : Aside0 (gb742 ≠ gb769) := ⟨h8_⟩
            have n9_ : Aside0 (gb769 ≠ gb742) := ⟨h9_⟩
            have n10_ : Aside0 (gb756 ≠ gb769) := ⟨h10_⟩
            have n11_ : Aside0 (gb769 ≠ gb756) := ⟨h11_⟩
            have n12_ : Aside0 (Below w.heap.size w w67) := ⟨h12_⟩
            clear HO749
            clear BK742
            clear BK756
            clear HB
            clear h0_ h1_ h2_ h3_ h4_ h5_ h6_ h7_ h8_ h9_ h10_ h11_ h12_
            have HO749 := n0_
            have HO759 := n1_
            have HO762 := n2_
            have BK742 := n3_
            have BK756 := n4_
            have BK769 := n5_
            have GW769 := n6_
            have GE769 := n7_
            have NB742_769 := n8_
            have NB769_742 := n9_
            have NB756_769 := n10_
            have NB769_756 := n11_
            have HB := n12_
            clear n0_ n1_ n2_ n3_ n4_ n5_ n6_ n7_ n8_ n9_ n10_ n11_ n12_
            have hHeld : w67.cell? ⟨gb742, 0, none⟩ = some (.int .i64 a1_0) ∧ w67.cell? ⟨gb742, 1, none⟩ = some (.int .i64 a1_1) ∧ w67.cell? ⟨gb742, 2, none⟩ = some (.int .i64 a1_2) ∧ w67.cell? ⟨gb742, 3, none⟩ = some (.string a1_3) ∧ w67.cell? ⟨gb742, 4, none⟩ = some (.string a1_4) ∧ w67.cell? ⟨gb742, 5, none⟩ = some (.string a1_5) ∧ w67.cell? ⟨gb742, 6, none⟩ = some (.int .i64 a1_6) := hS_
            refine norm_ (a' := ?_) ?_ ?_
            rotate_left
            · simp only [putAll, Act.put, List.setIfInBounds_toArray, List.set_cons_zero, List.set_cons_succ]
              rfl
            refine pure_ (i := 8) (N := some 7) (v := ?_) (a' := ?_) #[true, true, true, true, true, true, true, true, true, false] rfl rfl (any_of HT_.out (by kernel_rfl)) (fun _ _ _ h => h) (Or.inl ⟨by rfl, ?_⟩) ?_ ?_
            rotate_left
            · intro w'
              go_simp
              with_reducible rfl
            rotate_left
            · simp only [Act.put, List.setIfInBounds_toArray, List.set_cons_zero, List.set_cons_succ, i64_w, i32_w]
              rfl
            refine one_ (i := 9) (N := none) #[true, true, true, true, true, true, true, true, true, true] rfl rfl (one_of HT_.out (by kernel_rfl)) (by decide) (fun K hK => ?_)
            have hs68 : w67.cell? ⟨gb769, 0, none⟩ = some (.int .i64 0) := (blk_cell BK769.out 0).trans rfl
            have hfs68 := blk_frozen BK769.out 0
            have hns68_0 := NB742_769.out
            have hns68_1 := NB756_769.out
            have hms68_0 := NB769_742.out
            have hms68_1 := NB769_756.out
            have hs69 : w67.cell? ⟨gb769, 1, none⟩ = some (.int .i64 0) := (blk_cell BK769.out 1).trans rfl
            have hfs69 := blk_frozen BK769.out 1
            have hns69_0 := NB742_769.out
            have hns69_1 := NB756_769.out
            have hms69_0 := NB769_742.out
            have hms69_1 := NB769_756.out
            have hs70 : w67.cell? ⟨gb769, 2, none⟩ = some (.int .i64 0) := (blk_cell BK769.out 2).trans rfl
            have hfs70 := blk_frozen BK769.out 2
            have hns70_0 := NB742_769.out
            have hns70_1 := NB756_769.out
            have hms70_0 := NB769_742.out
            have hms70_1 := NB769_756.out
            have hs71 : w67.cell? ⟨gb769, 3, none⟩ = some (.bool false) := (blk_cell BK769.out 3).trans rfl
            have hfs71 := blk_frozen BK769.out 3
            have hns71_0 := NB742_769.out
            have hns71_1 := NB756_769.out
            have hms71_0 := NB769_742.out
            have hms71_1 := NB769_756.out
            have hs72 : w67.cell? ⟨gb769, 4, none⟩ = some (.string (⟨#[]⟩ : ByteArray)) := (blk_cell BK769.out 4).trans rfl
            have hfs72 := blk_frozen BK769.out 4
            have hns72_0 := NB742_769.out
            have hns72_1 := NB756_769.out
            have hms72_0 := NB769_742.out
            have hms72_1 := NB769_756.out
            have hs73 : w67.cell? ⟨gb769, 5, none⟩ = some (.int .i64 0) := (blk_cell BK769.out 5).trans rfl
            have hfs73 := blk_frozen BK769.out 5
            have hns73_0 := NB742_769.out
            have hns73_1 := NB756_769.out
            have hms73_0 := NB769_742.out
            have hms73_1 := NB769_756.out
            refine skip_ (w1 := ?_) (by rfl) rfl ?_ ?_
            rotate_left
            · go_simp
              rfl
            refine hK.out _ _ ⟨((cell_far (p := ⟨gb769, _, none⟩) NB742_769.out _).trans (((cell_far (p := ⟨gb769, _, none⟩) NB742_769.out _).trans (((cell_far (p := ⟨gb769, _, none⟩) NB742_769.out _).trans (((cell_far (p := ⟨gb769, _, none⟩) NB742_769.out _).trans (((cell_far (p := ⟨gb769, _, none⟩) NB742_769.out _).trans (((cell_far (p := ⟨gb769, _, none⟩) NB742_769.out _).trans (hHeld.1)))))))))))), ((cell_far (p := ⟨gb769, _, none⟩) NB742_769.out _).trans (((cell_far (p := ⟨gb769, _, none⟩) NB742_769.out _).trans (((cell_far (p := ⟨gb769, _, none⟩) NB742_769.out _).trans (((cell_far (p := ⟨gb769, _, none⟩) NB742_769.out _).trans (((cell_far (p := ⟨gb769, _, none⟩) NB742_769.out _).trans (((cell_far (p := ⟨gb769, _, none⟩) NB742_769.out _).trans (hHeld.2.1)))))))))))), ((cell_far (p := ⟨gb769, _, none⟩) NB742_769.out _).trans (((cell_far (p := ⟨gb769, _, none⟩) NB742_769.out _).trans (((cell_far (p := ⟨gb769, _, none⟩) NB742_769.out _).trans (((cell_far (p := ⟨gb769, _, none⟩) NB742_769.out _).trans (((cell_far (p := ⟨gb769, _, none⟩) NB742_769.out _).trans (((cell_far (p := ⟨gb769, _, none⟩) NB742_769.out _).trans (hHeld.2.2.1)))))))))))), ((cell_far (p := ⟨gb769, _, none⟩) NB742_769.out _).trans (((cell_far (p := ⟨gb769, _, none⟩) NB742_769.out _).trans (((cell_far (p := ⟨gb769, _, none⟩) NB742_769.out _).trans (((cell_far (p := ⟨gb769, _, none⟩) NB742_769.out _).trans (((cell_far (p := ⟨gb769, _, none⟩) NB742_769.out _).trans (((cell_far (p := ⟨gb769, _, none⟩) NB742_769.out _).trans (hHeld.2.2.2.1)))))))))))), ((cell_far (p := ⟨gb769, _, none⟩) NB742_769.out _).trans (((cell_far (p := ⟨gb769, _, none⟩) NB742_769.out _).trans (((cell_far (p := ⟨gb769, _, none⟩) NB742_769.out _).trans (((cell_far (p := ⟨gb769, _, none⟩) NB742_769.out _).trans (((cell_far (p := ⟨gb769, _, none⟩) NB742_769.out _).trans (((cell_far (p := ⟨gb769, _, none⟩) NB742_769.out _).trans (hHeld.2.2.2.2.1)))))))))))), ((cell_far (p := ⟨gb769, _, none⟩) NB742_769.out _).trans (((cell_far (p := ⟨gb769, _, none⟩) NB742_769.out _).trans (((cell_far (p := ⟨gb769, _, none⟩) NB742_769.out _).trans (((cell_far (p := ⟨gb769, _, none⟩) NB742_769.out _).trans (((cell_far (p := ⟨gb769, _, none⟩) NB742_769.out _).trans (((cell_far (p := ⟨gb769, _, none⟩) NB742_769.out _).trans (hHeld.2.2.2.2.2.1)))))))))))), ((cell_far (p := ⟨gb769, _, none⟩) NB742_769.out _).trans (((cell_far (p := ⟨gb769, _, none⟩) NB742_769.out _).trans (((cell_far (p := ⟨gb769, _, none⟩) NB742_769.out _).trans (((cell_far (p := ⟨gb769, _, none⟩) NB742_769.out _).trans (((cell_far (p := ⟨gb769, _, none⟩) NB742_769.out _).trans (((cell_far (p := ⟨gb769, _, none⟩) NB742_769.out _).trans (hHeld.2.2.2.2.2.2))))))))))))⟩ (fun hHeld => ?_)
            clear hK K
            refine done_ (done_of HT_.out (by kernel_rfl)) ?_
            obtain ⟨Ao74, co74, eo74⟩ := Kd.R_slice HO749.out
            subst eo74
            try go_wp2_with (first | ((with_reducible refine gate_callee (f := 71) rfl ?_); refine goesL_ (some 40) rfl rfl Try.func71 (by kernel_rfl) rfl #[.slice Ao74 t747.length co74] rfl (by (try simp only [List.map_toArray, List.map_cons, List.map_nil]); first | done | rfl | (simp only [List.length_drop, List.length_take]; rfl)) ?_; (with_reducible refine (kvtwo_Plain.calls kj2 _ _ t747 t770 _ ?side1 ?side2 A24.out).mono ?_); (case side1 => refine (Kd.R_reads' (e := 78) (base := w.heap.size) (ok := fun k_ => (some k_ ≠ (v758 : Value).ownBlock ∧ some k_ ≠ (v761 : Value).ownBlock)) (n := t747.length) (c := co74) ?_).2.2; exact (by (with_reducible repeat (first | apply Kd.R_alloc | apply Kd.R_drewN | apply Kd.R_drew)); exact (Kd.R_mono (Kd.R_far (p := ⟨gb769, 5, none⟩) (Kd.R_far (p := ⟨gb769, 4, none⟩) (Kd.R_far (p := ⟨gb769, 3, none⟩) (Kd.R_far (p := ⟨gb769, 2, none⟩) (Kd.R_far (p := ⟨gb769, 1, none⟩) (Kd.R_far (p := ⟨gb769, 0, none⟩) (Kd.R_types HO749.out BK769.out (by decide)) (fun _ hk => hk.2) (.int .i64 t763)) (fun _ hk => hk.2) (.int .i64 t764)) (fun _ hk => hk.2) (.int .i64 t765)) (fun _ hk => hk.2) (.bool t766)) (fun _ hk => hk.2) (.string t767)) (fun _ hk => hk.2) (.int .i64 t768)) (fun _ h_ => h_.1)))); (case side2 => exact (Kd.R_reads' HO749.out).2.1); rintro e w75 ⟨v771, rfl, ho0, hb⟩; refine ⟨_, rfl, ?_⟩; have n0_ := Aside0.mk (Kd.R_elder' (by (with_reducible repeat (first | apply Kd.R_alloc | apply Kd.R_drewN | apply Kd.R_drew)); exact (Kd.R_mono (Kd.R_far (p := ⟨gb769, 5, none⟩) (Kd.R_far (p := ⟨gb769, 4, none⟩) (Kd.R_far (p := ⟨gb769, 3, none⟩) (Kd.R_far (p := ⟨gb769, 2, none⟩) (Kd.R_far (p := ⟨gb769, 1, none⟩) (Kd.R_far (p := ⟨gb769, 0, none⟩) (Kd.R_types HO749.out BK769.out (by decide)) (fun _ hk => hk.2) (.int .i64 t763)) (fun _ hk => hk.2) (.int .i64 t764)) (fun _ hk => hk.2) (.int .i64 t765)) (fun _ hk => hk.2) (.bool t766)) (fun _ hk => hk.2) (.string t767)) (fun _ hk => hk.2) (.int .i64 t768)) (fun _ h_ => h_.1))) (Kd.R_base ho0) hb); have n1_ := Aside0.mk (Kd.R_elder' (by (with_reducible repeat (first | apply Kd.R_alloc | apply Kd.R_drewN | apply Kd.R_drew)); exact (Kd.R_mono (Kd.R_far (p := ⟨gb769, 5, none⟩) (Kd.R_far (p := ⟨gb769, 4, none⟩) (Kd.R_far (p := ⟨gb769, 3, none⟩) (Kd.R_far (p := ⟨gb769, 2, none⟩) (Kd.R_far (p := ⟨gb769, 1, none⟩) (Kd.R_far (p := ⟨gb769, 0, none⟩) (Kd.R_types HO759.out BK769.out (by decide)) (fun _ hk => hk.2) (.int .i64 t763)) (fun _ hk => hk.2) (.int .i64 t764)) (fun _ hk => hk.2) (.int .i64 t765)) (fun _ hk => hk.2) (.bool t766)) (fun _ hk => hk.2) (.string t767)) (fun _ hk => hk.2) (.int .i64 t768)) (fun _ h_ => h_.1))) (Kd.R_base ho0) hb); have n2_ := Aside0.mk (Kd.R_elder' (by (with_reducible repeat (first | apply Kd.R_alloc | apply Kd.R_drewN | apply Kd.R_drew)); exact (Kd.R_mono (Kd.R_far (p := ⟨gb769, 5, none⟩) (Kd.R_far (p := ⟨gb769, 4, none⟩) (Kd.R_far (p := ⟨gb769, 3, none⟩) (Kd.R_far (p := ⟨gb769, 2, none⟩) (Kd.R_far (p := ⟨gb769, 1, none⟩) (Kd.R_far (p := ⟨gb769, 0, none⟩) (Kd.R_types HO762.out BK769.out (by decide)) (fun _ hk => hk.2) (.int .i64 t763)) (fun _ hk => hk.2) (.int .i64 t764)) (fun _ hk => hk.2) (.int .i64 t765)) (fun _ hk => hk.2) (.bool t766)) (fun _ hk => hk.2) (.string t767)) (fun _ hk => hk.2) (.int .i64 t768)) (fun _ h_ => h_.1))) (Kd.R_base ho0) hb); have n3_ := Aside0.mk (Kd.R_lower (Kd.R_new' (Kd.R_new' (Kd.R_new' ho0 (Kd.R_lt (by (with_reducible repeat (first | apply Kd.R_alloc | apply Kd.R_drewN | apply Kd.R_drew)); exact (Kd.R_mono (Kd.R_far (p := ⟨gb769, 5, none⟩) (Kd.R_far (p := ⟨gb769, 4, none⟩) (Kd.R_far (p := ⟨gb769, 3, none⟩) (Kd.R_far (p := ⟨gb769, 2, none⟩) (Kd.R_far (p := ⟨gb769, 1, none⟩) (Kd.R_far (p := ⟨gb769, 0, none⟩) (Kd.R_types HO749.out BK769.out (by decide)) (fun _ hk => hk.2) (.int .i64 t763)) (fun _ hk => hk.2) (.int .i64 t764)) (fun _ hk => hk.2) (.int .i64 t765)) (fun _ hk => hk.2) (.bool t766)) (fun _ hk => hk.2) (.string t767)) (fun _ hk => hk.2) (.int .i64 t768)) (fun _ h_ => h_.1))))) (Kd.R_lt (by (with_reducible repeat (first | apply Kd.R_alloc | apply Kd.R_drewN | apply Kd.R_drew)); exact (Kd.R_mono (Kd.R_far (p := ⟨gb769, 5, none⟩) (Kd.R_far (p := ⟨gb769, 4, none⟩) (Kd.R_far (p := ⟨gb769, 3, none⟩) (Kd.R_far (p := ⟨gb769, 2, none⟩) (Kd.R_far (p := ⟨gb769, 1, none⟩) (Kd.R_far (p := ⟨gb769, 0, none⟩) (Kd.R_types HO759.out BK769.out (by decide)) (fun _ hk => hk.2) (.int .i64 t763)) (fun _ hk => hk.2) (.int .i64 t764)) (fun _ hk => hk.2) (.int .i64 t765)) (fun _ hk => hk.2) (.bool t766)) (fun _ hk => hk.2) (.string t767)) (fun _ hk => hk.2) (.int .i64 t768)) (fun _ h_ => h_.1))))) (Kd.R_lt (by (with_reducible repeat (first | apply Kd.R_alloc | apply Kd.R_drewN | apply Kd.R_drew)); exact (Kd.R_mono (Kd.R_far (p := ⟨gb769, 5, none⟩) (Kd.R_far (p := ⟨gb769, 4, none⟩) (Kd.R_far (p := ⟨gb769, 3, none⟩) (Kd.R_far (p := ⟨gb769, 2, none⟩) (Kd.R_far (p := ⟨gb769, 1, none⟩) (Kd.R_far (p := ⟨gb769, 0, none⟩) (Kd.R_types HO762.out BK769.out (by decide)) (fun _ hk => hk.2) (.int .i64 t763)) (fun _ hk => hk.2) (.int .i64 t764)) (fun _ hk => hk.2) (.int .i64 t765)) (fun _ hk => hk.2) (.bool t766)) (fun _ hk => hk.2) (.string t767)) (fun _ hk => hk.2) (.int .i64 t768)) (fun _ h_ => h_.1))))) (below_size (by repeat (first | (with_reducible first | exact HB.out | apply below_alloc | apply pw_below_drewN | apply below_drew1 | refine below_set ?_ GE742.out | refine below_set ?_ GE756.out | refine below_set ?_ GE769.out) | exact HB.out)))); have n4_ := Aside0.mk (blk_below (g := gb742) (o := .cells #[.int .i64 a1_0, .int .i64 a1_1, .int .i64 a1_2, .string a1_3, .string a1_4, .string a1_5, .int .i64 a1_6] 72 (0, 0)) (by (with_reducible repeat (first | refine blk_drewN ?_ _ | refine blk_drew ?_ | refine blk_alloc ?_ _)); refine blk_far ?_ NB742_769.out _; (with_reducible repeat (first | refine blk_drewN ?_ _ | refine blk_drew ?_ | refine blk_alloc ?_ _)); refine blk_far ?_ NB742_769.out _; (with_reducible repeat (first | refine blk_drewN ?_ _ | refine blk_drew ?_ | refine blk_alloc ?_ _)); refine blk_far ?_ NB742_769.out _; (with_reducible repeat (first | refine blk_drewN ?_ _ | refine blk_drew ?_ | refine blk_alloc ?_ _)); refine blk_far ?_ NB742_769.out _; (with_reducible repeat (first | refine blk_drewN ?_ _ | refine blk_drew ?_ | refine blk_alloc ?_ _)); refine blk_far ?_ NB742_769.out _; (with_reducible repeat (first | refine blk_drewN ?_ _ | refine blk_drew ?_ | refine blk_alloc ?_ _)); refine blk_far ?_ NB742_769.out _; (with_reducible repeat (first | refine blk_drewN ?_ _ | refine blk_drew ?_ | refine blk_alloc ?_ _)); exact BK742.out) hb); have n5_ := Aside0.mk (blk_below (g := gb756) (o := .cells #[.int .i64 t750, .int .i64 t751, .int .i64 t752, .bool t753, .string t754, .int .i64 t755] 60 (0, 0)) (by (with_reducible repeat (first | refine blk_drewN ?_ _ | refine blk_drew ?_ | refine blk_alloc ?_ _)); refine blk_far ?_ NB756_769.out _; (with_reducible repeat (first | refine blk_drewN ?_ _ | refine blk_drew ?_ | refine blk_alloc ?_ _)); refine blk_far ?_ NB756_769.out _; (with_reducible repeat (first | refine blk_drewN ?_ _ | refine blk_drew ?_ | refine blk_alloc ?_ _)); refine blk_far ?_ NB756_769.out _; (with_reducible repeat (first | refine blk_drewN ?_ _ | refine blk_drew ?_ | refine blk_alloc ?_ _)); refine blk_far ?_ NB756_769.out _; (with_reducible repeat (first | refine blk_drewN ?_ _ | refine blk_drew ?_ | refine blk_alloc ?_ _)); refine blk_far ?_ NB756_769.out _; (with_reducible repeat (first | refine blk_drewN ?_ _ | refine blk_drew ?_ | refine blk_alloc ?_ _)); refine blk_far ?_ NB756_769.out _; (with_reducible repeat (first | refine blk_drewN ?_ _ | refine blk_drew ?_ | refine blk_alloc ?_ _)); exact BK756.out) hb); have n6_ := Aside0.mk (blk_below (g := gb769) (o := .cells #[.int .i64 t763, .int .i64 t764, .int .i64 t765, .bool t766, .string t767, .int .i64 t768] 60 (0, 0)) (by (with_reducible repeat (first | refine blk_drewN ?_ _ | refine blk_drew ?_ | refine blk_alloc ?_ _)); refine blk_put (cs := #[.int .i64 t763, .int .i64 t764, .int .i64 t765, .bool t766, .string t767, .int .i64 0]) ?_ 5 _ rfl; (with_reducible repeat (first | refine blk_drewN ?_ _ | refine blk_drew ?_ | refine blk_alloc ?_ _)); refine blk_put (cs := #[.int .i64 t763, .int .i64 t764, .int .i64 t765, .bool t766, .string (⟨#[]⟩ : ByteArray), .int .i64 0]) ?_ 4 _ rfl; (with_reducible repeat (first | refine blk_drewN ?_ _ | refine blk_drew ?_ | refine blk_alloc ?_ _)); refine blk_put (cs := #[.int .i64 t763, .int .i64 t764, .int .i64 t765, .bool false, .string (⟨#[]⟩ : ByteArray), .int .i64 0]) ?_ 3 _ rfl; (with_reducible repeat (first | refine blk_drewN ?_ _ | refine blk_drew ?_ | refine blk_alloc ?_ _)); refine blk_put (cs := #[.int .i64 t763, .int .i64 t764, .int .i64 0, .bool false, .string (⟨#[]⟩ : ByteArray), .int .i64 0]) ?_ 2 _ rfl; (with_reducible repeat (first | refine blk_drewN ?_ _ | refine blk_drew ?_ | refine blk_alloc ?_ _)); refine blk_put (cs := #[.int .i64 t763, .int .i64 0, .int .i64 0, .bool false, .string (⟨#[]⟩ : ByteArray), .int .i64 0]) ?_ 1 _ rfl; (with_reducible repeat (first | refine blk_drewN ?_ _ | refine blk_drew ?_ | refine blk_alloc ?_ _)); refine blk_put (cs := #[.int .i64 0, .int .i64 0, .int .i64 0, .bool false, .string (⟨#[]⟩ : ByteArray), .int .i64 0]) ?_ 0 _ rfl; (with_reducible repeat (first | refine blk_drewN ?_ _ | refine blk_drew ?_ | refine blk_alloc ?_ _)); exact BK769.out) hb); have n7_ := Aside0.mk (below_step (by repeat (first | (with_reducible first | exact HB.out | apply below_alloc | apply pw_below_drewN | apply below_drew1 | refine below_set ?_ GE742.out | refine below_set ?_ GE756.out | refine below_set ?_ GE769.out) | exact HB.out)) hb); clear HO749; clear HO759; clear HO762; clear BK742; clear BK756; clear BK769; clear HB; have HO749 := n0_; have HO759 := n1_; have HO762 := n2_; have HO772 := n3_; have BK742 := n4_; have BK756 := n5_; have BK769 := n6_; have HB := n7_; clear n0_ n1_ n2_ n3_ n4_ n5_ n6_ n7_; (try clear hb); (try clear hb2); (try clear hk); (try clear hi); (try clear ho0); obtain ⟨Ao76, co76, eo76⟩ := Kd.R_slice HO772.out; subst eo76; obtain ⟨Ao77, co77, eo77⟩ := Kd.R_slice HO762.out; subst eo77) | ((with_reducible refine gate_callee (f := 66) rfl ?_); refine goesL_ (some 42) rfl rfl Try.func66 (by kernel_rfl) rfl #[.slice Ao76 t770.length co76, .slice Ao77 t760.length co77] rfl (by (try simp only [List.map_toArray, List.map_cons, List.map_nil]); first | done | rfl | (simp only [List.length_drop, List.length_take]; rfl)) ?_; (with_reducible refine (changeoverref23_Same.calls kj2 _ _ t770 _ _ t760 true _ ?side1 ?side2 ?side3 ?side4 A25.out).mono ?_); (case side1 => repeat (first | exact (Kd.R_reads' HO772.out).2.2 | (with_reducible refine Kd.C_alloc ?_ _) | (with_reducible refine Kd.C_drewN ?_ _) | (with_reducible refine Kd.C_drew ?_))); (case side2 => exact (Kd.R_reads' HO772.out).2.1); (case side3 => repeat (first | exact (Kd.R_reads' HO762.out).2.2 | (with_reducible refine Kd.C_alloc ?_ _) | (with_reducible refine Kd.C_drewN ?_ _) | (with_reducible refine Kd.C_drew ?_))); (case side4 => exact (Kd.R_reads' HO762.out).2.1); rintro e w' ⟨rfl, ⟨nd, rfl⟩⟩; refine ⟨_, rfl, ?_⟩; have hnb78 := NB756_769.out; have hnc78 := NB769_756.out; have hcz79_0 : w75.cell? ⟨gb756, 0, none⟩ = some (.int .i64 t750) := (blk_cell BK756.out 0).trans rfl; have hcz79_1 : w75.cell? ⟨gb756, 1, none⟩ = some (.int .i64 t751) := (blk_cell BK756.out 1).trans rfl; have hcz79_2 : w75.cell? ⟨gb756, 2, none⟩ = some (.int .i64 t752) := (blk_cell BK756.out 2).trans rfl; have hcz79_3 : w75.cell? ⟨gb756, 3, none⟩ = some (.bool t753) := (blk_cell BK756.out 3).trans rfl; have hcz79_4 : w75.cell? ⟨gb756, 4, none⟩ = some (.string t754) := (blk_cell BK756.out 4).trans rfl; have hcz79_5 : w75.cell? ⟨gb756, 5, none⟩ = some (.int .i64 t755) := (blk_cell BK756.out 5).trans rfl; have hfz79_0 := blk_frozen BK756.out 0; have hfz79_1 := blk_frozen BK756.out 1; have hfz79_2 := blk_frozen BK756.out 2; have hfz79_3 := blk_frozen BK756.out 3; have hfz79_4 := blk_frozen BK756.out 4; have hfz79_5 := blk_frozen BK756.out 5; have hnb80 := NB769_742.out; have hnc80 := NB742_769.out; have hcz81_0 : w75.cell? ⟨gb769, 0, none⟩ = some (.int .i64 t763) := (blk_cell BK769.out 0).trans rfl; have hcz81_1 : w75.cell? ⟨gb769, 1, none⟩ = some (.int .i64 t764) := (blk_cell BK769.out 1).trans rfl; have hcz81_2 : w75.cell? ⟨gb769, 2, none⟩ = some (.int .i64 t765) := (blk_cell BK769.out 2).trans rfl; have hcz81_3 : w75.cell? ⟨gb769, 3, none⟩ = some (.bool t766) := (blk_cell BK769.out 3).trans rfl; have hcz81_4 : w75.cell? ⟨gb769, 4, none⟩ = some (.string t767) := (blk_cell BK769.out 4).trans rfl; have hcz81_5 : w75.cell? ⟨gb769, 5, none⟩ = some (.int .i64 t768) := (blk_cell BK769.out 5).trans rfl; have hfz81_0 := blk_frozen BK769.out 0; have hfz81_1 := blk_frozen BK769.out 1; have hfz81_2 := blk_frozen BK769.out 2; have hfz81_3 := blk_frozen BK769.out 3; have hfz81_4 := blk_frozen BK769.out 4; have hfz81_5 := blk_frozen BK769.out 5))
            go_ret
            exact ⟨by first | rfl | (simp [errW_none, errW_some] <;> rfl) | (simp [*, errW_none, errW_some] <;> rfl), by repeat (first | (with_reducible first | exact HB.out | apply below_alloc | apply pw_below_drewN | apply below_drew1 | refine below_set ?_ GE742.out | refine below_set ?_ GE756.out | refine below_set ?_ GE769.out) | exact HB.out)⟩
        · replace c26 := Bool.eq_false_iff.mpr c26
          subst c26
          have H1 : (some false) = some r := by rw [if_neg (show ¬ (false = true) by decide)] at H; exact H
          clear H
          have H := H1
          clear H1
          obtain rfl := Option.some.inj H
          have hcz82_0 : wc.cell? ⟨gb742, 0, none⟩ = some (.int .i64 a1_0) := (blk_cell BK742.out 0).trans rfl
          have hcz82_1 : wc.cell? ⟨gb742, 1, none⟩ = some (.int .i64 a1_1) := (blk_cell BK742.out 1).trans rfl
          have hcz82_2 : wc.cell? ⟨gb742, 2, none⟩ = some (.int .i64 a1_2) := (blk_cell BK742.out 2).trans rfl
          have hcz82_3 : wc.cell? ⟨gb742, 3, none⟩ = some (.string a1_3) := (blk_cell BK742.out 3).trans rfl
          have hcz82_4 : wc.cell? ⟨gb742, 4, none⟩ = some (.string a1_4) := (blk_cell BK742.out 4).trans rfl
          have hcz82_5 : wc.cell? ⟨gb742, 5, none⟩ = some (.string a1_5) := (blk_cell BK742.out 5).trans rfl
          have hcz82_6 : wc.cell? ⟨gb742, 6, none⟩ = some (.int .i64 a1_6) := (blk_cell BK742.out 6).trans rfl
          have hfz82_0 := blk_frozen BK742.out 0
          have hfz82_1 := blk_frozen BK742.out 1
          have hfz82_2 := blk_frozen BK742.out 2
          have hfz82_3 := blk_frozen BK742.out 3
          have hfz82_4 := blk_frozen BK742.out 4
          have hfz82_5 := blk_frozen BK742.out 5
          have hfz82_6 := blk_frozen BK742.out 6
          try go_wp2_with (first | ((with_reducible refine gate_callee (f := 64) rfl ?_); refine goesL_ (some 29) rfl rfl Try.func64 (by kernel_rfl) rfl #[.slice A0 l0.length c0, .agg #[.int .i64 a1_0, .int .i64 a1_1, .int .i64 a1_2, .string a1_3, .string a1_4, .string a1_5, .int .i64 a1_6]] rfl (by (try simp only [List.map_toArray, List.map_cons, List.map_nil]); first | done | rfl | (simp only [List.length_drop, List.length_take]; rfl)) ?_; (with_reducible refine (kvtwo_Do.calls kj2 _ _ l0 a1_0 a1_1 a1_2 a1_3 a1_4 a1_5 a1_6 t747 t750 t751 t752 t753 t754 t755 _ ?side1 ?side2 A21.out).mono ?_); (case side1 => repeat (first | exact (Kd.C_below HR0.out HB.out) | (with_reducible refine Kd.C_alloc ?_ _) | (with_reducible refine Kd.C_drewN ?_ _) | (with_reducible refine Kd.C_drew ?_))); (case side2 => exact HC0.out); rintro e w83 ⟨v748, rfl, ho0, hb⟩; refine ⟨_, rfl, ?_⟩; have n0_ := Aside0.mk (Kd.R_lower ho0 (below_size (by repeat (first | (with_reducible first | exact HB.out | apply below_alloc | apply pw_below_drewN | apply below_drew1 | refine below_set ?_ GE742.out) | exact HB.out)))); have n1_ := Aside0.mk (blk_below (g := gb742) (o := .cells #[.int .i64 a1_0, .int .i64 a1_1, .int .i64 a1_2, .string a1_3, .string a1_4, .string a1_5, .int .i64 a1_6] 72 (0, 0)) (by (with_reducible repeat (first | refine blk_drewN ?_ _ | refine blk_drew ?_ | refine blk_alloc ?_ _)); exact BK742.out) hb); have n2_ := Aside0.mk (below_step (by repeat (first | (with_reducible first | exact HB.out | apply below_alloc | apply pw_below_drewN | apply below_drew1 | refine below_set ?_ GE742.out) | exact HB.out)) hb); clear BK742; clear HB; have HO749 := n0_; have BK742 := n1_; have HB := n2_; clear n0_ n1_ n2_; (try clear hb); (try clear hb2); (try clear hk); (try clear hi); (try clear ho0)) | ((with_reducible refine gate_dst (N := 6) rfl ?_); refine box_event ?hg (N := 6) ?hd (cs := #[.int .i64 0, .int .i64 0, .int .i64 0, .bool false, .string (⟨#[]⟩ : ByteArray), .int .i64 0]) (t := 60) ?hr ?_; (case hd => rfl); (case hg => rfl); (case hr => first | (go_simp; done) | (go_simp; rfl)); intro gb756 hg w84 hbox hb; have n0_ := Aside0.mk (Kd.R_below (by (with_reducible repeat (first | apply Kd.R_alloc | apply Kd.R_drewN | apply Kd.R_drew)); exact HO749.out) hb); have n1_ := Aside0.mk (blk_below (g := gb742) (o := .cells #[.int .i64 a1_0, .int .i64 a1_1, .int .i64 a1_2, .string a1_3, .string a1_4, .string a1_5, .int .i64 a1_6] 72 (0, 0)) (by (with_reducible repeat (first | refine blk_drewN ?_ _ | refine blk_drew ?_ | refine blk_alloc ?_ _)); exact BK742.out) hb); have n2_ := Aside0.mk (below_step (by repeat (first | (with_reducible first | exact HB.out | apply below_alloc | apply pw_below_drewN | apply below_drew1 | refine below_set ?_ GE742.out) | exact HB.out)) hb); have n3_ := Aside0.mk (hbox); have n4_ := Aside0.mk ((by rw [hg]; exact (below_size (by repeat (first | (with_reducible first | exact HB.out | apply below_alloc | apply pw_below_drewN | apply below_drew1 | refine below_set ?_ GE742.out) | exact HB.out))) : w.heap.size ≤ gb756)); have n5_ := Aside0.mk ((by rw [hg]; exact (below_size (by repeat (first | (with_reducible first | exact HB.out | apply below_alloc | apply pw_below_drewN | apply below_drew1 | refine below_set ?_ GE742.out) | exact HB.out))) : w.heap.size ≤ gb756)); have n6_ := Aside0.mk ((by rw [hg]; exact Nat.ne_of_lt (blk_lt (g := gb742) (o := .cells #[.int .i64 a1_0, .int .i64 a1_1, .int .i64 a1_2, .string a1_3, .string a1_4, .string a1_5, .int .i64 a1_6] 72 (0, 0)) (by (with_reducible repeat (first | refine blk_drewN ?_ _ | refine blk_drew ?_ | refine blk_alloc ?_ _)); exact BK742.out)) : gb742 ≠ gb756)); have n7_ := Aside0.mk ((by rw [hg]; exact Nat.ne_of_gt (blk_lt (g := gb742) (o := .cells #[.int .i64 a1_0, .int .i64 a1_1, .int .i64 a1_2, .string a1_3, .string a1_4, .string a1_5, .int .i64 a1_6] 72 (0, 0)) (by (with_reducible repeat (first | refine blk_drewN ?_ _ | refine blk_drew ?_ | refine blk_alloc ?_ _)); exact BK742.out)) : gb756 ≠ gb742)); clear HO749; clear BK742; clear HB; have HO749 := n0_; have BK742 := n1_; have HB := n2_; have BK756 := n3_; have GW756 := n4_; have GE756 := n5_; have NB742_756 := n6_; have NB756_742 := n7_; clear n0_ n1_ n2_ n3_ n4_ n5_ n6_ n7_; clear hb hbox hg; have hnb85 := NB756_742.out; have hnc85 := NB742_756.out; have hcz86_0 : w84.cell? ⟨gb756, 0, none⟩ = some (.int .i64 0) := (blk_cell BK756.out 0).trans rfl; have hcz86_1 : w84.cell? ⟨gb756, 1, none⟩ = some (.int .i64 0) := (blk_cell BK756.out 1).trans rfl; have hcz86_2 : w84.cell? ⟨gb756, 2, none⟩ = some (.int .i64 0) := (blk_cell BK756.out 2).trans rfl; have hcz86_3 : w84.cell? ⟨gb756, 3, none⟩ = some (.bool false) := (blk_cell BK756.out 3).trans rfl; have hcz86_4 : w84.cell? ⟨gb756, 4, none⟩ = some (.string (⟨#[]⟩ : ByteArray)) := (blk_cell BK756.out 4).trans rfl; have hcz86_5 : w84.cell? ⟨gb756, 5, none⟩ = some (.int .i64 0) := (blk_cell BK756.out 5).trans rfl; have hfz86_0 := blk_frozen BK756.out 0; have hfz86_1 := blk_frozen BK756.out 1; have hfz86_2 := blk_frozen BK756.out 2; have hfz86_3 := blk_frozen BK756.out 3; have hfz86_4 := blk_frozen BK756.out 4; have hfz86_5 := blk_frozen BK756.out 5))
          have n0_ : Aside0 (Kd.R k78 78 ((((((w84.setCell ⟨gb756, 0, none⟩ (.int .i64 t750)).setCell ⟨gb756, 1, none⟩ (.int .i64 t751)).setCell ⟨gb756, 2, none⟩ (.int .i64 t752)).setCell ⟨gb756, 3, none⟩ (.bool t753)).setCell ⟨gb756, 4, none⟩ (.string t754)).setCell ⟨gb756, 5, none⟩ (.int .i64 t755)) w.heap.size (fun _ => True) v748 t747) := ⟨by (with_reducible repeat (first | apply Kd.R_alloc | apply Kd.R_drewN | apply Kd.R_drew)); exact Kd.R_mono (Kd.R_far (p := ⟨gb756, 5, none⟩) (Kd.R_far (p := ⟨gb756, 4, none⟩) (Kd.R_far (p := ⟨gb756, 3, none⟩) (Kd.R_far (p := ⟨gb756, 2, none⟩) (Kd.R_far (p := ⟨gb756, 1, none⟩) (Kd.R_far (p := ⟨gb756, 0, none⟩) (Kd.R_types HO749.out BK756.out (by decide)) (fun _ hk => hk.2) (.int .i64 t750)) (fun _ hk => hk.2) (.int .i64 t751)) (fun _ hk => hk.2) (.int .i64 t752)) (fun _ hk => hk.2) (.bool t753)) (fun _ hk => hk.2) (.string t754)) (fun _ hk => hk.2) (.int .i64 t755)) (fun _ hk => trivial)⟩
          have n1_ : Aside0 (((((((w84.setCell ⟨gb756, 0, none⟩ (.int .i64 t750)).setCell ⟨gb756, 1, none⟩ (.int .i64 t751)).setCell ⟨gb756, 2, none⟩ (.int .i64 t752)).setCell ⟨gb756, 3, none⟩ (.bool t753)).setCell ⟨gb756, 4, none⟩ (.string t754)).setCell ⟨gb756, 5, none⟩ (.int .i64 t755)).heap[gb742]? = some (.cells #[.int .i64 a1_0, .int .i64 a1_1, .int .i64 a1_2, .string a1_3, .string a1_4, .string a1_5, .int .i64 a1_6] 72 (0, 0))) := ⟨by (with_reducible repeat (first | refine blk_drewN ?_ _ | refine blk_drew ?_ | refine blk_alloc ?_ _)); refine blk_far ?_ NB742_756.out _; (with_reducible repeat (first | refine blk_drewN ?_ _ | refine blk_drew ?_ | refine blk_alloc ?_ _)); refine blk_far ?_ NB742_756.out _; (with_reducible repeat (first | refine blk_drewN ?_ _ | refine blk_drew ?_ | refine blk_alloc ?_ _)); refine blk_far ?_ NB742_756.out _; (with_reducible repeat (first | refine blk_drewN ?_ _ | refine blk_drew ?_ | refine blk_alloc ?_ _)); refine blk_far ?_ NB742_756.out _; (with_reducible repeat (first | refine blk_drewN ?_ _ | refine blk_drew ?_ | refine blk_alloc ?_ _)); refine blk_far ?_ NB742_756.out _; (with_reducible repeat (first | refine blk_drewN ?_ _ | refine blk_drew ?_ | refine blk_alloc ?_ _)); refine blk_far ?_ NB742_756.out _; (with_reducible repeat (first | refine blk_drewN ?_ _ | refine blk_drew ?_ | refine blk_alloc ?_ _)); exact BK742.out⟩
          have n2_ : Aside0 (((((((w84.setCell ⟨gb756, 0, none⟩ (.int .i64 t750)).setCell ⟨gb756, 1, none⟩ (.int .i64 t751)).setCell ⟨gb756, 2, none⟩ (.int .i64 t752)).setCell ⟨gb756, 3, none⟩ (.bool t753)).setCell ⟨gb756, 4, none⟩ (.string t754)).setCell ⟨gb756, 5, none⟩ (.int .i64 t755)).heap[gb756]? = some (.cells #[.int .i64 t750, .int .i64 t751, .int .i64 t752, .bool t753, .string t754, .int .i64 t755] 60 (0, 0))) := ⟨by (with_reducible repeat (first | refine blk_drewN ?_ _ | refine blk_drew ?_ | refine blk_alloc ?_ _)); refine blk_put (cs := #[.int .i64 t750, .int .i64 t751, .int .i64 t752, .bool t753, .string t754, .int .i64 0]) ?_ 5 _ rfl; (with_reducible repeat (first | refine blk_drewN ?_ _ | refine blk_drew ?_ | refine blk_alloc ?_ _)); refine blk_put (cs := #[.int .i64 t750, .int .i64 t751, .int .i64 t752, .bool t753, .string (⟨#[]⟩ : ByteArray), .int .i64 0]) ?_ 4 _ rfl; (with_reducible repeat (first | refine blk_drewN ?_ _ | refine blk_drew ?_ | refine blk_alloc ?_ _)); refine blk_put (cs := #[.int .i64 t750, .int .i64 t751, .int .i64 t752, .bool false, .string (⟨#[]⟩ : ByteArray), .int .i64 0]) ?_ 3 _ rfl; (with_reducible repeat (first | refine blk_drewN ?_ _ | refine blk_drew ?_ | refine blk_alloc ?_ _)); refine blk_put (cs := #[.int .i64 t750, .int .i64 t751, .int .i64 0, .bool false, .string (⟨#[]⟩ : ByteArray), .int .i64 0]) ?_ 2 _ rfl; (with_reducible repeat (first | refine blk_drewN ?_ _ | refine blk_drew ?_ | refine blk_alloc ?_ _)); refine blk_put (cs := #[.int .i64 t750, .int .i64 0, .int .i64 0, .bool false, .string (⟨#[]⟩ : ByteArray), .int .i64 0]) ?_ 1 _ rfl; (with_reducible repeat (first | refine blk_drewN ?_ _ | refine blk_drew ?_ | refine blk_alloc ?_ _)); refine blk_put (cs := #[.int .i64 0, .int .i64 0, .int .i64 0, .bool false, .string (⟨#[]⟩ : ByteArray), .int .i64 0]) ?_ 0 _ rfl; (with_reducible repeat (first | refine blk_drewN ?_ _ | refine blk_drew ?_ | refine blk_alloc ?_ _)); exact BK756.out⟩
          have n3_ : Aside0 (Below w.heap.size w ((((((w84.setCell ⟨gb756, 0, none⟩ (.int .i64 t750)).setCell ⟨gb756, 1, none⟩ (.int .i64 t751)).setCell ⟨gb756, 2, none⟩ (.int .i64 t752)).setCell ⟨gb756, 3, none⟩ (.bool t753)).setCell ⟨gb756, 4, none⟩ (.string t754)).setCell ⟨gb756, 5, none⟩ (.int .i64 t755))) := ⟨by repeat (first | (with_reducible first | exact HB.out | apply below_alloc | apply pw_below_drewN | apply below_drew1 | refine below_set ?_ GE742.out | refine below_set ?_ GE756.out) | exact HB.out)⟩
          (try clear HO749)
          (try clear BK742)
          (try clear BK756)
          (try clear HB)
          generalize ((((((w84.setCell ⟨gb756, 0, none⟩ (.int .i64 t750)).setCell ⟨gb756, 1, none⟩ (.int .i64 t751)).setCell ⟨gb756, 2, none⟩ (.int .i64 t752)).setCell ⟨gb756, 3, none⟩ (.bool t753)).setCell ⟨gb756, 4, none⟩ (.string t754)).setCell ⟨gb756, 5, none⟩ (.int .i64 t755)) = w87 at n0_ n1_ n2_ n3_ ⊢
          have HO749 := n0_
          have BK742 := n1_
          have BK756 := n2_
          have HB := n3_
          clear n0_ n1_ n2_ n3_
          have n0_ := Aside0.mk (Kd.R_drew HO749.out)
          have n1_ := Aside0.mk (blk_drew BK742.out)
          have n2_ := Aside0.mk (blk_drew BK756.out)
          have n3_ := Aside0.mk (below_drew1 HB.out)
          clear HO749
          clear BK742
          clear BK756
          clear HB
          have HO749 := n0_
          have BK742 := n1_
          have BK756 := n2_
          have HB := n3_
          clear n0_ n1_ n2_ n3_
          refine start_ (n := 10) (S := fun w' => w'.cell? ⟨gb742, 0, none⟩ = some (.int .i64 a1_0) ∧ w'.cell? ⟨gb742, 1, none⟩ = some (.int .i64 a1_1) ∧ w'.cell? ⟨gb742, 2, none⟩ = some (.int .i64 a1_2) ∧ w'.cell? ⟨gb742, 3, none⟩ = some (.string a1_3) ∧ w'.cell? ⟨gb742, 4, none⟩ = some (.string a1_4) ∧ w'.cell? ⟨gb742, 5, none⟩ = some (.string a1_5) ∧ w'.cell? ⟨gb742, 6, none⟩ = some (.int .i64 a1_6)) (ds := []) #[false, false, false, false, false, false, false, false, false, false] (by kernel_rfl) rfl rfl ⟨(blk_cell BK742.out 0).trans rfl, (blk_cell BK742.out 1).trans rfl, (blk_cell BK742.out 2).trans rfl, (blk_cell BK742.out 3).trans rfl, (blk_cell BK742.out 4).trans rfl, (blk_cell BK742.out 5).trans rfl, (blk_cell BK742.out 6).trans rfl⟩ (fun hHeld => ?_); refine with_tabW changeoverlaw24_KvtwoOlder.tab4 changeoverlaw24_KvtwoOlder.bits4 (fun HT_ HW_ => ?_)
          generalize w87.drew = w88 at HO749 BK742 BK756 HB hHeld ⊢
          refine pure_ (i := 0) (N := some 33) (v := ?_) (a' := ?_) #[true, false, false, false, false, false, false, false, false, false] rfl rfl (any_of HT_.out (by kernel_rfl)) (fun _ _ _ h => h) (Or.inl ⟨by rfl, ?_⟩) ?_ ?_
          rotate_left
          · intro w'
            go_simp
            with_reducible rfl
          rotate_left
          · simp only [Act.put, List.setIfInBounds_toArray, List.set_cons_zero, List.set_cons_succ, i64_w, i32_w]
            rfl
          refine take_ (i := 2) (N := some 35) (v := ?_) (a' := ?_) #[true, false, true, false, false, false, false, false, false, false] rfl rfl (take_ofW HT_.out HW_.out (by kernel_rfl)) (fun _ _ _ h => h) (Or.inl ⟨by rfl, ?_⟩) hHeld ?_ ?_
          rotate_left
          · rintro w' ⟨s0, s1, s2, s3, s4, s5, s6⟩
            go_simp
            with_reducible rfl
          rotate_left
          · simp only [Act.put, List.setIfInBounds_toArray, List.set_cons_zero, List.set_cons_succ, i64_w, i32_w]
            rfl
          refine join_ (σ := Value × Value × Nat) 2 #[true, true, true, true, true, true, true, true, false, false] (fun s_ => [(34, s_.1), (36, .tuple #[s_.2.1, .agg #[.int .i64 t763, .int .i64 t764, .int .i64 t765, .bool t766, .string t767, .int .i64 t768]]), (8, .pointer (some ⟨s_.2.2, 0, none⟩)), (32, .tuple #[s_.2.1, .agg #[.int .i64 t763, .int .i64 t764, .int .i64 t765, .bool t766, .string t767, .int .i64 t768]]), (37, s_.2.1), (38, .agg #[.int .i64 t763, .int .i64 t764, .int .i64 t765, .bool t766, .string t767, .int .i64 t768])]) (fun s_ w' => (w'.cell? ⟨gb742, 0, none⟩ = some (.int .i64 a1_0) ∧ w'.cell? ⟨gb742, 1, none⟩ = some (.int .i64 a1_1) ∧ w'.cell? ⟨gb742, 2, none⟩ = some (.int .i64 a1_2) ∧ w'.cell? ⟨gb742, 3, none⟩ = some (.string a1_3) ∧ w'.cell? ⟨gb742, 4, none⟩ = some (.string a1_4) ∧ w'.cell? ⟨gb742, 5, none⟩ = some (.string a1_5) ∧ w'.cell? ⟨gb742, 6, none⟩ = some (.int .i64 a1_6)) ∧ (Kd.R k78 78 w' w.heap.size (fun k_ => some k_ ≠ (s_.1 : Value).ownBlock ∧ some k_ ≠ (s_.2.1 : Value).ownBlock) v748 t747) ∧ (Kd.R k78 78 w' w.heap.size (fun k_ => some k_ ≠ (v748 : Value).ownBlock ∧ some k_ ≠ (s_.2.1 : Value).ownBlock) s_.1 t757) ∧ (Kd.R k78 78 w' w.heap.size (fun k_ => some k_ ≠ (v748 : Value).ownBlock ∧ some k_ ≠ (s_.1 : Value).ownBlock) s_.2.1 t760) ∧ (w'.heap[gb742]? = some (.cells #[.int .i64 a1_0, .int .i64 a1_1, .int .i64 a1_2, .string a1_3, .string a1_4, .string a1_5, .int .i64 a1_6] 72 (0, 0))) ∧ (w'.heap[gb756]? = some (.cells #[.int .i64 t750, .int .i64 t751, .int .i64 t752, .bool t753, .string t754, .int .i64 t755] 60 (0, 0))) ∧ (w'.heap[s_.2.2]? = some (.cells #[.int .i64 0, .int .i64 0, .int .i64 0, .bool false, .string (⟨#[]⟩ : ByteArray), .int .i64 0] 60 (0, 0))) ∧ (w.heap.size ≤ s_.2.2) ∧ (w.heap.size ≤ s_.2.2) ∧ (gb742 ≠ s_.2.2) ∧ (s_.2.2 ≠ gb742) ∧ (gb756 ≠ s_.2.2) ∧ (s_.2.2 ≠ gb756) ∧ (Below w.heap.size w w')) ?_ ?_
          rotate_left
          · intro hCont
            refine two_ (i := 1) (j := 7) (Ni := some 34) (Nj := some 8) #[true, true, true, false, false, false, false, false, false, false] #[true, false, true, false, false, false, false, true, false, false] rfl rfl rfl rfl (two_of HT_.out (by kernel_rfl)) (by decide) (by decide) (fun K hK => ?_) (fun K hK => ?_)
            · skip
              refine goes_ Try.func71 (by kernel_rfl) rfl #[.slice A0 l0.length c0] (by rfl) rfl rfl (by (try simp only [List.map_toArray, List.map_cons, List.map_nil]); first | done | rfl | (simp only [List.length_drop, List.length_take]; rfl)) ?_
              with_reducible refine (kvtwo_Plain.calls kj2 _ _ l0 t757 _ ?side1 ?side2 A22.out).mono ?_
              (case side1 => repeat (first | exact (Kd.C_below HR0.out HB.out) | (with_reducible refine Kd.C_alloc ?_ _) | (with_reducible refine Kd.C_drewN ?_ _) | (with_reducible refine Kd.C_drew ?_)))
              (case side2 => exact HC0.out)
              rintro e w89 ⟨v758, rfl, ho0, hb⟩
              refine ⟨_, rfl, ?_⟩
              have n0_ := Aside0.mk (Kd.R_elder' (by (with_reducible repeat (first | apply Kd.R_alloc | apply Kd.R_drewN | apply Kd.R_drew)); exact HO749.out) (Kd.R_base ho0) hb)
              have n1_ := Aside0.mk (Kd.R_lower (Kd.R_new' ho0 (Kd.R_lt (by (with_reducible repeat (first | apply Kd.R_alloc | apply Kd.R_drewN | apply Kd.R_drew)); exact HO749.out))) (below_size (by repeat (first | (with_reducible first | exact HB.out | apply below_alloc | apply pw_below_drewN | apply below_drew1 | refine below_set ?_ GE742.out | refine below_set ?_ GE756.out) | exact HB.out))))
              have n2_ := Aside0.mk (blk_below (g := gb742) (o := .cells #[.int .i64 a1_0, .int .i64 a1_1, .int .i64 a1_2, .string a1_3, .string a1_4, .string a1_5, .int .i64 a1_6] 72 (0, 0)) (by (with_reducible repeat (first | refine blk_drewN ?_ _ | refine blk_drew ?_ | refine blk_alloc ?_ _)); exact BK742.out) hb)
              have n3_ := Aside0.mk (blk_below (g := gb756) (o := .cells #[.int .i64 t750, .int .i64 t751, .int .i64 t752, .bool t753, .string t754, .int .i64 t755] 60 (0, 0)) (by (with_reducible repeat (first | refine blk_drewN ?_ _ | refine blk_drew ?_ | refine blk_alloc ?_ _)); exact BK756.out) hb)
              have n4_ := Aside0.mk (below_step (by repeat (first | (with_reducible first | exact HB.out | apply below_alloc | apply pw_below_drewN | apply below_drew1 | refine below_set ?_ GE742.out | refine below_set ?_ GE756.out) | exact HB.out)) hb)
              clear HO749
              clear BK742
              clear BK756
              clear HB
              have HO749 := n0_
              have HO759 := n1_
              have BK742 := n2_
              have BK756 := n3_
              have HB := n4_
              clear n0_ n1_ n2_ n3_ n4_
              (try clear hb)
              (try clear hb2)
              (try clear hk)
              (try clear hi)
              (try clear ho0)
              obtain ⟨Ao90, co90, eo90⟩ := Kd.R_slice HO759.out
              (first | subst eo90 | (injection eo90 with f1_ f2_ f3_; have f4_ := f1_.symm; have f5_ := f3_.symm; clear f1_ f2_ f3_; subst f4_; subst f5_))
              refine hK.out _ _ ⟨(blk_cell BK742.out 0).trans rfl, (blk_cell BK742.out 1).trans rfl, (blk_cell BK742.out 2).trans rfl, (blk_cell BK742.out 3).trans rfl, (blk_cell BK742.out 4).trans rfl, (blk_cell BK742.out 5).trans rfl, (blk_cell BK742.out 6).trans rfl⟩ (fun hHeld => ?_)
              clear hK K
              refine norm_ (a' := ?_) ?_ ?_
              rotate_left
              · show Act.put _ (some 34) _ = _
                simp only [Act.put, List.setIfInBounds_toArray, List.set_cons_zero, List.set_cons_succ, i64_w, i32_w]
                rfl
              refine two_ (i := 3) (j := 7) (Ni := some 36) (Nj := some 8) #[true, true, true, true, false, false, false, false, false, false] #[true, true, true, false, false, false, false, true, false, false] rfl rfl rfl rfl (two_of HT_.out (by kernel_rfl)) (by decide) (by decide) (fun K hK => ?_) (fun K hK => ?_)
              · skip
                refine goes_ Try.func59 (by kernel_rfl) rfl #[.slice Ao90 t757.length co90, .agg #[.int .i64 a1_0, .int .i64 a1_1, .int .i64 a1_2, .string a1_3, .string a1_4, .string a1_5, .int .i64 a1_6]] (by rfl) rfl rfl (by (try simp only [List.map_toArray, List.map_cons, List.map_nil]); first | done | rfl | (simp only [List.length_drop, List.length_take]; rfl)) ?_
                with_reducible refine (kvone_Do.calls kj2 _ _ t757 a1_0 a1_1 a1_2 a1_3 a1_4 a1_5 a1_6 t760 t763 t764 t765 t766 t767 t768 _ ?side1 ?side2 A23.out).mono ?_
                (case side1 => repeat (first | exact (Kd.R_reads' HO759.out).2.2 | (with_reducible refine Kd.C_alloc ?_ _) | (with_reducible refine Kd.C_drewN ?_ _) | (with_reducible refine Kd.C_drew ?_)))
                (case side2 => exact (Kd.R_reads' HO759.out).2.1)
                rintro e w91 ⟨v761, rfl, ho0, hb⟩
                refine ⟨_, rfl, ?_⟩
                have n0_ := Aside0.mk (Kd.R_elder' (by (with_reducible repeat (first | apply Kd.R_alloc | apply Kd.R_drewN | apply Kd.R_drew)); exact HO749.out) (Kd.R_base ho0) hb)
                have n1_ := Aside0.mk (Kd.R_elder' (by (with_reducible repeat (first | apply Kd.R_alloc | apply Kd.R_drewN | apply Kd.R_drew)); exact HO759.out) (Kd.R_base ho0) hb)
                have n2_ := Aside0.mk (Kd.R_lower (Kd.R_new' (Kd.R_new' ho0 (Kd.R_lt (by (with_reducible repeat (first | apply Kd.R_alloc | apply Kd.R_drewN | apply Kd.R_drew)); exact HO749.out))) (Kd.R_lt (by (with_reducible repeat (first | apply Kd.R_alloc | apply Kd.R_drewN | apply Kd.R_drew)); exact HO759.out))) (below_size (by repeat (first | (with_reducible first | exact HB.out | apply below_alloc | apply pw_below_drewN | apply below_drew1 | refine below_set ?_ GE742.out | refine below_set ?_ GE756.out) | exact HB.out))))
                have n3_ := Aside0.mk (blk_below (g := gb742) (o := .cells #[.int .i64 a1_0, .int .i64 a1_1, .int .i64 a1_2, .string a1_3, .string a1_4, .string a1_5, .int .i64 a1_6] 72 (0, 0)) (by (with_reducible repeat (first | refine blk_drewN ?_ _ | refine blk_drew ?_ | refine blk_alloc ?_ _)); exact BK742.out) hb)
                have n4_ := Aside0.mk (blk_below (g := gb756) (o := .cells #[.int .i64 t750, .int .i64 t751, .int .i64 t752, .bool t753, .string t754, .int .i64 t755] 60 (0, 0)) (by (with_reducible repeat (first | refine blk_drewN ?_ _ | refine blk_drew ?_ | refine blk_alloc ?_ _)); exact BK756.out) hb)
                have n5_ := Aside0.mk (below_step (by repeat (first | (with_reducible first | exact HB.out | apply below_alloc | apply pw_below_drewN | apply below_drew1 | refine below_set ?_ GE742.out | refine below_set ?_ GE756.out) | exact HB.out)) hb)
                clear HO749
                clear HO759
                clear BK742
                clear BK756
                clear HB
                have HO749 := n0_
                have HO759 := n1_
                have HO762 := n2_
                have BK742 := n3_
                have BK756 := n4_
                have HB := n5_
                clear n0_ n1_ n2_ n3_ n4_ n5_
                (try clear hb)
                (try clear hb2)
                (try clear hk)
                (try clear hi)
                (try clear ho0)
                refine hK.out _ _ ⟨(blk_cell BK742.out 0).trans rfl, (blk_cell BK742.out 1).trans rfl, (blk_cell BK742.out 2).trans rfl, (blk_cell BK742.out 3).trans rfl, (blk_cell BK742.out 4).trans rfl, (blk_cell BK742.out 5).trans rfl, (blk_cell BK742.out 6).trans rfl⟩ (fun hHeld => ?_)
                clear hK K
                refine norm_ (a' := ?_) ?_ ?_
                rotate_left
                · show Act.put _ (some 36) _ = _
                  simp only [Act.put, List.setIfInBounds_toArray, List.set_cons_zero, List.set_cons_succ, i64_w, i32_w]
                  rfl
                refine pure_ (i := 4) (N := some 32) (v := ?_) (a' := ?_) #[true, true, true, true, true, false, false, false, false, false] rfl rfl (any_of HT_.out (by kernel_rfl)) (fun _ _ _ h => h) (Or.inl ⟨by rfl, ?_⟩) ?_ ?_
                rotate_left
                · intro w'
                  go_simp
                  with_reducible rfl
                rotate_left
                · simp only [Act.put, List.setIfInBounds_toArray, List.set_cons_zero, List.set_cons_succ, i64_w, i32_w]
                  rfl
                refine pure_ (i := 5) (N := some 37) (v := ?_) (a' := ?_) #[true, true, true, true, true, true, false, false, false, false] rfl rfl (any_of HT_.out (by kernel_rfl)) (fun _ _ _ h => h) (Or.inl ⟨by rfl, ?_⟩) ?_ ?_
                rotate_left
                · intro w'
                  go_simp
                  with_reducible rfl
                rotate_left
                · simp only [Act.put, List.setIfInBounds_toArray, List.set_cons_zero, List.set_cons_succ, i64_w, i32_w]
                  rfl
                refine pure_ (i := 6) (N := some 38) (v := ?_) (a' := ?_) #[true, true, true, true, true, true, true, false, false, false] rfl rfl (any_of HT_.out (by kernel_rfl)) (fun _ _ _ h => h) (Or.inl ⟨by rfl, ?_⟩) ?_ ?_
                rotate_left
                · intro w'
                  go_simp
                  with_reducible rfl
                rotate_left
                · simp only [Act.put, List.setIfInBounds_toArray, List.set_cons_zero, List.set_cons_succ, i64_w, i32_w]
                  rfl
                refine one_ (i := 7) (N := some 8) #[true, true, true, true, true, true, true, true, false, false] rfl rfl (one_of HT_.out (by kernel_rfl)) (by decide) (fun K hK => ?_)
                refine box_step ?hg (N := 8) ?hd (cs := #[.int .i64 0, .int .i64 0, .int .i64 0, .bool false, .string (⟨#[]⟩ : ByteArray), .int .i64 0]) (t := 60) ?hr ?_; (case hd => rfl); (case hg => rfl); (case hr => first | (go_simp; done) | (go_simp; rfl))
                intro gb769 hg w92 hbox hb
                have n0_ := Aside0.mk (Kd.R_below (by (with_reducible repeat (first | apply Kd.R_alloc | apply Kd.R_drewN | apply Kd.R_drew)); exact HO749.out) hb)
                have n1_ := Aside0.mk (Kd.R_below (by (with_reducible repeat (first | apply Kd.R_alloc | apply Kd.R_drewN | apply Kd.R_drew)); exact HO759.out) hb)
                have n2_ := Aside0.mk (Kd.R_below (by (with_reducible repeat (first | apply Kd.R_alloc | apply Kd.R_drewN | apply Kd.R_drew)); exact HO762.out) hb)
                have n3_ := Aside0.mk (blk_below (g := gb742) (o := .cells #[.int .i64 a1_0, .int .i64 a1_1, .int .i64 a1_2, .string a1_3, .string a1_4, .string a1_5, .int .i64 a1_6] 72 (0, 0)) (by (with_reducible repeat (first | refine blk_drewN ?_ _ | refine blk_drew ?_ | refine blk_alloc ?_ _)); exact BK742.out) hb)
                have n4_ := Aside0.mk (blk_below (g := gb756) (o := .cells #[.int .i64 t750, .int .i64 t751, .int .i64 t752, .bool t753, .string t754, .int .i64 t755] 60 (0, 0)) (by (with_reducible repeat (first | refine blk_drewN ?_ _ | refine blk_drew ?_ | refine blk_alloc ?_ _)); exact BK756.out) hb)
                have n5_ := Aside0.mk (below_step (by repeat (first | (with_reducible first | exact HB.out | apply below_alloc | apply pw_below_drewN | apply below_drew1 | refine below_set ?_ GE742.out | refine below_set ?_ GE756.out) | exact HB.out)) hb)
                have n6_ := Aside0.mk (hbox)
                have n7_ := Aside0.mk ((by rw [hg]; exact (below_size (by repeat (first | (with_reducible first | exact HB.out | apply below_alloc | apply pw_below_drewN | apply below_drew1 | refine below_set ?_ GE742.out | refine below_set ?_ GE756.out) | exact HB.out))) : w.heap.size ≤ gb769))
                have n8_ := Aside0.mk ((by rw [hg]; exact (below_size (by repeat (first | (with_reducible first | exact HB.out | apply below_alloc | apply pw_below_drewN | apply below_drew1 | refine below_set ?_ GE742.out | refine below_set ?_ GE756.out) | exact HB.out))) : w.heap.size ≤ gb769))
                have n9_ := Aside0.mk ((by rw [hg]; exact Nat.ne_of_lt (blk_lt (g := gb742) (o := .cells #[.int .i64 a1_0, .int .i64 a1_1, .int .i64 a1_2, .string a1_3, .string a1_4, .string a1_5, .int .i64 a1_6] 72 (0, 0)) (by (with_reducible repeat (first | refine blk_drewN ?_ _ | refine blk_drew ?_ | refine blk_alloc ?_ _)); exact BK742.out)) : gb742 ≠ gb769))
                have n10_ := Aside0.mk ((by rw [hg]; exact Nat.ne_of_gt (blk_lt (g := gb742) (o := .cells #[.int .i64 a1_0, .int .i64 a1_1, .int .i64 a1_2, .string a1_3, .string a1_4, .string a1_5, .int .i64 a1_6] 72 (0, 0)) (by (with_reducible repeat (first | refine blk_drewN ?_ _ | refine blk_drew ?_ | refine blk_alloc ?_ _)); exact BK742.out)) : gb769 ≠ gb742))
                have n11_ := Aside0.mk ((by rw [hg]; exact Nat.ne_of_lt (blk_lt (g := gb756) (o := .cells #[.int .i64 t750, .int .i64 t751, .int .i64 t752, .bool t753, .string t754, .int .i64 t755] 60 (0, 0)) (by (with_reducible repeat (first | refine blk_drewN ?_ _ | refine blk_drew ?_ | refine blk_alloc ?_ _)); exact BK756.out)) : gb756 ≠ gb769))
                have n12_ := Aside0.mk ((by rw [hg]; exact Nat.ne_of_gt (blk_lt (g := gb756) (o := .cells #[.int .i64 t750, .int .i64 t751, .int .i64 t752, .bool t753, .string t754, .int .i64 t755] 60 (0, 0)) (by (with_reducible repeat (first | refine blk_drewN ?_ _ | refine blk_drew ?_ | refine blk_alloc ?_ _)); exact BK756.out)) : gb769 ≠ gb756))
                clear HO749
                clear HO759
                clear HO762
                clear BK742
                clear BK756
                clear HB
                have HO749 := n0_
                have HO759 := n1_
                have HO762 := n2_
                have BK742 := n3_
                have BK756 := n4_
                have HB := n5_
                have BK769 := n6_
                have GW769 := n7_
                have GE769 := n8_
                have NB742_769 := n9_
                have NB769_742 := n10_
                have NB756_769 := n11_
                have NB769_756 := n12_
                clear n0_ n1_ n2_ n3_ n4_ n5_ n6_ n7_ n8_ n9_ n10_ n11_ n12_
                clear hb hbox hg
                refine hK.out _ _ ⟨(blk_cell BK742.out 0).trans rfl, (blk_cell BK742.out 1).trans rfl, (blk_cell BK742.out 2).trans rfl, (blk_cell BK742.out 3).trans rfl, (blk_cell BK742.out 4).trans rfl, (blk_cell BK742.out 5).trans rfl, (blk_cell BK742.out 6).trans rfl⟩ (fun hHeld => ?_)
                clear hK K
                refine norm_ (a' := ?_) ?_ ?_
                rotate_left
                · show Act.put _ (some 8) _ = _
                  simp only [Act.put, List.setIfInBounds_toArray, List.set_cons_zero, List.set_cons_succ, i64_w, i32_w]
                  rfl
                exact norm_ (by simp only [putAll, Act.put, List.setIfInBounds_toArray, List.set_cons_zero, List.set_cons_succ]) (hCont (.slice Ao90 t757.length co90, v761, gb769) _ ⟨hHeld, (by (with_reducible repeat (first | apply Kd.R_alloc | apply Kd.R_drewN | apply Kd.R_drew)); exact Kd.R_mono HO749.out (fun _ hk => ⟨hk.1.2, hk.2⟩)), (by (with_reducible repeat (first | apply Kd.R_alloc | apply Kd.R_drewN | apply Kd.R_drew)); exact Kd.R_mono HO759.out (fun _ hk => ⟨hk.1.2, hk.2⟩)), (by (with_reducible repeat (first | apply Kd.R_alloc | apply Kd.R_drewN | apply Kd.R_drew)); exact Kd.R_mono HO762.out (fun _ hk => ⟨hk.1.2, hk.2⟩)), (by (with_reducible repeat (first | refine blk_drewN ?_ _ | refine blk_drew ?_ | refine blk_alloc ?_ _)); exact BK742.out), (by (with_reducible repeat (first | refine blk_drewN ?_ _ | refine blk_drew ?_ | refine blk_alloc ?_ _)); exact BK756.out), (by (with_reducible repeat (first | refine blk_drewN ?_ _ | refine blk_drew ?_ | refine blk_alloc ?_ _)); exact BK769.out), GW769.out, GE769.out, NB742_769.out, NB769_742.out, NB756_769.out, NB769_756.out, (by repeat (first | (with_reducible first | exact HB.out | apply below_alloc | apply pw_below_drewN | apply below_drew1 | refine below_set ?_ GE742.out | refine below_set ?_ GE756.out | refine below_set ?_ GE769.out) | exact HB.out))⟩)
              · skip
                refine box_step ?hg (N := 8) ?hd (cs := #[.int .i64 0, .int .i64 0, .int .i64 0, .bool false, .string (⟨#[]⟩ : ByteArray), .int .i64 0]) (t := 60) ?hr ?_; (case hd => rfl); (case hg => rfl); (case hr => first | (go_simp; done) | (go_simp; rfl))
                intro gb769 hg w90 hbox hb
                have n0_ := Aside0.mk (Kd.R_below (by (with_reducible repeat (first | apply Kd.R_alloc | apply Kd.R_drewN | apply Kd.R_drew)); exact HO749.out) hb)
                have n1_ := Aside0.mk (Kd.R_below (by (with_reducible repeat (first | apply Kd.R_alloc | apply Kd.R_drewN | apply Kd.R_drew)); exact HO759.out) hb)
                have n2_ := Aside0.mk (blk_below (g := gb742) (o := .cells #[.int .i64 a1_0, .int .i64 a1_1, .int .i64 a1_2, .string a1_3, .string a1_4, .string a1_5, .int .i64 a1_6] 72 (0, 0)) (by (with_reducible repeat (first | refine blk_drewN ?_ _ | refine blk_drew ?_ | refine blk_alloc ?_ _)); exact BK742.out) hb)
                have n3_ := Aside0.mk (blk_below (g := gb756) (o := .cells #[.int .i64 t750, .int .i64 t751, .int .i64 t752, .bool t753, .string t754, .int .i64 t755] 60 (0, 0)) (by (with_reducible repeat (first | refine blk_drewN ?_ _ | refine blk_drew ?_ | refine blk_alloc ?_ _)); exact BK756.out) hb)
                have n4_ := Aside0.mk (below_step (by repeat (first | (with_reducible first | exact HB.out | apply below_alloc | apply pw_below_drewN | apply below_drew1 | refine below_set ?_ GE742.out | refine below_set ?_ GE756.out) | exact HB.out)) hb)
                have n5_ := Aside0.mk (hbox)
                have n6_ := Aside0.mk ((by rw [hg]; exact (below_size (by repeat (first | (with_reducible first | exact HB.out | apply below_alloc | apply pw_below_drewN | apply below_drew1 | refine below_set ?_ GE742.out | refine below_set ?_ GE756.out) | exact HB.out))) : w.heap.size ≤ gb769))
                have n7_ := Aside0.mk ((by rw [hg]; exact (below_size (by repeat (first | (with_reducible first | exact HB.out | apply below_alloc | apply pw_below_drewN | apply below_drew1 | refine below_set ?_ GE742.out | refine below_set ?_ GE756.out) | exact HB.out))) : w.heap.size ≤ gb769))
                have n8_ := Aside0.mk ((by rw [hg]; exact Nat.ne_of_lt (blk_lt (g := gb742) (o := .cells #[.int .i64 a1_0, .int .i64 a1_1, .int .i64 a1_2, .string a1_3, .string a1_4, .string a1_5, .int .i64 a1_6] 72 (0, 0)) (by (with_reducible repeat (first | refine blk_drewN ?_ _ | refine blk_drew ?_ | refine blk_alloc ?_ _)); exact BK742.out)) : gb742 ≠ gb769))
                have n9_ := Aside0.mk ((by rw [hg]; exact Nat.ne_of_gt (blk_lt (g := gb742) (o := .cells #[.int .i64 a1_0, .int .i64 a1_1, .int .i64 a1_2, .string a1_3, .string a1_4, .string a1_5, .int .i64 a1_6] 72 (0, 0)) (by (with_reducible repeat (first | refine blk_drewN ?_ _ | refine blk_drew ?_ | refine blk_alloc ?_ _)); exact BK742.out)) : gb769 ≠ gb742))
                have n10_ := Aside0.mk ((by rw [hg]; exact Nat.ne_of_lt (blk_lt (g := gb756) (o := .cells #[.int .i64 t750, .int .i64 t751, .int .i64 t752, .bool t753, .string t754, .int .i64 t755] 60 (0, 0)) (by (with_reducible repeat (first | refine blk_drewN ?_ _ | refine blk_drew ?_ | refine blk_alloc ?_ _)); exact BK756.out)) : gb756 ≠ gb769))
                have n11_ := Aside0.mk ((by rw [hg]; exact Nat.ne_of_gt (blk_lt (g := gb756) (o := .cells #[.int .i64 t750, .int .i64 t751, .int .i64 t752, .bool t753, .string t754, .int .i64 t755] 60 (0, 0)) (by (with_reducible repeat (first | refine blk_drewN ?_ _ | refine blk_drew ?_ | refine blk_alloc ?_ _)); exact BK756.out)) : gb769 ≠ gb756))
                clear HO749
                clear HO759
                clear BK742
                clear BK756
                clear HB
                have HO749 := n0_
                have HO759 := n1_
                have BK742 := n2_
                have BK756 := n3_
                have HB := n4_
                have BK769 := n5_
                have GW769 := n6_
                have GE769 := n7_
                have NB742_769 := n8_
                have NB769_742 := n9_
                have NB756_769 := n10_
                have NB769_756 := n11_
                clear n0_ n1_ n2_ n3_ n4_ n5_ n6_ n7_ n8_ n9_ n10_ n11_
                clear hb hbox hg
                obtain ⟨Ao91, co91, eo91⟩ := Kd.R_slice HO759.out
                (first | subst eo91 | (injection eo91 with f1_ f2_ f3_; have f4_ := f1_.symm; have f5_ := f3_.symm; clear f1_ f2_ f3_; subst f4_; subst f5_))
                refine hK.out _ _ ⟨(blk_cell BK742.out 0).trans rfl, (blk_cell BK742.out 1).trans rfl, (blk_cell BK742.out 2).trans rfl, (blk_cell BK742.out 3).trans rfl, (blk_cell BK742.out 4).trans rfl, (blk_cell BK742.out 5).trans rfl, (blk_cell BK742.out 6).trans rfl⟩ (fun hHeld => ?_)
                clear hK K
                refine norm_ (a' := ?_) ?_ ?_
                rotate_left
                · show Act.put _ (some 8) _ = _
                  simp only [Act.put, List.setIfInBounds_toArray, List.set_cons_zero, List.set_cons_succ, i64_w, i32_w]
                  rfl
                refine one_ (i := 3) (N := some 36) #[true, true, true, true, false, false, false, true, false, false] rfl rfl (one_of HT_.out (by kernel_rfl)) (by decide) (fun K hK => ?_)
                refine goes_ Try.func59 (by kernel_rfl) rfl #[.slice Ao91 t757.length co91, .agg #[.int .i64 a1_0, .int .i64 a1_1, .int .i64 a1_2, .string a1_3, .string a1_4, .string a1_5, .int .i64 a1_6]] (by rfl) rfl rfl (by (try simp only [List.map_toArray, List.map_cons, List.map_nil]); first | done | rfl | (simp only [List.length_drop, List.length_take]; rfl)) ?_
                with_reducible refine (kvone_Do.calls kj2 _ _ t757 a1_0 a1_1 a1_2 a1_3 a1_4 a1_5 a1_6 t760 t763 t764 t765 t766 t767 t768 _ ?side1 ?side2 A23.out).mono ?_
                (case side1 => repeat (first | exact (Kd.R_reads' HO759.out).2.2 | (with_reducible refine Kd.C_alloc ?_ _) | (with_reducible refine Kd.C_drewN ?_ _) | (with_reducible refine Kd.C_drew ?_)))
                (case side2 => exact (Kd.R_reads' HO759.out).2.1)
                rintro e w92 ⟨v761, rfl, ho0, hb⟩
                refine ⟨_, rfl, ?_⟩
                have n0_ := Aside0.mk (Kd.R_elder' (by (with_reducible repeat (first | apply Kd.R_alloc | apply Kd.R_drewN | apply Kd.R_drew)); exact HO749.out) (Kd.R_base ho0) hb)
                have n1_ := Aside0.mk (Kd.R_elder' (by (with_reducible repeat (first | apply Kd.R_alloc | apply Kd.R_drewN | apply Kd.R_drew)); exact HO759.out) (Kd.R_base ho0) hb)
                have n2_ := Aside0.mk (Kd.R_lower (Kd.R_new' (Kd.R_new' ho0 (Kd.R_lt (by (with_reducible repeat (first | apply Kd.R_alloc | apply Kd.R_drewN | apply Kd.R_drew)); exact HO749.out))) (Kd.R_lt (by (with_reducible repeat (first | apply Kd.R_alloc | apply Kd.R_drewN | apply Kd.R_drew)); exact HO759.out))) (below_size (by repeat (first | (with_reducible first | exact HB.out | apply below_alloc | apply pw_below_drewN | apply below_drew1 | refine below_set ?_ GE742.out | refine below_set ?_ GE756.out | refine below_set ?_ GE769.out) | exact HB.out))))
                have n3_ := Aside0.mk (blk_below (g := gb742) (o := .cells #[.int .i64 a1_0, .int .i64 a1_1, .int .i64 a1_2, .string a1_3, .string a1_4, .string a1_5, .int .i64 a1_6] 72 (0, 0)) (by (with_reducible repeat (first | refine blk_drewN ?_ _ | refine blk_drew ?_ | refine blk_alloc ?_ _)); exact BK742.out) hb)
                have n4_ := Aside0.mk (blk_below (g := gb756) (o := .cells #[.int .i64 t750, .int .i64 t751, .int .i64 t752, .bool t753, .string t754, .int .i64 t755] 60 (0, 0)) (by (with_reducible repeat (first | refine blk_drewN ?_ _ | refine blk_drew ?_ | refine blk_alloc ?_ _)); exact BK756.out) hb)
                have n5_ := Aside0.mk (blk_below (g := gb769) (o := .cells #[.int .i64 0, .int .i64 0, .int .i64 0, .bool false, .string (⟨#[]⟩ : ByteArray), .int .i64 0] 60 (0, 0)) (by (with_reducible repeat (first | refine blk_drewN ?_ _ | refine blk_drew ?_ | refine blk_alloc ?_ _)); exact BK769.out) hb)
                have n6_ := Aside0.mk (below_step (by repeat (first | (with_reducible first | exact HB.out | apply below_alloc | apply pw_below_drewN | apply below_drew1 | refine below_set ?_ GE742.out | refine below_set ?_ GE756.out | refine below_set ?_ GE769.out) | exact HB.out)) hb)
                clear HO749
                clear HO759
                clear BK742
                clear BK756
                clear BK769
                clear HB
                have HO749 := n0_
                have HO759 := n1_
                have HO762 := n2_
                have BK742 := n3_
                have BK756 := n4_
                have BK769 := n5_
                have HB := n6_
                clear n0_ n1_ n2_ n3_ n4_ n5_ n6_
                (try clear hb)
                (try clear hb2)
                (try clear hk)
                (try clear hi)
                (try clear ho0)
                refine hK.out _ _ ⟨(blk_cell BK742.out 0).trans rfl, (blk_cell BK742.out 1).trans rfl, (blk_cell BK742.out 2).trans rfl, (blk_cell BK742.out 3).trans rfl, (blk_cell BK742.out 4).trans rfl, (blk_cell BK742.out 5).trans rfl, (blk_cell BK742.out 6).trans rfl⟩ (fun hHeld => ?_)
                clear hK K
                refine norm_ (a' := ?_) ?_ ?_
                rotate_left
                · show Act.put _ (some 36) _ = _
                  simp only [Act.put, List.setIfInBounds_toArray, List.set_cons_zero, List.set_cons_succ, i64_w, i32_w]
                  rfl
                refine pure_ (i := 4) (N := some 32) (v := ?_) (a' := ?_) #[true, true, true, true, true, false, false, true, false, false] rfl rfl (any_of HT_.out (by kernel_rfl)) (fun _ _ _ h => h) (Or.inl ⟨by rfl, ?_⟩) ?_ ?_
                rotate_left
                · intro w'
                  go_simp
                  with_reducible rfl
                rotate_left
                · simp only [Act.put, List.setIfInBounds_toArray, List.set_cons_zero, List.set_cons_succ, i64_w, i32_w]
                  rfl
                refine pure_ (i := 5) (N := some 37) (v := ?_) (a' := ?_) #[true, true, true, true, true, true, false, true, false, false] rfl rfl (any_of HT_.out (by kernel_rfl)) (fun _ _ _ h => h) (Or.inl ⟨by rfl, ?_⟩) ?_ ?_
                rotate_left
                · intro w'
                  go_simp
                  with_reducible rfl
                rotate_left
                · simp only [Act.put, List.setIfInBounds_toArray, List.set_cons_zero, List.set_cons_succ, i64_w, i32_w]
                  rfl
                refine pure_ (i := 6) (N := some 38) (v := ?_) (a' := ?_) #[true, true, true, true, true, true, true, true, false, false] rfl rfl (any_of HT_.out (by kernel_rfl)) (fun _ _ _ h => h) (Or.inl ⟨by rfl, ?_⟩) ?_ ?_
                rotate_left
                · intro w'
                  go_simp
                  with_reducible rfl
                rotate_left
                · simp only [Act.put, List.setIfInBounds_toArray, List.set_cons_zero, List.set_cons_succ, i64_w, i32_w]
                  rfl
                exact norm_ (by simp only [putAll, Act.put, List.setIfInBounds_toArray, List.set_cons_zero, List.set_cons_succ]) (hCont (.slice Ao91 t757.length co91, v761, gb769) _ ⟨hHeld, (by (with_reducible repeat (first | apply Kd.R_alloc | apply Kd.R_drewN | apply Kd.R_drew)); exact Kd.R_mono HO749.out (fun _ hk => ⟨hk.1.2, hk.2⟩)), (by (with_reducible repeat (first | apply Kd.R_alloc | apply Kd.R_drewN | apply Kd.R_drew)); exact Kd.R_mono HO759.out (fun _ hk => ⟨hk.1.2, hk.2⟩)), (by (with_reducible repeat (first | apply Kd.R_alloc | apply Kd.R_drewN | apply Kd.R_drew)); exact Kd.R_mono HO762.out (fun _ hk => ⟨hk.1.2, hk.2⟩)), (by (with_reducible repeat (first | refine blk_drewN ?_ _ | refine blk_drew ?_ | refine blk_alloc ?_ _)); exact BK742.out), (by (with_reducible repeat (first | refine blk_drewN ?_ _ | refine blk_drew ?_ | refine blk_alloc ?_ _)); exact BK756.out), (by (with_reducible repeat (first | refine blk_drewN ?_ _ | refine blk_drew ?_ | refine blk_alloc ?_ _)); exact BK769.out), GW769.out, GE769.out, NB742_769.out, NB769_742.out, NB756_769.out, NB769_756.out, (by repeat (first | (with_reducible first | exact HB.out | apply below_alloc | apply pw_below_drewN | apply below_drew1 | refine below_set ?_ GE742.out | refine below_set ?_ GE756.out | refine below_set ?_ GE769.out) | exact HB.out))⟩)
            · skip
              refine box_step ?hg (N := 8) ?hd (cs := #[.int .i64 0, .int .i64 0, .int .i64 0, .bool false, .string (⟨#[]⟩ : ByteArray), .int .i64 0]) (t := 60) ?hr ?_; (case hd => rfl); (case hg => rfl); (case hr => first | (go_simp; done) | (go_simp; rfl))
              intro gb769 hg w89 hbox hb
              have n0_ := Aside0.mk (Kd.R_below (by (with_reducible repeat (first | apply Kd.R_alloc | apply Kd.R_drewN | apply Kd.R_drew)); exact HO749.out) hb)
              have n1_ := Aside0.mk (blk_below (g := gb742) (o := .cells #[.int .i64 a1_0, .int .i64 a1_1, .int .i64 a1_2, .string a1_3, .string a1_4, .string a1_5, .int .i64 a1_6] 72 (0, 0)) (by (with_reducible repeat (first | refine blk_drewN ?_ _ | refine blk_drew ?_ | refine blk_alloc ?_ _)); exact BK742.out) hb)
              have n2_ := Aside0.mk (blk_below (g := gb756) (o := .cells #[.int .i64 t750, .int .i64 t751, .int .i64 t752, .bool t753, .string t754, .int .i64 t755] 60 (0, 0)) (by (with_reducible repeat (first | refine blk_drewN ?_ _ | refine blk_drew ?_ | refine blk_alloc ?_ _)); exact BK756.out) hb)
              have n3_ := Aside0.mk (below_step (by repeat (first | (with_reducible first | exact HB.out | apply below_alloc | apply pw_below_drewN | apply below_drew1 | refine below_set ?_ GE742.out | refine below_set ?_ GE756.out) | exact HB.out)) hb)
              have n4_ := Aside0.mk (hbox)
              have n5_ := Aside0.mk ((by rw [hg]; exact (below_size (by repeat (first | (with_reducible first | exact HB.out | apply below_alloc | apply pw_below_drewN | apply below_drew1 | refine below_set ?_ GE742.out | refine below_set ?_ GE756.out) | exact HB.out))) : w.heap.size ≤ gb769))
              have n6_ := Aside0.mk ((by rw [hg]; exact (below_size (by repeat (first | (with_reducible first | exact HB.out | apply below_alloc | apply pw_below_drewN | apply below_drew1 | refine below_set ?_ GE742.out | refine below_set ?_ GE756.out) | exact HB.out))) : w.heap.size ≤ gb769))
              have n7_ := Aside0.mk ((by rw [hg]; exact Nat.ne_of_lt (blk_lt (g := gb742) (o := .cells #[.int .i64 a1_0, .int .i64 a1_1, .int .i64 a1_2, .string a1_3, .string a1_4, .string a1_5, .int .i64 a1_6] 72 (0, 0)) (by (with_reducible repeat (first | refine blk_drewN ?_ _ | refine blk_drew ?_ | refine blk_alloc ?_ _)); exact BK742.out)) : gb742 ≠ gb769))
              have n8_ := Aside0.mk ((by rw [hg]; exact Nat.ne_of_gt (blk_lt (g := gb742) (o := .cells #[.int .i64 a1_0, .int .i64 a1_1, .int .i64 a1_2, .string a1_3, .string a1_4, .string a1_5, .int .i64 a1_6] 72 (0, 0)) (by (with_reducible repeat (first | refine blk_drewN ?_ _ | refine blk_drew ?_ | refine blk_alloc ?_ _)); exact BK742.out)) : gb769 ≠ gb742))
              have n9_ := Aside0.mk ((by rw [hg]; exact Nat.ne_of_lt (blk_lt (g := gb756) (o := .cells #[.int .i64 t750, .int .i64 t751, .int .i64 t752, .bool t753, .string t754, .int .i64 t755] 60 (0, 0)) (by (with_reducible repeat (first | refine blk_drewN ?_ _ | refine blk_drew ?_ | refine blk_alloc ?_ _)); exact BK756.out)) : gb756 ≠ gb769))
              have n10_ := Aside0.mk ((by rw [hg]; exact Nat.ne_of_gt (blk_lt (g := gb756) (o := .cells #[.int .i64 t750, .int .i64 t751, .int .i64 t752, .bool t753, .string t754, .int .i64 t755] 60 (0, 0)) (by (with_reducible repeat (first | refine blk_drewN ?_ _ | refine blk_drew ?_ | refine blk_alloc ?_ _)); exact BK756.out)) : gb769 ≠ gb756))
              clear HO749
              clear BK742
              clear BK756
              clear HB
              have HO749 := n0_
              have BK742 := n1_
              have BK756 := n2_
              have HB := n3_
              have BK769 := n4_
              have GW769 := n5_
              have GE769 := n6_
              have NB742_769 := n7_
              have NB769_742 := n8_
              have NB756_769 := n9_
              have NB769_756 := n10_
              clear n0_ n1_ n2_ n3_ n4_ n5_ n6_ n7_ n8_ n9_ n10_
              clear hb hbox hg
              refine hK.out _ _ ⟨(blk_cell BK742.out 0).trans rfl, (blk_cell BK742.out 1).trans rfl, (blk_cell BK742.out 2).trans rfl, (blk_cell BK742.out 3).trans rfl, (blk_cell BK742.out 4).trans rfl, (blk_cell BK742.out 5).trans rfl, (blk_cell BK742.out 6).trans rfl⟩ (fun hHeld => ?_)
              clear hK K
              refine norm_ (a' := ?_) ?_ ?_
              rotate_left
              · show Act.put _ (some 8) _ = _
                simp only [Act.put, List.setIfInBounds_toArray, List.set_cons_zero, List.set_cons_succ, i64_w, i32_w]
                rfl
              refine one_ (i := 1) (N := some 34) #[true, true, true, false, false, false, false, true, false, false] rfl rfl (one_of HT_.out (by kernel_rfl)) (by decide) (fun K hK => ?_)
              refine goes_ Try.func71 (by kernel_rfl) rfl #[.slice A0 l0.length c0] (by rfl) rfl rfl (by (try simp only [List.map_toArray, List.map_cons, List.map_nil]); first | done | rfl | (simp only [List.length_drop, List.length_take]; rfl)) ?_
              with_reducible refine (kvtwo_Plain.calls kj2 _ _ l0 t757 _ ?side1 ?side2 A22.out).mono ?_
              (case side1 => repeat (first | exact (Kd.C_below HR0.out HB.out) | (with_reducible refine Kd.C_alloc ?_ _) | (with_reducible refine Kd.C_drewN ?_ _) | (with_reducible refine Kd.C_drew ?_)))
              (case side2 => exact HC0.out)
              rintro e w90 ⟨v758, rfl, ho0, hb⟩
              refine ⟨_, rfl, ?_⟩
              have n0_ := Aside0.mk (Kd.R_elder' (by (with_reducible repeat (first | apply Kd.R_alloc | apply Kd.R_drewN | apply Kd.R_drew)); exact HO749.out) (Kd.R_base ho0) hb)
              have n1_ := Aside0.mk (Kd.R_lower (Kd.R_new' ho0 (Kd.R_lt (by (with_reducible repeat (first | apply Kd.R_alloc | apply Kd.R_drewN | apply Kd.R_drew)); exact HO749.out))) (below_size (by repeat (first | (with_reducible first | exact HB.out | apply below_alloc | apply pw_below_drewN | apply below_drew1 | refine below_set ?_ GE742.out | refine below_set ?_ GE756.out | refine below_set ?_ GE769.out) | exact HB.out))))
              have n2_ := Aside0.mk (blk_below (g := gb742) (o := .cells #[.int .i64 a1_0, .int .i64 a1_1, .int .i64 a1_2, .string a1_3, .string a1_4, .string a1_5, .int .i64 a1_6] 72 (0, 0)) (by (with_reducible repeat (first | refine blk_drewN ?_ _ | refine blk_drew ?_ | refine blk_alloc ?_ _)); exact BK742.out) hb)
              have n3_ := Aside0.mk (blk_below (g := gb756) (o := .cells #[.int .i64 t750, .int .i64 t751, .int .i64 t752, .bool t753, .string t754, .int .i64 t755] 60 (0, 0)) (by (with_reducible repeat (first | refine blk_drewN ?_ _ | refine blk_drew ?_ | refine blk_alloc ?_ _)); exact BK756.out) hb)
              have n4_ := Aside0.mk (blk_below (g := gb769) (o := .cells #[.int .i64 0, .int .i64 0, .int .i64 0, .bool false, .string (⟨#[]⟩ : ByteArray), .int .i64 0] 60 (0, 0)) (by (with_reducible repeat (first | refine blk_drewN ?_ _ | refine blk_drew ?_ | refine blk_alloc ?_ _)); exact BK769.out) hb)
              have n5_ := Aside0.mk (below_step (by repeat (first | (with_reducible first | exact HB.out | apply below_alloc | apply pw_below_drewN | apply below_drew1 | refine below_set ?_ GE742.out | refine below_set ?_ GE756.out | refine below_set ?_ GE769.out) | exact HB.out)) hb)
              clear HO749
              clear BK742
              clear BK756
              clear BK769
              clear HB
              have HO749 := n0_
              have HO759 := n1_
              have BK742 := n2_
              have BK756 := n3_
              have BK769 := n4_
              have HB := n5_
              clear n0_ n1_ n2_ n3_ n4_ n5_
              (try clear hb)
              (try clear hb2)
              (try clear hk)
              (try clear hi)
              (try clear ho0)
              obtain ⟨Ao91, co91, eo91⟩ := Kd.R_slice HO759.out
              (first | subst eo91 | (injection eo91 with f1_ f2_ f3_; have f4_ := f1_.symm; have f5_ := f3_.symm; clear f1_ f2_ f3_; subst f4_; subst f5_))
              refine hK.out _ _ ⟨(blk_cell BK742.out 0).trans rfl, (blk_cell BK742.out 1).trans rfl, (blk_cell BK742.out 2).trans rfl, (blk_cell BK742.out 3).trans rfl, (blk_cell BK742.out 4).trans rfl, (blk_cell BK742.out 5).trans rfl, (blk_cell BK742.out 6).trans rfl⟩ (fun hHeld => ?_)
              clear hK K
              refine norm_ (a' := ?_) ?_ ?_
              rotate_left
              · show Act.put _ (some 34) _ = _
                simp only [Act.put, List.setIfInBounds_toArray, List.set_cons_zero, List.set_cons_succ, i64_w, i32_w]
                rfl
              refine one_ (i := 3) (N := some 36) #[true, true, true, true, false, false, false, true, false, false] rfl rfl (one_of HT_.out (by kernel_rfl)) (by decide) (fun K hK => ?_)
              refine goes_ Try.func59 (by kernel_rfl) rfl #[.slice Ao91 t757.length co91, .agg #[.int .i64 a1_0, .int .i64 a1_1, .int .i64 a1_2, .string a1_3, .string a1_4, .string a1_5, .int .i64 a1_6]] (by rfl) rfl rfl (by (try simp only [List.map_toArray, List.map_cons, List.map_nil]); first | done | rfl | (simp only [List.length_drop, List.length_take]; rfl)) ?_
              with_reducible refine (kvone_Do.calls kj2 _ _ t757 a1_0 a1_1 a1_2 a1_3 a1_4 a1_5 a1_6 t760 t763 t764 t765 t766 t767 t768 _ ?side1 ?side2 A23.out).mono ?_
              (case side1 => repeat (first | exact (Kd.R_reads' HO759.out).2.2 | (with_reducible refine Kd.C_alloc ?_ _) | (with_reducible refine Kd.C_drewN ?_ _) | (with_reducible refine Kd.C_drew ?_)))
              (case side2 => exact (Kd.R_reads' HO759.out).2.1)
              rintro e w92 ⟨v761, rfl, ho0, hb⟩
              refine ⟨_, rfl, ?_⟩
              have n0_ := Aside0.mk (Kd.R_elder' (by (with_reducible repeat (first | apply Kd.R_alloc | apply Kd.R_drewN | apply Kd.R_drew)); exact HO749.out) (Kd.R_base ho0) hb)
              have n1_ := Aside0.mk (Kd.R_elder' (by (with_reducible repeat (first | apply Kd.R_alloc | apply Kd.R_drewN | apply Kd.R_drew)); exact HO759.out) (Kd.R_base ho0) hb)
              have n2_ := Aside0.mk (Kd.R_lower (Kd.R_new' (Kd.R_new' ho0 (Kd.R_lt (by (with_reducible repeat (first | apply Kd.R_alloc | apply Kd.R_drewN | apply Kd.R_drew)); exact HO749.out))) (Kd.R_lt (by (with_reducible repeat (first | apply Kd.R_alloc | apply Kd.R_drewN | apply Kd.R_drew)); exact HO759.out))) (below_size (by repeat (first | (with_reducible first | exact HB.out | apply below_alloc | apply pw_below_drewN | apply below_drew1 | refine below_set ?_ GE742.out | refine below_set ?_ GE756.out | refine below_set ?_ GE769.out) | exact HB.out))))
              have n3_ := Aside0.mk (blk_below (g := gb742) (o := .cells #[.int .i64 a1_0, .int .i64 a1_1, .int .i64 a1_2, .string a1_3, .string a1_4, .string a1_5, .int .i64 a1_6] 72 (0, 0)) (by (with_reducible repeat (first | refine blk_drewN ?_ _ | refine blk_drew ?_ | refine blk_alloc ?_ _)); exact BK742.out) hb)
              have n4_ := Aside0.mk (blk_below (g := gb756) (o := .cells #[.int .i64 t750, .int .i64 t751, .int .i64 t752, .bool t753, .string t754, .int .i64 t755] 60 (0, 0)) (by (with_reducible repeat (first | refine blk_drewN ?_ _ | refine blk_drew ?_ | refine blk_alloc ?_ _)); exact BK756.out) hb)
              have n5_ := Aside0.mk (blk_below (g := gb769) (o := .cells #[.int .i64 0, .int .i64 0, .int .i64 0, .bool false, .string (⟨#[]⟩ : ByteArray), .int .i64 0] 60 (0, 0)) (by (with_reducible repeat (first | refine blk_drewN ?_ _ | refine blk_drew ?_ | refine blk_alloc ?_ _)); exact BK769.out) hb)
              have n6_ := Aside0.mk (below_step (by repeat (first | (with_reducible first | exact HB.out | apply below_alloc | apply pw_below_drewN | apply below_drew1 | refine below_set ?_ GE742.out | refine below_set ?_ GE756.out | refine below_set ?_ GE769.out) | exact HB.out)) hb)
              clear HO749
              clear HO759
              clear BK742
              clear BK756
              clear BK769
              clear HB
              have HO749 := n0_
              have HO759 := n1_
              have HO762 := n2_
              have BK742 := n3_
              have BK756 := n4_
              have BK769 := n5_
              have HB := n6_
              clear n0_ n1_ n2_ n3_ n4_ n5_ n6_
              (try clear hb)
              (try clear hb2)
              (try clear hk)
              (try clear hi)
              (try clear ho0)
              refine hK.out _ _ ⟨(blk_cell BK742.out 0).trans rfl, (blk_cell BK742.out 1).trans rfl, (blk_cell BK742.out 2).trans rfl, (blk_cell BK742.out 3).trans rfl, (blk_cell BK742.out 4).trans rfl, (blk_cell BK742.out 5).trans rfl, (blk_cell BK742.out 6).trans rfl⟩ (fun hHeld => ?_)
              clear hK K
              refine norm_ (a' := ?_) ?_ ?_
              rotate_left
              · show Act.put _ (some 36) _ = _
                simp only [Act.put, List.setIfInBounds_toArray, List.set_cons_zero, List.set_cons_succ, i64_w, i32_w]
                rfl
              refine pure_ (i := 4) (N := some 32) (v := ?_) (a' := ?_) #[true, true, true, true, true, false, false, true, false, false] rfl rfl (any_of HT_.out (by kernel_rfl)) (fun _ _ _ h => h) (Or.inl ⟨by rfl, ?_⟩) ?_ ?_
              rotate_left
              · intro w'
                go_simp
                with_reducible rfl
              rotate_left
              · simp only [Act.put, List.setIfInBounds_toArray, List.set_cons_zero, List.set_cons_succ, i64_w, i32_w]
                rfl
              refine pure_ (i := 5) (N := some 37) (v := ?_) (a' := ?_) #[true, true, true, true, true, true, false, true, false, false] rfl rfl (any_of HT_.out (by kernel_rfl)) (fun _ _ _ h => h) (Or.inl ⟨by rfl, ?_⟩) ?_ ?_
              rotate_left
              · intro w'
                go_simp
                with_reducible rfl
              rotate_left
              · simp only [Act.put, List.setIfInBounds_toArray, List.set_cons_zero, List.set_cons_succ, i64_w, i32_w]
                rfl
              refine pure_ (i := 6) (N := some 38) (v := ?_) (a' := ?_) #[true, true, true, true, true, true, true, true, false, false] rfl rfl (any_of HT_.out (by kernel_rfl)) (fun _ _ _ h => h) (Or.inl ⟨by rfl, ?_⟩) ?_ ?_
              rotate_left
              · intro w'
                go_simp
                with_reducible rfl
              rotate_left
              · simp only [Act.put, List.setIfInBounds_toArray, List.set_cons_zero, List.set_cons_succ, i64_w, i32_w]
                rfl
              exact norm_ (by simp only [putAll, Act.put, List.setIfInBounds_toArray, List.set_cons_zero, List.set_cons_succ]) (hCont (.slice Ao91 t757.length co91, v761, gb769) _ ⟨hHeld, (by (with_reducible repeat (first | apply Kd.R_alloc | apply Kd.R_drewN | apply Kd.R_drew)); exact Kd.R_mono HO749.out (fun _ hk => ⟨hk.1.2, hk.2⟩)), (by (with_reducible repeat (first | apply Kd.R_alloc | apply Kd.R_drewN | apply Kd.R_drew)); exact Kd.R_mono HO759.out (fun _ hk => ⟨hk.1.2, hk.2⟩)), (by (with_reducible repeat (first | apply Kd.R_alloc | apply Kd.R_drewN | apply Kd.R_drew)); exact Kd.R_mono HO762.out (fun _ hk => ⟨hk.1.2, hk.2⟩)), (by (with_reducible repeat (first | refine blk_drewN ?_ _ | refine blk_drew ?_ | refine blk_alloc ?_ _)); exact BK742.out), (by (with_reducible repeat (first | refine blk_drewN ?_ _ | refine blk_drew ?_ | refine blk_alloc ?_ _)); exact BK756.out), (by (with_reducible repeat (first | refine blk_drewN ?_ _ | refine blk_drew ?_ | refine blk_alloc ?_ _)); exact BK769.out), GW769.out, GE769.out, NB742_769.out, NB769_742.out, NB756_769.out, NB769_756.out, (by repeat (first | (with_reducible first | exact HB.out | apply below_alloc | apply pw_below_drewN | apply below_drew1 | refine below_set ?_ GE742.out | refine below_set ?_ GE756.out | refine below_set ?_ GE769.out) | exact HB.out))⟩)
          rintro ⟨v758, v761, gb769⟩ w93 ⟨hS_, h0_, h1_, h2_, h3_, h4_, h5_, h6_, h7_, h8_, h9_, h10_, h11_, h12_⟩
          have n0_ : Aside0 (Kd.R k78 78 w93 w.heap.size (fun k_ => some k_ ≠ (v758 : Value).ownBlock ∧ some k_ ≠ (v761 : Value).ownBlock) v748 t747) := ⟨h0_⟩
          have n1_ : Aside0 (Kd.R k78 78 w93 w.heap.size (fun k_ => some k_ ≠ (v748 : Value).ownBlock ∧ some k_ ≠ (v761 : Value).ownBlock) v758 t757) := ⟨h1_⟩
          have n2_ : Aside0 (Kd.R k78 78 w93 w.heap.size (fun k_ => some k_ ≠ (v748 : Value).ownBlock ∧ some k_ ≠ (v758 : Value).ownBlock) v761 t760) := ⟨h2_⟩
          have n3_ : Aside0 (w93.heap[gb742]? = some (.cells #[.int .i64 a1_0, .int .i64 a1_1, .int .i64 a1_2, .string a1_3, .string a1_4, .string a1_5, .int .i64 a1_6] 72 (0, 0))) := ⟨h3_⟩
          have n4_ : Aside0 (w93.heap[gb756]? = some (.cells #[.int .i64 t750, .int .i64 t751, .int .i64 t752, .bool t753, .string t754, .int .i64 t755] 60 (0, 0))) := ⟨h4_⟩
          have n5_ : Aside0 (w93.heap[gb769]? = some (.cells #[.int .i64 0, .int .i64 0, .int .i64 0, .bool false, .string (⟨#[]⟩ : ByteArray), .int .i64 0] 60 (0, 0))) := ⟨h5_⟩
          have n6_ : Aside0 (w.heap.size ≤ gb769) := ⟨h6_⟩
          have n7_ : Aside0 (w.heap.size ≤ gb769) := ⟨h7_⟩
          have n8_ : Aside0 (gb742 ≠ gb769) := ⟨h8_⟩
          have n9_ : Aside0 (gb769 ≠ gb742) := ⟨h9_⟩
          have n10_ : Aside0 (gb756 ≠ gb769) := ⟨h10_⟩
          have n11_ : Aside0 (gb769 ≠ gb756) := ⟨h11_⟩
          have n12_ : Aside0 (Below w.heap.size w w93) := ⟨h12_⟩
          clear HO749
          clear BK742
          clear BK756
          clear HB
          clear h0_ h1_ h2_ h3_ h4_ h5_ h6_ h7_ h8_ h9_ h10_ h11_ h12_
          have HO749 := n0_
          have HO759 := n1_
          have HO762 := n2_
          have BK742 := n3_
          have BK756 := n4_
          have BK769 := n5_
          have GW769 := n6_
          have GE769 := n7_
          have NB742_769 := n8_
          have NB769_742 := n9_
          have NB756_769 := n10_
          have NB769_756 := n11_
          have HB := n12_
          clear n0_ n1_ n2_ n3_ n4_ n5_ n6_ n7_ n8_ n9_ n10_ n11_ n12_
          have hHeld : w93.cell? ⟨gb742, 0, none⟩ = some (.int .i64 a1_0) ∧ w93.cell? ⟨gb742, 1, none⟩ = some (.int .i64 a1_1) ∧ w93.cell? ⟨gb742, 2, none⟩ = some (.int .i64 a1_2) ∧ w93.cell? ⟨gb742, 3, none⟩ = some (.string a1_3) ∧ w93.cell? ⟨gb742, 4, none⟩ = some (.string a1_4) ∧ w93.cell? ⟨gb742, 5, none⟩ = some (.string a1_5) ∧ w93.cell? ⟨gb742, 6, none⟩ = some (.int .i64 a1_6) := hS_
          refine norm_ (a' := ?_) ?_ ?_
          rotate_left
          · simp only [putAll, Act.put, List.setIfInBounds_toArray, List.set_cons_zero, List.set_cons_succ]
            rfl
          refine pure_ (i := 8) (N := some 7) (v := ?_) (a' := ?_) #[true, true, true, true, true, true, true, true, true, false] rfl rfl (any_of HT_.out (by kernel_rfl)) (fun _ _ _ h => h) (Or.inl ⟨by rfl, ?_⟩) ?_ ?_
          rotate_left
          · intro w'
            go_simp
            with_reducible rfl
          rotate_left
          · simp only [Act.put, List.setIfInBounds_toArray, List.set_cons_zero, List.set_cons_succ, i64_w, i32_w]
            rfl
          refine one_ (i := 9) (N := none) #[true, true, true, true, true, true, true, true, true, true] rfl rfl (one_of HT_.out (by kernel_rfl)) (by decide) (fun K hK => ?_)
          have hs94 : w93.cell? ⟨gb769, 0, none⟩ = some (.int .i64 0) := (blk_cell BK769.out 0).trans rfl
          have hfs94 := blk_frozen BK769.out 0
          have hns94_0 := NB742_769.out
          have hns94_1 := NB756_769.out
          have hms94_0 := NB769_742.out
          have hms94_1 := NB769_756.out
          have hs95 : w93.cell? ⟨gb769, 1, none⟩ = some (.int .i64 0) := (blk_cell BK769.out 1).trans rfl
          have hfs95 := blk_frozen BK769.out 1
          have hns95_0 := NB742_769.out
          have hns95_1 := NB756_769.out
          have hms95_0 := NB769_742.out
          have hms95_1 := NB769_756.out
          have hs96 : w93.cell? ⟨gb769, 2, none⟩ = some (.int .i64 0) := (blk_cell BK769.out 2).trans rfl
          have hfs96 := blk_frozen BK769.out 2
          have hns96_0 := NB742_769.out
          have hns96_1 := NB756_769.out
          have hms96_0 := NB769_742.out
          have hms96_1 := NB769_756.out
          have hs97 : w93.cell? ⟨gb769, 3, none⟩ = some (.bool false) := (blk_cell BK769.out 3).trans rfl
          have hfs97 := blk_frozen BK769.out 3
          have hns97_0 := NB742_769.out
          have hns97_1 := NB756_769.out
          have hms97_0 := NB769_742.out
          have hms97_1 := NB769_756.out
          have hs98 : w93.cell? ⟨gb769, 4, none⟩ = some (.string (⟨#[]⟩ : ByteArray)) := (blk_cell BK769.out 4).trans rfl
          have hfs98 := blk_frozen BK769.out 4
          have hns98_0 := NB742_769.out
          have hns98_1 := NB756_769.out
          have hms98_0 := NB769_742.out
          have hms98_1 := NB769_756.out
          have hs99 : w93.cell? ⟨gb769, 5, none⟩ = some (.int .i64 0) := (blk_cell BK769.out 5).trans rfl
          have hfs99 := blk_frozen BK769.out 5
          have hns99_0 := NB742_769.out
          have hns99_1 := NB756_769.out
          have hms99_0 := NB769_742.out
          have hms99_1 := NB769_756.out
          refine skip_ (w1 := ?_) (by rfl) rfl ?_ ?_
          rotate_left
          · go_simp
            rfl
          refine hK.out _ _ ⟨((cell_far (p := ⟨gb769, _, none⟩) NB742_769.out _).trans (((cell_far (p := ⟨gb769, _, none⟩) NB742_769.out _).trans (((cell_far (p := ⟨gb769, _, none⟩) NB742_769.out _).trans (((cell_far (p := ⟨gb769, _, none⟩) NB742_769.out _).trans (((cell_far (p := ⟨gb769, _, none⟩) NB742_769.out _).trans (((cell_far (p := ⟨gb769, _, none⟩) NB742_769.out _).trans (hHeld.1)))))))))))), ((cell_far (p := ⟨gb769, _, none⟩) NB742_769.out _).trans (((cell_far (p := ⟨gb769, _, none⟩) NB742_769.out _).trans (((cell_far (p := ⟨gb769, _, none⟩) NB742_769.out _).trans (((cell_far (p := ⟨gb769, _, none⟩) NB742_769.out _).trans (((cell_far (p := ⟨gb769, _, none⟩) NB742_769.out _).trans (((cell_far (p := ⟨gb769, _, none⟩) NB742_769.out _).trans (hHeld.2.1)))))))))))), ((cell_far (p := ⟨gb769, _, none⟩) NB742_769.out _).trans (((cell_far (p := ⟨gb769, _, none⟩) NB742_769.out _).trans (((cell_far (p := ⟨gb769, _, none⟩) NB742_769.out _).trans (((cell_far (p := ⟨gb769, _, none⟩) NB742_769.out _).trans (((cell_far (p := ⟨gb769, _, none⟩) NB742_769.out _).trans (((cell_far (p := ⟨gb769, _, none⟩) NB742_769.out _).trans (hHeld.2.2.1)))))))))))), ((cell_far (p := ⟨gb769, _, none⟩) NB742_769.out _).trans (((cell_far (p := ⟨gb769, _, none⟩) NB742_769.out _).trans (((cell_far (p := ⟨gb769, _, none⟩) NB742_769.out _).trans (((cell_far (p := ⟨gb769, _, none⟩) NB742_769.out _).trans (((cell_far (p := ⟨gb769, _, none⟩) NB742_769.out _).trans (((cell_far (p := ⟨gb769, _, none⟩) NB742_769.out _).trans (hHeld.2.2.2.1)))))))))))), ((cell_far (p := ⟨gb769, _, none⟩) NB742_769.out _).trans (((cell_far (p := ⟨gb769, _, none⟩) NB742_769.out _).trans (((cell_far (p := ⟨gb769, _, none⟩) NB742_769.out _).trans (((cell_far (p := ⟨gb769, _, none⟩) NB742_769.out _).trans (((cell_far (p := ⟨gb769, _, none⟩) NB742_769.out _).trans (((cell_far (p := ⟨gb769, _, none⟩) NB742_769.out _).trans (hHeld.2.2.2.2.1)))))))))))), ((cell_far (p := ⟨gb769, _, none⟩) NB742_769.out _).trans (((cell_far (p := ⟨gb769, _, none⟩) NB742_769.out _).trans (((cell_far (p := ⟨gb769, _, none⟩) NB742_769.out _).trans (((cell_far (p := ⟨gb769, _, none⟩) NB742_769.out _).trans (((cell_far (p := ⟨gb769, _, none⟩) NB742_769.out _).trans (((cell_far (p := ⟨gb769, _, none⟩) NB742_769.out _).trans (hHeld.2.2.2.2.2.1)))))))))))), ((cell_far (p := ⟨gb769, _, none⟩) NB742_769.out _).trans (((cell_far (p := ⟨gb769, _, none⟩) NB742_769.out _).trans (((cell_far (p := ⟨gb769, _, none⟩) NB742_769.out _).trans (((cell_far (p := ⟨gb769, _, none⟩) NB742_769.out _).trans (((cell_far (p := ⟨gb769, _, none⟩) NB742_769.out _).trans (((cell_far (p := ⟨gb769, _, none⟩) NB742_769.out _).trans (hHeld.2.2.2.2.2.2))))))))))))⟩ (fun hHeld => ?_)
          clear hK K
          refine done_ (done_of HT_.out (by kernel_rfl)) ?_
          obtain ⟨Ao100, co100, eo100⟩ := Kd.R_slice HO749.out
          subst eo100
          try go_wp2_with (first | ((with_reducible refine gate_callee (f := 71) rfl ?_); refine goesL_ (some 40) rfl rfl Try.func71 (by kernel_rfl) rfl #[.slice Ao100 t747.length co100] rfl (by (try simp only [List.map_toArray, List.map_cons, List.map_nil]); first | done | rfl | (simp only [List.length_drop, List.length_take]; rfl)) ?_; (with_reducible refine (kvtwo_Plain.calls kj2 _ _ t747 t770 _ ?side1 ?side2 A24.out).mono ?_); (case side1 => refine (Kd.R_reads' (e := 78) (base := w.heap.size) (ok := fun k_ => (some k_ ≠ (v758 : Value).ownBlock ∧ some k_ ≠ (v761 : Value).ownBlock)) (n := t747.length) (c := co100) ?_).2.2; exact (by (with_reducible repeat (first | apply Kd.R_alloc | apply Kd.R_drewN | apply Kd.R_drew)); exact (Kd.R_mono (Kd.R_far (p := ⟨gb769, 5, none⟩) (Kd.R_far (p := ⟨gb769, 4, none⟩) (Kd.R_far (p := ⟨gb769, 3, none⟩) (Kd.R_far (p := ⟨gb769, 2, none⟩) (Kd.R_far (p := ⟨gb769, 1, none⟩) (Kd.R_far (p := ⟨gb769, 0, none⟩) (Kd.R_types HO749.out BK769.out (by decide)) (fun _ hk => hk.2) (.int .i64 t763)) (fun _ hk => hk.2) (.int .i64 t764)) (fun _ hk => hk.2) (.int .i64 t765)) (fun _ hk => hk.2) (.bool t766)) (fun _ hk => hk.2) (.string t767)) (fun _ hk => hk.2) (.int .i64 t768)) (fun _ h_ => h_.1)))); (case side2 => exact (Kd.R_reads' HO749.out).2.1); rintro e w101 ⟨v771, rfl, ho0, hb⟩; refine ⟨_, rfl, ?_⟩; have n0_ := Aside0.mk (Kd.R_elder' (by (with_reducible repeat (first | apply Kd.R_alloc | apply Kd.R_drewN | apply Kd.R_drew)); exact (Kd.R_mono (Kd.R_far (p := ⟨gb769, 5, none⟩) (Kd.R_far (p := ⟨gb769, 4, none⟩) (Kd.R_far (p := ⟨gb769, 3, none⟩) (Kd.R_far (p := ⟨gb769, 2, none⟩) (Kd.R_far (p := ⟨gb769, 1, none⟩) (Kd.R_far (p := ⟨gb769, 0, none⟩) (Kd.R_types HO749.out BK769.out (by decide)) (fun _ hk => hk.2) (.int .i64 t763)) (fun _ hk => hk.2) (.int .i64 t764)) (fun _ hk => hk.2) (.int .i64 t765)) (fun _ hk => hk.2) (.bool t766)) (fun _ hk => hk.2) (.string t767)) (fun _ hk => hk.2) (.int .i64 t768)) (fun _ h_ => h_.1))) (Kd.R_base ho0) hb); have n1_ := Aside0.mk (Kd.R_elder' (by (with_reducible repeat (first | apply Kd.R_alloc | apply Kd.R_drewN | apply Kd.R_drew)); exact (Kd.R_mono (Kd.R_far (p := ⟨gb769, 5, none⟩) (Kd.R_far (p := ⟨gb769, 4, none⟩) (Kd.R_far (p := ⟨gb769, 3, none⟩) (Kd.R_far (p := ⟨gb769, 2, none⟩) (Kd.R_far (p := ⟨gb769, 1, none⟩) (Kd.R_far (p := ⟨gb769, 0, none⟩) (Kd.R_types HO759.out BK769.out (by decide)) (fun _ hk => hk.2) (.int .i64 t763)) (fun _ hk => hk.2) (.int .i64 t764)) (fun _ hk => hk.2) (.int .i64 t765)) (fun _ hk => hk.2) (.bool t766)) (fun _ hk => hk.2) (.string t767)) (fun _ hk => hk.2) (.int .i64 t768)) (fun _ h_ => h_.1))) (Kd.R_base ho0) hb); have n2_ := Aside0.mk (Kd.R_elder' (by (with_reducible repeat (first | apply Kd.R_alloc | apply Kd.R_drewN | apply Kd.R_drew)); exact (Kd.R_mono (Kd.R_far (p := ⟨gb769, 5, none⟩) (Kd.R_far (p := ⟨gb769, 4, none⟩) (Kd.R_far (p := ⟨gb769, 3, none⟩) (Kd.R_far (p := ⟨gb769, 2, none⟩) (Kd.R_far (p := ⟨gb769, 1, none⟩) (Kd.R_far (p := ⟨gb769, 0, none⟩) (Kd.R_types HO762.out BK769.out (by decide)) (fun _ hk => hk.2) (.int .i64 t763)) (fun _ hk => hk.2) (.int .i64 t764)) (fun _ hk => hk.2) (.int .i64 t765)) (fun _ hk => hk.2) (.bool t766)) (fun _ hk => hk.2) (.string t767)) (fun _ hk => hk.2) (.int .i64 t768)) (fun _ h_ => h_.1))) (Kd.R_base ho0) hb); have n3_ := Aside0.mk (Kd.R_lower (Kd.R_new' (Kd.R_new' (Kd.R_new' ho0 (Kd.R_lt (by (with_reducible repeat (first | apply Kd.R_alloc | apply Kd.R_drewN | apply Kd.R_drew)); exact (Kd.R_mono (Kd.R_far (p := ⟨gb769, 5, none⟩) (Kd.R_far (p := ⟨gb769, 4, none⟩) (Kd.R_far (p := ⟨gb769, 3, none⟩) (Kd.R_far (p := ⟨gb769, 2, none⟩) (Kd.R_far (p := ⟨gb769, 1, none⟩) (Kd.R_far (p := ⟨gb769, 0, none⟩) (Kd.R_types HO749.out BK769.out (by decide)) (fun _ hk => hk.2) (.int .i64 t763)) (fun _ hk => hk.2) (.int .i64 t764)) (fun _ hk => hk.2) (.int .i64 t765)) (fun _ hk => hk.2) (.bool t766)) (fun _ hk => hk.2) (.string t767)) (fun _ hk => hk.2) (.int .i64 t768)) (fun _ h_ => h_.1))))) (Kd.R_lt (by (with_reducible repeat (first | apply Kd.R_alloc | apply Kd.R_drewN | apply Kd.R_drew)); exact (Kd.R_mono (Kd.R_far (p := ⟨gb769, 5, none⟩) (Kd.R_far (p := ⟨gb769, 4, none⟩) (Kd.R_far (p := ⟨gb769, 3, none⟩) (Kd.R_far (p := ⟨gb769, 2, none⟩) (Kd.R_far (p := ⟨gb769, 1, none⟩) (Kd.R_far (p := ⟨gb769, 0, none⟩) (Kd.R_types HO759.out BK769.out (by decide)) (fun _ hk => hk.2) (.int .i64 t763)) (fun _ hk => hk.2) (.int .i64 t764)) (fun _ hk => hk.2) (.int .i64 t765)) (fun _ hk => hk.2) (.bool t766)) (fun _ hk => hk.2) (.string t767)) (fun _ hk => hk.2) (.int .i64 t768)) (fun _ h_ => h_.1))))) (Kd.R_lt (by (with_reducible repeat (first | apply Kd.R_alloc | apply Kd.R_drewN | apply Kd.R_drew)); exact (Kd.R_mono (Kd.R_far (p := ⟨gb769, 5, none⟩) (Kd.R_far (p := ⟨gb769, 4, none⟩) (Kd.R_far (p := ⟨gb769, 3, none⟩) (Kd.R_far (p := ⟨gb769, 2, none⟩) (Kd.R_far (p := ⟨gb769, 1, none⟩) (Kd.R_far (p := ⟨gb769, 0, none⟩) (Kd.R_types HO762.out BK769.out (by decide)) (fun _ hk => hk.2) (.int .i64 t763)) (fun _ hk => hk.2) (.int .i64 t764)) (fun _ hk => hk.2) (.int .i64 t765)) (fun _ hk => hk.2) (.bool t766)) (fun _ hk => hk.2) (.string t767)) (fun _ hk => hk.2) (.int .i64 t768)) (fun _ h_ => h_.1))))) (below_size (by repeat (first | (with_reducible first | exact HB.out | apply below_alloc | apply pw_below_drewN | apply below_drew1 | refine below_set ?_ GE742.out | refine below_set ?_ GE756.out | refine below_set ?_ GE769.out) | exact HB.out)))); have n4_ := Aside0.mk (blk_below (g := gb742) (o := .cells #[.int .i64 a1_0, .int .i64 a1_1, .int .i64 a1_2, .string a1_3, .string a1_4, .string a1_5, .int .i64 a1_6] 72 (0, 0)) (by (with_reducible repeat (first | refine blk_drewN ?_ _ | refine blk_drew ?_ | refine blk_alloc ?_ _)); refine blk_far ?_ NB742_769.out _; (with_reducible repeat (first | refine blk_drewN ?_ _ | refine blk_drew ?_ | refine blk_alloc ?_ _)); refine blk_far ?_ NB742_769.out _; (with_reducible repeat (first | refine blk_drewN ?_ _ | refine blk_drew ?_ | refine blk_alloc ?_ _)); refine blk_far ?_ NB742_769.out _; (with_reducible repeat (first | refine blk_drewN ?_ _ | refine blk_drew ?_ | refine blk_alloc ?_ _)); refine blk_far ?_ NB742_769.out _; (with_reducible repeat (first | refine blk_drewN ?_ _ | refine blk_drew ?_ | refine blk_alloc ?_ _)); refine blk_far ?_ NB742_769.out _; (with_reducible repeat (first | refine blk_drewN ?_ _ | refine blk_drew ?_ | refine blk_alloc ?_ _)); refine blk_far ?_ NB742_769.out _; (with_reducible repeat (first | refine blk_drewN ?_ _ | refine blk_drew ?_ | refine blk_alloc ?_ _)); exact BK742.out) hb); have n5_ := Aside0.mk (blk_below (g := gb756) (o := .cells #[.int .i64 t750, .int .i64 t751, .int .i64 t752, .bool t753, .string t754, .int .i64 t755] 60 (0, 0)) (by (with_reducible repeat (first | refine blk_drewN ?_ _ | refine blk_drew ?_ | refine blk_alloc ?_ _)); refine blk_far ?_ NB756_769.out _; (with_reducible repeat (first | refine blk_drewN ?_ _ | refine blk_drew ?_ | refine blk_alloc ?_ _)); refine blk_far ?_ NB756_769.out _; (with_reducible repeat (first | refine blk_drewN ?_ _ | refine blk_drew ?_ | refine blk_alloc ?_ _)); refine blk_far ?_ NB756_769.out _; (with_reducible repeat (first | refine blk_drewN ?_ _ | refine blk_drew ?_ | refine blk_alloc ?_ _)); refine blk_far ?_ NB756_769.out _; (with_reducible repeat (first | refine blk_drewN ?_ _ | refine blk_drew ?_ | refine blk_alloc ?_ _)); refine blk_far ?_ NB756_769.out _; (with_reducible repeat (first | refine blk_drewN ?_ _ | refine blk_drew ?_ | refine blk_alloc ?_ _)); refine blk_far ?_ NB756_769.out _; (with_reducible repeat (first | refine blk_drewN ?_ _ | refine blk_drew ?_ | refine blk_alloc ?_ _)); exact BK756.out) hb); have n6_ := Aside0.mk (blk_below (g := gb769) (o := .cells #[.int .i64 t763, .int .i64 t764, .int .i64 t765, .bool t766, .string t767, .int .i64 t768] 60 (0, 0)) (by (with_reducible repeat (first | refine blk_drewN ?_ _ | refine blk_drew ?_ | refine blk_alloc ?_ _)); refine blk_put (cs := #[.int .i64 t763, .int .i64 t764, .int .i64 t765, .bool t766, .string t767, .int .i64 0]) ?_ 5 _ rfl; (with_reducible repeat (first | refine blk_drewN ?_ _ | refine blk_drew ?_ | refine blk_alloc ?_ _)); refine blk_put (cs := #[.int .i64 t763, .int .i64 t764, .int .i64 t765, .bool t766, .string (⟨#[]⟩ : ByteArray), .int .i64 0]) ?_ 4 _ rfl; (with_reducible repeat (first | refine blk_drewN ?_ _ | refine blk_drew ?_ | refine blk_alloc ?_ _)); refine blk_put (cs := #[.int .i64 t763, .int .i64 t764, .int .i64 t765, .bool false, .string (⟨#[]⟩ : ByteArray), .int .i64 0]) ?_ 3 _ rfl; (with_reducible repeat (first | refine blk_drewN ?_ _ | refine blk_drew ?_ | refine blk_alloc ?_ _)); refine blk_put (cs := #[.int .i64 t763, .int .i64 t764, .int .i64 0, .bool false, .string (⟨#[]⟩ : ByteArray), .int .i64 0]) ?_ 2 _ rfl; (with_reducible repeat (first | refine blk_drewN ?_ _ | refine blk_drew ?_ | refine blk_alloc ?_ _)); refine blk_put (cs := #[.int .i64 t763, .int .i64 0, .int .i64 0, .bool false, .string (⟨#[]⟩ : ByteArray), .int .i64 0]) ?_ 1 _ rfl; (with_reducible repeat (first | refine blk_drewN ?_ _ | refine blk_drew ?_ | refine blk_alloc ?_ _)); refine blk_put (cs := #[.int .i64 0, .int .i64 0, .int .i64 0, .bool false, .string (⟨#[]⟩ : ByteArray), .int .i64 0]) ?_ 0 _ rfl; (with_reducible repeat (first | refine blk_drewN ?_ _ | refine blk_drew ?_ | refine blk_alloc ?_ _)); exact BK769.out) hb); have n7_ := Aside0.mk (below_step (by repeat (first | (with_reducible first | exact HB.out | apply below_alloc | apply pw_below_drewN | apply below_drew1 | refine below_set ?_ GE742.out | refine below_set ?_ GE756.out | refine below_set ?_ GE769.out) | exact HB.out)) hb); clear HO749; clear HO759; clear HO762; clear BK742; clear BK756; clear BK769; clear HB; have HO749 := n0_; have HO759 := n1_; have HO762 := n2_; have HO772 := n3_; have BK742 := n4_; have BK756 := n5_; have BK769 := n6_; have HB := n7_; clear n0_ n1_ n2_ n3_ n4_ n5_ n6_ n7_; (try clear hb); (try clear hb2); (try clear hk); (try clear hi); (try clear ho0); obtain ⟨Ao102, co102, eo102⟩ := Kd.R_slice HO772.out; subst eo102; obtain ⟨Ao103, co103, eo103⟩ := Kd.R_slice HO762.out; subst eo103) | ((with_reducible refine gate_callee (f := 66) rfl ?_); refine goesL_ (some 42) rfl rfl Try.func66 (by kernel_rfl) rfl #[.slice Ao102 t770.length co102, .slice Ao103 t760.length co103] rfl (by (try simp only [List.map_toArray, List.map_cons, List.map_nil]); first | done | rfl | (simp only [List.length_drop, List.length_take]; rfl)) ?_; (with_reducible refine (changeoverref23_Same.calls kj2 _ _ t770 _ _ t760 false _ ?side1 ?side2 ?side3 ?side4 A25.out).mono ?_); (case side1 => repeat (first | exact (Kd.R_reads' HO772.out).2.2 | (with_reducible refine Kd.C_alloc ?_ _) | (with_reducible refine Kd.C_drewN ?_ _) | (with_reducible refine Kd.C_drew ?_))); (case side2 => exact (Kd.R_reads' HO772.out).2.1); (case side3 => repeat (first | exact (Kd.R_reads' HO762.out).2.2 | (with_reducible refine Kd.C_alloc ?_ _) | (with_reducible refine Kd.C_drewN ?_ _) | (with_reducible refine Kd.C_drew ?_))); (case side4 => exact (Kd.R_reads' HO762.out).2.1); rintro e w' ⟨rfl, ⟨nd, rfl⟩⟩; refine ⟨_, rfl, ?_⟩))
          go_ret
          exact ⟨by first | rfl | (simp [errW_none, errW_some] <;> rfl) | (simp [*, errW_none, errW_some] <;> rfl), by repeat (first | (with_reducible first | exact HB.out | apply below_alloc | apply pw_below_drewN | apply below_drew1 | refine below_set ?_ GE742.out | refine below_set ?_ GE756.out | refine below_set ?_ GE769.out) | exact HB.out)⟩

end Go.Proofs.Ytalpmbeddldfoaa.PA
