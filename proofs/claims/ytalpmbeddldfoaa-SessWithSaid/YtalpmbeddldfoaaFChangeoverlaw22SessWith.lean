-- A text that a program wrote for this claim (print.py over stand-in bodies, tool/pr.sh).
import Derived.Test.YtalpmbeddldfoaaF0
import Derived.Test.YtalpmbeddldfoaaFEq1
import Derived.Test.YtalpmbeddldfoaaFChangeoverref22Large
import Derived.Test.YtalpmbeddldfoaaFChangeoverref22Rise
import Derived.Test.YtalpmbeddldfoaaFSessWhich
import Derived.Test.YtalpmbeddldfoaaFSessWith
import Derived.Test.YtalpmbeddldfoaaFChangeoverlaw22Awake
import Derived.Test.YtalpmbeddldfoaaFChangeoverref22Same
import Derived.Test.YtalpmbeddldfoaaFChangeoverref22With
namespace Go.Proofs.Ytalpmbeddldfoaa.PA
open Go.RowKit Go.Proofs.Ytalpmbeddldfoaa.Hand Go.Proofs.YtalpmbeddldfoaaW.PrintWords Go.Proofs.YtalpmbeddldfoaaW.PrintLast Go.Proofs.YtalpmbeddldfoaaW.PrintMore
attribute [local go_sem] max2_int min2_int max_two min_two max_three min_three max_four min_four   -- for this text's walks alone
attribute [local go_sem high] str_leq str_gtr str_geq
set_option linter.unusedVariables false
set_option linter.unusedSimpArgs false

attribute [local go_sem high] eqA60
/-! ### changeoverlaw22_SessWith: function 9 -/
mutual
def changeoverlaw22_SessWith.j0 : Nat → List (S111) → Int → Bool → Int → Int → Int → Bool → ByteArray → Int → Option (Bool)
  | 0, _, _, _, _, _, _, _, _, _ => none
  | k + 1, x0, x2, x24, x433000, x433001, x433002, x433003, x433004, x433005 => if x24 = true then ((changeoverlaw22_awake.f k).bind fun t435 => (some t435)) else ((sess_With.f k x0 x433000 x433001 x433002 x433003 x433004 x433005).bind fun t436 => ((sess_Which.f k t436 x433000 x433001).bind fun bt439 => ((changeoverref22_With.f k x0 x433000 x433001 x433002 x433003 x433004 x433005).bind fun t447 => ((changeoverref22_Same.f k t436 t447).bind fun t450 => (if t450 = true then (if bt439.1 = 1 then (changeoverlaw22_SessWith.j1 k x2 t436 (!(bt439.2.1 == x433000) || (!(bt439.2.2.1 == x433001) || (!(bt439.2.2.2.1 == x433002) || (!(bt439.2.2.2.2.1 == x433003) || (!(bt439.2.2.2.2.2.1.toList == x433004.toList) || (!(bt439.2.2.2.2.2.2 == x433005))))))) x433000 x433001 x433002 x433003 x433004 x433005) else (changeoverlaw22_SessWith.j1 k x2 t436 true x433000 x433001 x433002 x433003 x433004 x433005)) else (changeoverlaw22_SessWith.j1 k x2 t436 true x433000 x433001 x433002 x433003 x433004 x433005))))))
def changeoverlaw22_SessWith.j1 : Nat → Int → List (S111) → Bool → Int → Int → Int → Bool → ByteArray → Int → Option (Bool)
  | 0, _, _, _, _, _, _, _, _, _ => none
  | k + 1, x2, x7, x52, x433000, x433001, x433002, x433003, x433004, x433005 => if x52 = true then (some false) else (if x433001 ≥ (-4611686018427387904) then ((sess_Which.f k x7 x433000 (wrap64 ((wrap64 (x433001 - 1)) - (wrap64 (x2))))).bind fun bt451 => (if bt451.1 = 2 then ((changeoverlaw22_awake.f k).bind fun t459 => (some t459)) else (some false))) else ((changeoverlaw22_awake.f k).bind fun t460 => (some t460)))
end
def changeoverlaw22_SessWith.f (k : Nat) (l0 : List (S111)) (a1_0 : Int) (a1_1 : Int) (a1_2 : Int) (a1_3 : Bool) (a1_4 : ByteArray) (a1_5 : Int) (a2 : Int) : Option (Bool) := (changeoverref22_Large.f k l0).bind fun t433 => (if t433 = true then (changeoverlaw22_SessWith.j0 k l0 a2 true a1_0 a1_1 a1_2 a1_3 a1_4 a1_5) else (if (a1_4.size : Int) > 200 then (changeoverlaw22_SessWith.j0 k l0 a2 true a1_0 a1_1 a1_2 a1_3 a1_4 a1_5) else ((changeoverref22_Rise.f k l0).bind fun t434 => (changeoverlaw22_SessWith.j0 k l0 a2 (!t434) a1_0 a1_1 a1_2 a1_3 a1_4 a1_5))))
theorem changeoverlaw22_SessWith.mono_l : ∀ k, (∀ y0 y1 y2 y3 y4 y5 y6 y7 y8, LeO (changeoverlaw22_SessWith.j0 k y0 y1 y2 y3 y4 y5 y6 y7 y8) (changeoverlaw22_SessWith.j0 (k + 1) y0 y1 y2 y3 y4 y5 y6 y7 y8)) ∧ (∀ y0 y1 y2 y3 y4 y5 y6 y7 y8, LeO (changeoverlaw22_SessWith.j1 k y0 y1 y2 y3 y4 y5 y6 y7 y8) (changeoverlaw22_SessWith.j1 (k + 1) y0 y1 y2 y3 y4 y5 y6 y7 y8))
  | 0 => ⟨fun _ _ _ _ _ _ _ _ _ r h => by simp [changeoverlaw22_SessWith.j0] at h, fun _ _ _ _ _ _ _ _ _ r h => by simp [changeoverlaw22_SessWith.j1] at h⟩
  | k + 1 => by
    obtain ⟨ih0, ih1⟩ := changeoverlaw22_SessWith.mono_l k
    refine ⟨?_, ?_⟩
    · intro y0 y1 y2 y3 y4 y5 y6 y7 y8
      unfold changeoverlaw22_SessWith.j0
      repeat' first
      | (with_reducible exact ih0 _ _ _ _ _ _ _ _ _)
      | (with_reducible exact ih1 _ _ _ _ _ _ _ _ _)
      | (with_reducible exact changeoverlaw22_awake.mono _)
      | (with_reducible exact changeoverref22_Large.mono _ _)
      | (with_reducible exact changeoverref22_Rise.mono _ _)
      | (with_reducible exact changeoverref22_Same.mono _ _ _)
      | (with_reducible exact changeoverref22_With.mono _ _ _ _ _ _ _ _)
      | (with_reducible exact sess_Which.mono _ _ _ _)
      | (with_reducible exact sess_With.mono _ _ _ _ _ _ _ _)
      | (with_reducible exact LeO.refl _)
      | (with_reducible exact LeO.none _)
      | (with_reducible refine LeO.ite ?_ ?_)
      | (with_reducible refine LeO.bind ?_ (fun _ => ?_))
      | exact ih0 _ _ _ _ _ _ _ _ _
      | exact ih1 _ _ _ _ _ _ _ _ _
      | exact changeoverlaw22_awake.mono _
      | exact changeoverref22_Large.mono _ _
      | exact changeoverref22_Rise.mono _ _
      | exact changeoverref22_Same.mono _ _ _
      | exact changeoverref22_With.mono _ _ _ _ _ _ _ _
      | exact sess_Which.mono _ _ _ _
      | exact sess_With.mono _ _ _ _ _ _ _ _
      | exact LeO.none _
      | refine LeO.ite ?_ ?_
      | refine LeO.bind ?_ (fun _ => ?_)
    · intro y0 y1 y2 y3 y4 y5 y6 y7 y8
      unfold changeoverlaw22_SessWith.j1
      repeat' first
      | (with_reducible exact ih0 _ _ _ _ _ _ _ _ _)
      | (with_reducible exact ih1 _ _ _ _ _ _ _ _ _)
      | (with_reducible exact changeoverlaw22_awake.mono _)
      | (with_reducible exact changeoverref22_Large.mono _ _)
      | (with_reducible exact changeoverref22_Rise.mono _ _)
      | (with_reducible exact changeoverref22_Same.mono _ _ _)
      | (with_reducible exact changeoverref22_With.mono _ _ _ _ _ _ _ _)
      | (with_reducible exact sess_Which.mono _ _ _ _)
      | (with_reducible exact sess_With.mono _ _ _ _ _ _ _ _)
      | (with_reducible exact LeO.refl _)
      | (with_reducible exact LeO.none _)
      | (with_reducible refine LeO.ite ?_ ?_)
      | (with_reducible refine LeO.bind ?_ (fun _ => ?_))
      | exact ih0 _ _ _ _ _ _ _ _ _
      | exact ih1 _ _ _ _ _ _ _ _ _
      | exact changeoverlaw22_awake.mono _
      | exact changeoverref22_Large.mono _ _
      | exact changeoverref22_Rise.mono _ _
      | exact changeoverref22_Same.mono _ _ _
      | exact changeoverref22_With.mono _ _ _ _ _ _ _ _
      | exact sess_Which.mono _ _ _ _
      | exact sess_With.mono _ _ _ _ _ _ _ _
      | exact LeO.none _
      | refine LeO.ite ?_ ?_
      | refine LeO.bind ?_ (fun _ => ?_)
theorem changeoverlaw22_SessWith.mono : ∀ a0 a1 a2 a3 a4 a5 a6 a7 k, LeO (changeoverlaw22_SessWith.f k a0 a1 a2 a3 a4 a5 a6 a7) (changeoverlaw22_SessWith.f (k + 1) a0 a1 a2 a3 a4 a5 a6 a7) := by
  intro a0 a1 a2 a3 a4 a5 a6 a7 k
  obtain ⟨ih0, ih1⟩ := changeoverlaw22_SessWith.mono_l k
  unfold changeoverlaw22_SessWith.f
  repeat' first
      | (with_reducible exact ih0 _ _ _ _ _ _ _ _ _)
      | (with_reducible exact ih1 _ _ _ _ _ _ _ _ _)
      | (with_reducible exact changeoverlaw22_awake.mono _)
      | (with_reducible exact changeoverref22_Large.mono _ _)
      | (with_reducible exact changeoverref22_Rise.mono _ _)
      | (with_reducible exact changeoverref22_Same.mono _ _ _)
      | (with_reducible exact changeoverref22_With.mono _ _ _ _ _ _ _ _)
      | (with_reducible exact sess_Which.mono _ _ _ _)
      | (with_reducible exact sess_With.mono _ _ _ _ _ _ _ _)
      | (with_reducible exact LeO.refl _)
      | (with_reducible exact LeO.none _)
      | (with_reducible refine LeO.ite ?_ ?_)
      | (with_reducible refine LeO.bind ?_ (fun _ => ?_))
      | exact ih0 _ _ _ _ _ _ _ _ _
      | exact ih1 _ _ _ _ _ _ _ _ _
      | exact changeoverlaw22_awake.mono _
      | exact changeoverref22_Large.mono _ _
      | exact changeoverref22_Rise.mono _ _
      | exact changeoverref22_Same.mono _ _ _
      | exact changeoverref22_With.mono _ _ _ _ _ _ _ _
      | exact sess_Which.mono _ _ _ _
      | exact sess_With.mono _ _ _ _ _ _ _ _
      | exact LeO.none _
      | refine LeO.ite ?_ ?_
      | refine LeO.bind ?_ (fun _ => ?_)
set_option maxHeartbeats 8000000 in
set_option maxRecDepth 100000 in
theorem changeoverlaw22_SessWith.calls (k : Nat) (A0 : Option Addr) (c0 : Nat) (l0 : List (S111)) (a1_0 : Int) (a1_1 : Int) (a1_2 : Int) (a1_3 : Bool) (a1_4 : ByteArray) (a1_5 : Int) (a2 : Int) (r : Bool) (w : World) (hr0 : Kd.C k111 w A0 l0.length l0) (hc0 : l0.length ≤ c0) (h : changeoverlaw22_SessWith.f k l0 a1_0 a1_1 a1_2 a1_3 a1_4 a1_5 a2 = some r) :
    Calls Try.prog 9 #[.slice A0 l0.length c0, .agg #[.int .i64 a1_0, .int .i64 a1_1, .int .i64 a1_2, .bool a1_3, .string a1_4, .int .i64 a1_5], .int .u8 a2] w fun e w' => e = .returned (.bool r) ∧ Below w.heap.size w w' := by
  have hu60 := Try.underlying60
  have HR0 := Aside0.mk hr0
  have HC0 := Aside0.mk hc0
  clear hr0 hc0
  have HB := Aside0.mk (Below.refl w.heap.size w)
  have H : ((changeoverref22_Large.f k l0).bind fun t433 => (if t433 = true then (changeoverlaw22_SessWith.j0 k l0 a2 true a1_0 a1_1 a1_2 a1_3 a1_4 a1_5) else (if (a1_4.size : Int) > 200 then (changeoverlaw22_SessWith.j0 k l0 a2 true a1_0 a1_1 a1_2 a1_3 a1_4 a1_5) else ((changeoverref22_Rise.f k l0).bind fun t434 => (changeoverlaw22_SessWith.j0 k l0 a2 (!t434) a1_0 a1_1 a1_2 a1_3 a1_4 a1_5))))) = some r := h
  clear h
  have HC4 := Aside0.mk H
  clear H
  go_enter Try.func9, Try.ntmps9
  go_upto_region 1 with (first | ((with_reducible refine gate_dst (N := 4) rfl ?_); (try (refine gate_guard (by rfl) ?_; dsimp only)); refine box_event ?hg (N := 4) ?hd (cs := #[.int .i64 a1_0, .int .i64 a1_1, .int .i64 a1_2, .bool a1_3, .string a1_4, .int .i64 a1_5]) (t := 60) ?hr ?_; (case hd => rfl); (case hg => rfl); (case hr => first | (go_simp; done) | (go_simp; rfl)); intro gb432 hg w5 hbox hb; have n0_ := Aside0.mk (below_step (by repeat (first | (with_reducible first | exact HB.out | apply below_alloc | apply pw_below_drewN | apply below_drew1) | exact HB.out)) hb); have n1_ := Aside0.mk (hbox); have n2_ := Aside0.mk ((by rw [hg]; exact (below_size (by repeat (first | (with_reducible first | exact HB.out | apply below_alloc | apply pw_below_drewN | apply below_drew1) | exact HB.out))) : w.heap.size ≤ gb432)); have n3_ := Aside0.mk ((by rw [hg]; exact (below_size (by repeat (first | (with_reducible first | exact HB.out | apply below_alloc | apply pw_below_drewN | apply below_drew1) | exact HB.out))) : w.heap.size ≤ gb432)); clear HB; have HB := n0_; have BK432 := n1_; have GW432 := n2_; have GE432 := n3_; clear n0_ n1_ n2_ n3_; clear hb hbox hg))
  (try simp only [Act.put, List.setIfInBounds_toArray, List.set_cons_zero, List.set_cons_succ])
  go_cut [24] (fun v24 wc => ∃ (kq : Nat) (x24_3 : Bool), v24 = .bool x24_3 ∧ Aside0 (changeoverlaw22_SessWith.j0 kq l0 a2 x24_3 a1_0 a1_1 a1_2 a1_3 a1_4 a1_5 = some r) ∧ Aside0 (kq ≤ k) ∧ Aside0 (wc.heap[gb432]? = some (.cells #[.int .i64 a1_0, .int .i64 a1_1, .int .i64 a1_2, .bool a1_3, .string a1_4, .int .i64 a1_5] 60 (0, 0))) ∧ Aside0 (Below w.heap.size w wc))
  case first =>
    have H := HC4.out
    clear HC4
    replace H := Option.bind_eq_some_iff.mp H
    obtain ⟨t433, A60, H⟩ := H
    replace H : (if t433 = true then (changeoverlaw22_SessWith.j0 k l0 a2 true a1_0 a1_1 a1_2 a1_3 a1_4 a1_5) else (if (a1_4.size : Int) > 200 then (changeoverlaw22_SessWith.j0 k l0 a2 true a1_0 a1_1 a1_2 a1_3 a1_4 a1_5) else ((changeoverref22_Rise.f k l0).bind fun t434 => (changeoverlaw22_SessWith.j0 k l0 a2 (!t434) a1_0 a1_1 a1_2 a1_3 a1_4 a1_5)))) = some r := H
    have A6 := Aside0.mk A60
    clear A60
    by_cases c7 : t433 = true
    · subst c7
      have H1 : (changeoverlaw22_SessWith.j0 k l0 a2 true a1_0 a1_1 a1_2 a1_3 a1_4 a1_5) = some r := by rw [if_pos rfl] at H; exact H
      clear H
      have H := H1
      clear H1
      have H' := Aside0.mk H
      clear H
      go_wp2_with (first | ((with_reducible refine gate_callee (f := 45) rfl ?_); refine goesL_ (some 13) rfl rfl Try.func45 (by kernel_rfl) rfl #[.slice A0 l0.length c0] rfl (by (try simp only [List.map_toArray, List.map_cons, List.map_nil]); first | done | rfl | (simp only [List.length_drop, List.length_take]; rfl)) ?_; (with_reducible refine (changeoverref22_Large.calls k _ _ l0 true _ ?side1 ?side2 A6.out).mono ?_); (case side1 => repeat (first | exact (Kd.C_below HR0.out HB.out) | (with_reducible refine Kd.C_alloc ?_ _) | (with_reducible refine Kd.C_drewN ?_ _) | (with_reducible refine Kd.C_drew ?_))); (case side2 => exact HC0.out); rintro e w' ⟨rfl, ⟨nd, rfl⟩⟩; refine ⟨_, rfl, ?_⟩))
      go_meet
      case rel => exact ⟨_, (true), (by first | rfl | (simp; done) | (simp [*]; done)), H', ⟨by first | omega | exact Nat.le_refl _⟩, ⟨by (with_reducible repeat (first | refine blk_drewN ?_ _ | refine blk_drew ?_ | refine blk_alloc ?_ _)); exact BK432.out⟩, ⟨by repeat (first | (with_reducible first | exact HB.out | apply below_alloc | apply pw_below_drewN | apply below_drew1 | refine below_set ?_ GE432.out) | exact HB.out)⟩⟩
    · replace c7 := Bool.eq_false_iff.mpr c7
      subst c7
      have H1 : (if (a1_4.size : Int) > 200 then (changeoverlaw22_SessWith.j0 k l0 a2 true a1_0 a1_1 a1_2 a1_3 a1_4 a1_5) else ((changeoverref22_Rise.f k l0).bind fun t434 => (changeoverlaw22_SessWith.j0 k l0 a2 (!t434) a1_0 a1_1 a1_2 a1_3 a1_4 a1_5))) = some r := by rw [if_neg (show ¬ (false = true) by decide)] at H; exact H
      clear H
      have H := H1
      clear H1
      by_cases c8 : (a1_4.size : Int) > 200
      · rw [if_pos c8] at H
        have c8b0 : decide (200 < (a1_4.size : Int)) = true := decide_eq_true c8
        have c8b1 : decide (200 < a1_4.size) = true := decide_eq_true (by omega)
        clear c8
        (first | rw [c8b0] | (simp only [i64_w, i32_w]; rw [c8b0]) | skip)
        have H' := Aside0.mk H
        clear H
        go_wp2_with (first | ((with_reducible refine gate_callee (f := 45) rfl ?_); refine goesL_ (some 13) rfl rfl Try.func45 (by kernel_rfl) rfl #[.slice A0 l0.length c0] rfl (by (try simp only [List.map_toArray, List.map_cons, List.map_nil]); first | done | rfl | (simp only [List.length_drop, List.length_take]; rfl)) ?_; (with_reducible refine (changeoverref22_Large.calls k _ _ l0 false _ ?side1 ?side2 A6.out).mono ?_); (case side1 => repeat (first | exact (Kd.C_below HR0.out HB.out) | (with_reducible refine Kd.C_alloc ?_ _) | (with_reducible refine Kd.C_drewN ?_ _) | (with_reducible refine Kd.C_drew ?_))); (case side2 => exact HC0.out); rintro e w' ⟨rfl, ⟨nd, rfl⟩⟩; refine ⟨_, rfl, ?_⟩; have hcz9_0 : w5.cell? ⟨gb432, 0, none⟩ = some (.int .i64 a1_0) := (blk_cell BK432.out 0).trans rfl; have hcz9_1 : w5.cell? ⟨gb432, 1, none⟩ = some (.int .i64 a1_1) := (blk_cell BK432.out 1).trans rfl; have hcz9_2 : w5.cell? ⟨gb432, 2, none⟩ = some (.int .i64 a1_2) := (blk_cell BK432.out 2).trans rfl; have hcz9_3 : w5.cell? ⟨gb432, 3, none⟩ = some (.bool a1_3) := (blk_cell BK432.out 3).trans rfl; have hcz9_4 : w5.cell? ⟨gb432, 4, none⟩ = some (.string a1_4) := (blk_cell BK432.out 4).trans rfl; have hcz9_5 : w5.cell? ⟨gb432, 5, none⟩ = some (.int .i64 a1_5) := (blk_cell BK432.out 5).trans rfl; have hfz9_0 := blk_frozen BK432.out 0; have hfz9_1 := blk_frozen BK432.out 1; have hfz9_2 := blk_frozen BK432.out 2; have hfz9_3 := blk_frozen BK432.out 3; have hfz9_4 := blk_frozen BK432.out 4; have hfz9_5 := blk_frozen BK432.out 5))
        go_meet
        case rel => exact ⟨_, (true), (by first | rfl | (simp; done) | (simp [*]; done)), H', ⟨by first | omega | exact Nat.le_refl _⟩, ⟨by (with_reducible repeat (first | refine blk_drewN ?_ _ | refine blk_drew ?_ | refine blk_alloc ?_ _)); exact BK432.out⟩, ⟨by repeat (first | (with_reducible first | exact HB.out | apply below_alloc | apply pw_below_drewN | apply below_drew1 | refine below_set ?_ GE432.out) | exact HB.out)⟩⟩
      · rw [if_neg c8] at H
        have c8b0 : decide (200 < (a1_4.size : Int)) = false := decide_eq_false c8
        have c8b1 : decide (200 < a1_4.size) = false := decide_eq_false (by omega)
        clear c8
        (first | rw [c8b0] | (simp only [i64_w, i32_w]; rw [c8b0]) | skip)
        replace H := Option.bind_eq_some_iff.mp H
        obtain ⟨t434, A100, H⟩ := H
        replace H : (changeoverlaw22_SessWith.j0 k l0 a2 (!t434) a1_0 a1_1 a1_2 a1_3 a1_4 a1_5) = some r := H
        have A10 := Aside0.mk A100
        clear A100
        have H' := Aside0.mk H
        clear H
        go_wp2_with (first | ((with_reducible refine gate_callee (f := 45) rfl ?_); refine goesL_ (some 13) rfl rfl Try.func45 (by kernel_rfl) rfl #[.slice A0 l0.length c0] rfl (by (try simp only [List.map_toArray, List.map_cons, List.map_nil]); first | done | rfl | (simp only [List.length_drop, List.length_take]; rfl)) ?_; (with_reducible refine (changeoverref22_Large.calls k _ _ l0 false _ ?side1 ?side2 A6.out).mono ?_); (case side1 => repeat (first | exact (Kd.C_below HR0.out HB.out) | (with_reducible refine Kd.C_alloc ?_ _) | (with_reducible refine Kd.C_drewN ?_ _) | (with_reducible refine Kd.C_drew ?_))); (case side2 => exact HC0.out); rintro e w' ⟨rfl, ⟨nd, rfl⟩⟩; refine ⟨_, rfl, ?_⟩; have hcz11_0 : w5.cell? ⟨gb432, 0, none⟩ = some (.int .i64 a1_0) := (blk_cell BK432.out 0).trans rfl; have hcz11_1 : w5.cell? ⟨gb432, 1, none⟩ = some (.int .i64 a1_1) := (blk_cell BK432.out 1).trans rfl; have hcz11_2 : w5.cell? ⟨gb432, 2, none⟩ = some (.int .i64 a1_2) := (blk_cell BK432.out 2).trans rfl; have hcz11_3 : w5.cell? ⟨gb432, 3, none⟩ = some (.bool a1_3) := (blk_cell BK432.out 3).trans rfl; have hcz11_4 : w5.cell? ⟨gb432, 4, none⟩ = some (.string a1_4) := (blk_cell BK432.out 4).trans rfl; have hcz11_5 : w5.cell? ⟨gb432, 5, none⟩ = some (.int .i64 a1_5) := (blk_cell BK432.out 5).trans rfl; have hfz11_0 := blk_frozen BK432.out 0; have hfz11_1 := blk_frozen BK432.out 1; have hfz11_2 := blk_frozen BK432.out 2; have hfz11_3 := blk_frozen BK432.out 3; have hfz11_4 := blk_frozen BK432.out 4; have hfz11_5 := blk_frozen BK432.out 5) | (go_at_call 46; (with_reducible refine (changeoverref22_Rise.calls k _ _ l0 t434 _ ?side1 ?side2 A10.out).mono ?_); (case side1 => repeat (first | exact (Kd.C_below HR0.out (by repeat (first | (with_reducible first | exact HB.out | apply below_alloc | apply pw_below_drewN | apply below_drew1 | refine below_set ?_ GE432.out) | exact HB.out))) | (with_reducible refine Kd.C_alloc ?_ _) | (with_reducible refine Kd.C_drewN ?_ _) | (with_reducible refine Kd.C_drew ?_))); (case side2 => exact HC0.out); rintro e w' ⟨rfl, ⟨nd, rfl⟩⟩))
        go_meet
        case rel => exact ⟨_, (!t434), (by first | rfl | (simp; done) | (simp [*]; done)), H', ⟨by first | omega | exact Nat.le_refl _⟩, ⟨by (with_reducible repeat (first | refine blk_drewN ?_ _ | refine blk_drew ?_ | refine blk_alloc ?_ _)); exact BK432.out⟩, ⟨by repeat (first | (with_reducible first | exact HB.out | apply below_alloc | apply pw_below_drewN | apply below_drew1 | refine below_set ?_ GE432.out) | exact HB.out)⟩⟩
  case rest =>
    clear HC4
    try clear p2
    try clear c4
    try clear c7
    try clear c8
    try clear c8b0
    try clear c8b1
    try clear c9
    try clear hcz11_0
    try clear hcz11_1
    try clear hcz11_2
    try clear hcz11_3
    try clear hcz11_4
    try clear hcz11_5
    try clear hcz9_0
    try clear hcz9_1
    try clear hcz9_2
    try clear hcz9_3
    try clear hcz9_4
    try clear hcz9_5
    try clear hfz11_0
    try clear hfz11_1
    try clear hfz11_2
    try clear hfz11_3
    try clear hfz11_4
    try clear hfz11_5
    try clear hfz9_0
    try clear hfz9_1
    try clear hfz9_2
    try clear hfz9_3
    try clear hfz9_4
    try clear hfz9_5
    obtain ⟨kq, x24_3, rfl, HA, HJ3, BK432, HB⟩ := hcut
    cases kq with
    | zero => exact absurd HA.out (by simp [changeoverlaw22_SessWith.j0])
    | succ kj3 =>
      have H := HA.out
      clear HA
      simp only [changeoverlaw22_SessWith.j0] at H
      by_cases c12 : x24_3 = true
      · subst c12
        have H1 : ((changeoverlaw22_awake.f kj3).bind fun t435 => (some t435)) = some r := by rw [if_pos rfl] at H; exact H
        clear H
        have H := H1
        clear H1
        replace H := Option.bind_eq_some_iff.mp H
        obtain ⟨t435, A130, H⟩ := H
        replace H : (some t435) = some r := H
        have A13 := Aside0.mk A130
        clear A130
        obtain rfl := Option.some.inj H
        go_wp2_with (first | ((with_reducible refine gate_callee (f := 47) rfl ?_); refine goesL_ (some 25) rfl rfl Try.func47 (by kernel_rfl) rfl #[] rfl (by (try simp only [List.map_toArray, List.map_cons, List.map_nil]); first | done | rfl | (simp only [List.length_drop, List.length_take]; rfl)) ?_; (with_reducible refine (changeoverlaw22_awake.calls kj3  t435 _ A13.out).mono ?_); rintro e w14 ⟨rfl, hb⟩; refine ⟨_, rfl, ?_⟩; have n0_ := Aside0.mk (blk_below (g := gb432) (o := .cells #[.int .i64 a1_0, .int .i64 a1_1, .int .i64 a1_2, .bool a1_3, .string a1_4, .int .i64 a1_5] 60 (0, 0)) (by (with_reducible repeat (first | refine blk_drewN ?_ _ | refine blk_drew ?_ | refine blk_alloc ?_ _)); exact BK432.out) hb); have n1_ := Aside0.mk (below_step (by repeat (first | (with_reducible first | exact HB.out | apply below_alloc | apply pw_below_drewN | apply below_drew1 | refine below_set ?_ GE432.out) | exact HB.out)) hb); clear BK432; clear HB; have BK432 := n0_; have HB := n1_; clear n0_ n1_; (try clear hb); (try clear hb2); (try clear hk); (try clear hi)))
        go_ret
        exact ⟨by first | rfl | (simp [errW_none, errW_some] <;> rfl) | (simp [*, errW_none, errW_some] <;> rfl), by repeat (first | (with_reducible first | exact HB.out | apply below_alloc | apply pw_below_drewN | apply below_drew1 | refine below_set ?_ GE432.out) | exact HB.out)⟩
      · replace c12 := Bool.eq_false_iff.mpr c12
        subst c12
        have H1 : ((sess_With.f kj3 l0 a1_0 a1_1 a1_2 a1_3 a1_4 a1_5).bind fun t436 => ((sess_Which.f kj3 t436 a1_0 a1_1).bind fun bt439 => ((changeoverref22_With.f kj3 l0 a1_0 a1_1 a1_2 a1_3 a1_4 a1_5).bind fun t447 => ((changeoverref22_Same.f kj3 t436 t447).bind fun t450 => (if t450 = true then (if bt439.1 = 1 then (changeoverlaw22_SessWith.j1 kj3 a2 t436 (!(bt439.2.1 == a1_0) || (!(bt439.2.2.1 == a1_1) || (!(bt439.2.2.2.1 == a1_2) || (!(bt439.2.2.2.2.1 == a1_3) || (!(bt439.2.2.2.2.2.1.toList == a1_4.toList) || (!(bt439.2.2.2.2.2.2 == a1_5))))))) a1_0 a1_1 a1_2 a1_3 a1_4 a1_5) else (changeoverlaw22_SessWith.j1 kj3 a2 t436 true a1_0 a1_1 a1_2 a1_3 a1_4 a1_5)) else (changeoverlaw22_SessWith.j1 kj3 a2 t436 true a1_0 a1_1 a1_2 a1_3 a1_4 a1_5)))))) = some r := by rw [if_neg (show ¬ (false = true) by decide)] at H; exact H
        clear H
        have H := H1
        clear H1
        replace H := Option.bind_eq_some_iff.mp H
        obtain ⟨t436, A150, H⟩ := H
        replace H : ((sess_Which.f kj3 t436 a1_0 a1_1).bind fun bt439 => ((changeoverref22_With.f kj3 l0 a1_0 a1_1 a1_2 a1_3 a1_4 a1_5).bind fun t447 => ((changeoverref22_Same.f kj3 t436 t447).bind fun t450 => (if t450 = true then (if bt439.1 = 1 then (changeoverlaw22_SessWith.j1 kj3 a2 t436 (!(bt439.2.1 == a1_0) || (!(bt439.2.2.1 == a1_1) || (!(bt439.2.2.2.1 == a1_2) || (!(bt439.2.2.2.2.1 == a1_3) || (!(bt439.2.2.2.2.2.1.toList == a1_4.toList) || (!(bt439.2.2.2.2.2.2 == a1_5))))))) a1_0 a1_1 a1_2 a1_3 a1_4 a1_5) else (changeoverlaw22_SessWith.j1 kj3 a2 t436 true a1_0 a1_1 a1_2 a1_3 a1_4 a1_5)) else (changeoverlaw22_SessWith.j1 kj3 a2 t436 true a1_0 a1_1 a1_2 a1_3 a1_4 a1_5))))) = some r := H
        have A15 := Aside0.mk A150
        clear A150
        replace H := Option.bind_eq_some_iff.mp H
        obtain ⟨⟨t439, t440, t441, t442, t443, t444, t445⟩, A160, H⟩ := H
        replace H : ((changeoverref22_With.f kj3 l0 a1_0 a1_1 a1_2 a1_3 a1_4 a1_5).bind fun t447 => ((changeoverref22_Same.f kj3 t436 t447).bind fun t450 => (if t450 = true then (if t439 = 1 then (changeoverlaw22_SessWith.j1 kj3 a2 t436 (!(t440 == a1_0) || (!(t441 == a1_1) || (!(t442 == a1_2) || (!(t443 == a1_3) || (!(t444.toList == a1_4.toList) || (!(t445 == a1_5))))))) a1_0 a1_1 a1_2 a1_3 a1_4 a1_5) else (changeoverlaw22_SessWith.j1 kj3 a2 t436 true a1_0 a1_1 a1_2 a1_3 a1_4 a1_5)) else (changeoverlaw22_SessWith.j1 kj3 a2 t436 true a1_0 a1_1 a1_2 a1_3 a1_4 a1_5)))) = some r := H
        have A16 := Aside0.mk A160
        clear A160
        have HC17 := Aside0.mk H
        clear H
        have hcz18_0 : wc.cell? ⟨gb432, 0, none⟩ = some (.int .i64 a1_0) := (blk_cell BK432.out 0).trans rfl
        have hcz18_1 : wc.cell? ⟨gb432, 1, none⟩ = some (.int .i64 a1_1) := (blk_cell BK432.out 1).trans rfl
        have hcz18_2 : wc.cell? ⟨gb432, 2, none⟩ = some (.int .i64 a1_2) := (blk_cell BK432.out 2).trans rfl
        have hcz18_3 : wc.cell? ⟨gb432, 3, none⟩ = some (.bool a1_3) := (blk_cell BK432.out 3).trans rfl
        have hcz18_4 : wc.cell? ⟨gb432, 4, none⟩ = some (.string a1_4) := (blk_cell BK432.out 4).trans rfl
        have hcz18_5 : wc.cell? ⟨gb432, 5, none⟩ = some (.int .i64 a1_5) := (blk_cell BK432.out 5).trans rfl
        have hfz18_0 := blk_frozen BK432.out 0
        have hfz18_1 := blk_frozen BK432.out 1
        have hfz18_2 := blk_frozen BK432.out 2
        have hfz18_3 := blk_frozen BK432.out 3
        have hfz18_4 := blk_frozen BK432.out 4
        have hfz18_5 := blk_frozen BK432.out 5
        go_upto_region 5 with (first | ((with_reducible refine gate_callee (f := 52) rfl ?_); refine goesL_ (some 28) rfl rfl Try.func52 (by kernel_rfl) rfl #[.slice A0 l0.length c0, .agg #[.int .i64 a1_0, .int .i64 a1_1, .int .i64 a1_2, .bool a1_3, .string a1_4, .int .i64 a1_5]] rfl (by (try simp only [List.map_toArray, List.map_cons, List.map_nil]); first | done | rfl | (simp only [List.length_drop, List.length_take]; rfl)) ?_; (with_reducible refine (sess_With.calls kj3 _ _ l0 a1_0 a1_1 a1_2 a1_3 a1_4 a1_5 t436 _ ?side1 ?side2 A15.out).mono ?_); (case side1 => repeat (first | exact (Kd.C_below HR0.out HB.out) | (with_reducible refine Kd.C_alloc ?_ _) | (with_reducible refine Kd.C_drewN ?_ _) | (with_reducible refine Kd.C_drew ?_))); (case side2 => exact HC0.out); rintro e w19 ⟨v437, rfl, ho0, hb⟩; refine ⟨_, rfl, ?_⟩; have n0_ := Aside0.mk (Kd.R_lower ho0 (below_size (by repeat (first | (with_reducible first | exact HB.out | apply below_alloc | apply pw_below_drewN | apply below_drew1 | refine below_set ?_ GE432.out) | exact HB.out)))); have n1_ := Aside0.mk (blk_below (g := gb432) (o := .cells #[.int .i64 a1_0, .int .i64 a1_1, .int .i64 a1_2, .bool a1_3, .string a1_4, .int .i64 a1_5] 60 (0, 0)) (by (with_reducible repeat (first | refine blk_drewN ?_ _ | refine blk_drew ?_ | refine blk_alloc ?_ _)); exact BK432.out) hb); have n2_ := Aside0.mk (below_step (by repeat (first | (with_reducible first | exact HB.out | apply below_alloc | apply pw_below_drewN | apply below_drew1 | refine below_set ?_ GE432.out) | exact HB.out)) hb); clear BK432; clear HB; have HO438 := n0_; have BK432 := n1_; have HB := n2_; clear n0_ n1_ n2_; (try clear hb); (try clear hb2); (try clear hk); (try clear hi); (try clear ho0); have hcz20_0 : w19.cell? ⟨gb432, 0, none⟩ = some (.int .i64 a1_0) := (blk_cell BK432.out 0).trans rfl; have hcz20_1 : w19.cell? ⟨gb432, 1, none⟩ = some (.int .i64 a1_1) := (blk_cell BK432.out 1).trans rfl; have hcz20_2 : w19.cell? ⟨gb432, 2, none⟩ = some (.int .i64 a1_2) := (blk_cell BK432.out 2).trans rfl; have hcz20_3 : w19.cell? ⟨gb432, 3, none⟩ = some (.bool a1_3) := (blk_cell BK432.out 3).trans rfl; have hcz20_4 : w19.cell? ⟨gb432, 4, none⟩ = some (.string a1_4) := (blk_cell BK432.out 4).trans rfl; have hcz20_5 : w19.cell? ⟨gb432, 5, none⟩ = some (.int .i64 a1_5) := (blk_cell BK432.out 5).trans rfl; have hfz20_0 := blk_frozen BK432.out 0; have hfz20_1 := blk_frozen BK432.out 1; have hfz20_2 := blk_frozen BK432.out 2; have hfz20_3 := blk_frozen BK432.out 3; have hfz20_4 := blk_frozen BK432.out 4; have hfz20_5 := blk_frozen BK432.out 5; obtain ⟨Ao21, co21, eo21⟩ := Kd.R_slice HO438.out; subst eo21) | ((with_reducible refine gate_callee (f := 48) rfl ?_); refine goesL_ (some 35) rfl rfl Try.func48 (by kernel_rfl) rfl #[.slice Ao21 t436.length co21, .int .i64 a1_0, .int .i64 a1_1] rfl (by (try simp only [List.map_toArray, List.map_cons, List.map_nil]); first | done | rfl | (simp only [List.length_drop, List.length_take]; rfl)) ?_; (with_reducible refine (sess_Which.calls kj3 _ _ t436 a1_0 a1_1 t439 t440 t441 t442 t443 t444 t445 _ ?side1 ?side2 A16.out).mono ?_); (case side1 => repeat (first | exact (Kd.R_reads' HO438.out).2.2 | (with_reducible refine Kd.C_alloc ?_ _) | (with_reducible refine Kd.C_drewN ?_ _) | (with_reducible refine Kd.C_drew ?_))); (case side2 => exact (Kd.R_reads' HO438.out).2.1); rintro e w22 ⟨rfl, hb⟩; refine ⟨_, rfl, ?_⟩; have n0_ := Aside0.mk (Kd.R_below (by (with_reducible repeat (first | apply Kd.R_alloc | apply Kd.R_drewN | apply Kd.R_drew)); exact HO438.out) hb); have n1_ := Aside0.mk (blk_below (g := gb432) (o := .cells #[.int .i64 a1_0, .int .i64 a1_1, .int .i64 a1_2, .bool a1_3, .string a1_4, .int .i64 a1_5] 60 (0, 0)) (by (with_reducible repeat (first | refine blk_drewN ?_ _ | refine blk_drew ?_ | refine blk_alloc ?_ _)); exact BK432.out) hb); have n2_ := Aside0.mk (below_step (by repeat (first | (with_reducible first | exact HB.out | apply below_alloc | apply pw_below_drewN | apply below_drew1 | refine below_set ?_ GE432.out) | exact HB.out)) hb); clear HO438; clear BK432; clear HB; have HO438 := n0_; have BK432 := n1_; have HB := n2_; clear n0_ n1_ n2_; (try clear hb); (try clear hb2); (try clear hk); (try clear hi)) | ((with_reducible refine gate_dst (N := 9) rfl ?_); (try (refine gate_guard (by rfl) ?_; dsimp only)); refine box_event ?hg (N := 9) ?hd (cs := #[.int .i64 0, .int .i64 0, .int .i64 0, .bool false, .string (⟨#[]⟩ : ByteArray), .int .i64 0]) (t := 60) ?hr ?_; (case hd => rfl); (case hg => rfl); (case hr => first | (go_simp; done) | (go_simp; rfl)); intro gb446 hg w23 hbox hb; have n0_ := Aside0.mk (Kd.R_below (by (with_reducible repeat (first | apply Kd.R_alloc | apply Kd.R_drewN | apply Kd.R_drew)); exact HO438.out) hb); have n1_ := Aside0.mk (blk_below (g := gb432) (o := .cells #[.int .i64 a1_0, .int .i64 a1_1, .int .i64 a1_2, .bool a1_3, .string a1_4, .int .i64 a1_5] 60 (0, 0)) (by (with_reducible repeat (first | refine blk_drewN ?_ _ | refine blk_drew ?_ | refine blk_alloc ?_ _)); exact BK432.out) hb); have n2_ := Aside0.mk (below_step (by repeat (first | (with_reducible first | exact HB.out | apply below_alloc | apply pw_below_drewN | apply below_drew1 | refine below_set ?_ GE432.out) | exact HB.out)) hb); have n3_ := Aside0.mk (hbox); have n4_ := Aside0.mk ((by rw [hg]; exact (below_size (by repeat (first | (with_reducible first | exact HB.out | apply below_alloc | apply pw_below_drewN | apply below_drew1 | refine below_set ?_ GE432.out) | exact HB.out))) : w.heap.size ≤ gb446)); have n5_ := Aside0.mk ((by rw [hg]; exact (below_size (by repeat (first | (with_reducible first | exact HB.out | apply below_alloc | apply pw_below_drewN | apply below_drew1 | refine below_set ?_ GE432.out) | exact HB.out))) : w.heap.size ≤ gb446)); have n6_ := Aside0.mk ((by rw [hg]; exact Nat.ne_of_lt (blk_lt (g := gb432) (o := .cells #[.int .i64 a1_0, .int .i64 a1_1, .int .i64 a1_2, .bool a1_3, .string a1_4, .int .i64 a1_5] 60 (0, 0)) (by (with_reducible repeat (first | refine blk_drewN ?_ _ | refine blk_drew ?_ | refine blk_alloc ?_ _)); exact BK432.out)) : gb432 ≠ gb446)); have n7_ := Aside0.mk ((by rw [hg]; exact Nat.ne_of_gt (blk_lt (g := gb432) (o := .cells #[.int .i64 a1_0, .int .i64 a1_1, .int .i64 a1_2, .bool a1_3, .string a1_4, .int .i64 a1_5] 60 (0, 0)) (by (with_reducible repeat (first | refine blk_drewN ?_ _ | refine blk_drew ?_ | refine blk_alloc ?_ _)); exact BK432.out)) : gb446 ≠ gb432)); clear HO438; clear BK432; clear HB; have HO438 := n0_; have BK432 := n1_; have HB := n2_; have BK446 := n3_; have GW446 := n4_; have GE446 := n5_; have NB432_446 := n6_; have NB446_432 := n7_; clear n0_ n1_ n2_ n3_ n4_ n5_ n6_ n7_; clear hb hbox hg; have hnb24 := NB446_432.out; have hnc24 := NB432_446.out; have hcz25_0 : w23.cell? ⟨gb446, 0, none⟩ = some (.int .i64 0) := (blk_cell BK446.out 0).trans rfl; have hcz25_1 : w23.cell? ⟨gb446, 1, none⟩ = some (.int .i64 0) := (blk_cell BK446.out 1).trans rfl; have hcz25_2 : w23.cell? ⟨gb446, 2, none⟩ = some (.int .i64 0) := (blk_cell BK446.out 2).trans rfl; have hcz25_3 : w23.cell? ⟨gb446, 3, none⟩ = some (.bool false) := (blk_cell BK446.out 3).trans rfl; have hcz25_4 : w23.cell? ⟨gb446, 4, none⟩ = some (.string (⟨#[]⟩ : ByteArray)) := (blk_cell BK446.out 4).trans rfl; have hcz25_5 : w23.cell? ⟨gb446, 5, none⟩ = some (.int .i64 0) := (blk_cell BK446.out 5).trans rfl; have hfz25_0 := blk_frozen BK446.out 0; have hfz25_1 := blk_frozen BK446.out 1; have hfz25_2 := blk_frozen BK446.out 2; have hfz25_3 := blk_frozen BK446.out 3; have hfz25_4 := blk_frozen BK446.out 4; have hfz25_5 := blk_frozen BK446.out 5))
        (try simp only [Act.put, List.setIfInBounds_toArray, List.set_cons_zero, List.set_cons_succ])
        go_cut [52] (fun v52 wc => ∃ (kq : Nat) (x52_16 : Bool), v52 = .bool x52_16 ∧ Aside0 (changeoverlaw22_SessWith.j1 kq a2 t436 x52_16 a1_0 a1_1 a1_2 a1_3 a1_4 a1_5 = some r) ∧ Aside0 (kq ≤ kj3) ∧ Aside0 (Kd.R k111 111 wc w.heap.size (fun _ => True) (.slice Ao21 t436.length co21) t436) ∧ Aside0 (wc.heap[gb432]? = some (.cells #[.int .i64 a1_0, .int .i64 a1_1, .int .i64 a1_2, .bool a1_3, .string a1_4, .int .i64 a1_5] 60 (0, 0))) ∧ Aside0 (wc.heap[gb446]? = some (.cells #[.int .i64 t440, .int .i64 t441, .int .i64 t442, .bool t443, .string t444, .int .i64 t445] 60 (0, 0))) ∧ Aside0 (Below w.heap.size w wc))
        case first =>
          have H := HC17.out
          clear HC17
          replace H := Option.bind_eq_some_iff.mp H
          obtain ⟨t447, A260, H⟩ := H
          replace H : ((changeoverref22_Same.f kj3 t436 t447).bind fun t450 => (if t450 = true then (if t439 = 1 then (changeoverlaw22_SessWith.j1 kj3 a2 t436 (!(t440 == a1_0) || (!(t441 == a1_1) || (!(t442 == a1_2) || (!(t443 == a1_3) || (!(t444.toList == a1_4.toList) || (!(t445 == a1_5))))))) a1_0 a1_1 a1_2 a1_3 a1_4 a1_5) else (changeoverlaw22_SessWith.j1 kj3 a2 t436 true a1_0 a1_1 a1_2 a1_3 a1_4 a1_5)) else (changeoverlaw22_SessWith.j1 kj3 a2 t436 true a1_0 a1_1 a1_2 a1_3 a1_4 a1_5))) = some r := H
          have A26 := Aside0.mk A260
          clear A260
          replace H := Option.bind_eq_some_iff.mp H
          obtain ⟨t450, A270, H⟩ := H
          replace H : (if t450 = true then (if t439 = 1 then (changeoverlaw22_SessWith.j1 kj3 a2 t436 (!(t440 == a1_0) || (!(t441 == a1_1) || (!(t442 == a1_2) || (!(t443 == a1_3) || (!(t444.toList == a1_4.toList) || (!(t445 == a1_5))))))) a1_0 a1_1 a1_2 a1_3 a1_4 a1_5) else (changeoverlaw22_SessWith.j1 kj3 a2 t436 true a1_0 a1_1 a1_2 a1_3 a1_4 a1_5)) else (changeoverlaw22_SessWith.j1 kj3 a2 t436 true a1_0 a1_1 a1_2 a1_3 a1_4 a1_5)) = some r := H
          have A27 := Aside0.mk A270
          clear A270
          by_cases c28 : t450 = true
          · subst c28
            have H1 : (if t439 = 1 then (changeoverlaw22_SessWith.j1 kj3 a2 t436 (!(t440 == a1_0) || (!(t441 == a1_1) || (!(t442 == a1_2) || (!(t443 == a1_3) || (!(t444.toList == a1_4.toList) || (!(t445 == a1_5))))))) a1_0 a1_1 a1_2 a1_3 a1_4 a1_5) else (changeoverlaw22_SessWith.j1 kj3 a2 t436 true a1_0 a1_1 a1_2 a1_3 a1_4 a1_5)) = some r := by rw [if_pos rfl] at H; exact H
            clear H
            have H := H1
            clear H1
            by_cases c29 : t439 = 1
            · rw [if_pos c29] at H
              have c29b0 : (t439 == 1) = true := beq_iff_eq.mpr c29
              have c29b1 : (t439 != 1) = false := bne_eq_false_iff_eq.mpr c29
              clear c29
              (first | rw [c29b0] | (simp only [i64_w, i32_w]; rw [c29b0]) | skip)
              have H' := Aside0.mk H
              clear H
              have hnb30 := NB432_446.out
              have hnc30 := NB446_432.out
              have hcz31_0 : w23.cell? ⟨gb432, 0, none⟩ = some (.int .i64 a1_0) := (blk_cell BK432.out 0).trans rfl
              have hcz31_1 : w23.cell? ⟨gb432, 1, none⟩ = some (.int .i64 a1_1) := (blk_cell BK432.out 1).trans rfl
              have hcz31_2 : w23.cell? ⟨gb432, 2, none⟩ = some (.int .i64 a1_2) := (blk_cell BK432.out 2).trans rfl
              have hcz31_3 : w23.cell? ⟨gb432, 3, none⟩ = some (.bool a1_3) := (blk_cell BK432.out 3).trans rfl
              have hcz31_4 : w23.cell? ⟨gb432, 4, none⟩ = some (.string a1_4) := (blk_cell BK432.out 4).trans rfl
              have hcz31_5 : w23.cell? ⟨gb432, 5, none⟩ = some (.int .i64 a1_5) := (blk_cell BK432.out 5).trans rfl
              have hfz31_0 := blk_frozen BK432.out 0
              have hfz31_1 := blk_frozen BK432.out 1
              have hfz31_2 := blk_frozen BK432.out 2
              have hfz31_3 := blk_frozen BK432.out 3
              have hfz31_4 := blk_frozen BK432.out 4
              have hfz31_5 := blk_frozen BK432.out 5
              go_wp2_with (first | ((with_reducible refine gate_callee (f := 54) rfl ?_); refine goesL_ (some 41) rfl rfl Try.func54 (by kernel_rfl) rfl #[.slice A0 l0.length c0, .agg #[.int .i64 a1_0, .int .i64 a1_1, .int .i64 a1_2, .bool a1_3, .string a1_4, .int .i64 a1_5]] rfl (by (try simp only [List.map_toArray, List.map_cons, List.map_nil]); first | done | rfl | (simp only [List.length_drop, List.length_take]; rfl)) ?_; (with_reducible refine (changeoverref22_With.calls kj3 _ _ l0 a1_0 a1_1 a1_2 a1_3 a1_4 a1_5 t447 _ ?side1 ?side2 A26.out).mono ?_); (case side1 => exact Kd.C_below HR0.out (by repeat (first | (with_reducible first | exact HB.out | apply below_alloc | apply pw_below_drewN | apply below_drew1 | refine below_set ?_ GE432.out | refine below_set ?_ GE446.out) | exact HB.out))); (case side2 => exact HC0.out); rintro e w32 ⟨v448, rfl, ho0, hb⟩; refine ⟨_, rfl, ?_⟩; have n0_ := Aside0.mk (Kd.R_elder' (by (with_reducible repeat (first | apply Kd.R_alloc | apply Kd.R_drewN | apply Kd.R_drew)); exact (Kd.R_mono (Kd.R_far (p := ⟨gb446, 5, none⟩) (Kd.R_far (p := ⟨gb446, 4, none⟩) (Kd.R_far (p := ⟨gb446, 3, none⟩) (Kd.R_far (p := ⟨gb446, 2, none⟩) (Kd.R_far (p := ⟨gb446, 1, none⟩) (Kd.R_far (p := ⟨gb446, 0, none⟩) (Kd.R_types HO438.out BK446.out (by decide)) (fun _ hk => hk.2) (.int .i64 t440)) (fun _ hk => hk.2) (.int .i64 t441)) (fun _ hk => hk.2) (.int .i64 t442)) (fun _ hk => hk.2) (.bool t443)) (fun _ hk => hk.2) (.string t444)) (fun _ hk => hk.2) (.int .i64 t445)) (fun _ h_ => h_.1))) (Kd.R_base ho0) hb); have n1_ := Aside0.mk (Kd.R_lower (Kd.R_new' ho0 (Kd.R_lt (by (with_reducible repeat (first | apply Kd.R_alloc | apply Kd.R_drewN | apply Kd.R_drew)); exact (Kd.R_mono (Kd.R_far (p := ⟨gb446, 5, none⟩) (Kd.R_far (p := ⟨gb446, 4, none⟩) (Kd.R_far (p := ⟨gb446, 3, none⟩) (Kd.R_far (p := ⟨gb446, 2, none⟩) (Kd.R_far (p := ⟨gb446, 1, none⟩) (Kd.R_far (p := ⟨gb446, 0, none⟩) (Kd.R_types HO438.out BK446.out (by decide)) (fun _ hk => hk.2) (.int .i64 t440)) (fun _ hk => hk.2) (.int .i64 t441)) (fun _ hk => hk.2) (.int .i64 t442)) (fun _ hk => hk.2) (.bool t443)) (fun _ hk => hk.2) (.string t444)) (fun _ hk => hk.2) (.int .i64 t445)) (fun _ h_ => h_.1))))) (below_size (by repeat (first | (with_reducible first | exact HB.out | apply below_alloc | apply pw_below_drewN | apply below_drew1 | refine below_set ?_ GE432.out | refine below_set ?_ GE446.out) | exact HB.out)))); have n2_ := Aside0.mk (blk_below (g := gb432) (o := .cells #[.int .i64 a1_0, .int .i64 a1_1, .int .i64 a1_2, .bool a1_3, .string a1_4, .int .i64 a1_5] 60 (0, 0)) (by (with_reducible repeat (first | refine blk_drewN ?_ _ | refine blk_drew ?_ | refine blk_alloc ?_ _)); refine blk_far ?_ NB432_446.out _; (with_reducible repeat (first | refine blk_drewN ?_ _ | refine blk_drew ?_ | refine blk_alloc ?_ _)); refine blk_far ?_ NB432_446.out _; (with_reducible repeat (first | refine blk_drewN ?_ _ | refine blk_drew ?_ | refine blk_alloc ?_ _)); refine blk_far ?_ NB432_446.out _; (with_reducible repeat (first | refine blk_drewN ?_ _ | refine blk_drew ?_ | refine blk_alloc ?_ _)); refine blk_far ?_ NB432_446.out _; (with_reducible repeat (first | refine blk_drewN ?_ _ | refine blk_drew ?_ | refine blk_alloc ?_ _)); refine blk_far ?_ NB432_446.out _; (with_reducible repeat (first | refine blk_drewN ?_ _ | refine blk_drew ?_ | refine blk_alloc ?_ _)); refine blk_far ?_ NB432_446.out _; (with_reducible repeat (first | refine blk_drewN ?_ _ | refine blk_drew ?_ | refine blk_alloc ?_ _)); exact BK432.out) hb); have n3_ := Aside0.mk (blk_below (g := gb446) (o := .cells #[.int .i64 t440, .int .i64 t441, .int .i64 t442, .bool t443, .string t444, .int .i64 t445] 60 (0, 0)) (by (with_reducible repeat (first | refine blk_drewN ?_ _ | refine blk_drew ?_ | refine blk_alloc ?_ _)); refine blk_put (cs := #[.int .i64 t440, .int .i64 t441, .int .i64 t442, .bool t443, .string t444, .int .i64 0]) ?_ 5 _ rfl; (with_reducible repeat (first | refine blk_drewN ?_ _ | refine blk_drew ?_ | refine blk_alloc ?_ _)); refine blk_put (cs := #[.int .i64 t440, .int .i64 t441, .int .i64 t442, .bool t443, .string (⟨#[]⟩ : ByteArray), .int .i64 0]) ?_ 4 _ rfl; (with_reducible repeat (first | refine blk_drewN ?_ _ | refine blk_drew ?_ | refine blk_alloc ?_ _)); refine blk_put (cs := #[.int .i64 t440, .int .i64 t441, .int .i64 t442, .bool false, .string (⟨#[]⟩ : ByteArray), .int .i64 0]) ?_ 3 _ rfl; (with_reducible repeat (first | refine blk_drewN ?_ _ | refine blk_drew ?_ | refine blk_alloc ?_ _)); refine blk_put (cs := #[.int .i64 t440, .int .i64 t441, .int .i64 0, .bool false, .string (⟨#[]⟩ : ByteArray), .int .i64 0]) ?_ 2 _ rfl; (with_reducible repeat (first | refine blk_drewN ?_ _ | refine blk_drew ?_ | refine blk_alloc ?_ _)); refine blk_put (cs := #[.int .i64 t440, .int .i64 0, .int .i64 0, .bool false, .string (⟨#[]⟩ : ByteArray), .int .i64 0]) ?_ 1 _ rfl; (with_reducible repeat (first | refine blk_drewN ?_ _ | refine blk_drew ?_ | refine blk_alloc ?_ _)); refine blk_put (cs := #[.int .i64 0, .int .i64 0, .int .i64 0, .bool false, .string (⟨#[]⟩ : ByteArray), .int .i64 0]) ?_ 0 _ rfl; (with_reducible repeat (first | refine blk_drewN ?_ _ | refine blk_drew ?_ | refine blk_alloc ?_ _)); exact BK446.out) hb); have n4_ := Aside0.mk (below_step (by repeat (first | (with_reducible first | exact HB.out | apply below_alloc | apply pw_below_drewN | apply below_drew1 | refine below_set ?_ GE432.out | refine below_set ?_ GE446.out) | exact HB.out)) hb); clear HO438; clear BK432; clear BK446; clear HB; have HO438 := n0_; have HO449 := n1_; have BK432 := n2_; have BK446 := n3_; have HB := n4_; clear n0_ n1_ n2_ n3_ n4_; (try clear hb); (try clear hb2); (try clear hk); (try clear hi); (try clear ho0); obtain ⟨Ao33, co33, eo33⟩ := Kd.R_slice HO449.out; subst eo33) | ((with_reducible refine gate_callee (f := 53) rfl ?_); refine goesL_ (some 42) rfl rfl Try.func53 (by kernel_rfl) rfl #[.slice Ao21 t436.length co21, .slice Ao33 t447.length co33] rfl (by (try simp only [List.map_toArray, List.map_cons, List.map_nil]); first | done | rfl | (simp only [List.length_drop, List.length_take]; rfl)) ?_; (with_reducible refine (changeoverref22_Same.calls kj3 _ _ t436 _ _ t447 true _ ?side1 ?side2 ?side3 ?side4 A27.out).mono ?_); (case side1 => repeat (first | exact (Kd.R_reads' HO438.out).2.2 | (with_reducible refine Kd.C_alloc ?_ _) | (with_reducible refine Kd.C_drewN ?_ _) | (with_reducible refine Kd.C_drew ?_))); (case side2 => exact (Kd.R_reads' HO438.out).2.1); (case side3 => repeat (first | exact (Kd.R_reads' HO449.out).2.2 | (with_reducible refine Kd.C_alloc ?_ _) | (with_reducible refine Kd.C_drewN ?_ _) | (with_reducible refine Kd.C_drew ?_))); (case side4 => exact (Kd.R_reads' HO449.out).2.1); rintro e w' ⟨rfl, ⟨nd, rfl⟩⟩; refine ⟨_, rfl, ?_⟩; have hcz34_0 : w32.cell? ⟨gb446, 0, none⟩ = some (.int .i64 t440) := (blk_cell BK446.out 0).trans rfl; have hcz34_1 : w32.cell? ⟨gb446, 1, none⟩ = some (.int .i64 t441) := (blk_cell BK446.out 1).trans rfl; have hcz34_2 : w32.cell? ⟨gb446, 2, none⟩ = some (.int .i64 t442) := (blk_cell BK446.out 2).trans rfl; have hcz34_3 : w32.cell? ⟨gb446, 3, none⟩ = some (.bool t443) := (blk_cell BK446.out 3).trans rfl; have hcz34_4 : w32.cell? ⟨gb446, 4, none⟩ = some (.string t444) := (blk_cell BK446.out 4).trans rfl; have hcz34_5 : w32.cell? ⟨gb446, 5, none⟩ = some (.int .i64 t445) := (blk_cell BK446.out 5).trans rfl; have hfz34_0 := blk_frozen BK446.out 0; have hfz34_1 := blk_frozen BK446.out 1; have hfz34_2 := blk_frozen BK446.out 2; have hfz34_3 := blk_frozen BK446.out 3; have hfz34_4 := blk_frozen BK446.out 4; have hfz34_5 := blk_frozen BK446.out 5; have hcz35_0 : w32.cell? ⟨gb432, 0, none⟩ = some (.int .i64 a1_0) := (blk_cell BK432.out 0).trans rfl; have hcz35_1 : w32.cell? ⟨gb432, 1, none⟩ = some (.int .i64 a1_1) := (blk_cell BK432.out 1).trans rfl; have hcz35_2 : w32.cell? ⟨gb432, 2, none⟩ = some (.int .i64 a1_2) := (blk_cell BK432.out 2).trans rfl; have hcz35_3 : w32.cell? ⟨gb432, 3, none⟩ = some (.bool a1_3) := (blk_cell BK432.out 3).trans rfl; have hcz35_4 : w32.cell? ⟨gb432, 4, none⟩ = some (.string a1_4) := (blk_cell BK432.out 4).trans rfl; have hcz35_5 : w32.cell? ⟨gb432, 5, none⟩ = some (.int .i64 a1_5) := (blk_cell BK432.out 5).trans rfl; have hfz35_0 := blk_frozen BK432.out 0; have hfz35_1 := blk_frozen BK432.out 1; have hfz35_2 := blk_frozen BK432.out 2; have hfz35_3 := blk_frozen BK432.out 3; have hfz35_4 := blk_frozen BK432.out 4; have hfz35_5 := blk_frozen BK432.out 5))
              go_meet
              case rel => exact ⟨_, ((!(t440 == a1_0) || (!(t441 == a1_1) || (!(t442 == a1_2) || (!(t443 == a1_3) || (!(t444.toList == a1_4.toList) || (!(t445 == a1_5)))))))), (by first | rfl | (simp; done) | (simp [*]; done)), H', ⟨by have := HJ3.out; first | omega | exact Nat.le_refl _⟩, ⟨by (with_reducible repeat (first | apply Kd.R_alloc | apply Kd.R_drewN | apply Kd.R_drew)); exact Kd.R_mono HO438.out (fun _ hk => trivial)⟩, ⟨by (with_reducible repeat (first | refine blk_drewN ?_ _ | refine blk_drew ?_ | refine blk_alloc ?_ _)); exact BK432.out⟩, ⟨by (with_reducible repeat (first | refine blk_drewN ?_ _ | refine blk_drew ?_ | refine blk_alloc ?_ _)); exact BK446.out⟩, ⟨by repeat (first | (with_reducible first | exact HB.out | apply below_alloc | apply pw_below_drewN | apply below_drew1 | refine below_set ?_ GE432.out | refine below_set ?_ GE446.out) | exact HB.out)⟩⟩
            · rw [if_neg c29] at H
              have c29b0 : (t439 == 1) = false := beq_eq_false_iff_ne.mpr c29
              have c29b1 : (t439 != 1) = true := bne_iff_ne.mpr c29
              (first | rw [c29b0] | (simp only [i64_w, i32_w]; rw [c29b0]) | skip)
              have H' := Aside0.mk H
              clear H
              have hnb36 := NB432_446.out
              have hnc36 := NB446_432.out
              have hcz37_0 : w23.cell? ⟨gb432, 0, none⟩ = some (.int .i64 a1_0) := (blk_cell BK432.out 0).trans rfl
              have hcz37_1 : w23.cell? ⟨gb432, 1, none⟩ = some (.int .i64 a1_1) := (blk_cell BK432.out 1).trans rfl
              have hcz37_2 : w23.cell? ⟨gb432, 2, none⟩ = some (.int .i64 a1_2) := (blk_cell BK432.out 2).trans rfl
              have hcz37_3 : w23.cell? ⟨gb432, 3, none⟩ = some (.bool a1_3) := (blk_cell BK432.out 3).trans rfl
              have hcz37_4 : w23.cell? ⟨gb432, 4, none⟩ = some (.string a1_4) := (blk_cell BK432.out 4).trans rfl
              have hcz37_5 : w23.cell? ⟨gb432, 5, none⟩ = some (.int .i64 a1_5) := (blk_cell BK432.out 5).trans rfl
              have hfz37_0 := blk_frozen BK432.out 0
              have hfz37_1 := blk_frozen BK432.out 1
              have hfz37_2 := blk_frozen BK432.out 2
              have hfz37_3 := blk_frozen BK432.out 3
              have hfz37_4 := blk_frozen BK432.out 4
              have hfz37_5 := blk_frozen BK432.out 5
              go_wp2_with (first | ((with_reducible refine gate_callee (f := 54) rfl ?_); refine goesL_ (some 41) rfl rfl Try.func54 (by kernel_rfl) rfl #[.slice A0 l0.length c0, .agg #[.int .i64 a1_0, .int .i64 a1_1, .int .i64 a1_2, .bool a1_3, .string a1_4, .int .i64 a1_5]] rfl (by (try simp only [List.map_toArray, List.map_cons, List.map_nil]); first | done | rfl | (simp only [List.length_drop, List.length_take]; rfl)) ?_; (with_reducible refine (changeoverref22_With.calls kj3 _ _ l0 a1_0 a1_1 a1_2 a1_3 a1_4 a1_5 t447 _ ?side1 ?side2 A26.out).mono ?_); (case side1 => exact Kd.C_below HR0.out (by repeat (first | (with_reducible first | exact HB.out | apply below_alloc | apply pw_below_drewN | apply below_drew1 | refine below_set ?_ GE432.out | refine below_set ?_ GE446.out) | exact HB.out))); (case side2 => exact HC0.out); rintro e w38 ⟨v448, rfl, ho0, hb⟩; refine ⟨_, rfl, ?_⟩; have n0_ := Aside0.mk (Kd.R_elder' (by (with_reducible repeat (first | apply Kd.R_alloc | apply Kd.R_drewN | apply Kd.R_drew)); exact (Kd.R_mono (Kd.R_far (p := ⟨gb446, 5, none⟩) (Kd.R_far (p := ⟨gb446, 4, none⟩) (Kd.R_far (p := ⟨gb446, 3, none⟩) (Kd.R_far (p := ⟨gb446, 2, none⟩) (Kd.R_far (p := ⟨gb446, 1, none⟩) (Kd.R_far (p := ⟨gb446, 0, none⟩) (Kd.R_types HO438.out BK446.out (by decide)) (fun _ hk => hk.2) (.int .i64 t440)) (fun _ hk => hk.2) (.int .i64 t441)) (fun _ hk => hk.2) (.int .i64 t442)) (fun _ hk => hk.2) (.bool t443)) (fun _ hk => hk.2) (.string t444)) (fun _ hk => hk.2) (.int .i64 t445)) (fun _ h_ => h_.1))) (Kd.R_base ho0) hb); have n1_ := Aside0.mk (Kd.R_lower (Kd.R_new' ho0 (Kd.R_lt (by (with_reducible repeat (first | apply Kd.R_alloc | apply Kd.R_drewN | apply Kd.R_drew)); exact (Kd.R_mono (Kd.R_far (p := ⟨gb446, 5, none⟩) (Kd.R_far (p := ⟨gb446, 4, none⟩) (Kd.R_far (p := ⟨gb446, 3, none⟩) (Kd.R_far (p := ⟨gb446, 2, none⟩) (Kd.R_far (p := ⟨gb446, 1, none⟩) (Kd.R_far (p := ⟨gb446, 0, none⟩) (Kd.R_types HO438.out BK446.out (by decide)) (fun _ hk => hk.2) (.int .i64 t440)) (fun _ hk => hk.2) (.int .i64 t441)) (fun _ hk => hk.2) (.int .i64 t442)) (fun _ hk => hk.2) (.bool t443)) (fun _ hk => hk.2) (.string t444)) (fun _ hk => hk.2) (.int .i64 t445)) (fun _ h_ => h_.1))))) (below_size (by repeat (first | (with_reducible first | exact HB.out | apply below_alloc | apply pw_below_drewN | apply below_drew1 | refine below_set ?_ GE432.out | refine below_set ?_ GE446.out) | exact HB.out)))); have n2_ := Aside0.mk (blk_below (g := gb432) (o := .cells #[.int .i64 a1_0, .int .i64 a1_1, .int .i64 a1_2, .bool a1_3, .string a1_4, .int .i64 a1_5] 60 (0, 0)) (by (with_reducible repeat (first | refine blk_drewN ?_ _ | refine blk_drew ?_ | refine blk_alloc ?_ _)); refine blk_far ?_ NB432_446.out _; (with_reducible repeat (first | refine blk_drewN ?_ _ | refine blk_drew ?_ | refine blk_alloc ?_ _)); refine blk_far ?_ NB432_446.out _; (with_reducible repeat (first | refine blk_drewN ?_ _ | refine blk_drew ?_ | refine blk_alloc ?_ _)); refine blk_far ?_ NB432_446.out _; (with_reducible repeat (first | refine blk_drewN ?_ _ | refine blk_drew ?_ | refine blk_alloc ?_ _)); refine blk_far ?_ NB432_446.out _; (with_reducible repeat (first | refine blk_drewN ?_ _ | refine blk_drew ?_ | refine blk_alloc ?_ _)); refine blk_far ?_ NB432_446.out _; (with_reducible repeat (first | refine blk_drewN ?_ _ | refine blk_drew ?_ | refine blk_alloc ?_ _)); refine blk_far ?_ NB432_446.out _; (with_reducible repeat (first | refine blk_drewN ?_ _ | refine blk_drew ?_ | refine blk_alloc ?_ _)); exact BK432.out) hb); have n3_ := Aside0.mk (blk_below (g := gb446) (o := .cells #[.int .i64 t440, .int .i64 t441, .int .i64 t442, .bool t443, .string t444, .int .i64 t445] 60 (0, 0)) (by (with_reducible repeat (first | refine blk_drewN ?_ _ | refine blk_drew ?_ | refine blk_alloc ?_ _)); refine blk_put (cs := #[.int .i64 t440, .int .i64 t441, .int .i64 t442, .bool t443, .string t444, .int .i64 0]) ?_ 5 _ rfl; (with_reducible repeat (first | refine blk_drewN ?_ _ | refine blk_drew ?_ | refine blk_alloc ?_ _)); refine blk_put (cs := #[.int .i64 t440, .int .i64 t441, .int .i64 t442, .bool t443, .string (⟨#[]⟩ : ByteArray), .int .i64 0]) ?_ 4 _ rfl; (with_reducible repeat (first | refine blk_drewN ?_ _ | refine blk_drew ?_ | refine blk_alloc ?_ _)); refine blk_put (cs := #[.int .i64 t440, .int .i64 t441, .int .i64 t442, .bool false, .string (⟨#[]⟩ : ByteArray), .int .i64 0]) ?_ 3 _ rfl; (with_reducible repeat (first | refine blk_drewN ?_ _ | refine blk_drew ?_ | refine blk_alloc ?_ _)); refine blk_put (cs := #[.int .i64 t440, .int .i64 t441, .int .i64 0, .bool false, .string (⟨#[]⟩ : ByteArray), .int .i64 0]) ?_ 2 _ rfl; (with_reducible repeat (first | refine blk_drewN ?_ _ | refine blk_drew ?_ | refine blk_alloc ?_ _)); refine blk_put (cs := #[.int .i64 t440, .int .i64 0, .int .i64 0, .bool false, .string (⟨#[]⟩ : ByteArray), .int .i64 0]) ?_ 1 _ rfl; (with_reducible repeat (first | refine blk_drewN ?_ _ | refine blk_drew ?_ | refine blk_alloc ?_ _)); refine blk_put (cs := #[.int .i64 0, .int .i64 0, .int .i64 0, .bool false, .string (⟨#[]⟩ : ByteArray), .int .i64 0]) ?_ 0 _ rfl; (with_reducible repeat (first | refine blk_drewN ?_ _ | refine blk_drew ?_ | refine blk_alloc ?_ _)); exact BK446.out) hb); have n4_ := Aside0.mk (below_step (by repeat (first | (with_reducible first | exact HB.out | apply below_alloc | apply pw_below_drewN | apply below_drew1 | refine below_set ?_ GE432.out | refine below_set ?_ GE446.out) | exact HB.out)) hb); clear HO438; clear BK432; clear BK446; clear HB; have HO438 := n0_; have HO449 := n1_; have BK432 := n2_; have BK446 := n3_; have HB := n4_; clear n0_ n1_ n2_ n3_ n4_; (try clear hb); (try clear hb2); (try clear hk); (try clear hi); (try clear ho0); obtain ⟨Ao39, co39, eo39⟩ := Kd.R_slice HO449.out; subst eo39) | ((with_reducible refine gate_callee (f := 53) rfl ?_); refine goesL_ (some 42) rfl rfl Try.func53 (by kernel_rfl) rfl #[.slice Ao21 t436.length co21, .slice Ao39 t447.length co39] rfl (by (try simp only [List.map_toArray, List.map_cons, List.map_nil]); first | done | rfl | (simp only [List.length_drop, List.length_take]; rfl)) ?_; (with_reducible refine (changeoverref22_Same.calls kj3 _ _ t436 _ _ t447 true _ ?side1 ?side2 ?side3 ?side4 A27.out).mono ?_); (case side1 => repeat (first | exact (Kd.R_reads' HO438.out).2.2 | (with_reducible refine Kd.C_alloc ?_ _) | (with_reducible refine Kd.C_drewN ?_ _) | (with_reducible refine Kd.C_drew ?_))); (case side2 => exact (Kd.R_reads' HO438.out).2.1); (case side3 => repeat (first | exact (Kd.R_reads' HO449.out).2.2 | (with_reducible refine Kd.C_alloc ?_ _) | (with_reducible refine Kd.C_drewN ?_ _) | (with_reducible refine Kd.C_drew ?_))); (case side4 => exact (Kd.R_reads' HO449.out).2.1); rintro e w' ⟨rfl, ⟨nd, rfl⟩⟩; refine ⟨_, rfl, ?_⟩))
              go_meet
              case rel => exact ⟨_, (true), (by first | rfl | (simp; done) | (simp [*]; done)), H', ⟨by have := HJ3.out; first | omega | exact Nat.le_refl _⟩, ⟨by (with_reducible repeat (first | apply Kd.R_alloc | apply Kd.R_drewN | apply Kd.R_drew)); exact Kd.R_mono HO438.out (fun _ hk => trivial)⟩, ⟨by (with_reducible repeat (first | refine blk_drewN ?_ _ | refine blk_drew ?_ | refine blk_alloc ?_ _)); exact BK432.out⟩, ⟨by (with_reducible repeat (first | refine blk_drewN ?_ _ | refine blk_drew ?_ | refine blk_alloc ?_ _)); exact BK446.out⟩, ⟨by repeat (first | (with_reducible first | exact HB.out | apply below_alloc | apply pw_below_drewN | apply below_drew1 | refine below_set ?_ GE432.out | refine below_set ?_ GE446.out) | exact HB.out)⟩⟩
          · replace c28 := Bool.eq_false_iff.mpr c28
            subst c28
            have H1 : (changeoverlaw22_SessWith.j1 kj3 a2 t436 true a1_0 a1_1 a1_2 a1_3 a1_4 a1_5) = some r := by rw [if_neg (show ¬ (false = true) by decide)] at H; exact H
            clear H
            have H := H1
            clear H1
            have H' := Aside0.mk H
            clear H
            have hnb40 := NB432_446.out
            have hnc40 := NB446_432.out
            have hcz41_0 : w23.cell? ⟨gb432, 0, none⟩ = some (.int .i64 a1_0) := (blk_cell BK432.out 0).trans rfl
            have hcz41_1 : w23.cell? ⟨gb432, 1, none⟩ = some (.int .i64 a1_1) := (blk_cell BK432.out 1).trans rfl
            have hcz41_2 : w23.cell? ⟨gb432, 2, none⟩ = some (.int .i64 a1_2) := (blk_cell BK432.out 2).trans rfl
            have hcz41_3 : w23.cell? ⟨gb432, 3, none⟩ = some (.bool a1_3) := (blk_cell BK432.out 3).trans rfl
            have hcz41_4 : w23.cell? ⟨gb432, 4, none⟩ = some (.string a1_4) := (blk_cell BK432.out 4).trans rfl
            have hcz41_5 : w23.cell? ⟨gb432, 5, none⟩ = some (.int .i64 a1_5) := (blk_cell BK432.out 5).trans rfl
            have hfz41_0 := blk_frozen BK432.out 0
            have hfz41_1 := blk_frozen BK432.out 1
            have hfz41_2 := blk_frozen BK432.out 2
            have hfz41_3 := blk_frozen BK432.out 3
            have hfz41_4 := blk_frozen BK432.out 4
            have hfz41_5 := blk_frozen BK432.out 5
            go_wp2_with (first | ((with_reducible refine gate_callee (f := 54) rfl ?_); refine goesL_ (some 41) rfl rfl Try.func54 (by kernel_rfl) rfl #[.slice A0 l0.length c0, .agg #[.int .i64 a1_0, .int .i64 a1_1, .int .i64 a1_2, .bool a1_3, .string a1_4, .int .i64 a1_5]] rfl (by (try simp only [List.map_toArray, List.map_cons, List.map_nil]); first | done | rfl | (simp only [List.length_drop, List.length_take]; rfl)) ?_; (with_reducible refine (changeoverref22_With.calls kj3 _ _ l0 a1_0 a1_1 a1_2 a1_3 a1_4 a1_5 t447 _ ?side1 ?side2 A26.out).mono ?_); (case side1 => exact Kd.C_below HR0.out (by repeat (first | (with_reducible first | exact HB.out | apply below_alloc | apply pw_below_drewN | apply below_drew1 | refine below_set ?_ GE432.out | refine below_set ?_ GE446.out) | exact HB.out))); (case side2 => exact HC0.out); rintro e w42 ⟨v448, rfl, ho0, hb⟩; refine ⟨_, rfl, ?_⟩; have n0_ := Aside0.mk (Kd.R_elder' (by (with_reducible repeat (first | apply Kd.R_alloc | apply Kd.R_drewN | apply Kd.R_drew)); exact (Kd.R_mono (Kd.R_far (p := ⟨gb446, 5, none⟩) (Kd.R_far (p := ⟨gb446, 4, none⟩) (Kd.R_far (p := ⟨gb446, 3, none⟩) (Kd.R_far (p := ⟨gb446, 2, none⟩) (Kd.R_far (p := ⟨gb446, 1, none⟩) (Kd.R_far (p := ⟨gb446, 0, none⟩) (Kd.R_types HO438.out BK446.out (by decide)) (fun _ hk => hk.2) (.int .i64 t440)) (fun _ hk => hk.2) (.int .i64 t441)) (fun _ hk => hk.2) (.int .i64 t442)) (fun _ hk => hk.2) (.bool t443)) (fun _ hk => hk.2) (.string t444)) (fun _ hk => hk.2) (.int .i64 t445)) (fun _ h_ => h_.1))) (Kd.R_base ho0) hb); have n1_ := Aside0.mk (Kd.R_lower (Kd.R_new' ho0 (Kd.R_lt (by (with_reducible repeat (first | apply Kd.R_alloc | apply Kd.R_drewN | apply Kd.R_drew)); exact (Kd.R_mono (Kd.R_far (p := ⟨gb446, 5, none⟩) (Kd.R_far (p := ⟨gb446, 4, none⟩) (Kd.R_far (p := ⟨gb446, 3, none⟩) (Kd.R_far (p := ⟨gb446, 2, none⟩) (Kd.R_far (p := ⟨gb446, 1, none⟩) (Kd.R_far (p := ⟨gb446, 0, none⟩) (Kd.R_types HO438.out BK446.out (by decide)) (fun _ hk => hk.2) (.int .i64 t440)) (fun _ hk => hk.2) (.int .i64 t441)) (fun _ hk => hk.2) (.int .i64 t442)) (fun _ hk => hk.2) (.bool t443)) (fun _ hk => hk.2) (.string t444)) (fun _ hk => hk.2) (.int .i64 t445)) (fun _ h_ => h_.1))))) (below_size (by repeat (first | (with_reducible first | exact HB.out | apply below_alloc | apply pw_below_drewN | apply below_drew1 | refine below_set ?_ GE432.out | refine below_set ?_ GE446.out) | exact HB.out)))); have n2_ := Aside0.mk (blk_below (g := gb432) (o := .cells #[.int .i64 a1_0, .int .i64 a1_1, .int .i64 a1_2, .bool a1_3, .string a1_4, .int .i64 a1_5] 60 (0, 0)) (by (with_reducible repeat (first | refine blk_drewN ?_ _ | refine blk_drew ?_ | refine blk_alloc ?_ _)); refine blk_far ?_ NB432_446.out _; (with_reducible repeat (first | refine blk_drewN ?_ _ | refine blk_drew ?_ | refine blk_alloc ?_ _)); refine blk_far ?_ NB432_446.out _; (with_reducible repeat (first | refine blk_drewN ?_ _ | refine blk_drew ?_ | refine blk_alloc ?_ _)); refine blk_far ?_ NB432_446.out _; (with_reducible repeat (first | refine blk_drewN ?_ _ | refine blk_drew ?_ | refine blk_alloc ?_ _)); refine blk_far ?_ NB432_446.out _; (with_reducible repeat (first | refine blk_drewN ?_ _ | refine blk_drew ?_ | refine blk_alloc ?_ _)); refine blk_far ?_ NB432_446.out _; (with_reducible repeat (first | refine blk_drewN ?_ _ | refine blk_drew ?_ | refine blk_alloc ?_ _)); refine blk_far ?_ NB432_446.out _; (with_reducible repeat (first | refine blk_drewN ?_ _ | refine blk_drew ?_ | refine blk_alloc ?_ _)); exact BK432.out) hb); have n3_ := Aside0.mk (blk_below (g := gb446) (o := .cells #[.int .i64 t440, .int .i64 t441, .int .i64 t442, .bool t443, .string t444, .int .i64 t445] 60 (0, 0)) (by (with_reducible repeat (first | refine blk_drewN ?_ _ | refine blk_drew ?_ | refine blk_alloc ?_ _)); refine blk_put (cs := #[.int .i64 t440, .int .i64 t441, .int .i64 t442, .bool t443, .string t444, .int .i64 0]) ?_ 5 _ rfl; (with_reducible repeat (first | refine blk_drewN ?_ _ | refine blk_drew ?_ | refine blk_alloc ?_ _)); refine blk_put (cs := #[.int .i64 t440, .int .i64 t441, .int .i64 t442, .bool t443, .string (⟨#[]⟩ : ByteArray), .int .i64 0]) ?_ 4 _ rfl; (with_reducible repeat (first | refine blk_drewN ?_ _ | refine blk_drew ?_ | refine blk_alloc ?_ _)); refine blk_put (cs := #[.int .i64 t440, .int .i64 t441, .int .i64 t442, .bool false, .string (⟨#[]⟩ : ByteArray), .int .i64 0]) ?_ 3 _ rfl; (with_reducible repeat (first | refine blk_drewN ?_ _ | refine blk_drew ?_ | refine blk_alloc ?_ _)); refine blk_put (cs := #[.int .i64 t440, .int .i64 t441, .int .i64 0, .bool false, .string (⟨#[]⟩ : ByteArray), .int .i64 0]) ?_ 2 _ rfl; (with_reducible repeat (first | refine blk_drewN ?_ _ | refine blk_drew ?_ | refine blk_alloc ?_ _)); refine blk_put (cs := #[.int .i64 t440, .int .i64 0, .int .i64 0, .bool false, .string (⟨#[]⟩ : ByteArray), .int .i64 0]) ?_ 1 _ rfl; (with_reducible repeat (first | refine blk_drewN ?_ _ | refine blk_drew ?_ | refine blk_alloc ?_ _)); refine blk_put (cs := #[.int .i64 0, .int .i64 0, .int .i64 0, .bool false, .string (⟨#[]⟩ : ByteArray), .int .i64 0]) ?_ 0 _ rfl; (with_reducible repeat (first | refine blk_drewN ?_ _ | refine blk_drew ?_ | refine blk_alloc ?_ _)); exact BK446.out) hb); have n4_ := Aside0.mk (below_step (by repeat (first | (with_reducible first | exact HB.out | apply below_alloc | apply pw_below_drewN | apply below_drew1 | refine below_set ?_ GE432.out | refine below_set ?_ GE446.out) | exact HB.out)) hb); clear HO438; clear BK432; clear BK446; clear HB; have HO438 := n0_; have HO449 := n1_; have BK432 := n2_; have BK446 := n3_; have HB := n4_; clear n0_ n1_ n2_ n3_ n4_; (try clear hb); (try clear hb2); (try clear hk); (try clear hi); (try clear ho0); obtain ⟨Ao43, co43, eo43⟩ := Kd.R_slice HO449.out; subst eo43) | ((with_reducible refine gate_callee (f := 53) rfl ?_); refine goesL_ (some 42) rfl rfl Try.func53 (by kernel_rfl) rfl #[.slice Ao21 t436.length co21, .slice Ao43 t447.length co43] rfl (by (try simp only [List.map_toArray, List.map_cons, List.map_nil]); first | done | rfl | (simp only [List.length_drop, List.length_take]; rfl)) ?_; (with_reducible refine (changeoverref22_Same.calls kj3 _ _ t436 _ _ t447 false _ ?side1 ?side2 ?side3 ?side4 A27.out).mono ?_); (case side1 => repeat (first | exact (Kd.R_reads' HO438.out).2.2 | (with_reducible refine Kd.C_alloc ?_ _) | (with_reducible refine Kd.C_drewN ?_ _) | (with_reducible refine Kd.C_drew ?_))); (case side2 => exact (Kd.R_reads' HO438.out).2.1); (case side3 => repeat (first | exact (Kd.R_reads' HO449.out).2.2 | (with_reducible refine Kd.C_alloc ?_ _) | (with_reducible refine Kd.C_drewN ?_ _) | (with_reducible refine Kd.C_drew ?_))); (case side4 => exact (Kd.R_reads' HO449.out).2.1); rintro e w' ⟨rfl, ⟨nd, rfl⟩⟩; refine ⟨_, rfl, ?_⟩))
            go_meet
            case rel => exact ⟨_, (true), (by first | rfl | (simp; done) | (simp [*]; done)), H', ⟨by have := HJ3.out; first | omega | exact Nat.le_refl _⟩, ⟨by (with_reducible repeat (first | apply Kd.R_alloc | apply Kd.R_drewN | apply Kd.R_drew)); exact Kd.R_mono HO438.out (fun _ hk => trivial)⟩, ⟨by (with_reducible repeat (first | refine blk_drewN ?_ _ | refine blk_drew ?_ | refine blk_alloc ?_ _)); exact BK432.out⟩, ⟨by (with_reducible repeat (first | refine blk_drewN ?_ _ | refine blk_drew ?_ | refine blk_alloc ?_ _)); exact BK446.out⟩, ⟨by repeat (first | (with_reducible first | exact HB.out | apply below_alloc | apply pw_below_drewN | apply below_drew1 | refine below_set ?_ GE432.out | refine below_set ?_ GE446.out) | exact HB.out)⟩⟩
        case rest =>
          clear HC17
          try clear c1
          try clear c2
          try clear p2
          try clear c3
          try clear c4
          try clear c5
          try clear c7
          try clear c8
          try clear c8b0
          try clear c8b1
          try clear c9
          try clear c12
          try clear c24
          try clear c28
          try clear c29
          try clear c29b0
          try clear c29b1
          try clear c30
          try clear c36
          try clear c40
          try clear hcz11_0
          try clear hcz11_1
          try clear hcz11_2
          try clear hcz11_3
          try clear hcz11_4
          try clear hcz11_5
          try clear hcz18_0
          try clear hcz18_1
          try clear hcz18_2
          try clear hcz18_3
          try clear hcz18_4
          try clear hcz18_5
          try clear hcz20_0
          try clear hcz20_1
          try clear hcz20_2
          try clear hcz20_3
          try clear hcz20_4
          try clear hcz20_5
          try clear hcz25_0
          try clear hcz25_1
          try clear hcz25_2
          try clear hcz25_3
          try clear hcz25_4
          try clear hcz25_5
          try clear hcz31_0
          try clear hcz31_1
          try clear hcz31_2
          try clear hcz31_3
          try clear hcz31_4
          try clear hcz31_5
          try clear hcz34_0
          try clear hcz34_1
          try clear hcz34_2
          try clear hcz34_3
          try clear hcz34_4
          try clear hcz34_5
          try clear hcz35_0
          try clear hcz35_1
          try clear hcz35_2
          try clear hcz35_3
          try clear hcz35_4
          try clear hcz35_5
          try clear hcz37_0
          try clear hcz37_1
          try clear hcz37_2
          try clear hcz37_3
          try clear hcz37_4
          try clear hcz37_5
          try clear hcz41_0
          try clear hcz41_1
          try clear hcz41_2
          try clear hcz41_3
          try clear hcz41_4
          try clear hcz41_5
          try clear hcz9_0
          try clear hcz9_1
          try clear hcz9_2
          try clear hcz9_3
          try clear hcz9_4
          try clear hcz9_5
          try clear hfz11_0
          try clear hfz11_1
          try clear hfz11_2
          try clear hfz11_3
          try clear hfz11_4
          try clear hfz11_5
          try clear hfz18_0
          try clear hfz18_1
          try clear hfz18_2
          try clear hfz18_3
          try clear hfz18_4
          try clear hfz18_5
          try clear hfz20_0
          try clear hfz20_1
          try clear hfz20_2
          try clear hfz20_3
          try clear hfz20_4
          try clear hfz20_5
          try clear hfz25_0
          try clear hfz25_1
          try clear hfz25_2
          try clear hfz25_3
          try clear hfz25_4
          try clear hfz25_5
          try clear hfz31_0
          try clear hfz31_1
          try clear hfz31_2
          try clear hfz31_3
          try clear hfz31_4
          try clear hfz31_5
          try clear hfz34_0
          try clear hfz34_1
          try clear hfz34_2
          try clear hfz34_3
          try clear hfz34_4
          try clear hfz34_5
          try clear hfz35_0
          try clear hfz35_1
          try clear hfz35_2
          try clear hfz35_3
          try clear hfz35_4
          try clear hfz35_5
          try clear hfz37_0
          try clear hfz37_1
          try clear hfz37_2
          try clear hfz37_3
          try clear hfz37_4
          try clear hfz37_5
          try clear hfz41_0
          try clear hfz41_1
          try clear hfz41_2
          try clear hfz41_3
          try clear hfz41_4
          try clear hfz41_5
          try clear hfz9_0
          try clear hfz9_1
          try clear hfz9_2
          try clear hfz9_3
          try clear hfz9_4
          try clear hfz9_5
          try clear p2
          obtain ⟨kq, x52_16, rfl, HA, HJ16, HO_7, BK432, BK446, HB⟩ := hcut
          cases kq with
          | zero => exact absurd HA.out (by simp [changeoverlaw22_SessWith.j1])
          | succ kj16 =>
            have H := HA.out
            clear HA
            simp only [changeoverlaw22_SessWith.j1] at H
            by_cases c44 : x52_16 = true
            · subst c44
              have H1 : (some false) = some r := by rw [if_pos rfl] at H; exact H
              clear H
              have H := H1
              clear H1
              obtain rfl := Option.some.inj H
              go_wp2
              go_ret
              exact ⟨by first | rfl | (simp [errW_none, errW_some] <;> rfl) | (simp [*, errW_none, errW_some] <;> rfl), by repeat (first | (with_reducible first | exact HB.out | apply below_alloc | apply pw_below_drewN | apply below_drew1 | refine below_set ?_ GE432.out | refine below_set ?_ GE446.out) | exact HB.out)⟩
            · replace c44 := Bool.eq_false_iff.mpr c44
              subst c44
              have H1 : (if a1_1 ≥ (-4611686018427387904) then ((sess_Which.f kj16 t436 a1_0 (wrap64 ((wrap64 (a1_1 - 1)) - (wrap64 (a2))))).bind fun bt451 => (if bt451.1 = 2 then ((changeoverlaw22_awake.f kj16).bind fun t459 => (some t459)) else (some false))) else ((changeoverlaw22_awake.f kj16).bind fun t460 => (some t460))) = some r := by rw [if_neg (show ¬ (false = true) by decide)] at H; exact H
              clear H
              have H := H1
              clear H1
              by_cases c45 : a1_1 ≥ (-4611686018427387904)
              · rw [if_pos c45] at H
                have c45b0 : decide ((-4611686018427387904) ≤ a1_1) = true := decide_eq_true c45
                clear c45
                replace H := Option.bind_eq_some_iff.mp H
                obtain ⟨⟨t451, t452, t453, t454, t455, t456, t457⟩, A460, H⟩ := H
                replace H : (if t451 = 2 then ((changeoverlaw22_awake.f kj16).bind fun t459 => (some t459)) else (some false)) = some r := H
                have A46 := Aside0.mk A460
                clear A460
                by_cases c47 : t451 = 2
                · rw [if_pos c47] at H
                  have c47b0 : (t451 == 2) = true := beq_iff_eq.mpr c47
                  have c47b1 : (t451 != 2) = false := bne_eq_false_iff_eq.mpr c47
                  clear c47
                  replace H := Option.bind_eq_some_iff.mp H
                  obtain ⟨t459, A480, H⟩ := H
                  replace H : (some t459) = some r := H
                  have A48 := Aside0.mk A480
                  clear A480
                  obtain rfl := Option.some.inj H
                  have hnb49 := NB432_446.out
                  have hnc49 := NB446_432.out
                  have hcz50_0 : wc.cell? ⟨gb432, 0, none⟩ = some (.int .i64 a1_0) := (blk_cell BK432.out 0).trans rfl
                  have hcz50_1 : wc.cell? ⟨gb432, 1, none⟩ = some (.int .i64 a1_1) := (blk_cell BK432.out 1).trans rfl
                  have hcz50_2 : wc.cell? ⟨gb432, 2, none⟩ = some (.int .i64 a1_2) := (blk_cell BK432.out 2).trans rfl
                  have hcz50_3 : wc.cell? ⟨gb432, 3, none⟩ = some (.bool a1_3) := (blk_cell BK432.out 3).trans rfl
                  have hcz50_4 : wc.cell? ⟨gb432, 4, none⟩ = some (.string a1_4) := (blk_cell BK432.out 4).trans rfl
                  have hcz50_5 : wc.cell? ⟨gb432, 5, none⟩ = some (.int .i64 a1_5) := (blk_cell BK432.out 5).trans rfl
                  have hfz50_0 := blk_frozen BK432.out 0
                  have hfz50_1 := blk_frozen BK432.out 1
                  have hfz50_2 := blk_frozen BK432.out 2
                  have hfz50_3 := blk_frozen BK432.out 3
                  have hfz50_4 := blk_frozen BK432.out 4
                  have hfz50_5 := blk_frozen BK432.out 5
                  go_wp2_with (first | ((with_reducible refine gate_callee (f := 48) rfl ?_); refine goesL_ (some 66) rfl rfl Try.func48 (by kernel_rfl) rfl #[.slice Ao21 t436.length co21, .int .i64 a1_0, .int .i64 (wrap64 ((wrap64 (a1_1 - 1)) - (wrap64 (a2))))] rfl (by (try simp only [List.map_toArray, List.map_cons, List.map_nil]); first | done | rfl | (simp only [List.length_drop, List.length_take]; rfl)) ?_; (with_reducible refine (sess_Which.calls kj16 _ _ t436 a1_0 (wrap64 ((wrap64 (a1_1 - 1)) - (wrap64 (a2)))) t451 t452 t453 t454 t455 t456 t457 _ ?side1 ?side2 A46.out).mono ?_); (case side1 => repeat (first | exact (Kd.R_reads' HO_7.out).2.2 | (with_reducible refine Kd.C_alloc ?_ _) | (with_reducible refine Kd.C_drewN ?_ _) | (with_reducible refine Kd.C_drew ?_))); (case side2 => exact (Kd.R_reads' HO_7.out).2.1); rintro e w51 ⟨rfl, hb⟩; refine ⟨_, rfl, ?_⟩; have n0_ := Aside0.mk (Kd.R_below (by (with_reducible repeat (first | apply Kd.R_alloc | apply Kd.R_drewN | apply Kd.R_drew)); exact HO_7.out) hb); have n1_ := Aside0.mk (blk_below (g := gb432) (o := .cells #[.int .i64 a1_0, .int .i64 a1_1, .int .i64 a1_2, .bool a1_3, .string a1_4, .int .i64 a1_5] 60 (0, 0)) (by (with_reducible repeat (first | refine blk_drewN ?_ _ | refine blk_drew ?_ | refine blk_alloc ?_ _)); exact BK432.out) hb); have n2_ := Aside0.mk (blk_below (g := gb446) (o := .cells #[.int .i64 t440, .int .i64 t441, .int .i64 t442, .bool t443, .string t444, .int .i64 t445] 60 (0, 0)) (by (with_reducible repeat (first | refine blk_drewN ?_ _ | refine blk_drew ?_ | refine blk_alloc ?_ _)); exact BK446.out) hb); have n3_ := Aside0.mk (below_step (by repeat (first | (with_reducible first | exact HB.out | apply below_alloc | apply pw_below_drewN | apply below_drew1 | refine below_set ?_ GE432.out | refine below_set ?_ GE446.out) | exact HB.out)) hb); clear HO_7; clear BK432; clear BK446; clear HB; have HO_7 := n0_; have BK432 := n1_; have BK446 := n2_; have HB := n3_; clear n0_ n1_ n2_ n3_; (try clear hb); (try clear hb2); (try clear hk); (try clear hi)) | ((with_reducible refine gate_dst (N := 11) rfl ?_); (try (refine gate_guard (by rfl) ?_; dsimp only)); refine box_event ?hg (N := 11) ?hd (cs := #[.int .i64 0, .int .i64 0, .int .i64 0, .bool false, .string (⟨#[]⟩ : ByteArray), .int .i64 0]) (t := 60) ?hr ?_; (case hd => rfl); (case hg => rfl); (case hr => first | (go_simp; done) | (go_simp; rfl)); intro gb458 hg w52 hbox hb; have n0_ := Aside0.mk (Kd.R_below (by (with_reducible repeat (first | apply Kd.R_alloc | apply Kd.R_drewN | apply Kd.R_drew)); exact HO_7.out) hb); have n1_ := Aside0.mk (blk_below (g := gb432) (o := .cells #[.int .i64 a1_0, .int .i64 a1_1, .int .i64 a1_2, .bool a1_3, .string a1_4, .int .i64 a1_5] 60 (0, 0)) (by (with_reducible repeat (first | refine blk_drewN ?_ _ | refine blk_drew ?_ | refine blk_alloc ?_ _)); exact BK432.out) hb); have n2_ := Aside0.mk (blk_below (g := gb446) (o := .cells #[.int .i64 t440, .int .i64 t441, .int .i64 t442, .bool t443, .string t444, .int .i64 t445] 60 (0, 0)) (by (with_reducible repeat (first | refine blk_drewN ?_ _ | refine blk_drew ?_ | refine blk_alloc ?_ _)); exact BK446.out) hb); have n3_ := Aside0.mk (below_step (by repeat (first | (with_reducible first | exact HB.out | apply below_alloc | apply pw_below_drewN | apply below_drew1 | refine below_set ?_ GE432.out | refine below_set ?_ GE446.out) | exact HB.out)) hb); have n4_ := Aside0.mk (hbox); have n5_ := Aside0.mk ((by rw [hg]; exact (below_size (by repeat (first | (with_reducible first | exact HB.out | apply below_alloc | apply pw_below_drewN | apply below_drew1 | refine below_set ?_ GE432.out | refine below_set ?_ GE446.out) | exact HB.out))) : w.heap.size ≤ gb458)); have n6_ := Aside0.mk ((by rw [hg]; exact (below_size (by repeat (first | (with_reducible first | exact HB.out | apply below_alloc | apply pw_below_drewN | apply below_drew1 | refine below_set ?_ GE432.out | refine below_set ?_ GE446.out) | exact HB.out))) : w.heap.size ≤ gb458)); have n7_ := Aside0.mk ((by rw [hg]; exact Nat.ne_of_lt (blk_lt (g := gb432) (o := .cells #[.int .i64 a1_0, .int .i64 a1_1, .int .i64 a1_2, .bool a1_3, .string a1_4, .int .i64 a1_5] 60 (0, 0)) (by (with_reducible repeat (first | refine blk_drewN ?_ _ | refine blk_drew ?_ | refine blk_alloc ?_ _)); exact BK432.out)) : gb432 ≠ gb458)); have n8_ := Aside0.mk ((by rw [hg]; exact Nat.ne_of_gt (blk_lt (g := gb432) (o := .cells #[.int .i64 a1_0, .int .i64 a1_1, .int .i64 a1_2, .bool a1_3, .string a1_4, .int .i64 a1_5] 60 (0, 0)) (by (with_reducible repeat (first | refine blk_drewN ?_ _ | refine blk_drew ?_ | refine blk_alloc ?_ _)); exact BK432.out)) : gb458 ≠ gb432)); have n9_ := Aside0.mk ((by rw [hg]; exact Nat.ne_of_lt (blk_lt (g := gb446) (o := .cells #[.int .i64 t440, .int .i64 t441, .int .i64 t442, .bool t443, .string t444, .int .i64 t445] 60 (0, 0)) (by (with_reducible repeat (first | refine blk_drewN ?_ _ | refine blk_drew ?_ | refine blk_alloc ?_ _)); exact BK446.out)) : gb446 ≠ gb458)); have n10_ := Aside0.mk ((by rw [hg]; exact Nat.ne_of_gt (blk_lt (g := gb446) (o := .cells #[.int .i64 t440, .int .i64 t441, .int .i64 t442, .bool t443, .string t444, .int .i64 t445] 60 (0, 0)) (by (with_reducible repeat (first | refine blk_drewN ?_ _ | refine blk_drew ?_ | refine blk_alloc ?_ _)); exact BK446.out)) : gb458 ≠ gb446)); clear HO_7; clear BK432; clear BK446; clear HB; have HO_7 := n0_; have BK432 := n1_; have BK446 := n2_; have HB := n3_; have BK458 := n4_; have GW458 := n5_; have GE458 := n6_; have NB432_458 := n7_; have NB458_432 := n8_; have NB446_458 := n9_; have NB458_446 := n10_; clear n0_ n1_ n2_ n3_ n4_ n5_ n6_ n7_ n8_ n9_ n10_; clear hb hbox hg; have hnb53 := NB458_432.out; have hnc53 := NB432_458.out; have hnb54 := NB458_446.out; have hnc54 := NB446_458.out; have hcz55_0 : w52.cell? ⟨gb458, 0, none⟩ = some (.int .i64 0) := (blk_cell BK458.out 0).trans rfl; have hcz55_1 : w52.cell? ⟨gb458, 1, none⟩ = some (.int .i64 0) := (blk_cell BK458.out 1).trans rfl; have hcz55_2 : w52.cell? ⟨gb458, 2, none⟩ = some (.int .i64 0) := (blk_cell BK458.out 2).trans rfl; have hcz55_3 : w52.cell? ⟨gb458, 3, none⟩ = some (.bool false) := (blk_cell BK458.out 3).trans rfl; have hcz55_4 : w52.cell? ⟨gb458, 4, none⟩ = some (.string (⟨#[]⟩ : ByteArray)) := (blk_cell BK458.out 4).trans rfl; have hcz55_5 : w52.cell? ⟨gb458, 5, none⟩ = some (.int .i64 0) := (blk_cell BK458.out 5).trans rfl; have hfz55_0 := blk_frozen BK458.out 0; have hfz55_1 := blk_frozen BK458.out 1; have hfz55_2 := blk_frozen BK458.out 2; have hfz55_3 := blk_frozen BK458.out 3; have hfz55_4 := blk_frozen BK458.out 4; have hfz55_5 := blk_frozen BK458.out 5) | ((with_reducible refine gate_callee (f := 47) rfl ?_); refine goesL_ (some 71) rfl rfl Try.func47 (by kernel_rfl) rfl #[] rfl (by (try simp only [List.map_toArray, List.map_cons, List.map_nil]); first | done | rfl | (simp only [List.length_drop, List.length_take]; rfl)) ?_; (with_reducible refine (changeoverlaw22_awake.calls kj16  t459 _ A48.out).mono ?_); rintro e w56 ⟨rfl, hb⟩; refine ⟨_, rfl, ?_⟩; have n0_ := Aside0.mk (Kd.R_below (by (with_reducible repeat (first | apply Kd.R_alloc | apply Kd.R_drewN | apply Kd.R_drew)); exact (Kd.R_mono (Kd.R_far (p := ⟨gb458, 5, none⟩) (Kd.R_far (p := ⟨gb458, 4, none⟩) (Kd.R_far (p := ⟨gb458, 3, none⟩) (Kd.R_far (p := ⟨gb458, 2, none⟩) (Kd.R_far (p := ⟨gb458, 1, none⟩) (Kd.R_far (p := ⟨gb458, 0, none⟩) (Kd.R_types HO_7.out BK458.out (by decide)) (fun _ hk => hk.2) (.int .i64 t452)) (fun _ hk => hk.2) (.int .i64 t453)) (fun _ hk => hk.2) (.int .i64 t454)) (fun _ hk => hk.2) (.bool t455)) (fun _ hk => hk.2) (.string t456)) (fun _ hk => hk.2) (.int .i64 t457)) (fun _ h_ => h_.1))) hb); have n1_ := Aside0.mk (blk_below (g := gb432) (o := .cells #[.int .i64 a1_0, .int .i64 a1_1, .int .i64 a1_2, .bool a1_3, .string a1_4, .int .i64 a1_5] 60 (0, 0)) (by (with_reducible repeat (first | refine blk_drewN ?_ _ | refine blk_drew ?_ | refine blk_alloc ?_ _)); refine blk_far ?_ NB432_458.out _; (with_reducible repeat (first | refine blk_drewN ?_ _ | refine blk_drew ?_ | refine blk_alloc ?_ _)); refine blk_far ?_ NB432_458.out _; (with_reducible repeat (first | refine blk_drewN ?_ _ | refine blk_drew ?_ | refine blk_alloc ?_ _)); refine blk_far ?_ NB432_458.out _; (with_reducible repeat (first | refine blk_drewN ?_ _ | refine blk_drew ?_ | refine blk_alloc ?_ _)); refine blk_far ?_ NB432_458.out _; (with_reducible repeat (first | refine blk_drewN ?_ _ | refine blk_drew ?_ | refine blk_alloc ?_ _)); refine blk_far ?_ NB432_458.out _; (with_reducible repeat (first | refine blk_drewN ?_ _ | refine blk_drew ?_ | refine blk_alloc ?_ _)); refine blk_far ?_ NB432_458.out _; (with_reducible repeat (first | refine blk_drewN ?_ _ | refine blk_drew ?_ | refine blk_alloc ?_ _)); exact BK432.out) hb); have n2_ := Aside0.mk (blk_below (g := gb446) (o := .cells #[.int .i64 t440, .int .i64 t441, .int .i64 t442, .bool t443, .string t444, .int .i64 t445] 60 (0, 0)) (by (with_reducible repeat (first | refine blk_drewN ?_ _ | refine blk_drew ?_ | refine blk_alloc ?_ _)); refine blk_far ?_ NB446_458.out _; (with_reducible repeat (first | refine blk_drewN ?_ _ | refine blk_drew ?_ | refine blk_alloc ?_ _)); refine blk_far ?_ NB446_458.out _; (with_reducible repeat (first | refine blk_drewN ?_ _ | refine blk_drew ?_ | refine blk_alloc ?_ _)); refine blk_far ?_ NB446_458.out _; (with_reducible repeat (first | refine blk_drewN ?_ _ | refine blk_drew ?_ | refine blk_alloc ?_ _)); refine blk_far ?_ NB446_458.out _; (with_reducible repeat (first | refine blk_drewN ?_ _ | refine blk_drew ?_ | refine blk_alloc ?_ _)); refine blk_far ?_ NB446_458.out _; (with_reducible repeat (first | refine blk_drewN ?_ _ | refine blk_drew ?_ | refine blk_alloc ?_ _)); refine blk_far ?_ NB446_458.out _; (with_reducible repeat (first | refine blk_drewN ?_ _ | refine blk_drew ?_ | refine blk_alloc ?_ _)); exact BK446.out) hb); have n3_ := Aside0.mk (blk_below (g := gb458) (o := .cells #[.int .i64 t452, .int .i64 t453, .int .i64 t454, .bool t455, .string t456, .int .i64 t457] 60 (0, 0)) (by (with_reducible repeat (first | refine blk_drewN ?_ _ | refine blk_drew ?_ | refine blk_alloc ?_ _)); refine blk_put (cs := #[.int .i64 t452, .int .i64 t453, .int .i64 t454, .bool t455, .string t456, .int .i64 0]) ?_ 5 _ rfl; (with_reducible repeat (first | refine blk_drewN ?_ _ | refine blk_drew ?_ | refine blk_alloc ?_ _)); refine blk_put (cs := #[.int .i64 t452, .int .i64 t453, .int .i64 t454, .bool t455, .string (⟨#[]⟩ : ByteArray), .int .i64 0]) ?_ 4 _ rfl; (with_reducible repeat (first | refine blk_drewN ?_ _ | refine blk_drew ?_ | refine blk_alloc ?_ _)); refine blk_put (cs := #[.int .i64 t452, .int .i64 t453, .int .i64 t454, .bool false, .string (⟨#[]⟩ : ByteArray), .int .i64 0]) ?_ 3 _ rfl; (with_reducible repeat (first | refine blk_drewN ?_ _ | refine blk_drew ?_ | refine blk_alloc ?_ _)); refine blk_put (cs := #[.int .i64 t452, .int .i64 t453, .int .i64 0, .bool false, .string (⟨#[]⟩ : ByteArray), .int .i64 0]) ?_ 2 _ rfl; (with_reducible repeat (first | refine blk_drewN ?_ _ | refine blk_drew ?_ | refine blk_alloc ?_ _)); refine blk_put (cs := #[.int .i64 t452, .int .i64 0, .int .i64 0, .bool false, .string (⟨#[]⟩ : ByteArray), .int .i64 0]) ?_ 1 _ rfl; (with_reducible repeat (first | refine blk_drewN ?_ _ | refine blk_drew ?_ | refine blk_alloc ?_ _)); refine blk_put (cs := #[.int .i64 0, .int .i64 0, .int .i64 0, .bool false, .string (⟨#[]⟩ : ByteArray), .int .i64 0]) ?_ 0 _ rfl; (with_reducible repeat (first | refine blk_drewN ?_ _ | refine blk_drew ?_ | refine blk_alloc ?_ _)); exact BK458.out) hb); have n4_ := Aside0.mk (below_step (by repeat (first | (with_reducible first | exact HB.out | apply below_alloc | apply pw_below_drewN | apply below_drew1 | refine below_set ?_ GE432.out | refine below_set ?_ GE446.out | refine below_set ?_ GE458.out) | exact HB.out)) hb); clear HO_7; clear BK432; clear BK446; clear BK458; clear HB; have HO_7 := n0_; have BK432 := n1_; have BK446 := n2_; have BK458 := n3_; have HB := n4_; clear n0_ n1_ n2_ n3_ n4_; (try clear hb); (try clear hb2); (try clear hk); (try clear hi)))
                  go_ret
                  exact ⟨by first | rfl | (simp [errW_none, errW_some] <;> rfl) | (simp [*, errW_none, errW_some] <;> rfl), by repeat (first | (with_reducible first | exact HB.out | apply below_alloc | apply pw_below_drewN | apply below_drew1 | refine below_set ?_ GE432.out | refine below_set ?_ GE446.out | refine below_set ?_ GE458.out) | exact HB.out)⟩
                · rw [if_neg c47] at H
                  have c47b0 : (t451 == 2) = false := beq_eq_false_iff_ne.mpr c47
                  have c47b1 : (t451 != 2) = true := bne_iff_ne.mpr c47
                  obtain rfl := Option.some.inj H
                  have hnb57 := NB432_446.out
                  have hnc57 := NB446_432.out
                  have hcz58_0 : wc.cell? ⟨gb432, 0, none⟩ = some (.int .i64 a1_0) := (blk_cell BK432.out 0).trans rfl
                  have hcz58_1 : wc.cell? ⟨gb432, 1, none⟩ = some (.int .i64 a1_1) := (blk_cell BK432.out 1).trans rfl
                  have hcz58_2 : wc.cell? ⟨gb432, 2, none⟩ = some (.int .i64 a1_2) := (blk_cell BK432.out 2).trans rfl
                  have hcz58_3 : wc.cell? ⟨gb432, 3, none⟩ = some (.bool a1_3) := (blk_cell BK432.out 3).trans rfl
                  have hcz58_4 : wc.cell? ⟨gb432, 4, none⟩ = some (.string a1_4) := (blk_cell BK432.out 4).trans rfl
                  have hcz58_5 : wc.cell? ⟨gb432, 5, none⟩ = some (.int .i64 a1_5) := (blk_cell BK432.out 5).trans rfl
                  have hfz58_0 := blk_frozen BK432.out 0
                  have hfz58_1 := blk_frozen BK432.out 1
                  have hfz58_2 := blk_frozen BK432.out 2
                  have hfz58_3 := blk_frozen BK432.out 3
                  have hfz58_4 := blk_frozen BK432.out 4
                  have hfz58_5 := blk_frozen BK432.out 5
                  go_wp2_with (first | ((with_reducible refine gate_callee (f := 48) rfl ?_); refine goesL_ (some 66) rfl rfl Try.func48 (by kernel_rfl) rfl #[.slice Ao21 t436.length co21, .int .i64 a1_0, .int .i64 (wrap64 ((wrap64 (a1_1 - 1)) - (wrap64 (a2))))] rfl (by (try simp only [List.map_toArray, List.map_cons, List.map_nil]); first | done | rfl | (simp only [List.length_drop, List.length_take]; rfl)) ?_; (with_reducible refine (sess_Which.calls kj16 _ _ t436 a1_0 (wrap64 ((wrap64 (a1_1 - 1)) - (wrap64 (a2)))) t451 t452 t453 t454 t455 t456 t457 _ ?side1 ?side2 A46.out).mono ?_); (case side1 => repeat (first | exact (Kd.R_reads' HO_7.out).2.2 | (with_reducible refine Kd.C_alloc ?_ _) | (with_reducible refine Kd.C_drewN ?_ _) | (with_reducible refine Kd.C_drew ?_))); (case side2 => exact (Kd.R_reads' HO_7.out).2.1); rintro e w59 ⟨rfl, hb⟩; refine ⟨_, rfl, ?_⟩; have n0_ := Aside0.mk (Kd.R_below (by (with_reducible repeat (first | apply Kd.R_alloc | apply Kd.R_drewN | apply Kd.R_drew)); exact HO_7.out) hb); have n1_ := Aside0.mk (blk_below (g := gb432) (o := .cells #[.int .i64 a1_0, .int .i64 a1_1, .int .i64 a1_2, .bool a1_3, .string a1_4, .int .i64 a1_5] 60 (0, 0)) (by (with_reducible repeat (first | refine blk_drewN ?_ _ | refine blk_drew ?_ | refine blk_alloc ?_ _)); exact BK432.out) hb); have n2_ := Aside0.mk (blk_below (g := gb446) (o := .cells #[.int .i64 t440, .int .i64 t441, .int .i64 t442, .bool t443, .string t444, .int .i64 t445] 60 (0, 0)) (by (with_reducible repeat (first | refine blk_drewN ?_ _ | refine blk_drew ?_ | refine blk_alloc ?_ _)); exact BK446.out) hb); have n3_ := Aside0.mk (below_step (by repeat (first | (with_reducible first | exact HB.out | apply below_alloc | apply pw_below_drewN | apply below_drew1 | refine below_set ?_ GE432.out | refine below_set ?_ GE446.out) | exact HB.out)) hb); clear HO_7; clear BK432; clear BK446; clear HB; have HO_7 := n0_; have BK432 := n1_; have BK446 := n2_; have HB := n3_; clear n0_ n1_ n2_ n3_; (try clear hb); (try clear hb2); (try clear hk); (try clear hi)) | ((with_reducible refine gate_dst (N := 11) rfl ?_); (try (refine gate_guard (by rfl) ?_; dsimp only)); refine box_event ?hg (N := 11) ?hd (cs := #[.int .i64 0, .int .i64 0, .int .i64 0, .bool false, .string (⟨#[]⟩ : ByteArray), .int .i64 0]) (t := 60) ?hr ?_; (case hd => rfl); (case hg => rfl); (case hr => first | (go_simp; done) | (go_simp; rfl)); intro gb458 hg w60 hbox hb; have n0_ := Aside0.mk (Kd.R_below (by (with_reducible repeat (first | apply Kd.R_alloc | apply Kd.R_drewN | apply Kd.R_drew)); exact HO_7.out) hb); have n1_ := Aside0.mk (blk_below (g := gb432) (o := .cells #[.int .i64 a1_0, .int .i64 a1_1, .int .i64 a1_2, .bool a1_3, .string a1_4, .int .i64 a1_5] 60 (0, 0)) (by (with_reducible repeat (first | refine blk_drewN ?_ _ | refine blk_drew ?_ | refine blk_alloc ?_ _)); exact BK432.out) hb); have n2_ := Aside0.mk (blk_below (g := gb446) (o := .cells #[.int .i64 t440, .int .i64 t441, .int .i64 t442, .bool t443, .string t444, .int .i64 t445] 60 (0, 0)) (by (with_reducible repeat (first | refine blk_drewN ?_ _ | refine blk_drew ?_ | refine blk_alloc ?_ _)); exact BK446.out) hb); have n3_ := Aside0.mk (below_step (by repeat (first | (with_reducible first | exact HB.out | apply below_alloc | apply pw_below_drewN | apply below_drew1 | refine below_set ?_ GE432.out | refine below_set ?_ GE446.out) | exact HB.out)) hb); have n4_ := Aside0.mk (hbox); have n5_ := Aside0.mk ((by rw [hg]; exact (below_size (by repeat (first | (with_reducible first | exact HB.out | apply below_alloc | apply pw_below_drewN | apply below_drew1 | refine below_set ?_ GE432.out | refine below_set ?_ GE446.out) | exact HB.out))) : w.heap.size ≤ gb458)); have n6_ := Aside0.mk ((by rw [hg]; exact (below_size (by repeat (first | (with_reducible first | exact HB.out | apply below_alloc | apply pw_below_drewN | apply below_drew1 | refine below_set ?_ GE432.out | refine below_set ?_ GE446.out) | exact HB.out))) : w.heap.size ≤ gb458)); have n7_ := Aside0.mk ((by rw [hg]; exact Nat.ne_of_lt (blk_lt (g := gb432) (o := .cells #[.int .i64 a1_0, .int .i64 a1_1, .int .i64 a1_2, .bool a1_3, .string a1_4, .int .i64 a1_5] 60 (0, 0)) (by (with_reducible repeat (first | refine blk_drewN ?_ _ | refine blk_drew ?_ | refine blk_alloc ?_ _)); exact BK432.out)) : gb432 ≠ gb458)); have n8_ := Aside0.mk ((by rw [hg]; exact Nat.ne_of_gt (blk_lt (g := gb432) (o := .cells #[.int .i64 a1_0, .int .i64 a1_1, .int .i64 a1_2, .bool a1_3, .string a1_4, .int .i64 a1_5] 60 (0, 0)) (by (with_reducible repeat (first | refine blk_drewN ?_ _ | refine blk_drew ?_ | refine blk_alloc ?_ _)); exact BK432.out)) : gb458 ≠ gb432)); have n9_ := Aside0.mk ((by rw [hg]; exact Nat.ne_of_lt (blk_lt (g := gb446) (o := .cells #[.int .i64 t440, .int .i64 t441, .int .i64 t442, .bool t443, .string t444, .int .i64 t445] 60 (0, 0)) (by (with_reducible repeat (first | refine blk_drewN ?_ _ | refine blk_drew ?_ | refine blk_alloc ?_ _)); exact BK446.out)) : gb446 ≠ gb458)); have n10_ := Aside0.mk ((by rw [hg]; exact Nat.ne_of_gt (blk_lt (g := gb446) (o := .cells #[.int .i64 t440, .int .i64 t441, .int .i64 t442, .bool t443, .string t444, .int .i64 t445] 60 (0, 0)) (by (with_reducible repeat (first | refine blk_drewN ?_ _ | refine blk_drew ?_ | refine blk_alloc ?_ _)); exact BK446.out)) : gb458 ≠ gb446)); clear HO_7; clear BK432; clear BK446; clear HB; have HO_7 := n0_; have BK432 := n1_; have BK446 := n2_; have HB := n3_; have BK458 := n4_; have GW458 := n5_; have GE458 := n6_; have NB432_458 := n7_; have NB458_432 := n8_; have NB446_458 := n9_; have NB458_446 := n10_; clear n0_ n1_ n2_ n3_ n4_ n5_ n6_ n7_ n8_ n9_ n10_; clear hb hbox hg; have hnb61 := NB458_432.out; have hnc61 := NB432_458.out; have hnb62 := NB458_446.out; have hnc62 := NB446_458.out; have hcz63_0 : w60.cell? ⟨gb458, 0, none⟩ = some (.int .i64 0) := (blk_cell BK458.out 0).trans rfl; have hcz63_1 : w60.cell? ⟨gb458, 1, none⟩ = some (.int .i64 0) := (blk_cell BK458.out 1).trans rfl; have hcz63_2 : w60.cell? ⟨gb458, 2, none⟩ = some (.int .i64 0) := (blk_cell BK458.out 2).trans rfl; have hcz63_3 : w60.cell? ⟨gb458, 3, none⟩ = some (.bool false) := (blk_cell BK458.out 3).trans rfl; have hcz63_4 : w60.cell? ⟨gb458, 4, none⟩ = some (.string (⟨#[]⟩ : ByteArray)) := (blk_cell BK458.out 4).trans rfl; have hcz63_5 : w60.cell? ⟨gb458, 5, none⟩ = some (.int .i64 0) := (blk_cell BK458.out 5).trans rfl; have hfz63_0 := blk_frozen BK458.out 0; have hfz63_1 := blk_frozen BK458.out 1; have hfz63_2 := blk_frozen BK458.out 2; have hfz63_3 := blk_frozen BK458.out 3; have hfz63_4 := blk_frozen BK458.out 4; have hfz63_5 := blk_frozen BK458.out 5))
                  go_ret
                  exact ⟨by first | rfl | (simp [errW_none, errW_some] <;> rfl) | (simp [*, errW_none, errW_some] <;> rfl), by repeat (first | (with_reducible first | exact HB.out | apply below_alloc | apply pw_below_drewN | apply below_drew1 | refine below_set ?_ GE432.out | refine below_set ?_ GE446.out | refine below_set ?_ GE458.out) | exact HB.out)⟩
              · rw [if_neg c45] at H
                have c45b0 : decide ((-4611686018427387904) ≤ a1_1) = false := decide_eq_false c45
                clear c45
                replace H := Option.bind_eq_some_iff.mp H
                obtain ⟨t460, A640, H⟩ := H
                replace H : (some t460) = some r := H
                have A64 := Aside0.mk A640
                clear A640
                obtain rfl := Option.some.inj H
                have hnb65 := NB432_446.out
                have hnc65 := NB446_432.out
                have hcz66_0 : wc.cell? ⟨gb432, 0, none⟩ = some (.int .i64 a1_0) := (blk_cell BK432.out 0).trans rfl
                have hcz66_1 : wc.cell? ⟨gb432, 1, none⟩ = some (.int .i64 a1_1) := (blk_cell BK432.out 1).trans rfl
                have hcz66_2 : wc.cell? ⟨gb432, 2, none⟩ = some (.int .i64 a1_2) := (blk_cell BK432.out 2).trans rfl
                have hcz66_3 : wc.cell? ⟨gb432, 3, none⟩ = some (.bool a1_3) := (blk_cell BK432.out 3).trans rfl
                have hcz66_4 : wc.cell? ⟨gb432, 4, none⟩ = some (.string a1_4) := (blk_cell BK432.out 4).trans rfl
                have hcz66_5 : wc.cell? ⟨gb432, 5, none⟩ = some (.int .i64 a1_5) := (blk_cell BK432.out 5).trans rfl
                have hfz66_0 := blk_frozen BK432.out 0
                have hfz66_1 := blk_frozen BK432.out 1
                have hfz66_2 := blk_frozen BK432.out 2
                have hfz66_3 := blk_frozen BK432.out 3
                have hfz66_4 := blk_frozen BK432.out 4
                have hfz66_5 := blk_frozen BK432.out 5
                go_wp2_with (first | ((with_reducible refine gate_callee (f := 47) rfl ?_); refine goesL_ (some 71) rfl rfl Try.func47 (by kernel_rfl) rfl #[] rfl (by (try simp only [List.map_toArray, List.map_cons, List.map_nil]); first | done | rfl | (simp only [List.length_drop, List.length_take]; rfl)) ?_; (with_reducible refine (changeoverlaw22_awake.calls kj16  t460 _ A64.out).mono ?_); rintro e w67 ⟨rfl, hb⟩; refine ⟨_, rfl, ?_⟩; have n0_ := Aside0.mk (Kd.R_below (by (with_reducible repeat (first | apply Kd.R_alloc | apply Kd.R_drewN | apply Kd.R_drew)); exact HO_7.out) hb); have n1_ := Aside0.mk (blk_below (g := gb432) (o := .cells #[.int .i64 a1_0, .int .i64 a1_1, .int .i64 a1_2, .bool a1_3, .string a1_4, .int .i64 a1_5] 60 (0, 0)) (by (with_reducible repeat (first | refine blk_drewN ?_ _ | refine blk_drew ?_ | refine blk_alloc ?_ _)); exact BK432.out) hb); have n2_ := Aside0.mk (blk_below (g := gb446) (o := .cells #[.int .i64 t440, .int .i64 t441, .int .i64 t442, .bool t443, .string t444, .int .i64 t445] 60 (0, 0)) (by (with_reducible repeat (first | refine blk_drewN ?_ _ | refine blk_drew ?_ | refine blk_alloc ?_ _)); exact BK446.out) hb); have n3_ := Aside0.mk (below_step (by repeat (first | (with_reducible first | exact HB.out | apply below_alloc | apply pw_below_drewN | apply below_drew1 | refine below_set ?_ GE432.out | refine below_set ?_ GE446.out) | exact HB.out)) hb); clear HO_7; clear BK432; clear BK446; clear HB; have HO_7 := n0_; have BK432 := n1_; have BK446 := n2_; have HB := n3_; clear n0_ n1_ n2_ n3_; (try clear hb); (try clear hb2); (try clear hk); (try clear hi)))
                go_ret
                exact ⟨by first | rfl | (simp [errW_none, errW_some] <;> rfl) | (simp [*, errW_none, errW_some] <;> rfl), by repeat (first | (with_reducible first | exact HB.out | apply below_alloc | apply pw_below_drewN | apply below_drew1 | refine below_set ?_ GE432.out | refine below_set ?_ GE446.out) | exact HB.out)⟩

end Go.Proofs.Ytalpmbeddldfoaa.PA
