-- A text that a program wrote for this claim (print.py over stand-in bodies, tool/pr.sh).
import Derived.Test.YtalpmbeddldfoaaF0
import Derived.Test.YtalpmbeddldfoaaFKvoneFind
import Derived.Test.YtalpmbeddldfoaaFApiPair95
import Derived.Test.YtalpmbeddldfoaaFKvoneDo
import Derived.Test.YtalpmbeddldfoaaFKvtwoSet
import Derived.Test.YtalpmbeddldfoaaFKvtwoNext
import Derived.Test.YtalpmbeddldfoaaFKvtwoCas
namespace Go.Proofs.Ytalpmbeddldfoaa.PA
open Go.RowKit Go.Proofs.Ytalpmbeddldfoaa.Hand Go.Proofs.YtalpmbeddldfoaaW.PrintWords Go.Proofs.YtalpmbeddldfoaaW.PrintLast Go.Proofs.YtalpmbeddldfoaaW.PrintMore
attribute [local go_sem] max2_int min2_int max_two min_two max_three min_three max_four min_four   -- for this text's walks alone
attribute [local go_sem high] str_leq str_gtr str_geq
set_option linter.unusedVariables false
set_option linter.unusedSimpArgs false

/-! ### kvtwo_Do: function 64 -/
def kvtwo_Do.j0 : Nat → List (S78) → Bool → Int → Int → Int → ByteArray → ByteArray → ByteArray → Int → ByteArray → ByteArray → Int → Int → Int → Int → Bool → ByteArray → Int → Option ((List (S78)) × Int × Int × Int × Bool × ByteArray × Int)
  | 0, _, _, _, _, _, _, _, _, _, _, _, _, _, _, _, _, _, _ => none
  | k + 1, x9, x41, x656000, x656001, x656002, x656003, x656004, x656005, x656006, x674000, x674001, x674002, x684000, x684001, x684002, x684003, x684004, x684005 => if x41 = true then ((kvtwo_next.f x674002).bind fun t684 => ((kvtwo_set.f k x9 x656003 x656004 t684).bind fun t685 => (some (t685, x684000, x684001, x684002, x684003, x684004, x684005)))) else (some (x9, x684000, x684001, x684002, x684003, x684004, x684005))
def kvtwo_Do.f (k : Nat) (l0 : List (S78)) (a1_0 : Int) (a1_1 : Int) (a1_2 : Int) (a1_3 : ByteArray) (a1_4 : ByteArray) (a1_5 : ByteArray) (a1_6 : Int) : Option ((List (S78)) × Int × Int × Int × Bool × ByteArray × Int) := (api_Pair_95.f l0).bind fun t657 => (if a1_0 = 5 then ((kvtwo_cas.f k t657 a1_0 a1_1 a1_2 a1_3 a1_4 a1_5 a1_6).bind fun bt660 => (some (bt660.1, bt660.2.1, bt660.2.2.1, bt660.2.2.2.1, bt660.2.2.2.2.1, bt660.2.2.2.2.2.1, bt660.2.2.2.2.2.2))) else ((kvone_Find.f k t657 a1_3).bind fun bt669 => ((kvone_Do.f k t657 a1_0 a1_1 a1_2 a1_3 a1_4 a1_5 a1_6).bind fun bt674 => (if a1_0 = 2 then (kvtwo_Do.j0 k bt674.1 (bt674.2.2.2.1 == 0) a1_0 a1_1 a1_2 a1_3 a1_4 a1_5 a1_6 bt669.1 bt669.2.1 bt669.2.2.1 bt674.2.1 bt674.2.2.1 bt674.2.2.2.1 bt674.2.2.2.2.1 bt674.2.2.2.2.2.1 bt674.2.2.2.2.2.2) else (kvtwo_Do.j0 k bt674.1 false a1_0 a1_1 a1_2 a1_3 a1_4 a1_5 a1_6 bt669.1 bt669.2.1 bt669.2.2.1 bt674.2.1 bt674.2.2.1 bt674.2.2.2.1 bt674.2.2.2.2.1 bt674.2.2.2.2.2.1 bt674.2.2.2.2.2.2)))))
theorem kvtwo_Do.mono_l : ∀ k, (∀ y0 y1 y2 y3 y4 y5 y6 y7 y8 y9 y10 y11 y12 y13 y14 y15 y16 y17, LeO (kvtwo_Do.j0 k y0 y1 y2 y3 y4 y5 y6 y7 y8 y9 y10 y11 y12 y13 y14 y15 y16 y17) (kvtwo_Do.j0 (k + 1) y0 y1 y2 y3 y4 y5 y6 y7 y8 y9 y10 y11 y12 y13 y14 y15 y16 y17))
  | 0 => fun _ _ _ _ _ _ _ _ _ _ _ _ _ _ _ _ _ _ r h => by simp [kvtwo_Do.j0] at h
  | k + 1 => by
    have ih0 := kvtwo_Do.mono_l k
    · intro y0 y1 y2 y3 y4 y5 y6 y7 y8 y9 y10 y11 y12 y13 y14 y15 y16 y17
      unfold kvtwo_Do.j0
      repeat' first
      | (with_reducible exact ih0 _ _ _ _ _ _ _ _ _ _ _ _ _ _ _ _ _ _)
      | (with_reducible exact kvone_Do.mono _ _ _ _ _ _ _ _ _)
      | (with_reducible exact kvone_Find.mono _ _ _)
      | (with_reducible exact kvtwo_cas.mono _ _ _ _ _ _ _ _ _)
      | (with_reducible exact kvtwo_set.mono _ _ _ _ _)
      | (with_reducible exact LeO.refl _)
      | (with_reducible exact LeO.none _)
      | (with_reducible refine LeO.ite ?_ ?_)
      | (with_reducible refine LeO.bind ?_ (fun _ => ?_))
      | exact ih0 _ _ _ _ _ _ _ _ _ _ _ _ _ _ _ _ _ _
      | exact kvone_Do.mono _ _ _ _ _ _ _ _ _
      | exact kvone_Find.mono _ _ _
      | exact kvtwo_cas.mono _ _ _ _ _ _ _ _ _
      | exact kvtwo_set.mono _ _ _ _ _
      | exact LeO.none _
      | refine LeO.ite ?_ ?_
      | refine LeO.bind ?_ (fun _ => ?_)
theorem kvtwo_Do.mono : ∀ a0 a1 a2 a3 a4 a5 a6 a7 k, LeO (kvtwo_Do.f k a0 a1 a2 a3 a4 a5 a6 a7) (kvtwo_Do.f (k + 1) a0 a1 a2 a3 a4 a5 a6 a7) := by
  intro a0 a1 a2 a3 a4 a5 a6 a7 k
  have ih0 := kvtwo_Do.mono_l k
  unfold kvtwo_Do.f
  repeat' first
      | (with_reducible exact ih0 _ _ _ _ _ _ _ _ _ _ _ _ _ _ _ _ _ _)
      | (with_reducible exact kvone_Do.mono _ _ _ _ _ _ _ _ _)
      | (with_reducible exact kvone_Find.mono _ _ _)
      | (with_reducible exact kvtwo_cas.mono _ _ _ _ _ _ _ _ _)
      | (with_reducible exact kvtwo_set.mono _ _ _ _ _)
      | (with_reducible exact LeO.refl _)
      | (with_reducible exact LeO.none _)
      | (with_reducible refine LeO.ite ?_ ?_)
      | (with_reducible refine LeO.bind ?_ (fun _ => ?_))
      | exact ih0 _ _ _ _ _ _ _ _ _ _ _ _ _ _ _ _ _ _
      | exact kvone_Do.mono _ _ _ _ _ _ _ _ _
      | exact kvone_Find.mono _ _ _
      | exact kvtwo_cas.mono _ _ _ _ _ _ _ _ _
      | exact kvtwo_set.mono _ _ _ _ _
      | exact LeO.none _
      | refine LeO.ite ?_ ?_
      | refine LeO.bind ?_ (fun _ => ?_)
def kvtwo_Do.T7 : Bool × List (List Nat × List Nat) := (true, [([], []), ([], []), ([1], [1]), ([], []), ([3], [3]), ([], []), ([5], [5]), ([6], [6]), ([2, 4, 7], [2, 4, 7]), ([0, 8, 7], [0, 8]), ([9, 9, 0, 1, 2, 3, 4, 5, 6, 7, 8, 9], [0, 9])])
def kvtwo_Do.B7 : List Nat := [0, 0, 2, 0, 8, 0, 32, 96, 254, 511, 1023]
theorem kvtwo_Do.tab7 : rtab .any (opsOf Try.f64 7) = kvtwo_Do.T7 := by kernel_rfl
theorem kvtwo_Do.bits7 : waitsOk kvtwo_Do.T7.2 kvtwo_Do.B7 = true := by kernel_rfl
set_option maxHeartbeats 8000000 in
set_option maxRecDepth 100000 in
theorem kvtwo_Do.calls (k : Nat) (A0 : Option Addr) (c0 : Nat) (l0 : List (S78)) (a1_0 : Int) (a1_1 : Int) (a1_2 : Int) (a1_3 : ByteArray) (a1_4 : ByteArray) (a1_5 : ByteArray) (a1_6 : Int) (r1 : List (S78)) (r2 : Int) (r3 : Int) (r4 : Int) (r5 : Bool) (r6 : ByteArray) (r7 : Int) (w : World) (hr0 : Kd.C k78 w A0 l0.length l0) (hc0 : l0.length ≤ c0) (h : kvtwo_Do.f k l0 a1_0 a1_1 a1_2 a1_3 a1_4 a1_5 a1_6 = some (r1, r2, r3, r4, r5, r6, r7)) :
    Calls Try.prog 64 #[.slice A0 l0.length c0, .agg #[.int .i64 a1_0, .int .i64 a1_1, .int .i64 a1_2, .string a1_3, .string a1_4, .string a1_5, .int .i64 a1_6]] w fun e w' => ∃ v0_ : Value, e = .returned (.tuple #[v0_, .agg #[.int .i64 r2, .int .i64 r3, .int .i64 r4, .bool r5, .string r6, .int .i64 r7]]) ∧ Kd.R k78 78 w' w.heap.size (fun _ => True) v0_ r1 ∧ Below w.heap.size w w' := by
  have hu72 := Try.underlying72
  have hu60 := Try.underlying60
  have hu78 := Try.underlying78
  have HR0 := Aside0.mk hr0
  have HC0 := Aside0.mk hc0
  clear hr0 hc0
  have HB := Aside0.mk (Below.refl w.heap.size w)
  have H : ((api_Pair_95.f l0).bind fun t657 => (if a1_0 = 5 then ((kvtwo_cas.f k t657 a1_0 a1_1 a1_2 a1_3 a1_4 a1_5 a1_6).bind fun bt660 => (some (bt660.1, bt660.2.1, bt660.2.2.1, bt660.2.2.2.1, bt660.2.2.2.2.1, bt660.2.2.2.2.2.1, bt660.2.2.2.2.2.2))) else ((kvone_Find.f k t657 a1_3).bind fun bt669 => ((kvone_Do.f k t657 a1_0 a1_1 a1_2 a1_3 a1_4 a1_5 a1_6).bind fun bt674 => (if a1_0 = 2 then (kvtwo_Do.j0 k bt674.1 (bt674.2.2.2.1 == 0) a1_0 a1_1 a1_2 a1_3 a1_4 a1_5 a1_6 bt669.1 bt669.2.1 bt669.2.2.1 bt674.2.1 bt674.2.2.1 bt674.2.2.2.1 bt674.2.2.2.2.1 bt674.2.2.2.2.2.1 bt674.2.2.2.2.2.2) else (kvtwo_Do.j0 k bt674.1 false a1_0 a1_1 a1_2 a1_3 a1_4 a1_5 a1_6 bt669.1 bt669.2.1 bt669.2.2.1 bt674.2.1 bt674.2.2.1 bt674.2.2.2.1 bt674.2.2.2.2.1 bt674.2.2.2.2.2.1 bt674.2.2.2.2.2.2)))))) = some (r1, r2, r3, r4, r5, r6, r7) := h
  clear h
  replace H := Option.bind_eq_some_iff.mp H
  obtain ⟨t657, A30, H⟩ := H
  replace H : (if a1_0 = 5 then ((kvtwo_cas.f k t657 a1_0 a1_1 a1_2 a1_3 a1_4 a1_5 a1_6).bind fun bt660 => (some (bt660.1, bt660.2.1, bt660.2.2.1, bt660.2.2.2.1, bt660.2.2.2.2.1, bt660.2.2.2.2.2.1, bt660.2.2.2.2.2.2))) else ((kvone_Find.f k t657 a1_3).bind fun bt669 => ((kvone_Do.f k t657 a1_0 a1_1 a1_2 a1_3 a1_4 a1_5 a1_6).bind fun bt674 => (if a1_0 = 2 then (kvtwo_Do.j0 k bt674.1 (bt674.2.2.2.1 == 0) a1_0 a1_1 a1_2 a1_3 a1_4 a1_5 a1_6 bt669.1 bt669.2.1 bt669.2.2.1 bt674.2.1 bt674.2.2.1 bt674.2.2.2.1 bt674.2.2.2.2.1 bt674.2.2.2.2.2.1 bt674.2.2.2.2.2.2) else (kvtwo_Do.j0 k bt674.1 false a1_0 a1_1 a1_2 a1_3 a1_4 a1_5 a1_6 bt669.1 bt669.2.1 bt669.2.2.1 bt674.2.1 bt674.2.2.1 bt674.2.2.2.1 bt674.2.2.2.2.1 bt674.2.2.2.2.2.1 bt674.2.2.2.2.2.2))))) = some (r1, r2, r3, r4, r5, r6, r7) := H
  have A3 := Aside0.mk A30
  clear A30
  by_cases c4 : a1_0 = 5
  · rw [if_pos c4] at H
    have c4b0 : (a1_0 == 5) = true := beq_iff_eq.mpr c4
    have c4b1 : (a1_0 != 5) = false := bne_eq_false_iff_eq.mpr c4
    clear c4
    replace H := Option.bind_eq_some_iff.mp H
    obtain ⟨⟨t660, t663, t664, t665, t666, t667, t668⟩, A50, H⟩ := H
    replace H : (some (t660, t663, t664, t665, t666, t667, t668)) = some (r1, r2, r3, r4, r5, r6, r7) := H
    have A5 := Aside0.mk A50
    clear A50
    simp only [Option.some.injEq, Prod.mk.injEq] at H
    obtain ⟨rfl, rfl, rfl, rfl, rfl, rfl, rfl⟩ := H
    go_enter Try.func64, Try.ntmps64
    go_wp2_with (first | ((with_reducible refine gate_dst (N := 3) rfl ?_); refine box_event ?hg (N := 3) ?hd (cs := #[.int .i64 a1_0, .int .i64 a1_1, .int .i64 a1_2, .string a1_3, .string a1_4, .string a1_5, .int .i64 a1_6]) (t := 72) ?hr ?_; (case hd => rfl); (case hg => rfl); (case hr => first | (go_simp; done) | (go_simp; rfl)); intro gb655 hg w6 hbox hb; have n0_ := Aside0.mk (below_step (by repeat (first | (with_reducible first | exact HB.out | apply below_alloc | apply pw_below_drewN | apply below_drew1) | exact HB.out)) hb); have n1_ := Aside0.mk (hbox); have n2_ := Aside0.mk ((by rw [hg]; exact (below_size (by repeat (first | (with_reducible first | exact HB.out | apply below_alloc | apply pw_below_drewN | apply below_drew1) | exact HB.out))) : w.heap.size ≤ gb655)); have n3_ := Aside0.mk ((by rw [hg]; exact (below_size (by repeat (first | (with_reducible first | exact HB.out | apply below_alloc | apply pw_below_drewN | apply below_drew1) | exact HB.out))) : w.heap.size ≤ gb655)); clear HB; have HB := n0_; have BK655 := n1_; have GW655 := n2_; have GE655 := n3_; clear n0_ n1_ n2_ n3_; clear hb hbox hg) | ((with_reducible refine gate_dst (N := 5) rfl ?_); refine box_event ?hg (N := 5) ?hd (cs := #[.int .i64 0, .int .i64 0, .int .i64 0, .bool false, .string (⟨#[]⟩ : ByteArray), .int .i64 0]) (t := 60) ?hr ?_; (case hd => rfl); (case hg => rfl); (case hr => first | (go_simp; done) | (go_simp; rfl)); intro gb656 hg w7 hbox hb; have n0_ := Aside0.mk (blk_below (g := gb655) (o := .cells #[.int .i64 a1_0, .int .i64 a1_1, .int .i64 a1_2, .string a1_3, .string a1_4, .string a1_5, .int .i64 a1_6] 72 (0, 0)) (by (with_reducible repeat (first | refine blk_drewN ?_ _ | refine blk_drew ?_ | refine blk_alloc ?_ _)); exact BK655.out) hb); have n1_ := Aside0.mk (below_step (by repeat (first | (with_reducible first | exact HB.out | apply below_alloc | apply pw_below_drewN | apply below_drew1 | refine below_set ?_ GE655.out) | exact HB.out)) hb); have n2_ := Aside0.mk (hbox); have n3_ := Aside0.mk ((by rw [hg]; exact (below_size (by repeat (first | (with_reducible first | exact HB.out | apply below_alloc | apply pw_below_drewN | apply below_drew1 | refine below_set ?_ GE655.out) | exact HB.out))) : w.heap.size ≤ gb656)); have n4_ := Aside0.mk ((by rw [hg]; exact (below_size (by repeat (first | (with_reducible first | exact HB.out | apply below_alloc | apply pw_below_drewN | apply below_drew1 | refine below_set ?_ GE655.out) | exact HB.out))) : w.heap.size ≤ gb656)); have n5_ := Aside0.mk ((by rw [hg]; exact Nat.ne_of_lt (blk_lt (g := gb655) (o := .cells #[.int .i64 a1_0, .int .i64 a1_1, .int .i64 a1_2, .string a1_3, .string a1_4, .string a1_5, .int .i64 a1_6] 72 (0, 0)) (by (with_reducible repeat (first | refine blk_drewN ?_ _ | refine blk_drew ?_ | refine blk_alloc ?_ _)); exact BK655.out)) : gb655 ≠ gb656)); have n6_ := Aside0.mk ((by rw [hg]; exact Nat.ne_of_gt (blk_lt (g := gb655) (o := .cells #[.int .i64 a1_0, .int .i64 a1_1, .int .i64 a1_2, .string a1_3, .string a1_4, .string a1_5, .int .i64 a1_6] 72 (0, 0)) (by (with_reducible repeat (first | refine blk_drewN ?_ _ | refine blk_drew ?_ | refine blk_alloc ?_ _)); exact BK655.out)) : gb656 ≠ gb655)); clear BK655; clear HB; have BK655 := n0_; have HB := n1_; have BK656 := n2_; have GW656 := n3_; have GE656 := n4_; have NB655_656 := n5_; have NB656_655 := n6_; clear n0_ n1_ n2_ n3_ n4_ n5_ n6_; clear hb hbox hg) | ((with_reducible refine gate_callee (f := 95) rfl ?_); refine goesL_ (some 12) rfl rfl Try.func95 (by kernel_rfl) rfl #[.slice A0 l0.length c0] rfl (by (try simp only [List.map_toArray, List.map_cons, List.map_nil]); first | done | rfl | (simp only [List.length_drop, List.length_take]; rfl)) ?_; (with_reducible refine (api_Pair_95.calls _ _ l0 t657 _ ?side1 ?side2 A3.out).mono ?_); (case side1 => repeat (first | exact (Kd.C_below HR0.out HB.out) | (with_reducible refine Kd.C_alloc ?_ _) | (with_reducible refine Kd.C_drewN ?_ _) | (with_reducible refine Kd.C_drew ?_))); (case side2 => exact HC0.out); rintro e w8 ⟨v658, rfl, ho0, hb⟩; refine ⟨_, rfl, ?_⟩; have n0_ := Aside0.mk (Kd.R_lower ho0 (below_size (by repeat (first | (with_reducible first | exact HB.out | apply below_alloc | apply pw_below_drewN | apply below_drew1 | refine below_set ?_ GE655.out | refine below_set ?_ GE656.out) | exact HB.out)))); have n1_ := Aside0.mk (blk_below (g := gb655) (o := .cells #[.int .i64 a1_0, .int .i64 a1_1, .int .i64 a1_2, .string a1_3, .string a1_4, .string a1_5, .int .i64 a1_6] 72 (0, 0)) (by (with_reducible repeat (first | refine blk_drewN ?_ _ | refine blk_drew ?_ | refine blk_alloc ?_ _)); exact BK655.out) hb); have n2_ := Aside0.mk (blk_below (g := gb656) (o := .cells #[.int .i64 0, .int .i64 0, .int .i64 0, .bool false, .string (⟨#[]⟩ : ByteArray), .int .i64 0] 60 (0, 0)) (by (with_reducible repeat (first | refine blk_drewN ?_ _ | refine blk_drew ?_ | refine blk_alloc ?_ _)); exact BK656.out) hb); have n3_ := Aside0.mk (below_step (by repeat (first | (with_reducible first | exact HB.out | apply below_alloc | apply pw_below_drewN | apply below_drew1 | refine below_set ?_ GE655.out | refine below_set ?_ GE656.out) | exact HB.out)) hb); clear BK655; clear BK656; clear HB; have HO659 := n0_; have BK655 := n1_; have BK656 := n2_; have HB := n3_; clear n0_ n1_ n2_ n3_; (try clear hb); (try clear hb2); (try clear hk); (try clear hi); (try clear ho0); have hnb9 := NB655_656.out; have hnc9 := NB656_655.out; have hcz10_0 : w8.cell? ⟨gb655, 0, none⟩ = some (.int .i64 a1_0) := (blk_cell BK655.out 0).trans rfl; have hcz10_1 : w8.cell? ⟨gb655, 1, none⟩ = some (.int .i64 a1_1) := (blk_cell BK655.out 1).trans rfl; have hcz10_2 : w8.cell? ⟨gb655, 2, none⟩ = some (.int .i64 a1_2) := (blk_cell BK655.out 2).trans rfl; have hcz10_3 : w8.cell? ⟨gb655, 3, none⟩ = some (.string a1_3) := (blk_cell BK655.out 3).trans rfl; have hcz10_4 : w8.cell? ⟨gb655, 4, none⟩ = some (.string a1_4) := (blk_cell BK655.out 4).trans rfl; have hcz10_5 : w8.cell? ⟨gb655, 5, none⟩ = some (.string a1_5) := (blk_cell BK655.out 5).trans rfl; have hcz10_6 : w8.cell? ⟨gb655, 6, none⟩ = some (.int .i64 a1_6) := (blk_cell BK655.out 6).trans rfl; have hfz10_0 := blk_frozen BK655.out 0; have hfz10_1 := blk_frozen BK655.out 1; have hfz10_2 := blk_frozen BK655.out 2; have hfz10_3 := blk_frozen BK655.out 3; have hfz10_4 := blk_frozen BK655.out 4; have hfz10_5 := blk_frozen BK655.out 5; have hfz10_6 := blk_frozen BK655.out 6; obtain ⟨Ao11, co11, eo11⟩ := Kd.R_slice HO659.out; subst eo11) | ((with_reducible refine gate_callee (f := 101) rfl ?_); refine goesL_ (some 18) rfl rfl Try.func101 (by kernel_rfl) rfl #[.slice Ao11 t657.length co11, .agg #[.int .i64 a1_0, .int .i64 a1_1, .int .i64 a1_2, .string a1_3, .string a1_4, .string a1_5, .int .i64 a1_6]] rfl (by (try simp only [List.map_toArray, List.map_cons, List.map_nil]); first | done | rfl | (simp only [List.length_drop, List.length_take]; rfl)) ?_; (with_reducible refine (kvtwo_cas.calls k (fun k_ => some k_ = (.slice Ao11 t657.length co11 : Value).ownBlock) (.slice Ao11 t657.length co11) t657 a1_0 a1_1 a1_2 a1_3 a1_4 a1_5 a1_6 t660 t663 t664 t665 t666 t667 t668 w _ ?side1 ?side2 A5.out).mono ?_); (case side1 => repeat (first | (with_reducible first | exact HB.out | apply below_alloc | apply pw_below_drewN | apply below_drew1 | refine below_set ?_ GE655.out | refine below_set ?_ GE656.out) | exact HB.out)); (case side2 => exact Kd.R_tight rfl HO659.out); rintro e w12 ⟨v661, rfl, ho0, hb, hkp⟩; refine ⟨_, rfl, ?_⟩; have n0_ := Aside0.mk (blk_kept (by (with_reducible repeat (first | refine blk_drewN ?_ _ | refine blk_drew ?_ | refine blk_alloc ?_ _)); exact BK655.out) hkp (fun hs_ => (fun e_ => (Kd.R_ne HO659.out BK655.out (by decide)) e_) hs_)); have n1_ := Aside0.mk (blk_kept (by (with_reducible repeat (first | refine blk_drewN ?_ _ | refine blk_drew ?_ | refine blk_alloc ?_ _)); exact BK656.out) hkp (fun hs_ => (fun e_ => (Kd.R_ne HO659.out BK656.out (by decide)) e_) hs_)); have n2_ := Aside0.mk (Kd.R_mono (ok' := fun k_ => True) ho0 (fun k_ hk_ => trivial)); have n3_ := Aside0.mk (hb); clear BK655; clear BK656; clear HB; clear HO659; have BK655 := n0_; have BK656 := n1_; have HO662 := n2_; have HB := n3_; clear n0_ n1_ n2_ n3_; (try clear hb); (try clear hkp); (try clear ho0); have hcz13_0 : w12.cell? ⟨gb656, 0, none⟩ = some (.int .i64 0) := (blk_cell BK656.out 0).trans rfl; have hcz13_1 : w12.cell? ⟨gb656, 1, none⟩ = some (.int .i64 0) := (blk_cell BK656.out 1).trans rfl; have hcz13_2 : w12.cell? ⟨gb656, 2, none⟩ = some (.int .i64 0) := (blk_cell BK656.out 2).trans rfl; have hcz13_3 : w12.cell? ⟨gb656, 3, none⟩ = some (.bool false) := (blk_cell BK656.out 3).trans rfl; have hcz13_4 : w12.cell? ⟨gb656, 4, none⟩ = some (.string (⟨#[]⟩ : ByteArray)) := (blk_cell BK656.out 4).trans rfl; have hcz13_5 : w12.cell? ⟨gb656, 5, none⟩ = some (.int .i64 0) := (blk_cell BK656.out 5).trans rfl; have hfz13_0 := blk_frozen BK656.out 0; have hfz13_1 := blk_frozen BK656.out 1; have hfz13_2 := blk_frozen BK656.out 2; have hfz13_3 := blk_frozen BK656.out 3; have hfz13_4 := blk_frozen BK656.out 4; have hfz13_5 := blk_frozen BK656.out 5))
    refine bodyPost_ret (results_tc rfl _ _ gb656 60 #[.int .i64 t663, .int .i64 t664, .int .i64 t665, .bool t666, .string t667, .int .i64 t668] (0, 0) _ rfl (by (with_reducible repeat (first | refine blk_drewN ?_ _ | refine blk_drew ?_ | refine blk_alloc ?_ _)); refine blk_put (cs := #[.int .i64 t663, .int .i64 t664, .int .i64 t665, .bool t666, .string t667, .int .i64 0]) ?_ 5 _ rfl; (with_reducible repeat (first | refine blk_drewN ?_ _ | refine blk_drew ?_ | refine blk_alloc ?_ _)); refine blk_put (cs := #[.int .i64 t663, .int .i64 t664, .int .i64 t665, .bool t666, .string (⟨#[]⟩ : ByteArray), .int .i64 0]) ?_ 4 _ rfl; (with_reducible repeat (first | refine blk_drewN ?_ _ | refine blk_drew ?_ | refine blk_alloc ?_ _)); refine blk_put (cs := #[.int .i64 t663, .int .i64 t664, .int .i64 t665, .bool false, .string (⟨#[]⟩ : ByteArray), .int .i64 0]) ?_ 3 _ rfl; (with_reducible repeat (first | refine blk_drewN ?_ _ | refine blk_drew ?_ | refine blk_alloc ?_ _)); refine blk_put (cs := #[.int .i64 t663, .int .i64 t664, .int .i64 0, .bool false, .string (⟨#[]⟩ : ByteArray), .int .i64 0]) ?_ 2 _ rfl; (with_reducible repeat (first | refine blk_drewN ?_ _ | refine blk_drew ?_ | refine blk_alloc ?_ _)); refine blk_put (cs := #[.int .i64 t663, .int .i64 0, .int .i64 0, .bool false, .string (⟨#[]⟩ : ByteArray), .int .i64 0]) ?_ 1 _ rfl; (with_reducible repeat (first | refine blk_drewN ?_ _ | refine blk_drew ?_ | refine blk_alloc ?_ _)); refine blk_put (cs := #[.int .i64 0, .int .i64 0, .int .i64 0, .bool false, .string (⟨#[]⟩ : ByteArray), .int .i64 0]) ?_ 0 _ rfl; (with_reducible repeat (first | refine blk_drewN ?_ _ | refine blk_drew ?_ | refine blk_alloc ?_ _)); exact BK656.out) Try.underlying60 rfl (by kernel_rfl)) rfl ?_
    exact ⟨_, by first | rfl | (simp [errW_none, errW_some] <;> rfl) | (simp [*, errW_none, errW_some] <;> rfl), by (with_reducible repeat (first | apply Kd.R_alloc | apply Kd.R_drewN | apply Kd.R_drew)); exact Kd.R_mono (Kd.R_far (p := ⟨gb656, 5, none⟩) (Kd.R_far (p := ⟨gb656, 4, none⟩) (Kd.R_far (p := ⟨gb656, 3, none⟩) (Kd.R_far (p := ⟨gb656, 2, none⟩) (Kd.R_far (p := ⟨gb656, 1, none⟩) (Kd.R_far (p := ⟨gb656, 0, none⟩) (Kd.R_types HO662.out BK656.out (by decide)) (fun _ hk => hk.2) (.int .i64 t663)) (fun _ hk => hk.2) (.int .i64 t664)) (fun _ hk => hk.2) (.int .i64 t665)) (fun _ hk => hk.2) (.bool t666)) (fun _ hk => hk.2) (.string t667)) (fun _ hk => hk.2) (.int .i64 t668)) (fun _ hk => trivial), by repeat (first | (with_reducible first | exact HB.out | apply below_alloc | apply pw_below_drewN | apply below_drew1 | refine below_set ?_ GE655.out | refine below_set ?_ GE656.out) | exact HB.out)⟩
  · rw [if_neg c4] at H
    have c4b0 : (a1_0 == 5) = false := beq_eq_false_iff_ne.mpr c4
    have c4b1 : (a1_0 != 5) = true := bne_iff_ne.mpr c4
    replace H := Option.bind_eq_some_iff.mp H
    obtain ⟨⟨t669, t670, t671, t672⟩, A140, H⟩ := H
    replace H : ((kvone_Do.f k t657 a1_0 a1_1 a1_2 a1_3 a1_4 a1_5 a1_6).bind fun bt674 => (if a1_0 = 2 then (kvtwo_Do.j0 k bt674.1 (bt674.2.2.2.1 == 0) a1_0 a1_1 a1_2 a1_3 a1_4 a1_5 a1_6 t669 t670 t671 bt674.2.1 bt674.2.2.1 bt674.2.2.2.1 bt674.2.2.2.2.1 bt674.2.2.2.2.2.1 bt674.2.2.2.2.2.2) else (kvtwo_Do.j0 k bt674.1 false a1_0 a1_1 a1_2 a1_3 a1_4 a1_5 a1_6 t669 t670 t671 bt674.2.1 bt674.2.2.1 bt674.2.2.2.1 bt674.2.2.2.2.1 bt674.2.2.2.2.2.1 bt674.2.2.2.2.2.2))) = some (r1, r2, r3, r4, r5, r6, r7) := H
    have A14 := Aside0.mk A140
    clear A140
    replace H := Option.bind_eq_some_iff.mp H
    obtain ⟨⟨t674, t677, t678, t679, t680, t681, t682⟩, A150, H⟩ := H
    replace H : (if a1_0 = 2 then (kvtwo_Do.j0 k t674 (t679 == 0) a1_0 a1_1 a1_2 a1_3 a1_4 a1_5 a1_6 t669 t670 t671 t677 t678 t679 t680 t681 t682) else (kvtwo_Do.j0 k t674 false a1_0 a1_1 a1_2 a1_3 a1_4 a1_5 a1_6 t669 t670 t671 t677 t678 t679 t680 t681 t682)) = some (r1, r2, r3, r4, r5, r6, r7) := H
    have A15 := Aside0.mk A150
    clear A150
    have HC16 := Aside0.mk H
    clear H
    go_enter Try.func64, Try.ntmps64
    go_upto_region 6 with (first | ((with_reducible refine gate_dst (N := 3) rfl ?_); refine box_event ?hg (N := 3) ?hd (cs := #[.int .i64 a1_0, .int .i64 a1_1, .int .i64 a1_2, .string a1_3, .string a1_4, .string a1_5, .int .i64 a1_6]) (t := 72) ?hr ?_; (case hd => rfl); (case hg => rfl); (case hr => first | (go_simp; done) | (go_simp; rfl)); intro gb655 hg w17 hbox hb; have n0_ := Aside0.mk (below_step (by repeat (first | (with_reducible first | exact HB.out | apply below_alloc | apply pw_below_drewN | apply below_drew1) | exact HB.out)) hb); have n1_ := Aside0.mk (hbox); have n2_ := Aside0.mk ((by rw [hg]; exact (below_size (by repeat (first | (with_reducible first | exact HB.out | apply below_alloc | apply pw_below_drewN | apply below_drew1) | exact HB.out))) : w.heap.size ≤ gb655)); have n3_ := Aside0.mk ((by rw [hg]; exact (below_size (by repeat (first | (with_reducible first | exact HB.out | apply below_alloc | apply pw_below_drewN | apply below_drew1) | exact HB.out))) : w.heap.size ≤ gb655)); clear HB; have HB := n0_; have BK655 := n1_; have GW655 := n2_; have GE655 := n3_; clear n0_ n1_ n2_ n3_; clear hb hbox hg) | ((with_reducible refine gate_dst (N := 5) rfl ?_); refine box_event ?hg (N := 5) ?hd (cs := #[.int .i64 0, .int .i64 0, .int .i64 0, .bool false, .string (⟨#[]⟩ : ByteArray), .int .i64 0]) (t := 60) ?hr ?_; (case hd => rfl); (case hg => rfl); (case hr => first | (go_simp; done) | (go_simp; rfl)); intro gb656 hg w18 hbox hb; have n0_ := Aside0.mk (blk_below (g := gb655) (o := .cells #[.int .i64 a1_0, .int .i64 a1_1, .int .i64 a1_2, .string a1_3, .string a1_4, .string a1_5, .int .i64 a1_6] 72 (0, 0)) (by (with_reducible repeat (first | refine blk_drewN ?_ _ | refine blk_drew ?_ | refine blk_alloc ?_ _)); exact BK655.out) hb); have n1_ := Aside0.mk (below_step (by repeat (first | (with_reducible first | exact HB.out | apply below_alloc | apply pw_below_drewN | apply below_drew1 | refine below_set ?_ GE655.out) | exact HB.out)) hb); have n2_ := Aside0.mk (hbox); have n3_ := Aside0.mk ((by rw [hg]; exact (below_size (by repeat (first | (with_reducible first | exact HB.out | apply below_alloc | apply pw_below_drewN | apply below_drew1 | refine below_set ?_ GE655.out) | exact HB.out))) : w.heap.size ≤ gb656)); have n4_ := Aside0.mk ((by rw [hg]; exact (below_size (by repeat (first | (with_reducible first | exact HB.out | apply below_alloc | apply pw_below_drewN | apply below_drew1 | refine below_set ?_ GE655.out) | exact HB.out))) : w.heap.size ≤ gb656)); have n5_ := Aside0.mk ((by rw [hg]; exact Nat.ne_of_lt (blk_lt (g := gb655) (o := .cells #[.int .i64 a1_0, .int .i64 a1_1, .int .i64 a1_2, .string a1_3, .string a1_4, .string a1_5, .int .i64 a1_6] 72 (0, 0)) (by (with_reducible repeat (first | refine blk_drewN ?_ _ | refine blk_drew ?_ | refine blk_alloc ?_ _)); exact BK655.out)) : gb655 ≠ gb656)); have n6_ := Aside0.mk ((by rw [hg]; exact Nat.ne_of_gt (blk_lt (g := gb655) (o := .cells #[.int .i64 a1_0, .int .i64 a1_1, .int .i64 a1_2, .string a1_3, .string a1_4, .string a1_5, .int .i64 a1_6] 72 (0, 0)) (by (with_reducible repeat (first | refine blk_drewN ?_ _ | refine blk_drew ?_ | refine blk_alloc ?_ _)); exact BK655.out)) : gb656 ≠ gb655)); clear BK655; clear HB; have BK655 := n0_; have HB := n1_; have BK656 := n2_; have GW656 := n3_; have GE656 := n4_; have NB655_656 := n5_; have NB656_655 := n6_; clear n0_ n1_ n2_ n3_ n4_ n5_ n6_; clear hb hbox hg) | ((with_reducible refine gate_callee (f := 95) rfl ?_); refine goesL_ (some 12) rfl rfl Try.func95 (by kernel_rfl) rfl #[.slice A0 l0.length c0] rfl (by (try simp only [List.map_toArray, List.map_cons, List.map_nil]); first | done | rfl | (simp only [List.length_drop, List.length_take]; rfl)) ?_; (with_reducible refine (api_Pair_95.calls _ _ l0 t657 _ ?side1 ?side2 A3.out).mono ?_); (case side1 => repeat (first | exact (Kd.C_below HR0.out HB.out) | (with_reducible refine Kd.C_alloc ?_ _) | (with_reducible refine Kd.C_drewN ?_ _) | (with_reducible refine Kd.C_drew ?_))); (case side2 => exact HC0.out); rintro e w19 ⟨v658, rfl, ho0, hb⟩; refine ⟨_, rfl, ?_⟩; have n0_ := Aside0.mk (Kd.R_lower ho0 (below_size (by repeat (first | (with_reducible first | exact HB.out | apply below_alloc | apply pw_below_drewN | apply below_drew1 | refine below_set ?_ GE655.out | refine below_set ?_ GE656.out) | exact HB.out)))); have n1_ := Aside0.mk (blk_below (g := gb655) (o := .cells #[.int .i64 a1_0, .int .i64 a1_1, .int .i64 a1_2, .string a1_3, .string a1_4, .string a1_5, .int .i64 a1_6] 72 (0, 0)) (by (with_reducible repeat (first | refine blk_drewN ?_ _ | refine blk_drew ?_ | refine blk_alloc ?_ _)); exact BK655.out) hb); have n2_ := Aside0.mk (blk_below (g := gb656) (o := .cells #[.int .i64 0, .int .i64 0, .int .i64 0, .bool false, .string (⟨#[]⟩ : ByteArray), .int .i64 0] 60 (0, 0)) (by (with_reducible repeat (first | refine blk_drewN ?_ _ | refine blk_drew ?_ | refine blk_alloc ?_ _)); exact BK656.out) hb); have n3_ := Aside0.mk (below_step (by repeat (first | (with_reducible first | exact HB.out | apply below_alloc | apply pw_below_drewN | apply below_drew1 | refine below_set ?_ GE655.out | refine below_set ?_ GE656.out) | exact HB.out)) hb); clear BK655; clear BK656; clear HB; have HO659 := n0_; have BK655 := n1_; have BK656 := n2_; have HB := n3_; clear n0_ n1_ n2_ n3_; (try clear hb); (try clear hb2); (try clear hk); (try clear hi); (try clear ho0); have hnb20 := NB655_656.out; have hnc20 := NB656_655.out; have hcz21_0 : w19.cell? ⟨gb655, 0, none⟩ = some (.int .i64 a1_0) := (blk_cell BK655.out 0).trans rfl; have hcz21_1 : w19.cell? ⟨gb655, 1, none⟩ = some (.int .i64 a1_1) := (blk_cell BK655.out 1).trans rfl; have hcz21_2 : w19.cell? ⟨gb655, 2, none⟩ = some (.int .i64 a1_2) := (blk_cell BK655.out 2).trans rfl; have hcz21_3 : w19.cell? ⟨gb655, 3, none⟩ = some (.string a1_3) := (blk_cell BK655.out 3).trans rfl; have hcz21_4 : w19.cell? ⟨gb655, 4, none⟩ = some (.string a1_4) := (blk_cell BK655.out 4).trans rfl; have hcz21_5 : w19.cell? ⟨gb655, 5, none⟩ = some (.string a1_5) := (blk_cell BK655.out 5).trans rfl; have hcz21_6 : w19.cell? ⟨gb655, 6, none⟩ = some (.int .i64 a1_6) := (blk_cell BK655.out 6).trans rfl; have hfz21_0 := blk_frozen BK655.out 0; have hfz21_1 := blk_frozen BK655.out 1; have hfz21_2 := blk_frozen BK655.out 2; have hfz21_3 := blk_frozen BK655.out 3; have hfz21_4 := blk_frozen BK655.out 4; have hfz21_5 := blk_frozen BK655.out 5; have hfz21_6 := blk_frozen BK655.out 6; obtain ⟨Ao22, co22, eo22⟩ := Kd.R_slice HO659.out; subst eo22) | ((with_reducible refine gate_callee (f := 60) rfl ?_); refine goesL_ (some 25) rfl rfl Try.func60 (by kernel_rfl) rfl #[.slice Ao22 t657.length co22, .string a1_3] rfl (by (try simp only [List.map_toArray, List.map_cons, List.map_nil]); first | done | rfl | (simp only [List.length_drop, List.length_take]; rfl)) ?_; (with_reducible refine (kvone_Find.calls k _ _ t657 a1_3 t669 t670 t671 t672 _ ?side1 ?side2 A14.out).mono ?_); (case side1 => repeat (first | exact (Kd.R_reads' HO659.out).2.2 | (with_reducible refine Kd.C_alloc ?_ _) | (with_reducible refine Kd.C_drewN ?_ _) | (with_reducible refine Kd.C_drew ?_))); (case side2 => exact (Kd.R_reads' HO659.out).2.1); rintro e w23 ⟨rfl, hb⟩; refine ⟨_, rfl, ?_⟩; have n0_ := Aside0.mk (Kd.R_below (by (with_reducible repeat (first | apply Kd.R_alloc | apply Kd.R_drewN | apply Kd.R_drew)); exact HO659.out) hb); have n1_ := Aside0.mk (blk_below (g := gb655) (o := .cells #[.int .i64 a1_0, .int .i64 a1_1, .int .i64 a1_2, .string a1_3, .string a1_4, .string a1_5, .int .i64 a1_6] 72 (0, 0)) (by (with_reducible repeat (first | refine blk_drewN ?_ _ | refine blk_drew ?_ | refine blk_alloc ?_ _)); exact BK655.out) hb); have n2_ := Aside0.mk (blk_below (g := gb656) (o := .cells #[.int .i64 0, .int .i64 0, .int .i64 0, .bool false, .string (⟨#[]⟩ : ByteArray), .int .i64 0] 60 (0, 0)) (by (with_reducible repeat (first | refine blk_drewN ?_ _ | refine blk_drew ?_ | refine blk_alloc ?_ _)); exact BK656.out) hb); have n3_ := Aside0.mk (below_step (by repeat (first | (with_reducible first | exact HB.out | apply below_alloc | apply pw_below_drewN | apply below_drew1 | refine below_set ?_ GE655.out | refine below_set ?_ GE656.out) | exact HB.out)) hb); clear HO659; clear BK655; clear BK656; clear HB; have HO659 := n0_; have BK655 := n1_; have BK656 := n2_; have HB := n3_; clear n0_ n1_ n2_ n3_; (try clear hb); (try clear hb2); (try clear hk); (try clear hi)) | ((with_reducible refine gate_dst (N := 7) rfl ?_); refine box_event ?hg (N := 7) ?hd (cs := #[.string (⟨#[]⟩ : ByteArray), .string (⟨#[]⟩ : ByteArray), .int .i64 0]) (t := 78) ?hr ?_; (case hd => rfl); (case hg => rfl); (case hr => first | (go_simp; done) | (go_simp; rfl)); intro gb673 hg w24 hbox hb; have n0_ := Aside0.mk (Kd.R_below (Kd.R_elderB (by (with_reducible repeat (first | apply Kd.R_alloc | apply Kd.R_drewN | apply Kd.R_drew)); exact HO659.out) gb673 (Nat.le_of_eq hg.symm)) hb); have n1_ := Aside0.mk (blk_below (g := gb655) (o := .cells #[.int .i64 a1_0, .int .i64 a1_1, .int .i64 a1_2, .string a1_3, .string a1_4, .string a1_5, .int .i64 a1_6] 72 (0, 0)) (by (with_reducible repeat (first | refine blk_drewN ?_ _ | refine blk_drew ?_ | refine blk_alloc ?_ _)); exact BK655.out) hb); have n2_ := Aside0.mk (blk_below (g := gb656) (o := .cells #[.int .i64 0, .int .i64 0, .int .i64 0, .bool false, .string (⟨#[]⟩ : ByteArray), .int .i64 0] 60 (0, 0)) (by (with_reducible repeat (first | refine blk_drewN ?_ _ | refine blk_drew ?_ | refine blk_alloc ?_ _)); exact BK656.out) hb); have n3_ := Aside0.mk (below_step (by repeat (first | (with_reducible first | exact HB.out | apply below_alloc | apply pw_below_drewN | apply below_drew1 | refine below_set ?_ GE655.out | refine below_set ?_ GE656.out) | exact HB.out)) hb); have n4_ := Aside0.mk (hbox); have n5_ := Aside0.mk ((by rw [hg]; exact (below_size (by repeat (first | (with_reducible first | exact HB.out | apply below_alloc | apply pw_below_drewN | apply below_drew1 | refine below_set ?_ GE655.out | refine below_set ?_ GE656.out) | exact HB.out))) : w.heap.size ≤ gb673)); have n6_ := Aside0.mk ((by rw [hg]; exact (below_size (by repeat (first | (with_reducible first | exact HB.out | apply below_alloc | apply pw_below_drewN | apply below_drew1 | refine below_set ?_ GE655.out | refine below_set ?_ GE656.out) | exact HB.out))) : w.heap.size ≤ gb673)); have n7_ := Aside0.mk ((by rw [hg]; exact Nat.ne_of_lt (blk_lt (g := gb655) (o := .cells #[.int .i64 a1_0, .int .i64 a1_1, .int .i64 a1_2, .string a1_3, .string a1_4, .string a1_5, .int .i64 a1_6] 72 (0, 0)) (by (with_reducible repeat (first | refine blk_drewN ?_ _ | refine blk_drew ?_ | refine blk_alloc ?_ _)); exact BK655.out)) : gb655 ≠ gb673)); have n8_ := Aside0.mk ((by rw [hg]; exact Nat.ne_of_gt (blk_lt (g := gb655) (o := .cells #[.int .i64 a1_0, .int .i64 a1_1, .int .i64 a1_2, .string a1_3, .string a1_4, .string a1_5, .int .i64 a1_6] 72 (0, 0)) (by (with_reducible repeat (first | refine blk_drewN ?_ _ | refine blk_drew ?_ | refine blk_alloc ?_ _)); exact BK655.out)) : gb673 ≠ gb655)); have n9_ := Aside0.mk ((by rw [hg]; exact Nat.ne_of_lt (blk_lt (g := gb656) (o := .cells #[.int .i64 0, .int .i64 0, .int .i64 0, .bool false, .string (⟨#[]⟩ : ByteArray), .int .i64 0] 60 (0, 0)) (by (with_reducible repeat (first | refine blk_drewN ?_ _ | refine blk_drew ?_ | refine blk_alloc ?_ _)); exact BK656.out)) : gb656 ≠ gb673)); have n10_ := Aside0.mk ((by rw [hg]; exact Nat.ne_of_gt (blk_lt (g := gb656) (o := .cells #[.int .i64 0, .int .i64 0, .int .i64 0, .bool false, .string (⟨#[]⟩ : ByteArray), .int .i64 0] 60 (0, 0)) (by (with_reducible repeat (first | refine blk_drewN ?_ _ | refine blk_drew ?_ | refine blk_alloc ?_ _)); exact BK656.out)) : gb673 ≠ gb656)); clear HO659; clear BK655; clear BK656; clear HB; have HO659 := n0_; have BK655 := n1_; have BK656 := n2_; have HB := n3_; have BK673 := n4_; have GW673 := n5_; have GE673 := n6_; have NB655_673 := n7_; have NB673_655 := n8_; have NB656_673 := n9_; have NB673_656 := n10_; clear n0_ n1_ n2_ n3_ n4_ n5_ n6_ n7_ n8_ n9_ n10_; clear hb hbox hg; have hnb25 := NB673_655.out; have hnc25 := NB655_673.out; have hnb26 := NB673_656.out; have hnc26 := NB656_673.out; have hcz27_0 : w24.cell? ⟨gb673, 0, none⟩ = some (.string (⟨#[]⟩ : ByteArray)) := (blk_cell BK673.out 0).trans rfl; have hcz27_1 : w24.cell? ⟨gb673, 1, none⟩ = some (.string (⟨#[]⟩ : ByteArray)) := (blk_cell BK673.out 1).trans rfl; have hcz27_2 : w24.cell? ⟨gb673, 2, none⟩ = some (.int .i64 0) := (blk_cell BK673.out 2).trans rfl; have hfz27_0 := blk_frozen BK673.out 0; have hfz27_1 := blk_frozen BK673.out 1; have hfz27_2 := blk_frozen BK673.out 2; have hcz28_0 : w24.cell? ⟨gb655, 0, none⟩ = some (.int .i64 a1_0) := (blk_cell BK655.out 0).trans rfl; have hcz28_1 : w24.cell? ⟨gb655, 1, none⟩ = some (.int .i64 a1_1) := (blk_cell BK655.out 1).trans rfl; have hcz28_2 : w24.cell? ⟨gb655, 2, none⟩ = some (.int .i64 a1_2) := (blk_cell BK655.out 2).trans rfl; have hcz28_3 : w24.cell? ⟨gb655, 3, none⟩ = some (.string a1_3) := (blk_cell BK655.out 3).trans rfl; have hcz28_4 : w24.cell? ⟨gb655, 4, none⟩ = some (.string a1_4) := (blk_cell BK655.out 4).trans rfl; have hcz28_5 : w24.cell? ⟨gb655, 5, none⟩ = some (.string a1_5) := (blk_cell BK655.out 5).trans rfl; have hcz28_6 : w24.cell? ⟨gb655, 6, none⟩ = some (.int .i64 a1_6) := (blk_cell BK655.out 6).trans rfl; have hfz28_0 := blk_frozen BK655.out 0; have hfz28_1 := blk_frozen BK655.out 1; have hfz28_2 := blk_frozen BK655.out 2; have hfz28_3 := blk_frozen BK655.out 3; have hfz28_4 := blk_frozen BK655.out 4; have hfz28_5 := blk_frozen BK655.out 5; have hfz28_6 := blk_frozen BK655.out 6) | ((with_reducible refine gate_callee (f := 59) rfl ?_); refine goesL_ (some 31) rfl rfl Try.func59 (by kernel_rfl) rfl #[.slice Ao22 t657.length co22, .agg #[.int .i64 a1_0, .int .i64 a1_1, .int .i64 a1_2, .string a1_3, .string a1_4, .string a1_5, .int .i64 a1_6]] rfl (by (try simp only [List.map_toArray, List.map_cons, List.map_nil]); first | done | rfl | (simp only [List.length_drop, List.length_take]; rfl)) ?_; (with_reducible refine (kvone_Do.calls k _ _ t657 a1_0 a1_1 a1_2 a1_3 a1_4 a1_5 a1_6 t674 t677 t678 t679 t680 t681 t682 _ ?side1 ?side2 A15.out).mono ?_); (case side1 => refine (Kd.R_reads' (e := 78) (base := w.heap.size) (ok := fun k_ => (True ∧ k_ ≠ gb673)) (n := t657.length) (c := co22) ?_).2.2; exact (by (with_reducible repeat (first | apply Kd.R_alloc | apply Kd.R_drewN | apply Kd.R_drew)); exact (Kd.R_mono (Kd.R_far (p := ⟨gb673, 2, none⟩) (Kd.R_far (p := ⟨gb673, 1, none⟩) (Kd.R_far (p := ⟨gb673, 0, none⟩) (Kd.R_mono HO659.out (fun k_ hk => (⟨hk, hk.2⟩ : _ ∧ k_ ≠ gb673))) (fun _ hk => hk.2) (.string t669)) (fun _ hk => hk.2) (.string t670)) (fun _ hk => hk.2) (.int .i64 t671)) (fun _ h_ => h_.1)))); (case side2 => exact (Kd.R_reads' HO659.out).2.1); rintro e w29 ⟨v675, rfl, ho0, hb⟩; refine ⟨_, rfl, ?_⟩; have n0_ := Aside0.mk (Kd.R_elder' (by (with_reducible repeat (first | apply Kd.R_alloc | apply Kd.R_drewN | apply Kd.R_drew)); exact (Kd.R_mono (Kd.R_far (p := ⟨gb673, 2, none⟩) (Kd.R_far (p := ⟨gb673, 1, none⟩) (Kd.R_far (p := ⟨gb673, 0, none⟩) (Kd.R_mono HO659.out (fun k_ hk => (⟨hk, hk.2⟩ : _ ∧ k_ ≠ gb673))) (fun _ hk => hk.2) (.string t669)) (fun _ hk => hk.2) (.string t670)) (fun _ hk => hk.2) (.int .i64 t671)) (fun _ h_ => h_.1))) (Kd.R_base ho0) hb); have n1_ := Aside0.mk (Kd.R_lower (Kd.R_newB (Kd.R_new' ho0 (Kd.R_lt (by (with_reducible repeat (first | apply Kd.R_alloc | apply Kd.R_drewN | apply Kd.R_drew)); exact (Kd.R_mono (Kd.R_far (p := ⟨gb673, 2, none⟩) (Kd.R_far (p := ⟨gb673, 1, none⟩) (Kd.R_far (p := ⟨gb673, 0, none⟩) (Kd.R_mono HO659.out (fun k_ hk => (⟨hk, hk.2⟩ : _ ∧ k_ ≠ gb673))) (fun _ hk => hk.2) (.string t669)) (fun _ hk => hk.2) (.string t670)) (fun _ hk => hk.2) (.int .i64 t671)) (fun _ h_ => h_.1))))) (g := gb673) (o := .cells #[.string t669, .string t670, .int .i64 t671] 78 (0, 0)) (by (with_reducible repeat (first | refine blk_drewN ?_ _ | refine blk_drew ?_ | refine blk_alloc ?_ _)); refine blk_put (cs := #[.string t669, .string t670, .int .i64 0]) ?_ 2 _ rfl; (with_reducible repeat (first | refine blk_drewN ?_ _ | refine blk_drew ?_ | refine blk_alloc ?_ _)); refine blk_put (cs := #[.string t669, .string (⟨#[]⟩ : ByteArray), .int .i64 0]) ?_ 1 _ rfl; (with_reducible repeat (first | refine blk_drewN ?_ _ | refine blk_drew ?_ | refine blk_alloc ?_ _)); refine blk_put (cs := #[.string (⟨#[]⟩ : ByteArray), .string (⟨#[]⟩ : ByteArray), .int .i64 0]) ?_ 0 _ rfl; (with_reducible repeat (first | refine blk_drewN ?_ _ | refine blk_drew ?_ | refine blk_alloc ?_ _)); exact BK673.out)) (below_size (by repeat (first | (with_reducible first | exact HB.out | apply below_alloc | apply pw_below_drewN | apply below_drew1 | refine below_set ?_ GE655.out | refine below_set ?_ GE656.out | refine below_set ?_ GE673.out) | exact HB.out)))); have n2_ := Aside0.mk (blk_below (g := gb655) (o := .cells #[.int .i64 a1_0, .int .i64 a1_1, .int .i64 a1_2, .string a1_3, .string a1_4, .string a1_5, .int .i64 a1_6] 72 (0, 0)) (by (with_reducible repeat (first | refine blk_drewN ?_ _ | refine blk_drew ?_ | refine blk_alloc ?_ _)); refine blk_far ?_ NB655_673.out _; (with_reducible repeat (first | refine blk_drewN ?_ _ | refine blk_drew ?_ | refine blk_alloc ?_ _)); refine blk_far ?_ NB655_673.out _; (with_reducible repeat (first | refine blk_drewN ?_ _ | refine blk_drew ?_ | refine blk_alloc ?_ _)); refine blk_far ?_ NB655_673.out _; (with_reducible repeat (first | refine blk_drewN ?_ _ | refine blk_drew ?_ | refine blk_alloc ?_ _)); exact BK655.out) hb); have n3_ := Aside0.mk (blk_below (g := gb656) (o := .cells #[.int .i64 0, .int .i64 0, .int .i64 0, .bool false, .string (⟨#[]⟩ : ByteArray), .int .i64 0] 60 (0, 0)) (by (with_reducible repeat (first | refine blk_drewN ?_ _ | refine blk_drew ?_ | refine blk_alloc ?_ _)); refine blk_far ?_ NB656_673.out _; (with_reducible repeat (first | refine blk_drewN ?_ _ | refine blk_drew ?_ | refine blk_alloc ?_ _)); refine blk_far ?_ NB656_673.out _; (with_reducible repeat (first | refine blk_drewN ?_ _ | refine blk_drew ?_ | refine blk_alloc ?_ _)); refine blk_far ?_ NB656_673.out _; (with_reducible repeat (first | refine blk_drewN ?_ _ | refine blk_drew ?_ | refine blk_alloc ?_ _)); exact BK656.out) hb); have n4_ := Aside0.mk (blk_below (g := gb673) (o := .cells #[.string t669, .string t670, .int .i64 t671] 78 (0, 0)) (by (with_reducible repeat (first | refine blk_drewN ?_ _ | refine blk_drew ?_ | refine blk_alloc ?_ _)); refine blk_put (cs := #[.string t669, .string t670, .int .i64 0]) ?_ 2 _ rfl; (with_reducible repeat (first | refine blk_drewN ?_ _ | refine blk_drew ?_ | refine blk_alloc ?_ _)); refine blk_put (cs := #[.string t669, .string (⟨#[]⟩ : ByteArray), .int .i64 0]) ?_ 1 _ rfl; (with_reducible repeat (first | refine blk_drewN ?_ _ | refine blk_drew ?_ | refine blk_alloc ?_ _)); refine blk_put (cs := #[.string (⟨#[]⟩ : ByteArray), .string (⟨#[]⟩ : ByteArray), .int .i64 0]) ?_ 0 _ rfl; (with_reducible repeat (first | refine blk_drewN ?_ _ | refine blk_drew ?_ | refine blk_alloc ?_ _)); exact BK673.out) hb); have n5_ := Aside0.mk (below_step (by repeat (first | (with_reducible first | exact HB.out | apply below_alloc | apply pw_below_drewN | apply below_drew1 | refine below_set ?_ GE655.out | refine below_set ?_ GE656.out | refine below_set ?_ GE673.out) | exact HB.out)) hb); clear HO659; clear BK655; clear BK656; clear BK673; clear HB; have HO659 := n0_; have HO676 := n1_; have BK655 := n2_; have BK656 := n3_; have BK673 := n4_; have HB := n5_; clear n0_ n1_ n2_ n3_ n4_ n5_; (try clear hb); (try clear hb2); (try clear hk); (try clear hi); (try clear ho0)) | ((with_reducible refine gate_dst (N := 10) rfl ?_); refine box_event ?hg (N := 10) ?hd (cs := #[.int .i64 0, .int .i64 0, .int .i64 0, .bool false, .string (⟨#[]⟩ : ByteArray), .int .i64 0]) (t := 60) ?hr ?_; (case hd => rfl); (case hg => rfl); (case hr => first | (go_simp; done) | (go_simp; rfl)); intro gb683 hg w30 hbox hb; have n0_ := Aside0.mk (Kd.R_below (by (with_reducible repeat (first | apply Kd.R_alloc | apply Kd.R_drewN | apply Kd.R_drew)); exact HO659.out) hb); have n1_ := Aside0.mk (Kd.R_below (by (with_reducible repeat (first | apply Kd.R_alloc | apply Kd.R_drewN | apply Kd.R_drew)); exact HO676.out) hb); have n2_ := Aside0.mk (blk_below (g := gb655) (o := .cells #[.int .i64 a1_0, .int .i64 a1_1, .int .i64 a1_2, .string a1_3, .string a1_4, .string a1_5, .int .i64 a1_6] 72 (0, 0)) (by (with_reducible repeat (first | refine blk_drewN ?_ _ | refine blk_drew ?_ | refine blk_alloc ?_ _)); exact BK655.out) hb); have n3_ := Aside0.mk (blk_below (g := gb656) (o := .cells #[.int .i64 0, .int .i64 0, .int .i64 0, .bool false, .string (⟨#[]⟩ : ByteArray), .int .i64 0] 60 (0, 0)) (by (with_reducible repeat (first | refine blk_drewN ?_ _ | refine blk_drew ?_ | refine blk_alloc ?_ _)); exact BK656.out) hb); have n4_ := Aside0.mk (blk_below (g := gb673) (o := .cells #[.string t669, .string t670, .int .i64 t671] 78 (0, 0)) (by (with_reducible repeat (first | refine blk_drewN ?_ _ | refine blk_drew ?_ | refine blk_alloc ?_ _)); exact BK673.out) hb); have n5_ := Aside0.mk (below_step (by repeat (first | (with_reducible first | exact HB.out | apply below_alloc | apply pw_below_drewN | apply below_drew1 | refine below_set ?_ GE655.out | refine below_set ?_ GE656.out | refine below_set ?_ GE673.out) | exact HB.out)) hb); have n6_ := Aside0.mk (hbox); have n7_ := Aside0.mk ((by rw [hg]; exact (below_size (by repeat (first | (with_reducible first | exact HB.out | apply below_alloc | apply pw_below_drewN | apply below_drew1 | refine below_set ?_ GE655.out | refine below_set ?_ GE656.out | refine below_set ?_ GE673.out) | exact HB.out))) : w.heap.size ≤ gb683)); have n8_ := Aside0.mk ((by rw [hg]; exact (below_size (by repeat (first | (with_reducible first | exact HB.out | apply below_alloc | apply pw_below_drewN | apply below_drew1 | refine below_set ?_ GE655.out | refine below_set ?_ GE656.out | refine below_set ?_ GE673.out) | exact HB.out))) : w.heap.size ≤ gb683)); have n9_ := Aside0.mk ((by rw [hg]; exact Nat.ne_of_lt (blk_lt (g := gb655) (o := .cells #[.int .i64 a1_0, .int .i64 a1_1, .int .i64 a1_2, .string a1_3, .string a1_4, .string a1_5, .int .i64 a1_6] 72 (0, 0)) (by (with_reducible repeat (first | refine blk_drewN ?_ _ | refine blk_drew ?_ | refine blk_alloc ?_ _)); exact BK655.out)) : gb655 ≠ gb683)); have n10_ := Aside0.mk ((by rw [hg]; exact Nat.ne_of_gt (blk_lt (g := gb655) (o := .cells #[.int .i64 a1_0, .int .i64 a1_1, .int .i64 a1_2, .string a1_3, .string a1_4, .string a1_5, .int .i64 a1_6] 72 (0, 0)) (by (with_reducible repeat (first | refine blk_drewN ?_ _ | refine blk_drew ?_ | refine blk_alloc ?_ _)); exact BK655.out)) : gb683 ≠ gb655)); have n11_ := Aside0.mk ((by rw [hg]; exact Nat.ne_of_lt (blk_lt (g := gb656) (o := .cells #[.int .i64 0, .int .i64 0, .int .i64 0, .bool false, .string (⟨#[]⟩ : ByteArray), .int .i64 0] 60 (0, 0)) (by (with_reducible repeat (first | refine blk_drewN ?_ _ | refine blk_drew ?_ | refine blk_alloc ?_ _)); exact BK656.out)) : gb656 ≠ gb683)); have n12_ := Aside0.mk ((by rw [hg]; exact Nat.ne_of_gt (blk_lt (g := gb656) (o := .cells #[.int .i64 0, .int .i64 0, .int .i64 0, .bool false, .string (⟨#[]⟩ : ByteArray), .int .i64 0] 60 (0, 0)) (by (with_reducible repeat (first | refine blk_drewN ?_ _ | refine blk_drew ?_ | refine blk_alloc ?_ _)); exact BK656.out)) : gb683 ≠ gb656)); have n13_ := Aside0.mk ((by rw [hg]; exact Nat.ne_of_lt (blk_lt (g := gb673) (o := .cells #[.string t669, .string t670, .int .i64 t671] 78 (0, 0)) (by (with_reducible repeat (first | refine blk_drewN ?_ _ | refine blk_drew ?_ | refine blk_alloc ?_ _)); exact BK673.out)) : gb673 ≠ gb683)); have n14_ := Aside0.mk ((by rw [hg]; exact Nat.ne_of_gt (blk_lt (g := gb673) (o := .cells #[.string t669, .string t670, .int .i64 t671] 78 (0, 0)) (by (with_reducible repeat (first | refine blk_drewN ?_ _ | refine blk_drew ?_ | refine blk_alloc ?_ _)); exact BK673.out)) : gb683 ≠ gb673)); clear HO659; clear HO676; clear BK655; clear BK656; clear BK673; clear HB; have HO659 := n0_; have HO676 := n1_; have BK655 := n2_; have BK656 := n3_; have BK673 := n4_; have HB := n5_; have BK683 := n6_; have GW683 := n7_; have GE683 := n8_; have NB655_683 := n9_; have NB683_655 := n10_; have NB656_683 := n11_; have NB683_656 := n12_; have NB673_683 := n13_; have NB683_673 := n14_; clear n0_ n1_ n2_ n3_ n4_ n5_ n6_ n7_ n8_ n9_ n10_ n11_ n12_ n13_ n14_; clear hb hbox hg; have hnb31 := NB683_655.out; have hnc31 := NB655_683.out; have hnb32 := NB683_656.out; have hnc32 := NB656_683.out; have hnb33 := NB683_673.out; have hnc33 := NB673_683.out; have hcz34_0 : w30.cell? ⟨gb683, 0, none⟩ = some (.int .i64 0) := (blk_cell BK683.out 0).trans rfl; have hcz34_1 : w30.cell? ⟨gb683, 1, none⟩ = some (.int .i64 0) := (blk_cell BK683.out 1).trans rfl; have hcz34_2 : w30.cell? ⟨gb683, 2, none⟩ = some (.int .i64 0) := (blk_cell BK683.out 2).trans rfl; have hcz34_3 : w30.cell? ⟨gb683, 3, none⟩ = some (.bool false) := (blk_cell BK683.out 3).trans rfl; have hcz34_4 : w30.cell? ⟨gb683, 4, none⟩ = some (.string (⟨#[]⟩ : ByteArray)) := (blk_cell BK683.out 4).trans rfl; have hcz34_5 : w30.cell? ⟨gb683, 5, none⟩ = some (.int .i64 0) := (blk_cell BK683.out 5).trans rfl; have hfz34_0 := blk_frozen BK683.out 0; have hfz34_1 := blk_frozen BK683.out 1; have hfz34_2 := blk_frozen BK683.out 2; have hfz34_3 := blk_frozen BK683.out 3; have hfz34_4 := blk_frozen BK683.out 4; have hfz34_5 := blk_frozen BK683.out 5))
    (try simp only [Act.put, List.setIfInBounds_toArray, List.set_cons_zero, List.set_cons_succ])
    go_cut [41] (fun v41 wc => ∃ (kq : Nat) (x41_15 : Bool), v41 = .bool x41_15 ∧ Aside0 (kvtwo_Do.j0 kq t674 x41_15 a1_0 a1_1 a1_2 a1_3 a1_4 a1_5 a1_6 t669 t670 t671 t677 t678 t679 t680 t681 t682 = some (r1, r2, r3, r4, r5, r6, r7)) ∧ Aside0 (kq ≤ k) ∧ Aside0 (Kd.R k78 78 wc w.heap.size (fun k_ => k_ ≠ gb673) v675 t674) ∧ Aside0 (wc.heap[gb655]? = some (.cells #[.int .i64 a1_0, .int .i64 a1_1, .int .i64 a1_2, .string a1_3, .string a1_4, .string a1_5, .int .i64 a1_6] 72 (0, 0))) ∧ Aside0 (wc.heap[gb656]? = some (.cells #[.int .i64 0, .int .i64 0, .int .i64 0, .bool false, .string (⟨#[]⟩ : ByteArray), .int .i64 0] 60 (0, 0))) ∧ Aside0 (wc.heap[gb673]? = some (.cells #[.string t669, .string t670, .int .i64 t671] 78 (0, 0))) ∧ Aside0 (wc.heap[gb683]? = some (.cells #[.int .i64 t677, .int .i64 t678, .int .i64 t679, .bool t680, .string t681, .int .i64 t682] 60 (0, 0))) ∧ Aside0 (Below w.heap.size w wc))
    case first =>
      have H := HC16.out
      clear HC16
      by_cases c35 : a1_0 = 2
      · rw [if_pos c35] at H
        have c35b0 : (a1_0 == 2) = true := beq_iff_eq.mpr c35
        have c35b1 : (a1_0 != 2) = false := bne_eq_false_iff_eq.mpr c35
        clear c35
        (first | rw [c35b0] | (simp only [i64_w, i32_w]; rw [c35b0]) | skip)
        have H' := Aside0.mk H
        clear H
        have hnb36 := NB655_656.out
        have hnc36 := NB656_655.out
        have hnb37 := NB655_673.out
        have hnc37 := NB673_655.out
        have hnb38 := NB655_683.out
        have hnc38 := NB683_655.out
        have hcz39_0 : w30.cell? ⟨gb655, 0, none⟩ = some (.int .i64 a1_0) := (blk_cell BK655.out 0).trans rfl
        have hcz39_1 : w30.cell? ⟨gb655, 1, none⟩ = some (.int .i64 a1_1) := (blk_cell BK655.out 1).trans rfl
        have hcz39_2 : w30.cell? ⟨gb655, 2, none⟩ = some (.int .i64 a1_2) := (blk_cell BK655.out 2).trans rfl
        have hcz39_3 : w30.cell? ⟨gb655, 3, none⟩ = some (.string a1_3) := (blk_cell BK655.out 3).trans rfl
        have hcz39_4 : w30.cell? ⟨gb655, 4, none⟩ = some (.string a1_4) := (blk_cell BK655.out 4).trans rfl
        have hcz39_5 : w30.cell? ⟨gb655, 5, none⟩ = some (.string a1_5) := (blk_cell BK655.out 5).trans rfl
        have hcz39_6 : w30.cell? ⟨gb655, 6, none⟩ = some (.int .i64 a1_6) := (blk_cell BK655.out 6).trans rfl
        have hfz39_0 := blk_frozen BK655.out 0
        have hfz39_1 := blk_frozen BK655.out 1
        have hfz39_2 := blk_frozen BK655.out 2
        have hfz39_3 := blk_frozen BK655.out 3
        have hfz39_4 := blk_frozen BK655.out 4
        have hfz39_5 := blk_frozen BK655.out 5
        have hfz39_6 := blk_frozen BK655.out 6
        have hnb40 := NB683_656.out
        have hnc40 := NB656_683.out
        have hnb41 := NB683_673.out
        have hnc41 := NB673_683.out
        have hcz42_0 : w30.cell? ⟨gb683, 0, none⟩ = some (.int .i64 0) := (blk_cell BK683.out 0).trans rfl
        have hcz42_1 : w30.cell? ⟨gb683, 1, none⟩ = some (.int .i64 0) := (blk_cell BK683.out 1).trans rfl
        have hcz42_2 : w30.cell? ⟨gb683, 2, none⟩ = some (.int .i64 0) := (blk_cell BK683.out 2).trans rfl
        have hcz42_3 : w30.cell? ⟨gb683, 3, none⟩ = some (.bool false) := (blk_cell BK683.out 3).trans rfl
        have hcz42_4 : w30.cell? ⟨gb683, 4, none⟩ = some (.string (⟨#[]⟩ : ByteArray)) := (blk_cell BK683.out 4).trans rfl
        have hcz42_5 : w30.cell? ⟨gb683, 5, none⟩ = some (.int .i64 0) := (blk_cell BK683.out 5).trans rfl
        have hfz42_0 := blk_frozen BK683.out 0
        have hfz42_1 := blk_frozen BK683.out 1
        have hfz42_2 := blk_frozen BK683.out 2
        have hfz42_3 := blk_frozen BK683.out 3
        have hfz42_4 := blk_frozen BK683.out 4
        have hfz42_5 := blk_frozen BK683.out 5
        go_wp2
        go_meet
        case rel => exact ⟨_, ((t679 == 0)), (by first | rfl | (simp; done) | (simp [*]; done)), H', ⟨by first | omega | exact Nat.le_refl _⟩, ⟨by (with_reducible repeat (first | apply Kd.R_alloc | apply Kd.R_drewN | apply Kd.R_drew)); exact Kd.R_mono (Kd.R_far (p := ⟨gb683, 5, none⟩) (Kd.R_far (p := ⟨gb683, 4, none⟩) (Kd.R_far (p := ⟨gb683, 3, none⟩) (Kd.R_far (p := ⟨gb683, 2, none⟩) (Kd.R_far (p := ⟨gb683, 1, none⟩) (Kd.R_far (p := ⟨gb683, 0, none⟩) (Kd.R_types HO676.out BK683.out (by decide)) (fun _ hk => hk.2) (.int .i64 t677)) (fun _ hk => hk.2) (.int .i64 t678)) (fun _ hk => hk.2) (.int .i64 t679)) (fun _ hk => hk.2) (.bool t680)) (fun _ hk => hk.2) (.string t681)) (fun _ hk => hk.2) (.int .i64 t682)) (fun _ hk => hk.1.2)⟩, ⟨by (with_reducible repeat (first | refine blk_drewN ?_ _ | refine blk_drew ?_ | refine blk_alloc ?_ _)); refine blk_far ?_ NB655_683.out _; (with_reducible repeat (first | refine blk_drewN ?_ _ | refine blk_drew ?_ | refine blk_alloc ?_ _)); refine blk_far ?_ NB655_683.out _; (with_reducible repeat (first | refine blk_drewN ?_ _ | refine blk_drew ?_ | refine blk_alloc ?_ _)); refine blk_far ?_ NB655_683.out _; (with_reducible repeat (first | refine blk_drewN ?_ _ | refine blk_drew ?_ | refine blk_alloc ?_ _)); refine blk_far ?_ NB655_683.out _; (with_reducible repeat (first | refine blk_drewN ?_ _ | refine blk_drew ?_ | refine blk_alloc ?_ _)); refine blk_far ?_ NB655_683.out _; (with_reducible repeat (first | refine blk_drewN ?_ _ | refine blk_drew ?_ | refine blk_alloc ?_ _)); refine blk_far ?_ NB655_683.out _; (with_reducible repeat (first | refine blk_drewN ?_ _ | refine blk_drew ?_ | refine blk_alloc ?_ _)); exact BK655.out⟩, ⟨by (with_reducible repeat (first | refine blk_drewN ?_ _ | refine blk_drew ?_ | refine blk_alloc ?_ _)); refine blk_far ?_ NB656_683.out _; (with_reducible repeat (first | refine blk_drewN ?_ _ | refine blk_drew ?_ | refine blk_alloc ?_ _)); refine blk_far ?_ NB656_683.out _; (with_reducible repeat (first | refine blk_drewN ?_ _ | refine blk_drew ?_ | refine blk_alloc ?_ _)); refine blk_far ?_ NB656_683.out _; (with_reducible repeat (first | refine blk_drewN ?_ _ | refine blk_drew ?_ | refine blk_alloc ?_ _)); refine blk_far ?_ NB656_683.out _; (with_reducible repeat (first | refine blk_drewN ?_ _ | refine blk_drew ?_ | refine blk_alloc ?_ _)); refine blk_far ?_ NB656_683.out _; (with_reducible repeat (first | refine blk_drewN ?_ _ | refine blk_drew ?_ | refine blk_alloc ?_ _)); refine blk_far ?_ NB656_683.out _; (with_reducible repeat (first | refine blk_drewN ?_ _ | refine blk_drew ?_ | refine blk_alloc ?_ _)); exact BK656.out⟩, ⟨by (with_reducible repeat (first | refine blk_drewN ?_ _ | refine blk_drew ?_ | refine blk_alloc ?_ _)); refine blk_far ?_ NB673_683.out _; (with_reducible repeat (first | refine blk_drewN ?_ _ | refine blk_drew ?_ | refine blk_alloc ?_ _)); refine blk_far ?_ NB673_683.out _; (with_reducible repeat (first | refine blk_drewN ?_ _ | refine blk_drew ?_ | refine blk_alloc ?_ _)); refine blk_far ?_ NB673_683.out _; (with_reducible repeat (first | refine blk_drewN ?_ _ | refine blk_drew ?_ | refine blk_alloc ?_ _)); refine blk_far ?_ NB673_683.out _; (with_reducible repeat (first | refine blk_drewN ?_ _ | refine blk_drew ?_ | refine blk_alloc ?_ _)); refine blk_far ?_ NB673_683.out _; (with_reducible repeat (first | refine blk_drewN ?_ _ | refine blk_drew ?_ | refine blk_alloc ?_ _)); refine blk_far ?_ NB673_683.out _; (with_reducible repeat (first | refine blk_drewN ?_ _ | refine blk_drew ?_ | refine blk_alloc ?_ _)); exact BK673.out⟩, ⟨by (with_reducible repeat (first | refine blk_drewN ?_ _ | refine blk_drew ?_ | refine blk_alloc ?_ _)); refine blk_put (cs := #[.int .i64 t677, .int .i64 t678, .int .i64 t679, .bool t680, .string t681, .int .i64 0]) ?_ 5 _ rfl; (with_reducible repeat (first | refine blk_drewN ?_ _ | refine blk_drew ?_ | refine blk_alloc ?_ _)); refine blk_put (cs := #[.int .i64 t677, .int .i64 t678, .int .i64 t679, .bool t680, .string (⟨#[]⟩ : ByteArray), .int .i64 0]) ?_ 4 _ rfl; (with_reducible repeat (first | refine blk_drewN ?_ _ | refine blk_drew ?_ | refine blk_alloc ?_ _)); refine blk_put (cs := #[.int .i64 t677, .int .i64 t678, .int .i64 t679, .bool false, .string (⟨#[]⟩ : ByteArray), .int .i64 0]) ?_ 3 _ rfl; (with_reducible repeat (first | refine blk_drewN ?_ _ | refine blk_drew ?_ | refine blk_alloc ?_ _)); refine blk_put (cs := #[.int .i64 t677, .int .i64 t678, .int .i64 0, .bool false, .string (⟨#[]⟩ : ByteArray), .int .i64 0]) ?_ 2 _ rfl; (with_reducible repeat (first | refine blk_drewN ?_ _ | refine blk_drew ?_ | refine blk_alloc ?_ _)); refine blk_put (cs := #[.int .i64 t677, .int .i64 0, .int .i64 0, .bool false, .string (⟨#[]⟩ : ByteArray), .int .i64 0]) ?_ 1 _ rfl; (with_reducible repeat (first | refine blk_drewN ?_ _ | refine blk_drew ?_ | refine blk_alloc ?_ _)); refine blk_put (cs := #[.int .i64 0, .int .i64 0, .int .i64 0, .bool false, .string (⟨#[]⟩ : ByteArray), .int .i64 0]) ?_ 0 _ rfl; (with_reducible repeat (first | refine blk_drewN ?_ _ | refine blk_drew ?_ | refine blk_alloc ?_ _)); exact BK683.out⟩, ⟨by repeat (first | (with_reducible first | exact HB.out | apply below_alloc | apply pw_below_drewN | apply below_drew1 | refine below_set ?_ GE655.out | refine below_set ?_ GE656.out | refine below_set ?_ GE673.out | refine below_set ?_ GE683.out) | exact HB.out)⟩⟩
      · rw [if_neg c35] at H
        have c35b0 : (a1_0 == 2) = false := beq_eq_false_iff_ne.mpr c35
        have c35b1 : (a1_0 != 2) = true := bne_iff_ne.mpr c35
        (first | rw [c35b0] | (simp only [i64_w, i32_w]; rw [c35b0]) | skip)
        have H' := Aside0.mk H
        clear H
        have hnb43 := NB655_656.out
        have hnc43 := NB656_655.out
        have hnb44 := NB655_673.out
        have hnc44 := NB673_655.out
        have hnb45 := NB655_683.out
        have hnc45 := NB683_655.out
        have hcz46_0 : w30.cell? ⟨gb655, 0, none⟩ = some (.int .i64 a1_0) := (blk_cell BK655.out 0).trans rfl
        have hcz46_1 : w30.cell? ⟨gb655, 1, none⟩ = some (.int .i64 a1_1) := (blk_cell BK655.out 1).trans rfl
        have hcz46_2 : w30.cell? ⟨gb655, 2, none⟩ = some (.int .i64 a1_2) := (blk_cell BK655.out 2).trans rfl
        have hcz46_3 : w30.cell? ⟨gb655, 3, none⟩ = some (.string a1_3) := (blk_cell BK655.out 3).trans rfl
        have hcz46_4 : w30.cell? ⟨gb655, 4, none⟩ = some (.string a1_4) := (blk_cell BK655.out 4).trans rfl
        have hcz46_5 : w30.cell? ⟨gb655, 5, none⟩ = some (.string a1_5) := (blk_cell BK655.out 5).trans rfl
        have hcz46_6 : w30.cell? ⟨gb655, 6, none⟩ = some (.int .i64 a1_6) := (blk_cell BK655.out 6).trans rfl
        have hfz46_0 := blk_frozen BK655.out 0
        have hfz46_1 := blk_frozen BK655.out 1
        have hfz46_2 := blk_frozen BK655.out 2
        have hfz46_3 := blk_frozen BK655.out 3
        have hfz46_4 := blk_frozen BK655.out 4
        have hfz46_5 := blk_frozen BK655.out 5
        have hfz46_6 := blk_frozen BK655.out 6
        go_wp2
        go_meet
        case rel => exact ⟨_, (false), (by first | rfl | (simp; done) | (simp [*]; done)), H', ⟨by first | omega | exact Nat.le_refl _⟩, ⟨by (with_reducible repeat (first | apply Kd.R_alloc | apply Kd.R_drewN | apply Kd.R_drew)); exact Kd.R_mono (Kd.R_far (p := ⟨gb683, 5, none⟩) (Kd.R_far (p := ⟨gb683, 4, none⟩) (Kd.R_far (p := ⟨gb683, 3, none⟩) (Kd.R_far (p := ⟨gb683, 2, none⟩) (Kd.R_far (p := ⟨gb683, 1, none⟩) (Kd.R_far (p := ⟨gb683, 0, none⟩) (Kd.R_types HO676.out BK683.out (by decide)) (fun _ hk => hk.2) (.int .i64 t677)) (fun _ hk => hk.2) (.int .i64 t678)) (fun _ hk => hk.2) (.int .i64 t679)) (fun _ hk => hk.2) (.bool t680)) (fun _ hk => hk.2) (.string t681)) (fun _ hk => hk.2) (.int .i64 t682)) (fun _ hk => hk.1.2)⟩, ⟨by (with_reducible repeat (first | refine blk_drewN ?_ _ | refine blk_drew ?_ | refine blk_alloc ?_ _)); refine blk_far ?_ NB655_683.out _; (with_reducible repeat (first | refine blk_drewN ?_ _ | refine blk_drew ?_ | refine blk_alloc ?_ _)); refine blk_far ?_ NB655_683.out _; (with_reducible repeat (first | refine blk_drewN ?_ _ | refine blk_drew ?_ | refine blk_alloc ?_ _)); refine blk_far ?_ NB655_683.out _; (with_reducible repeat (first | refine blk_drewN ?_ _ | refine blk_drew ?_ | refine blk_alloc ?_ _)); refine blk_far ?_ NB655_683.out _; (with_reducible repeat (first | refine blk_drewN ?_ _ | refine blk_drew ?_ | refine blk_alloc ?_ _)); refine blk_far ?_ NB655_683.out _; (with_reducible repeat (first | refine blk_drewN ?_ _ | refine blk_drew ?_ | refine blk_alloc ?_ _)); refine blk_far ?_ NB655_683.out _; (with_reducible repeat (first | refine blk_drewN ?_ _ | refine blk_drew ?_ | refine blk_alloc ?_ _)); exact BK655.out⟩, ⟨by (with_reducible repeat (first | refine blk_drewN ?_ _ | refine blk_drew ?_ | refine blk_alloc ?_ _)); refine blk_far ?_ NB656_683.out _; (with_reducible repeat (first | refine blk_drewN ?_ _ | refine blk_drew ?_ | refine blk_alloc ?_ _)); refine blk_far ?_ NB656_683.out _; (with_reducible repeat (first | refine blk_drewN ?_ _ | refine blk_drew ?_ | refine blk_alloc ?_ _)); refine blk_far ?_ NB656_683.out _; (with_reducible repeat (first | refine blk_drewN ?_ _ | refine blk_drew ?_ | refine blk_alloc ?_ _)); refine blk_far ?_ NB656_683.out _; (with_reducible repeat (first | refine blk_drewN ?_ _ | refine blk_drew ?_ | refine blk_alloc ?_ _)); refine blk_far ?_ NB656_683.out _; (with_reducible repeat (first | refine blk_drewN ?_ _ | refine blk_drew ?_ | refine blk_alloc ?_ _)); refine blk_far ?_ NB656_683.out _; (with_reducible repeat (first | refine blk_drewN ?_ _ | refine blk_drew ?_ | refine blk_alloc ?_ _)); exact BK656.out⟩, ⟨by (with_reducible repeat (first | refine blk_drewN ?_ _ | refine blk_drew ?_ | refine blk_alloc ?_ _)); refine blk_far ?_ NB673_683.out _; (with_reducible repeat (first | refine blk_drewN ?_ _ | refine blk_drew ?_ | refine blk_alloc ?_ _)); refine blk_far ?_ NB673_683.out _; (with_reducible repeat (first | refine blk_drewN ?_ _ | refine blk_drew ?_ | refine blk_alloc ?_ _)); refine blk_far ?_ NB673_683.out _; (with_reducible repeat (first | refine blk_drewN ?_ _ | refine blk_drew ?_ | refine blk_alloc ?_ _)); refine blk_far ?_ NB673_683.out _; (with_reducible repeat (first | refine blk_drewN ?_ _ | refine blk_drew ?_ | refine blk_alloc ?_ _)); refine blk_far ?_ NB673_683.out _; (with_reducible repeat (first | refine blk_drewN ?_ _ | refine blk_drew ?_ | refine blk_alloc ?_ _)); refine blk_far ?_ NB673_683.out _; (with_reducible repeat (first | refine blk_drewN ?_ _ | refine blk_drew ?_ | refine blk_alloc ?_ _)); exact BK673.out⟩, ⟨by (with_reducible repeat (first | refine blk_drewN ?_ _ | refine blk_drew ?_ | refine blk_alloc ?_ _)); refine blk_put (cs := #[.int .i64 t677, .int .i64 t678, .int .i64 t679, .bool t680, .string t681, .int .i64 0]) ?_ 5 _ rfl; (with_reducible repeat (first | refine blk_drewN ?_ _ | refine blk_drew ?_ | refine blk_alloc ?_ _)); refine blk_put (cs := #[.int .i64 t677, .int .i64 t678, .int .i64 t679, .bool t680, .string (⟨#[]⟩ : ByteArray), .int .i64 0]) ?_ 4 _ rfl; (with_reducible repeat (first | refine blk_drewN ?_ _ | refine blk_drew ?_ | refine blk_alloc ?_ _)); refine blk_put (cs := #[.int .i64 t677, .int .i64 t678, .int .i64 t679, .bool false, .string (⟨#[]⟩ : ByteArray), .int .i64 0]) ?_ 3 _ rfl; (with_reducible repeat (first | refine blk_drewN ?_ _ | refine blk_drew ?_ | refine blk_alloc ?_ _)); refine blk_put (cs := #[.int .i64 t677, .int .i64 t678, .int .i64 0, .bool false, .string (⟨#[]⟩ : ByteArray), .int .i64 0]) ?_ 2 _ rfl; (with_reducible repeat (first | refine blk_drewN ?_ _ | refine blk_drew ?_ | refine blk_alloc ?_ _)); refine blk_put (cs := #[.int .i64 t677, .int .i64 0, .int .i64 0, .bool false, .string (⟨#[]⟩ : ByteArray), .int .i64 0]) ?_ 1 _ rfl; (with_reducible repeat (first | refine blk_drewN ?_ _ | refine blk_drew ?_ | refine blk_alloc ?_ _)); refine blk_put (cs := #[.int .i64 0, .int .i64 0, .int .i64 0, .bool false, .string (⟨#[]⟩ : ByteArray), .int .i64 0]) ?_ 0 _ rfl; (with_reducible repeat (first | refine blk_drewN ?_ _ | refine blk_drew ?_ | refine blk_alloc ?_ _)); exact BK683.out⟩, ⟨by repeat (first | (with_reducible first | exact HB.out | apply below_alloc | apply pw_below_drewN | apply below_drew1 | refine below_set ?_ GE655.out | refine below_set ?_ GE656.out | refine below_set ?_ GE673.out | refine below_set ?_ GE683.out) | exact HB.out)⟩⟩
    case rest =>
      clear HC16
      try clear c1
      try clear c2
      try clear p2
      try clear c3
      try clear c4
      try clear c4b0
      try clear c4b1
      try clear c5
      try clear c6
      try clear c9
      try clear c10
      try clear c20
      try clear c25
      try clear c26
      try clear c31
      try clear c32
      try clear c33
      try clear c35
      try clear c35b0
      try clear c35b1
      try clear c36
      try clear c37
      try clear c38
      try clear c40
      try clear c41
      try clear c43
      try clear c44
      try clear c45
      try clear hcz10_0
      try clear hcz10_1
      try clear hcz10_2
      try clear hcz10_3
      try clear hcz10_4
      try clear hcz10_5
      try clear hcz10_6
      try clear hcz13_0
      try clear hcz13_1
      try clear hcz13_2
      try clear hcz13_3
      try clear hcz13_4
      try clear hcz13_5
      try clear hcz21_0
      try clear hcz21_1
      try clear hcz21_2
      try clear hcz21_3
      try clear hcz21_4
      try clear hcz21_5
      try clear hcz21_6
      try clear hcz27_0
      try clear hcz27_1
      try clear hcz27_2
      try clear hcz28_0
      try clear hcz28_1
      try clear hcz28_2
      try clear hcz28_3
      try clear hcz28_4
      try clear hcz28_5
      try clear hcz28_6
      try clear hcz34_0
      try clear hcz34_1
      try clear hcz34_2
      try clear hcz34_3
      try clear hcz34_4
      try clear hcz34_5
      try clear hcz39_0
      try clear hcz39_1
      try clear hcz39_2
      try clear hcz39_3
      try clear hcz39_4
      try clear hcz39_5
      try clear hcz39_6
      try clear hcz42_0
      try clear hcz42_1
      try clear hcz42_2
      try clear hcz42_3
      try clear hcz42_4
      try clear hcz42_5
      try clear hcz46_0
      try clear hcz46_1
      try clear hcz46_2
      try clear hcz46_3
      try clear hcz46_4
      try clear hcz46_5
      try clear hcz46_6
      try clear hfz10_0
      try clear hfz10_1
      try clear hfz10_2
      try clear hfz10_3
      try clear hfz10_4
      try clear hfz10_5
      try clear hfz10_6
      try clear hfz13_0
      try clear hfz13_1
      try clear hfz13_2
      try clear hfz13_3
      try clear hfz13_4
      try clear hfz13_5
      try clear hfz21_0
      try clear hfz21_1
      try clear hfz21_2
      try clear hfz21_3
      try clear hfz21_4
      try clear hfz21_5
      try clear hfz21_6
      try clear hfz27_0
      try clear hfz27_1
      try clear hfz27_2
      try clear hfz28_0
      try clear hfz28_1
      try clear hfz28_2
      try clear hfz28_3
      try clear hfz28_4
      try clear hfz28_5
      try clear hfz28_6
      try clear hfz34_0
      try clear hfz34_1
      try clear hfz34_2
      try clear hfz34_3
      try clear hfz34_4
      try clear hfz34_5
      try clear hfz39_0
      try clear hfz39_1
      try clear hfz39_2
      try clear hfz39_3
      try clear hfz39_4
      try clear hfz39_5
      try clear hfz39_6
      try clear hfz42_0
      try clear hfz42_1
      try clear hfz42_2
      try clear hfz42_3
      try clear hfz42_4
      try clear hfz42_5
      try clear hfz46_0
      try clear hfz46_1
      try clear hfz46_2
      try clear hfz46_3
      try clear hfz46_4
      try clear hfz46_5
      try clear hfz46_6
      obtain ⟨kq, x41_15, rfl, HA, HJ15, HO_9, BK655, BK656, BK673, BK683, HB⟩ := hcut
      cases kq with
      | zero => exact absurd HA.out (by simp [kvtwo_Do.j0])
      | succ kj15 =>
        have H := HA.out
        clear HA
        simp only [kvtwo_Do.j0] at H
        by_cases c47 : x41_15 = true
        · subst c47
          have H1 : ((kvtwo_next.f t671).bind fun t684 => ((kvtwo_set.f kj15 t674 a1_3 a1_4 t684).bind fun t685 => (some (t685, t677, t678, t679, t680, t681, t682)))) = some (r1, r2, r3, r4, r5, r6, r7) := by rw [if_pos rfl] at H; exact H
          clear H
          have H := H1
          clear H1
          replace H := Option.bind_eq_some_iff.mp H
          obtain ⟨t684, A480, H⟩ := H
          replace H : ((kvtwo_set.f kj15 t674 a1_3 a1_4 t684).bind fun t685 => (some (t685, t677, t678, t679, t680, t681, t682))) = some (r1, r2, r3, r4, r5, r6, r7) := H
          have A48 := Aside0.mk A480
          clear A480
          replace H := Option.bind_eq_some_iff.mp H
          obtain ⟨t685, A490, H⟩ := H
          replace H : (some (t685, t677, t678, t679, t680, t681, t682)) = some (r1, r2, r3, r4, r5, r6, r7) := H
          have A49 := Aside0.mk A490
          clear A490
          simp only [Option.some.injEq, Prod.mk.injEq] at H
          obtain ⟨rfl, rfl, rfl, rfl, rfl, rfl, rfl⟩ := H
          try go_wp2
          have n0_ := Aside0.mk (Kd.R_drew HO_9.out)
          have n1_ := Aside0.mk (blk_drew BK655.out)
          have n2_ := Aside0.mk (blk_drew BK656.out)
          have n3_ := Aside0.mk (blk_drew BK673.out)
          have n4_ := Aside0.mk (blk_drew BK683.out)
          have n5_ := Aside0.mk (below_drew1 HB.out)
          clear HO_9
          clear BK655
          clear BK656
          clear BK673
          clear BK683
          clear HB
          have HO_9 := n0_
          have BK655 := n1_
          have BK656 := n2_
          have BK673 := n3_
          have BK683 := n4_
          have HB := n5_
          clear n0_ n1_ n2_ n3_ n4_ n5_
          refine start_ (n := 11) (S := fun w' => w'.cell? ⟨gb655, 0, none⟩ = some (.int .i64 a1_0) ∧ w'.cell? ⟨gb655, 1, none⟩ = some (.int .i64 a1_1) ∧ w'.cell? ⟨gb655, 2, none⟩ = some (.int .i64 a1_2) ∧ w'.cell? ⟨gb655, 3, none⟩ = some (.string a1_3) ∧ w'.cell? ⟨gb655, 4, none⟩ = some (.string a1_4) ∧ w'.cell? ⟨gb655, 5, none⟩ = some (.string a1_5) ∧ w'.cell? ⟨gb655, 6, none⟩ = some (.int .i64 a1_6) ∧ w'.cell? ⟨gb673, 0, none⟩ = some (.string t669) ∧ w'.cell? ⟨gb673, 1, none⟩ = some (.string t670) ∧ w'.cell? ⟨gb673, 2, none⟩ = some (.int .i64 t671)) (ds := []) #[false, false, false, false, false, false, false, false, false, false, false] (by kernel_rfl) rfl rfl ⟨(blk_cell BK655.out 0).trans rfl, (blk_cell BK655.out 1).trans rfl, (blk_cell BK655.out 2).trans rfl, (blk_cell BK655.out 3).trans rfl, (blk_cell BK655.out 4).trans rfl, (blk_cell BK655.out 5).trans rfl, (blk_cell BK655.out 6).trans rfl, (blk_cell BK673.out 0).trans rfl, (blk_cell BK673.out 1).trans rfl, (blk_cell BK673.out 2).trans rfl⟩ (fun hHeld => ?_); refine with_tabW kvtwo_Do.tab7 kvtwo_Do.bits7 (fun HT_ HW_ => ?_)
          generalize wc.drew = w50 at HO_9 BK655 BK656 BK673 BK683 HB hHeld ⊢
          refine pure_ (i := 0) (N := some 42) (v := ?_) (a' := ?_) #[true, false, false, false, false, false, false, false, false, false, false] rfl rfl (any_of HT_.out (by kernel_rfl)) (fun _ _ _ h => h) (Or.inl ⟨by rfl, ?_⟩) ?_ ?_
          rotate_left
          · intro w'
            go_simp
            with_reducible rfl
          rotate_left
          · simp only [Act.put, List.setIfInBounds_toArray, List.set_cons_zero, List.set_cons_succ, i64_w, i32_w]
            rfl
          refine pure_ (i := 1) (N := some 43) (v := ?_) (a' := ?_) #[true, true, false, false, false, false, false, false, false, false, false] rfl rfl (any_of HT_.out (by kernel_rfl)) (fun _ _ _ h => h) (Or.inl ⟨by rfl, ?_⟩) ?_ ?_
          rotate_left
          · intro w'
            go_simp
            with_reducible rfl
          rotate_left
          · simp only [Act.put, List.setIfInBounds_toArray, List.set_cons_zero, List.set_cons_succ, i64_w, i32_w]
            rfl
          refine pure_ (i := 3) (N := some 45) (v := ?_) (a' := ?_) #[true, true, false, true, false, false, false, false, false, false, false] rfl rfl (any_of HT_.out (by kernel_rfl)) (fun _ _ _ h => h) (Or.inl ⟨by rfl, ?_⟩) ?_ ?_
          rotate_left
          · intro w'
            go_simp
            with_reducible rfl
          rotate_left
          · simp only [Act.put, List.setIfInBounds_toArray, List.set_cons_zero, List.set_cons_succ, i64_w, i32_w]
            rfl
          refine pure_ (i := 5) (N := some 47) (v := ?_) (a' := ?_) #[true, true, false, true, false, true, false, false, false, false, false] rfl rfl (any_of HT_.out (by kernel_rfl)) (fun _ _ _ h => h) (Or.inl ⟨by rfl, ?_⟩) ?_ ?_
          rotate_left
          · intro w'
            go_simp
            with_reducible rfl
          rotate_left
          · simp only [Act.put, List.setIfInBounds_toArray, List.set_cons_zero, List.set_cons_succ, i64_w, i32_w]
            rfl
          refine take_ (i := 2) (N := some 44) (v := ?_) (a' := ?_) #[true, true, true, true, false, true, false, false, false, false, false] rfl rfl (take_ofW HT_.out HW_.out (by kernel_rfl)) (fun _ _ _ h => h) (Or.inl ⟨by rfl, ?_⟩) hHeld ?_ ?_
          rotate_left
          · rintro w' ⟨s0, s1, s2, s3, s4, s5, s6, s7, s8, s9⟩
            go_simp
            with_reducible rfl
          rotate_left
          · simp only [Act.put, List.setIfInBounds_toArray, List.set_cons_zero, List.set_cons_succ, i64_w, i32_w]
            rfl
          refine take_ (i := 4) (N := some 46) (v := ?_) (a' := ?_) #[true, true, true, true, true, true, false, false, false, false, false] rfl rfl (take_ofW HT_.out HW_.out (by kernel_rfl)) (fun _ _ _ h => h) (Or.inl ⟨by rfl, ?_⟩) hHeld ?_ ?_
          rotate_left
          · rintro w' ⟨s0, s1, s2, s3, s4, s5, s6, s7, s8, s9⟩
            go_simp
            with_reducible rfl
          rotate_left
          · simp only [Act.put, List.setIfInBounds_toArray, List.set_cons_zero, List.set_cons_succ, i64_w, i32_w]
            rfl
          refine take_ (i := 6) (N := some 48) (v := ?_) (a' := ?_) #[true, true, true, true, true, true, true, false, false, false, false] rfl rfl (take_ofW HT_.out HW_.out (by kernel_rfl)) (fun _ _ _ h => h) (Or.inl ⟨by rfl, ?_⟩) hHeld ?_ ?_
          rotate_left
          · rintro w' ⟨s0, s1, s2, s3, s4, s5, s6, s7, s8, s9⟩
            go_simp
            with_reducible rfl
          rotate_left
          · simp only [Act.put, List.setIfInBounds_toArray, List.set_cons_zero, List.set_cons_succ, i64_w, i32_w]
            rfl
          refine one_ (i := 7) (N := some 49) #[true, true, true, true, true, true, true, true, false, false, false] rfl rfl (one_of HT_.out (by kernel_rfl)) (by decide) (fun K hK => ?_)
          refine goes_ Try.func103 (by kernel_rfl) rfl #[.int .i64 t671] (by rfl) rfl rfl (by (try simp only [List.map_toArray, List.map_cons, List.map_nil]); first | done | rfl | (simp only [List.length_drop, List.length_take]; rfl)) ?_
          with_reducible refine (kvtwo_next.calls t671 t684 _ A48.out).mono ?_
          rintro e w51 ⟨rfl, hb⟩
          refine ⟨_, rfl, ?_⟩
          have n0_ := Aside0.mk (Kd.R_below (by (with_reducible repeat (first | apply Kd.R_alloc | apply Kd.R_drewN | apply Kd.R_drew)); exact HO_9.out) hb)
          have n1_ := Aside0.mk (blk_below (g := gb655) (o := .cells #[.int .i64 a1_0, .int .i64 a1_1, .int .i64 a1_2, .string a1_3, .string a1_4, .string a1_5, .int .i64 a1_6] 72 (0, 0)) (by (with_reducible repeat (first | refine blk_drewN ?_ _ | refine blk_drew ?_ | refine blk_alloc ?_ _)); exact BK655.out) hb)
          have n2_ := Aside0.mk (blk_below (g := gb656) (o := .cells #[.int .i64 0, .int .i64 0, .int .i64 0, .bool false, .string (⟨#[]⟩ : ByteArray), .int .i64 0] 60 (0, 0)) (by (with_reducible repeat (first | refine blk_drewN ?_ _ | refine blk_drew ?_ | refine blk_alloc ?_ _)); exact BK656.out) hb)
          have n3_ := Aside0.mk (blk_below (g := gb673) (o := .cells #[.string t669, .string t670, .int .i64 t671] 78 (0, 0)) (by (with_reducible repeat (first | refine blk_drewN ?_ _ | refine blk_drew ?_ | refine blk_alloc ?_ _)); exact BK673.out) hb)
          have n4_ := Aside0.mk (blk_below (g := gb683) (o := .cells #[.int .i64 t677, .int .i64 t678, .int .i64 t679, .bool t680, .string t681, .int .i64 t682] 60 (0, 0)) (by (with_reducible repeat (first | refine blk_drewN ?_ _ | refine blk_drew ?_ | refine blk_alloc ?_ _)); exact BK683.out) hb)
          have n5_ := Aside0.mk (below_step (by repeat (first | (with_reducible first | exact HB.out | apply below_alloc | apply pw_below_drewN | apply below_drew1 | refine below_set ?_ GE655.out | refine below_set ?_ GE656.out | refine below_set ?_ GE673.out | refine below_set ?_ GE683.out) | exact HB.out)) hb)
          clear HO_9
          clear BK655
          clear BK656
          clear BK673
          clear BK683
          clear HB
          have HO_9 := n0_
          have BK655 := n1_
          have BK656 := n2_
          have BK673 := n3_
          have BK683 := n4_
          have HB := n5_
          clear n0_ n1_ n2_ n3_ n4_ n5_
          (try clear hb)
          (try clear hb2)
          (try clear hk)
          (try clear hi)
          obtain ⟨Ao52, co52, eo52⟩ := Kd.R_slice HO_9.out
          (first | subst eo52 | (injection eo52 with f1_ f2_ f3_; have f4_ := f1_.symm; have f5_ := f3_.symm; clear f1_ f2_ f3_; subst f4_; subst f5_))
          refine hK.out _ _ ⟨(blk_cell BK655.out 0).trans rfl, (blk_cell BK655.out 1).trans rfl, (blk_cell BK655.out 2).trans rfl, (blk_cell BK655.out 3).trans rfl, (blk_cell BK655.out 4).trans rfl, (blk_cell BK655.out 5).trans rfl, (blk_cell BK655.out 6).trans rfl, (blk_cell BK673.out 0).trans rfl, (blk_cell BK673.out 1).trans rfl, (blk_cell BK673.out 2).trans rfl⟩ (fun hHeld => ?_)
          clear hK K
          refine norm_ (a' := ?_) ?_ ?_
          rotate_left
          · show Act.put _ (some 49) _ = _
            simp only [Act.put, List.setIfInBounds_toArray, List.set_cons_zero, List.set_cons_succ, i64_w, i32_w]
            rfl
          refine pure_ (i := 8) (N := some 50) (v := ?_) (a' := ?_) #[true, true, true, true, true, true, true, true, true, false, false] rfl rfl (any_of HT_.out (by kernel_rfl)) (fun _ _ _ h => h) (Or.inl ⟨by rfl, ?_⟩) ?_ ?_
          rotate_left
          · intro w'
            go_simp
            with_reducible rfl
          rotate_left
          · simp only [Act.put, List.setIfInBounds_toArray, List.set_cons_zero, List.set_cons_succ, i64_w, i32_w]
            rfl
          refine one_ (i := 9) (N := some 51) #[true, true, true, true, true, true, true, true, true, true, false] rfl rfl (one_of HT_.out (by kernel_rfl)) (by decide) (fun K hK => ?_)
          refine goes_ Try.func102 (by kernel_rfl) rfl #[.slice Ao52 t674.length co52, .agg #[.string a1_3, .string a1_4, .int .i64 t684]] (by rfl) rfl rfl (by (try simp only [List.map_toArray, List.map_cons, List.map_nil]); first | done | rfl | (simp only [List.length_drop, List.length_take]; rfl)) ?_
          with_reducible refine (kvtwo_set.calls kj15 (fun k_ => some k_ = (.slice Ao52 t674.length co52 : Value).ownBlock) (.slice Ao52 t674.length co52) t674 a1_3 a1_4 t684 t685 w _ ?side1 ?side2 A49.out).mono ?_
          (case side1 => repeat (first | (with_reducible first | exact HB.out | apply below_alloc | apply pw_below_drewN | apply below_drew1 | refine below_set ?_ GE655.out | refine below_set ?_ GE656.out | refine below_set ?_ GE673.out | refine below_set ?_ GE683.out) | exact HB.out))
          (case side2 => exact Kd.R_tight rfl HO_9.out)
          rintro e w53 ⟨v686, rfl, ho0, hb, hkp⟩
          refine ⟨_, rfl, ?_⟩
          have n0_ := Aside0.mk (blk_kept (by (with_reducible repeat (first | refine blk_drewN ?_ _ | refine blk_drew ?_ | refine blk_alloc ?_ _)); exact BK655.out) hkp (fun hs_ => (fun e_ => (Kd.R_ne HO_9.out BK655.out (by decide)) e_) hs_))
          have n1_ := Aside0.mk (blk_kept (by (with_reducible repeat (first | refine blk_drewN ?_ _ | refine blk_drew ?_ | refine blk_alloc ?_ _)); exact BK656.out) hkp (fun hs_ => (fun e_ => (Kd.R_ne HO_9.out BK656.out (by decide)) e_) hs_))
          have n2_ := Aside0.mk (blk_kept (by (with_reducible repeat (first | refine blk_drewN ?_ _ | refine blk_drew ?_ | refine blk_alloc ?_ _)); exact BK673.out) hkp (fun hs_ => (fun e_ => (Kd.R_away HO_9.out (fun _ hk => hk)) e_) hs_))
          have n3_ := Aside0.mk (blk_kept (by (with_reducible repeat (first | refine blk_drewN ?_ _ | refine blk_drew ?_ | refine blk_alloc ?_ _)); exact BK683.out) hkp (fun hs_ => (fun e_ => (Kd.R_ne HO_9.out BK683.out (by decide)) e_) hs_))
          have n4_ := Aside0.mk (Kd.R_mono (ok' := fun k_ => k_ ≠ gb673) ho0 (fun k_ hk_ => Or.elim hk_ (fun hs_ => fun e_ => (Kd.R_away HO_9.out (fun _ hk => hk)) (by rw [← e_]; exact hs_)) (fun hn_ => (Kd.freshB (g := gb673) (o := .cells #[.string t669, .string t670, .int .i64 t671] 78 (0, 0)) (by (with_reducible repeat (first | refine blk_drewN ?_ _ | refine blk_drew ?_ | refine blk_alloc ?_ _)); exact BK673.out) k_ hn_))))
          have n5_ := Aside0.mk (hb)
          clear BK655
          clear BK656
          clear BK673
          clear BK683
          clear HB
          clear HO_9
          have BK655 := n0_
          have BK656 := n1_
          have BK673 := n2_
          have BK683 := n3_
          have HO687 := n4_
          have HB := n5_
          clear n0_ n1_ n2_ n3_ n4_ n5_
          (try clear hb)
          (try clear hkp)
          (try clear ho0)
          refine hK.out _ _ ⟨(blk_cell BK655.out 0).trans rfl, (blk_cell BK655.out 1).trans rfl, (blk_cell BK655.out 2).trans rfl, (blk_cell BK655.out 3).trans rfl, (blk_cell BK655.out 4).trans rfl, (blk_cell BK655.out 5).trans rfl, (blk_cell BK655.out 6).trans rfl, (blk_cell BK673.out 0).trans rfl, (blk_cell BK673.out 1).trans rfl, (blk_cell BK673.out 2).trans rfl⟩ (fun hHeld => ?_)
          clear hK K
          refine norm_ (a' := ?_) ?_ ?_
          rotate_left
          · show Act.put _ (some 51) _ = _
            simp only [Act.put, List.setIfInBounds_toArray, List.set_cons_zero, List.set_cons_succ, i64_w, i32_w]
            rfl
          refine pure_ (i := 10) (N := some 9) (v := ?_) (a' := ?_) #[true, true, true, true, true, true, true, true, true, true, true] rfl rfl (any_of HT_.out (by kernel_rfl)) (fun _ _ _ h => h) (Or.inl ⟨by rfl, ?_⟩) ?_ ?_
          rotate_left
          · intro w'
            go_simp
            with_reducible rfl
          rotate_left
          · simp only [Act.put, List.setIfInBounds_toArray, List.set_cons_zero, List.set_cons_succ, i64_w, i32_w]
            rfl
          refine done_ (done_of HT_.out (by kernel_rfl)) ?_
          try go_wp2
          have n0_ := Aside0.mk (Kd.R_drew HO687.out)
          have n1_ := Aside0.mk (blk_drew BK655.out)
          have n2_ := Aside0.mk (blk_drew BK656.out)
          have n3_ := Aside0.mk (blk_drew BK673.out)
          have n4_ := Aside0.mk (blk_drew BK683.out)
          have n5_ := Aside0.mk (below_drew1 HB.out)
          clear HO687
          clear BK655
          clear BK656
          clear BK673
          clear BK683
          clear HB
          have HO687 := n0_
          have BK655 := n1_
          have BK656 := n2_
          have BK673 := n3_
          have BK683 := n4_
          have HB := n5_
          clear n0_ n1_ n2_ n3_ n4_ n5_
          refine start_ (n := 4) (S := fun w' => w'.cell? ⟨gb683, 0, none⟩ = some (.int .i64 t677) ∧ w'.cell? ⟨gb683, 1, none⟩ = some (.int .i64 t678) ∧ w'.cell? ⟨gb683, 2, none⟩ = some (.int .i64 t679) ∧ w'.cell? ⟨gb683, 3, none⟩ = some (.bool t680) ∧ w'.cell? ⟨gb683, 4, none⟩ = some (.string t681) ∧ w'.cell? ⟨gb683, 5, none⟩ = some (.int .i64 t682)) (ds := []) #[false, false, false, false] (by kernel_rfl) rfl rfl ⟨(blk_cell BK683.out 0).trans rfl, (blk_cell BK683.out 1).trans rfl, (blk_cell BK683.out 2).trans rfl, (blk_cell BK683.out 3).trans rfl, (blk_cell BK683.out 4).trans rfl, (blk_cell BK683.out 5).trans rfl⟩ (fun hHeld => ?_)
          generalize w53.drew = w54 at HO687 BK655 BK656 BK673 BK683 HB hHeld ⊢
          refine pure_ (i := 0) (N := some 52) (v := ?_) (a' := ?_) #[true, false, false, false] rfl rfl (by kernel_rfl) (fun _ _ _ h => h) (Or.inl ⟨by rfl, ?_⟩) ?_ ?_
          rotate_left
          · intro w'
            go_simp
            with_reducible rfl
          rotate_left
          · simp only [Act.put, List.setIfInBounds_toArray, List.set_cons_zero, List.set_cons_succ, i64_w, i32_w]
            rfl
          refine pure_ (i := 2) (N := some 4) (v := ?_) (a' := ?_) #[true, false, true, false] rfl rfl (by kernel_rfl) (fun _ _ _ h => h) (Or.inl ⟨by rfl, ?_⟩) ?_ ?_
          rotate_left
          · intro w'
            go_simp
            with_reducible rfl
          rotate_left
          · simp only [Act.put, List.setIfInBounds_toArray, List.set_cons_zero, List.set_cons_succ, i64_w, i32_w]
            rfl
          refine take_ (i := 1) (N := some 53) (v := ?_) (a' := ?_) #[true, true, true, false] rfl rfl (by kernel_rfl) (fun _ _ _ h => h) (Or.inl ⟨by rfl, ?_⟩) hHeld ?_ ?_
          rotate_left
          · rintro w' ⟨s0, s1, s2, s3, s4, s5⟩
            go_simp
            with_reducible rfl
          rotate_left
          · simp only [Act.put, List.setIfInBounds_toArray, List.set_cons_zero, List.set_cons_succ, i64_w, i32_w]
            rfl
          refine one_ (i := 3) (N := none) #[true, true, true, true] rfl rfl (by kernel_rfl) (by decide) (fun K hK => ?_)
          have hs55 : w54.cell? ⟨gb656, 0, none⟩ = some (.int .i64 0) := (blk_cell BK656.out 0).trans rfl
          have hfs55 := blk_frozen BK656.out 0
          have hns55_0 := NB655_656.out
          have hns55_2 := NB673_656.out
          have hns55_3 := NB683_656.out
          have hms55_0 := NB656_655.out
          have hms55_2 := NB656_673.out
          have hms55_3 := NB656_683.out
          have hs56 : w54.cell? ⟨gb656, 1, none⟩ = some (.int .i64 0) := (blk_cell BK656.out 1).trans rfl
          have hfs56 := blk_frozen BK656.out 1
          have hns56_0 := NB655_656.out
          have hns56_2 := NB673_656.out
          have hns56_3 := NB683_656.out
          have hms56_0 := NB656_655.out
          have hms56_2 := NB656_673.out
          have hms56_3 := NB656_683.out
          have hs57 : w54.cell? ⟨gb656, 2, none⟩ = some (.int .i64 0) := (blk_cell BK656.out 2).trans rfl
          have hfs57 := blk_frozen BK656.out 2
          have hns57_0 := NB655_656.out
          have hns57_2 := NB673_656.out
          have hns57_3 := NB683_656.out
          have hms57_0 := NB656_655.out
          have hms57_2 := NB656_673.out
          have hms57_3 := NB656_683.out
          have hs58 : w54.cell? ⟨gb656, 3, none⟩ = some (.bool false) := (blk_cell BK656.out 3).trans rfl
          have hfs58 := blk_frozen BK656.out 3
          have hns58_0 := NB655_656.out
          have hns58_2 := NB673_656.out
          have hns58_3 := NB683_656.out
          have hms58_0 := NB656_655.out
          have hms58_2 := NB656_673.out
          have hms58_3 := NB656_683.out
          have hs59 : w54.cell? ⟨gb656, 4, none⟩ = some (.string (⟨#[]⟩ : ByteArray)) := (blk_cell BK656.out 4).trans rfl
          have hfs59 := blk_frozen BK656.out 4
          have hns59_0 := NB655_656.out
          have hns59_2 := NB673_656.out
          have hns59_3 := NB683_656.out
          have hms59_0 := NB656_655.out
          have hms59_2 := NB656_673.out
          have hms59_3 := NB656_683.out
          have hs60 : w54.cell? ⟨gb656, 5, none⟩ = some (.int .i64 0) := (blk_cell BK656.out 5).trans rfl
          have hfs60 := blk_frozen BK656.out 5
          have hns60_0 := NB655_656.out
          have hns60_2 := NB673_656.out
          have hns60_3 := NB683_656.out
          have hms60_0 := NB656_655.out
          have hms60_2 := NB656_673.out
          have hms60_3 := NB656_683.out
          refine skip_ (w1 := ?_) (by rfl) rfl ?_ ?_
          rotate_left
          · go_simp
            rfl
          refine hK.out _ _ ⟨((cell_far (p := ⟨gb656, _, none⟩) NB683_656.out _).trans (((cell_far (p := ⟨gb656, _, none⟩) NB683_656.out _).trans (((cell_far (p := ⟨gb656, _, none⟩) NB683_656.out _).trans (((cell_far (p := ⟨gb656, _, none⟩) NB683_656.out _).trans (((cell_far (p := ⟨gb656, _, none⟩) NB683_656.out _).trans (((cell_far (p := ⟨gb656, _, none⟩) NB683_656.out _).trans (hHeld.1)))))))))))), ((cell_far (p := ⟨gb656, _, none⟩) NB683_656.out _).trans (((cell_far (p := ⟨gb656, _, none⟩) NB683_656.out _).trans (((cell_far (p := ⟨gb656, _, none⟩) NB683_656.out _).trans (((cell_far (p := ⟨gb656, _, none⟩) NB683_656.out _).trans (((cell_far (p := ⟨gb656, _, none⟩) NB683_656.out _).trans (((cell_far (p := ⟨gb656, _, none⟩) NB683_656.out _).trans (hHeld.2.1)))))))))))), ((cell_far (p := ⟨gb656, _, none⟩) NB683_656.out _).trans (((cell_far (p := ⟨gb656, _, none⟩) NB683_656.out _).trans (((cell_far (p := ⟨gb656, _, none⟩) NB683_656.out _).trans (((cell_far (p := ⟨gb656, _, none⟩) NB683_656.out _).trans (((cell_far (p := ⟨gb656, _, none⟩) NB683_656.out _).trans (((cell_far (p := ⟨gb656, _, none⟩) NB683_656.out _).trans (hHeld.2.2.1)))))))))))), ((cell_far (p := ⟨gb656, _, none⟩) NB683_656.out _).trans (((cell_far (p := ⟨gb656, _, none⟩) NB683_656.out _).trans (((cell_far (p := ⟨gb656, _, none⟩) NB683_656.out _).trans (((cell_far (p := ⟨gb656, _, none⟩) NB683_656.out _).trans (((cell_far (p := ⟨gb656, _, none⟩) NB683_656.out _).trans (((cell_far (p := ⟨gb656, _, none⟩) NB683_656.out _).trans (hHeld.2.2.2.1)))))))))))), ((cell_far (p := ⟨gb656, _, none⟩) NB683_656.out _).trans (((cell_far (p := ⟨gb656, _, none⟩) NB683_656.out _).trans (((cell_far (p := ⟨gb656, _, none⟩) NB683_656.out _).trans (((cell_far (p := ⟨gb656, _, none⟩) NB683_656.out _).trans (((cell_far (p := ⟨gb656, _, none⟩) NB683_656.out _).trans (((cell_far (p := ⟨gb656, _, none⟩) NB683_656.out _).trans (hHeld.2.2.2.2.1)))))))))))), ((cell_far (p := ⟨gb656, _, none⟩) NB683_656.out _).trans (((cell_far (p := ⟨gb656, _, none⟩) NB683_656.out _).trans (((cell_far (p := ⟨gb656, _, none⟩) NB683_656.out _).trans (((cell_far (p := ⟨gb656, _, none⟩) NB683_656.out _).trans (((cell_far (p := ⟨gb656, _, none⟩) NB683_656.out _).trans (((cell_far (p := ⟨gb656, _, none⟩) NB683_656.out _).trans (hHeld.2.2.2.2.2))))))))))))⟩ (fun hHeld => ?_)
          clear hK K
          refine done_ (by kernel_rfl) ?_
          try go_wp2
          refine bodyPost_ret (results_tc rfl _ _ gb656 60 #[.int .i64 t677, .int .i64 t678, .int .i64 t679, .bool t680, .string t681, .int .i64 t682] (0, 0) _ rfl (by (with_reducible repeat (first | refine blk_drewN ?_ _ | refine blk_drew ?_ | refine blk_alloc ?_ _)); refine blk_put (cs := #[.int .i64 t677, .int .i64 t678, .int .i64 t679, .bool t680, .string t681, .int .i64 0]) ?_ 5 _ rfl; (with_reducible repeat (first | refine blk_drewN ?_ _ | refine blk_drew ?_ | refine blk_alloc ?_ _)); refine blk_put (cs := #[.int .i64 t677, .int .i64 t678, .int .i64 t679, .bool t680, .string (⟨#[]⟩ : ByteArray), .int .i64 0]) ?_ 4 _ rfl; (with_reducible repeat (first | refine blk_drewN ?_ _ | refine blk_drew ?_ | refine blk_alloc ?_ _)); refine blk_put (cs := #[.int .i64 t677, .int .i64 t678, .int .i64 t679, .bool false, .string (⟨#[]⟩ : ByteArray), .int .i64 0]) ?_ 3 _ rfl; (with_reducible repeat (first | refine blk_drewN ?_ _ | refine blk_drew ?_ | refine blk_alloc ?_ _)); refine blk_put (cs := #[.int .i64 t677, .int .i64 t678, .int .i64 0, .bool false, .string (⟨#[]⟩ : ByteArray), .int .i64 0]) ?_ 2 _ rfl; (with_reducible repeat (first | refine blk_drewN ?_ _ | refine blk_drew ?_ | refine blk_alloc ?_ _)); refine blk_put (cs := #[.int .i64 t677, .int .i64 0, .int .i64 0, .bool false, .string (⟨#[]⟩ : ByteArray), .int .i64 0]) ?_ 1 _ rfl; (with_reducible repeat (first | refine blk_drewN ?_ _ | refine blk_drew ?_ | refine blk_alloc ?_ _)); refine blk_put (cs := #[.int .i64 0, .int .i64 0, .int .i64 0, .bool false, .string (⟨#[]⟩ : ByteArray), .int .i64 0]) ?_ 0 _ rfl; (with_reducible repeat (first | refine blk_drewN ?_ _ | refine blk_drew ?_ | refine blk_alloc ?_ _)); exact BK656.out) Try.underlying60 rfl (by kernel_rfl)) rfl ?_
          exact ⟨_, by first | rfl | (simp [errW_none, errW_some] <;> rfl) | (simp [*, errW_none, errW_some] <;> rfl), by (with_reducible repeat (first | apply Kd.R_alloc | apply Kd.R_drewN | apply Kd.R_drew)); exact Kd.R_mono (Kd.R_far (p := ⟨gb656, 5, none⟩) (Kd.R_far (p := ⟨gb656, 4, none⟩) (Kd.R_far (p := ⟨gb656, 3, none⟩) (Kd.R_far (p := ⟨gb656, 2, none⟩) (Kd.R_far (p := ⟨gb656, 1, none⟩) (Kd.R_far (p := ⟨gb656, 0, none⟩) (Kd.R_types HO687.out BK656.out (by decide)) (fun _ hk => hk.2) (.int .i64 t677)) (fun _ hk => hk.2) (.int .i64 t678)) (fun _ hk => hk.2) (.int .i64 t679)) (fun _ hk => hk.2) (.bool t680)) (fun _ hk => hk.2) (.string t681)) (fun _ hk => hk.2) (.int .i64 t682)) (fun _ hk => trivial), by repeat (first | (with_reducible first | exact HB.out | apply below_alloc | apply pw_below_drewN | apply below_drew1 | refine below_set ?_ GE655.out | refine below_set ?_ GE656.out | refine below_set ?_ GE673.out | refine below_set ?_ GE683.out) | exact HB.out)⟩
        · replace c47 := Bool.eq_false_iff.mpr c47
          subst c47
          have H1 : (some (t674, t677, t678, t679, t680, t681, t682)) = some (r1, r2, r3, r4, r5, r6, r7) := by rw [if_neg (show ¬ (false = true) by decide)] at H; exact H
          clear H
          have H := H1
          clear H1
          simp only [Option.some.injEq, Prod.mk.injEq] at H
          obtain ⟨rfl, rfl, rfl, rfl, rfl, rfl, rfl⟩ := H
          try go_wp2
          have n0_ := Aside0.mk (Kd.R_drew HO_9.out)
          have n1_ := Aside0.mk (blk_drew BK655.out)
          have n2_ := Aside0.mk (blk_drew BK656.out)
          have n3_ := Aside0.mk (blk_drew BK673.out)
          have n4_ := Aside0.mk (blk_drew BK683.out)
          have n5_ := Aside0.mk (below_drew1 HB.out)
          clear HO_9
          clear BK655
          clear BK656
          clear BK673
          clear BK683
          clear HB
          have HO_9 := n0_
          have BK655 := n1_
          have BK656 := n2_
          have BK673 := n3_
          have BK683 := n4_
          have HB := n5_
          clear n0_ n1_ n2_ n3_ n4_ n5_
          refine start_ (n := 4) (S := fun w' => w'.cell? ⟨gb683, 0, none⟩ = some (.int .i64 t677) ∧ w'.cell? ⟨gb683, 1, none⟩ = some (.int .i64 t678) ∧ w'.cell? ⟨gb683, 2, none⟩ = some (.int .i64 t679) ∧ w'.cell? ⟨gb683, 3, none⟩ = some (.bool t680) ∧ w'.cell? ⟨gb683, 4, none⟩ = some (.string t681) ∧ w'.cell? ⟨gb683, 5, none⟩ = some (.int .i64 t682)) (ds := []) #[false, false, false, false] (by kernel_rfl) rfl rfl ⟨(blk_cell BK683.out 0).trans rfl, (blk_cell BK683.out 1).trans rfl, (blk_cell BK683.out 2).trans rfl, (blk_cell BK683.out 3).trans rfl, (blk_cell BK683.out 4).trans rfl, (blk_cell BK683.out 5).trans rfl⟩ (fun hHeld => ?_)
          generalize wc.drew = w61 at HO_9 BK655 BK656 BK673 BK683 HB hHeld ⊢
          refine pure_ (i := 0) (N := some 52) (v := ?_) (a' := ?_) #[true, false, false, false] rfl rfl (by kernel_rfl) (fun _ _ _ h => h) (Or.inl ⟨by rfl, ?_⟩) ?_ ?_
          rotate_left
          · intro w'
            go_simp
            with_reducible rfl
          rotate_left
          · simp only [Act.put, List.setIfInBounds_toArray, List.set_cons_zero, List.set_cons_succ, i64_w, i32_w]
            rfl
          refine pure_ (i := 2) (N := some 4) (v := ?_) (a' := ?_) #[true, false, true, false] rfl rfl (by kernel_rfl) (fun _ _ _ h => h) (Or.inl ⟨by rfl, ?_⟩) ?_ ?_
          rotate_left
          · intro w'
            go_simp
            with_reducible rfl
          rotate_left
          · simp only [Act.put, List.setIfInBounds_toArray, List.set_cons_zero, List.set_cons_succ, i64_w, i32_w]
            rfl
          refine take_ (i := 1) (N := some 53) (v := ?_) (a' := ?_) #[true, true, true, false] rfl rfl (by kernel_rfl) (fun _ _ _ h => h) (Or.inl ⟨by rfl, ?_⟩) hHeld ?_ ?_
          rotate_left
          · rintro w' ⟨s0, s1, s2, s3, s4, s5⟩
            go_simp
            with_reducible rfl
          rotate_left
          · simp only [Act.put, List.setIfInBounds_toArray, List.set_cons_zero, List.set_cons_succ, i64_w, i32_w]
            rfl
          refine one_ (i := 3) (N := none) #[true, true, true, true] rfl rfl (by kernel_rfl) (by decide) (fun K hK => ?_)
          have hs62 : w61.cell? ⟨gb656, 0, none⟩ = some (.int .i64 0) := (blk_cell BK656.out 0).trans rfl
          have hfs62 := blk_frozen BK656.out 0
          have hns62_0 := NB655_656.out
          have hns62_2 := NB673_656.out
          have hns62_3 := NB683_656.out
          have hms62_0 := NB656_655.out
          have hms62_2 := NB656_673.out
          have hms62_3 := NB656_683.out
          have hs63 : w61.cell? ⟨gb656, 1, none⟩ = some (.int .i64 0) := (blk_cell BK656.out 1).trans rfl
          have hfs63 := blk_frozen BK656.out 1
          have hns63_0 := NB655_656.out
          have hns63_2 := NB673_656.out
          have hns63_3 := NB683_656.out
          have hms63_0 := NB656_655.out
          have hms63_2 := NB656_673.out
          have hms63_3 := NB656_683.out
          have hs64 : w61.cell? ⟨gb656, 2, none⟩ = some (.int .i64 0) := (blk_cell BK656.out 2).trans rfl
          have hfs64 := blk_frozen BK656.out 2
          have hns64_0 := NB655_656.out
          have hns64_2 := NB673_656.out
          have hns64_3 := NB683_656.out
          have hms64_0 := NB656_655.out
          have hms64_2 := NB656_673.out
          have hms64_3 := NB656_683.out
          have hs65 : w61.cell? ⟨gb656, 3, none⟩ = some (.bool false) := (blk_cell BK656.out 3).trans rfl
          have hfs65 := blk_frozen BK656.out 3
          have hns65_0 := NB655_656.out
          have hns65_2 := NB673_656.out
          have hns65_3 := NB683_656.out
          have hms65_0 := NB656_655.out
          have hms65_2 := NB656_673.out
          have hms65_3 := NB656_683.out
          have hs66 : w61.cell? ⟨gb656, 4, none⟩ = some (.string (⟨#[]⟩ : ByteArray)) := (blk_cell BK656.out 4).trans rfl
          have hfs66 := blk_frozen BK656.out 4
          have hns66_0 := NB655_656.out
          have hns66_2 := NB673_656.out
          have hns66_3 := NB683_656.out
          have hms66_0 := NB656_655.out
          have hms66_2 := NB656_673.out
          have hms66_3 := NB656_683.out
          have hs67 : w61.cell? ⟨gb656, 5, none⟩ = some (.int .i64 0) := (blk_cell BK656.out 5).trans rfl
          have hfs67 := blk_frozen BK656.out 5
          have hns67_0 := NB655_656.out
          have hns67_2 := NB673_656.out
          have hns67_3 := NB683_656.out
          have hms67_0 := NB656_655.out
          have hms67_2 := NB656_673.out
          have hms67_3 := NB656_683.out
          refine skip_ (w1 := ?_) (by rfl) rfl ?_ ?_
          rotate_left
          · go_simp
            rfl
          refine hK.out _ _ ⟨((cell_far (p := ⟨gb656, _, none⟩) NB683_656.out _).trans (((cell_far (p := ⟨gb656, _, none⟩) NB683_656.out _).trans (((cell_far (p := ⟨gb656, _, none⟩) NB683_656.out _).trans (((cell_far (p := ⟨gb656, _, none⟩) NB683_656.out _).trans (((cell_far (p := ⟨gb656, _, none⟩) NB683_656.out _).trans (((cell_far (p := ⟨gb656, _, none⟩) NB683_656.out _).trans (hHeld.1)))))))))))), ((cell_far (p := ⟨gb656, _, none⟩) NB683_656.out _).trans (((cell_far (p := ⟨gb656, _, none⟩) NB683_656.out _).trans (((cell_far (p := ⟨gb656, _, none⟩) NB683_656.out _).trans (((cell_far (p := ⟨gb656, _, none⟩) NB683_656.out _).trans (((cell_far (p := ⟨gb656, _, none⟩) NB683_656.out _).trans (((cell_far (p := ⟨gb656, _, none⟩) NB683_656.out _).trans (hHeld.2.1)))))))))))), ((cell_far (p := ⟨gb656, _, none⟩) NB683_656.out _).trans (((cell_far (p := ⟨gb656, _, none⟩) NB683_656.out _).trans (((cell_far (p := ⟨gb656, _, none⟩) NB683_656.out _).trans (((cell_far (p := ⟨gb656, _, none⟩) NB683_656.out _).trans (((cell_far (p := ⟨gb656, _, none⟩) NB683_656.out _).trans (((cell_far (p := ⟨gb656, _, none⟩) NB683_656.out _).trans (hHeld.2.2.1)))))))))))), ((cell_far (p := ⟨gb656, _, none⟩) NB683_656.out _).trans (((cell_far (p := ⟨gb656, _, none⟩) NB683_656.out _).trans (((cell_far (p := ⟨gb656, _, none⟩) NB683_656.out _).trans (((cell_far (p := ⟨gb656, _, none⟩) NB683_656.out _).trans (((cell_far (p := ⟨gb656, _, none⟩) NB683_656.out _).trans (((cell_far (p := ⟨gb656, _, none⟩) NB683_656.out _).trans (hHeld.2.2.2.1)))))))))))), ((cell_far (p := ⟨gb656, _, none⟩) NB683_656.out _).trans (((cell_far (p := ⟨gb656, _, none⟩) NB683_656.out _).trans (((cell_far (p := ⟨gb656, _, none⟩) NB683_656.out _).trans (((cell_far (p := ⟨gb656, _, none⟩) NB683_656.out _).trans (((cell_far (p := ⟨gb656, _, none⟩) NB683_656.out _).trans (((cell_far (p := ⟨gb656, _, none⟩) NB683_656.out _).trans (hHeld.2.2.2.2.1)))))))))))), ((cell_far (p := ⟨gb656, _, none⟩) NB683_656.out _).trans (((cell_far (p := ⟨gb656, _, none⟩) NB683_656.out _).trans (((cell_far (p := ⟨gb656, _, none⟩) NB683_656.out _).trans (((cell_far (p := ⟨gb656, _, none⟩) NB683_656.out _).trans (((cell_far (p := ⟨gb656, _, none⟩) NB683_656.out _).trans (((cell_far (p := ⟨gb656, _, none⟩) NB683_656.out _).trans (hHeld.2.2.2.2.2))))))))))))⟩ (fun hHeld => ?_)
          clear hK K
          refine done_ (by kernel_rfl) ?_
          try go_wp2
          refine bodyPost_ret (results_tc rfl _ _ gb656 60 #[.int .i64 t677, .int .i64 t678, .int .i64 t679, .bool t680, .string t681, .int .i64 t682] (0, 0) _ rfl (by (with_reducible repeat (first | refine blk_drewN ?_ _ | refine blk_drew ?_ | refine blk_alloc ?_ _)); refine blk_put (cs := #[.int .i64 t677, .int .i64 t678, .int .i64 t679, .bool t680, .string t681, .int .i64 0]) ?_ 5 _ rfl; (with_reducible repeat (first | refine blk_drewN ?_ _ | refine blk_drew ?_ | refine blk_alloc ?_ _)); refine blk_put (cs := #[.int .i64 t677, .int .i64 t678, .int .i64 t679, .bool t680, .string (⟨#[]⟩ : ByteArray), .int .i64 0]) ?_ 4 _ rfl; (with_reducible repeat (first | refine blk_drewN ?_ _ | refine blk_drew ?_ | refine blk_alloc ?_ _)); refine blk_put (cs := #[.int .i64 t677, .int .i64 t678, .int .i64 t679, .bool false, .string (⟨#[]⟩ : ByteArray), .int .i64 0]) ?_ 3 _ rfl; (with_reducible repeat (first | refine blk_drewN ?_ _ | refine blk_drew ?_ | refine blk_alloc ?_ _)); refine blk_put (cs := #[.int .i64 t677, .int .i64 t678, .int .i64 0, .bool false, .string (⟨#[]⟩ : ByteArray), .int .i64 0]) ?_ 2 _ rfl; (with_reducible repeat (first | refine blk_drewN ?_ _ | refine blk_drew ?_ | refine blk_alloc ?_ _)); refine blk_put (cs := #[.int .i64 t677, .int .i64 0, .int .i64 0, .bool false, .string (⟨#[]⟩ : ByteArray), .int .i64 0]) ?_ 1 _ rfl; (with_reducible repeat (first | refine blk_drewN ?_ _ | refine blk_drew ?_ | refine blk_alloc ?_ _)); refine blk_put (cs := #[.int .i64 0, .int .i64 0, .int .i64 0, .bool false, .string (⟨#[]⟩ : ByteArray), .int .i64 0]) ?_ 0 _ rfl; (with_reducible repeat (first | refine blk_drewN ?_ _ | refine blk_drew ?_ | refine blk_alloc ?_ _)); exact BK656.out) Try.underlying60 rfl (by kernel_rfl)) rfl ?_
          exact ⟨_, by first | rfl | (simp [errW_none, errW_some] <;> rfl) | (simp [*, errW_none, errW_some] <;> rfl), by (with_reducible repeat (first | apply Kd.R_alloc | apply Kd.R_drewN | apply Kd.R_drew)); exact Kd.R_mono (Kd.R_far (p := ⟨gb656, 5, none⟩) (Kd.R_far (p := ⟨gb656, 4, none⟩) (Kd.R_far (p := ⟨gb656, 3, none⟩) (Kd.R_far (p := ⟨gb656, 2, none⟩) (Kd.R_far (p := ⟨gb656, 1, none⟩) (Kd.R_far (p := ⟨gb656, 0, none⟩) (Kd.R_types HO_9.out BK656.out (by decide)) (fun _ hk => hk.2) (.int .i64 t677)) (fun _ hk => hk.2) (.int .i64 t678)) (fun _ hk => hk.2) (.int .i64 t679)) (fun _ hk => hk.2) (.bool t680)) (fun _ hk => hk.2) (.string t681)) (fun _ hk => hk.2) (.int .i64 t682)) (fun _ hk => trivial), by repeat (first | (with_reducible first | exact HB.out | apply below_alloc | apply pw_below_drewN | apply below_drew1 | refine below_set ?_ GE655.out | refine below_set ?_ GE656.out | refine below_set ?_ GE673.out | refine below_set ?_ GE683.out) | exact HB.out)⟩

end Go.Proofs.Ytalpmbeddldfoaa.PA
