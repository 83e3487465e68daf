-- A text that a program wrote for this claim (print.py over stand-in bodies, tool/pr.sh).
import Derived.Test.YtalpmbeddldfoaaDoorF0
import Derived.Test.YtalpmbeddldfoaaDoorFSessPlace
namespace Go.Proofs.YtalpmbeddldfoaaDoor.PA
open Go.RowKit Go.Proofs.YtalpmbeddldfoaaDoor.Hand Go.Proofs.YtalpmbeddldfoaaDoorW.PrintWords Go.Proofs.YtalpmbeddldfoaaDoorW.PrintLast Go.Proofs.YtalpmbeddldfoaaDoorW.PrintMore
attribute [local go_sem] max2_int min2_int max_two min_two max_three min_three max_four min_four   -- for this text's walks alone
attribute [local go_sem high] str_leq str_gtr str_geq
set_option linter.unusedVariables false
set_option linter.unusedSimpArgs false

/-! ### sess_Which: function 79 -/
def sess_Which.j0 : Nat → List (S74) → Int → Int → Bool → Option (Int × Int × Int × Int × Bool × ByteArray × Int)
  | 0, _, _, _, _ => none
  | k + 1, x0, x2, x8, x16 => if x16 = true then (some (0, 0, 0, 0, false, (⟨#[]⟩ : ByteArray), 0)) else (if 0 ≤ x8 then (if x8 < (x0.length : Int) then (if x2 = ((rd_T74 x0 x8).f1) then (some (1, (rd_T74 x0 x8).f2.f0, (rd_T74 x0 x8).f2.f1, (rd_T74 x0 x8).f2.f2, (rd_T74 x0 x8).f2.f3, (rd_T74 x0 x8).f2.f4, (rd_T74 x0 x8).f2.f5)) else (some (2, 0, 0, 0, false, (⟨#[]⟩ : ByteArray), 0))) else (none)) else (none))
def sess_Which.f (k : Nat) (l0 : List (S74)) (a1 : Int) (a2 : Int) : Option (Int × Int × Int × Int × Bool × ByteArray × Int) := (sess_place.f k l0 a1).bind fun bt399 => (if bt399.2 = true then (if 0 ≤ bt399.1 then (if bt399.1 < (l0.length : Int) then (sess_Which.j0 k l0 a2 bt399.1 (decide (a2 > ((rd_T74 l0 bt399.1).f1)))) else (none)) else (none)) else (sess_Which.j0 k l0 a2 bt399.1 true))
theorem sess_Which.mono_l : ∀ k, (∀ y0 y1 y2 y3, LeO (sess_Which.j0 k y0 y1 y2 y3) (sess_Which.j0 (k + 1) y0 y1 y2 y3))
  | 0 => fun _ _ _ _ r h => by simp [sess_Which.j0] at h
  | k + 1 => by
    have ih0 := sess_Which.mono_l k
    · intro y0 y1 y2 y3
      unfold sess_Which.j0
      repeat' first
      | (with_reducible exact ih0 _ _ _ _)
      | (with_reducible exact sess_place.mono _ _ _)
      | (with_reducible exact LeO.refl _)
      | (with_reducible exact LeO.none _)
      | (with_reducible refine LeO.ite ?_ ?_)
      | (with_reducible refine LeO.bind ?_ (fun _ => ?_))
      | exact ih0 _ _ _ _
      | exact sess_place.mono _ _ _
      | exact LeO.none _
      | refine LeO.ite ?_ ?_
      | refine LeO.bind ?_ (fun _ => ?_)
theorem sess_Which.mono : ∀ a0 a1 a2 k, LeO (sess_Which.f k a0 a1 a2) (sess_Which.f (k + 1) a0 a1 a2) := by
  intro a0 a1 a2 k
  have ih0 := sess_Which.mono_l k
  unfold sess_Which.f
  repeat' first
      | (with_reducible exact ih0 _ _ _ _)
      | (with_reducible exact sess_place.mono _ _ _)
      | (with_reducible exact LeO.refl _)
      | (with_reducible exact LeO.none _)
      | (with_reducible refine LeO.ite ?_ ?_)
      | (with_reducible refine LeO.bind ?_ (fun _ => ?_))
      | exact ih0 _ _ _ _
      | exact sess_place.mono _ _ _
      | exact LeO.none _
      | refine LeO.ite ?_ ?_
      | refine LeO.bind ?_ (fun _ => ?_)
set_option maxHeartbeats 8000000 in
set_option maxRecDepth 100000 in
theorem sess_Which.calls (k : Nat) (A0 : Option Addr) (c0 : Nat) (l0 : List (S74)) (a1 : Int) (a2 : Int) (r1 : Int) (r2 : Int) (r3 : Int) (r4 : Int) (r5 : Bool) (r6 : ByteArray) (r7 : Int) (w : World) (hr0 : Kd.C k74 w A0 l0.length l0) (hc0 : l0.length ≤ c0) (h : sess_Which.f k l0 a1 a2 = some (r1, r2, r3, r4, r5, r6, r7)) :
    Calls Tryd.prog 79 #[.slice A0 l0.length c0, .int .i64 a1, .int .i64 a2] w fun e w' => e = .returned (.tuple #[.int .i64 r1, .agg #[.int .i64 r2, .int .i64 r3, .int .i64 r4, .bool r5, .string r6, .int .i64 r7]]) ∧ Below w.heap.size w w' := by
  have hu72 := Tryd.underlying72
  have HR0 := Aside0.mk hr0
  have HC0 := Aside0.mk hc0
  clear hr0 hc0
  have HB := Aside0.mk (Below.refl w.heap.size w)
  have H : ((sess_place.f k l0 a1).bind fun bt399 => (if bt399.2 = true then (if 0 ≤ bt399.1 then (if bt399.1 < (l0.length : Int) then (sess_Which.j0 k l0 a2 bt399.1 (decide (a2 > ((rd_T74 l0 bt399.1).f1)))) else (none)) else (none)) else (sess_Which.j0 k l0 a2 bt399.1 true))) = some (r1, r2, r3, r4, r5, r6, r7) := h
  clear h
  replace H := Option.bind_eq_some_iff.mp H
  obtain ⟨⟨t399, t400⟩, A40, H⟩ := H
  replace H : (if t400 = true then (if 0 ≤ t399 then (if t399 < (l0.length : Int) then (sess_Which.j0 k l0 a2 t399 (decide (a2 > ((rd_T74 l0 t399).f1)))) else (none)) else (none)) else (sess_Which.j0 k l0 a2 t399 true)) = some (r1, r2, r3, r4, r5, r6, r7) := H
  have A4 := Aside0.mk A40
  clear A40
  have HC5 := Aside0.mk H
  clear H
  go_enter Tryd.func79, Tryd.ntmps79
  go_upto_region 2 with (first | ((with_reducible refine gate_dst (N := 7) rfl ?_); refine box_event ?hg (N := 7) ?hd (cs := #[.int .i64 0, .int .i64 0, .int .i64 0, .bool false, .string (⟨#[]⟩ : ByteArray), .int .i64 0]) (t := 72) ?hr ?_; (case hd => rfl); (case hg => rfl); (case hr => first | (go_simp; done) | (go_simp; rfl)); intro gb398 hg w6 hbox hb; have n0_ := Aside0.mk (below_step (by repeat (first | (with_reducible first | exact HB.out | apply below_alloc | apply pw_below_drewN | apply below_drew1) | exact HB.out)) hb); have n1_ := Aside0.mk (hbox); have n2_ := Aside0.mk ((by rw [hg]; exact (below_size (by repeat (first | (with_reducible first | exact HB.out | apply below_alloc | apply pw_below_drewN | apply below_drew1) | exact HB.out))) : w.heap.size ≤ gb398)); have n3_ := Aside0.mk ((by rw [hg]; exact (below_size (by repeat (first | (with_reducible first | exact HB.out | apply below_alloc | apply pw_below_drewN | apply below_drew1) | exact HB.out))) : w.heap.size ≤ gb398)); clear HB; have HB := n0_; have BK398 := n1_; have GW398 := n2_; have GE398 := n3_; clear n0_ n1_ n2_ n3_; clear hb hbox hg) | ((with_reducible refine gate_callee (f := 113) rfl ?_); refine goesL_ (some 13) rfl rfl Tryd.func113 (by kernel_rfl) rfl #[.slice A0 l0.length c0, .int .i64 a1] rfl (by (try simp only [List.map_toArray, List.map_cons, List.map_nil]); first | done | rfl | (simp only [List.length_drop, List.length_take]; rfl)) ?_; (with_reducible refine (sess_place.calls k _ _ l0 a1 t399 t400 _ ?side1 ?side2 A4.out).mono ?_); (case side1 => repeat (first | exact (Kd.C_below HR0.out HB.out) | (with_reducible refine Kd.C_alloc ?_ _) | (with_reducible refine Kd.C_drewN ?_ _) | (with_reducible refine Kd.C_drew ?_))); (case side2 => exact HC0.out); rintro e w7 ⟨rfl, hb⟩; refine ⟨_, rfl, ?_⟩; have n0_ := Aside0.mk (blk_below (g := gb398) (o := .cells #[.int .i64 0, .int .i64 0, .int .i64 0, .bool false, .string (⟨#[]⟩ : ByteArray), .int .i64 0] 72 (0, 0)) (by (with_reducible repeat (first | refine blk_drewN ?_ _ | refine blk_drew ?_ | refine blk_alloc ?_ _)); exact BK398.out) hb); have n1_ := Aside0.mk (below_step (by repeat (first | (with_reducible first | exact HB.out | apply below_alloc | apply pw_below_drewN | apply below_drew1 | refine below_set ?_ GE398.out) | exact HB.out)) hb); clear BK398; clear HB; have BK398 := n0_; have HB := n1_; clear n0_ n1_; (try clear hb); (try clear hb2); (try clear hk); (try clear hi)))
  (try simp only [Act.put, List.setIfInBounds_toArray, List.set_cons_zero, List.set_cons_succ])
  go_cut [16] (fun v16 wc => ∃ (kq : Nat) (x16_4 : Bool), v16 = .bool x16_4 ∧ Aside0 (sess_Which.j0 kq l0 a2 t399 x16_4 = some (r1, r2, r3, r4, r5, r6, r7)) ∧ Aside0 (kq ≤ k) ∧ Aside0 (wc.heap[gb398]? = some (.cells #[.int .i64 0, .int .i64 0, .int .i64 0, .bool false, .string (⟨#[]⟩ : ByteArray), .int .i64 0] 72 (0, 0))) ∧ Aside0 (Below w.heap.size w wc))
  case first =>
    have H := HC5.out
    clear HC5
    by_cases c8 : t400 = true
    · subst c8
      have H1 : (if 0 ≤ t399 then (if t399 < (l0.length : Int) then (sess_Which.j0 k l0 a2 t399 (decide (a2 > ((rd_T74 l0 t399).f1)))) else (none)) else (none)) = some (r1, r2, r3, r4, r5, r6, r7) := by rw [if_pos rfl] at H; exact H
      clear H
      have H := H1
      clear H1
      by_cases c9 : 0 ≤ t399
      · rw [if_pos c9] at H
        have c9b0 : decide (0 ≤ t399) = true := decide_eq_true c9
        clear c9
        (first | rw [c9b0] | (simp only [i64_w, i32_w]; rw [c9b0]) | skip)
        by_cases c10 : t399 < (l0.length : Int)
        · rw [if_pos c10] at H
          have c10b0 : decide (t399 < (l0.length : Int)) = true := decide_eq_true c10
          clear c10
          have H' := Aside0.mk H
          clear H
          have p401 : 0 ≤ (t399 : Int) := of_decide_eq_true (by first | (with_reducible assumption) | assumption)
          have q401 : t399 < (l0.length : Int) := of_decide_eq_true (by first | (with_reducible assumption) | assumption)
          obtain ⟨ad401, e401, hx401_0, hx401_1, hx401_2, hx401_3, hx401_4, hx401_5, hx401_6, hx401_7⟩ := at_T74 HR0.out t399 p401 q401
          cases e401
          replace hx401_0 := (HB.out.cell (World.block_lt_of_cell? w _ hx401_0)).trans hx401_0
          replace hx401_1 := (HB.out.cell (World.block_lt_of_cell? w _ hx401_1)).trans hx401_1
          replace hx401_2 := (HB.out.cell (World.block_lt_of_cell? w _ hx401_2)).trans hx401_2
          replace hx401_3 := (HB.out.cell (World.block_lt_of_cell? w _ hx401_3)).trans hx401_3
          replace hx401_4 := (HB.out.cell (World.block_lt_of_cell? w _ hx401_4)).trans hx401_4
          replace hx401_5 := (HB.out.cell (World.block_lt_of_cell? w _ hx401_5)).trans hx401_5
          replace hx401_6 := (HB.out.cell (World.block_lt_of_cell? w _ hx401_6)).trans hx401_6
          replace hx401_7 := (HB.out.cell (World.block_lt_of_cell? w _ hx401_7)).trans hx401_7
          replace p401 := eq_true p401
          replace q401 := eq_true q401
          go_wp2
          go_meet
          case rel => exact ⟨_, (decide (a2 > ((rd_T74 l0 t399).f1))), (by first | rfl | (simp; done) | (simp [*]; done)), H', ⟨by first | omega | exact Nat.le_refl _⟩, ⟨by (with_reducible repeat (first | refine blk_drewN ?_ _ | refine blk_drew ?_ | refine blk_alloc ?_ _)); exact BK398.out⟩, ⟨by repeat (first | (with_reducible first | exact HB.out | apply below_alloc | apply pw_below_drewN | apply below_drew1 | refine below_set ?_ GE398.out) | exact HB.out)⟩⟩
        · rw [if_neg c10] at H
          exact absurd H (by simp)
      · rw [if_neg c9] at H
        exact absurd H (by simp)
    · replace c8 := Bool.eq_false_iff.mpr c8
      subst c8
      have H1 : (sess_Which.j0 k l0 a2 t399 true) = some (r1, r2, r3, r4, r5, r6, r7) := by rw [if_neg (show ¬ (false = true) by decide)] at H; exact H
      clear H
      have H := H1
      clear H1
      have H' := Aside0.mk H
      clear H
      go_wp2
      go_meet
      case rel => exact ⟨_, (true), (by first | rfl | (simp; done) | (simp [*]; done)), H', ⟨by first | omega | exact Nat.le_refl _⟩, ⟨by (with_reducible repeat (first | refine blk_drewN ?_ _ | refine blk_drew ?_ | refine blk_alloc ?_ _)); exact BK398.out⟩, ⟨by repeat (first | (with_reducible first | exact HB.out | apply below_alloc | apply pw_below_drewN | apply below_drew1 | refine below_set ?_ GE398.out) | exact HB.out)⟩⟩
  case rest =>
    clear HC5
    try clear c1
    try clear p2
    try clear p4
    try clear q4
    try clear hx4
    try clear c7
    try clear c8
    try clear c9
    try clear c9b0
    try clear c10
    try clear c10b0
    try clear hx401_0
    try clear hx401_1
    try clear hx401_2
    try clear hx401_3
    try clear hx401_4
    try clear hx401_5
    try clear hx401_6
    try clear hx401_7
    try clear p401
    try clear q401
    obtain ⟨kq, x16_4, rfl, HA, HJ4, BK398, HB⟩ := hcut
    cases kq with
    | zero => exact absurd HA.out (by simp [sess_Which.j0])
    | succ kj4 =>
      have H := HA.out
      clear HA
      simp only [sess_Which.j0] at H
      by_cases c11 : x16_4 = true
      · subst c11
        have H1 : (some (0, 0, 0, 0, false, (⟨#[]⟩ : ByteArray), 0)) = some (r1, r2, r3, r4, r5, r6, r7) := by rw [if_pos rfl] at H; exact H
        clear H
        have H := H1
        clear H1
        simp only [Option.some.injEq, Prod.mk.injEq] at H
        obtain ⟨rfl, rfl, rfl, rfl, rfl, rfl, rfl⟩ := H
        have hcz12_0 : wc.cell? ⟨gb398, 0, none⟩ = some (.int .i64 0) := (blk_cell BK398.out 0).trans rfl
        have hcz12_1 : wc.cell? ⟨gb398, 1, none⟩ = some (.int .i64 0) := (blk_cell BK398.out 1).trans rfl
        have hcz12_2 : wc.cell? ⟨gb398, 2, none⟩ = some (.int .i64 0) := (blk_cell BK398.out 2).trans rfl
        have hcz12_3 : wc.cell? ⟨gb398, 3, none⟩ = some (.bool false) := (blk_cell BK398.out 3).trans rfl
        have hcz12_4 : wc.cell? ⟨gb398, 4, none⟩ = some (.string (⟨#[]⟩ : ByteArray)) := (blk_cell BK398.out 4).trans rfl
        have hcz12_5 : wc.cell? ⟨gb398, 5, none⟩ = some (.int .i64 0) := (blk_cell BK398.out 5).trans rfl
        have hfz12_0 := blk_frozen BK398.out 0
        have hfz12_1 := blk_frozen BK398.out 1
        have hfz12_2 := blk_frozen BK398.out 2
        have hfz12_3 := blk_frozen BK398.out 3
        have hfz12_4 := blk_frozen BK398.out 4
        have hfz12_5 := blk_frozen BK398.out 5
        go_wp2
        refine bodyPost_ret (results_tc rfl _ _ gb398 72 #[.int .i64 0, .int .i64 0, .int .i64 0, .bool false, .string (⟨#[]⟩ : ByteArray), .int .i64 0] (0, 0) _ rfl (by (with_reducible repeat (first | refine blk_drewN ?_ _ | refine blk_drew ?_ | refine blk_alloc ?_ _)); refine blk_put (cs := #[.int .i64 0, .int .i64 0, .int .i64 0, .bool false, .string (⟨#[]⟩ : ByteArray), .int .i64 0]) ?_ 5 _ rfl; (with_reducible repeat (first | refine blk_drewN ?_ _ | refine blk_drew ?_ | refine blk_alloc ?_ _)); refine blk_put (cs := #[.int .i64 0, .int .i64 0, .int .i64 0, .bool false, .string (⟨#[]⟩ : ByteArray), .int .i64 0]) ?_ 4 _ rfl; (with_reducible repeat (first | refine blk_drewN ?_ _ | refine blk_drew ?_ | refine blk_alloc ?_ _)); refine blk_put (cs := #[.int .i64 0, .int .i64 0, .int .i64 0, .bool false, .string (⟨#[]⟩ : ByteArray), .int .i64 0]) ?_ 3 _ rfl; (with_reducible repeat (first | refine blk_drewN ?_ _ | refine blk_drew ?_ | refine blk_alloc ?_ _)); refine blk_put (cs := #[.int .i64 0, .int .i64 0, .int .i64 0, .bool false, .string (⟨#[]⟩ : ByteArray), .int .i64 0]) ?_ 2 _ rfl; (with_reducible repeat (first | refine blk_drewN ?_ _ | refine blk_drew ?_ | refine blk_alloc ?_ _)); refine blk_put (cs := #[.int .i64 0, .int .i64 0, .int .i64 0, .bool false, .string (⟨#[]⟩ : ByteArray), .int .i64 0]) ?_ 1 _ rfl; (with_reducible repeat (first | refine blk_drewN ?_ _ | refine blk_drew ?_ | refine blk_alloc ?_ _)); refine blk_put (cs := #[.int .i64 0, .int .i64 0, .int .i64 0, .bool false, .string (⟨#[]⟩ : ByteArray), .int .i64 0]) ?_ 0 _ rfl; (with_reducible repeat (first | refine blk_drewN ?_ _ | refine blk_drew ?_ | refine blk_alloc ?_ _)); exact BK398.out) Tryd.underlying72 rfl (by kernel_rfl)) rfl ?_
        exact ⟨by first | rfl | (simp [errW_none, errW_some] <;> rfl) | (simp [*, errW_none, errW_some] <;> rfl), by repeat (first | (with_reducible first | exact HB.out | apply below_alloc | apply pw_below_drewN | apply below_drew1 | refine below_set ?_ GE398.out) | exact HB.out)⟩
      · replace c11 := Bool.eq_false_iff.mpr c11
        subst c11
        have H1 : (if 0 ≤ t399 then (if t399 < (l0.length : Int) then (if a2 = ((rd_T74 l0 t399).f1) then (some (1, (rd_T74 l0 t399).f2.f0, (rd_T74 l0 t399).f2.f1, (rd_T74 l0 t399).f2.f2, (rd_T74 l0 t399).f2.f3, (rd_T74 l0 t399).f2.f4, (rd_T74 l0 t399).f2.f5)) else (some (2, 0, 0, 0, false, (⟨#[]⟩ : ByteArray), 0))) else (none)) else (none)) = some (r1, r2, r3, r4, r5, r6, r7) := by rw [if_neg (show ¬ (false = true) by decide)] at H; exact H
        clear H
        have H := H1
        clear H1
        by_cases c13 : 0 ≤ t399
        · rw [if_pos c13] at H
          have c13b0 : decide (0 ≤ t399) = true := decide_eq_true c13
          clear c13
          by_cases c14 : t399 < (l0.length : Int)
          · rw [if_pos c14] at H
            have c14b0 : decide (t399 < (l0.length : Int)) = true := decide_eq_true c14
            clear c14
            by_cases c15 : a2 = ((rd_T74 l0 t399).f1)
            · rw [if_pos c15] at H
              have c15b0 : (a2 == ((rd_T74 l0 t399).f1)) = true := beq_iff_eq.mpr c15
              have c15b1 : (a2 != ((rd_T74 l0 t399).f1)) = false := bne_eq_false_iff_eq.mpr c15
              clear c15
              simp only [Option.some.injEq, Prod.mk.injEq] at H
              obtain ⟨rfl, rfl, rfl, rfl, rfl, rfl, rfl⟩ := H
              have p402 : 0 ≤ (t399 : Int) := of_decide_eq_true (by first | (with_reducible assumption) | assumption)
              have q402 : t399 < (l0.length : Int) := of_decide_eq_true (by first | (with_reducible assumption) | assumption)
              obtain ⟨ad402, e402, hx402_0, hx402_1, hx402_2, hx402_3, hx402_4, hx402_5, hx402_6, hx402_7⟩ := at_T74 HR0.out t399 p402 q402
              cases e402
              replace hx402_0 := (HB.out.cell (World.block_lt_of_cell? w _ hx402_0)).trans hx402_0
              replace hx402_1 := (HB.out.cell (World.block_lt_of_cell? w _ hx402_1)).trans hx402_1
              replace hx402_2 := (HB.out.cell (World.block_lt_of_cell? w _ hx402_2)).trans hx402_2
              replace hx402_3 := (HB.out.cell (World.block_lt_of_cell? w _ hx402_3)).trans hx402_3
              replace hx402_4 := (HB.out.cell (World.block_lt_of_cell? w _ hx402_4)).trans hx402_4
              replace hx402_5 := (HB.out.cell (World.block_lt_of_cell? w _ hx402_5)).trans hx402_5
              replace hx402_6 := (HB.out.cell (World.block_lt_of_cell? w _ hx402_6)).trans hx402_6
              replace hx402_7 := (HB.out.cell (World.block_lt_of_cell? w _ hx402_7)).trans hx402_7
              replace p402 := eq_true p402
              replace q402 := eq_true q402
              try go_wp2
              have n0_ := Aside0.mk (blk_drew BK398.out)
              have n1_ := Aside0.mk (below_drew1 HB.out)
              clear BK398
              clear HB
              have BK398 := n0_
              have HB := n1_
              clear n0_ n1_
              have p403 : 0 ≤ (t399 : Int) := of_decide_eq_true (by first | (with_reducible assumption) | assumption)
              have q403 : t399 < (l0.length : Int) := of_decide_eq_true (by first | (with_reducible assumption) | assumption)
              obtain ⟨ad403, e403, hx403_0, hx403_1, hx403_2, hx403_3, hx403_4, hx403_5, hx403_6, hx403_7⟩ := at_T74 HR0.out t399 p403 q403
              have hw403_7 := hx403_7
              have hw403_6 := hx403_6
              have hw403_5 := hx403_5
              have hw403_4 := hx403_4
              have hw403_3 := hx403_3
              have hw403_2 := hx403_2
              have hw403_1 := hx403_1
              have hw403_0 := hx403_0
              obtain rfl : ad402 = ad403 := (by injection e403)
              replace hx403_0 := (HB.out.cell (World.block_lt_of_cell? w _ hx403_0)).trans hx403_0
              replace hx403_1 := (HB.out.cell (World.block_lt_of_cell? w _ hx403_1)).trans hx403_1
              replace hx403_2 := (HB.out.cell (World.block_lt_of_cell? w _ hx403_2)).trans hx403_2
              replace hx403_3 := (HB.out.cell (World.block_lt_of_cell? w _ hx403_3)).trans hx403_3
              replace hx403_4 := (HB.out.cell (World.block_lt_of_cell? w _ hx403_4)).trans hx403_4
              replace hx403_5 := (HB.out.cell (World.block_lt_of_cell? w _ hx403_5)).trans hx403_5
              replace hx403_6 := (HB.out.cell (World.block_lt_of_cell? w _ hx403_6)).trans hx403_6
              replace hx403_7 := (HB.out.cell (World.block_lt_of_cell? w _ hx403_7)).trans hx403_7
              replace p403 := eq_true p403
              replace q403 := eq_true q403
              refine start_ (n := 7) (S := fun w' => w'.cell? (ad402.add ((t399).toNat * 8)) = some (.int .i64 ((rd_T74 l0 t399).f0)) ∧ w'.cell? ⟨(ad402.add ((t399).toNat * 8)).block, (ad402.add ((t399).toNat * 8)).off + 1, none⟩ = some (.int .i64 ((rd_T74 l0 t399).f1)) ∧ w'.cell? ⟨(ad402.add ((t399).toNat * 8)).block, (ad402.add ((t399).toNat * 8)).off + 2, none⟩ = some (.int .i64 ((rd_T74 l0 t399).f2.f0)) ∧ w'.cell? ⟨(ad402.add ((t399).toNat * 8)).block, (ad402.add ((t399).toNat * 8)).off + 3, none⟩ = some (.int .i64 ((rd_T74 l0 t399).f2.f1)) ∧ w'.cell? ⟨(ad402.add ((t399).toNat * 8)).block, (ad402.add ((t399).toNat * 8)).off + 4, none⟩ = some (.int .i64 ((rd_T74 l0 t399).f2.f2)) ∧ w'.cell? ⟨(ad402.add ((t399).toNat * 8)).block, (ad402.add ((t399).toNat * 8)).off + 5, none⟩ = some (.bool ((rd_T74 l0 t399).f2.f3)) ∧ w'.cell? ⟨(ad402.add ((t399).toNat * 8)).block, (ad402.add ((t399).toNat * 8)).off + 6, none⟩ = some (.string ((rd_T74 l0 t399).f2.f4)) ∧ w'.cell? ⟨(ad402.add ((t399).toNat * 8)).block, (ad402.add ((t399).toNat * 8)).off + 7, none⟩ = some (.int .i64 ((rd_T74 l0 t399).f2.f5))) (ds := []) #[false, false, false, false, false, false, false] (by kernel_rfl) rfl rfl ⟨((HB.out.cell (World.block_lt_of_cell? w _ hw403_0)).trans hw403_0), ((HB.out.cell (World.block_lt_of_cell? w _ hw403_1)).trans hw403_1), ((HB.out.cell (World.block_lt_of_cell? w _ hw403_2)).trans hw403_2), ((HB.out.cell (World.block_lt_of_cell? w _ hw403_3)).trans hw403_3), ((HB.out.cell (World.block_lt_of_cell? w _ hw403_4)).trans hw403_4), ((HB.out.cell (World.block_lt_of_cell? w _ hw403_5)).trans hw403_5), ((HB.out.cell (World.block_lt_of_cell? w _ hw403_6)).trans hw403_6), ((HB.out.cell (World.block_lt_of_cell? w _ hw403_7)).trans hw403_7)⟩ (fun hHeld => ?_)
              generalize wc.drew = w16 at BK398 HB hx403_0 hx403_1 hx403_2 hx403_3 hx403_4 hx403_5 hx403_6 hx403_7 hHeld ⊢
              refine pure_ (i := 0) (N := some 37) (v := ?_) (a' := ?_) #[true, false, false, false, false, false, false] rfl rfl (by kernel_rfl) (fun _ _ _ h => h) (Or.inl ⟨by rfl, ?_⟩) ?_ ?_
              rotate_left
              · intro w'
                go_simp
                with_reducible rfl
              rotate_left
              · simp only [Act.put, List.setIfInBounds_toArray, List.set_cons_zero, List.set_cons_succ, i64_w, i32_w]
                rfl
              refine pure_ (i := 1) (N := some 38) (v := ?_) (a' := ?_) #[true, true, false, false, false, false, false] rfl rfl (by kernel_rfl) (fun _ _ _ h => h) (Or.inl ⟨by rfl, ?_⟩) ?_ ?_
              rotate_left
              · intro w'
                go_simp
                with_reducible rfl
              rotate_left
              · simp only [Act.put, List.setIfInBounds_toArray, List.set_cons_zero, List.set_cons_succ, i64_w, i32_w]
                rfl
              refine pure_ (i := 2) (N := some 39) (v := ?_) (a' := ?_) #[true, true, true, false, false, false, false] rfl rfl (by kernel_rfl) (fun _ _ _ h => h) (Or.inl ⟨by rfl, ?_⟩) ?_ ?_
              rotate_left
              · intro w'
                go_simp
                with_reducible rfl
              rotate_left
              · simp only [Act.put, List.setIfInBounds_toArray, List.set_cons_zero, List.set_cons_succ, i64_w, i32_w]
                rfl
              refine pure_ (i := 3) (N := some 40) (v := ?_) (a' := ?_) #[true, true, true, true, false, false, false] rfl rfl (by kernel_rfl) (fun _ _ _ h => h) (Or.inl ⟨by rfl, ?_⟩) ?_ ?_
              rotate_left
              · intro w'
                go_simp
                with_reducible rfl
              rotate_left
              · simp only [Act.put, List.setIfInBounds_toArray, List.set_cons_zero, List.set_cons_succ, i64_w, i32_w]
                rfl
              refine pure_ (i := 5) (N := some 6) (v := ?_) (a' := ?_) #[true, true, true, true, false, true, false] rfl rfl (by kernel_rfl) (fun _ _ _ h => h) (Or.inl ⟨by rfl, ?_⟩) ?_ ?_
              rotate_left
              · intro w'
                go_simp
                with_reducible rfl
              rotate_left
              · simp only [Act.put, List.setIfInBounds_toArray, List.set_cons_zero, List.set_cons_succ, i64_w, i32_w]
                rfl
              refine take_ (i := 4) (N := some 41) (v := ?_) (a' := ?_) #[true, true, true, true, true, true, false] rfl rfl (by kernel_rfl) (fun _ _ _ h => h) (Or.inl ⟨by rfl, ?_⟩) hHeld ?_ ?_
              rotate_left
              · rintro w' ⟨s0, s1, s2, s3, s4, s5, s6, s7⟩
                go_simp
                with_reducible rfl
              rotate_left
              · simp only [Act.put, List.setIfInBounds_toArray, List.set_cons_zero, List.set_cons_succ, i64_w, i32_w]
                rfl
              refine one_ (i := 6) (N := none) #[true, true, true, true, true, true, true] rfl rfl (by kernel_rfl) (by decide) (fun K hK => ?_)
              have hs17 : w16.cell? ⟨gb398, 0, none⟩ = some (.int .i64 0) := (blk_cell BK398.out 0).trans rfl
              have hfs17 := blk_frozen BK398.out 0
              have hs18 : w16.cell? ⟨gb398, 1, none⟩ = some (.int .i64 0) := (blk_cell BK398.out 1).trans rfl
              have hfs18 := blk_frozen BK398.out 1
              have hs19 : w16.cell? ⟨gb398, 2, none⟩ = some (.int .i64 0) := (blk_cell BK398.out 2).trans rfl
              have hfs19 := blk_frozen BK398.out 2
              have hs20 : w16.cell? ⟨gb398, 3, none⟩ = some (.bool false) := (blk_cell BK398.out 3).trans rfl
              have hfs20 := blk_frozen BK398.out 3
              have hs21 : w16.cell? ⟨gb398, 4, none⟩ = some (.string (⟨#[]⟩ : ByteArray)) := (blk_cell BK398.out 4).trans rfl
              have hfs21 := blk_frozen BK398.out 4
              have hs22 : w16.cell? ⟨gb398, 5, none⟩ = some (.int .i64 0) := (blk_cell BK398.out 5).trans rfl
              have hfs22 := blk_frozen BK398.out 5
              refine skip_ (w1 := ?_) (by rfl) rfl ?_ ?_
              rotate_left
              · go_simp
                rfl
              refine hK.out _ _ ⟨((cell_far (p := ⟨gb398, _, none⟩) (by first | exact Nat.ne_of_lt (Nat.lt_of_lt_of_le (by have := World.block_lt_of_cell? _ _ hw403_0; first | rwa [add_block] at this | exact this) GW398.out) | (rw [add_block]; exact Nat.ne_of_lt (Nat.lt_of_lt_of_le (by have := World.block_lt_of_cell? _ _ hw403_0; first | rwa [add_block] at this | exact this) GW398.out)) | (show (Addr.add _ _).block ≠ _; rw [add_block]; exact Nat.ne_of_lt (Nat.lt_of_lt_of_le (by have := World.block_lt_of_cell? _ _ hw403_0; first | rwa [add_block] at this | exact this) GW398.out)) | (dsimp only; exact Nat.ne_of_lt (Nat.lt_of_lt_of_le (by have := World.block_lt_of_cell? _ _ hw403_0; first | rwa [add_block] at this | exact this) GW398.out))) _).trans (((cell_far (p := ⟨gb398, _, none⟩) (by first | exact Nat.ne_of_lt (Nat.lt_of_lt_of_le (by have := World.block_lt_of_cell? _ _ hw403_0; first | rwa [add_block] at this | exact this) GW398.out) | (rw [add_block]; exact Nat.ne_of_lt (Nat.lt_of_lt_of_le (by have := World.block_lt_of_cell? _ _ hw403_0; first | rwa [add_block] at this | exact this) GW398.out)) | (show (Addr.add _ _).block ≠ _; rw [add_block]; exact Nat.ne_of_lt (Nat.lt_of_lt_of_le (by have := World.block_lt_of_cell? _ _ hw403_0; first | rwa [add_block] at this | exact this) GW398.out)) | (dsimp only; exact Nat.ne_of_lt (Nat.lt_of_lt_of_le (by have := World.block_lt_of_cell? _ _ hw403_0; first | rwa [add_block] at this | exact this) GW398.out))) _).trans (((cell_far (p := ⟨gb398, _, none⟩) (by first | exact Nat.ne_of_lt (Nat.lt_of_lt_of_le (by have := World.block_lt_of_cell? _ _ hw403_0; first | rwa [add_block] at this | exact this) GW398.out) | (rw [add_block]; exact Nat.ne_of_lt (Nat.lt_of_lt_of_le (by have := World.block_lt_of_cell? _ _ hw403_0; first | rwa [add_block] at this | exact this) GW398.out)) | (show (Addr.add _ _).block ≠ _; rw [add_block]; exact Nat.ne_of_lt (Nat.lt_of_lt_of_le (by have := World.block_lt_of_cell? _ _ hw403_0; first | rwa [add_block] at this | exact this) GW398.out)) | (dsimp only; exact Nat.ne_of_lt (Nat.lt_of_lt_of_le (by have := World.block_lt_of_cell? _ _ hw403_0; first | rwa [add_block] at this | exact this) GW398.out))) _).trans (((cell_far (p := ⟨gb398, _, none⟩) (by first | exact Nat.ne_of_lt (Nat.lt_of_lt_of_le (by have := World.block_lt_of_cell? _ _ hw403_0; first | rwa [add_block] at this | exact this) GW398.out) | (rw [add_block]; exact Nat.ne_of_lt (Nat.lt_of_lt_of_le (by have := World.block_lt_of_cell? _ _ hw403_0; first | rwa [add_block] at this | exact this) GW398.out)) | (show (Addr.add _ _).block ≠ _; rw [add_block]; exact Nat.ne_of_lt (Nat.lt_of_lt_of_le (by have := World.block_lt_of_cell? _ _ hw403_0; first | rwa [add_block] at this | exact this) GW398.out)) | (dsimp only; exact Nat.ne_of_lt (Nat.lt_of_lt_of_le (by have := World.block_lt_of_cell? _ _ hw403_0; first | rwa [add_block] at this | exact this) GW398.out))) _).trans (((cell_far (p := ⟨gb398, _, none⟩) (by first | exact Nat.ne_of_lt (Nat.lt_of_lt_of_le (by have := World.block_lt_of_cell? _ _ hw403_0; first | rwa [add_block] at this | exact this) GW398.out) | (rw [add_block]; exact Nat.ne_of_lt (Nat.lt_of_lt_of_le (by have := World.block_lt_of_cell? _ _ hw403_0; first | rwa [add_block] at this | exact this) GW398.out)) | (show (Addr.add _ _).block ≠ _; rw [add_block]; exact Nat.ne_of_lt (Nat.lt_of_lt_of_le (by have := World.block_lt_of_cell? _ _ hw403_0; first | rwa [add_block] at this | exact this) GW398.out)) | (dsimp only; exact Nat.ne_of_lt (Nat.lt_of_lt_of_le (by have := World.block_lt_of_cell? _ _ hw403_0; first | rwa [add_block] at this | exact this) GW398.out))) _).trans (((cell_far (p := ⟨gb398, _, none⟩) (by first | exact Nat.ne_of_lt (Nat.lt_of_lt_of_le (by have := World.block_lt_of_cell? _ _ hw403_0; first | rwa [add_block] at this | exact this) GW398.out) | (rw [add_block]; exact Nat.ne_of_lt (Nat.lt_of_lt_of_le (by have := World.block_lt_of_cell? _ _ hw403_0; first | rwa [add_block] at this | exact this) GW398.out)) | (show (Addr.add _ _).block ≠ _; rw [add_block]; exact Nat.ne_of_lt (Nat.lt_of_lt_of_le (by have := World.block_lt_of_cell? _ _ hw403_0; first | rwa [add_block] at this | exact this) GW398.out)) | (dsimp only; exact Nat.ne_of_lt (Nat.lt_of_lt_of_le (by have := World.block_lt_of_cell? _ _ hw403_0; first | rwa [add_block] at this | exact this) GW398.out))) _).trans (hHeld.1)))))))))))), ((cell_far (p := ⟨gb398, _, none⟩) (by first | exact Nat.ne_of_lt (Nat.lt_of_lt_of_le (by have := World.block_lt_of_cell? _ _ hw403_1; first | rwa [add_block] at this | exact this) GW398.out) | (rw [add_block]; exact Nat.ne_of_lt (Nat.lt_of_lt_of_le (by have := World.block_lt_of_cell? _ _ hw403_1; first | rwa [add_block] at this | exact this) GW398.out)) | (show (Addr.add _ _).block ≠ _; rw [add_block]; exact Nat.ne_of_lt (Nat.lt_of_lt_of_le (by have := World.block_lt_of_cell? _ _ hw403_1; first | rwa [add_block] at this | exact this) GW398.out)) | (dsimp only; exact Nat.ne_of_lt (Nat.lt_of_lt_of_le (by have := World.block_lt_of_cell? _ _ hw403_1; first | rwa [add_block] at this | exact this) GW398.out))) _).trans (((cell_far (p := ⟨gb398, _, none⟩) (by first | exact Nat.ne_of_lt (Nat.lt_of_lt_of_le (by have := World.block_lt_of_cell? _ _ hw403_1; first | rwa [add_block] at this | exact this) GW398.out) | (rw [add_block]; exact Nat.ne_of_lt (Nat.lt_of_lt_of_le (by have := World.block_lt_of_cell? _ _ hw403_1; first | rwa [add_block] at this | exact this) GW398.out)) | (show (Addr.add _ _).block ≠ _; rw [add_block]; exact Nat.ne_of_lt (Nat.lt_of_lt_of_le (by have := World.block_lt_of_cell? _ _ hw403_1; first | rwa [add_block] at this | exact this) GW398.out)) | (dsimp only; exact Nat.ne_of_lt (Nat.lt_of_lt_of_le (by have := World.block_lt_of_cell? _ _ hw403_1; first | rwa [add_block] at this | exact this) GW398.out))) _).trans (((cell_far (p := ⟨gb398, _, none⟩) (by first | exact Nat.ne_of_lt (Nat.lt_of_lt_of_le (by have := World.block_lt_of_cell? _ _ hw403_1; first | rwa [add_block] at this | exact this) GW398.out) | (rw [add_block]; exact Nat.ne_of_lt (Nat.lt_of_lt_of_le (by have := World.block_lt_of_cell? _ _ hw403_1; first | rwa [add_block] at this | exact this) GW398.out)) | (show (Addr.add _ _).block ≠ _; rw [add_block]; exact Nat.ne_of_lt (Nat.lt_of_lt_of_le (by have := World.block_lt_of_cell? _ _ hw403_1; first | rwa [add_block] at this | exact this) GW398.out)) | (dsimp only; exact Nat.ne_of_lt (Nat.lt_of_lt_of_le (by have := World.block_lt_of_cell? _ _ hw403_1; first | rwa [add_block] at this | exact this) GW398.out))) _).trans (((cell_far (p := ⟨gb398, _, none⟩) (by first | exact Nat.ne_of_lt (Nat.lt_of_lt_of_le (by have := World.block_lt_of_cell? _ _ hw403_1; first | rwa [add_block] at this | exact this) GW398.out) | (rw [add_block]; exact Nat.ne_of_lt (Nat.lt_of_lt_of_le (by have := World.block_lt_of_cell? _ _ hw403_1; first | rwa [add_block] at this | exact this) GW398.out)) | (show (Addr.add _ _).block ≠ _; rw [add_block]; exact Nat.ne_of_lt (Nat.lt_of_lt_of_le (by have := World.block_lt_of_cell? _ _ hw403_1; first | rwa [add_block] at this | exact this) GW398.out)) | (dsimp only; exact Nat.ne_of_lt (Nat.lt_of_lt_of_le (by have := World.block_lt_of_cell? _ _ hw403_1; first | rwa [add_block] at this | exact this) GW398.out))) _).trans (((cell_far (p := ⟨gb398, _, none⟩) (by first | exact Nat.ne_of_lt (Nat.lt_of_lt_of_le (by have := World.block_lt_of_cell? _ _ hw403_1; first | rwa [add_block] at this | exact this) GW398.out) | (rw [add_block]; exact Nat.ne_of_lt (Nat.lt_of_lt_of_le (by have := World.block_lt_of_cell? _ _ hw403_1; first | rwa [add_block] at this | exact this) GW398.out)) | (show (Addr.add _ _).block ≠ _; rw [add_block]; exact Nat.ne_of_lt (Nat.lt_of_lt_of_le (by have := World.block_lt_of_cell? _ _ hw403_1; first | rwa [add_block] at this | exact this) GW398.out)) | (dsimp only; exact Nat.ne_of_lt (Nat.lt_of_lt_of_le (by have := World.block_lt_of_cell? _ _ hw403_1; first | rwa [add_block] at this | exact this) GW398.out))) _).trans (((cell_far (p := ⟨gb398, _, none⟩) (by first | exact Nat.ne_of_lt (Nat.lt_of_lt_of_le (by have := World.block_lt_of_cell? _ _ hw403_1; first | rwa [add_block] at this | exact this) GW398.out) | (rw [add_block]; exact Nat.ne_of_lt (Nat.lt_of_lt_of_le (by have := World.block_lt_of_cell? _ _ hw403_1; first | rwa [add_block] at this | exact this) GW398.out)) | (show (Addr.add _ _).block ≠ _; rw [add_block]; exact Nat.ne_of_lt (Nat.lt_of_lt_of_le (by have := World.block_lt_of_cell? _ _ hw403_1; first | rwa [add_block] at this | exact this) GW398.out)) | (dsimp only; exact Nat.ne_of_lt (Nat.lt_of_lt_of_le (by have := World.block_lt_of_cell? _ _ hw403_1; first | rwa [add_block] at this | exact this) GW398.out))) _).trans (hHeld.2.1)))))))))))), ((cell_far (p := ⟨gb398, _, none⟩) (by first | exact Nat.ne_of_lt (Nat.lt_of_lt_of_le (by have := World.block_lt_of_cell? _ _ hw403_2; first | rwa [add_block] at this | exact this) GW398.out) | (rw [add_block]; exact Nat.ne_of_lt (Nat.lt_of_lt_of_le (by have := World.block_lt_of_cell? _ _ hw403_2; first | rwa [add_block] at this | exact this) GW398.out)) | (show (Addr.add _ _).block ≠ _; rw [add_block]; exact Nat.ne_of_lt (Nat.lt_of_lt_of_le (by have := World.block_lt_of_cell? _ _ hw403_2; first | rwa [add_block] at this | exact this) GW398.out)) | (dsimp only; exact Nat.ne_of_lt (Nat.lt_of_lt_of_le (by have := World.block_lt_of_cell? _ _ hw403_2; first | rwa [add_block] at this | exact this) GW398.out))) _).trans (((cell_far (p := ⟨gb398, _, none⟩) (by first | exact Nat.ne_of_lt (Nat.lt_of_lt_of_le (by have := World.block_lt_of_cell? _ _ hw403_2; first | rwa [add_block] at this | exact this) GW398.out) | (rw [add_block]; exact Nat.ne_of_lt (Nat.lt_of_lt_of_le (by have := World.block_lt_of_cell? _ _ hw403_2; first | rwa [add_block] at this | exact this) GW398.out)) | (show (Addr.add _ _).block ≠ _; rw [add_block]; exact Nat.ne_of_lt (Nat.lt_of_lt_of_le (by have := World.block_lt_of_cell? _ _ hw403_2; first | rwa [add_block] at this | exact this) GW398.out)) | (dsimp only; exact Nat.ne_of_lt (Nat.lt_of_lt_of_le (by have := World.block_lt_of_cell? _ _ hw403_2; first | rwa [add_block] at this | exact this) GW398.out))) _).trans (((cell_far (p := ⟨gb398, _, none⟩) (by first | exact Nat.ne_of_lt (Nat.lt_of_lt_of_le (by have := World.block_lt_of_cell? _ _ hw403_2; first | rwa [add_block] at this | exact this) GW398.out) | (rw [add_block]; exact Nat.ne_of_lt (Nat.lt_of_lt_of_le (by have := World.block_lt_of_cell? _ _ hw403_2; first | rwa [add_block] at this | exact this) GW398.out)) | (show (Addr.add _ _).block ≠ _; rw [add_block]; exact Nat.ne_of_lt (Nat.lt_of_lt_of_le (by have := World.block_lt_of_cell? _ _ hw403_2; first | rwa [add_block] at this | exact this) GW398.out)) | (dsimp only; exact Nat.ne_of_lt (Nat.lt_of_lt_of_le (by have := World.block_lt_of_cell? _ _ hw403_2; first | rwa [add_block] at this | exact this) GW398.out))) _).trans (((cell_far (p := ⟨gb398, _, none⟩) (by first | exact Nat.ne_of_lt (Nat.lt_of_lt_of_le (by have := World.block_lt_of_cell? _ _ hw403_2; first | rwa [add_block] at this | exact this) GW398.out) | (rw [add_block]; exact Nat.ne_of_lt (Nat.lt_of_lt_of_le (by have := World.block_lt_of_cell? _ _ hw403_2; first | rwa [add_block] at this | exact this) GW398.out)) | (show (Addr.add _ _).block ≠ _; rw [add_block]; exact Nat.ne_of_lt (Nat.lt_of_lt_of_le (by have := World.block_lt_of_cell? _ _ hw403_2; first | rwa [add_block] at this | exact this) GW398.out)) | (dsimp only; exact Nat.ne_of_lt (Nat.lt_of_lt_of_le (by have := World.block_lt_of_cell? _ _ hw403_2; first | rwa [add_block] at this | exact this) GW398.out))) _).trans (((cell_far (p := ⟨gb398, _, none⟩) (by first | exact Nat.ne_of_lt (Nat.lt_of_lt_of_le (by have := World.block_lt_of_cell? _ _ hw403_2; first | rwa [add_block] at this | exact this) GW398.out) | (rw [add_block]; exact Nat.ne_of_lt (Nat.lt_of_lt_of_le (by have := World.block_lt_of_cell? _ _ hw403_2; first | rwa [add_block] at this | exact this) GW398.out)) | (show (Addr.add _ _).block ≠ _; rw [add_block]; exact Nat.ne_of_lt (Nat.lt_of_lt_of_le (by have := World.block_lt_of_cell? _ _ hw403_2; first | rwa [add_block] at this | exact this) GW398.out)) | (dsimp only; exact Nat.ne_of_lt (Nat.lt_of_lt_of_le (by have := World.block_lt_of_cell? _ _ hw403_2; first | rwa [add_block] at this | exact this) GW398.out))) _).trans (((cell_far (p := ⟨gb398, _, none⟩) (by first | exact Nat.ne_of_lt (Nat.lt_of_lt_of_le (by have := World.block_lt_of_cell? _ _ hw403_2; first | rwa [add_block] at this | exact this) GW398.out) | (rw [add_block]; exact Nat.ne_of_lt (Nat.lt_of_lt_of_le (by have := World.block_lt_of_cell? _ _ hw403_2; first | rwa [add_block] at this | exact this) GW398.out)) | (show (Addr.add _ _).block ≠ _; rw [add_block]; exact Nat.ne_of_lt (Nat.lt_of_lt_of_le (by have := World.block_lt_of_cell? _ _ hw403_2; first | rwa [add_block] at this | exact this) GW398.out)) | (dsimp only; exact Nat.ne_of_lt (Nat.lt_of_lt_of_le (by have := World.block_lt_of_cell? _ _ hw403_2; first | rwa [add_block] at this | exact this) GW398.out))) _).trans (hHeld.2.2.1)))))))))))), ((cell_far (p := ⟨gb398, _, none⟩) (by first | exact Nat.ne_of_lt (Nat.lt_of_lt_of_le (by have := World.block_lt_of_cell? _ _ hw403_3; first | rwa [add_block] at this | exact this) GW398.out) | (rw [add_block]; exact Nat.ne_of_lt (Nat.lt_of_lt_of_le (by have := World.block_lt_of_cell? _ _ hw403_3; first | rwa [add_block] at this | exact this) GW398.out)) | (show (Addr.add _ _).block ≠ _; rw [add_block]; exact Nat.ne_of_lt (Nat.lt_of_lt_of_le (by have := World.block_lt_of_cell? _ _ hw403_3; first | rwa [add_block] at this | exact this) GW398.out)) | (dsimp only; exact Nat.ne_of_lt (Nat.lt_of_lt_of_le (by have := World.block_lt_of_cell? _ _ hw403_3; first | rwa [add_block] at this | exact this) GW398.out))) _).trans (((cell_far (p := ⟨gb398, _, none⟩) (by first | exact Nat.ne_of_lt (Nat.lt_of_lt_of_le (by have := World.block_lt_of_cell? _ _ hw403_3; first | rwa [add_block] at this | exact this) GW398.out) | (rw [add_block]; exact Nat.ne_of_lt (Nat.lt_of_lt_of_le (by have := World.block_lt_of_cell? _ _ hw403_3; first | rwa [add_block] at this | exact this) GW398.out)) | (show (Addr.add _ _).block ≠ _; rw [add_block]; exact Nat.ne_of_lt (Nat.lt_of_lt_of_le (by have := World.block_lt_of_cell? _ _ hw403_3; first | rwa [add_block] at this | exact this) GW398.out)) | (dsimp only; exact Nat.ne_of_lt (Nat.lt_of_lt_of_le (by have := World.block_lt_of_cell? _ _ hw403_3; first | rwa [add_block] at this | exact this) GW398.out))) _).trans (((cell_far (p := ⟨gb398, _, none⟩) (by first | exact Nat.ne_of_lt (Nat.lt_of_lt_of_le (by have := World.block_lt_of_cell? _ _ hw403_3; first | rwa [add_block] at this | exact this) GW398.out) | (rw [add_block]; exact Nat.ne_of_lt (Nat.lt_of_lt_of_le (by have := World.block_lt_of_cell? _ _ hw403_3; first | rwa [add_block] at this | exact this) GW398.out)) | (show (Addr.add _ _).block ≠ _; rw [add_block]; exact Nat.ne_of_lt (Nat.lt_of_lt_of_le (by have := World.block_lt_of_cell? _ _ hw403_3; first | rwa [add_block] at this | exact this) GW398.out)) | (dsimp only; exact Nat.ne_of_lt (Nat.lt_of_lt_of_le (by have := World.block_lt_of_cell? _ _ hw403_3; first | rwa [add_block] at this | exact this) GW398.out))) _).trans (((cell_far (p := ⟨gb398, _, none⟩) (by first | exact Nat.ne_of_lt (Nat.lt_of_lt_of_le (by have := World.block_lt_of_cell? _ _ hw403_3; first | rwa [add_block] at this | exact this) GW398.out) | (rw [add_block]; exact Nat.ne_of_lt (Nat.lt_of_lt_of_le (by have := World.block_lt_of_cell? _ _ hw403_3; first | rwa [add_block] at this | exact this) GW398.out)) | (show (Addr.add _ _).block ≠ _; rw [add_block]; exact Nat.ne_of_lt (Nat.lt_of_lt_of_le (by have := World.block_lt_of_cell? _ _ hw403_3; first | rwa [add_block] at this | exact this) GW398.out)) | (dsimp only; exact Nat.ne_of_lt (Nat.lt_of_lt_of_le (by have := World.block_lt_of_cell? _ _ hw403_3; first | rwa [add_block] at this | exact this) GW398.out))) _).trans (((cell_far (p := ⟨gb398, _, none⟩) (by first | exact Nat.ne_of_lt (Nat.lt_of_lt_of_le (by have := World.block_lt_of_cell? _ _ hw403_3; first | rwa [add_block] at this | exact this) GW398.out) | (rw [add_block]; exact Nat.ne_of_lt (Nat.lt_of_lt_of_le (by have := World.block_lt_of_cell? _ _ hw403_3; first | rwa [add_block] at this | exact this) GW398.out)) | (show (Addr.add _ _).block ≠ _; rw [add_block]; exact Nat.ne_of_lt (Nat.lt_of_lt_of_le (by have := World.block_lt_of_cell? _ _ hw403_3; first | rwa [add_block] at this | exact this) GW398.out)) | (dsimp only; exact Nat.ne_of_lt (Nat.lt_of_lt_of_le (by have := World.block_lt_of_cell? _ _ hw403_3; first | rwa [add_block] at this | exact this) GW398.out))) _).trans (((cell_far (p := ⟨gb398, _, none⟩) (by first | exact Nat.ne_of_lt (Nat.lt_of_lt_of_le (by have := World.block_lt_of_cell? _ _ hw403_3; first | rwa [add_block] at this | exact this) GW398.out) | (rw [add_block]; exact Nat.ne_of_lt (Nat.lt_of_lt_of_le (by have := World.block_lt_of_cell? _ _ hw403_3; first | rwa [add_block] at this | exact this) GW398.out)) | (show (Addr.add _ _).block ≠ _; rw [add_block]; exact Nat.ne_of_lt (Nat.lt_of_lt_of_le (by have := World.block_lt_of_cell? _ _ hw403_3; first | rwa [add_block] at this | exact this) GW398.out)) | (dsimp only; exact Nat.ne_of_lt (Nat.lt_of_lt_of_le (by have := World.block_lt_of_cell? _ _ hw403_3; first | rwa [add_block] at this | exact this) GW398.out))) _).trans (hHeld.2.2.2.1)))))))))))), ((cell_far (p := ⟨gb398, _, none⟩) (by first | exact Nat.ne_of_lt (Nat.lt_of_lt_of_le (by have := World.block_lt_of_cell? _ _ hw403_4; first | rwa [add_block] at this | exact this) GW398.out) | (rw [add_block]; exact Nat.ne_of_lt (Nat.lt_of_lt_of_le (by have := World.block_lt_of_cell? _ _ hw403_4; first | rwa [add_block] at this | exact this) GW398.out)) | (show (Addr.add _ _).block ≠ _; rw [add_block]; exact Nat.ne_of_lt (Nat.lt_of_lt_of_le (by have := World.block_lt_of_cell? _ _ hw403_4; first | rwa [add_block] at this | exact this) GW398.out)) | (dsimp only; exact Nat.ne_of_lt (Nat.lt_of_lt_of_le (by have := World.block_lt_of_cell? _ _ hw403_4; first | rwa [add_block] at this | exact this) GW398.out))) _).trans (((cell_far (p := ⟨gb398, _, none⟩) (by first | exact Nat.ne_of_lt (Nat.lt_of_lt_of_le (by have := World.block_lt_of_cell? _ _ hw403_4; first | rwa [add_block] at this | exact this) GW398.out) | (rw [add_block]; exact Nat.ne_of_lt (Nat.lt_of_lt_of_le (by have := World.block_lt_of_cell? _ _ hw403_4; first | rwa [add_block] at this | exact this) GW398.out)) | (show (Addr.add _ _).block ≠ _; rw [add_block]; exact Nat.ne_of_lt (Nat.lt_of_lt_of_le (by have := World.block_lt_of_cell? _ _ hw403_4; first | rwa [add_block] at this | exact this) GW398.out)) | (dsimp only; exact Nat.ne_of_lt (Nat.lt_of_lt_of_le (by have := World.block_lt_of_cell? _ _ hw403_4; first | rwa [add_block] at this | exact this) GW398.out))) _).trans (((cell_far (p := ⟨gb398, _, none⟩) (by first | exact Nat.ne_of_lt (Nat.lt_of_lt_of_le (by have := World.block_lt_of_cell? _ _ hw403_4; first | rwa [add_block] at this | exact this) GW398.out) | (rw [add_block]; exact Nat.ne_of_lt (Nat.lt_of_lt_of_le (by have := World.block_lt_of_cell? _ _ hw403_4; first | rwa [add_block] at this | exact this) GW398.out)) | (show (Addr.add _ _).block ≠ _; rw [add_block]; exact Nat.ne_of_lt (Nat.lt_of_lt_of_le (by have := World.block_lt_of_cell? _ _ hw403_4; first | rwa [add_block] at this | exact this) GW398.out)) | (dsimp only; exact Nat.ne_of_lt (Nat.lt_of_lt_of_le (by have := World.block_lt_of_cell? _ _ hw403_4; first | rwa [add_block] at this | exact this) GW398.out))) _).trans (((cell_far (p := ⟨gb398, _, none⟩) (by first | exact Nat.ne_of_lt (Nat.lt_of_lt_of_le (by have := World.block_lt_of_cell? _ _ hw403_4; first | rwa [add_block] at this | exact this) GW398.out) | (rw [add_block]; exact Nat.ne_of_lt (Nat.lt_of_lt_of_le (by have := World.block_lt_of_cell? _ _ hw403_4; first | rwa [add_block] at this | exact this) GW398.out)) | (show (Addr.add _ _).block ≠ _; rw [add_block]; exact Nat.ne_of_lt (Nat.lt_of_lt_of_le (by have := World.block_lt_of_cell? _ _ hw403_4; first | rwa [add_block] at this | exact this) GW398.out)) | (dsimp only; exact Nat.ne_of_lt (Nat.lt_of_lt_of_le (by have := World.block_lt_of_cell? _ _ hw403_4; first | rwa [add_block] at this | exact this) GW398.out))) _).trans (((cell_far (p := ⟨gb398, _, none⟩) (by first | exact Nat.ne_of_lt (Nat.lt_of_lt_of_le (by have := World.block_lt_of_cell? _ _ hw403_4; first | rwa [add_block] at this | exact this) GW398.out) | (rw [add_block]; exact Nat.ne_of_lt (Nat.lt_of_lt_of_le (by have := World.block_lt_of_cell? _ _ hw403_4; first | rwa [add_block] at this | exact this) GW398.out)) | (show (Addr.add _ _).block ≠ _; rw [add_block]; exact Nat.ne_of_lt (Nat.lt_of_lt_of_le (by have := World.block_lt_of_cell? _ _ hw403_4; first | rwa [add_block] at this | exact this) GW398.out)) | (dsimp only; exact Nat.ne_of_lt (Nat.lt_of_lt_of_le (by have := World.block_lt_of_cell? _ _ hw403_4; first | rwa [add_block] at this | exact this) GW398.out))) _).trans (((cell_far (p := ⟨gb398, _, none⟩) (by first | exact Nat.ne_of_lt (Nat.lt_of_lt_of_le (by have := World.block_lt_of_cell? _ _ hw403_4; first | rwa [add_block] at this | exact this) GW398.out) | (rw [add_block]; exact Nat.ne_of_lt (Nat.lt_of_lt_of_le (by have := World.block_lt_of_cell? _ _ hw403_4; first | rwa [add_block] at this | exact this) GW398.out)) | (show (Addr.add _ _).block ≠ _; rw [add_block]; exact Nat.ne_of_lt (Nat.lt_of_lt_of_le (by have := World.block_lt_of_cell? _ _ hw403_4; first | rwa [add_block] at this | exact this) GW398.out)) | (dsimp only; exact Nat.ne_of_lt (Nat.lt_of_lt_of_le (by have := World.block_lt_of_cell? _ _ hw403_4; first | rwa [add_block] at this | exact this) GW398.out))) _).trans (hHeld.2.2.2.2.1)))))))))))), ((cell_far (p := ⟨gb398, _, none⟩) (by first | exact Nat.ne_of_lt (Nat.lt_of_lt_of_le (by have := World.block_lt_of_cell? _ _ hw403_5; first | rwa [add_block] at this | exact this) GW398.out) | (rw [add_block]; exact Nat.ne_of_lt (Nat.lt_of_lt_of_le (by have := World.block_lt_of_cell? _ _ hw403_5; first | rwa [add_block] at this | exact this) GW398.out)) | (show (Addr.add _ _).block ≠ _; rw [add_block]; exact Nat.ne_of_lt (Nat.lt_of_lt_of_le (by have := World.block_lt_of_cell? _ _ hw403_5; first | rwa [add_block] at this | exact this) GW398.out)) | (dsimp only; exact Nat.ne_of_lt (Nat.lt_of_lt_of_le (by have := World.block_lt_of_cell? _ _ hw403_5; first | rwa [add_block] at this | exact this) GW398.out))) _).trans (((cell_far (p := ⟨gb398, _, none⟩) (by first | exact Nat.ne_of_lt (Nat.lt_of_lt_of_le (by have := World.block_lt_of_cell? _ _ hw403_5; first | rwa [add_block] at this | exact this) GW398.out) | (rw [add_block]; exact Nat.ne_of_lt (Nat.lt_of_lt_of_le (by have := World.block_lt_of_cell? _ _ hw403_5; first | rwa [add_block] at this | exact this) GW398.out)) | (show (Addr.add _ _).block ≠ _; rw [add_block]; exact Nat.ne_of_lt (Nat.lt_of_lt_of_le (by have := World.block_lt_of_cell? _ _ hw403_5; first | rwa [add_block] at this | exact this) GW398.out)) | (dsimp only; exact Nat.ne_of_lt (Nat.lt_of_lt_of_le (by have := World.block_lt_of_cell? _ _ hw403_5; first | rwa [add_block] at this | exact this) GW398.out))) _).trans (((cell_far (p := ⟨gb398, _, none⟩) (by first | exact Nat.ne_of_lt (Nat.lt_of_lt_of_le (by have := World.block_lt_of_cell? _ _ hw403_5; first | rwa [add_block] at this | exact this) GW398.out) | (rw [add_block]; exact Nat.ne_of_lt (Nat.lt_of_lt_of_le (by have := World.block_lt_of_cell? _ _ hw403_5; first | rwa [add_block] at this | exact this) GW398.out)) | (show (Addr.add _ _).block ≠ _; rw [add_block]; exact Nat.ne_of_lt (Nat.lt_of_lt_of_le (by have := World.block_lt_of_cell? _ _ hw403_5; first | rwa [add_block] at this | exact this) GW398.out)) | (dsimp only; exact Nat.ne_of_lt (Nat.lt_of_lt_of_le (by have := World.block_lt_of_cell? _ _ hw403_5; first | rwa [add_block] at this | exact this) GW398.out))) _).trans (((cell_far (p := ⟨gb398, _, none⟩) (by first | exact Nat.ne_of_lt (Nat.lt_of_lt_of_le (by have := World.block_lt_of_cell? _ _ hw403_5; first | rwa [add_block] at this | exact this) GW398.out) | (rw [add_block]; exact Nat.ne_of_lt (Nat.lt_of_lt_of_le (by have := World.block_lt_of_cell? _ _ hw403_5; first | rwa [add_block] at this | exact this) GW398.out)) | (show (Addr.add _ _).block ≠ _; rw [add_block]; exact Nat.ne_of_lt (Nat.lt_of_lt_of_le (by have := World.block_lt_of_cell? _ _ hw403_5; first | rwa [add_block] at this | exact this) GW398.out)) | (dsimp only; exact Nat.ne_of_lt (Nat.lt_of_lt_of_le (by have := World.block_lt_of_cell? _ _ hw403_5; first | rwa [add_block] at this | exact this) GW398.out))) _).trans (((cell_far (p := ⟨gb398, _, none⟩) (by first | exact Nat.ne_of_lt (Nat.lt_of_lt_of_le (by have := World.block_lt_of_cell? _ _ hw403_5; first | rwa [add_block] at this | exact this) GW398.out) | (rw [add_block]; exact Nat.ne_of_lt (Nat.lt_of_lt_of_le (by have := World.block_lt_of_cell? _ _ hw403_5; first | rwa [add_block] at this | exact this) GW398.out)) | (show (Addr.add _ _).block ≠ _; rw [add_block]; exact Nat.ne_of_lt (Nat.lt_of_lt_of_le (by have := World.block_lt_of_cell? _ _ hw403_5; first | rwa [add_block] at this | exact this) GW398.out)) | (dsimp only; exact Nat.ne_of_lt (Nat.lt_of_lt_of_le (by have := World.block_lt_of_cell? _ _ hw403_5; first | rwa [add_block] at this | exact this) GW398.out))) _).trans (((cell_far (p := ⟨gb398, _, none⟩) (by first | exact Nat.ne_of_lt (Nat.lt_of_lt_of_le (by have := World.block_lt_of_cell? _ _ hw403_5; first | rwa [add_block] at this | exact this) GW398.out) | (rw [add_block]; exact Nat.ne_of_lt (Nat.lt_of_lt_of_le (by have := World.block_lt_of_cell? _ _ hw403_5; first | rwa [add_block] at this | exact this) GW398.out)) | (show (Addr.add _ _).block ≠ _; rw [add_block]; exact Nat.ne_of_lt (Nat.lt_of_lt_of_le (by have := World.block_lt_of_cell? _ _ hw403_5; first | rwa [add_block] at this | exact this) GW398.out)) | (dsimp only; exact Nat.ne_of_lt (Nat.lt_of_lt_of_le (by have := World.block_lt_of_cell? _ _ hw403_5; first | rwa [add_block] at this | exact this) GW398.out))) _).trans (hHeld.2.2.2.2.2.1)))))))))))), ((cell_far (p := ⟨gb398, _, none⟩) (by first | exact Nat.ne_of_lt (Nat.lt_of_lt_of_le (by have := World.block_lt_of_cell? _ _ hw403_6; first | rwa [add_block] at this | exact this) GW398.out) | (rw [add_block]; exact Nat.ne_of_lt (Nat.lt_of_lt_of_le (by have := World.block_lt_of_cell? _ _ hw403_6; first | rwa [add_block] at this | exact this) GW398.out)) | (show (Addr.add _ _).block ≠ _; rw [add_block]; exact Nat.ne_of_lt (Nat.lt_of_lt_of_le (by have := World.block_lt_of_cell? _ _ hw403_6; first | rwa [add_block] at this | exact this) GW398.out)) | (dsimp only; exact Nat.ne_of_lt (Nat.lt_of_lt_of_le (by have := World.block_lt_of_cell? _ _ hw403_6; first | rwa [add_block] at this | exact this) GW398.out))) _).trans (((cell_far (p := ⟨gb398, _, none⟩) (by first | exact Nat.ne_of_lt (Nat.lt_of_lt_of_le (by have := World.block_lt_of_cell? _ _ hw403_6; first | rwa [add_block] at this | exact this) GW398.out) | (rw [add_block]; exact Nat.ne_of_lt (Nat.lt_of_lt_of_le (by have := World.block_lt_of_cell? _ _ hw403_6; first | rwa [add_block] at this | exact this) GW398.out)) | (show (Addr.add _ _).block ≠ _; rw [add_block]; exact Nat.ne_of_lt (Nat.lt_of_lt_of_le (by have := World.block_lt_of_cell? _ _ hw403_6; first | rwa [add_block] at this | exact this) GW398.out)) | (dsimp only; exact Nat.ne_of_lt (Nat.lt_of_lt_of_le (by have := World.block_lt_of_cell? _ _ hw403_6; first | rwa [add_block] at this | exact this) GW398.out))) _).trans (((cell_far (p := ⟨gb398, _, none⟩) (by first | exact Nat.ne_of_lt (Nat.lt_of_lt_of_le (by have := World.block_lt_of_cell? _ _ hw403_6; first | rwa [add_block] at this | exact this) GW398.out) | (rw [add_block]; exact Nat.ne_of_lt (Nat.lt_of_lt_of_le (by have := World.block_lt_of_cell? _ _ hw403_6; first | rwa [add_block] at this | exact this) GW398.out)) | (show (Addr.add _ _).block ≠ _; rw [add_block]; exact Nat.ne_of_lt (Nat.lt_of_lt_of_le (by have := World.block_lt_of_cell? _ _ hw403_6; first | rwa [add_block] at this | exact this) GW398.out)) | (dsimp only; exact Nat.ne_of_lt (Nat.lt_of_lt_of_le (by have := World.block_lt_of_cell? _ _ hw403_6; first | rwa [add_block] at this | exact this) GW398.out))) _).trans (((cell_far (p := ⟨gb398, _, none⟩) (by first | exact Nat.ne_of_lt (Nat.lt_of_lt_of_le (by have := World.block_lt_of_cell? _ _ hw403_6; first | rwa [add_block] at this | exact this) GW398.out) | (rw [add_block]; exact Nat.ne_of_lt (Nat.lt_of_lt_of_le (by have := World.block_lt_of_cell? _ _ hw403_6; first | rwa [add_block] at this | exact this) GW398.out)) | (show (Addr.add _ _).block ≠ _; rw [add_block]; exact Nat.ne_of_lt (Nat.lt_of_lt_of_le (by have := World.block_lt_of_cell? _ _ hw403_6; first | rwa [add_block] at this | exact this) GW398.out)) | (dsimp only; exact Nat.ne_of_lt (Nat.lt_of_lt_of_le (by have := World.block_lt_of_cell? _ _ hw403_6; first | rwa [add_block] at this | exact this) GW398.out))) _).trans (((cell_far (p := ⟨gb398, _, none⟩) (by first | exact Nat.ne_of_lt (Nat.lt_of_lt_of_le (by have := World.block_lt_of_cell? _ _ hw403_6; first | rwa [add_block] at this | exact this) GW398.out) | (rw [add_block]; exact Nat.ne_of_lt (Nat.lt_of_lt_of_le (by have := World.block_lt_of_cell? _ _ hw403_6; first | rwa [add_block] at this | exact this) GW398.out)) | (show (Addr.add _ _).block ≠ _; rw [add_block]; exact Nat.ne_of_lt (Nat.lt_of_lt_of_le (by have := World.block_lt_of_cell? _ _ hw403_6; first | rwa [add_block] at this | exact this) GW398.out)) | (dsimp only; exact Nat.ne_of_lt (Nat.lt_of_lt_of_le (by have := World.block_lt_of_cell? _ _ hw403_6; first | rwa [add_block] at this | exact this) GW398.out))) _).trans (((cell_far (p := ⟨gb398, _, none⟩) (by first | exact Nat.ne_of_lt (Nat.lt_of_lt_of_le (by have := World.block_lt_of_cell? _ _ hw403_6; first | rwa [add_block] at this | exact this) GW398.out) | (rw [add_block]; exact Nat.ne_of_lt (Nat.lt_of_lt_of_le (by have := World.block_lt_of_cell? _ _ hw403_6; first | rwa [add_block] at this | exact this) GW398.out)) | (show (Addr.add _ _).block ≠ _; rw [add_block]; exact Nat.ne_of_lt (Nat.lt_of_lt_of_le (by have := World.block_lt_of_cell? _ _ hw403_6; first | rwa [add_block] at this | exact this) GW398.out)) | (dsimp only; exact Nat.ne_of_lt (Nat.lt_of_lt_of_le (by have := World.block_lt_of_cell? _ _ hw403_6; first | rwa [add_block] at this | exact this) GW398.out))) _).trans (hHeld.2.2.2.2.2.2.1)))))))))))), ((cell_far (p := ⟨gb398, _, none⟩) (by first | exact Nat.ne_of_lt (Nat.lt_of_lt_of_le (by have := World.block_lt_of_cell? _ _ hw403_7; first | rwa [add_block] at this | exact this) GW398.out) | (rw [add_block]; exact Nat.ne_of_lt (Nat.lt_of_lt_of_le (by have := World.block_lt_of_cell? _ _ hw403_7; first | rwa [add_block] at this | exact this) GW398.out)) | (show (Addr.add _ _).block ≠ _; rw [add_block]; exact Nat.ne_of_lt (Nat.lt_of_lt_of_le (by have := World.block_lt_of_cell? _ _ hw403_7; first | rwa [add_block] at this | exact this) GW398.out)) | (dsimp only; exact Nat.ne_of_lt (Nat.lt_of_lt_of_le (by have := World.block_lt_of_cell? _ _ hw403_7; first | rwa [add_block] at this | exact this) GW398.out))) _).trans (((cell_far (p := ⟨gb398, _, none⟩) (by first | exact Nat.ne_of_lt (Nat.lt_of_lt_of_le (by have := World.block_lt_of_cell? _ _ hw403_7; first | rwa [add_block] at this | exact this) GW398.out) | (rw [add_block]; exact Nat.ne_of_lt (Nat.lt_of_lt_of_le (by have := World.block_lt_of_cell? _ _ hw403_7; first | rwa [add_block] at this | exact this) GW398.out)) | (show (Addr.add _ _).block ≠ _; rw [add_block]; exact Nat.ne_of_lt (Nat.lt_of_lt_of_le (by have := World.block_lt_of_cell? _ _ hw403_7; first | rwa [add_block] at this | exact this) GW398.out)) | (dsimp only; exact Nat.ne_of_lt (Nat.lt_of_lt_of_le (by have := World.block_lt_of_cell? _ _ hw403_7; first | rwa [add_block] at this | exact this) GW398.out))) _).trans (((cell_far (p := ⟨gb398, _, none⟩) (by first | exact Nat.ne_of_lt (Nat.lt_of_lt_of_le (by have := World.block_lt_of_cell? _ _ hw403_7; first | rwa [add_block] at this | exact this) GW398.out) | (rw [add_block]; exact Nat.ne_of_lt (Nat.lt_of_lt_of_le (by have := World.block_lt_of_cell? _ _ hw403_7; first | rwa [add_block] at this | exact this) GW398.out)) | (show (Addr.add _ _).block ≠ _; rw [add_block]; exact Nat.ne_of_lt (Nat.lt_of_lt_of_le (by have := World.block_lt_of_cell? _ _ hw403_7; first | rwa [add_block] at this | exact this) GW398.out)) | (dsimp only; exact Nat.ne_of_lt (Nat.lt_of_lt_of_le (by have := World.block_lt_of_cell? _ _ hw403_7; first | rwa [add_block] at this | exact this) GW398.out))) _).trans (((cell_far (p := ⟨gb398, _, none⟩) (by first | exact Nat.ne_of_lt (Nat.lt_of_lt_of_le (by have := World.block_lt_of_cell? _ _ hw403_7; first | rwa [add_block] at this | exact this) GW398.out) | (rw [add_block]; exact Nat.ne_of_lt (Nat.lt_of_lt_of_le (by have := World.block_lt_of_cell? _ _ hw403_7; first | rwa [add_block] at this | exact this) GW398.out)) | (show (Addr.add _ _).block ≠ _; rw [add_block]; exact Nat.ne_of_lt (Nat.lt_of_lt_of_le (by have := World.block_lt_of_cell? _ _ hw403_7; first | rwa [add_block] at this | exact this) GW398.out)) | (dsimp only; exact Nat.ne_of_lt (Nat.lt_of_lt_of_le (by have := World.block_lt_of_cell? _ _ hw403_7; first | rwa [add_block] at this | exact this) GW398.out))) _).trans (((cell_far (p := ⟨gb398, _, none⟩) (by first | exact Nat.ne_of_lt (Nat.lt_of_lt_of_le (by have := World.block_lt_of_cell? _ _ hw403_7; first | rwa [add_block] at this | exact this) GW398.out) | (rw [add_block]; exact Nat.ne_of_lt (Nat.lt_of_lt_of_le (by have := World.block_lt_of_cell? _ _ hw403_7; first | rwa [add_block] at this | exact this) GW398.out)) | (show (Addr.add _ _).block ≠ _; rw [add_block]; exact Nat.ne_of_lt (Nat.lt_of_lt_of_le (by have := World.block_lt_of_cell? _ _ hw403_7; first | rwa [add_block] at this | exact this) GW398.out)) | (dsimp only; exact Nat.ne_of_lt (Nat.lt_of_lt_of_le (by have := World.block_lt_of_cell? _ _ hw403_7; first | rwa [add_block] at this | exact this) GW398.out))) _).trans (((cell_far (p := ⟨gb398, _, none⟩) (by first | exact Nat.ne_of_lt (Nat.lt_of_lt_of_le (by have := World.block_lt_of_cell? _ _ hw403_7; first | rwa [add_block] at this | exact this) GW398.out) | (rw [add_block]; exact Nat.ne_of_lt (Nat.lt_of_lt_of_le (by have := World.block_lt_of_cell? _ _ hw403_7; first | rwa [add_block] at this | exact this) GW398.out)) | (show (Addr.add _ _).block ≠ _; rw [add_block]; exact Nat.ne_of_lt (Nat.lt_of_lt_of_le (by have := World.block_lt_of_cell? _ _ hw403_7; first | rwa [add_block] at this | exact this) GW398.out)) | (dsimp only; exact Nat.ne_of_lt (Nat.lt_of_lt_of_le (by have := World.block_lt_of_cell? _ _ hw403_7; first | rwa [add_block] at this | exact this) GW398.out))) _).trans (hHeld.2.2.2.2.2.2.2))))))))))))⟩ (fun hHeld => ?_)
              clear hK K
              refine done_ (by kernel_rfl) ?_
              try go_wp2
              refine bodyPost_ret (results_tc rfl _ _ gb398 72 #[.int .i64 ((rd_T74 l0 t399).f2.f0), .int .i64 ((rd_T74 l0 t399).f2.f1), .int .i64 ((rd_T74 l0 t399).f2.f2), .bool ((rd_T74 l0 t399).f2.f3), .string ((rd_T74 l0 t399).f2.f4), .int .i64 ((rd_T74 l0 t399).f2.f5)] (0, 0) _ rfl (by (with_reducible repeat (first | refine blk_drewN ?_ _ | refine blk_drew ?_ | refine blk_alloc ?_ _)); refine blk_put (cs := #[.int .i64 ((rd_T74 l0 t399).f2.f0), .int .i64 ((rd_T74 l0 t399).f2.f1), .int .i64 ((rd_T74 l0 t399).f2.f2), .bool ((rd_T74 l0 t399).f2.f3), .string ((rd_T74 l0 t399).f2.f4), .int .i64 0]) ?_ 5 _ rfl; (with_reducible repeat (first | refine blk_drewN ?_ _ | refine blk_drew ?_ | refine blk_alloc ?_ _)); refine blk_put (cs := #[.int .i64 ((rd_T74 l0 t399).f2.f0), .int .i64 ((rd_T74 l0 t399).f2.f1), .int .i64 ((rd_T74 l0 t399).f2.f2), .bool ((rd_T74 l0 t399).f2.f3), .string (⟨#[]⟩ : ByteArray), .int .i64 0]) ?_ 4 _ rfl; (with_reducible repeat (first | refine blk_drewN ?_ _ | refine blk_drew ?_ | refine blk_alloc ?_ _)); refine blk_put (cs := #[.int .i64 ((rd_T74 l0 t399).f2.f0), .int .i64 ((rd_T74 l0 t399).f2.f1), .int .i64 ((rd_T74 l0 t399).f2.f2), .bool false, .string (⟨#[]⟩ : ByteArray), .int .i64 0]) ?_ 3 _ rfl; (with_reducible repeat (first | refine blk_drewN ?_ _ | refine blk_drew ?_ | refine blk_alloc ?_ _)); refine blk_put (cs := #[.int .i64 ((rd_T74 l0 t399).f2.f0), .int .i64 ((rd_T74 l0 t399).f2.f1), .int .i64 0, .bool false, .string (⟨#[]⟩ : ByteArray), .int .i64 0]) ?_ 2 _ rfl; (with_reducible repeat (first | refine blk_drewN ?_ _ | refine blk_drew ?_ | refine blk_alloc ?_ _)); refine blk_put (cs := #[.int .i64 ((rd_T74 l0 t399).f2.f0), .int .i64 0, .int .i64 0, .bool false, .string (⟨#[]⟩ : ByteArray), .int .i64 0]) ?_ 1 _ rfl; (with_reducible repeat (first | refine blk_drewN ?_ _ | refine blk_drew ?_ | refine blk_alloc ?_ _)); refine blk_put (cs := #[.int .i64 0, .int .i64 0, .int .i64 0, .bool false, .string (⟨#[]⟩ : ByteArray), .int .i64 0]) ?_ 0 _ rfl; (with_reducible repeat (first | refine blk_drewN ?_ _ | refine blk_drew ?_ | refine blk_alloc ?_ _)); exact BK398.out) Tryd.underlying72 rfl (by kernel_rfl)) rfl ?_
              exact ⟨by first | rfl | (simp [errW_none, errW_some] <;> rfl) | (simp [*, errW_none, errW_some] <;> rfl), by repeat (first | (with_reducible first | exact HB.out | apply below_alloc | apply pw_below_drewN | apply below_drew1 | refine below_set ?_ GE398.out) | exact HB.out)⟩
            · rw [if_neg c15] at H
              have c15b0 : (a2 == ((rd_T74 l0 t399).f1)) = false := beq_eq_false_iff_ne.mpr c15
              have c15b1 : (a2 != ((rd_T74 l0 t399).f1)) = true := bne_iff_ne.mpr c15
              simp only [Option.some.injEq, Prod.mk.injEq] at H
              obtain ⟨rfl, rfl, rfl, rfl, rfl, rfl, rfl⟩ := H
              have p402 : 0 ≤ (t399 : Int) := of_decide_eq_true (by first | (with_reducible assumption) | assumption)
              have q402 : t399 < (l0.length : Int) := of_decide_eq_true (by first | (with_reducible assumption) | assumption)
              obtain ⟨ad402, e402, hx402_0, hx402_1, hx402_2, hx402_3, hx402_4, hx402_5, hx402_6, hx402_7⟩ := at_T74 HR0.out t399 p402 q402
              cases e402
              replace hx402_0 := (HB.out.cell (World.block_lt_of_cell? w _ hx402_0)).trans hx402_0
              replace hx402_1 := (HB.out.cell (World.block_lt_of_cell? w _ hx402_1)).trans hx402_1
              replace hx402_2 := (HB.out.cell (World.block_lt_of_cell? w _ hx402_2)).trans hx402_2
              replace hx402_3 := (HB.out.cell (World.block_lt_of_cell? w _ hx402_3)).trans hx402_3
              replace hx402_4 := (HB.out.cell (World.block_lt_of_cell? w _ hx402_4)).trans hx402_4
              replace hx402_5 := (HB.out.cell (World.block_lt_of_cell? w _ hx402_5)).trans hx402_5
              replace hx402_6 := (HB.out.cell (World.block_lt_of_cell? w _ hx402_6)).trans hx402_6
              replace hx402_7 := (HB.out.cell (World.block_lt_of_cell? w _ hx402_7)).trans hx402_7
              replace p402 := eq_true p402
              replace q402 := eq_true q402
              have hcz23_0 : wc.cell? ⟨gb398, 0, none⟩ = some (.int .i64 0) := (blk_cell BK398.out 0).trans rfl
              have hcz23_1 : wc.cell? ⟨gb398, 1, none⟩ = some (.int .i64 0) := (blk_cell BK398.out 1).trans rfl
              have hcz23_2 : wc.cell? ⟨gb398, 2, none⟩ = some (.int .i64 0) := (blk_cell BK398.out 2).trans rfl
              have hcz23_3 : wc.cell? ⟨gb398, 3, none⟩ = some (.bool false) := (blk_cell BK398.out 3).trans rfl
              have hcz23_4 : wc.cell? ⟨gb398, 4, none⟩ = some (.string (⟨#[]⟩ : ByteArray)) := (blk_cell BK398.out 4).trans rfl
              have hcz23_5 : wc.cell? ⟨gb398, 5, none⟩ = some (.int .i64 0) := (blk_cell BK398.out 5).trans rfl
              have hfz23_0 := blk_frozen BK398.out 0
              have hfz23_1 := blk_frozen BK398.out 1
              have hfz23_2 := blk_frozen BK398.out 2
              have hfz23_3 := blk_frozen BK398.out 3
              have hfz23_4 := blk_frozen BK398.out 4
              have hfz23_5 := blk_frozen BK398.out 5
              go_wp2
              refine bodyPost_ret (results_tc rfl _ _ gb398 72 #[.int .i64 0, .int .i64 0, .int .i64 0, .bool false, .string (⟨#[]⟩ : ByteArray), .int .i64 0] (0, 0) _ rfl (by (with_reducible repeat (first | refine blk_drewN ?_ _ | refine blk_drew ?_ | refine blk_alloc ?_ _)); refine blk_put (cs := #[.int .i64 0, .int .i64 0, .int .i64 0, .bool false, .string (⟨#[]⟩ : ByteArray), .int .i64 0]) ?_ 5 _ rfl; (with_reducible repeat (first | refine blk_drewN ?_ _ | refine blk_drew ?_ | refine blk_alloc ?_ _)); refine blk_put (cs := #[.int .i64 0, .int .i64 0, .int .i64 0, .bool false, .string (⟨#[]⟩ : ByteArray), .int .i64 0]) ?_ 4 _ rfl; (with_reducible repeat (first | refine blk_drewN ?_ _ | refine blk_drew ?_ | refine blk_alloc ?_ _)); refine blk_put (cs := #[.int .i64 0, .int .i64 0, .int .i64 0, .bool false, .string (⟨#[]⟩ : ByteArray), .int .i64 0]) ?_ 3 _ rfl; (with_reducible repeat (first | refine blk_drewN ?_ _ | refine blk_drew ?_ | refine blk_alloc ?_ _)); refine blk_put (cs := #[.int .i64 0, .int .i64 0, .int .i64 0, .bool false, .string (⟨#[]⟩ : ByteArray), .int .i64 0]) ?_ 2 _ rfl; (with_reducible repeat (first | refine blk_drewN ?_ _ | refine blk_drew ?_ | refine blk_alloc ?_ _)); refine blk_put (cs := #[.int .i64 0, .int .i64 0, .int .i64 0, .bool false, .string (⟨#[]⟩ : ByteArray), .int .i64 0]) ?_ 1 _ rfl; (with_reducible repeat (first | refine blk_drewN ?_ _ | refine blk_drew ?_ | refine blk_alloc ?_ _)); refine blk_put (cs := #[.int .i64 0, .int .i64 0, .int .i64 0, .bool false, .string (⟨#[]⟩ : ByteArray), .int .i64 0]) ?_ 0 _ rfl; (with_reducible repeat (first | refine blk_drewN ?_ _ | refine blk_drew ?_ | refine blk_alloc ?_ _)); exact BK398.out) Tryd.underlying72 rfl (by kernel_rfl)) rfl ?_
              exact ⟨by first | rfl | (simp [errW_none, errW_some] <;> rfl) | (simp [*, errW_none, errW_some] <;> rfl), by repeat (first | (with_reducible first | exact HB.out | apply below_alloc | apply pw_below_drewN | apply below_drew1 | refine below_set ?_ GE398.out) | exact HB.out)⟩
          · rw [if_neg c14] at H
            exact absurd H (by simp)
        · rw [if_neg c13] at H
          exact absurd H (by simp)

end Go.Proofs.YtalpmbeddldfoaaDoor.PA
